/-
  FROM A LAW's EVALUATION TO THE GIVEN ROW: arguments opened by their types, listed variables read, and the row's post.
-/
import Derived.Test.YtggiamcgkiaicaaDoorVEm
import Derived.ProofKit
import Derived.ChangeOld
import Derived.Carry
import Derived.JoinedOf
import Derived.LaidLaws
namespace Go.VE
open Go.RowKit (Below)
open Go.ChangeShapes Go.WideShapes
set_option linter.unusedSimpArgs false
set_option linter.unusedVariables false

/-! ### Arguments, by their types -/
inductive Leaf where
  | int (k : IntKind) | bool | str | slice (ks : List (Option IntKind))

def flatKs : List Leaf → Option (List (Option IntKind))
  | [] => some []
  | .int k :: r => match flatKs r with
    | some l => some (some k :: l)
    | none => none
  | .bool :: r => match flatKs r with
    | some l => some (none :: l)
    | none => none
  | _ :: _ => none

def repLv (l : List Leaf) : Nat → List Leaf
  | 0 => []
  | n + 1 => l ++ repLv l n

/-- The leaves of a struct's fields, which lie side by side from 'o' on. -/
def leavesFs (P : Program) (rec : TypeId → Option (List Leaf)) : List Field → Nat → Option (List Leaf)
  | [], _ => some []
  | f :: r, o => bif Nat.beq f.offset o then match rec f.type with
      | some l => bif Nat.beq (P.cellsOf f.type) l.length then match leavesFs P rec r (Nat.add o l.length) with
          | some m => some (l ++ m)
          | none => none
        else none
      | none => none
    else none

def leavesOf (P : Program) : Nat → TypeId → Option (List Leaf)
  | 0, _ => none
  | d + 1, t => match P.underlying t with
    | some (.int k) => some [.int k]
    | some .bool => some [.bool]
    | some .string => some [.str]
    | some (.slice e) => match leavesOf P d e with
      | some l => bif Nat.beq (P.cellsOf e) l.length then match flatKs l with
          | some ks => some [.slice ks]
          | none => none
        else none
      | none => none
    | some (.struct fs) => match leavesFs P (leavesOf P d) fs.toList 0 with
      | some l => bif Nat.beq (P.cellsOf t) l.length then some l else none
      | none => none
    | some (.array n e) => match leavesOf P d e with
      | some l => bif Nat.beq (P.cellsOf e) l.length then bif Nat.beq (P.cellsOf t) (Nat.mul n l.length) then some (repLv l n) else none else none
      | none => none
    | _ => none

/-- Numbers in their kinds' ranges. -/
def inK : List (Option IntKind) → (Nat → Int) → Nat → Prop
  | [], _, _ => True
  | some k :: r, p, i => k.has (p i) ∧ inK r p (Nat.succ i)
  | none :: r, p, i => inK r p (Nat.succ i)

def nsLeaf : Leaf → Nat
  | .slice _ => 1
  | _ => 0
def nsLeaves : List Leaf → Nat
  | [] => 0
  | x :: r => Nat.add (nsLeaf x) (nsLeaves r)

/-- 'i': the number that the next slice bears. -/
def FitC (i : Nat) : Leaf → AV → Prop
  | .int k, a => ∃ n, a = .int k n ∧ k.has n
  | .bool, a => ∃ b, a = .bool b
  | .str, a => ∃ s : ByteArray, a = .str s ∧ (s.size : Int) ≤ IntKind.i64.max
  | .slice ks, a => ∃ len p, a = .xslice i len ks p ∧ (len : Int) ≤ IntKind.i64.max ∧ ∀ j, j < len → inK ks (p j) 0

def FitL : Nat → List Leaf → List AV → Prop
  | _, [], l => l = []
  | i, x :: r, l => ∃ a l', l = a :: l' ∧ FitC i x a ∧ FitL (Nat.add i (nsLeaf x)) r l'

structure Fit where
  agg : Bool
  leaves : List Leaf

def fitOf (P : Program) (t : TypeId) : Option Fit :=
  match P.underlying t with
  | some (.struct _) | some (.array _ _) => match leavesOf P 20 t with
    | some ls => some ⟨true, ls⟩
    | none => none
  | _ => match leavesOf P 20 t with
    | some ls => some ⟨false, ls⟩
    | none => none

def FitV (i : Nat) (f : Fit) (a : AV) : Prop :=
  match f.agg with
  | true => ∃ cs, a = .agg cs ∧ FitL i f.leaves cs
  | false => FitL i f.leaves [a]

def FitA : Nat → List Fit → List AV → Prop
  | _, [], l => l = []
  | i, f :: r, l => ∃ a l', l = a :: l' ∧ FitV i f a ∧ FitA (Nat.add i (nsLeaves f.leaves)) r l'

def nsFits : List Fit → Nat
  | [] => 0
  | f :: r => Nat.add (nsLeaves f.leaves) (nsFits r)

section
variable {P : Program} {w : World} {r : Reach} {base : Nat}

def KV : Option IntKind → Value → Prop
  | some k, v => ∃ n, v = .int k n ∧ k.has n
  | none, v => ∃ b, v = .bool b

def KsV : List (Option IntKind) → List Value → Prop
  | [], l => l = []
  | o :: ks, l => ∃ v l', l = v :: l' ∧ KV o v ∧ KsV ks l'

/-- A value at a leaf, as the row's reading found it. -/
def LvV (w : World) : Leaf → Value → Prop
  | .int k, v => ∃ n, v = .int k n ∧ k.has n
  | .bool, v => ∃ b, v = .bool b
  | .str, v => ∃ s : ByteArray, v = .string s ∧ (s.size : Int) ≤ IntKind.i64.max
  | .slice ks, v => v = .slice none 0 0 ∨ ∃ a len cap, v = .slice (some a) len cap ∧ len ≤ cap ∧ (len : Int) ≤ IntKind.i64.max ∧
      ∀ i, i < len → ∃ cs, w.cells? 0 (a.add (i * ks.length)) ks.length = some cs ∧ KsV ks cs

def LvsV (w : World) : List Leaf → List Value → Prop
  | [], l => l = []
  | x :: r, l => ∃ v l', l = v :: l' ∧ LvV w x v ∧ LvsV w r l'

theorem LvsV.append : ∀ {a b : List Leaf} {u v : List Value}, LvsV w a u → LvsV w b v → LvsV w (a ++ b) (u ++ v)
  | [], _, _, _, h, h' => by cases h; exact h'
  | _ :: _, _, _, _, ⟨x, l, e, h1, h2⟩, h' => by subst e; exact ⟨x, _, rfl, h1, LvsV.append h2 h'⟩

theorem LvsV.ks : ∀ {ls : List Leaf} {ks : List (Option IntKind)} {cs : List Value}, flatKs ls = some ks → LvsV w ls cs → KsV ks cs ∧ ls.length = ks.length
  | [], ks, cs, h, hv => by simp [flatKs] at h; subst h; exact ⟨hv, rfl⟩
  | x :: r, ks, cs, h, ⟨v, l', e, h1, h2⟩ => by
    subst e
    cases x <;> simp only [flatKs] at h <;> try (cases h; done)
    all_goals
      cases hr : flatKs r with
      | none => simp [hr] at h
      | some l =>
        simp only [hr] at h
        obtain rfl := Option.some.inj h
        obtain ⟨h3, h4⟩ := LvsV.ks hr h2
        exact ⟨⟨v, l', rfl, h1, h3⟩, by simp [h4]⟩

theorem wf_has {k : IntKind} {n : Int} (h : (Lit.int k n).wf = true) : k.has n := by
  simpa [Lit.wf, IntKind.has] using h

theorem mapM_some_all {α β : Type} {f : α → Option β} : ∀ {l : List α} {ys : List β}, l.mapM f = some ys → ∀ x ∈ l, ∃ y, f x = some y
  | [], _, _, x, hx => by simp at hx
  | a :: l, ys, h, x, hx => by
    simp only [List.mapM_cons, Option.bind_eq_bind, Option.bind_eq_some_iff, Option.pure_def] at h
    obtain ⟨b, hb, bs, hbs, _⟩ := h
    rcases List.mem_cons.1 hx with rfl | hx
    · exact ⟨b, hb⟩
    · exact mapM_some_all hbs x hx

section
variable {H : Type} {enc : TypeId × Value → H} {sp : Nat → Bool} {hd : Bool}

theorem leavesFs_V {rec : TypeId → Option (List Leaf)} (hrec : ∀ t ls, rec t = some ls → ∀ fuel cs d ps, DataW.trod enc P w 0 sp hd fuel t cs = some (d, ps) → LvsV w ls cs) {fuel : Nat} {cs : List Value} :
    ∀ {fs : List Field} {o : Nat} {ls : List Leaf}, leavesFs P rec fs o = some ls → (∀ f ∈ fs, ∃ x, DataW.trod enc P w 0 sp hd fuel f.type ((cs.drop f.offset).take (P.cellsOf f.type)) = some x) → LvsV w ls ((cs.drop o).take ls.length)
  | [], o, ls, h, _ => by
    simp [leavesFs] at h
    subst h
    simp [LvsV]
  | f :: fs, o, ls, h, ht => by
    simp only [leavesFs] at h
    obtain ⟨h1, h2⟩ := bif_some h
    have h1 : f.offset = o := Nat.eq_of_beq_eq_true h1
    cases hr : rec f.type with
    | none => simp [hr] at h2
    | some l =>
      simp only [hr] at h2
      obtain ⟨h3, h4⟩ := bif_some h2
      have h3 : P.cellsOf f.type = l.length := Nat.eq_of_beq_eq_true h3
      cases hm : leavesFs P rec fs (Nat.add o l.length) with
      | none => simp only [hm] at h4; cases h4
      | some m =>
        simp only [hm] at h4
        obtain rfl := Option.some.inj h4
        obtain ⟨⟨d, ps⟩, hx⟩ := ht f (by simp)
        have a1 := hrec _ _ hr _ _ _ _ hx
        have a2 := leavesFs_V hrec hm (fun g hg => ht g (by simp [hg]))
        rw [h1, h3] at a1
        have := a1.append a2
        rw [List.length_append, List.take_add, List.drop_drop]
        exact this

theorem repLv_V {cs : List Value} {l : List Leaf} : ∀ (n o : Nat), (∀ j, j < n → LvsV w l ((cs.drop (o + j * l.length)).take l.length)) → LvsV w (repLv l n) ((cs.drop o).take (n * l.length))
  | 0, o, _ => by simp [repLv, LvsV]
  | n + 1, o, h => by
    have a1 := h 0 (by omega)
    rw [Nat.zero_mul, Nat.add_zero] at a1
    have a2 := repLv_V n (o + l.length) (fun j hj => by
      have := h (j + 1) (by omega)
      rwa [show o + (j + 1) * l.length = o + l.length + j * l.length by rw [Nat.succ_mul]; omega] at this)
    have := a1.append a2
    rw [Nat.succ_mul, Nat.add_comm (n * l.length), List.take_add, List.drop_drop]
    exact this

theorem trod_leaves : ∀ (D : Nat) (t : TypeId) (ls : List Leaf), leavesOf P D t = some ls → ∀ fuel cs d ps, DataW.trod enc P w 0 sp hd fuel t cs = some (d, ps) → LvsV w ls cs
  | 0, _, _, h, _, _, _, _, _ => by simp [leavesOf] at h
  | D + 1, t, ls, h, 0, cs, d, ps, ht => by simp [DataW.trod] at ht
  | D + 1, t, ls, h, fuel + 1, cs, d, ps, ht => by
    simp only [leavesOf] at h
    cases hu : P.underlying t with
    | none => simp [hu] at h
    | some td =>
      simp only [DataW.trod, hu] at ht
      simp only [hu] at h
      cases td with
      | int k =>
        obtain rfl := Option.some.inj h
        split at ht <;> try (cases ht; done)
        all_goals (rename_i h1; try (cases h1; done))
        cases h1
        split at ht <;> try (cases ht; done)
        rename_i hk
        obtain ⟨rfl, hw⟩ := hk
        exact ⟨_, _, rfl, ⟨_, rfl, wf_has hw⟩, rfl⟩
      | bool =>
        obtain rfl := Option.some.inj h
        split at ht <;> try (cases ht; done)
        all_goals (rename_i h1; try (cases h1; done))
        exact ⟨_, _, rfl, ⟨_, rfl⟩, rfl⟩
      | string =>
        obtain rfl := Option.some.inj h
        split at ht <;> try (cases ht; done)
        all_goals (rename_i h1; try (cases h1; done))
        split at ht <;> try (cases ht; done)
        rename_i hs
        exact ⟨_, _, rfl, ⟨_, rfl, by simp [maxLen] at hs ⊢; first | exact hs | omega⟩, rfl⟩
      | slice e =>
        cases he : leavesOf P D e with
        | none => simp [he] at h
        | some l =>
          simp only [he] at h
          obtain ⟨h1, h2⟩ := bif_some h
          have h1 : P.cellsOf e = l.length := Nat.eq_of_beq_eq_true h1
          cases hk : flatKs l with
          | none => simp [hk] at h2
          | some ks =>
            simp only [hk] at h2
            obtain rfl := Option.some.inj h2
            split at ht <;> try (cases ht; done)
            all_goals (rename_i h3; try (cases h3; done))
            · exact ⟨_, _, rfl, .inl rfl, rfl⟩
            · cases h3
              split at ht <;> try (cases ht; done)
              rename_i a len cap hc
              obtain ⟨_, hlc, hcm⟩ := hc
              simp only [Option.bind_eq_some_iff] at ht
              obtain ⟨es, hes, _⟩ := ht
              have hkl : l.length = ks.length := by
                clear hes
                have : ∀ {l : List Leaf} {ks : List (Option IntKind)}, flatKs l = some ks → l.length = ks.length := by
                  intro l
                  induction l with
                  | nil => intro ks h; simp [flatKs] at h; subst h; rfl
                  | cons x l ih =>
                    intro ks h
                    cases x <;> simp only [flatKs] at h <;> try (cases h; done)
                    all_goals
                      cases hr : flatKs l with
                      | none => simp [hr] at h
                      | some m =>
                        simp only [hr] at h
                        obtain rfl := Option.some.inj h
                        simp [ih hr]
                exact this hk
              refine ⟨_, _, rfl, .inr ⟨a, len, cap, rfl, hlc, by simp [maxLen] at hcm ⊢; omega, fun i hi => ?_⟩, rfl⟩
              obtain ⟨y, hy⟩ := mapM_some_all hes i (List.mem_range.2 hi)
              obtain ⟨cs', hc1, hc2⟩ := Option.bind_eq_some_iff.1 hy
              rw [h1, hkl] at hc1
              exact ⟨cs', hc1, (LvsV.ks hk (trod_leaves D e l he fuel cs' y.1 y.2 hc2)).1⟩
      | struct fs =>
        simp only at h ht
        cases hl : leavesFs P (leavesOf P D) fs.toList 0 with
        | none => simp [hl] at h
        | some l =>
          simp only [hl] at h
          obtain ⟨h1, h2⟩ := bif_some h
          have h1 : P.cellsOf t = l.length := Nat.eq_of_beq_eq_true h1
          obtain rfl := Option.some.inj h2
          split at ht
          · rename_i hlen
            simp only [Option.map_eq_some_iff] at ht
            obtain ⟨xs, hxs, _⟩ := ht
            have := leavesFs_V (cs := cs) (fuel := fuel) (fun t ls h fuel cs d ps => trod_leaves D t ls h fuel cs d ps) hl (fun f hf => mapM_some_all hxs f hf)
            rw [List.drop_zero, List.take_of_length_le (by omega)] at this
            exact this
          · cases ht
      | array n e =>
        simp only at h ht
        cases hl : leavesOf P D e with
        | none => simp [hl] at h
        | some l =>
          simp only [hl] at h
          obtain ⟨h1, h2⟩ := bif_some h
          have h1 : P.cellsOf e = l.length := Nat.eq_of_beq_eq_true h1
          obtain ⟨h3, h4⟩ := bif_some h2
          have h3 : P.cellsOf t = n * l.length := Nat.eq_of_beq_eq_true h3
          obtain rfl := Option.some.inj h4
          split at ht
          · rename_i hlen
            simp only [Option.map_eq_some_iff] at ht
            obtain ⟨xs, hxs, _⟩ := ht
            have := repLv_V (w := w) (cs := cs) (l := l) n 0 (fun j hj => by
              obtain ⟨y, hy⟩ := mapM_some_all hxs j (List.mem_range.2 hj)
              have := trod_leaves D e l hl fuel _ y.1 y.2 hy
              rw [h1] at this
              rwa [Nat.zero_add])
            rw [List.drop_zero, List.take_of_length_le (by omega)] at this
            exact this
          · cases ht
      | _ => simp at h
end

/-! ### The slices' places -/
def SpotV (w : World) (v : Value) : Prop := ∀ a len cap, v = .slice (some a) len cap → a.spot = none ∧ a.block < w.heap.size

theorem okCell_spot {u : TypeId} {v : Value} (h : Cell.okWide P w r base u v) : SpotV w v := by
  rintro a len cap rfl
  have key : Cell.ok P w r base u (.slice (some a) len cap) → a.spot = none ∧ a.block < w.heap.size := by
    intro h
    unfold Cell.ok at h
    split at h <;> try (rename_i h1; cases h1; done)
    all_goals (try (rename_i h1 _; cases h1; done))
    · rename_i h1
      cases h1
      obtain ⟨_, _, _, h2, row, cells, h3, _⟩ := h
      refine ⟨h2, ?_⟩
      unfold World.shape? at h3
      cases hh : w.heap[a.block]? with
      | none => simp [hh] at h3
      | some o => exact (Array.getElem?_eq_some_iff.1 hh).1
    · exact h.elim
  unfold Cell.okWide at h
  split at h <;> try (rename_i h1; cases h1; done)
  exact key h

theorem okWide_spots {t : TypeId} {v : Value} (h : Value.okWide P w r base t v) : ∀ x ∈ v.cells.toList, SpotV w x := by
  have agg : (∃ cs, v = .agg cs ∧ cs.size = P.cellsOf t ∧ Row.okWide P w r base t cs) → ∀ x ∈ v.cells.toList, SpotV w x := by
    rintro ⟨cs, rfl, _, ts, _, _, hcell⟩ x hx
    obtain ⟨i, hi⟩ := List.getElem?_of_mem hx
    obtain ⟨u, _, hok⟩ := hcell i x (by simpa [Value.cells] using hi)
    exact okCell_spot hok
  have one : Cell.okWide P w r base t v → ∀ x ∈ v.cells.toList, SpotV w x := by
    intro h x hx
    have hs := okCell_spot h
    cases v <;> simp [Value.cells] at hx <;> try (subst hx; exact hs)
    unfold Cell.okWide Cell.ok at h
    exfalso
    split at h <;> try (rename_i h1; cases h1; done)
    split at h <;> first | (rename_i h1; cases h1; done) | (rename_i h1 _; cases h1; done) | exact h
  unfold Value.okWide at h
  cases hu : P.underlying t with
  | none => simp only [hu] at h; exact one h
  | some d => cases d <;> simp only [hu] at h <;> first | exact one h | exact agg h

/-! ### From the row's arguments to ours -/
def kInt : Value → Int
  | .int _ n => n
  | .bool b => cond b 1 0
  | _ => 0

theorem KV_cell {o : Option IntKind} {v : Value} (h : KV o v) : ∀ τ, VR τ (cellX o (kInt v)) v := by
  intro τ
  cases o with
  | some k => obtain ⟨n, rfl, _⟩ := h; rfl
  | none => obtain ⟨b, rfl⟩ := h; cases b <;> rfl

theorem KsV_get : ∀ {ks : List (Option IntKind)} {cs : List Value} {m : Nat} {o : Option IntKind}, KsV ks cs → ks[m]? = some o → ∃ v, cs[m]? = some v ∧ KV o v
  | [], _, m, o, _, h => by simp at h
  | x :: ks, _, 0, o, ⟨v, l, e, h1, _⟩, h => by subst e; simp at h; subst h; exact ⟨v, rfl, h1⟩
  | x :: ks, _, m + 1, o, ⟨v, l, e, _, h2⟩, h => by subst e; simpa using KsV_get h2 (by simpa using h)

theorem cellsX_get {p : Nat → Int} : ∀ {ks : List (Option IntKind)} {i m : Nat} {c : AV}, (cellsX p ks i)[m]? = some c → ∃ o, ks[m]? = some o ∧ c = cellX o (p (i + m))
  | [], i, m, c, h => by simp [cellsX] at h
  | o :: ks, i, 0, c, h => by simp [cellsX] at h; subst h; exact ⟨o, rfl, rfl⟩
  | o :: ks, i, m + 1, c, h => by
    obtain ⟨o', h1, h2⟩ := cellsX_get (ks := ks) (i := Nat.succ i) (m := m) (c := c) (by simpa [cellsX] using h)
    exact ⟨o', by simpa using h1, by rw [h2]; congr 2; omega⟩

theorem inK_of : ∀ {ks : List (Option IntKind)} {p : Nat → Int} {i : Nat}, (∀ (m : Nat) (k : IntKind), ks[m]? = some (some k) → k.has (p (i + m))) → inK ks p i
  | [], _, _, _ => trivial
  | some k :: ks, p, i, h => ⟨h 0 k rfl, inK_of fun m k' hm => by
      have := h (m + 1) k' (by simpa using hm)
      rwa [show i + (m + 1) = Nat.succ i + m by omega] at this⟩
  | none :: ks, p, i, h => inK_of (ks := ks) fun m k' hm => by
      have := h (m + 1) k' (by simpa using hm)
      rwa [show i + (m + 1) = Nat.succ i + m by omega] at this

theorem cells?_get {a : Addr} {n : Nat} {cs : List Value} (h : w.cells? 0 a n = some cs) : cs.length = n ∧ ∀ m v, cs[m]? = some v → w.cell? (a.add m) = some v := by
  unfold World.cells? at h
  rw [if_pos (Nat.zero_le _)] at h
  have hl := mapM_some_length h
  have hl' : cs.length = n := by simpa using hl
  refine ⟨hl', fun m v hv => ?_⟩
  have hm : m < n := by
    have := (List.getElem?_eq_some_iff.1 hv).1
    omega
  have := mapM_some_get h m m (by simp [hm])
  rw [hv] at this
  exact this.symm ▸ rfl

/-- What of a leaf's slices is known. -/
def TauOK (w : World) (τ : Nat → Option Ex) (k : Nat) : Prop := ∀ j x, τ j = some x → j < k ∧ ∃ r, x.rows = some r ∧ RowsIn w x r

theorem leaf_fit {l : Leaf} {v : Value} (h : LvV w l v) (hs : SpotV w v) (i0 : Nat) : ∃ a τ, FitC i0 l a ∧ TauOK w τ (nsLeaf l) ∧ ∀ σ : Sg, (∀ j x, τ j = some x → σ (i0 + j) = some x) → VR σ a v := by
  cases l with
  | int k => obtain ⟨n, rfl, hn⟩ := h; exact ⟨.int k n, fun _ => none, ⟨n, rfl, hn⟩, (fun _ _ h => by cases h), fun _ _ => rfl⟩
  | bool => obtain ⟨b, rfl⟩ := h; exact ⟨.bool b, fun _ => none, ⟨b, rfl⟩, (fun _ _ h => by cases h), fun _ _ => rfl⟩
  | str => obtain ⟨s, rfl, hn⟩ := h; exact ⟨.str s, fun _ => none, ⟨s, rfl, hn⟩, (fun _ _ h => by cases h), fun _ _ => rfl⟩
  | slice ks =>
    rcases h with rfl | ⟨a, len, cap, rfl, hlc, hmax, hrow⟩
    · exact ⟨.xslice i0 0 ks fun _ _ => 0, fun _ => none, ⟨0, _, rfl, by decide, fun j hj => absurd hj (by omega)⟩, (fun _ _ h => by cases h), fun σ _ => .inr ⟨rfl, rfl⟩⟩
    · obtain ⟨hsp, hblk⟩ := hs a len cap rfl
      obtain ⟨blk, off, spot⟩ := a
      simp only at hsp hblk
      subst hsp
      refine ⟨.xslice i0 len ks fun j m => ((w.cell? ⟨blk, off + (j * ks.length + m), none⟩).map kInt).getD 0, fun j => if j = 0 then some ⟨blk, off, len, some (ks, fun j m => ((w.cell? ⟨blk, off + (j * ks.length + m), none⟩).map kInt).getD 0)⟩ else none, ?_, ?_, ?_⟩
      · refine ⟨len, _, rfl, hmax, fun j hj => inK_of fun m k hm => ?_⟩
        obtain ⟨cs, hc1, hc2⟩ := hrow j hj
        obtain ⟨v, hv1, hv2⟩ := KsV_get hc2 hm
        have := (cells?_get hc1).2 m v hv1
        rw [add_none, add_none, Nat.add_assoc] at this
        simp only [Nat.zero_add]
        rw [this]
        obtain ⟨n, rfl, hn⟩ := hv2
        exact hn
      · intro j x hx
        dsimp only at hx
        split at hx
        · rename_i hj
          subst hj
          obtain rfl := Option.some.inj hx
          refine ⟨by simp [nsLeaf], _, rfl, hblk, fun j hj k c hc => ?_⟩
          obtain ⟨o, ho, rfl⟩ := cellsX_get hc
          obtain ⟨cs, hc1, hc2⟩ := hrow j hj
          obtain ⟨v, hv1, hv2⟩ := KsV_get hc2 ho
          have := (cells?_get hc1).2 k v hv1
          rw [add_none, add_none, Nat.add_assoc] at this
          refine ⟨v, this, fun τ => ?_⟩
          simp only [Nat.zero_add]
          rw [this]
          exact KV_cell hv2 τ
        · cases hx
      · intro σ hσ
        exact .inl ⟨_, cap, hσ 0 _ rfl, rfl, Nat.le_refl _, hlc, rfl⟩

def joinTau (a b : Nat → Option Ex) (n : Nat) : Nat → Option Ex := fun j => if j < n then a j else b (j - n)

theorem TauOK.join {a b : Nat → Option Ex} {n m : Nat} (ha : TauOK w a n) (hb : TauOK w b m) : TauOK w (joinTau a b n) (n + m) := fun j x hx => by
  unfold joinTau at hx
  split at hx
  · obtain ⟨h1, h2⟩ := ha j x hx
    exact ⟨by omega, h2⟩
  · obtain ⟨h1, h2⟩ := hb _ x hx
    exact ⟨by omega, h2⟩

theorem joinTau_left {a b : Nat → Option Ex} {n i0 : Nat} (ha : ∀ j x, a j = some x → j < n) {σ : Sg} (h : ∀ j x, joinTau a b n j = some x → σ (i0 + j) = some x) : ∀ j x, a j = some x → σ (i0 + j) = some x := fun j x hx =>
  h j x (by unfold joinTau; rw [if_pos (ha j x hx)]; exact hx)
theorem joinTau_right {a b : Nat → Option Ex} {n i0 : Nat} {σ : Sg} (h : ∀ j x, joinTau a b n j = some x → σ (i0 + j) = some x) : ∀ j x, b j = some x → σ (i0 + n + j) = some x := fun j x hx => by
  have := h (n + j) x (by unfold joinTau; rw [if_neg (by omega), Nat.add_sub_cancel_left]; exact hx)
  rwa [← Nat.add_assoc] at this

theorem leaves_fit : ∀ {ls : List Leaf} {cs : List Value} (i0 : Nat), LvsV w ls cs → (∀ x ∈ cs, SpotV w x) → ∃ as τ, FitL i0 ls as ∧ TauOK w τ (nsLeaves ls) ∧ ∀ σ : Sg, (∀ j x, τ j = some x → σ (i0 + j) = some x) → VRs σ as cs
  | [], cs, i0, h, _ => by cases h; exact ⟨[], fun _ => none, rfl, (fun _ _ h => by cases h), fun _ _ => rfl⟩
  | l :: ls, _, i0, ⟨v, cs, e, h1, h2⟩, hs => by
    subst e
    obtain ⟨a, τ1, a1, a2, a3⟩ := leaf_fit h1 (hs v (by simp)) i0
    obtain ⟨as, τ2, b1, b2, b3⟩ := leaves_fit (i0 + nsLeaf l) h2 (fun x hx => hs x (by simp [hx]))
    exact ⟨a :: as, joinTau τ1 τ2 (nsLeaf l), ⟨a, as, rfl, a1, b1⟩, a2.join b2, fun σ hσ => ⟨v, cs, rfl, a3 σ (joinTau_left (fun j x hx => (a2 j x hx).1) hσ), b3 σ (joinTau_right hσ)⟩⟩

theorem value_fit {t : TypeId} {f : Fit} (h : fitOf P t = some f) {v : Value} (hv : Value.okWide P w r base t v) {H : Type} {enc : TypeId × Value → H} {sp : Nat → Bool} {hd : Bool} {d : DataW H} {ps : List MemPlace} (ht : DataW.Trod enc P w 0 sp hd t v d ps) (i0 : Nat) :
    ∃ a τ, FitV i0 f a ∧ TauOK w τ (nsLeaves f.leaves) ∧ ∀ σ : Sg, (∀ j x, τ j = some x → σ (i0 + j) = some x) → VR σ a v := by
  obtain ⟨fuel, ht⟩ := ht
  have hsp := okWide_spots hv
  have go : ∀ ls, leavesOf P 20 t = some ls → ∃ as τ, FitL i0 ls as ∧ TauOK w τ (nsLeaves ls) ∧ ∀ σ : Sg, (∀ j x, τ j = some x → σ (i0 + j) = some x) → VRs σ as v.cells.toList := fun ls hl =>
    leaves_fit i0 (trod_leaves 20 t ls hl fuel _ d ps ht) hsp
  have agg : (∃ cs, v = .agg cs ∧ cs.size = P.cellsOf t ∧ Row.okWide P w r base t cs) → (match leavesOf P 20 t with
      | some ls => some (⟨true, ls⟩ : Fit)
      | none => none) = some f → ∃ a τ, FitV i0 f a ∧ TauOK w τ (nsLeaves f.leaves) ∧ ∀ σ : Sg, (∀ j x, τ j = some x → σ (i0 + j) = some x) → VR σ a v := by
    rintro ⟨cs, rfl, _, _⟩ h
    cases hl : leavesOf P 20 t with
    | none => simp [hl] at h
    | some ls =>
      simp only [hl] at h
      obtain rfl := Option.some.inj h
      obtain ⟨as, τ, h1, h2, h3⟩ := go ls hl
      exact ⟨.agg as, τ, ⟨as, rfl, h1⟩, h2, fun σ hσ => ⟨cs, rfl, h3 σ hσ⟩⟩
  have one : Cell.okWide P w r base t v → (match leavesOf P 20 t with
      | some ls => some (⟨false, ls⟩ : Fit)
      | none => none) = some f → ∃ a τ, FitV i0 f a ∧ TauOK w τ (nsLeaves f.leaves) ∧ ∀ σ : Sg, (∀ j x, τ j = some x → σ (i0 + j) = some x) → VR σ a v := by
    intro hv' h
    cases hl : leavesOf P 20 t with
    | none => simp [hl] at h
    | some ls =>
      simp only [hl] at h
      obtain rfl := Option.some.inj h
      obtain ⟨as, τ, h1, h2, h3⟩ := go ls hl
      have hc : v.cells.toList = [v] := by
        cases v <;> try rfl
        exfalso
        unfold Cell.okWide Cell.ok at hv'
        split at hv' <;> try (rename_i h1; cases h1; done)
        split at hv' <;> first | (rename_i h1; cases h1; done) | (rename_i h1 _; cases h1; done) | exact hv'
      rw [hc] at h3
      obtain ⟨_, a, as', e, _⟩ : ∃ (_ : Unit) (a : AV) (as' : List AV), as = a :: as' ∧ True := by
        obtain ⟨x, rfl⟩ | rfl : (∃ x : AV × List AV, as = x.1 :: x.2) ∨ as = [] := by cases as with | nil => exact .inr rfl | cons a l => exact .inl ⟨(a, l), rfl⟩
        · exact ⟨(), _, _, rfl, trivial⟩
        · exfalso
          have := (h3 (fun i => if i0 ≤ i then τ (i - i0) else none) (fun j x hx => by simp [hx])).length
          simp at this
      subst e
      have hnil : as' = [] := by
        have := (h3 (fun i => if i0 ≤ i then τ (i - i0) else none) (fun j x hx => by simp [hx])).length
        simp only [List.length_cons, List.length_nil] at this
        exact List.eq_nil_of_length_eq_zero (by omega)
      subst hnil
      refine ⟨a, τ, h1, h2, fun σ hσ => ?_⟩
      obtain ⟨y, ys, e, hy, _⟩ := h3 σ hσ
      simp at e
      rw [e.1]
      exact hy
  unfold fitOf at h
  unfold Value.okWide at hv
  cases hu : P.underlying t with
  | none =>
    simp only [hu] at h hv
    exact one hv h
  | some d =>
    cases d <;> simp only [hu] at h hv <;> first | exact one hv h | exact agg hv h

theorem args_fit {H : Type} {enc : TypeId × Value → H} {sp : Nat → Bool} {hd : Bool} : ∀ {ts : List TypeId} {fs : List Fit} {vs : List Value} {ds : List (DataW H)} {ps : List MemPlace} (i0 : Nat), ts.map (fitOf P) = fs.map some → DataW.TrodAll enc P w 0 sp hd ts vs ds ps →
    (∀ (j : Nat) t v, ts[j]? = some t → vs[j]? = some v → Value.okWide P w r base t v) → ∃ as τ, FitA i0 fs as ∧ TauOK w τ (nsFits fs) ∧ ∀ σ : Sg, (∀ j x, τ j = some x → σ (i0 + j) = some x) → VRs σ as vs
  | [], fs, [], [], ps, i0, h, _, _ => by
    cases fs with
    | nil => exact ⟨[], fun _ => none, rfl, (fun _ _ h => by cases h), fun _ _ => rfl⟩
    | cons f fs => simp at h
  | t :: ts, fs, v :: vs, d :: ds, ps, i0, h, ht, hv => by
    cases fs with
    | nil => simp at h
    | cons f fs =>
      simp only [List.map_cons, List.cons.injEq] at h
      obtain ⟨p, q, h1, h2, _⟩ := ht
      obtain ⟨a, τ1, a1, a2, a3⟩ := value_fit h.1 (hv 0 t v rfl rfl) h1 i0
      obtain ⟨as, τ2, b1, b2, b3⟩ := args_fit (i0 + nsLeaves f.leaves) h.2 h2 (fun j t v ht hv' => hv (j + 1) t v (by simpa using ht) (by simpa using hv'))
      exact ⟨a :: as, joinTau τ1 τ2 (nsLeaves f.leaves), ⟨a, as, rfl, a1, b1⟩, a2.join b2, fun σ hσ => ⟨v, vs, rfl, a3 σ (joinTau_left (fun j x hx => (a2 j x hx).1) hσ), b3 σ (joinTau_right hσ)⟩⟩
  | [], _, [], _ :: _, _, _, _, h, _ => h.elim
  | [], _, _ :: _, _, _, _, _, h, _ => h.elim
  | _ :: _, _, [], _, _, _, _, h, _ => h.elim
  | _ :: _, _, _ :: _, [], _, _, _, h, _ => h.elim
end

/-! ### Listed variables -/
mutual
def flatD : DataW Unit → Option (List AV)
  | .lit (.int k n) => some [.int k n]
  | .lit (.bool b) => some [.bool b]
  | .lit (.string s) => some [.str ⟨s.toArray⟩]
  | .agg l => flatDs l
  | _ => none
def flatDs : List (DataW Unit) → Option (List AV)
  | [] => some []
  | d :: r => match flatD d with
    | some l => match flatDs r with
      | some m => some (l ++ m)
      | none => none
    | none => none
end

theorem flatDs_cons {d : DataW Unit} {r : List (DataW Unit)} {l : List AV} (h : flatDs (d :: r) = some l) : ∃ a b, flatD d = some a ∧ flatDs r = some b ∧ l = a ++ b := by
  rw [flatDs] at h
  cases h1 : flatD d with
  | none => simp [h1] at h
  | some a =>
    cases h2 : flatDs r with
    | none => simp [h1, h2] at h
    | some b => simp [h1, h2] at h; exact ⟨a, b, rfl, rfl, h.symm⟩

/-- Neighbouring pieces of a list, one behind the other. -/
theorem pieces_VRs {σ : Sg} {cs : List Value} : ∀ (l : List (Nat × Nat)) (ds : List (DataW Unit)) (o : Nat) (avs : List AV), l.length = ds.length →
    (∀ (j : Nat) (q : Nat × Nat), l[j]? = some q → q.1 = o + ((l.take j).map (·.2)).sum) → (∀ (j : Nat) (q : Nat × Nat) (d : DataW Unit) (a : List AV), l[j]? = some q → ds[j]? = some d → flatD d = some a → VRs σ a ((cs.drop q.1).take q.2)) → flatDs ds = some avs →
    VRs σ avs ((cs.drop o).take ((l.map (·.2)).sum))
  | [], [], o, avs, _, _, _, h => by
    rw [flatDs] at h
    simp at h
    subst h
    simp [VRs]
  | [], _ :: _, _, _, h, _, _, _ => by simp at h
  | _ :: _, [], _, _, h, _, _, _ => by simp at h
  | q :: l, d :: ds, o, avs, hl, ho, hv, h => by
    obtain ⟨a, b, h1, h2, rfl⟩ := flatDs_cons h
    have hq0 := ho 0 q rfl
    simp at hq0
    have hva := hv 0 q d a rfl rfl h1
    have hvb := pieces_VRs (σ := σ) (cs := cs) l ds (o + q.2) b (by simpa using hl) (fun j p hj => by
      have := ho (j + 1) p (by simpa using hj)
      simp only [List.take_succ_cons, List.map_cons, List.sum_cons] at this
      omega) (fun j p d' a' hj hd ha => hv (j + 1) p d' a' (by simpa using hj) (by simpa using hd) ha) h2
    rw [hq0] at hva
    have := hva.append hvb
    simp only [List.map_cons, List.sum_cons]
    rw [List.take_add, List.drop_drop]
    exact this

section
variable {P : Program} {w : World}

theorem isVar_und {t : TypeId} (h : isVar P t = true) : ∃ d, P.underlying t = some d := by
  unfold isVar at h
  cases hu : P.underlying t with
  | none => simp [hu, kindOk] at h
  | some d => exact ⟨d, rfl⟩

theorem trod_flat (hlo : laidOutB P = true) {bs : Nat} {sp : Nat → Bool} {hd : Bool} {σ : Sg} : ∀ (fuel : Nat) (t : TypeId) (cs : List Value) (d : DataW Unit) (ps : List MemPlace) (avs : List AV), isVar P t = true →
    DataW.trod (fun _ => ()) P w bs sp hd fuel t cs = some (d, ps) → flatD d = some avs → VRs σ avs cs
  | 0, _, _, _, _, _, _, h, _ => by simp [DataW.trod] at h
  | fuel + 1, t, cs, d, ps, avs, hvar, h, hf => by
    obtain ⟨td, hu⟩ := isVar_und hvar
    have hrow : rowFine P t = true := by
      unfold laidOutB at hlo
      simp only [Bool.and_eq_true] at hlo
      have hlt : t < P.types.size := by
        unfold isVar at hvar
        simp at hvar
        exact hvar.1
      exact List.all_eq_true.1 hlo.1.1 t (List.mem_range.2 hlt)
    unfold rowFine at hrow
    rw [hvar, hu] at hrow
    simp only [DataW.trod, hu] at h
    cases td with
    | struct fs =>
      simp only at h
      simp only [Bool.not_true, Bool.false_or, Bool.and_eq_true, beq_iff_eq, List.all_eq_true] at hrow
      obtain ⟨⟨hv, hsum⟩, hoff⟩ := hrow
      split at h
      · rename_i hl
        simp only [Option.map_eq_some_iff, Prod.mk.injEq] at h
        obtain ⟨xs, hxs, rfl, rfl⟩ := h
        have hlen := mapM_some_length hxs
        rw [flatD] at hf
        have := pieces_VRs (σ := σ) (cs := cs) (fs.toList.map fun f => (f.offset, P.cellsOf f.type)) (xs.map (·.1)) 0 avs (by simp only [List.length_map]; omega)
          (fun j (q : Nat × Nat) hj => by
            simp only [List.getElem?_map, Option.map_eq_some_iff] at hj
            obtain ⟨f, hf', rfl⟩ := hj
            have := hoff j (List.mem_range.2 (List.getElem?_eq_some_iff.1 hf').1)
            rw [hf'] at this
            simp only [beq_iff_eq] at this
            simp [this, ← List.map_take, Function.comp_def])
          (fun j (q : Nat × Nat) d' a hj hd' ha => by
            simp only [List.getElem?_map, Option.map_eq_some_iff] at hj hd'
            obtain ⟨f, hf', rfl⟩ := hj
            obtain ⟨y, hy, rfl⟩ := hd'
            have hg := mapM_some_get hxs j f hf'
            rw [hy] at hg
            exact trod_flat hlo fuel f.type _ y.1 y.2 a (hv f (List.mem_of_getElem? hf')) hg ha) hf
        rw [List.drop_zero, List.take_of_length_le (by rw [hl, hsum]; simp [Function.comp_def])] at this
        exact this
      · cases h
    | array n e =>
      simp only at h
      simp only [Bool.not_true, Bool.false_or, Bool.and_eq_true, beq_iff_eq] at hrow
      obtain ⟨hv, hsum⟩ := hrow
      split at h
      · rename_i hl
        simp only [Option.map_eq_some_iff, Prod.mk.injEq] at h
        obtain ⟨xs, hxs, rfl, rfl⟩ := h
        have hlen := mapM_some_length hxs
        rw [flatD] at hf
        have hs : ∀ m, (((List.range m).map fun i => (i * P.cellsOf e, P.cellsOf e)).map (·.2)).sum = m * P.cellsOf e := by
          intro m
          induction m with
          | zero => simp
          | succ m ih => rw [List.range_succ, List.map_append, List.map_append, List.sum_append, ih, Nat.add_mul]; simp
        have := pieces_VRs (σ := σ) (cs := cs) ((List.range n).map fun i => (i * P.cellsOf e, P.cellsOf e)) (xs.map (·.1)) 0 avs (by simp at hlen; simp [hlen])
          (fun j (q : Nat × Nat) hj => by
            simp only [List.getElem?_map, Option.map_eq_some_iff] at hj
            obtain ⟨i, hi, rfl⟩ := hj
            obtain ⟨hi1, hi2⟩ := List.getElem?_eq_some_iff.1 hi
            simp at hi1 hi2
            subst hi2
            have e1 : (List.range n).take j = List.range j := by rw [List.take_range, Nat.min_eq_left (by omega)]
            rw [← List.map_take, e1, hs]
            simp)
          (fun j (q : Nat × Nat) d' a hj hd' ha => by
            simp only [List.getElem?_map, Option.map_eq_some_iff] at hj hd'
            obtain ⟨i, hi, rfl⟩ := hj
            obtain ⟨y, hy, rfl⟩ := hd'
            have hg := mapM_some_get hxs j i hi
            rw [hy] at hg
            exact trod_flat hlo fuel e _ y.1 y.2 a hv hg ha) hf
        rw [List.drop_zero, hs, List.take_of_length_le (by rw [hl, hsum]; exact Nat.le_refl _)] at this
        exact this
      · cases h
    | bool =>
      split at h <;> try (cases h; done)
      all_goals (rename_i h1; try (cases h1; done))
      simp only [Option.some.injEq, Prod.mk.injEq] at h
      obtain ⟨rfl, rfl⟩ := h
      simp only [flatD, Option.some.injEq] at hf
      subst hf
      exact ⟨_, _, rfl, rfl, rfl⟩
    | int k =>
      split at h <;> try (cases h; done)
      all_goals (rename_i h1; try (cases h1; done))
      cases h1
      split at h <;> try (cases h; done)
      rename_i hk
      simp only [Option.some.injEq, Prod.mk.injEq] at h
      obtain ⟨rfl, rfl⟩ := h
      simp only [flatD, Option.some.injEq] at hf
      subst hf
      obtain ⟨rfl, _⟩ := hk
      exact ⟨_, _, rfl, rfl, rfl⟩
    | string =>
      split at h <;> try (cases h; done)
      all_goals (rename_i h1; try (cases h1; done))
      split at h <;> try (cases h; done)
      simp only [Option.some.injEq, Prod.mk.injEq] at h
      obtain ⟨rfl, rfl⟩ := h
      simp only [flatD, Option.some.injEq] at hf
      subst hf
      exact ⟨_, _, rfl, by simp [VR], rfl⟩
    | _ =>
      exfalso
      repeat' split at h
      all_goals first
        | (cases h; done)
        | (rename_i h1; cases h1; done)
        | (rename_i h1 _; cases h1; done)
        | (rename_i h1 _ _; cases h1; done)
        | (cases h; simp [flatD] at hf; done)
        | (simp only [Option.map_eq_some_iff, Option.bind_eq_some_iff, Prod.mk.injEq] at h
           obtain ⟨_, _, rfl, _⟩ := h
           simp [flatD] at hf; done)
        | (simp only [Option.map_eq_some_iff, Option.bind_eq_some_iff, Prod.mk.injEq] at h
           obtain ⟨_, _, _, _, rfl, _⟩ := h
           simp [flatD] at hf; done)
        | (simp only [Option.map_eq_some_iff, Option.bind_eq_some_iff] at h
           obtain ⟨_, _, h⟩ := h
           split at h
           · cases h; simp [flatD] at hf; done
           · cases h; done)
        | trace_state
end

/-- The listed variables' places and cells, out of the row's list. -/
noncomputable def glOf (P : Program) : List (String × DataW Unit) → Option (List (Nat × List AV))
  | [] => some []
  | (n, d) :: r => match P.globalNamed n with
    | some g => match (P.globals[g]?).map (·.type) with
      | some t => bif isVar P t then match flatD d with
          | some a => match glOf P r with
            | some l => some ((g, a) :: l)
            | none => none
          | none => none
        else none
      | none => none
    | none => none

def topG : List (Nat × List AV) → Nat
  | [] => 0
  | p :: r => Nat.max (p.1 + 1) (topG r)

theorem lt_topG : ∀ {l : List (Nat × List AV)} {p : Nat × List AV}, p ∈ l → p.1 < topG l
  | q :: r, p, h => by
    rcases List.mem_cons.1 h with rfl | h
    · exact Nat.lt_of_lt_of_le (Nat.lt_succ_self _) (Nat.le_max_left _ _)
    · exact Nat.lt_of_lt_of_le (lt_topG h) (Nat.le_max_right _ _)

section
variable {P : Program} {W : World}

theorem glOf_cells (hlo : laidOutB P = true) : ∀ {laid : List (String × DataW Unit)} {gl : List (Nat × List AV)} {ps : List MemPlace}, glOf P laid = some gl → DataW.LaidVars P W laid ps →
    ∀ p ∈ gl, p.1 < W.heap.size ∧ ∀ j c, p.2[j]? = some c → ∃ x, W.cell? ⟨p.1, j, none⟩ = some x ∧ ∀ σ, VR σ c x
  | [], gl, _, h, _ => by
    simp [glOf] at h
    subst h
    intro p hp
    cases hp
  | (n, d) :: r, gl, ps, h, hL => by
    obtain ⟨g, t, cs, fuel, p, q, h1, h2, h3, h4, h5, _⟩ := hL
    rw [glOf, h1] at h
    simp only [h2] at h
    obtain ⟨hvar, h⟩ := bif_some h
    cases hf : flatD d with
    | none => simp [hf] at h
    | some a =>
      cases hr : glOf P r with
      | none => simp [hf, hr] at h
      | some l =>
        simp [hf, hr] at h
        subst h
        intro x hx
        rcases List.mem_cons.1 hx with rfl | hx
        · refine ⟨?_, fun j c hc => ?_⟩
          · unfold World.var? at h3
            rw [h1] at h3
            simp only [Option.bind_some] at h3
            cases hh : W.heap[g]? with
            | none => simp [hh] at h3
            | some o => exact (Array.getElem?_eq_some_iff.1 hh).1
          · have hv := fun σ => trod_flat (σ := σ) hlo fuel t cs.toList d p a hvar h4 hf
            have hj := fun σ => (hv σ).get hc
            obtain ⟨x, hx1, _⟩ := hj (fun _ => none)
            refine ⟨x, by rw [World.var?_cell h1 h3 j]; simpa using hx1, fun σ => ?_⟩
            obtain ⟨y, hy1, hy2⟩ := hj σ
            rw [hx1] at hy1
            cases hy1
            exact hy2
        · exact glOf_cells hlo hr h5 x hx

theorem laid_GOK (hlo : laidOutB P = true) {laid : List (String × DataW Unit)} {gl : List (Nat × List AV)} (h : glOf P laid = some gl) (hL : laidMet P laid W) : GOK (topG gl) gl W := by
  obtain ⟨ps, hL, _⟩ := hL
  have hc := glOf_cells hlo h hL
  refine ⟨?_, fun p hp => ⟨lt_topG hp, (hc p hp).2⟩⟩
  have : ∀ l : List (Nat × List AV), (∀ p ∈ l, p.1 < W.heap.size) → topG l ≤ W.heap.size := by
    intro l
    induction l with
    | nil => intro _; simp [topG]
    | cons q r ih =>
      intro hq
      simp only [topG]
      exact Nat.max_le.2 ⟨hq q (by simp), ih fun p hp => hq p (by simp [hp])⟩
  exact this gl fun p hp => (hc p hp).1

theorem trodAll_below {H : Type} {enc : TypeId × Value → H} (hlo : laidOutB P = true) {W' : World} (hb : Below W.heap.size W W') : ∀ {ts : List TypeId} {vs : List Value} {ds : List (DataW H)} {ps : List MemPlace},
    (ts.all fun t => P.readableRec t && decide (t < P.types.size)) = true → DataW.TrodAll enc P W 0 (fun _ => true) true ts vs ds ps → DataW.TrodAll enc P W' 0 (fun b => decide (b < W.heap.size)) true ts vs ds ps
  | [], [], [], _, _, h => h
  | t :: ts, v :: vs, d :: ds, ps, hr, h => by
    have hlt := h.lt
    obtain ⟨p, q, h1, h2, e⟩ := h
    simp only [List.all_cons, Bool.and_eq_true, decide_eq_true_eq] at hr
    exact ⟨p, q, Below.trod hlo hr.1.1 hr.1.2 h1 hb (fun x hx => hlt x (by rw [e]; simp [hx])), trodAll_below hlo hb (by simpa using hr.2) h2, e⟩
  | [], [], _ :: _, _, _, h => h.elim
  | [], _ :: _, _, _, _, h => h.elim
  | _ :: _, [], _, _, _, h => h.elim
  | _ :: _, _ :: _, [], _, _, h => h.elim

theorem trodAll_length {H : Type} {enc : TypeId × Value → H} {b : Nat} {sp : Nat → Bool} {hd : Bool} : ∀ {ts : List TypeId} {vs : List Value} {ds : List (DataW H)} {ps : List MemPlace}, DataW.TrodAll enc P W b sp hd ts vs ds ps → vs.length = ts.length ∧ ds.length = ts.length
  | [], [], [], _, _ => ⟨rfl, rfl⟩
  | _ :: _, _ :: _, _ :: _, _, ⟨_, _, _, h, _⟩ => by
    have := trodAll_length h
    simp [this.1, this.2]
  | [], [], _ :: _, _, h => h.elim
  | [], _ :: _, _, _, h => h.elim
  | _ :: _, [], _, _, h => h.elim
  | _ :: _, _ :: _, [], _, h => h.elim
end

def decB : AV → Option Bool
  | .bool b => some b
  | _ => none

/-- A LAW's ROW, from its evaluation: true whatever the arguments. -/
theorem law_handed {Ck : Checked} {os : Os} {k : FuncId} {fn : Func} {s : ChangeSpec} {apart fresh handsOn : Bool} {C : Ctx} {gl : List (Nat × List AV)} {laid : List (String × DataW Unit)} {fs : List Fit} (n : Nat) {tb : TypeId}
    (hC : CtxOK Ck.prog C gl) (hlaid : glOf Ck.prog laid = some gl) (hG : C.G = topG gl) (hlo : laidOutB Ck.prog = true)
    (hfit : fn.params.toList.map (fitOf Ck.prog) = fs.map some) (hpar : (fn.params.toList.all fun t => Ck.prog.readableRec t && decide (t < Ck.prog.types.size)) = true)
    (hres : fn.resultTypes.toList = [tb]) (htb : Ck.prog.underlying tb = some .bool)
    (hvars : s.vars = []) (hspec : ∀ (H : Type) (ds : List (DataW H)), ds.length = fs.length → s.fn H ds = { results := [.lit (.bool true)], args := ds })
    (hfn : Ck.prog.funcs[k]? = some fn) (hlp : LpAll Ck.prog C gl fn) {ns : Nat} (hns : nsFits fs = ns) (hev : ∀ avs, FitA C.G fs avs → evF C n fn avs (glMem gl) (Nat.add C.G ns) decB = some true)
    (H : Type) (enc : TypeId × Value → H)
    (own : ownKnob Ck.prog.godebug = none) (started : os.Started) (noInit : Ck.prog.inits.idxOf? k = none)
    (witness : ∃ (w : World) (tape : Tape) (i : Input), w.os = os ∧ (w.forCall tape i).Shaped Ck.prog ∧ i.vars = [] ∧ Input.okWide Ck.prog (w.forCall tape i) .any w.heap.size k i ∧
      ((s.pre enc Ck.prog fn [] apart (w.forCall tape i).memory i.args ∧ laidMet Ck.prog laid (w.forCall tape i).memory) ∧ sizedMet enc Ck.prog fn (OpenSpec.ofChange s) apart (w.forCall tape i).memory i.args) ∧ ({} : Assume).holds Ck.prog (lone (Frame.enter Ck.prog k i.args .normal) [] (w.forCall tape i))) :
    ReturnsInHanded {} Ck os k .any (fun w args => (s.pre enc Ck.prog fn [] apart w args ∧ laidMet Ck.prog laid w) ∧ sizedMet enc Ck.prog fn (OpenSpec.ofChange s) apart w args)
      (s.post enc Ck.prog fn apart fresh handsOn false) := by
  refine returnsInHanded_of_change_and (C := Ck) (X := fun w _ => laidMet Ck.prog laid w) (fun _ _ _ hh h => h.of_heap hh) own started noInit hfn witness ?_
  intro W base args ds gs before hval hW _ _ hL _
  have hW' := hW
  obtain ⟨p, q, hA, hV, rfl, hfz, hnd⟩ := hW
  obtain ⟨hl1, hl2⟩ := trodAll_length hA
  have hgs : gs = [] := by
    rw [hvars] at hV
    cases gs with
    | nil => rfl
    | cons g r => exact absurd hV (by intro h; cases h)
  subst hgs
  have hlen : fn.params.toList.length = fs.length := by simpa using congrArg List.length hfit
  obtain ⟨avs, τ, hf1, hf2, hf3⟩ := args_fit (vs := args.toList) C.G hfit hA (fun j t v ht hv => hval j t v (by simpa using ht) (by simpa using hv))
  rw [hns] at hf2
  obtain ⟨v, hv1, hv2⟩ := calls_of_ev hC hfn hlp n (hev avs hf1)
  have hvb : v = .bool true := by
    cases v <;> simp [decB] at hv1
    rw [hv1]
  subst hvb
  refine (hv2 τ args W hf2 hf3 (by rw [hG]; exact laid_GOK hlo hlaid hL)).mono fun e W' ⟨rv, σ', he, hr, hb⟩ => ?_
  subst he
  have hrv : rv = .bool true := by simpa [VR] using hr
  subst hrv
  have hs := hspec H (ds ++ []) (by simp; omega)
  have hsz : fn.resultTypes.size = 1 := by
    have := congrArg List.length hres
    simpa using this
  refine ⟨_, rfl, ds, [], p ++ q, [], p, [], hW', ?_, ?_, ?_, hb.frame _, fun h => by cases h⟩
  · rw [hs, hres, hsz]
    exact trodAll_mk1 ⟨1, by simp [DataW.trod, htb, Value.resultList, Value.cells]⟩
  · rw [hs]
    simpa using trodAll_below hlo hb hpar hA
  · rw [hs, hvars]
    rfl

/-- A world that meets the row's condition: the settled one, the listed variables laid. -/
def avVal : AV → Value
  | .int k n => .int k n
  | .bool b => .bool b
  | .str s => .string s
  | _ => .bool false

noncomputable def layHeap (gl : List (Nat × List AV)) (h : Array Obj) : Array Obj :=
  gl.foldl (fun h p => h.modify p.1 fun
    | .cells _ t frozen => .cells (p.2.map avVal).toArray t frozen
    | o => o) h

noncomputable def laidW (P : Program) (gl : List (Nat × List AV)) (os : Os) : World :=
  { World.holding P os ⟨#[], #[], []⟩ with heap := layHeap gl (World.holding P os ⟨#[], #[], []⟩).heap }
end Go.VE
