/-
  THE READING MACHINE, what its states say of the model's: values, memory, registers; and what holds of them when memory grows.
-/
import Derived.Test.YtggiamcgkiaicaaDoorVEa
import Derived.Laws.StructEq
import Derived.Laws.Tables
import Derived.Laws.Rows
import Derived.ChangeKeysEq
import Derived.Maps.AppendAt
namespace Go.VE
set_option linter.unusedVariables false
set_option linter.unusedSimpArgs false
open Go.RowKit (Below)

/-- Where a block lies: its number, the first cell's place; of rows: how many. -/
structure Ex where
  blk : Nat
  off : Nat
  n : Nat
  rows : Option (List (Option IntKind) × (Nat → Nat → Int))

abbrev Sg := Nat → Option Ex

mutual
def VR (σ : Sg) : AV → Value → Prop
  | .bool b, v => v = .bool b
  | .int k n, v => v = .int k n
  | .str s, v => v = .string s
  | .ptr i o, v => ∃ b, σ i = some b ∧ v = .pointer (some ⟨b.blk, b.off + o, none⟩)
  | .pidx i base st len ix ex, v => ∃ b, σ i = some b ∧ v = .pointer (some ⟨b.blk, b.off + (base + ix.toNat * st + ex), none⟩) ∧ 0 ≤ ix ∧ ix < (len : Int)
  | .prow i ks p ix ex, v => ∃ b, σ i = some b ∧ v = .pointer (some ⟨b.blk, b.off + (ix.toNat * ks.length + ex), none⟩) ∧ 0 ≤ ix ∧ ix < (b.n : Int) ∧ b.rows = some (ks, p)
  | .prowx i ks p ix base st len jx ex, v => ∃ b, σ i = some b ∧ v = .pointer (some ⟨b.blk, b.off + (ix.toNat * ks.length + (base + jx.toNat * st + ex)), none⟩) ∧ 0 ≤ ix ∧ ix < (b.n : Int) ∧ b.rows = some (ks, p) ∧ 0 ≤ jx ∧ jx < (len : Int)
  | .nilp, v => v = .pointer none
  | .slice i o len, v => ∃ b, σ i = some b ∧ v = .slice (some ⟨b.blk, b.off + o, none⟩) len b.n
  | .xslice i len ks p, v => (∃ b c, σ i = some b ∧ v = .slice (some ⟨b.blk, b.off, none⟩) len c ∧ len ≤ b.n ∧ len ≤ c ∧ b.rows = some (ks, p)) ∨ (v = .slice none 0 0 ∧ len = 0)
  | .nils, v => v = .slice none 0 0
  | .fn f cap, v => ∃ vs : Array Value, v = .func (.func f) #[] vs ∧ VRs σ cap vs.toList
  | .nilf, v => v = .nilFunc
  | .agg cs, v => ∃ vs : Array Value, v = .agg vs ∧ VRs σ cs vs.toList
  | .tup cs, v => ∃ vs : Array Value, v = .tuple vs ∧ VRs σ cs vs.toList
def VRs (σ : Sg) : List AV → List Value → Prop
  | [], l => l = []
  | a :: as, l => ∃ v vs, l = v :: vs ∧ VR σ a v ∧ VRs σ as vs
end

def Ext (σ σ' : Sg) : Prop := ∀ i x, σ i = some x → σ' i = some x
theorem Ext.refl (σ : Sg) : Ext σ σ := fun _ _ h => h
theorem Ext.trans {a b c : Sg} (h : Ext a b) (h' : Ext b c) : Ext a c := fun i x hx => h' i x (h i x hx)

mutual
theorem VR.mono {σ σ' : Sg} (h : Ext σ σ') : ∀ (a : AV) (v : Value), VR σ a v → VR σ' a v
  | .bool _, _, r => r
  | .int _ _, _, r => r
  | .str _, _, r => r
  | .ptr _ _, _, ⟨b, hb, r⟩ => ⟨b, h _ _ hb, r⟩
  | .pidx _ _ _ _ _ _, _, ⟨b, hb, r⟩ => ⟨b, h _ _ hb, r⟩
  | .prow _ _ _ _ _, _, ⟨b, hb, r⟩ => ⟨b, h _ _ hb, r⟩
  | .prowx _ _ _ _ _ _ _ _ _, _, ⟨b, hb, r⟩ => ⟨b, h _ _ hb, r⟩
  | .nilp, _, r => r
  | .slice _ _ _, _, ⟨b, hb, r⟩ => ⟨b, h _ _ hb, r⟩
  | .xslice _ _ _ _, _, .inl ⟨b, c, hb, r⟩ => .inl ⟨b, c, h _ _ hb, r⟩
  | .xslice _ _ _ _, _, .inr r => .inr r
  | .nils, _, r => r
  | .fn _ cap, _, ⟨vs, hv, r⟩ => ⟨vs, hv, VRs.mono h cap _ r⟩
  | .nilf, _, r => r
  | .agg cs, _, ⟨vs, hv, r⟩ => ⟨vs, hv, VRs.mono h cs _ r⟩
  | .tup cs, _, ⟨vs, hv, r⟩ => ⟨vs, hv, VRs.mono h cs _ r⟩
theorem VRs.mono {σ σ' : Sg} (h : Ext σ σ') : ∀ (a : List AV) (v : List Value), VRs σ a v → VRs σ' a v
  | [], _, r => r
  | a :: as, _, ⟨v, vs, e, r, rs⟩ => ⟨v, vs, e, VR.mono h a v r, VRs.mono h as vs rs⟩
end

/-! ### Lists -/
theorem VRs.length {σ : Sg} : ∀ {a : List AV} {v : List Value}, VRs σ a v → v.length = a.length
  | [], _, r => by subst r; rfl
  | _ :: as, _, ⟨v, vs, e, _, rs⟩ => by subst e; simp [VRs.length rs]

theorem getL_eq : ∀ (l : List AV) (n : Nat), getL l n = l[n]?
  | [], _ => rfl
  | _ :: _, 0 => rfl
  | _ :: r, n + 1 => by simpa [getL] using getL_eq r n

theorem VRs.get {σ : Sg} : ∀ {a : List AV} {v : List Value} {n : Nat} {x : AV}, VRs σ a v → a[n]? = some x → ∃ y, v[n]? = some y ∧ VR σ x y
  | [], _, _, _, _, h => by simp at h
  | a :: as, _, 0, _, ⟨v, vs, e, r, _⟩, h => by subst e; simp at h; subst h; exact ⟨v, rfl, r⟩
  | a :: as, _, n + 1, _, ⟨v, vs, e, _, rs⟩, h => by subst e; simp at h; simpa using VRs.get rs h

theorem VRs.append {σ : Sg} : ∀ {a b : List AV} {v u : List Value}, VRs σ a v → VRs σ b u → VRs σ (a ++ b) (v ++ u)
  | [], _, _, _, r, s => by subst r; exact s
  | _ :: as, _, _, _, ⟨v, vs, e, r, rs⟩, s => by subst e; exact ⟨v, vs ++ _, rfl, r, VRs.append rs s⟩

theorem dropL_eq : ∀ (l : List AV) (n : Nat), dropL l n = l.drop n
  | _, 0 => by simp [dropL]
  | [], _ + 1 => by simp [dropL]
  | _ :: r, n + 1 => by simpa [dropL] using dropL_eq r n

theorem takeL_some : ∀ {l : List AV} {n : Nat} {m : List AV}, takeL l n = some m → m = l.take n ∧ m.length = n
  | _, 0, m, h => by simp [takeL] at h; subst h; simp
  | [], _ + 1, m, h => by simp [takeL] at h
  | x :: r, n + 1, m, h => by
    simp only [takeL] at h
    cases hr : takeL r n with
    | none => simp [hr] at h
    | some l =>
      simp [hr] at h
      subst h
      obtain ⟨h1, h2⟩ := takeL_some hr
      simp [← h1, h2]

theorem VRs.drop {σ : Sg} : ∀ {a : List AV} {v : List Value} (n : Nat), VRs σ a v → VRs σ (a.drop n) (v.drop n)
  | _, _, 0, r => by simpa using r
  | [], _, _ + 1, r => by subst r; simp [VRs]
  | _ :: as, _, n + 1, ⟨v, vs, e, _, rs⟩ => by subst e; simpa using VRs.drop n rs

theorem VRs.take {σ : Sg} : ∀ {a : List AV} {v : List Value} (n : Nat), VRs σ a v → VRs σ (a.take n) (v.take n)
  | _, _, 0, _ => by simp [VRs]
  | [], _, _ + 1, r => by subst r; simp [VRs]
  | _ :: as, _, n + 1, ⟨v, vs, e, r, rs⟩ => by subst e; exact ⟨v, vs.take n, by simp, r, VRs.take n rs⟩

theorem overL_some {σ : Sg} : ∀ {cs vs out : List AV} {c v : List Value}, overL cs vs = some out → VRs σ cs c → VRs σ vs v → VRs σ out (v ++ c.drop v.length) ∧ v.length ≤ c.length
  | cs, [], out, c, v, h, hc, hv => by
    simp [overL] at h; subst h
    cases hv
    simpa using hc
  | [], _ :: _, _, _, _, h, _, _ => by simp [overL] at h
  | a :: cs, b :: vs, out, _, _, h, ⟨c, c', ec, _, hc⟩, ⟨v, v', ev, hv0, hv⟩ => by
    subst ec; subst ev
    simp only [overL] at h
    cases hr : overL cs vs with
    | none => simp [hr] at h
    | some l =>
      simp [hr] at h
      subst h
      obtain ⟨h1, h2⟩ := overL_some hr hc hv
      exact ⟨⟨v, v' ++ c'.drop v'.length, by simp, hv0, h1⟩, by simpa using h2⟩

theorem spliceL_some {σ : Sg} : ∀ {cs : List AV} {off : Nat} {vs out : List AV} {c v : List Value}, spliceL cs off vs = some out → VRs σ cs c → VRs σ vs v →
    VRs σ out (c.take off ++ v ++ c.drop (off + v.length)) ∧ off + v.length ≤ c.length
  | cs, 0, vs, out, c, v, h, hc, hv => by
    simp only [spliceL] at h
    obtain ⟨h1, h2⟩ := overL_some h hc hv
    exact ⟨by simpa using h1, by omega⟩
  | [], n + 1, _, _, _, _, h, _, _ => by simp [spliceL] at h
  | a :: cs, n + 1, vs, out, _, v, h, ⟨c, c', ec, h0, hc⟩, hv => by
    subst ec
    simp only [spliceL] at h
    cases hr : spliceL cs n vs with
    | none => simp [hr] at h
    | some l =>
      simp [hr] at h
      subst h
      obtain ⟨h1, h2⟩ := spliceL_some hr hc hv
      refine ⟨⟨c, _, ?_, h0, h1⟩, by simp; omega⟩
      have : n + 1 + v.length = (n + v.length) + 1 := by omega
      simp [this]

theorem scals_spec : ∀ {l : List AV}, scals l = true → ∀ x ∈ l, scal x = true
  | [], _, x, hx => by simp at hx
  | a :: r, h, x, hx => by
    simp only [scals] at h
    cases ha : scal a with
    | false => simp [ha] at h
    | true =>
      simp only [ha, cond_true] at h
      rcases List.mem_cons.1 hx with rfl | hx
      · exact ha
      · exact scals_spec h x hx

theorem VR.one {σ : Sg} {a : AV} {v : Value} (h : VR σ a v) (hs : scal a = true) : v.oneCell' = true := by
  cases a <;> simp only [VR] at h <;> try (simp [scal] at hs; done)
  all_goals (first | (subst h; rfl) | (obtain ⟨vs, hv, _⟩ := h; cases hv; rfl) | (obtain ⟨b, _, rfl⟩ := h; rfl) | (obtain ⟨b, _, rfl, _⟩ := h; rfl) | (obtain ⟨b, c, _, rfl⟩ := h; rfl) | (rcases h with ⟨b, c, _, rfl, _⟩ | ⟨rfl, _⟩ <;> rfl))

theorem VR.cells {σ : Sg} {a : AV} {v : Value} (h : VR σ a v) : VRs σ (cellsA a) v.cells.toList := by
  cases a with
  | agg cs => obtain ⟨vs, rfl, h⟩ := h; exact h
  | tup cs => obtain ⟨vs, rfl, h'⟩ := h; exact ⟨_, [], rfl, ⟨vs, rfl, h'⟩, rfl⟩
  | _ =>
    refine ⟨v, [], ?_, h, rfl⟩
    simp only [VR] at h
    first
      | (subst h; rfl)
      | (obtain ⟨vs, hv, _⟩ := h; cases hv; rfl)
      | (obtain ⟨b, _, rfl⟩ := h; rfl)
      | (obtain ⟨b, _, rfl, _⟩ := h; rfl)
      | (obtain ⟨b, c, _, rfl⟩ := h; rfl)
      | (rcases h with ⟨b, c, _, rfl, _⟩ | ⟨rfl, _⟩ <;> rfl)

theorem VRs.one {σ : Sg} : ∀ {a : List AV} {v : List Value}, VRs σ a v → scals a = true → ∀ x ∈ v, x.oneCell' = true
  | [], _, h, _, x, hx => by subst h; simp at hx
  | a :: as, _, ⟨v, vs, e, r, rs⟩, hs, x, hx => by
    subst e
    have h1 := scals_spec hs
    rcases List.mem_cons.1 hx with rfl | hx
    · exact r.one (h1 a (by simp))
    · refine VRs.one rs ?_ x hx
      simp only [scals] at hs
      cases ha : scal a <;> simp [ha] at hs
      exact hs

/-! ### Constants -/
theorem ofS_VR {σ : Sg} {v : Value} {a : AV} (h : ofS v = some a) : VR σ a v := by
  unfold ofS at h
  split at h <;> simp at h <;> subst h <;> simp [VR]

theorem mapO_VRs {σ : Sg} : ∀ {l : List Value} {m : List AV}, mapO ofS l = some m → VRs σ m l
  | [], m, h => by simp [mapO] at h; subst h; simp [VRs]
  | v :: r, m, h => by
    simp only [mapO] at h
    cases h1 : ofS v with
    | none => simp [h1] at h
    | some y =>
      cases h2 : mapO ofS r with
      | none => simp [h1, h2] at h
      | some l =>
        simp [h1, h2] at h
        subst h
        exact ⟨v, r, rfl, ofS_VR h1, mapO_VRs h2⟩

theorem ofV_VR {σ : Sg} {v : Value} {a : AV} (h : ofV v = some a) : VR σ a v := by
  unfold ofV at h
  split at h
  · rename_i cs
    cases h1 : mapO ofS cs.toList with
    | none => simp [h1] at h
    | some l => simp [h1] at h; subst h; exact ⟨cs, rfl, mapO_VRs h1⟩
  · exact ofS_VR h

/-! ### The states -/
def BlkR (σ : Sg) (w : World) (b : Ex) : Blk → Prop
  | .own cells el => b.off = 0 ∧ ∃ vs, w.heap[b.blk]? = some (.cells vs el (0, 0)) ∧ VRs σ cells vs.toList
  | .ro cells => ∀ j c, cells[j]? = some c → ∃ x, w.cell? ⟨b.blk, b.off + j, none⟩ = some x ∧ VR σ c x
  | .pre cells el sz => b.off = 0 ∧ b.n ≤ maxLen ∧ scals cells = true ∧ ∃ vs, w.heap[b.blk]? = some (.cells vs el (0, 0)) ∧ vs.size = b.n * sz ∧ VRs σ cells (vs.toList.take cells.length)

/-- A block of the call's own. -/
def OwnB : Option Blk → Prop
  | some (.own _ _) => True
  | some (.pre _ _ _) => True
  | _ => False

/-- A block of which something is known. -/
def LiveB : Option Blk → Prop
  | some (.ro []) => False
  | some _ => True
  | none => False

/-- The rows of a slice that came in, as they are in a world. -/
def RowsIn (w : World) (x : Ex) (r : List (Option IntKind) × (Nat → Nat → Int)) : Prop :=
  x.blk < w.heap.size ∧ ∀ j, j < x.n → ∀ k c, (cellsX (r.2 j) r.1 0)[k]? = some c → ∃ v, w.cell? ⟨x.blk, x.off + (j * r.1.length + k), none⟩ = some v ∧ ∀ τ, VR τ c v

def RowsOK (σ : Sg) (w : World) : Prop := ∀ i x r, σ i = some x → x.rows = some r → RowsIn w x r

/-- Memory: 'w0' the world in which the call began; 'U' the numbers that no block bears yet. -/
structure RepM (w0 : World) (G : Nat) (U : Nat → Prop) (σ : Sg) (m : Nat → Option Blk) (w : World) : Prop where
  below : Below w0.heap.size w0 w
  fresh : ∀ i, U i → σ i = none
  blk : ∀ i b, m i = some b → ∃ x, σ i = some x ∧ BlkR σ w x b
  own : ∀ i x, OwnB (m i) → σ i = some x → w0.heap.size ≤ x.blk
  inj : ∀ i j x y, σ i = some x → σ j = some y → i ≠ j → OwnB (m i) → LiveB (m j) → x.blk ≠ y.blk
  lt : ∀ i x, σ i = some x → x.blk < w.heap.size
  glob : ∀ g, g < G → σ g = some ⟨g, 0, 0, none⟩
  rows : RowsOK σ w0

structure RepE (σ : Sg) (nt : Nat) (e : Nat → Option (Option AV)) (a : Act) : Prop where
  dfr : a.defers = []
  size : a.tmps.size = nt
  env : ∀ t v, e t = some (some v) → ∃ x, a.tmps[t]? = some x ∧ VR σ v x
  und : ∀ t, e t = some none → a.tmps[t]? = some undef

theorem RepE.mono {σ σ' : Sg} {nt : Nat} {e : Nat → Option (Option AV)} {a : Act} (h : RepE σ nt e a) (hx : Ext σ σ') : RepE σ' nt e a :=
  ⟨h.dfr, h.size, fun t v ht => let ⟨x, h1, h2⟩ := h.env t v ht; ⟨x, h1, h2.mono hx⟩, h.und⟩

theorem lk_eq : ∀ (l : List (Nat × Option AV)) (t : Nat), lk l t = (lk2 l t).bind id
  | [], _ => rfl
  | (i, v) :: r, t => by
    simp only [lk, lk2]
    cases Nat.beq i t
    · exact lk_eq r t
    · rfl

theorem lk_some {l : List (Nat × Option AV)} {t : Nat} {v : AV} (h : lk l t = some v) : lk2 l t = some (some v) := by
  rw [lk_eq] at h
  cases h2 : lk2 l t with
  | none => simp [h2] at h
  | some o => simp [h2] at h; rw [h]

theorem cell_of_heap {w w' : World} {a : Addr} (h : w'.heap[a.block]? = w.heap[a.block]?) : w'.cell? a = w.cell? a := by
  simp [World.cell?, h]

theorem BlkR.mono {σ σ' : Sg} (hx : Ext σ σ') {w w' : World} {b : Ex} (hw : w'.heap[b.blk]? = w.heap[b.blk]?) : ∀ {k : Blk}, BlkR σ w b k → BlkR σ' w' b k
  | .own _ _, ⟨h0, vs, h1, h2⟩ => ⟨h0, vs, hw.trans h1, h2.mono hx⟩
  | .ro _, h => fun j c hc => let ⟨x, h1, h2⟩ := h j c hc; ⟨x, (cell_of_heap (a := ⟨b.blk, b.off + j, none⟩) hw).trans h1, h2.mono hx⟩
  | .pre _ _ _, ⟨h0, h1, h2, vs, h3, h4, h5⟩ => ⟨h0, h1, h2, vs, hw.trans h3, h4, h5.mono hx⟩

/-- Nothing that was there has turned. -/
theorem RepM.later {w0 : World} {G : Nat} {U : Nat → Prop} {σ : Sg} {m : Nat → Option Blk} {w w' : World} (h : RepM w0 G U σ m w) (hb : Below w.heap.size w w') : RepM w0 G U σ m w' where
  below := h.below.trans (hb.mono h.below.size)
  fresh := h.fresh
  blk i b hb' := let ⟨x, h1, h2⟩ := h.blk i b hb'; ⟨x, h1, h2.mono (Ext.refl _) (hb.block _ (h.lt i x h1))⟩
  own := h.own
  inj := h.inj
  lt i x hx := Nat.lt_of_lt_of_le (h.lt i x hx) hb.size
  glob := h.glob
  rows := h.rows

theorem RowsIn.later {w w' : World} (hb : Below w.heap.size w w') {x : Ex} {r : List (Option IntKind) × (Nat → Nat → Int)} (h : RowsIn w x r) : RowsIn w' x r :=
  ⟨Nat.lt_of_lt_of_le h.1 hb.size, fun j hj k c hc => let ⟨v, h1, h2⟩ := h.2 j hj k c hc; ⟨v, (cell_of_heap (a := ⟨x.blk, x.off + (j * r.1.length + k), none⟩) (hb.block _ h.1)).trans h1, h2⟩⟩
theorem RowsOK.later {σ : Sg} {w w' : World} (h : RowsOK σ w) (hb : Below w.heap.size w w') : RowsOK σ w' := fun i x r hi hr => (h i x r hi hr).later hb

def updS (σ : Sg) (i : Nat) (x : Ex) : Sg := fun j => if j = i then some x else σ j
theorem updS_ext {σ : Sg} {i : Nat} {x : Ex} (h : σ i = none) : Ext σ (updS σ i x) := fun j y hy => by
  unfold updS
  split
  · rename_i e; subst e; rw [h] at hy; cases hy
  · exact hy

def updM (m : Nat → Option Blk) (i : Nat) (b : Blk) : Nat → Option Blk := fun j => if j = i then some b else m j

/-- A new block. -/
theorem RepM.newB {w0 : World} {G : Nat} {U : Nat → Prop} {σ : Sg} {m : Nat → Option Blk} {w : World} (h : RepM w0 G U σ m w) {i : Nat} (hi : U i) {vs : Array Value} (el : TypeId) (n : Nat) (b : Blk)
    (hv : ∀ σ', Ext σ σ' → BlkR σ' (w.alloc (.cells vs el (0, 0))) ⟨w.heap.size, 0, n, none⟩ b) : RepM w0 G (fun j => U j ∧ j ≠ i) (updS σ i ⟨w.heap.size, 0, n, none⟩) (updM m i b) (w.alloc (.cells vs el (0, 0))) := by
  have hn : σ i = none := h.fresh i hi
  have hx := updS_ext (x := ⟨w.heap.size, 0, n, none⟩) hn
  have hold : ∀ k, k < w.heap.size → (w.alloc (.cells vs el (0, 0))).heap[k]? = w.heap[k]? := fun k hk => Below.heap_alloc _ _ _ hk
  refine ⟨h.below.alloc h.below.size _, ?_, ?_, ?_, ?_, ?_, ?_, ?_⟩
  · rintro j ⟨hj, hne⟩
    simp [updS, hne, h.fresh j hj]
  · intro j b hb
    unfold updM at hb
    by_cases hj : j = i
    · subst hj
      simp at hb
      subst hb
      exact ⟨⟨w.heap.size, 0, n, none⟩, by simp [updS], hv _ hx⟩
    · simp [hj] at hb
      obtain ⟨x, h1, h2⟩ := h.blk j b hb
      exact ⟨x, hx _ _ h1, h2.mono hx (hold _ (h.lt j x h1))⟩
  · intro j x hb hs
    unfold updM at hb
    by_cases hj : j = i
    · subst hj
      simp [updS] at hs
      subst hs
      exact h.below.size
    · simp [hj] at hb
      simp [updS, hj] at hs
      exact h.own j x hb hs
  · intro j k x y hjx hky hne ho hlv
    by_cases hj : j = i
    · subst hj
      have hk : k ≠ j := Ne.symm hne
      simp [updS] at hjx
      simp [updS, hk] at hky
      subst hjx
      have := h.lt k y hky
      show w.heap.size ≠ y.blk
      omega
    · simp [updS, hj] at hjx
      by_cases hk : k = i
      · subst hk
        simp [updS] at hky
        subst hky
        have := h.lt j x hjx
        show x.blk ≠ w.heap.size
        omega
      · simp [updS, hk] at hky
        exact h.inj j k x y hjx hky hne (by simpa [updM, hj] using ho) (by simpa [updM, hk] using hlv)
  · intro j x hs
    by_cases hj : j = i
    · subst hj
      simp [updS] at hs
      subst hs
      simp
    · simp [updS, hj] at hs
      have := h.lt j x hs
      simp
      omega
  · intro g hg
    exact hx _ _ (h.glob g hg)
  · intro j x r hs hr
    by_cases hj : j = i
    · subst hj
      simp [updS] at hs
      subst hs
      cases hr
    · simp [updS, hj] at hs
      exact h.rows j x r hs hr

theorem RepM.new {w0 : World} {G : Nat} {U : Nat → Prop} {σ : Sg} {m : Nat → Option Blk} {w : World} (h : RepM w0 G U σ m w) {i : Nat} (hi : U i) {cs : List AV} {vs : Array Value} (el : TypeId)
    (hv : VRs σ cs vs.toList) : RepM w0 G (fun j => U j ∧ j ≠ i) (updS σ i ⟨w.heap.size, 0, 0, none⟩) (updM m i (.own cs el)) (w.alloc (.cells vs el (0, 0))) :=
  h.newB hi el 0 _ fun _ hx => ⟨rfl, vs, heap_alloc_new w _, hv.mono hx⟩

theorem RepM.newP {w0 : World} {G : Nat} {U : Nat → Prop} {σ : Sg} {m : Nat → Option Blk} {w : World} (h : RepM w0 G U σ m w) {i : Nat} (hi : U i) {cs : List AV} {vs : Array Value} (el : TypeId) {n sz : Nat}
    (hn : n ≤ maxLen) (hsc : scals cs = true) (hsz : vs.size = n * sz) (hv : VRs σ cs vs.toList) : RepM w0 G (fun j => U j ∧ j ≠ i) (updS σ i ⟨w.heap.size, 0, n, none⟩) (updM m i (.pre cs el sz)) (w.alloc (.cells vs el (0, 0))) :=
  h.newB hi el n _ fun _ hx => ⟨rfl, hn, hsc, vs, heap_alloc_new w _, hsz, by
    have hl := hv.length
    rw [← hl, List.take_length]
    exact hv.mono hx⟩

theorem setRow_below {w0 w : World} {g : Nat} {cs : Array Value} (h : Below w0.heap.size w0 w) (hg : w0.heap.size ≤ g) : Below w0.heap.size w0 (w.setRow g cs) :=
  ⟨h.os, h.tape, h.output, by simpa using h.size, fun k hk => (setRow_other w g k cs (by omega)).trans (h.block k hk)⟩

theorem BlkR.gone {σ : Sg} {w : World} {x : Ex} {b : Blk} (h : ¬ LiveB (some b)) : BlkR σ w x b := by
  match b, h with
  | .ro [], _ => intro j c hc; simp at hc
  | .ro (_ :: _), h => exact absurd trivial h
  | .own _ _, h => exact absurd trivial h
  | .pre _ _ _, h => exact absurd trivial h

/-- A block of the call's own, written. -/
theorem RepM.put {w0 : World} {G : Nat} {U : Nat → Prop} {σ : Sg} {m : Nat → Option Blk} {w : World} (h : RepM w0 G U σ m w) {i : Nat} {cs cs' : List AV} {el : TypeId} {x : Ex} {vs : Array Value}
    (hi : m i = some (.own cs el)) (hs : σ i = some x) (hv : VRs σ cs' vs.toList) : RepM w0 G U σ (updM m i (.own cs' el)) (w.setRow x.blk vs) := by
  obtain ⟨x', hx', h0, us, hus, _⟩ := h.blk i _ hi
  obtain rfl : x = x' := by rw [hs] at hx'; exact Option.some.inj hx'
  have hoi : OwnB (m i) := by rw [hi]; trivial
  have hli : LiveB (m i) := by rw [hi]; trivial
  refine ⟨setRow_below h.below (h.own i x hoi hs), h.fresh, ?_, ?_, ?_, ?_, h.glob, h.rows⟩
  · intro j b hb
    unfold updM at hb
    by_cases hj : j = i
    · subst hj
      simp at hb
      subst hb
      exact ⟨x, hs, h0, vs, setRow_heap w _ _ _ _ _ hus, hv⟩
    · simp [hj] at hb
      obtain ⟨y, h1, h2⟩ := h.blk j b hb
      by_cases hlv : LiveB (m j)
      · exact ⟨y, h1, h2.mono (Ext.refl _) (setRow_other w _ _ _ (fun e => h.inj i j x y hs h1 (Ne.symm hj) hoi hlv e.symm))⟩
      · exact ⟨y, h1, BlkR.gone (by rw [← hb]; exact hlv)⟩
  · intro j y hb hy
    unfold updM at hb
    by_cases hj : j = i
    · subst hj
      rw [hs] at hy
      obtain rfl := Option.some.inj hy
      exact h.own j x hoi hs
    · simp [hj] at hb
      exact h.own j y hb hy
  · intro j k y z hy hz hne ho hlv
    refine h.inj j k y z hy hz hne ?_ ?_
    · by_cases hj : j = i
      · subst hj; exact hoi
      · simpa [updM, hj] using ho
    · by_cases hk : k = i
      · subst hk; exact hli
      · simpa [updM, hk] using hlv
  · intro j y hy
    simpa using h.lt j y hy

/-- A slice of the call's own that has grown. -/
theorem RepM.app {w0 : World} {G : Nat} {U : Nat → Prop} {σ : Sg} {m : Nat → Option Blk} {w w' : World} (h : RepM w0 G U σ m w) {i id : Nat} (hid : U id) {cs cs' : List AV} {el : TypeId} {sz n cap : Nat} {x : Ex} {g : Nat} {cur : Array Value}
    (hi : m i = some (.pre cs el sz)) (hs : σ i = some x) (hgrow : w.grownBy w' (some x.blk)) (hat : g = x.blk ∨ g = w.heap.size) (hh : w'.heap[g]? = some (.cells cur el (0, 0))) (hcap : cap ≤ maxLen) (hsc : scals cs' = true) (hcs : cur.size = cap * sz)
    (hv : VRs σ cs' (cur.toList.take cs'.length)) : RepM w0 G (fun j => U j ∧ j ≠ id) (updS σ id ⟨g, 0, cap, none⟩) (updM (updM m i (.ro [])) id (.pre cs' el sz)) w' := by
  have hn : σ id = none := h.fresh id hid
  have hx := updS_ext (x := ⟨g, 0, cap, none⟩) hn
  have hne : id ≠ i := fun e => by subst e; rw [hn] at hs; cases hs
  have hoi : OwnB (m i) := by rw [hi]; trivial
  have hli : LiveB (m i) := by rw [hi]; trivial
  have hxo := h.own i x hoi hs
  have hxl := h.lt i x hs
  have hold : ∀ k, k < w.heap.size → k ≠ x.blk → w'.heap[k]? = w.heap[k]? := fun k hk hne => hgrow.block k hk (fun e => hne (Option.some.inj e))
  have hg : w0.heap.size ≤ g := by
    rcases hat with rfl | rfl
    · exact hxo
    · exact h.below.size
  refine ⟨⟨hgrow.os.trans h.below.os, hgrow.tape.trans h.below.tape, hgrow.output.trans h.below.output, Nat.le_trans h.below.size hgrow.size, fun k hk => (hold k (Nat.lt_of_lt_of_le hk h.below.size) (by omega)).trans (h.below.block k hk)⟩, ?_, ?_, ?_, ?_, ?_, ?_, ?_⟩
  · rintro j ⟨hj, hne⟩
    simp [updS, hne, h.fresh j hj]
  · intro j b hb
    unfold updM at hb
    by_cases hj : j = id
    · subst hj
      simp at hb
      subst hb
      exact ⟨⟨g, 0, cap, none⟩, by simp [updS], rfl, hcap, hsc, cur, hh, hcs, hv.mono hx⟩
    · simp only [hj, if_false] at hb
      by_cases hji : j = i
      · subst hji
        simp at hb
        subst hb
        exact ⟨x, hx _ _ hs, fun j c hc => by simp at hc⟩
      · simp only [hji, if_false] at hb
        obtain ⟨y, h1, h2⟩ := h.blk j b hb
        refine ⟨y, hx _ _ h1, ?_⟩
        by_cases hlv : LiveB (m j)
        · exact h2.mono hx (hold _ (h.lt j y h1) (fun e => h.inj i j x y hs h1 (Ne.symm hji) hoi hlv e.symm))
        · exact BlkR.gone (by rw [← hb]; exact hlv)
  · intro j y hb hy
    unfold updM at hb
    by_cases hj : j = id
    · subst hj
      simp [updS] at hy
      subst hy
      exact hg
    · simp only [hj, if_false] at hb
      simp [updS, hj] at hy
      by_cases hji : j = i
      · subst hji
        simp [OwnB] at hb
      · simp only [hji, if_false] at hb
        exact h.own j y hb hy
  · intro j k y z hy hz hjk ho hlv
    unfold updM at ho hlv
    by_cases hk : k = id
    · subst hk
      simp [updS] at hz
      subst hz
      have hj : j ≠ k := hjk
      simp [updS, hj] at hy
      simp only [hj, if_false] at ho
      by_cases hji : j = i
      · subst hji; simp [OwnB] at ho
      · simp only [hji, if_false] at ho
        show y.blk ≠ g
        rcases hat with rfl | rfl
        · exact h.inj j i y x hy hs hji ho hli
        · have := h.lt j y hy; omega
    · simp only [hk, if_false] at hlv
      simp [updS, hk] at hz
      by_cases hki : k = i
      · subst hki; simp [LiveB] at hlv
      · simp only [hki, if_false] at hlv
        by_cases hj : j = id
        · subst hj
          simp [updS] at hy
          subst hy
          show g ≠ z.blk
          rcases hat with rfl | rfl
          · exact h.inj i k x z hs hz (Ne.symm hki) hoi hlv
          · have := h.lt k z hz; omega
        · simp only [hj, if_false] at ho
          simp [updS, hj] at hy
          by_cases hji : j = i
          · subst hji; simp [OwnB] at ho
          · simp only [hji, if_false] at ho
            exact h.inj j k y z hy hz hjk ho hlv
  · intro j y hy
    by_cases hj : j = id
    · subst hj
      simp [updS] at hy
      subst hy
      exact (Array.getElem?_eq_some_iff.1 hh).1
    · simp [updS, hj] at hy
      exact Nat.lt_of_lt_of_le (h.lt j y hy) hgrow.size
  · intro g' hg'
    exact hx _ _ (h.glob g' hg')
  · intro j y r hy hr
    by_cases hj : j = id
    · subst hj
      simp [updS] at hy
      subst hy
      cases hr
    · simp [updS, hj] at hy
      exact h.rows j y r hy hr
end Go.VE
