/-
  FROM A LAW's EVALUATION TO THE GIVEN ROW: arguments opened by their types, listed variables read, and the row's post.
-/
import Derived.Test.YtfpmbgknojbkcaaDoorVEm
import Derived.ProofKit
import Derived.ChangeOld
import Derived.Carry
import Derived.JoinedOf
import Derived.LaidLaws
namespace Go.VE
open Go.RowKit (Below)
open Go.ChangeShapes Go.WideShapes
set_option linter.unusedSimpArgs false
set_option linter.unusedVariables false

/-! ### Arguments, by their types -/
inductive Leaf where
  | int (k : IntKind) | bool | str

def leafOf (P : Program) (u : TypeId) : Option Leaf :=
  match P.underlying u with
  | some (.int k) => some (.int k)
  | some .bool => some .bool
  | some .string => some .str
  | _ => none

def FitC : Leaf → AV → Prop
  | .int k, a => ∃ n, a = .int k n ∧ k.has n
  | .bool, a => ∃ b, a = .bool b
  | .str, a => ∃ s : ByteArray, a = .str s ∧ (s.size : Int) ≤ IntKind.i64.max

def FitL : List Leaf → List AV → Prop
  | [], l => l = []
  | x :: r, l => ∃ a l', l = a :: l' ∧ FitC x a ∧ FitL r l'

structure Fit where
  agg : Bool
  leaves : List Leaf

def fitOf (P : Program) (t : TypeId) : Option Fit :=
  match P.underlying t with
  | some (.struct _) | some (.array _ _) => match P.cellTypes P.depth t with
    | some ts => bif Nat.beq (P.cellsOf t) ts.length then match mapO (leafOf P) ts with
        | some ls => some ⟨true, ls⟩
        | none => none
      else none
    | none => none
  | _ => match leafOf P t with
    | some l => some ⟨false, [l]⟩
    | none => none

def FitV (f : Fit) (a : AV) : Prop :=
  match f.agg with
  | true => ∃ cs, a = .agg cs ∧ FitL f.leaves cs
  | false => FitL f.leaves [a]

def FitA : List Fit → List AV → Prop
  | [], l => l = []
  | f :: r, l => ∃ a l', l = a :: l' ∧ FitV f a ∧ FitA r l'

section
variable {P : Program} {w : World} {r : Reach} {base : Nat}

theorem leaf_fit {u : TypeId} {l : Leaf} (h : leafOf P u = some l) {v : Value} (hv : Cell.okWide P w r base u v) : ∃ a, FitC l a ∧ plain a = true ∧ ∀ σ, VR σ a v := by
  unfold leafOf at h
  unfold Cell.okWide at hv
  cases hu : P.underlying u with
  | none => simp [hu] at h
  | some d =>
    cases d <;> simp only [hu] at h hv <;> try (cases h; done)
    all_goals
      obtain rfl := Option.some.inj h
      unfold Cell.ok at hv
      rw [hu] at hv
      cases v <;> simp only at hv <;> try (exact hv.elim)
    · exact ⟨_, ⟨_, rfl⟩, rfl, fun _ => rfl⟩
    · obtain ⟨rfl, hn⟩ := hv
      exact ⟨_, ⟨_, rfl, hn⟩, rfl, fun _ => rfl⟩
    · exact ⟨_, ⟨_, rfl, hv⟩, rfl, fun _ => rfl⟩

theorem leaves_fit : ∀ {ts : List TypeId} {ls : List Leaf} {cs : List Value}, mapO (leafOf P) ts = some ls → cs.length = ts.length → (∀ (i : Nat) v, cs[i]? = some v → ∃ u, ts[i]? = some u ∧ Cell.okWide P w r base u v) →
    ∃ as, FitL ls as ∧ plains as = true ∧ ∀ σ, VRs σ as cs
  | [], ls, cs, h, hl, _ => by
    simp [mapO] at h
    subst h
    have : cs = [] := List.eq_nil_of_length_eq_zero (by simpa using hl)
    subst this
    exact ⟨[], rfl, rfl, fun _ => rfl⟩
  | t :: ts, ls, cs, h, hl, hc => by
    cases cs with
    | nil => simp at hl
    | cons c cs =>
      simp only [mapO] at h
      cases h1 : leafOf P t with
      | none => simp [h1] at h
      | some l =>
        cases h2 : mapO (leafOf P) ts with
        | none => simp [h1, h2] at h
        | some ls' =>
          simp [h1, h2] at h
          subst h
          obtain ⟨u, hu, hok⟩ := hc 0 c rfl
          simp at hu
          subst hu
          obtain ⟨a, ha1, ha2, ha3⟩ := leaf_fit h1 hok
          obtain ⟨as, h3, h4, h5⟩ := leaves_fit h2 (by simpa using hl) (fun i v hv => by
            obtain ⟨u, hu, hok⟩ := hc (i + 1) v (by simpa using hv)
            exact ⟨u, by simpa using hu, hok⟩)
          exact ⟨a :: as, ⟨a, as, rfl, ha1, h3⟩, by simp [plains, ha2, h4], fun σ => ⟨c, cs, rfl, ha3 σ, h5 σ⟩⟩

theorem value_fit {t : TypeId} {f : Fit} (h : fitOf P t = some f) {v : Value} (hv : Value.okWide P w r base t v) : ∃ a, FitV f a ∧ plainV a = true ∧ ∀ σ, VR σ a v := by
  have agg : (∃ cs, v = .agg cs ∧ cs.size = P.cellsOf t ∧ Row.okWide P w r base t cs) → (match P.cellTypes P.depth t with
      | some ts => bif Nat.beq (P.cellsOf t) ts.length then match mapO (leafOf P) ts with
          | some ls => some (⟨true, ls⟩ : Fit)
          | none => none
        else none
      | none => none) = some f → ∃ a, FitV f a ∧ plainV a = true ∧ ∀ σ, VR σ a v := by
    rintro ⟨cs, rfl, hsz, ts, hts, _, hcell⟩ h
    rw [hts] at h
    obtain ⟨hlen, h5⟩ := bif_some h
    have hlen : P.cellsOf t = ts.length := Nat.eq_of_beq_eq_true hlen
    cases hm : mapO (leafOf P) ts with
    | none => simp [hm] at h5
    | some ls =>
      simp [hm] at h5
      subst h5
      obtain ⟨as, h1, h2, h3⟩ := leaves_fit hm (cs := cs.toList) (by simp; omega) (fun i v hi => by
        have hlt : i < cs.size := by
          have := (List.getElem?_eq_some_iff.1 hi).1
          simpa using this
        obtain ⟨u, hu, hok⟩ := hcell i v (by simpa using hi)
        rw [Nat.mod_eq_of_lt (by omega)] at hu
        exact ⟨u, hu, hok⟩)
      exact ⟨.agg as, ⟨as, rfl, h1⟩, by simpa [plainV, plain1] using h2, fun σ => ⟨cs, rfl, h3 σ⟩⟩
  have one : Cell.okWide P w r base t v → (match leafOf P t with
      | some l => some (⟨false, [l]⟩ : Fit)
      | none => none) = some f → ∃ a, FitV f a ∧ plainV a = true ∧ ∀ σ, VR σ a v := by
    intro hv h
    cases hl : leafOf P t with
    | none => simp [hl] at h
    | some l =>
      simp [hl] at h
      subst h
      obtain ⟨a, h1, h2, h3⟩ := leaf_fit hl hv
      refine ⟨a, ⟨a, [], rfl, h1, rfl⟩, ?_, h3⟩
      cases a <;> simp [plain] at h2 <;> rfl
  unfold fitOf at h
  unfold Value.okWide at hv
  cases hu : P.underlying t with
  | none =>
    simp only [hu] at h hv
    exact one hv h
  | some d =>
    cases d <;> simp only [hu] at h hv <;> first | exact one hv h | exact agg hv h

theorem args_fit : ∀ {ts : List TypeId} {fs : List Fit} {vs : List Value}, ts.map (fitOf P) = fs.map some → vs.length = ts.length → (∀ (j : Nat) t v, ts[j]? = some t → vs[j]? = some v → Value.okWide P w r base t v) →
    ∃ as, FitA fs as ∧ plainVs as = true ∧ ∀ σ, VRs σ as vs
  | [], fs, vs, h, hl, _ => by
    have : vs = [] := List.eq_nil_of_length_eq_zero (by simpa using hl)
    subst this
    cases fs with
    | nil => exact ⟨[], rfl, rfl, fun _ => rfl⟩
    | cons f fs => simp at h
  | t :: ts, fs, vs, h, hl, hv => by
    cases vs with
    | nil => simp at hl
    | cons v vs =>
      cases fs with
      | nil => simp at h
      | cons f fs =>
        simp only [List.map_cons, List.cons.injEq] at h
        obtain ⟨a, h1, h2, h3⟩ := value_fit h.1 (hv 0 t v rfl rfl)
        obtain ⟨as, h4, h5, h6⟩ := args_fit h.2 (by simpa using hl) (fun j t v ht hv' => hv (j + 1) t v (by simpa using ht) (by simpa using hv'))
        exact ⟨a :: as, ⟨a, as, rfl, h1, h4⟩, by simp [plainVs, h2, h5], fun σ => ⟨v, vs, rfl, h3 σ, h6 σ⟩⟩
end

/-! ### Listed variables -/
mutual
def flatD : DataW Unit → Option (List AV)
  | .lit (.int k n) => some [.int k n]
  | .lit (.bool b) => some [.bool b]
  | .lit (.string s) => some [.str ⟨s.toArray⟩]
  | .agg l => flatDs l
  | _ => none
def flatDs : List (DataW Unit) → Option (List AV)
  | [] => some []
  | d :: r => match flatD d with
    | some l => match flatDs r with
      | some m => some (l ++ m)
      | none => none
    | none => none
end

theorem flatDs_cons {d : DataW Unit} {r : List (DataW Unit)} {l : List AV} (h : flatDs (d :: r) = some l) : ∃ a b, flatD d = some a ∧ flatDs r = some b ∧ l = a ++ b := by
  rw [flatDs] at h
  cases h1 : flatD d with
  | none => simp [h1] at h
  | some a =>
    cases h2 : flatDs r with
    | none => simp [h1, h2] at h
    | some b => simp [h1, h2] at h; exact ⟨a, b, rfl, rfl, h.symm⟩

/-- Neighbouring pieces of a list, one behind the other. -/
theorem pieces_VRs {σ : Sg} {cs : List Value} : ∀ (l : List (Nat × Nat)) (ds : List (DataW Unit)) (o : Nat) (avs : List AV), l.length = ds.length →
    (∀ (j : Nat) (q : Nat × Nat), l[j]? = some q → q.1 = o + ((l.take j).map (·.2)).sum) → (∀ (j : Nat) (q : Nat × Nat) (d : DataW Unit) (a : List AV), l[j]? = some q → ds[j]? = some d → flatD d = some a → VRs σ a ((cs.drop q.1).take q.2)) → flatDs ds = some avs →
    VRs σ avs ((cs.drop o).take ((l.map (·.2)).sum))
  | [], [], o, avs, _, _, _, h => by
    rw [flatDs] at h
    simp at h
    subst h
    simp [VRs]
  | [], _ :: _, _, _, h, _, _, _ => by simp at h
  | _ :: _, [], _, _, h, _, _, _ => by simp at h
  | q :: l, d :: ds, o, avs, hl, ho, hv, h => by
    obtain ⟨a, b, h1, h2, rfl⟩ := flatDs_cons h
    have hq0 := ho 0 q rfl
    simp at hq0
    have hva := hv 0 q d a rfl rfl h1
    have hvb := pieces_VRs (σ := σ) (cs := cs) l ds (o + q.2) b (by simpa using hl) (fun j p hj => by
      have := ho (j + 1) p (by simpa using hj)
      simp only [List.take_succ_cons, List.map_cons, List.sum_cons] at this
      omega) (fun j p d' a' hj hd ha => hv (j + 1) p d' a' (by simpa using hj) (by simpa using hd) ha) h2
    rw [hq0] at hva
    have := hva.append hvb
    simp only [List.map_cons, List.sum_cons]
    rw [List.take_add, List.drop_drop]
    exact this

section
variable {P : Program} {w : World}

theorem isVar_und {t : TypeId} (h : isVar P t = true) : ∃ d, P.underlying t = some d := by
  unfold isVar at h
  cases hu : P.underlying t with
  | none => simp [hu, kindOk] at h
  | some d => exact ⟨d, rfl⟩

theorem trod_flat (hlo : laidOutB P = true) {bs : Nat} {sp : Nat → Bool} {hd : Bool} {σ : Sg} : ∀ (fuel : Nat) (t : TypeId) (cs : List Value) (d : DataW Unit) (ps : List MemPlace) (avs : List AV), isVar P t = true →
    DataW.trod (fun _ => ()) P w bs sp hd fuel t cs = some (d, ps) → flatD d = some avs → VRs σ avs cs
  | 0, _, _, _, _, _, _, h, _ => by simp [DataW.trod] at h
  | fuel + 1, t, cs, d, ps, avs, hvar, h, hf => by
    obtain ⟨td, hu⟩ := isVar_und hvar
    have hrow : rowFine P t = true := by
      unfold laidOutB at hlo
      simp only [Bool.and_eq_true] at hlo
      have hlt : t < P.types.size := by
        unfold isVar at hvar
        simp at hvar
        exact hvar.1
      exact List.all_eq_true.1 hlo.1.1 t (List.mem_range.2 hlt)
    unfold rowFine at hrow
    rw [hvar, hu] at hrow
    simp only [DataW.trod, hu] at h
    cases td with
    | struct fs =>
      simp only at h
      simp only [Bool.not_true, Bool.false_or, Bool.and_eq_true, beq_iff_eq, List.all_eq_true] at hrow
      obtain ⟨⟨hv, hsum⟩, hoff⟩ := hrow
      split at h
      · rename_i hl
        simp only [Option.map_eq_some_iff, Prod.mk.injEq] at h
        obtain ⟨xs, hxs, rfl, rfl⟩ := h
        have hlen := mapM_some_length hxs
        rw [flatD] at hf
        have := pieces_VRs (σ := σ) (cs := cs) (fs.toList.map fun f => (f.offset, P.cellsOf f.type)) (xs.map (·.1)) 0 avs (by simp only [List.length_map]; omega)
          (fun j (q : Nat × Nat) hj => by
            simp only [List.getElem?_map, Option.map_eq_some_iff] at hj
            obtain ⟨f, hf', rfl⟩ := hj
            have := hoff j (List.mem_range.2 (List.getElem?_eq_some_iff.1 hf').1)
            rw [hf'] at this
            simp only [beq_iff_eq] at this
            simp [this, ← List.map_take, Function.comp_def])
          (fun j (q : Nat × Nat) d' a hj hd' ha => by
            simp only [List.getElem?_map, Option.map_eq_some_iff] at hj hd'
            obtain ⟨f, hf', rfl⟩ := hj
            obtain ⟨y, hy, rfl⟩ := hd'
            have hg := mapM_some_get hxs j f hf'
            rw [hy] at hg
            exact trod_flat hlo fuel f.type _ y.1 y.2 a (hv f (List.mem_of_getElem? hf')) hg ha) hf
        rw [List.drop_zero, List.take_of_length_le (by rw [hl, hsum]; simp [Function.comp_def])] at this
        exact this
      · cases h
    | array n e =>
      simp only at h
      simp only [Bool.not_true, Bool.false_or, Bool.and_eq_true, beq_iff_eq] at hrow
      obtain ⟨hv, hsum⟩ := hrow
      split at h
      · rename_i hl
        simp only [Option.map_eq_some_iff, Prod.mk.injEq] at h
        obtain ⟨xs, hxs, rfl, rfl⟩ := h
        have hlen := mapM_some_length hxs
        rw [flatD] at hf
        have hs : ∀ m, (((List.range m).map fun i => (i * P.cellsOf e, P.cellsOf e)).map (·.2)).sum = m * P.cellsOf e := by
          intro m
          induction m with
          | zero => simp
          | succ m ih => rw [List.range_succ, List.map_append, List.map_append, List.sum_append, ih, Nat.add_mul]; simp
        have := pieces_VRs (σ := σ) (cs := cs) ((List.range n).map fun i => (i * P.cellsOf e, P.cellsOf e)) (xs.map (·.1)) 0 avs (by simp at hlen; simp [hlen])
          (fun j (q : Nat × Nat) hj => by
            simp only [List.getElem?_map, Option.map_eq_some_iff] at hj
            obtain ⟨i, hi, rfl⟩ := hj
            obtain ⟨hi1, hi2⟩ := List.getElem?_eq_some_iff.1 hi
            simp at hi1 hi2
            subst hi2
            have e1 : (List.range n).take j = List.range j := by rw [List.take_range, Nat.min_eq_left (by omega)]
            rw [← List.map_take, e1, hs]
            simp)
          (fun j (q : Nat × Nat) d' a hj hd' ha => by
            simp only [List.getElem?_map, Option.map_eq_some_iff] at hj hd'
            obtain ⟨i, hi, rfl⟩ := hj
            obtain ⟨y, hy, rfl⟩ := hd'
            have hg := mapM_some_get hxs j i hi
            rw [hy] at hg
            exact trod_flat hlo fuel e _ y.1 y.2 a hv hg ha) hf
        rw [List.drop_zero, hs, List.take_of_length_le (by rw [hl, hsum]; exact Nat.le_refl _)] at this
        exact this
      · cases h
    | bool =>
      split at h <;> try (cases h; done)
      all_goals (rename_i h1; try (cases h1; done))
      simp only [Option.some.injEq, Prod.mk.injEq] at h
      obtain ⟨rfl, rfl⟩ := h
      simp only [flatD, Option.some.injEq] at hf
      subst hf
      exact ⟨_, _, rfl, rfl, rfl⟩
    | int k =>
      split at h <;> try (cases h; done)
      all_goals (rename_i h1; try (cases h1; done))
      cases h1
      split at h <;> try (cases h; done)
      rename_i hk
      simp only [Option.some.injEq, Prod.mk.injEq] at h
      obtain ⟨rfl, rfl⟩ := h
      simp only [flatD, Option.some.injEq] at hf
      subst hf
      obtain ⟨rfl, _⟩ := hk
      exact ⟨_, _, rfl, rfl, rfl⟩
    | string =>
      split at h <;> try (cases h; done)
      all_goals (rename_i h1; try (cases h1; done))
      split at h <;> try (cases h; done)
      simp only [Option.some.injEq, Prod.mk.injEq] at h
      obtain ⟨rfl, rfl⟩ := h
      simp only [flatD, Option.some.injEq] at hf
      subst hf
      exact ⟨_, _, rfl, by simp [VR], rfl⟩
    | _ =>
      exfalso
      repeat' split at h
      all_goals first
        | (cases h; done)
        | (rename_i h1; cases h1; done)
        | (rename_i h1 _; cases h1; done)
        | (rename_i h1 _ _; cases h1; done)
        | (cases h; simp [flatD] at hf; done)
        | (simp only [Option.map_eq_some_iff, Option.bind_eq_some_iff, Prod.mk.injEq] at h
           obtain ⟨_, _, rfl, _⟩ := h
           simp [flatD] at hf; done)
        | (simp only [Option.map_eq_some_iff, Option.bind_eq_some_iff, Prod.mk.injEq] at h
           obtain ⟨_, _, _, _, rfl, _⟩ := h
           simp [flatD] at hf; done)
        | (simp only [Option.map_eq_some_iff, Option.bind_eq_some_iff] at h
           obtain ⟨_, _, h⟩ := h
           split at h
           · cases h; simp [flatD] at hf; done
           · cases h; done)
        | trace_state
end

/-- The listed variables' places and cells, out of the row's list. -/
noncomputable def glOf (P : Program) : List (String × DataW Unit) → Option (List (Nat × List AV))
  | [] => some []
  | (n, d) :: r => match P.globalNamed n with
    | some g => match (P.globals[g]?).map (·.type) with
      | some t => bif isVar P t then match flatD d with
          | some a => match glOf P r with
            | some l => some ((g, a) :: l)
            | none => none
          | none => none
        else none
      | none => none
    | none => none

def topG : List (Nat × List AV) → Nat
  | [] => 0
  | p :: r => Nat.max (p.1 + 1) (topG r)

theorem lt_topG : ∀ {l : List (Nat × List AV)} {p : Nat × List AV}, p ∈ l → p.1 < topG l
  | q :: r, p, h => by
    rcases List.mem_cons.1 h with rfl | h
    · exact Nat.lt_of_lt_of_le (Nat.lt_succ_self _) (Nat.le_max_left _ _)
    · exact Nat.lt_of_lt_of_le (lt_topG h) (Nat.le_max_right _ _)

section
variable {P : Program} {W : World}

theorem glOf_cells (hlo : laidOutB P = true) : ∀ {laid : List (String × DataW Unit)} {gl : List (Nat × List AV)} {ps : List MemPlace}, glOf P laid = some gl → DataW.LaidVars P W laid ps →
    ∀ p ∈ gl, p.1 < W.heap.size ∧ ∀ j c, p.2[j]? = some c → ∃ x, W.cell? ⟨p.1, j, none⟩ = some x ∧ ∀ σ, VR σ c x
  | [], gl, _, h, _ => by
    simp [glOf] at h
    subst h
    intro p hp
    cases hp
  | (n, d) :: r, gl, ps, h, hL => by
    obtain ⟨g, t, cs, fuel, p, q, h1, h2, h3, h4, h5, _⟩ := hL
    rw [glOf, h1] at h
    simp only [h2] at h
    obtain ⟨hvar, h⟩ := bif_some h
    cases hf : flatD d with
    | none => simp [hf] at h
    | some a =>
      cases hr : glOf P r with
      | none => simp [hf, hr] at h
      | some l =>
        simp [hf, hr] at h
        subst h
        intro x hx
        rcases List.mem_cons.1 hx with rfl | hx
        · refine ⟨?_, fun j c hc => ?_⟩
          · unfold World.var? at h3
            rw [h1] at h3
            simp only [Option.bind_some] at h3
            cases hh : W.heap[g]? with
            | none => simp [hh] at h3
            | some o => exact (Array.getElem?_eq_some_iff.1 hh).1
          · have hv := fun σ => trod_flat (σ := σ) hlo fuel t cs.toList d p a hvar h4 hf
            have hj := fun σ => (hv σ).get hc
            obtain ⟨x, hx1, _⟩ := hj (fun _ => none)
            refine ⟨x, by rw [World.var?_cell h1 h3 j]; simpa using hx1, fun σ => ?_⟩
            obtain ⟨y, hy1, hy2⟩ := hj σ
            rw [hx1] at hy1
            cases hy1
            exact hy2
        · exact glOf_cells hlo hr h5 x hx

theorem laid_GOK (hlo : laidOutB P = true) {laid : List (String × DataW Unit)} {gl : List (Nat × List AV)} (h : glOf P laid = some gl) (hL : laidMet P laid W) : GOK (topG gl) gl W := by
  obtain ⟨ps, hL, _⟩ := hL
  have hc := glOf_cells hlo h hL
  refine ⟨?_, fun p hp => ⟨lt_topG hp, (hc p hp).2⟩⟩
  have : ∀ l : List (Nat × List AV), (∀ p ∈ l, p.1 < W.heap.size) → topG l ≤ W.heap.size := by
    intro l
    induction l with
    | nil => intro _; simp [topG]
    | cons q r ih =>
      intro hq
      simp only [topG]
      exact Nat.max_le.2 ⟨hq q (by simp), ih fun p hp => hq p (by simp [hp])⟩
  exact this gl fun p hp => (hc p hp).1

theorem trodAll_below {H : Type} {enc : TypeId × Value → H} (hlo : laidOutB P = true) {W' : World} (hb : Below W.heap.size W W') : ∀ {ts : List TypeId} {vs : List Value} {ds : List (DataW H)} {ps : List MemPlace},
    (ts.all fun t => P.readableRec t && decide (t < P.types.size)) = true → DataW.TrodAll enc P W 0 (fun _ => true) true ts vs ds ps → DataW.TrodAll enc P W' 0 (fun b => decide (b < W.heap.size)) true ts vs ds ps
  | [], [], [], _, _, h => h
  | t :: ts, v :: vs, d :: ds, ps, hr, h => by
    have hlt := h.lt
    obtain ⟨p, q, h1, h2, e⟩ := h
    simp only [List.all_cons, Bool.and_eq_true, decide_eq_true_eq] at hr
    exact ⟨p, q, Below.trod hlo hr.1.1 hr.1.2 h1 hb (fun x hx => hlt x (by rw [e]; simp [hx])), trodAll_below hlo hb (by simpa using hr.2) h2, e⟩
  | [], [], _ :: _, _, _, h => h.elim
  | [], _ :: _, _, _, _, h => h.elim
  | _ :: _, [], _, _, _, h => h.elim
  | _ :: _, _ :: _, [], _, _, h => h.elim

theorem trodAll_length {H : Type} {enc : TypeId × Value → H} {b : Nat} {sp : Nat → Bool} {hd : Bool} : ∀ {ts : List TypeId} {vs : List Value} {ds : List (DataW H)} {ps : List MemPlace}, DataW.TrodAll enc P W b sp hd ts vs ds ps → vs.length = ts.length ∧ ds.length = ts.length
  | [], [], [], _, _ => ⟨rfl, rfl⟩
  | _ :: _, _ :: _, _ :: _, _, ⟨_, _, _, h, _⟩ => by
    have := trodAll_length h
    simp [this.1, this.2]
  | [], [], _ :: _, _, h => h.elim
  | [], _ :: _, _, _, h => h.elim
  | _ :: _, [], _, _, h => h.elim
  | _ :: _, _ :: _, [], _, h => h.elim
end

def decB : AV → Option Bool
  | .bool b => some b
  | _ => none

/-- A LAW's ROW, from its evaluation: true whatever the arguments. -/
theorem law_handed {Ck : Checked} {os : Os} {k : FuncId} {fn : Func} {s : ChangeSpec} {apart fresh handsOn : Bool} {C : Ctx} {gl : List (Nat × List AV)} {laid : List (String × DataW Unit)} {fs : List Fit} (n : Nat) {tb : TypeId}
    (hC : CtxOK Ck.prog C gl) (hlaid : glOf Ck.prog laid = some gl) (hG : C.G = topG gl) (hlo : laidOutB Ck.prog = true)
    (hfit : fn.params.toList.map (fitOf Ck.prog) = fs.map some) (hpar : (fn.params.toList.all fun t => Ck.prog.readableRec t && decide (t < Ck.prog.types.size)) = true)
    (hres : fn.resultTypes.toList = [tb]) (htb : Ck.prog.underlying tb = some .bool)
    (hvars : s.vars = []) (hspec : ∀ (H : Type) (ds : List (DataW H)), ds.length = fs.length → s.fn H ds = { results := [.lit (.bool true)], args := ds })
    (hfn : Ck.prog.funcs[k]? = some fn) (hev : ∀ avs, FitA fs avs → evF C n fn avs (glMem gl) C.G decB = some true)
    (H : Type) (enc : TypeId × Value → H)
    (own : ownKnob Ck.prog.godebug = none) (started : os.Started) (noInit : Ck.prog.inits.idxOf? k = none)
    (witness : ∃ (w : World) (tape : Tape) (i : Input), w.os = os ∧ (w.forCall tape i).Shaped Ck.prog ∧ i.vars = [] ∧ Input.okWide Ck.prog (w.forCall tape i) .any w.heap.size k i ∧
      ((s.pre enc Ck.prog fn [] apart (w.forCall tape i).memory i.args ∧ laidMet Ck.prog laid (w.forCall tape i).memory) ∧ sizedMet enc Ck.prog fn (OpenSpec.ofChange s) apart (w.forCall tape i).memory i.args) ∧ ({} : Assume).holds Ck.prog (lone (Frame.enter Ck.prog k i.args .normal) [] (w.forCall tape i))) :
    ReturnsInHanded {} Ck os k .any (fun w args => (s.pre enc Ck.prog fn [] apart w args ∧ laidMet Ck.prog laid w) ∧ sizedMet enc Ck.prog fn (OpenSpec.ofChange s) apart w args)
      (s.post enc Ck.prog fn apart fresh handsOn false) := by
  refine returnsInHanded_of_change_and (C := Ck) (X := fun w _ => laidMet Ck.prog laid w) (fun _ _ _ hh h => h.of_heap hh) own started noInit hfn witness ?_
  intro W base args ds gs before hval hW _ _ hL _
  have hW' := hW
  obtain ⟨p, q, hA, hV, rfl, hfz, hnd⟩ := hW
  obtain ⟨hl1, hl2⟩ := trodAll_length hA
  have hgs : gs = [] := by
    rw [hvars] at hV
    cases gs with
    | nil => rfl
    | cons g r => exact absurd hV (by intro h; cases h)
  subst hgs
  have hlen : fn.params.toList.length = fs.length := by simpa using congrArg List.length hfit
  obtain ⟨avs, hf1, hf2, hf3⟩ := args_fit (vs := args.toList) hfit hl1 (fun j t v ht hv => hval j t v (by simpa using ht) (by simpa using hv))
  obtain ⟨v, hv1, hv2⟩ := calls_of_ev hC hfn n hf2 (hev avs hf1)
  have hvb : v = .bool true := by
    cases v <;> simp [decB] at hv1
    rw [hv1]
  subst hvb
  refine (hv2 (fun _ => none) args W (hf3 _) (by rw [hG]; exact laid_GOK hlo hlaid hL)).mono fun e W' ⟨rv, σ', he, hr, hb⟩ => ?_
  subst he
  have hrv : rv = .bool true := by simpa [VR] using hr
  subst hrv
  have hs := hspec H (ds ++ []) (by simp; omega)
  have hsz : fn.resultTypes.size = 1 := by
    have := congrArg List.length hres
    simpa using this
  refine ⟨_, rfl, ds, [], p ++ q, [], p, [], hW', ?_, ?_, ?_, hb.frame _, fun h => by cases h⟩
  · rw [hs, hres, hsz]
    exact trodAll_mk1 ⟨1, by simp [DataW.trod, htb, Value.resultList, Value.cells]⟩
  · rw [hs]
    simpa using trodAll_below hlo hb hpar hA
  · rw [hs, hvars]
    rfl

/-- A world that meets the row's condition: the settled one, the listed variables laid. -/
def avVal : AV → Value
  | .int k n => .int k n
  | .bool b => .bool b
  | .str s => .string s
  | _ => .bool false

noncomputable def layHeap (gl : List (Nat × List AV)) (h : Array Obj) : Array Obj :=
  gl.foldl (fun h p => h.modify p.1 fun
    | .cells _ t frozen => .cells (p.2.map avVal).toArray t frozen
    | o => o) h

noncomputable def laidW (P : Program) (gl : List (Nat × List AV)) (os : Os) : World :=
  { World.holding P os ⟨#[], #[], []⟩ with heap := layHeap gl (World.holding P os ⟨#[], #[], []⟩).heap }
end Go.VE
