/-
  THE READING MACHINE: types; and each operation on values, against the model's own.
-/
import Derived.Test.YtggiamcgkiaicaaDoorVEb
import Derived.Laws.Small
namespace Go.VE
open Go.RowKit (Below)
set_option linter.unusedSimpArgs false
set_option linter.unusedVariables false

/-! ### Types -/
def tyDOf (P : Program) (t : TypeId) : TypeDesc → Option TyD
  | .bool => some .bool
  | .int k => some (.int k)
  | .string => some .str
  | .pointer e => some (.ptr e)
  | .slice e => some (.slice e)
  | .array n e => bif P.eqGuardType P.depth t then none else some (.array n e)
  | .struct F => bif P.stoodInHeld t then none else bif P.eqGuardType P.depth t then none else
      bif F.toList.all (fun f => bif f.name == "_" then false else (P.info? f.type).isSome) then some (.struct (F.toList.map fun f => (f.type, f.offset))) else none
  | _ => some .other

def zeroOf (i : TypeInfo) : List AV :=
  match i.zero with
  | some z => match mapO ofS z.cells.toList with
    | some l => l
    | none => []
  | none => []

def tyOf (P : Program) (t : TypeId) : Option TyI :=
  match P.underlying t with
  | some d => match P.info? t with
    | some i => match tyDOf P t d with
      | some td => some ⟨td, i.size, zeroOf i, i.bytes⟩
      | none => none
    | none => none
  | none => none

section
variable {P : Program} {t : TypeId} {i : TyI}

theorem tyOf_spec (h : tyOf P t = some i) : ∃ d f, P.underlying t = some d ∧ P.info? t = some f ∧ tyDOf P t d = some i.d ∧ f.size = i.size ∧ zeroOf f = i.zero := by
  unfold tyOf at h
  cases hu : P.underlying t with
  | none => simp [hu] at h
  | some d =>
    cases hi : P.info? t with
    | none => simp [hu, hi] at h
    | some f =>
      cases ht : tyDOf P t d with
      | none => simp [hu, hi, ht] at h
      | some td => simp [hu, hi, ht] at h; subst h; exact ⟨d, f, rfl, rfl, ht, rfl, rfl⟩

theorem tyOf_info (h : tyOf P t = some i) : ∃ f, P.info? t = some f ∧ f.size = i.size ∧ zeroOf f = i.zero ∧ f.bytes = i.bytes := by
  unfold tyOf at h
  cases hu : P.underlying t with
  | none => simp [hu] at h
  | some d =>
    cases hi : P.info? t with
    | none => simp [hu, hi] at h
    | some f =>
      cases ht : tyDOf P t d with
      | none => simp [hu, hi, ht] at h
      | some td => simp [hu, hi, ht] at h; subst h; exact ⟨f, rfl, rfl, rfl, rfl⟩

theorem run_sizeOf' (h : tyOf P t = some i) (w : World) : (sizeOf t).run P w = .ok i.size w := by
  obtain ⟨d, f, _, hi, _, hs, _⟩ := tyOf_spec h
  simp [sizeOf, typeInfo, hi, hs]

def aggT : TypeDesc → Bool
  | .struct _ | .array _ _ => true
  | _ => false

/-- What a description of ours says of the model's. -/
def DescR (P : Program) (t : TypeId) : TyD → TypeDesc → Prop
  | .bool, d => d = .bool
  | .int k, d => d = .int k
  | .str, d => d = .string
  | .ptr e, d => d = .pointer e
  | .slice e, d => d = .slice e
  | .array n e, d => d = .array n e ∧ P.eqGuardType P.depth t = false
  | .struct fs, d => ∃ F : Array Field, d = .struct F ∧ fs = F.toList.map (fun f => (f.type, f.offset)) ∧ P.stoodInHeld t = false ∧ P.eqGuardType P.depth t = false ∧
      ∀ f ∈ F.toList, f.name ≠ "_" ∧ (P.info? f.type).isSome = true
  | .other, d => aggT d = false

theorem tyDOf_spec {d : TypeDesc} {td : TyD} (h : tyDOf P t d = some td) : DescR P t td d := by
  cases d
  case array n e =>
    simp only [tyDOf] at h
    cases he : P.eqGuardType P.depth t <;> simp [he] at h
    subst h
    exact ⟨rfl, he⟩
  case struct F =>
    simp only [tyDOf] at h
    cases hs : P.stoodInHeld t <;> simp only [hs, cond_true, cond_false] at h
    case true => cases h
    cases he : P.eqGuardType P.depth t <;> simp only [he, cond_true, cond_false] at h
    case true => cases h
    generalize ha : F.toList.all (fun f => bif f.name == "_" then false else (P.info? f.type).isSome) = b at h
    cases b <;> simp only [cond_true, cond_false] at h
    · cases h
    · obtain rfl := Option.some.inj h
      refine ⟨F, rfl, rfl, hs, he, fun f hf => ?_⟩
      have := List.all_eq_true.1 ha f hf
      cases hn : f.name == "_" <;> simp [hn] at this
      exact ⟨by simpa using hn, this⟩
  all_goals (simp [tyDOf] at h; subst h; first | rfl | simp [DescR, aggT])

theorem und_of (h : tyOf P t = some i) : ∃ d, P.underlying t = some d ∧ DescR P t i.d d :=
  let ⟨d, _, hu, _, ht, _⟩ := tyOf_spec h
  ⟨d, hu, tyDOf_spec ht⟩

theorem run_isAgg' (h : tyOf P t = some i) (w : World) : (isAgg t).run P w = .ok (isAggD i.d) w := by
  obtain ⟨d, hu, hd⟩ := und_of h
  have hd' : aggT d = isAggD i.d := by
    cases hi : i.d <;> simp only [hi, DescR] at hd
    case array n e => obtain ⟨rfl, _⟩ := hd; rfl
    case struct fs => obtain ⟨F, rfl, _⟩ := hd; rfl
    case other => exact hd
    all_goals (subst hd; rfl)
  rw [← hd']
  unfold isAgg
  rw [Sem.run_bind, run_underlying hu w]
  cases d <;> simp [aggT]

theorem zero_of (h : tyOf P t = some i) (hz : i.zero.length = i.size) (h0 : i.size ≠ 0) : ∃ z, (∀ w, (zeroValue t).run P w = .ok z w) ∧ mapO ofS z.cells.toList = some i.zero := by
  obtain ⟨d, f, _, hi, _, hs, hzz⟩ := tyOf_spec h
  unfold zeroOf at hzz
  cases hfz : f.zero with
  | none => simp [hfz] at hzz; rw [hzz] at hz; simp at hz; omega
  | some z =>
    cases hm : mapO ofS z.cells.toList with
    | none => simp [hfz, hm] at hzz; rw [hzz] at hz; simp at hz; omega
    | some l =>
      simp [hfz, hm] at hzz
      exact ⟨z, fun w => by simp [zeroValue, typeInfo, hi, hfz], by rw [hm, hzz]⟩
end

theorem kcode_inj {k k' : IntKind} (h : Nat.beq (kcode k) (kcode k') = true) : k = k' := by
  cases k <;> cases k' <;> first | rfl | (simp [kcode] at h; done) | cases h

/-- Peels one 'bif'. -/
theorem bif_some {α : Type _} {b : Bool} {x : Option α} {y : α} (h : (bif b then x else none) = some y) : b = true ∧ x = some y := by
  cases b
  · cases h
  · exact ⟨rfl, h⟩

theorem bif_none_some {α : Type _} {b : Bool} {x : Option α} {y : α} (h : (bif b then none else x) = some y) : b = false ∧ x = some y := by
  cases b
  · exact ⟨rfl, h⟩
  · cases h

/-! ### Parts, equality -/
theorem wrapAgg_spec {σ : Sg} {d : TyD} {l : List AV} {a : AV} {vs : List Value} (h : wrapAgg d l = some a) (hv : VRs σ l vs) :
    (isAggD d = true ∧ VR σ a (.agg vs.toArray)) ∨ (isAggD d = false ∧ ∃ x, vs = [x] ∧ VR σ a x) := by
  unfold wrapAgg at h
  cases hd : isAggD d
  · simp only [hd, cond_false] at h
    right
    match l, hv, h with
    | [x], ⟨v, vs', e, r, rs⟩, h =>
      simp at h
      subst h
      cases rs
      exact ⟨rfl, v, e, r⟩
  · simp only [hd, cond_true] at h
    obtain rfl := Option.some.inj h
    exact .inl ⟨rfl, vs.toArray, rfl, by simpa using hv⟩

section
variable {P : Program} {C : Ctx} (hty : ∀ t i, C.ty t = some i → tyOf P t = some i)
include hty

theorem partA_sound {σ : Sg} {t : TypeId} {cs : List AV} {off : Nat} {v : AV} {vs : Array Value} (h : partA C t cs off = some v) (hv : VRs σ cs vs.toList) (w : World) :
    ∃ z, VR σ v z ∧ (part t vs off).run P w = .ok z w := by
  unfold partA at h
  cases ht : C.ty t with
  | none => simp [ht] at h
  | some i =>
    simp only [ht] at h
    have hti := hty t i ht
    cases hl : takeL (dropL cs off) i.size with
    | none => simp [hl] at h
    | some l =>
      simp only [hl] at h
      obtain ⟨rfl, hlen⟩ := takeL_some hl
      rw [dropL_eq] at h hlen
      have hvs := (hv.drop off).take i.size
      have hlen' := hvs.length
      rcases wrapAgg_spec h hvs with ⟨ha, hr⟩ | ⟨ha, x, hx, hr⟩
      · refine ⟨_, hr, ?_⟩
        unfold part
        simp only [Sem.run_bind, run_isAgg' hti, Result.andThen_ok, ha, if_true, run_sizeOf' hti, Sem.run_pure]
        congr 2
        apply Array.ext'
        simp [List.extract_eq_take_drop]
      · refine ⟨x, hr, ?_⟩
        unfold part
        have h1 : vs[off]? = some x := by
          have : (vs.toList.drop off).take i.size = [x] := hx
          have h2 : ((vs.toList.drop off).take i.size)[0]? = some x := by rw [this]; rfl
          rw [List.getElem?_take] at h2
          split at h2
          · simpa using h2
          · cases h2
        simp only [Sem.run_bind, run_isAgg' hti, Result.andThen_ok, ha, Bool.false_eq_true, if_false, h1, Sem.run_pure]

omit hty in
theorem fs_of {t : TypeId} {i : TyI} {fs : List (TypeId × Nat)} (h : tyOf P t = some i) (hd : i.d = .struct fs) :
    P.underlying t = some (.struct (P.fieldsOf t)) ∧ fs = (P.fieldsOf t).toList.map (fun f => (f.type, f.offset)) ∧ P.stoodInHeld t = false ∧ P.eqGuardType P.depth t = false ∧
      ∀ f ∈ (P.fieldsOf t).toList, f.name ≠ "_" ∧ (P.info? f.type).isSome = true := by
  obtain ⟨d, hu, hr⟩ := und_of h
  rw [hd] at hr
  obtain ⟨F, rfl, h1, h2, h3, h4⟩ := hr
  have : P.fieldsOf t = F := by simp [Program.fieldsOf, hu]
  rw [this]
  exact ⟨hu, h1, h2, h3, h4⟩

theorem eqFs_sound {D : Nat} {eq : TypeId → AV → AV → Option Bool}
    (heq : ∀ t a b v, eq t a b = some v → ∀ σ x y w, VR σ a x → VR σ b y → (Op.equalIn D t x y).run P w = .ok v w) {σ : Sg} {xs ys : List AV} {us vs : Array Value} (hx : VRs σ xs us.toList) (hy : VRs σ ys vs.toList) (w : World) :
    ∀ (F : List Field) (v : Bool), (∀ f ∈ F, f.name ≠ "_") → eqFs (partA C) eq (F.map fun f => (f.type, f.offset)) xs ys = some v → (Op.eqFields D us vs F).run P w = .ok v w
  | [], v, _, h => by simp [eqFs] at h; subst h; simp [Op.eqFields]
  | f :: F, v, hn, h => by
    simp only [List.map_cons, eqFs] at h
    cases h1 : partA C f.type xs f.offset with
    | none => simp [h1] at h
    | some a =>
      cases h2 : partA C f.type ys f.offset with
      | none => simp [h1, h2] at h
      | some b =>
        cases h3 : eq f.type a b with
        | none => simp [h1, h2, h3] at h
        | some c =>
          simp only [h1, h2, h3] at h
          obtain ⟨x, hxr, hxrun⟩ := partA_sound hty h1 hx w
          obtain ⟨y, hyr, hyrun⟩ := partA_sound hty h2 hy w
          have hrun := heq _ _ _ _ h3 σ x y w hxr hyr
          have hname := hn f (by simp)
          simp only [Op.eqFields, hname, ne_eq, not_false_eq_true, if_true, Sem.run_bind, hxrun, hyrun, hrun, Result.andThen_ok, Sem.run_ite]
          cases F with
          | nil =>
            simp at h
            subst h
            cases c <;> simp [Op.eqFields]
          | cons g G =>
            simp only [List.map_cons] at h
            cases h4 : eqFs (partA C) eq ((g.type, g.offset) :: List.map (fun f => (f.type, f.offset)) G) xs ys with
            | none => simp [h4] at h
            | some u =>
              simp [h4] at h
              subst h
              have ih := eqFs_sound heq hx hy w (g :: G) u (fun k hk => hn k (by simp at hk ⊢; exact .inr hk)) (by simpa using h4)
              cases c <;> simp [ih]

theorem eqAr_sound {D : Nat} {e : TypeId} {sz : Nat} {eq : AV → AV → Option Bool}
    (heq : ∀ a b v, eq a b = some v → ∀ σ x y w, VR σ a x → VR σ b y → (Op.equalIn D e x y).run P w = .ok v w) {σ : Sg} {xs ys : List AV} {us vs : Array Value} (hx : VRs σ xs us.toList) (hy : VRs σ ys vs.toList) (w : World) :
    ∀ (n j : Nat) (v : Bool), eqAr (fun j cs => partA C e cs (Nat.mul j sz)) eq xs ys j n = some v → (Op.eqItems D e sz us vs (List.range' j n)).run P w = .ok v w
  | 0, j, v, h => by simp [eqAr] at h; subst h; simp [Op.eqItems]
  | n + 1, j, v, h => by
    simp only [eqAr, Nat.mul_eq, Nat.succ_eq_add_one] at h
    cases h1 : partA C e xs (j * sz) with
    | none => simp [h1] at h
    | some a =>
      cases h2 : partA C e ys (j * sz) with
      | none => simp [h1, h2] at h
      | some b =>
        cases h3 : eq a b with
        | none => simp [h1, h2, h3] at h
        | some c =>
          simp only [h1, h2, h3] at h
          obtain ⟨x, hxr, hxrun⟩ := partA_sound hty h1 hx w
          obtain ⟨y, hyr, hyrun⟩ := partA_sound hty h2 hy w
          have hrun := heq _ _ _ h3 σ x y w hxr hyr
          have hxrun' : (part e us (j * sz)).run P w = .ok x w := hxrun
          have hyrun' : (part e vs (j * sz)).run P w = .ok y w := hyrun
          simp only [List.range'_succ, Op.eqItems, Sem.run_bind, hxrun', hyrun', hrun, Result.andThen_ok]
          cases n with
          | zero =>
            simp at h
            subst h
            cases c <;> simp [Op.eqItems]
          | succ m =>
            cases h4 : eqAr (fun j cs => partA C e cs (j * sz)) eq xs ys (j + 1) (m + 1) with
            | none => simp [h4] at h
            | some u =>
              simp [h4] at h
              subst h
              have ih := eqAr_sound heq hx hy w (m + 1) (j + 1) u h4
              cases c <;> simp [ih]

theorem eqV_sound : ∀ (d : Nat) (t : TypeId) (x y : AV) (b : Bool), eqV C d t x y = some b → ∀ D, d ≤ D → ∀ σ x' y' w, VR σ x x' → VR σ y y' → (Op.equalIn D t x' y').run P w = .ok b w
  | 0, _, _, _, _, h => by simp [eqV] at h
  | d + 1, t, x, y, b, h => by
    intro D hD σ x' y' w hx hy
    obtain ⟨D, rfl⟩ : ∃ D', D = D' + 1 := ⟨D - 1, by omega⟩
    simp only [eqV] at h
    cases ht : C.ty t with
    | none => simp [ht] at h
    | some i =>
      simp only [ht] at h
      have hti := hty t i ht
      obtain ⟨dd, hu, hr⟩ := und_of hti
      split at h
      · rename_i k hd
        rw [hd] at hr
        cases hr
        cases x <;> try (simp at h; done)
        cases y <;> try (simp at h; done)
        simp only [VR] at hx hy
        subst hx; subst hy
        obtain ⟨hk, h5⟩ := bif_some h
        obtain rfl := kcode_inj hk
        obtain rfl := Option.some.inj h5
        simp only [Op.equalIn, Sem.run_bind, run_underlying hu, Result.andThen_ok, if_true, Sem.run_pure]
        congr 1
      · rename_i hd
        rw [hd] at hr
        cases hr
        cases x <;> try (simp at h; done)
        cases y <;> try (simp at h; done)
        simp only [VR] at hx hy
        subst hx; subst hy
        obtain rfl := Option.some.inj h
        exact run_equalIn_bool w D t _ _ hu
      · rename_i hd
        rw [hd] at hr
        cases hr
        cases x <;> try (simp at h; done)
        cases y <;> try (simp at h; done)
        simp only [VR] at hx hy
        subst hx; subst hy
        obtain rfl := Option.some.inj h
        exact run_equalIn_string w D t _ _ hu
      · rename_i fs hd
        obtain ⟨hu', hfs, hst, _, hn⟩ := fs_of hti hd
        cases x <;> try (simp at h; done)
        cases y <;> try (simp at h; done)
        obtain ⟨us, rfl, hx⟩ := hx
        obtain ⟨vs, rfl, hy⟩ := hy
        rw [run_equalIn_struct w D t us vs hu' hst]
        refine eqFs_sound hty (eq := eqV C d) (fun t a b v hv σ x y w => eqV_sound d t a b v hv D (by omega) σ x y w) hx hy w _ b (fun f hf => (hn f hf).1) ?_
        rw [← hfs]
        exact h
      · rename_i n e hd
        rw [hd] at hr
        obtain ⟨rfl, _⟩ := hr
        cases he : C.ty e with
        | none => simp [he] at h
        | some ei =>
          simp only [he] at h
          cases x <;> try (simp at h; done)
          cases y <;> try (simp at h; done)
          obtain ⟨us, rfl, hx⟩ := hx
          obtain ⟨vs, rfl, hy⟩ := hy
          obtain ⟨_, ie, _, hie, _, hsz, _⟩ := tyOf_spec (hty e ei he)
          rw [run_equalIn_array w D us vs hu hie]
          have hc : P.cellsOf e = ei.size := by simp [Program.cellsOf, hie, hsz]
          rw [hc, List.range_eq_range']
          exact eqAr_sound hty (eq := eqV C d e) (fun a b v hv σ x y w => eqV_sound d e a b v hv D (by omega) σ x y w) hx hy w n 0 b h
      · simp at h
end
end Go.VE
