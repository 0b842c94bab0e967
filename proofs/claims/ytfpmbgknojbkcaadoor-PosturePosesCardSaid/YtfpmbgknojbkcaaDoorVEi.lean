/-
  THE READING MACHINE: regions that draw their order, proved.
-/
import Derived.Test.YtfpmbgknojbkcaaDoorVEh
namespace Go.VE
open Go.RowKit (Below)
set_option linter.unusedSimpArgs false
set_option linter.unusedVariables false

abbrev Tch := Option (Option Nat × Bool)

theorem memN_spec {t : Nat} : ∀ {l : List Nat}, memN t l = true ↔ t ∈ l
  | [] => by simp [memN]
  | x :: r => by
    simp only [memN]
    by_cases h : x = t
    · subst h; simp [beq_self]
    · simp [beq_ne h, memN_spec (l := r), Ne.symm h]

theorem apartL_spec {L : List Oper} {x y : Oper} (h : apartL L x y = true) :
    (∀ t, x.dst = some t → t ∉ looksL L y) ∧ (∀ t, y.dst = some t → t ∉ looksL L x) ∧ (∀ t, x.dst = some t → y.dst ≠ some t) := by
  simp only [apartL, Bool.not_eq_true', Bool.or_eq_false_iff] at h
  obtain ⟨⟨h1, h2⟩, h3⟩ := h
  refine ⟨fun t ht hm => ?_, fun t ht hm => ?_, fun t ht hy => ?_⟩
  · simp only [clashD, ht] at h1
    rw [memN_spec.2 hm] at h1
    cases h1
  · simp only [clashD, ht] at h2
    rw [memN_spec.2 hm] at h2
    cases h2
  · simp only [sameD, ht, hy] at h3
    rw [beq_self] at h3
    cases h3

/-! ### What the order of blocks asks -/
def Confl (nx0 : Nat) (mask : Nat → Nat) (act : Nat → Act1) (tch : Nat → Tch) (k : Nat) : Prop :=
  match tch k with
  | none => isSt (act k) = false
  | some (none, _) => isSt (act k) = false ∧ ∀ j, j < k → ∀ c, tch j ≠ some (c, true)
  | some (some b, true) => (b < nx0 ∨ Nat.testBit (mask k) (b - nx0) = true) ∧ (∀ c blk, act k = .st c blk → c = b) ∧ ∀ j, j < k → ∀ c s, tch j = some (c, s) → (c = none ∨ c = some b ∨ s = true) → Nat.testBit (mask k) j = true
  | some (some b, false) => isSt (act k) = false ∧ (b < nx0 ∨ Nat.testBit (mask k) (b - nx0) = true) ∧ ∀ j, j < k → tch j = some (some b, true) → Nat.testBit (mask k) j = true

theorem bif_and {a b : Bool} (h : (bif a then b else false) = true) : a = true ∧ b = true := by
  cases a
  · cases h
  · exact ⟨rfl, h⟩

theorem stOk_spec {m b : Nat} : ∀ {l : List (Nat × Option Nat × Bool)}, stOk m b l = true → ∀ j c s, (j, c, s) ∈ l → (c = none ∨ c = some b ∨ s = true) → Nat.testBit m j = true
  | [], _, j, c, s, h, _ => by simp at h
  | (i, c', s') :: r, h, j, c, s, hm, hc => by
    simp only [stOk] at h
    rcases List.mem_cons.1 hm with he | hm
    · simp only [Prod.mk.injEq] at he
      obtain ⟨rfl, rfl, rfl⟩ := he
      have hcond : hitS b s c = true := by
        rcases hc with rfl | rfl | rfl
        · rfl
        · simp [hitS, beq_self]
        · cases c <;> simp [hitS]
      rw [hcond] at h
      exact (bif_and h).1
    · have : stOk m b r = true := by
        cases hq : hitS b s' c'
        · rw [hq] at h; exact h
        · rw [hq] at h; exact (bif_and h).2
      exact stOk_spec this j c s hm hc

theorem ldOk_spec {m b : Nat} : ∀ {l : List (Nat × Option Nat × Bool)}, ldOk m b l = true → ∀ j, (j, some b, true) ∈ l → Nat.testBit m j = true
  | [], _, j, h => by simp at h
  | (i, c', s') :: r, h, j, hm => by
    simp only [ldOk] at h
    rcases List.mem_cons.1 hm with he | hm
    · simp only [Prod.mk.injEq] at he
      obtain ⟨rfl, rfl, rfl⟩ := he
      have h1 := (bif_and h).1
      simpa [hitL, beq_self] using h1
    · have : ldOk m b r = true := by
        cases s'
        · exact h
        · exact (bif_and h).2
      exact ldOk_spec this j hm

theorem noSt_spec : ∀ {l : List (Nat × Option Nat × Bool)}, noSt l = true → ∀ j c, (j, c, true) ∉ l
  | [], _, j, c, h => by simp at h
  | (i, c', s') :: r, h, j, c, hm => by
    simp only [noSt] at h
    cases s'
    · simp only [cond_false] at h
      rcases List.mem_cons.1 hm with he | hm
      · simp at he
      · exact noSt_spec h j c hm
    · simp at h

/-! ### Values without addresses from nx0 on -/
theorem low0_VR {nx : Nat} {σ σ' : Sg} (hs : ∀ i, i < nx → σ i = σ' i) {a : AV} {v : Value} (h : low0 nx a = true) (hv : VR σ a v) : VR σ' a v := by
  have lt : ∀ i, Nat.blt i nx = true → i < nx := fun i h => Nat.lt_of_lt_of_le (Nat.lt_succ_self _) (Nat.le_of_ble_eq_true h)
  cases a <;> simp only [low0] at h <;> try (cases h; done)
  all_goals first
    | exact hv
    | (obtain ⟨b, hb, r⟩ := hv; exact ⟨b, (hs _ (lt _ h)).symm.trans hb, r⟩)
    | (obtain ⟨b, c, hb, r⟩ := hv; exact ⟨b, c, (hs _ (lt _ h)).symm.trans hb, r⟩)
    | (rcases hv with ⟨b, c, hb, r⟩ | r
       · exact .inl ⟨b, c, (hs _ (lt _ h)).symm.trans hb, r⟩
       · exact .inr r)

theorem lows_VR {nx : Nat} {σ σ' : Sg} (hs : ∀ i, i < nx → σ i = σ' i) : ∀ {a : List AV} {v : List Value}, lows nx a = true → VRs σ a v → VRs σ' a v
  | [], _, _, hv => hv
  | x :: r, _, h, ⟨v, vs, e, h1, h2⟩ => by
    simp only [lows] at h
    cases hx : low0 nx x <;> simp [hx] at h
    exact ⟨v, vs, e, low0_VR hs hx h1, lows_VR hs h h2⟩

theorem lowV_VR {nx : Nat} {σ σ' : Sg} (hs : ∀ i, i < nx → σ i = σ' i) {a : AV} {v : Value} (h : lowV nx a = true) (hv : VR σ a v) : VR σ' a v := by
  cases a <;> simp only [lowV] at h
  case fn f cap => obtain ⟨vs, e, r⟩ := hv; exact ⟨vs, e, lows_VR hs h r⟩
  case agg cs => obtain ⟨vs, e, r⟩ := hv; exact ⟨vs, e, lows_VR hs h r⟩
  all_goals exact low0_VR hs h hv

theorem lowVs_VR {nx : Nat} {σ σ' : Sg} (hs : ∀ i, i < nx → σ i = σ' i) : ∀ {a : List AV} {v : List Value}, lowVs nx a = true → VRs σ a v → VRs σ' a v
  | [], _, _, hv => hv
  | x :: r, _, h, ⟨v, vs, e, h1, h2⟩ => by
    simp only [lowVs] at h
    cases hx : lowV nx x <;> simp [hx] at h
    exact ⟨v, vs, e, lowV_VR hs hx h1, lowVs_VR hs h h2⟩

theorem plain_VR {σ σ' : Sg} {a : AV} {v : Value} (h : plain a = true) (hv : VR σ a v) : VR σ' a v := by
  cases a <;> simp only [plain] at h <;> first | exact hv | cases h

theorem plains_VR {σ σ' : Sg} : ∀ {a : List AV} {v : List Value}, plains a = true → VRs σ a v → VRs σ' a v
  | [], _, _, hv => hv
  | x :: r, _, h, ⟨v, vs, e, h1, h2⟩ => by
    simp only [plains] at h
    cases hx : plain x <;> simp [hx] at h
    exact ⟨v, vs, e, plain_VR hx h1, plains_VR h h2⟩

theorem plain1_VR {σ σ' : Sg} {a : AV} {v : Value} (h : plain1 a = true) (hv : VR σ a v) : VR σ' a v := by
  cases a <;> simp only [plain1] at h
  case agg cs => obtain ⟨vs, e, r⟩ := hv; exact ⟨vs, e, plains_VR h r⟩
  all_goals exact plain_VR h hv

theorem plainT_VR {σ σ' : Sg} : ∀ {a : List AV} {v : List Value}, plainT a = true → VRs σ a v → VRs σ' a v
  | [], _, _, hv => hv
  | x :: r, _, h, ⟨v, vs, e, h1, h2⟩ => by
    simp only [plainT] at h
    cases hx : plain1 x <;> simp [hx] at h
    exact ⟨v, vs, e, plain1_VR hx h1, plainT_VR h h2⟩

theorem plainV_VR {σ σ' : Sg} {a : AV} {v : Value} (h : plainV a = true) (hv : VR σ a v) : VR σ' a v := by
  cases a <;> simp only [plainV] at h
  case tup cs => obtain ⟨vs, e, r⟩ := hv; exact ⟨vs, e, plainT_VR h r⟩
  all_goals exact plain1_VR h hv

theorem lkM_ro : ∀ (m : List (Nat × Blk)) (i : Nat), lkM (roMem m) i = (lkM m i).map roB
  | [], _ => rfl
  | (j, b) :: r, i => by
    simp only [roMem, lkM]
    cases Nat.beq j i
    · exact lkM_ro r i
    · rfl

/-- The same memory, to be read alone, as of a call that begins now. -/
theorem RepM.ro {w0 : World} {G : Nat} {U : Nat → Prop} {σ : Sg} {mem : List (Nat × Blk)} {w : World} (h : RepM w0 G U σ (lkM mem) w) : RepM w G U σ (lkM (roMem mem)) w where
  below := Below.refl _ _
  fresh := h.fresh
  blk i b hb := by
    rw [lkM_ro] at hb
    cases hm : lkM mem i with
    | none => simp [hm] at hb
    | some b' =>
      simp [hm] at hb
      obtain ⟨x, h1, h2⟩ := h.blk i b' hm
      refine ⟨x, h1, ?_⟩
      subst hb
      cases b' with
      | own cs e => exact BlkR.cells (.inl ⟨e, h2⟩)
      | ro cs => exact h2
      | rows wd f => exact h2
  own i cs el x hi _ := by
    rw [lkM_ro] at hi
    cases hm : lkM mem i with
    | none => simp [hm] at hi
    | some b' => simp [hm] at hi; cases b' <;> simp [roB] at hi
  inj i j x y _ _ _ ho := by
    obtain ⟨cs, el, hi⟩ := ho
    rw [lkM_ro] at hi
    cases hm : lkM mem i with
    | none => simp [hm] at hi
    | some b' => simp [hm] at hi; cases b' <;> simp [roB] at hi
  lt := h.lt
  glob := h.glob
end Go.VE
