/-
  THE READING MACHINE: regions that draw their order, proved.
-/
import Derived.Test.YtggiamcgkiaicaaDoorVEh
namespace Go.VE
open Go.RowKit (Below)
set_option linter.unusedSimpArgs false
set_option linter.unusedVariables false

abbrev Tch := Option (Option Nat × Bool)

theorem memN_spec {t : Nat} : ∀ {l : List Nat}, memN t l = true ↔ t ∈ l
  | [] => by simp [memN]
  | x :: r => by
    simp only [memN]
    by_cases h : x = t
    · subst h; simp [beq_self]
    · simp [beq_ne h, memN_spec (l := r), Ne.symm h]

theorem apartL_spec {L : List Oper} {x y : Oper} (h : apartL L x y = true) :
    (∀ t, x.dst = some t → t ∉ looksL L y) ∧ (∀ t, y.dst = some t → t ∉ looksL L x) ∧ (∀ t, x.dst = some t → y.dst ≠ some t) := by
  simp only [apartL, Bool.not_eq_true', Bool.or_eq_false_iff] at h
  obtain ⟨⟨h1, h2⟩, h3⟩ := h
  refine ⟨fun t ht hm => ?_, fun t ht hm => ?_, fun t ht hy => ?_⟩
  · simp only [clashD, ht] at h1
    rw [memN_spec.2 hm] at h1
    cases h1
  · simp only [clashD, ht] at h2
    rw [memN_spec.2 hm] at h2
    cases h2
  · simp only [sameD, ht, hy] at h3
    rw [beq_self] at h3
    cases h3

/-! ### What the order of blocks asks -/
def Confl (nx0 N : Nat) (mask : Nat → Nat) (act : Nat → Act1) (tch : Nat → Tch) (k : Nat) : Prop :=
  match tch k with
  | none => isSt (act k) = false
  | some (none, true) => barA (act k) = true ∧ (∀ j, j < k → Nat.testBit (mask k) j = true) ∧ ∀ j, k < j → j < N → Nat.testBit (mask j) k = true
  | some (none, false) => isSt (act k) = false ∧ ∀ j, j < k → ∀ c, tch j ≠ some (c, true)
  | some (some b, true) => isA (act k) = false ∧ (b < nx0 ∨ Nat.testBit (mask k) (b - nx0) = true) ∧ (∀ c blk, act k = .st c blk → c = b) ∧ ∀ j, j < k → ∀ c s, tch j = some (c, s) → (c = none ∨ c = some b ∨ s = true) → Nat.testBit (mask k) j = true
  | some (some b, false) => isSt (act k) = false ∧ (b < nx0 ∨ Nat.testBit (mask k) (b - nx0) = true) ∧ ∀ j, j < k → tch j = some (some b, true) → Nat.testBit (mask k) j = true

theorem fullM_spec {m i : Nat} (h : fullM m i = true) : ∀ j, j < i → Nat.testBit m j = true := by
  intro j hj
  have : m = 2 ^ i - 1 := Nat.eq_of_beq_eq_true h
  rw [this, Nat.testBit_two_pow_sub_one]
  simpa using hj

theorem allBit_spec {i : Nat} : ∀ {ms : List Nat}, allBit i ms = true → ∀ (k m : Nat), ms[k]? = some m → Nat.testBit m i = true
  | [], _, k, m, hk => by simp at hk
  | x :: ms, h, k, m, hk => by
    simp only [allBit] at h
    cases hx : Nat.testBit x i <;> simp [hx] at h
    cases k with
    | zero => simp at hk; subst hk; exact hx
    | succ k => exact allBit_spec h k m (by simpa using hk)

theorem bif_and {a b : Bool} (h : (bif a then b else false) = true) : a = true ∧ b = true := by
  cases a
  · cases h
  · exact ⟨rfl, h⟩

theorem stOk_spec {m b : Nat} : ∀ {l : List (Nat × Option Nat × Bool)}, stOk m b l = true → ∀ j c s, (j, c, s) ∈ l → (c = none ∨ c = some b ∨ s = true) → Nat.testBit m j = true
  | [], _, j, c, s, h, _ => by simp at h
  | (i, c', s') :: r, h, j, c, s, hm, hc => by
    simp only [stOk] at h
    rcases List.mem_cons.1 hm with he | hm
    · simp only [Prod.mk.injEq] at he
      obtain ⟨rfl, rfl, rfl⟩ := he
      have hcond : hitS b s c = true := by
        rcases hc with rfl | rfl | rfl
        · rfl
        · simp [hitS, beq_self]
        · cases c <;> simp [hitS]
      rw [hcond] at h
      exact (bif_and h).1
    · have : stOk m b r = true := by
        cases hq : hitS b s' c'
        · rw [hq] at h; exact h
        · rw [hq] at h; exact (bif_and h).2
      exact stOk_spec this j c s hm hc

theorem ldOk_spec {m b : Nat} : ∀ {l : List (Nat × Option Nat × Bool)}, ldOk m b l = true → ∀ j, (j, some b, true) ∈ l → Nat.testBit m j = true
  | [], _, j, h => by simp at h
  | (i, c', s') :: r, h, j, hm => by
    simp only [ldOk] at h
    rcases List.mem_cons.1 hm with he | hm
    · simp only [Prod.mk.injEq] at he
      obtain ⟨rfl, rfl, rfl⟩ := he
      have h1 := (bif_and h).1
      simpa [hitL, beq_self] using h1
    · have : ldOk m b r = true := by
        cases s'
        · exact h
        · exact (bif_and h).2
      exact ldOk_spec this j hm

theorem ldOk_none {m b : Nat} : ∀ {l : List (Nat × Option Nat × Bool)}, ldOk m b l = true → ∀ j, (j, none, true) ∈ l → Nat.testBit m j = true
  | [], _, j, h => by simp at h
  | (i, c', s') :: r, h, j, hm => by
    simp only [ldOk] at h
    rcases List.mem_cons.1 hm with he | hm
    · simp only [Prod.mk.injEq] at he
      obtain ⟨rfl, rfl, rfl⟩ := he
      have h1 := (bif_and h).1
      simpa [hitL] using h1
    · have : ldOk m b r = true := by
        cases s'
        · exact h
        · exact (bif_and h).2
      exact ldOk_none this j hm

theorem noSt_spec : ∀ {l : List (Nat × Option Nat × Bool)}, noSt l = true → ∀ j c, (j, c, true) ∉ l
  | [], _, j, c, h => by simp at h
  | (i, c', s') :: r, h, j, c, hm => by
    simp only [noSt] at h
    cases s'
    · simp only [cond_false] at h
      rcases List.mem_cons.1 hm with he | hm
      · simp at he
      · exact noSt_spec h j c hm
    · simp at h

end Go.VE
