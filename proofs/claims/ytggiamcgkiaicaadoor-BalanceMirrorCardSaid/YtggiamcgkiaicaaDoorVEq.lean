/-
  PLAIN ARITHMETIC: rounding, remainders, shared by the chapters' laws.
-/
import Derived.Test.YtggiamcgkiaicaaDoorVEp
namespace Go.VE
set_option linter.unusedVariables false
set_option linter.unusedSimpArgs false

theorem tmod_nonneg_eq {a n : Int} (h : 0 ≤ a) : a.tmod n = a % n := Int.tmod_eq_emod_of_nonneg h
theorem tmod_neg_eq {a n : Int} (h : a < 0) : a.tmod n = -((-a) % n) := by
  rw [← Int.tmod_eq_emod_of_nonneg (by omega : 0 ≤ -a), Int.neg_tmod, Int.neg_neg]
theorem tmod_cases (a n : Int) : (0 ≤ a ∧ a.tmod n = a % n) ∨ (a < 0 ∧ a.tmod n = -((-a) % n)) := by
  by_cases h : 0 ≤ a
  · exact .inl ⟨h, tmod_nonneg_eq h⟩
  · exact .inr ⟨by omega, tmod_neg_eq (by omega)⟩
theorem tdiv_cases (a n : Int) : (0 ≤ a ∧ a.tdiv n = a / n) ∨ (a < 0 ∧ a.tdiv n = -((-a) / n)) := by
  by_cases h : 0 ≤ a
  · exact .inl ⟨h, Int.tdiv_eq_ediv_of_nonneg h⟩
  · refine .inr ⟨by omega, ?_⟩
    rw [← Int.tdiv_eq_ediv_of_nonneg (by omega : 0 ≤ -a), Int.neg_tdiv, Int.neg_neg]

/-- Division rounded down, by Go's operators. -/
theorem down_neg {a b : Int} (hb : 0 < b) (h : a.tmod b < 0) : a.tdiv b - 1 = a / b ∧ a.tmod b + b = a % b := by
  have e := Int.tmod_add_mul_tdiv a b
  have l : -b < a.tmod b := by
    have := Int.tmod_lt_of_pos (-a) hb
    rw [Int.neg_tmod] at this
    omega
  have := Int.ediv_emod_unique (a := a) (b := b) (r := a.tmod b + b) (q := a.tdiv b - 1) hb |>.2 ⟨by rw [Int.mul_sub]; omega, by omega, by omega⟩
  exact ⟨this.1.symm, this.2.symm⟩
theorem down_pos {a b : Int} (hb : 0 < b) (h : ¬ a.tmod b < 0) : a.tdiv b = a / b ∧ a.tmod b = a % b := by
  have e := Int.tmod_add_mul_tdiv a b
  have l := Int.tmod_lt_of_pos a hb
  have := Int.ediv_emod_unique (a := a) (b := b) (r := a.tmod b) (q := a.tdiv b) hb |>.2 ⟨by omega, by omega, by omega⟩
  exact ⟨this.1.symm, this.2.symm⟩

/-- a / b, rounded to the nearest, halves to the even one. -/
def near (a b : Int) : Int :=
  if b < 2 * (a % b) then a / b + 1 else if 2 * (a % b) = b then (if (a / b) % 2 = 0 then a / b else a / b + 1) else a / b

theorem tmod2 (q : Int) : (q.tmod 2 = 0) ↔ (q % 2 = 0) := by
  rcases tmod_cases q 2 with ⟨_, h⟩ | ⟨_, h⟩ <;> rw [h] <;> omega

theorem ediv_bound {a b : Int} (hb : 0 < b) : a - b < b * (a / b) ∧ b * (a / b) ≤ a := by
  have h1 := Int.mul_ediv_add_emod a b
  have h2 := Int.emod_nonneg a (by omega : b ≠ 0)
  have h3 := Int.emod_lt_of_pos a hb
  omega

/-- A quotient by something positive is no greater than its dividend. -/
theorem ediv_small {a b M : Int} (hb : 0 < b) (h1 : -M ≤ a) (h2 : a ≤ M) (hM : 0 ≤ M) : -M ≤ a / b ∧ a / b ≤ M := by
  constructor
  · apply (Int.le_ediv_iff_mul_le hb).2
    have : M * 1 ≤ M * b := Int.mul_le_mul_of_nonneg_left (by omega) hM
    have : -M * b = -(M * b) := by rw [Int.neg_mul]
    omega
  · have : a / b < M + 1 := (Int.ediv_lt_iff_lt_mul hb).2 (by
      have : (M + 1) * 1 ≤ (M + 1) * b := Int.mul_le_mul_of_nonneg_left (by omega) (by omega)
      omega)
    omega

theorem near_dist {a b : Int} (hb : 0 < b) : -b ≤ 2 * (b * near a b - a) ∧ 2 * (b * near a b - a) ≤ b := by
  have h1 := Int.mul_ediv_add_emod a b
  have h2 := Int.emod_nonneg a (by omega : b ≠ 0)
  have h3 := Int.emod_lt_of_pos a hb
  have h4 : b * (a / b + 1) = b * (a / b) + b := by rw [Int.mul_add, Int.mul_one]
  unfold near
  split
  · omega
  · split
    · split <;> omega
    · omega
end Go.VE
