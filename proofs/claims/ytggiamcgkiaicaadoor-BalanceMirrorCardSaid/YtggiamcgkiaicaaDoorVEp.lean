/-
  PLAIN AIDS: small ranges tried one by one, and the like.
-/
import Derived.Test.YtggiamcgkiaicaaDoorVEo
import Derived.IntWalk
namespace Go.VE
set_option linter.unusedVariables false
set_option linter.unusedSimpArgs false

def isT : Option Bool → Bool
  | some b => b
  | none => false
theorem isT_eq {x : Option Bool} (h : isT x = true) : x = some true := by
  cases x with
  | none => cases h
  | some b => simp [isT] at h; rw [h]

def rng (lo : Int) (p : Int → Bool) : Nat → Bool
  | 0 => true
  | n + 1 => bif p (lo + Int.ofNat n) then rng lo p n else false

theorem rng_get {lo : Int} {p : Int → Bool} : ∀ {n : Nat}, rng lo p n = true → ∀ x, lo ≤ x → x < lo + (n : Int) → p x = true
  | 0, _, x, h1, h2 => by omega
  | n + 1, h, x, h1, h2 => by
    cases hp : p (lo + Int.ofNat n) with
    | false => rw [rng, hp] at h; cases h
    | true =>
      rw [rng, hp] at h
      by_cases hx : x = lo + Int.ofNat n
      · rw [hx]; exact hp
      · exact rng_get h x h1 (by simp at hx; omega)

theorem tmod_bounds (b : Int) (n : Nat) (h : 0 < n) : -(n : Int) < b.tmod n ∧ b.tmod n < n := by
  have h1 := Int.tmod_lt_of_pos b (by omega : (0 : Int) < n)
  have h2 : -(n : Int) < b.tmod n := by
    have := Int.tmod_lt_of_pos (-b) (by omega : (0 : Int) < n)
    rw [Int.neg_tmod] at this
    omega
  exact ⟨h2, h1⟩

theorem w64 {n : Int} (h1 : -9223372036854775808 ≤ n) (h2 : n ≤ 9223372036854775807) : IntKind.i64.wrap n = n := IntWalk.i64_in n ⟨h1, h2⟩
end Go.VE
