/-
  THE PLAIN LAWS: what the contracts compute answers as the statements say.
-/
import Derived.Test.YtggiamcgkiaicaaDoorLc
open Go Go.VE Go.Proofs
set_option maxRecDepth 1000000
set_option maxHeartbeats 0
set_option linter.unusedVariables false
set_option linter.unusedSimpArgs false
namespace Go.Proofs.YtggiamcgkiaicaaDoor
/-! ### Places, seen from the body -/
abbrev rel (B : Int) (u p : Nat → Int) : Prop := (-B ≤ u 0 - p 0 ∧ u 0 - p 0 ≤ B) ∧ (-B ≤ u 1 - p 1 ∧ u 1 - p 1 ≤ B)
theorem add3_rel {A B C : Int} {u v p : Nat → Int} (hu : rel A u p) (hv : in3 B v) (h : A + B ≤ C) : rel C (add3 u v) p := by
  obtain ⟨⟨_, _⟩, _, _⟩ := hu
  obtain ⟨⟨_, _⟩, ⟨_, _⟩, _, _⟩ := hv
  refine ⟨⟨?_, ?_⟩, ?_, ?_⟩ <;> simp only [add3, nthI] <;> omega
theorem J_rel {a p : Nat → Int} (ha : okB a) (hp : poseOk p) : rel 0 (hipJ a p) p ∧ rel 1500 (neckJ a p) p ∧ rel 3000 (headJ a p) p ∧ rel 1000 (hipL a p) p ∧ rel 1000 (hipR a p) p ∧ rel 2500 (shL a p) p ∧ rel 2500 (shR a p) p ∧ rel 4000 (handL a p) p ∧ rel 4000 (handR a p) p := by
  obtain ⟨h0, h1, h2, h3, h4, h5, h6, h7, h8, h9, _⟩ := id ha
  obtain ⟨⟨⟨_, _⟩, _, _⟩, ⟨_, _⟩, ⟨_, _⟩, a0, a1, a2, a3, a4, a5⟩ := hp
  have j0 : rel 0 (hipJ a p) p := by refine ⟨⟨?_, ?_⟩, ?_, ?_⟩ <;> simp only [hipJ, nthI] <;> omega
  have j1 : rel 1500 (neckJ a p) p := add3_rel j0 (al_in (by omega) a2 _) (by omega)
  have j3 : rel 1000 (hipL a p) p := add3_rel j0 (sdL_in (by omega) _) (by omega)
  have j4 : rel 1000 (hipR a p) p := add3_rel j0 (sdR_in (by omega) _) (by omega)
  have j5 : rel 2500 (shL a p) p := add3_rel j1 (sdL_in (by omega) _) (by omega)
  have j6 : rel 2500 (shR a p) p := add3_rel j1 (sdR_in (by omega) _) (by omega)
  exact ⟨j0, j1, add3_rel j1 (al_in (by omega) a5 _) (by omega), j3, j4, j5, j6, add3_rel j5 (al_in (by omega) a3 _) (by omega), add3_rel j6 (al_in (by omega) a4 _) (by omega)⟩
theorem J_frel {a p : Nat → Int} (ha : okB a) (hp : poseOk p) (c : Int) : rel 2500 (footL a p c) p ∧ rel 2500 (footR a p c) p := by
  obtain ⟨_, _, _, j3, j4, _⟩ := J_rel ha hp
  obtain ⟨h0, _⟩ := ha
  obtain ⟨_, _, _, a0, a1, _⟩ := hp
  constructor
  · unfold footL
    cases decide (c % 2 = 1)
    · exact add3_rel j3 (al_in (by omega) a0 _) (by omega)
    · obtain ⟨⟨_, _⟩, _, _⟩ := j3
      refine ⟨⟨?_, ?_⟩, ?_, ?_⟩ <;> simp only [nthI, cond_true] <;> omega
  · unfold footR
    cases decide (c / 2 % 2 = 1)
    · exact add3_rel j4 (al_in (by omega) a1 _) (by omega)
    · obtain ⟨⟨_, _⟩, _, _⟩ := j4
      refine ⟨⟨?_, ?_⟩, ?_, ?_⟩ <;> simp only [nthI, cond_true] <;> omega
theorem term_rel {m u v q A B : Int} (hm : 1 ≤ m) (hu : -A ≤ u - q ∧ u - q ≤ A) (hv : -B ≤ v - q ∧ v - q ≤ B) (h : A + B ≤ 7000) : -(7000 * m) ≤ m * (u + v) - 2 * (m * q) ∧ m * (u + v) - 2 * (m * q) ≤ 7000 * m := by
  have e : m * (u + v) - 2 * (m * q) = m * ((u - q) + (v - q)) := by grind
  rw [e]
  have h1 : m * (-7000) ≤ m * ((u - q) + (v - q)) := Int.mul_le_mul_of_nonneg_left (by omega) (by omega)
  have h2 : m * ((u - q) + (v - q)) ≤ m * 7000 := Int.mul_le_mul_of_nonneg_left (by omega) (by omega)
  omega
theorem lin_rel {z1 z2 z3 z4 z5 z6 m0 m1 m2 m3 q0 q1 q2 q3 : Int} (t1 : -(7000 * m0) ≤ z1 - 2 * q0 ∧ z1 - 2 * q0 ≤ 7000 * m0) (t2 : -(7000 * m1) ≤ z2 - 2 * q1 ∧ z2 - 2 * q1 ≤ 7000 * m1) (t3 : -(7000 * m2) ≤ z3 - 2 * q2 ∧ z3 - 2 * q2 ≤ 7000 * m2) (t4 : -(7000 * m3) ≤ z4 - 2 * q3 ∧ z4 - 2 * q3 ≤ 7000 * m3)
    (t5 : -(7000 * m2) ≤ z5 - 2 * q2 ∧ z5 - 2 * q2 ≤ 7000 * m2) (t6 : -(7000 * m3) ≤ z6 - 2 * q3 ∧ z6 - 2 * q3 ≤ 7000 * m3) :
    -(7000 * (m0 + m1 + 2 * m2 + 2 * m3)) ≤ (z1 + z2 + z3 + z4 + z5 + z6) - 2 * (q0 + q1 + 2 * q2 + 2 * q3) ∧ (z1 + z2 + z3 + z4 + z5 + z6) - 2 * (q0 + q1 + 2 * q2 + 2 * q3) ≤ 7000 * (m0 + m1 + 2 * m2 + 2 * m3) := by omega
theorem near_rel {s M q : Int} (hM : 0 < M) (h : -(7000 * M) ≤ s - 2 * (M * q) ∧ s - 2 * (M * q) ≤ 7000 * M) : -4000 ≤ near s (2 * M) - q ∧ near s (2 * M) - q ≤ 4000 := by
  have hd := near_dist (a := s) (b := 2 * M) (by omega)
  generalize near s (2 * M) = n at *
  have e : 2 * M * n = 2 * (M * n) := by grind
  rw [e] at hd
  have e2 : M * (n - q) = M * n - M * q := Int.mul_sub _ _ _
  constructor
  · refine Int.not_lt.1 fun hlt => ?_
    have : M * (n - q) ≤ M * (-4001) := Int.mul_le_mul_of_nonneg_left (by omega) (by omega)
    omega
  · refine Int.not_lt.1 fun hlt => ?_
    have : M * 4001 ≤ M * (n - q) := Int.mul_le_mul_of_nonneg_left (by omega) (by omega)
    omega
theorem c_rel {a p : Nat → Int} (ha : okB a) (hp : poseOk p) (c : Int) : (-4000 ≤ cxI a p c - p 0 ∧ cxI a p c - p 0 ≤ 4000) ∧ (-4000 ≤ cyI a p c - p 1 ∧ cyI a p c - p 1 ≤ 4000) := by
  have M1 : 0 < massI a := by have := mass_pos ha; omega
  obtain ⟨h0, h1, h2, h3, h4, h5, h6, h7, h8, h9, h10, m0, m1, m2, m3⟩ := id ha
  obtain ⟨j0, j1, j2, j3, j4, j5, j6, j7, j8⟩ := J_rel ha hp
  obtain ⟨j9, j10⟩ := J_frel ha hp c
  clear ha hp h0 h1 h2 h3 h4 h5 h6 h7 h8 h9 h10
  have eM : ∀ q : Int, massI a * q = a 11 * q + a 12 * q + 2 * (a 13 * q) + 2 * (a 14 * q) := fun q => by unfold massI; grind
  constructor
  · refine near_rel M1 ?_
    rw [eM]
    exact lin_rel (term_rel m0.1 j0.1 j1.1 (by decide)) (term_rel m1.1 j1.1 j2.1 (by decide)) (term_rel m2.1 j5.1 j7.1 (by decide)) (term_rel m3.1 j3.1 j9.1 (by decide)) (term_rel m2.1 j6.1 j8.1 (by decide)) (term_rel m3.1 j4.1 j10.1 (by decide))
  · refine near_rel M1 ?_
    rw [eM]
    exact lin_rel (term_rel m0.1 j0.2 j1.2 (by decide)) (term_rel m1.1 j1.2 j2.2 (by decide)) (term_rel m2.1 j5.2 j7.2 (by decide)) (term_rel m3.1 j3.2 j9.2 (by decide)) (term_rel m2.1 j6.2 j8.2 (by decide)) (term_rel m3.1 j4.2 j10.2 (by decide))
/-! ### Above the base -/
noncomputable def ftA (a p : Nat → Int) (c : Int) : Nat → Int := bif decide (c = 2) then footR a p c else footL a p c
noncomputable def ftB (a p : Nat → Int) (c : Int) : Nat → Int := bif decide (c = 1) then footL a p c else footR a p c
noncomputable def abv (a p : Nat → Int) (c r : Int) : Bool := nr (cxI a p c) (cyI a p c) (ftA a p c 0) (ftA a p c 1) (ftB a p c 0) (ftB a p c 1) r
theorem c_co {a p : Nat → Int} (ha : okB a) (hp : poseOk p) (c : Int) : co (cxI a p c) ∧ co (cyI a p c) := by
  obtain ⟨⟨_, _⟩, _, _⟩ := c_rel ha hp c
  obtain ⟨⟨⟨_, _⟩, _, _⟩, _⟩ := hp
  constructor <;> constructor <;> omega
theorem foot_co {a p : Nat → Int} (ha : okB a) (hp : poseOk p) (c : Int) : (co (footL a p c 0) ∧ co (footL a p c 1)) ∧ (co (footR a p c 0) ∧ co (footR a p c 1)) := by
  obtain ⟨⟨⟨_, _⟩, ⟨_, _⟩, _⟩, ⟨_, _⟩, ⟨_, _⟩, _⟩ := J_foot ha hp c
  refine ⟨⟨⟨?_, ?_⟩, ?_, ?_⟩, ⟨?_, ?_⟩, ?_, ?_⟩ <;> omega
theorem near_l {X Y u0 u1 u2 v0 v1 v2 r : Int} (k0 : co X) (k1 : co Y) (a0 : co u0) (a1 : co u1) (b0 : co v0) (b1 : co v1) (hr : 0 ≤ r ∧ r ≤ 32768) : f61 (nthI [X, Y]) (nthI [u0, u1, u2]) (nthI [v0, v1, v2]) r = some (nr X Y u0 u1 v0 v1 r) :=
  near_in (p := nthI [X, Y]) (A := nthI [u0, u1, u2]) (B := nthI [v0, v1, v2]) (r := r) k0 k1 a0 a1 b0 b1 (by omega)
theorem J_feet (a p : Nat → Int) (c : Int) : J a p c 27 = footL a p c 0 ∧ J a p c 28 = footL a p c 1 ∧ J a p c 30 = footR a p c 0 ∧ J a p c 31 = footR a p c 1 := ⟨rfl, rfl, rfl, rfl⟩
theorem above_in {a p : Nat → Int} {c r : Int} (h : okA a p c) (hr : 0 ≤ r ∧ r ≤ 32768) : f33 a (J a p c) c r = some (abv a p c r) := by
  obtain ⟨ha, hp, hc⟩ := h
  obtain ⟨k0, k1⟩ := c_co ha hp c
  obtain ⟨⟨l0, l1⟩, r0, r1⟩ := foot_co ha hp c
  obtain ⟨e27, e28, e30, e31⟩ := J_feet a p c
  have hcen := center_in ha (J_jin ha hp c)
  unfold f33 abv
  rw [hcen, e27, e28, e30, e31]
  simp -implicitDefEqProofs only [Option.bind_some]
  unfold cxI at *
  unfold cyI at *
  generalize near (sX a (J a p c)) (2 * massI a) = X at *
  generalize near (sY a (J a p c)) (2 * massI a) = Y at *
  clear hcen ha hp e27 e28 e30 e31
  generalize J a p c 29 = z29
  generalize J a p c 32 = z32
  unfold ftA ftB
  by_cases h1 : c = 1
  · rw [decide_eq_true h1, cond_true, decide_eq_false (show ¬ c = 2 by omega), cond_true, cond_false, near_l k0 k1 l0 l1 l0 l1 hr]
    rfl
  · by_cases h2 : c = 2
    · rw [decide_eq_false h1, decide_eq_true h2, cond_true, cond_true, cond_false, cond_false, near_l k0 k1 r0 r1 r0 r1 hr]
      rfl
    · rw [decide_eq_false h1, decide_eq_false h2, cond_false, cond_false, cond_false, cond_false, near_l k0 k1 l0 l1 r0 r1 hr]
      rfl
theorem nr_shift (px py ax ay bx b1 r x y : Int) : nr (px - x) (py - y) (ax - x) (ay - y) (bx - x) (b1 - y) r = nr px py ax ay bx b1 r := by
  have e : ∀ u v w : Int, u - w - (v - w) = u - v := fun u v w => by omega
  simp only [nr, dotI, sqI, crI, e]
theorem rnear_l {X Y u0 u1 v0 v1 r : Int} (k0 : vd X) (k1 : vd Y) (a0 : vd u0) (a1 : vd u1) (b0 : vd v0) (b1 : vd v1) (hr : 0 ≤ r ∧ r ≤ 32768) : f62 (nthI [X, Y]) (nthI [u0, u1]) (nthI [v0, v1]) r = some (nr X Y u0 u1 v0 v1 r, 0) :=
  rnear_in (p := nthI [X, Y]) (A := nthI [u0, u1]) (B := nthI [v0, v1]) (r := r) k0 k1 a0 a1 b0 b1 hr
theorem rel_vd {u q : Int} (h : -4000 ≤ u - q ∧ u - q ≤ 4000) : vd (u - q) := by constructor <;> omega
theorem rel_w {u q : Int} (h : -4000 ≤ u - q ∧ u - q ≤ 4000) : IntKind.i64.wrap (u - q) = u - q := w64 (by omega) (by omega)
theorem rel_m {u q : Int} (h : -2500 ≤ u - q ∧ u - q ≤ 2500) : -4000 ≤ u - q ∧ u - q ≤ 4000 := by omega
theorem rabove_in {a p : Nat → Int} {c r : Int} (h : okA a p c) (hr : 0 ≤ r ∧ r ≤ 32768) : f34 a p c r = some (abv a p c r) := by
  obtain ⟨ha, hp, hc⟩ := id h
  obtain ⟨k0, k1⟩ := c_rel ha hp c
  obtain ⟨⟨l0, l1⟩, r0, r1⟩ := J_frel ha hp c
  replace l0 := rel_m l0
  replace l1 := rel_m l1
  replace r0 := rel_m r0
  replace r1 := rel_m r1
  obtain ⟨e27, e28, e30, e31⟩ := J_feet a p c
  have hcen := rcenter_in h
  have hof := rof_in ha hp hc
  unfold f34 abv
  rw [hof, hcen]
  simp -implicitDefEqProofs only [Option.bind_some]
  rw [e27, e28, e30, e31]
  simp -implicitDefEqProofs only [nthI]
  unfold cxI at *
  unfold cyI at *
  generalize near (sX a (J a p c)) (2 * massI a) = X at *
  generalize near (sY a (J a p c)) (2 * massI a) = Y at *
  clear hcen hof ha e27 e28 e30 e31 h
  rw [rel_w k0, rel_w k1, rel_w l0, rel_w l1, rel_w r0, rel_w r1]
  replace k0 := rel_vd k0
  replace k1 := rel_vd k1
  replace l0 := rel_vd l0
  replace l1 := rel_vd l1
  replace r0 := rel_vd r0
  replace r1 := rel_vd r1
  have n1 := rnear_l k0 k1 l0 l1 l0 l1 hr
  have n2 := rnear_l k0 k1 r0 r1 r0 r1 hr
  have n3 := rnear_l k0 k1 l0 l1 r0 r1 hr
  rw [nr_shift] at n1 n2 n3
  unfold ftA ftB
  by_cases h1 : c = 1
  · rw [decide_eq_true h1, cond_true, cond_true, decide_eq_false (show ¬ c = 2 by omega), cond_false, cond_false, n1]
    rfl
  · by_cases h2 : c = 2
    · rw [decide_eq_false h1, decide_eq_true h2, cond_true, cond_true, cond_false, cond_false, n2]
      rfl
    · rw [decide_eq_false h1, decide_eq_false h2, cond_false, cond_false, cond_false, cond_false, n3]
      rfl

end Go.Proofs.YtggiamcgkiaicaaDoor
