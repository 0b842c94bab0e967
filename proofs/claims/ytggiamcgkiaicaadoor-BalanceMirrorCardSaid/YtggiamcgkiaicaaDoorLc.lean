/-
  THE PLAIN LAWS: what the contracts compute answers as the statements say.
-/
import Derived.Test.YtggiamcgkiaicaaDoorLb
open Go Go.VE Go.Proofs
set_option maxRecDepth 1000000
set_option maxHeartbeats 0
set_option linter.unusedVariables false
set_option linter.unusedSimpArgs false
namespace Go.Proofs.YtggiamcgkiaicaaDoor
/-! ### The centre -/
def massI (a : Nat → Int) : Int := a 11 + a 12 + 2 * a 13 + 2 * a 14
def sX (a j : Nat → Int) : Int := a 11 * (j 0 + j 3) + a 12 * (j 3 + j 6) + a 13 * (j 15 + j 21) + a 14 * (j 9 + j 27) + a 13 * (j 18 + j 24) + a 14 * (j 12 + j 30)
def sY (a j : Nat → Int) : Int := a 11 * (j 1 + j 4) + a 12 * (j 4 + j 7) + a 13 * (j 16 + j 22) + a 14 * (j 10 + j 28) + a 13 * (j 19 + j 25) + a 14 * (j 13 + j 31)
abbrev jc (x : Int) : Prop := -40000 ≤ x ∧ x ≤ 40000
theorem term_in {m u v : Int} (hm : 1 ≤ m ∧ m ≤ 200000) (hu : jc u) (hv : jc v) : -16000000000 ≤ m * (u + v) ∧ m * (u + v) ≤ 16000000000 := mul_bound (A := 200000) (B := 80000) ⟨by omega, hm.2⟩ ⟨by omega, by omega⟩
theorem mass_in {a : Nat → Int} (ha : okB a) : f47 a = some (massI a, 0) ∧ f27 a = some (massI a, 0) := by
  obtain ⟨h0, h1, h2, h3, h4, h5, h6, h7, h8, h9, h10, m0, m1, m2, m3⟩ := id ha
  unfold f47 f27 massI
  rw [build_in ha, rbuild_in ha, w64 (n := 2 * a 13) (by omega) (by omega), w64 (n := 2 * a 14) (by omega) (by omega), w64 (n := a 11 + a 12) (by omega) (by omega), w64 (n := a 11 + a 12 + 2 * a 13) (by omega) (by omega), w64 (n := a 11 + a 12 + 2 * a 13 + 2 * a 14) (by omega) (by omega)]
  exact ⟨rfl, rfl⟩
theorem mass_pos {a : Nat → Int} (ha : okB a) : 6 ≤ massI a ∧ massI a ≤ 1200000 := by
  obtain ⟨h0, h1, h2, h3, h4, h5, h6, h7, h8, h9, h10, m0, m1, m2, m3⟩ := id ha
  unfold massI
  omega
abbrev jin (j : Nat → Int) : Prop := (jc (j 0) ∧ jc (j 1)) ∧ (jc (j 3) ∧ jc (j 4)) ∧ (jc (j 6) ∧ jc (j 7)) ∧ (jc (j 9) ∧ jc (j 10)) ∧ (jc (j 12) ∧ jc (j 13)) ∧ (jc (j 15) ∧ jc (j 16)) ∧ (jc (j 18) ∧ jc (j 19)) ∧ (jc (j 21) ∧ jc (j 22)) ∧ (jc (j 24) ∧ jc (j 25)) ∧ (jc (j 27) ∧ jc (j 28)) ∧ (jc (j 30) ∧ jc (j 31))
theorem sums_in {a j : Nat → Int} (ha : okB a) (hj : jin j) : (-96000000000 ≤ sX a j ∧ sX a j ≤ 96000000000) ∧ (-96000000000 ≤ sY a j ∧ sY a j ≤ 96000000000) := by
  obtain ⟨h0, h1, h2, h3, h4, h5, h6, h7, h8, h9, h10, m0, m1, m2, m3⟩ := ha
  obtain ⟨⟨x0, y0⟩, ⟨x1, y1⟩, ⟨x2, y2⟩, ⟨x3, y3⟩, ⟨x4, y4⟩, ⟨x5, y5⟩, ⟨x6, y6⟩, ⟨x7, y7⟩, ⟨x8, y8⟩, ⟨x9, y9⟩, x10, y10⟩ := hj
  have t1 := term_in m0 x0 x1
  have t2 := term_in m1 x1 x2
  have t3 := term_in m2 x5 x7
  have t4 := term_in m3 x3 x9
  have t5 := term_in m2 x6 x8
  have t6 := term_in m3 x4 x10
  have u1 := term_in m0 y0 y1
  have u2 := term_in m1 y1 y2
  have u3 := term_in m2 y5 y7
  have u4 := term_in m3 y3 y9
  have u5 := term_in m2 y6 y8
  have u6 := term_in m3 y4 y10
  unfold sX sY
  omega
theorem center_in {a j : Nat → Int} (ha : okB a) (hj : jin j) : f25 a j = some (nthI [near (sX a j) (2 * massI a), near (sY a j) (2 * massI a)]) := by
  obtain ⟨M1, M2⟩ := mass_pos ha
  obtain ⟨⟨S1, S2⟩, S3, S4⟩ := sums_in ha hj
  obtain ⟨h0, h1, h2, h3, h4, h5, h6, h7, h8, h9, h10, m0, m1, m2, m3⟩ := id ha
  obtain ⟨⟨x0, y0⟩, ⟨x1, y1⟩, ⟨x2, y2⟩, ⟨x3, y3⟩, ⟨x4, y4⟩, ⟨x5, y5⟩, ⟨x6, y6⟩, ⟨x7, y7⟩, ⟨x8, y8⟩, ⟨x9, y9⟩, x10, y10⟩ := hj
  have t1 := term_in m0 x0 x1
  have t2 := term_in m1 x1 x2
  have t3 := term_in m2 x5 x7
  have t4 := term_in m3 x3 x9
  have t5 := term_in m2 x6 x8
  have t6 := term_in m3 x4 x10
  have u1 := term_in m0 y0 y1
  have u2 := term_in m1 y1 y2
  have u3 := term_in m2 y5 y7
  have u4 := term_in m3 y3 y9
  have u5 := term_in m2 y6 y8
  have u6 := term_in m3 y4 y10
  unfold f25
  rw [(mass_in ha).1]
  simp -implicitDefEqProofs only [Option.bind_some, f51, f52, nthI, Int.zero_add]
  rw [w64 (n := j 0 + j 3) (by omega) (by omega), w64 (n := j 3 + j 6) (by omega) (by omega), w64 (n := j 15 + j 21) (by omega) (by omega), w64 (n := j 9 + j 27) (by omega) (by omega), w64 (n := j 18 + j 24) (by omega) (by omega), w64 (n := j 12 + j 30) (by omega) (by omega),
    w64 (n := j 1 + j 4) (by omega) (by omega), w64 (n := j 4 + j 7) (by omega) (by omega), w64 (n := j 16 + j 22) (by omega) (by omega), w64 (n := j 10 + j 28) (by omega) (by omega), w64 (n := j 19 + j 25) (by omega) (by omega), w64 (n := j 13 + j 31) (by omega) (by omega),
    w64 (n := 2 * massI a) (by omega) (by omega)]
  rw [w64 (n := a 11 * (j 0 + j 3)) (by omega) (by omega), w64 (n := a 12 * (j 3 + j 6)) (by omega) (by omega), w64 (n := a 13 * (j 15 + j 21)) (by omega) (by omega), w64 (n := a 14 * (j 9 + j 27)) (by omega) (by omega), w64 (n := a 13 * (j 18 + j 24)) (by omega) (by omega), w64 (n := a 14 * (j 12 + j 30)) (by omega) (by omega),
    w64 (n := a 11 * (j 1 + j 4)) (by omega) (by omega), w64 (n := a 12 * (j 4 + j 7)) (by omega) (by omega), w64 (n := a 13 * (j 16 + j 22)) (by omega) (by omega), w64 (n := a 14 * (j 10 + j 28)) (by omega) (by omega), w64 (n := a 13 * (j 19 + j 25)) (by omega) (by omega), w64 (n := a 14 * (j 13 + j 31)) (by omega) (by omega)]
  unfold sX at S1 S2 ⊢
  unfold sY at S3 S4 ⊢
  generalize a 11 * (j 0 + j 3) = z1 at *
  generalize a 12 * (j 3 + j 6) = z2 at *
  generalize a 13 * (j 15 + j 21) = z3 at *
  generalize a 14 * (j 9 + j 27) = z4 at *
  generalize a 13 * (j 18 + j 24) = z5 at *
  generalize a 14 * (j 12 + j 30) = z6 at *
  generalize a 11 * (j 1 + j 4) = q1 at *
  generalize a 12 * (j 4 + j 7) = q2 at *
  generalize a 13 * (j 16 + j 22) = q3 at *
  generalize a 14 * (j 10 + j 28) = q4 at *
  generalize a 13 * (j 19 + j 25) = q5 at *
  generalize a 14 * (j 13 + j 31) = q6 at *
  try rw [w64 (n := z1) (by omega) (by omega)]
  try rw [w64 (n := q1) (by omega) (by omega)]
  rw [w64 (n := z1 + z2) (by omega) (by omega), w64 (n := z1 + z2 + z3) (by omega) (by omega), w64 (n := z1 + z2 + z3 + z4) (by omega) (by omega), w64 (n := z1 + z2 + z3 + z4 + z5) (by omega) (by omega), w64 (n := z1 + z2 + z3 + z4 + z5 + z6) (by omega) (by omega),
    w64 (n := q1 + q2) (by omega) (by omega), w64 (n := q1 + q2 + q3) (by omega) (by omega), w64 (n := q1 + q2 + q3 + q4) (by omega) (by omega), w64 (n := q1 + q2 + q3 + q4 + q5) (by omega) (by omega), w64 (n := q1 + q2 + q3 + q4 + q5 + q6) (by omega) (by omega)]
  rw [round_eq (by omega) (by omega) (by omega) (by omega), round_eq (by omega) (by omega) (by omega) (by omega)]
  rfl
theorem middle_in {a j : Nat → Int} (ha : okB a) (hj : jin j) : f28 a j = some (sX a j, sY a j) := by
  obtain ⟨M1, M2⟩ := mass_pos ha
  obtain ⟨⟨S1, S2⟩, S3, S4⟩ := sums_in ha hj
  obtain ⟨h0, h1, h2, h3, h4, h5, h6, h7, h8, h9, h10, m0, m1, m2, m3⟩ := id ha
  obtain ⟨⟨x0, y0⟩, ⟨x1, y1⟩, ⟨x2, y2⟩, ⟨x3, y3⟩, ⟨x4, y4⟩, ⟨x5, y5⟩, ⟨x6, y6⟩, ⟨x7, y7⟩, ⟨x8, y8⟩, ⟨x9, y9⟩, x10, y10⟩ := hj
  have t1 := term_in m0 x0 x1
  have t2 := term_in m1 x1 x2
  have t3 := term_in m2 x5 x7
  have t4 := term_in m3 x3 x9
  have t5 := term_in m2 x6 x8
  have t6 := term_in m3 x4 x10
  have u1 := term_in m0 y0 y1
  have u2 := term_in m1 y1 y2
  have u3 := term_in m2 y5 y7
  have u4 := term_in m3 y3 y9
  have u5 := term_in m2 y6 y8
  have u6 := term_in m3 y4 y10
  unfold f28
  rw [w64 (n := j 0 + j 3) (by omega) (by omega), w64 (n := j 3 + j 6) (by omega) (by omega), w64 (n := j 15 + j 21) (by omega) (by omega), w64 (n := j 9 + j 27) (by omega) (by omega), w64 (n := j 18 + j 24) (by omega) (by omega), w64 (n := j 12 + j 30) (by omega) (by omega),
    w64 (n := j 1 + j 4) (by omega) (by omega), w64 (n := j 4 + j 7) (by omega) (by omega), w64 (n := j 16 + j 22) (by omega) (by omega), w64 (n := j 10 + j 28) (by omega) (by omega), w64 (n := j 19 + j 25) (by omega) (by omega), w64 (n := j 13 + j 31) (by omega) (by omega)]
  rw [w64 (n := a 11 * (j 0 + j 3)) (by omega) (by omega), w64 (n := a 12 * (j 3 + j 6)) (by omega) (by omega), w64 (n := a 13 * (j 15 + j 21)) (by omega) (by omega), w64 (n := a 14 * (j 9 + j 27)) (by omega) (by omega), w64 (n := a 13 * (j 18 + j 24)) (by omega) (by omega), w64 (n := a 14 * (j 12 + j 30)) (by omega) (by omega),
    w64 (n := a 11 * (j 1 + j 4)) (by omega) (by omega), w64 (n := a 12 * (j 4 + j 7)) (by omega) (by omega), w64 (n := a 13 * (j 16 + j 22)) (by omega) (by omega), w64 (n := a 14 * (j 10 + j 28)) (by omega) (by omega), w64 (n := a 13 * (j 19 + j 25)) (by omega) (by omega), w64 (n := a 14 * (j 13 + j 31)) (by omega) (by omega)]
  unfold sX at S1 S2 ⊢
  unfold sY at S3 S4 ⊢
  generalize a 11 * (j 0 + j 3) = z1 at *
  generalize a 12 * (j 3 + j 6) = z2 at *
  generalize a 13 * (j 15 + j 21) = z3 at *
  generalize a 14 * (j 9 + j 27) = z4 at *
  generalize a 13 * (j 18 + j 24) = z5 at *
  generalize a 14 * (j 12 + j 30) = z6 at *
  generalize a 11 * (j 1 + j 4) = q1 at *
  generalize a 12 * (j 4 + j 7) = q2 at *
  generalize a 13 * (j 16 + j 22) = q3 at *
  generalize a 14 * (j 10 + j 28) = q4 at *
  generalize a 13 * (j 19 + j 25) = q5 at *
  generalize a 14 * (j 13 + j 31) = q6 at *
  rw [w64 (n := z1 + z2) (by omega) (by omega), w64 (n := z1 + z2 + z3) (by omega) (by omega), w64 (n := z1 + z2 + z3 + z4) (by omega) (by omega), w64 (n := z1 + z2 + z3 + z4 + z5) (by omega) (by omega), w64 (n := z1 + z2 + z3 + z4 + z5 + z6) (by omega) (by omega),
    w64 (n := q1 + q2) (by omega) (by omega), w64 (n := q1 + q2 + q3) (by omega) (by omega), w64 (n := q1 + q2 + q3 + q4) (by omega) (by omega), w64 (n := q1 + q2 + q3 + q4 + q5) (by omega) (by omega), w64 (n := q1 + q2 + q3 + q4 + q5 + q6) (by omega) (by omega)]
noncomputable abbrev cxI (a p : Nat → Int) (c : Int) : Int := near (sX a (J a p c)) (2 * massI a)
noncomputable abbrev cyI (a p : Nat → Int) (c : Int) : Int := near (sY a (J a p c)) (2 * massI a)
abbrev okA (a p : Nat → Int) (c : Int) : Prop := okB a ∧ poseOk p ∧ 0 ≤ c ∧ c ≤ 3
theorem J_jin {a p : Nat → Int} (ha : okB a) (hp : poseOk p) (c : Int) : jin (J a p c) := by
  obtain ⟨j0, j1, j2, j3, j4, j5, j6, j7, j8⟩ := J_in ha hp
  obtain ⟨j9, j10⟩ := J_foot ha hp c
  have i0 : hipJ a p 0 = p 0 := rfl
  have i1 : hipJ a p 1 = p 1 := rfl
  obtain ⟨⟨_, _⟩, ⟨_, _⟩, _⟩ := j0
  obtain ⟨⟨_, _⟩, ⟨_, _⟩, _⟩ := j1
  obtain ⟨⟨_, _⟩, ⟨_, _⟩, _⟩ := j2
  obtain ⟨⟨_, _⟩, ⟨_, _⟩, _⟩ := j3
  obtain ⟨⟨_, _⟩, ⟨_, _⟩, _⟩ := j4
  obtain ⟨⟨_, _⟩, ⟨_, _⟩, _⟩ := j5
  obtain ⟨⟨_, _⟩, ⟨_, _⟩, _⟩ := j6
  obtain ⟨⟨_, _⟩, ⟨_, _⟩, _⟩ := j7
  obtain ⟨⟨_, _⟩, ⟨_, _⟩, _⟩ := j8
  obtain ⟨⟨_, _⟩, ⟨_, _⟩, _⟩ := j9
  obtain ⟨⟨_, _⟩, ⟨_, _⟩, _⟩ := j10
  simp only [jin, jc, J, nthI]
  refine ⟨⟨⟨?_, ?_⟩, ?_, ?_⟩, ⟨⟨?_, ?_⟩, ?_, ?_⟩, ⟨⟨?_, ?_⟩, ?_, ?_⟩, ⟨⟨?_, ?_⟩, ?_, ?_⟩, ⟨⟨?_, ?_⟩, ?_, ?_⟩, ⟨⟨?_, ?_⟩, ?_, ?_⟩, ⟨⟨?_, ?_⟩, ?_, ?_⟩, ⟨⟨?_, ?_⟩, ?_, ?_⟩, ⟨⟨?_, ?_⟩, ?_, ?_⟩, ⟨⟨?_, ?_⟩, ?_, ?_⟩, ⟨?_, ?_⟩, ?_, ?_⟩ <;> omega
theorem fcenter_in {a p : Nat → Int} {c : Int} (h : okA a p c) : f10 a p c = some (nthI [cxI a p c, cyI a p c], 0) := by
  unfold f10
  rw [of_in h.1 h.2.1 h.2.2]
  simp -implicitDefEqProofs only [Option.bind_some, decide_true, Bool.not_true, cond_false]
  rw [center_in h.1 (J_jin h.1 h.2.1 c)]
  rfl
theorem rcenter_in {a p : Nat → Int} {c : Int} (h : okA a p c) : f11 a p c = some (nthI [cxI a p c, cyI a p c], 0) := by
  unfold f11
  have hj := J_jin h.1 h.2.1 c
  obtain ⟨M1, M2⟩ := mass_pos h.1
  obtain ⟨⟨S1, S2⟩, S3, S4⟩ := sums_in h.1 hj
  rw [rof_in h.1 h.2.1 h.2.2]
  simp -implicitDefEqProofs only [Option.bind_some, decide_true, Bool.not_true, cond_false]
  rw [(mass_in h.1).2, middle_in h.1 hj]
  simp -implicitDefEqProofs only [Option.bind_some]
  rw [w64 (n := 2 * massI a) (by omega) (by omega), rround_eq (by omega) (by omega) (by omega) (by omega), rround_eq (by omega) (by omega) (by omega) (by omega)]
  rfl
theorem center_out {a p : Nat → Int} {c : Int} (h : ¬ okA a p c) : ∃ e, e ≠ 0 ∧ f10 a p c = some (nthI [0, 0], e) ∧ f11 a p c = some (nthI [0, 0], e) := by
  obtain ⟨e, z, he, h1, _⟩ := of_out h
  refine ⟨e, he, ?_, ?_⟩
  · unfold f10
    rw [h1]
    simp -implicitDefEqProofs only [Option.bind_some, he, decide_false, Bool.not_false, cond_true]
  · unfold f11
    rw [rof_eq, h1]
    simp -implicitDefEqProofs only [Option.bind_some, he, decide_false, Bool.not_false, cond_true]
theorem aw : f12 = some true := rfl
theorem lawCenters (a b : Nat → Int) (c : Int) : f3 a b c = some true := by
  unfold f3
  by_cases h : okA a b c
  · rw [fcenter_in h, rcenter_in h, aw]
    simp -implicitDefEqProofs only [Option.bind_some, decide_true, Bool.and_self, cond_true]
  · obtain ⟨e, he, h1, h2⟩ := center_out h
    rw [h1, h2, aw]
    simp -implicitDefEqProofs only [Option.bind_some, decide_true, Bool.and_self, cond_true]

end Go.Proofs.YtggiamcgkiaicaaDoor
