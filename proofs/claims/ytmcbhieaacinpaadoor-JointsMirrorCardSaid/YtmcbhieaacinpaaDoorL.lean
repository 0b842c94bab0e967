/-
  THE PLAIN LAWS: what the contracts compute answers as the statements say.
-/
import Derived.Test.YtmcbhieaacinpaaDoorP
open Go Go.VE Go.Proofs
set_option maxRecDepth 1000000
set_option maxHeartbeats 0
set_option linter.unusedVariables false
set_option linter.unusedSimpArgs false
namespace Go.Proofs.YtmcbhieaacinpaaDoor
theorem lawOf (a b : Nat → Int) (c : Int) : f3 a b c = some true := by
  have h : ∃ z e, f10 a b c = some (z, e) := by
    by_cases h : okB a ∧ poseOk b ∧ 0 ≤ c ∧ c ≤ 3
    · exact ⟨_, _, of_in h.1 h.2.1 h.2.2⟩
    · obtain ⟨e, z, _, h, _⟩ := of_out h
      exact ⟨_, _, h⟩
  obtain ⟨z, e, h⟩ := h
  unfold f3
  rw [rof_eq, h]
  simp -implicitDefEqProofs only [Option.bind_some, decide_true, Bool.and_self, cond_true]
theorem lawEnd (a : Nat → Int) (b : Int) : f6 a b = some true := by
  have h : ∃ r, f17 a b = some r := by
    unfold f17
    by_cases h1 : b < 0
    · exact ⟨_, by rw [decide_eq_true h1]; rfl⟩
    · by_cases h2 : 6 ≤ b
      · exact ⟨_, by rw [decide_eq_false h1, decide_eq_true h2]; rfl⟩
      · exact ⟨_, by rw [decide_eq_false h1, decide_eq_false h2, decide_eq_true (show 0 ≤ b by omega), decide_eq_true (show b < 6 by omega)]; rfl⟩
  obtain ⟨r, h⟩ := h
  have h' : f18 a b = some r := h
  obtain ⟨m, hm⟩ : ∃ m, f19 a = some m := ⟨_, rfl⟩
  have hm' : f20 a = some m := hm
  unfold f6
  rw [h, h', hm, hm']
  simp -implicitDefEqProofs only [Option.bind_some, decide_true, Bool.and_self, cond_true]
theorem lawDist (a b : Nat → Int) : f7 a b = some true := by
  unfold f7
  by_cases h : far3 a ∧ far3 b
  · rw [dist_in h.1 h.2, dist_in h.2 h.1, rdist_in h.1 h.2, d2_comm b a]
    simp -implicitDefEqProofs only [Option.bind_some, decide_true, Bool.and_self, cond_true]
  · rw [dist_out h, dist_out fun h' => h ⟨h'.2, h'.1⟩, rdist_out h]
    simp -implicitDefEqProofs only [Option.bind_some, decide_true, Bool.and_self, cond_true]
theorem sup (c : Int) (hc : 0 ≤ c) : IntKind.i64.wrap (c.tmod 4) = c % 4 := by
  rw [tmod_nonneg_eq hc, w64 (by omega) (by omega)]
theorem lawMoved (a b : Nat → Int) (c : Int) (d : Nat → Int) (hc : 0 ≤ c) : f4 a b c d = some true := by
  unfold f4
  rw [sup c hc]
  have hs : 0 ≤ c % 4 ∧ c % 4 ≤ 3 := by omega
  by_cases h : okB a ∧ poseOk b
  · rw [of_in h.1 h.2 hs]
    by_cases h2 : poseOk (atP b (d 0) (d 1))
    · rw [of_in h.1 h2 hs]
      obtain ⟨⟨m1, m2, m3⟩, ⟨m4, m5, m6⟩, ⟨m7, m8, m9⟩, ⟨n1, n2, n3⟩, ⟨n4, n5, n6⟩, ⟨n7, n8, n9⟩, ⟨p1, p2, p3⟩, ⟨p4, p5, p6⟩, ⟨p7, p8, p9⟩, ⟨q1, q2, q3⟩, q4, q5, q6⟩ := J_moved a b (d 0) (d 1) (c % 4)
      have m1' : d 0 - b 0 = d 0 - b 0 := rfl
      have m3' : hh a (b 3) - hh a (b 3) = 0 := Int.sub_self _
      have w0 : IntKind.i64.wrap 0 = 0 := by kernel_rfl
      simp -implicitDefEqProofs only [Option.bind_some, decide_true, Bool.not_true, Bool.and_self, cond_true, cond_false, f13, J, nthI, m3', m4, m5, m6, m7, m8, m9, n1, n2, n3, n4, n5, n6, n7, n8, n9, p1, p2, p3, p4, p5, p6, p7, p8, p9, q1, q2, q3, q4, q5, q6, w0]
    · obtain ⟨e, z, he, h3, _⟩ := of_out (a := a) (p := atP b (d 0) (d 1)) (c := c % 4) fun h' => h2 h'.2.1
      rw [h3]
      simp -implicitDefEqProofs only [Option.bind_some, decide_true, he, decide_false, Bool.not_true, Bool.not_false, cond_true, cond_false]
  · obtain ⟨e, z, he, h2, _⟩ := of_out (a := a) (p := b) (c := c % 4) fun h' => h ⟨h'.1, h'.2.1⟩
    have h3 : ∃ z e, f10 a (atP b (d 0) (d 1)) (c % 4) = some (z, e) := by
      by_cases h : okB a ∧ poseOk (atP b (d 0) (d 1)) ∧ 0 ≤ c % 4 ∧ c % 4 ≤ 3
      · exact ⟨_, _, of_in h.1 h.2.1 h.2.2⟩
      · obtain ⟨e, z, _, h, _⟩ := of_out h
        exact ⟨_, _, h⟩
    obtain ⟨z', e', h3⟩ := h3
    rw [h2, h3]
    simp -implicitDefEqProofs only [Option.bind_some, he, decide_false, Bool.not_false, cond_true]
theorem far3_of {B : Int} {u : Nat → Int} (h : in3 B u) (hB : B ≤ 65536) : far3 (nthI [u 0, u 1, u 2]) := by
  obtain ⟨⟨_, _⟩, ⟨_, _⟩, _, _⟩ := h
  refine ⟨⟨?_, ?_⟩, ⟨?_, ?_⟩, ?_, ?_⟩ <;> simp only [nthI] <;> omega
theorem lawFloor (a b : Nat → Int) (c : Int) (hc : 0 ≤ c) : f5 a b c = some true := by
  unfold f5
  rw [sup c hc]
  have hs : 0 ≤ c % 4 ∧ c % 4 ≤ 3 := by omega
  generalize c % 4 = s at hs
  by_cases h : okB a ∧ poseOk b
  · rw [of_in h.1 h.2 hs]
    obtain ⟨j0, j1, j2, j3, j4, j5, j6, j7, j8⟩ := J_in h.1 h.2
    obtain ⟨j9, j10⟩ := J_foot h.1 h.2 s
    have g1 : hipJ a b 0 - hipL a b 0 = sx (a 4) (b 2) ∧ hipJ a b 1 - hipL a b 1 = sy (a 4) (b 2) ∧ hipJ a b 2 - hipL a b 2 = 0 := by
      refine ⟨?_, ?_, ?_⟩ <;> simp only [hipL, add3, sdL, nthI] <;> omega
    have g2 : hipR a b 0 - hipJ a b 0 = sx (a 4) (b 2) ∧ hipR a b 1 - hipJ a b 1 = sy (a 4) (b 2) ∧ hipR a b 2 - hipJ a b 2 = 0 := by
      refine ⟨?_, ?_, ?_⟩ <;> simp only [hipR, add3, sdR, nthI] <;> omega
    have g3 : neckJ a b 0 - shL a b 0 = sx (a 5) (b 2) ∧ neckJ a b 1 - shL a b 1 = sy (a 5) (b 2) ∧ neckJ a b 2 - shL a b 2 = 0 := by
      refine ⟨?_, ?_, ?_⟩ <;> simp only [shL, add3, sdL, nthI] <;> omega
    have g4 : shR a b 0 - neckJ a b 0 = sx (a 5) (b 2) ∧ shR a b 1 - neckJ a b 1 = sy (a 5) (b 2) ∧ shR a b 2 - neckJ a b 2 = 0 := by
      refine ⟨?_, ?_, ?_⟩ <;> simp only [shR, add3, sdR, nthI] <;> omega
    obtain ⟨x1, x2, x3⟩ := g1
    obtain ⟨x4, x5, x6⟩ := g2
    obtain ⟨x7, x8, x9⟩ := g3
    obtain ⟨y1, y2, y3⟩ := g4
    have i0 : hipJ a b 0 = b 0 := rfl
    have i1 : hipJ a b 1 = b 1 := rfl
    have i2 : hipJ a b 2 = hh a (b 3) := rfl
    rw [i0] at x1 x4
    rw [i1] at x2 x5
    rw [i2] at x3 x6
    have w0 : IntKind.i64.wrap 0 = 0 := by kernel_rfl
    have d30 : decide ((0 : Int) = 3) = false := rfl
    have d31 : decide ((1 : Int) = 3) = false := rfl
    have d32 : decide ((2 : Int) = 3) = false := rfl
    have h4 : s = 0 ∨ s = 1 ∨ s = 2 ∨ s = 3 := by omega
    rcases h4 with rfl | rfl | rfl | rfl
    · simp -implicitDefEqProofs only [Option.bind_some, decide_true, Bool.not_true, Bool.not_false, Bool.and_self, cond_true, cond_false, bit10.1, bit20.1, d10, d20, d30, f13, J, nthI, fl0, fr0, x1, x2, x3, x4, x5, x6, x7, x8, x9, y1, y2, y3, w0]
    · simp -implicitDefEqProofs only [Option.bind_some, decide_true, Bool.not_true, Bool.not_false, Bool.and_self, cond_true, cond_false, bit10.2.1, bit20.2.1, d10, d20, d31, f13, J, nthI, fl1, fr1, x1, x2, x3, x4, x5, x6, x7, x8, x9, y1, y2, y3, w0]
    · simp -implicitDefEqProofs only [Option.bind_some, decide_true, Bool.not_true, Bool.not_false, Bool.and_self, cond_true, cond_false, bit10.2.2.1, bit20.2.2.1, d10, d20, d32, f13, J, nthI, fl2, fr2, x1, x2, x3, x4, x5, x6, x7, x8, x9, y1, y2, y3, w0]
    · have e1 : f16 (nthI [hipL a b 0, hipL a b 1, 0]) (nthI [hipR a b 0, hipR a b 1, 0]) = some (d2 (nthI [hipL a b 0, hipL a b 1, 0]) (nthI [hipR a b 0, hipR a b 1, 0]), 0) := by
        have k1 := far3_of j9 (by omega)
        have k2 := far3_of j10 (by omega)
        rw [fl3] at k1
        rw [fr3] at k2
        exact dist_in k1 k2
      have e2 : f16 (nthI [hipL a b 0, hipL a b 1, hipL a b 2]) (nthI [hipR a b 0, hipR a b 1, hipR a b 2]) = some (d2 (nthI [hipL a b 0, hipL a b 1, hipL a b 2]) (nthI [hipR a b 0, hipR a b 1, hipR a b 2]), 0) := dist_in (far3_of j3 (by omega)) (far3_of j4 (by omega))
      have e3 : d2 (nthI [hipL a b 0, hipL a b 1, 0]) (nthI [hipR a b 0, hipR a b 1, 0]) = d2 (nthI [hipL a b 0, hipL a b 1, hipL a b 2]) (nthI [hipR a b 0, hipR a b 1, hipR a b 2]) := by
        have : hipL a b 2 = hipR a b 2 := by omega
        simp only [d2, nthI, this, Int.sub_self]
      rw [e3] at e1
      simp -implicitDefEqProofs only [Option.bind_some, decide_true, Bool.not_true, Bool.not_false, Bool.and_self, cond_true, cond_false, bit10.2.2.2, bit20.2.2.2, d10, d20, f13, J, nthI, fl3, fr3, e1, e2, x1, x2, x3, x4, x5, x6, x7, x8, x9, y1, y2, y3, w0]
  · obtain ⟨e, z, he, h2, _⟩ := of_out (a := a) (p := b) (c := s) fun h' => h ⟨h'.1, h'.2.1⟩
    rw [h2]
    by_cases ha : okB a
    · obtain ⟨r, hr⟩ := valid_some b
      have hz : r ≠ 0 := fun hz => h ⟨ha, valid_of (hz ▸ hr)⟩
      rw [build_in ha, hr]
      simp -implicitDefEqProofs only [Option.bind_some, he, hz, decide_false, decide_true, Bool.not_false, Bool.not_true, cond_true, cond_false]
    · have d23 : decide ((23 : Int) = 0) = false := rfl
      rw [build_out ha]
      simp -implicitDefEqProofs only [Option.bind_some, he, d23, decide_false, Bool.not_false, cond_true]
theorem neg_w {x B : Int} (h : -B ≤ x ∧ x ≤ B) (hB : B ≤ 1000000) : IntKind.i64.wrap (0 - x) = -x := by rw [w64 (by omega) (by omega)]; omega
theorem lawQuarters (a b : Nat → Int) (c : Int) (hc : 0 ≤ c) : f8 a b c = some true := by
  unfold f8
  rw [sup c hc]
  have hs : 0 ≤ c % 4 ∧ c % 4 ≤ 3 := by omega
  generalize c % 4 = s at hs
  by_cases h : okB a ∧ poseOk b
  · rw [of_in h.1 h.2 hs, rotatepose1_in h.2]
    obtain ⟨j0, j1, j2, j3, j4, j5, j6, j7, j8⟩ := J_in h.1 h.2
    obtain ⟨j9, j10⟩ := J_foot h.1 h.2 s
    obtain ⟨⟨m1, m2, m3⟩, ⟨m4, m5, m6⟩, ⟨m7, m8, m9⟩, ⟨n1, n2, n3⟩, ⟨n4, n5, n6⟩, ⟨n7, n8, n9⟩, ⟨p1, p2, p3⟩, ⟨p4, p5, p6⟩, ⟨p7, p8, p9⟩, ⟨q1, q2, q3⟩, q4, q5, q6⟩ := J_turned a b s
    have e := of_in h.1 (tnP_ok h.2) hs
    have w0 : IntKind.i64.wrap (0 - b 0) = -b 0 := neg_w j0.1 (by omega)
    simp -implicitDefEqProofs only [Option.bind_some, e, decide_true, Bool.not_true, Bool.and_self, cond_true, cond_false, f23, f24, J, nthI, m4, m5, m6, m7, m8, m9, n1, n2, n3, n4, n5, n6, n7, n8, n9, p1, p2, p3, p4, p5, p6, p7, p8, p9, q1, q2, q3, q4, q5, q6,
      w0, neg_w j1.1 (by omega), neg_w j2.1 (by omega), neg_w j3.1 (by omega), neg_w j4.1 (by omega), neg_w j5.1 (by omega), neg_w j6.1 (by omega), neg_w j7.1 (by omega), neg_w j8.1 (by omega), neg_w j9.1 (by omega), neg_w j10.1 (by omega)]
  · obtain ⟨e, z, he, h2, hz⟩ := of_out (a := a) (p := b) (c := s) fun h' => h ⟨h'.1, h'.2.1⟩
    rw [h2]
    simp only [Option.bind_some, he, decide_false, Bool.not_false, cond_true]
    simp -implicitDefEqProofs only [hz 0 (by omega), hz 1 (by omega), hz 2 (by omega), hz 3 (by omega), hz 4 (by omega), hz 5 (by omega), hz 6 (by omega), hz 7 (by omega), hz 8 (by omega), hz 9 (by omega), hz 10 (by omega), hz 11 (by omega), hz 12 (by omega), hz 13 (by omega), hz 14 (by omega), hz 15 (by omega), hz 16 (by omega), hz 17 (by omega), hz 18 (by omega), hz 19 (by omega), hz 20 (by omega), hz 21 (by omega), hz 22 (by omega), hz 23 (by omega), hz 24 (by omega), hz 25 (by omega), hz 26 (by omega), hz 27 (by omega), hz 28 (by omega), hz 29 (by omega), hz 30 (by omega), hz 31 (by omega), hz 32 (by omega), decide_true, Bool.and_self, cond_true]
theorem min6 (x y z u v w x' y' z' u' v' w' : Int) (h1 : x' = y) (h2 : y' = x) (h3 : z' = u) (h4 : u' = z) (h5 : v' = v) (h6 : w' = w) : minI (minI (minI (minI (minI x' y') z') u') v') w' = minI (minI (minI (minI (minI x y) z) u) v) w := by
  subst h1 h2 h3 h4 h5 h6
  unfold minI
  (repeat' split) <;> omega
theorem lawMirror (a b : Nat → Int) (c : Int) (hc : 0 ≤ c) : f9 a b c = some true := by
  unfold f9
  rw [sup c hc]
  have hs : 0 ≤ c % 4 ∧ c % 4 ≤ 3 := by omega
  generalize c % 4 = s at hs
  by_cases h : okB a ∧ poseOk b
  · have hd : IntKind.i64.wrap (IntKind.i64.wrap (s.tdiv 2) + IntKind.i64.wrap (2 * s.tmod 2)) = s / 2 + 2 * (s % 2) := by
      rw [tmod_nonneg_eq hs.1, Int.tdiv_eq_ediv_of_nonneg hs.1, w64 (n := s / 2) (by omega) (by omega), w64 (n := 2 * (s % 2)) (by omega) (by omega), w64 (by omega) (by omega)]
    rw [of_in h.1 h.2 hs, mirrorpose_in h.2, hd]
    have hs' : 0 ≤ s / 2 + 2 * (s % 2) ∧ s / 2 + 2 * (s % 2) ≤ 3 := by omega
    have hd1 : ((s / 2 + 2 * (s % 2)) % 2 = 1) = (s / 2 % 2 = 1) := by
      apply propext
      omega
    have hd2 : ((s / 2 + 2 * (s % 2)) / 2 % 2 = 1) = (s % 2 = 1) := by
      apply propext
      omega
    generalize s / 2 + 2 * (s % 2) = d at hs' hd1 hd2
    obtain ⟨j0, j1, j2, j3, j4, j5, j6, j7, j8⟩ := J_in h.1 h.2
    obtain ⟨j9, j10⟩ := J_foot h.1 h.2 s
    obtain ⟨⟨m1, m2, m3⟩, ⟨m4, m5, m6⟩, ⟨m7, m8, m9⟩, ⟨n1, n2, n3⟩, ⟨n4, n5, n6⟩, ⟨n7, n8, n9⟩, ⟨p1, p2, p3⟩, ⟨p4, p5, p6⟩, ⟨p7, p8, p9⟩, ⟨q1, q2, q3⟩, q4, q5, q6⟩ := J_mirror a b s d hd1 hd2
    have e := of_in h.1 (flP_ok h.2) hs'
    have hm : minI (minI (minI (minI (minI (footR a b s 2) (footL a b s 2)) (handR a b 2)) (handL a b 2)) (neckJ a b 2)) (headJ a b 2) = minI (minI (minI (minI (minI (footL a b s 2) (footR a b s 2)) (handL a b 2)) (handR a b 2)) (neckJ a b 2)) (headJ a b 2) := min6 _ _ _ _ _ _ _ _ _ _ _ _ rfl rfl rfl rfl rfl rfl
    have w0 : IntKind.i64.wrap (0 - b 0) = -b 0 := neg_w j0.1 (by omega)
    simp -implicitDefEqProofs only [Option.bind_some, e, decide_true, Bool.not_true, Bool.and_self, cond_true, cond_false, f26, f27, f19, J, nthI, m4, m5, m6, m7, m8, m9, n1, n2, n3, n4, n5, n6, n7, n8, n9, p1, p2, p3, p4, p5, p6, p7, p8, p9, q1, q2, q3, q4, q5, q6,
      w0, neg_w j1.1 (by omega), neg_w j2.1 (by omega), neg_w j3.1 (by omega), neg_w j4.1 (by omega), neg_w j5.1 (by omega), neg_w j6.1 (by omega), neg_w j7.1 (by omega), neg_w j8.1 (by omega), neg_w j9.1 (by omega), neg_w j10.1 (by omega)]
    simp -implicitDefEqProofs only [hm, decide_true, cond_true]
  · obtain ⟨e, z, he, h2, hz⟩ := of_out (a := a) (p := b) (c := s) fun h' => h ⟨h'.1, h'.2.1⟩
    rw [h2]
    simp only [Option.bind_some, he, decide_false, Bool.not_false, cond_true]
    simp -implicitDefEqProofs only [hz 0 (by omega), hz 1 (by omega), hz 2 (by omega), hz 3 (by omega), hz 4 (by omega), hz 5 (by omega), hz 6 (by omega), hz 7 (by omega), hz 8 (by omega), hz 9 (by omega), hz 10 (by omega), hz 11 (by omega), hz 12 (by omega), hz 13 (by omega), hz 14 (by omega), hz 15 (by omega), hz 16 (by omega), hz 17 (by omega), hz 18 (by omega), hz 19 (by omega), hz 20 (by omega), hz 21 (by omega), hz 22 (by omega), hz 23 (by omega), hz 24 (by omega), hz 25 (by omega), hz 26 (by omega), hz 27 (by omega), hz 28 (by omega), hz 29 (by omega), hz 30 (by omega), hz 31 (by omega), hz 32 (by omega), decide_true, Bool.and_self, cond_true]

end Go.Proofs.YtmcbhieaacinpaaDoor
