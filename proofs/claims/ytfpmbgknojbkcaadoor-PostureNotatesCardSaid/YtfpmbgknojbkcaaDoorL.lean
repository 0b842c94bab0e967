/-
  THE PLAIN LAWS: what the contracts compute answers as the statements say.
-/
import Derived.Test.YtfpmbgknojbkcaaDoorP
open Go Go.VE Go.Proofs
set_option maxRecDepth 1000000
set_option maxHeartbeats 0
set_option linter.unusedVariables false
set_option linter.unusedSimpArgs false
namespace Go.Proofs.YtfpmbgknojbkcaaDoor
theorem lawChecks (a : Nat → Int) : f3 a = some true := by
  obtain ⟨r, hr⟩ := scheck_some a
  have h : ∃ z e, f11 a = some (z, e) := by
    by_cases h : startOk a
    · exact ⟨_, _, pose_in h⟩
    · obtain ⟨e, z, _, _, h, _⟩ := pose_out h
      exact ⟨_, _, h⟩
  obtain ⟨z, e, h⟩ := h
  unfold f3
  rw [rpose_eq, rscheck_eq, h, hr]
  simp -implicitDefEqProofs only [Option.bind_some, decide_true, Bool.and_self, cond_true]
theorem lawRotates (a b : Nat → Int) (c : Int) : f5 a b c = some true := by
  have h1 : ∃ z e, f20 a c = some (z, e) ∧ f21 a c = some (z, e) := by
    by_cases h : startOk a
    · exact ⟨_, _, srotate_in h c, rsrotate_in h c⟩
    · obtain ⟨e, z, h1, h2⟩ := srotate_out h c
      exact ⟨_, _, h1, h2⟩
  have h2 : ∃ z e, f22 b c = some (z, e) ∧ f23 b c = some (z, e) := by
    by_cases h : poseOk b
    · exact ⟨_, _, protate_in h c, rprotate_in h c⟩
    · obtain ⟨e, z, _, _, h1, _⟩ := protate_out h c
      exact ⟨_, _, h1, by rw [rprotate_out h]; exact h1⟩
  obtain ⟨z, e, h1, h1'⟩ := h1
  obtain ⟨y, f, h2, h2'⟩ := h2
  unfold f5
  rw [h1, h1', h2, h2']
  simp -implicitDefEqProofs only [Option.bind_some, decide_true, Bool.and_self, cond_true]
theorem lawMirrors (a b : Nat → Int) : f8 a b = some true := by
  have h1 : ∃ z e, f24 a = some (z, e) := by
    by_cases h : startOk a
    · exact ⟨_, _, smirror_in h⟩
    · obtain ⟨e, z, _, h1⟩ := smirror_out h
      exact ⟨_, _, h1⟩
  have h2 : ∃ z e, f26 b = some (z, e) := by
    by_cases h : poseOk b
    · exact ⟨_, _, mirrorpose_in h⟩
    · obtain ⟨e, z, _, _, h1, _⟩ := mirrorpose_out h
      exact ⟨_, _, h1⟩
  obtain ⟨z, e, h1⟩ := h1
  obtain ⟨y, f, h2⟩ := h2
  unfold f8
  rw [rsmirror_eq, rmirrorpose_eq, h1, h2]
  simp -implicitDefEqProofs only [Option.bind_some, decide_true, Bool.and_self, cond_true]
theorem rot_rot (n m k x y : Int) (hn : 0 ≤ n ∧ n ≤ 3) (hm : 0 ≤ m ∧ m ≤ 3) (hk : k = (n + m) % 4) : rx m (rx n x y) (ry n x y) = rx k x y ∧ ry m (rx n x y) (ry n x y) = ry k x y := by
  have h1 : n = 0 ∨ n = 1 ∨ n = 2 ∨ n = 3 := by omega
  have h2 : m = 0 ∨ m = 1 ∨ m = 2 ∨ m = 3 := by omega
  rcases h1 with rfl | rfl | rfl | rfl <;> rcases h2 with rfl | rfl | rfl | rfl <;> subst hk <;> simp [rx, ry]
theorem fl_rot (n m x y : Int) (hn : 0 ≤ n ∧ n ≤ 3) (hm : m = (-n) % 4) : -rx n x y = rx m (-x) y ∧ ry n x y = ry m (-x) y := by
  have h1 : n = 0 ∨ n = 1 ∨ n = 2 ∨ n = 3 := by omega
  rcases h1 with rfl | rfl | rfl | rfl <;> subst hm <;> simp [rx, ry]
theorem lawBack (a : Nat → Int) (b : Int) : f6 a b = some true := by
  unfold f6
  by_cases h : startOk a
  · have hb : -4 < b.tmod 4 ∧ b.tmod 4 < 4 := tmod_bounds b 4 (by omega)
    have hq : IntKind.i64.wrap (0 - b.tmod 4) % 4 = (-b) % 4 := by
      rw [w64 (by omega) (by omega)]
      rcases tmod_cases b 4 with ⟨_, h⟩ | ⟨_, h⟩ <;> omega
    have hn : 0 ≤ b % 4 ∧ b % 4 ≤ 3 := by omega
    obtain ⟨r1, r2⟩ := rot_rot (b % 4) ((-b) % 4) 0 (a 0) (a 1) hn (by omega) (by omega)
    have r1' : rx 0 (a 0) (a 1) = a 0 := rfl
    have r2' : ry 0 (a 0) (a 1) = a 1 := rfl
    obtain ⟨_, ⟨h1, h2⟩, _, h5, ⟨a0, _⟩, ⟨a1, _⟩, ⟨a2, _⟩, ⟨a3, _⟩, ⟨a4, _⟩, ⟨a5, _⟩, _⟩ := id h
    simp only [nthI] at a0 a1 a2 a3 a4 a5
    have f1 : (8 - (8 - a 2) % 8) % 8 = a 2 := by omega
    have f2 : ((a 2 + 2 * (b % 4)) % 8 + 2 * ((-b) % 4)) % 8 = a 2 := by omega
    simp -implicitDefEqProofs only [pose_in h, scheck_in h, valid_in (poseOf_ok h), notate_in h, smirror_in h, srotate_in h, scheck_in (mirS_ok h), scheck_in (rotS_ok h b), smirror_in (mirS_ok h), srotate_in (rotS_ok h b), hq, Option.bind_some, nthI, decide_true, Bool.not_true, Bool.and_self, cond_true, cond_false,
      Int.neg_neg, f1, f2, dm_dm a0, dm_dm a1, dm_dm a2, dm_dm a3, dm_dm a4, dm_dm a5, ex_ex h5, r1, r2, r1', r2']
  · obtain ⟨e, z, he, h1, h2, hz⟩ := pose_out h
    rw [h2, h1]
    simp only [Option.bind_some, he, decide_false, Bool.not_false, cond_true]
    simp -implicitDefEqProofs only [hz 0 (by omega), hz 1 (by omega), hz 2 (by omega), hz 3 (by omega), hz 4 (by omega), hz 5 (by omega), hz 6 (by omega), hz 7 (by omega), hz 8 (by omega), hz 9 (by omega), hz 10 (by omega), hz 11 (by omega), hz 12 (by omega), hz 13 (by omega), hz 14 (by omega), hz 15 (by omega), hz 16 (by omega), hz 17 (by omega), hz 18 (by omega), hz 19 (by omega), hz 20 (by omega), hz 21 (by omega), decide_true, Bool.and_self, cond_true]
theorem az_fl {d : Int} (h : 0 ≤ d ∧ d ≤ 8) : azT (dm d) = (-azT d) % 256 := by
  unfold azT dm
  (repeat' split) <;> omega
theorem el_fl {d : Int} (h : 0 ≤ d ∧ d ≤ 8) (l : Int) : elT (dm d) l = elT d l := by
  unfold elT dm
  (repeat' split) <;> omega
theorem lawMoves (a : Nat → Int) (b : Int) : f9 a b = some true := by
  unfold f9
  by_cases h : startOk a
  · obtain ⟨_, ⟨h1, h2⟩, _, h5, ⟨a0, _⟩, ⟨a1, _⟩, ⟨a2, _⟩, ⟨a3, _⟩, ⟨a4, _⟩, ⟨a5, _⟩, _⟩ := id h
    simp only [nthI] at a0 a1 a2 a3 a4 a5
    have f1 : 32 * ((8 - a 2) % 8) = (-(32 * a 2)) % 256 := by omega
    have f2 : 32 * ((a 2 + 2 * (b % 4)) % 8) = (32 * a 2 + 64 * (b % 4)) % 256 := by omega
    simp -implicitDefEqProofs only [pose_in h, smirror_in h, pose_in (mirS_ok h), mirrorpose_in (poseOf_ok h), srotate_in h, pose_in (rotS_ok h b), protate_in (poseOf_ok h), Option.bind_some, nthI, decide_true, Bool.not_true, Bool.and_self, cond_true, cond_false,
      f1, f2, az_fl a0, az_fl a1, az_fl a2, az_fl a3, az_fl a4, az_fl a5, el_fl a0, el_fl a1, el_fl a2, el_fl a3, el_fl a4, el_fl a5]
  · obtain ⟨e, z, he, h1, h2, hz⟩ := pose_out h
    rw [h2]
    simp only [Option.bind_some, he, decide_false, Bool.not_false, cond_true]
theorem nn {x : Int} (h : 0 ≤ x ∧ x ≤ 255) : (-((-x) % 256)) % 256 = x := by omega
theorem lawPoses (a : Nat → Int) (b c : Int) : f10 a b c = some true := by
  unfold f10
  by_cases h : poseOk a
  · have hb : -4 < b.tmod 4 ∧ b.tmod 4 < 4 := tmod_bounds b 4 (by omega)
    have hc : -4 < c.tmod 4 ∧ c.tmod 4 < 4 := tmod_bounds c 4 (by omega)
    have hq : IntKind.i64.wrap (0 - b.tmod 4) % 4 = (-b) % 4 := by
      rw [w64 (by omega) (by omega)]
      rcases tmod_cases b 4 with ⟨_, h⟩ | ⟨_, h⟩ <;> omega
    have hs : IntKind.i64.wrap (b.tmod 4 + c.tmod 4) % 4 = (b % 4 + c % 4) % 4 := by
      rw [w64 (by omega) (by omega)]
      rcases tmod_cases b 4 with ⟨_, h⟩ | ⟨_, h⟩ <;> rcases tmod_cases c 4 with ⟨_, h'⟩ | ⟨_, h'⟩ <;> omega
    have hn : 0 ≤ b % 4 ∧ b % 4 ≤ 3 := by omega
    have hm : 0 ≤ c % 4 ∧ c % 4 ≤ 3 := by omega
    obtain ⟨r1, r2⟩ := rot_rot (b % 4) (c % 4) ((b % 4 + c % 4) % 4) (a 0) (a 1) hn hm rfl
    obtain ⟨r3, r4⟩ := fl_rot (b % 4) ((-b) % 4) (a 0) (a 1) hn (by omega)
    obtain ⟨_, h2, _, a0, a1, a2, a3, a4, a5⟩ := id h
    have f0 := nn h2
    have f1 := nn a0.1
    have f2 := nn a1.1
    have f3 := nn a2.1
    have f4 := nn a3.1
    have f5 := nn a4.1
    have f6 := nn a5.1
    simp only [nthI] at f1 f2 f3 f4 f5 f6
    have g1 : ((a 2 + 64 * (b % 4)) % 256 + 64 * (c % 4)) % 256 = (a 2 + 64 * ((b % 4 + c % 4) % 4)) % 256 := by omega
    have g2 : (-((a 2 + 64 * (b % 4)) % 256)) % 256 = ((-a 2) % 256 + 64 * ((-b) % 4)) % 256 := by omega
    simp -implicitDefEqProofs only [mirrorpose_in h, protate_in h, valid_in h, valid_in (flP_ok h), valid_in (rotP_ok h b), mirrorpose_in (flP_ok h), protate_in (rotP_ok h b), mirrorpose_in (rotP_ok h b), protate_in (flP_ok h), hq, hs, Option.bind_some, nthI, decide_true, Bool.not_true, Bool.and_self, cond_true, cond_false,
      Int.neg_neg, f0, f1, f2, f3, f4, f5, f6, r1, r2, r3, r4.symm, g1, g2]
  · obtain ⟨e, z, he, h1, h2, hz⟩ := mirrorpose_out h
    obtain ⟨e', y, he', h1', h3, hy⟩ := protate_out h b
    have : e' = e := Option.some.inj (h1'.symm.trans h1)
    subst this
    rw [h2, h3, h1]
    simp only [Option.bind_some, he, decide_false, Bool.not_false, cond_true]
    simp -implicitDefEqProofs only [hz 0 (by omega), hz 1 (by omega), hz 2 (by omega), hz 3 (by omega), hz 4 (by omega), hz 5 (by omega), hz 6 (by omega), hz 7 (by omega), hz 8 (by omega), hz 9 (by omega), hz 10 (by omega), hz 11 (by omega), hz 12 (by omega), hz 13 (by omega), hz 14 (by omega), hz 15 (by omega), hz 16 (by omega), hz 17 (by omega), hz 18 (by omega), hz 19 (by omega), hz 20 (by omega), hz 21 (by omega),
      hy 0 (by omega), hy 1 (by omega), hy 2 (by omega), hy 3 (by omega), hy 4 (by omega), hy 5 (by omega), hy 6 (by omega), hy 7 (by omega), hy 8 (by omega), hy 9 (by omega), hy 10 (by omega), hy 11 (by omega), hy 12 (by omega), hy 13 (by omega), hy 14 (by omega), hy 15 (by omega), hy 16 (by omega), hy 17 (by omega), hy 18 (by omega), hy 19 (by omega), hy 20 (by omega), hy 21 (by omega), decide_true, Bool.and_self, cond_true]
theorem notate_cases (a : Nat → Int) (b : Int) : (∃ e z, e ≠ 0 ∧ f16 a b = some (z, e) ∧ ∀ i, i < 23 → z i = 0) ∨ (∃ s, startOk s ∧ s 4 = b ∧ (∀ i, i < 22 → poseOf s i = a i) ∧ f16 a b = some (cp23 s, 0)) := by
  unfold f16
  by_cases hp : poseOk a
  · rw [valid_in hp]
    simp only [Option.bind_some, decide_true, Bool.not_true, cond_false]
    obtain ⟨h0, ⟨h1, h2⟩, ⟨h3, h4⟩, a0, a1, a2, a3, a4, a5⟩ := id hp
    by_cases m1 : (a 2).tmod 32 = 0
    · by_cases m2 : (a 3).tmod 8 = 0
      · simp only [m1, m2, decide_true, Bool.not_true, cond_false]
        rcases anot_of (k := 0) (by omega) a0 with ⟨e, he, n0⟩ | ⟨x0, y0, t0, u0, v0, n0⟩
        · rw [n0]
          simp only [Option.bind_some, he, decide_false, Bool.not_false, cond_true]
          exact .inl ⟨_, _, he, rfl, by decide⟩
        · rw [n0]
          simp only [Option.bind_some, decide_true, Bool.not_true, cond_false]
          rcases anot_of (k := 1) (by omega) a1 with ⟨e, he, n1⟩ | ⟨x1, y1, t1, u1, v1, n1⟩
          · rw [n1]
            simp only [Option.bind_some, he, decide_false, Bool.not_false, cond_true]
            exact .inl ⟨_, _, he, rfl, by decide⟩
          · rw [n1]
            simp only [Option.bind_some, decide_true, Bool.not_true, cond_false]
            rcases anot_of (k := 2) (by omega) a2 with ⟨e, he, n2⟩ | ⟨x2, y2, t2, u2, v2, n2⟩
            · rw [n2]
              simp only [Option.bind_some, he, decide_false, Bool.not_false, cond_true]
              exact .inl ⟨_, _, he, rfl, by decide⟩
            · rw [n2]
              simp only [Option.bind_some, decide_true, Bool.not_true, cond_false]
              rcases anot_of (k := 3) (by omega) a3 with ⟨e, he, n3⟩ | ⟨x3, y3, t3, u3, v3, n3⟩
              · rw [n3]
                simp only [Option.bind_some, he, decide_false, Bool.not_false, cond_true]
                exact .inl ⟨_, _, he, rfl, by decide⟩
              · rw [n3]
                simp only [Option.bind_some, decide_true, Bool.not_true, cond_false]
                rcases anot_of (k := 4) (by omega) a4 with ⟨e, he, n4⟩ | ⟨x4, y4, t4, u4, v4, n4⟩
                · rw [n4]
                  simp only [Option.bind_some, he, decide_false, Bool.not_false, cond_true]
                  exact .inl ⟨_, _, he, rfl, by decide⟩
                · rw [n4]
                  simp only [Option.bind_some, decide_true, Bool.not_true, cond_false]
                  rcases anot_of (k := 5) (by omega) a5 with ⟨e, he, n5⟩ | ⟨x5, y5, t5, u5, v5, n5⟩
                  · rw [n5]
                    simp only [Option.bind_some, he, decide_false, Bool.not_false, cond_true]
                    exact .inl ⟨_, _, he, rfl, by decide⟩
                  · rw [n5]
                    simp only [Option.bind_some, decide_true, Bool.not_true, cond_false]
                    simp only [nthI] at u0 v0 u1 v1 u2 v2 u3 v3 u4 v4 u5 v5 ⊢
                    have e3 : IntKind.i64.wrap ((a 2).tdiv 32) = a 2 / 32 := by rw [Int.tdiv_eq_ediv_of_nonneg (by omega), w64 (by omega) (by omega)]
                    have e4 : 8 * IntKind.i64.wrap ((a 3).tdiv 8) = a 3 := by
                      rcases tmod_cases (a 3) 8 with ⟨q, h⟩ | ⟨q, h⟩ <;> rcases tdiv_cases (a 3) 8 with ⟨q', h'⟩ | ⟨q', h'⟩
                      · rw [h', w64 (by omega) (by omega)]; omega
                      · omega
                      · omega
                      · rw [h', w64 (by omega) (by omega)]; omega
                    have e5 : 32 * (a 2 / 32) = a 2 := by rw [tmod_nonneg_eq (by omega)] at m1; omega
                    rw [e3]
                    generalize IntKind.i64.wrap ((a 3).tdiv 8) = w at e4 ⊢
                    obtain ⟨r, hr⟩ := scheck_some (nthI [a 0, a 1, a 2 / 32, w, b, x0, y0, a 6, x1, y1, a 9, x2, y2, a 12, x3, y3, a 15, x4, y4, a 18, x5, y5, a 21])
                    rw [hr]
                    by_cases hz : r = 0
                    · subst hz
                      have hs := scheck_of hr
                      refine .inr ⟨_, hs, rfl, ?_, rfl⟩
                      intro i hi
                      have hi' : i = 0 ∨ i = 1 ∨ i = 2 ∨ i = 3 ∨ i = 4 ∨ i = 5 ∨ i = 6 ∨ i = 7 ∨ i = 8 ∨ i = 9 ∨ i = 10 ∨ i = 11 ∨ i = 12 ∨ i = 13 ∨ i = 14 ∨ i = 15 ∨ i = 16 ∨ i = 17 ∨ i = 18 ∨ i = 19 ∨ i = 20 ∨ i = 21 := by omega
                      rcases hi' with rfl | rfl | rfl | rfl | rfl | rfl | rfl | rfl | rfl | rfl | rfl | rfl | rfl | rfl | rfl | rfl | rfl | rfl | rfl | rfl | rfl | rfl
                      · rfl
                      · rfl
                      · exact e5
                      · exact e4
                      · exact u0
                      · exact v0
                      · rfl
                      · exact u1
                      · exact v1
                      · rfl
                      · exact u2
                      · exact v2
                      · rfl
                      · exact u3
                      · exact v3
                      · rfl
                      · exact u4
                      · exact v4
                      · rfl
                      · exact u5
                      · exact v5
                      · rfl
                    · simp only [Option.bind_some, hz, decide_false, Bool.not_false, cond_true]
                      exact .inl ⟨_, _, hz, rfl, by decide⟩
      · simp only [m1, m2, decide_true, decide_false, Bool.not_true, Bool.not_false, cond_true, cond_false]
        exact .inl ⟨_, _, by omega, rfl, by decide⟩
    · simp only [m1, decide_false, Bool.not_false, cond_true]
      exact .inl ⟨_, _, by omega, rfl, by decide⟩
  · obtain ⟨r, hr⟩ := valid_some a
    have hz : r ≠ 0 := fun hz => hp (valid_of (hz ▸ hr))
    rw [hr]
    simp only [hz, Option.bind_some, decide_false, Bool.not_false, cond_true]
    exact .inl ⟨_, _, hz, rfl, by decide⟩
theorem lawNotated (a : Nat → Int) (b : Int) : f7 a b = some true := by
  unfold f7
  rcases notate_cases a b with ⟨e, z, he, h, hz⟩ | ⟨s, hs, h4, hp, h⟩
  · rw [h]
    simp only [Option.bind_some, he, decide_false, Bool.not_false, cond_true]
    simp -implicitDefEqProofs only [hz 0 (by omega), hz 1 (by omega), hz 2 (by omega), hz 3 (by omega), hz 4 (by omega), hz 5 (by omega), hz 6 (by omega), hz 7 (by omega), hz 8 (by omega), hz 9 (by omega), hz 10 (by omega), hz 11 (by omega), hz 12 (by omega), hz 13 (by omega), hz 14 (by omega), hz 15 (by omega), hz 16 (by omega), hz 17 (by omega), hz 18 (by omega), hz 19 (by omega), hz 20 (by omega), hz 21 (by omega), hz 22 (by omega), decide_true, Bool.and_self, cond_true]
  · have hc : f11 (cp23 s) = some (poseOf (cp23 s), 0) := pose_in (s := cp23 s) hs
    have hk : f13 (cp23 s) = some 0 := scheck_in (s := cp23 s) hs
    have e : ∀ i, i < 22 → poseOf (cp23 s) i = a i := hp
    have e4 : cp23 s 4 = b := h4
    rw [h]
    simp only [Option.bind_some, decide_true, Bool.not_true, cond_false]
    rw [hc]
    simp only [Option.bind_some]
    rw [hk]
    simp -implicitDefEqProofs only [e 0 (by omega), e 1 (by omega), e 2 (by omega), e 3 (by omega), e 4 (by omega), e 5 (by omega), e 6 (by omega), e 7 (by omega), e 8 (by omega), e 9 (by omega), e 10 (by omega), e 11 (by omega), e 12 (by omega), e 13 (by omega), e 14 (by omega), e 15 (by omega), e 16 (by omega), e 17 (by omega), e 18 (by omega), e 19 (by omega), e 20 (by omega), e 21 (by omega), e4, Option.bind_some, decide_true, Bool.and_self, cond_true]

end Go.Proofs.YtfpmbgknojbkcaaDoor
