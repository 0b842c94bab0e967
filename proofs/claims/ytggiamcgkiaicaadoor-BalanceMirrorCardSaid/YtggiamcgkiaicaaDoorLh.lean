/-
  THE PLAIN LAWS: what the contracts compute answers as the statements say.
-/
import Derived.Test.YtggiamcgkiaicaaDoorLg
open Go Go.VE Go.Proofs
set_option maxRecDepth 1000000
set_option maxHeartbeats 0
set_option linter.unusedVariables false
set_option linter.unusedSimpArgs false
namespace Go.Proofs.YtggiamcgkiaicaaDoor
/-! ### The mirror, and a quarter -/
theorem near_negb {s b : Int} (hb : 0 < b) : near (-s) b = -near s b := by
  have h1 := Int.mul_ediv_add_emod s b
  have h2 := Int.emod_nonneg s (show b ≠ 0 by omega)
  have h3 := Int.emod_lt_of_pos s hb
  generalize s / b = q at *
  generalize s % b = r at *
  by_cases hr : r = 0
  · have hu : (-s) / b = -q ∧ (-s) % b = 0 := (Int.ediv_emod_unique hb).2 ⟨by rw [Int.mul_neg]; omega, by omega, hb⟩
    have hv : s / b = q ∧ s % b = r := (Int.ediv_emod_unique hb).2 ⟨by omega, h2, h3⟩
    unfold near
    rw [hu.1, hu.2, hv.1, hv.2, hr]
    rw [if_neg (by omega), if_neg (by omega), if_neg (by omega), if_neg (by omega)]
  · have e : b * (-q - 1) = -(b * q) - b := by grind
    have hu : (-s) / b = -q - 1 ∧ (-s) % b = b - r := (Int.ediv_emod_unique hb).2 ⟨by rw [e]; omega, by omega, by omega⟩
    have hv : s / b = q ∧ s % b = r := (Int.ediv_emod_unique hb).2 ⟨by omega, h2, h3⟩
    unfold near
    rw [hu.1, hu.2, hv.1, hv.2]
    by_cases c1 : b < 2 * r
    · rw [if_pos c1, if_neg (by omega), if_neg (by omega)]; omega
    · rw [if_neg c1]
      by_cases c2 : 2 * r = b
      · rw [if_pos c2, if_neg (by omega), if_pos (by omega)]
        by_cases c3 : q % 2 = 0
        · rw [if_pos c3, if_neg (by omega)]; omega
        · rw [if_neg c3, if_pos (by omega)]; omega
      · rw [if_neg c2, if_pos (by omega)]; omega
theorem nr_fl (px py ax ay bx b1 r : Int) : nr (-px) py (-ax) ay (-bx) b1 r = nr px py ax ay bx b1 r := by
  have e1 : dotI (-px) py (-ax) ay (-bx) b1 = dotI px py ax ay bx b1 := by simp only [dotI]; grind
  have e2 : ∀ u v x y : Int, sqI (-u) v (-x) y = sqI u v x y := fun u v x y => by simp only [sqI]; grind
  have e3 : crI (-px) py (-ax) ay (-bx) b1 * crI (-px) py (-ax) ay (-bx) b1 = crI px py ax ay bx b1 * crI px py ax ay bx b1 := by
    have : crI (-px) py (-ax) ay (-bx) b1 = -crI px py ax ay bx b1 := by simp only [crI]; grind
    rw [this, Int.neg_mul_neg]
  unfold nr
  rw [e1, e3, e2, e2, e2]
theorem nr_tn (px py ax ay bx b1 r : Int) : nr py (-px) ay (-ax) b1 (-bx) r = nr px py ax ay bx b1 r := by
  have e1 : dotI py (-px) ay (-ax) b1 (-bx) = dotI px py ax ay bx b1 := by simp only [dotI]; grind
  have e2 : ∀ u v x y : Int, sqI v (-u) y (-x) = sqI u v x y := fun u v x y => by simp only [sqI]; grind
  have e3 : crI py (-px) ay (-ax) b1 (-bx) = crI px py ax ay bx b1 := by simp only [crI]; grind
  unfold nr
  rw [e1, e3, e2, e2, e2]
theorem sq0 {x y : Int} (h : x * x + y * y = 0) : x = 0 ∧ y = 0 := by
  have hn : ∀ z : Int, 0 ≤ z * z := fun z => by
    rcases Int.le_total 0 z with h | h
    · exact Int.mul_nonneg h h
    · exact Int.mul_nonneg_of_nonpos_of_nonpos h h
  have h1 := hn x
  have h2 := hn y
  constructor
  · rcases Int.mul_eq_zero.1 (show x * x = 0 by omega) with h | h <;> exact h
  · rcases Int.mul_eq_zero.1 (show y * y = 0 by omega) with h | h <;> exact h
theorem nr_sw (px py ax ay bx b1 r : Int) : nr px py bx b1 ax ay r = nr px py ax ay bx b1 r := by
  have e1 : dotI px py bx b1 ax ay = sqI bx b1 ax ay - dotI px py ax ay bx b1 := by simp only [dotI, sqI]; grind
  have e2 : sqI ax ay bx b1 = sqI bx b1 ax ay := by simp only [sqI]; grind
  have e3 : crI px py bx b1 ax ay * crI px py bx b1 ax ay = crI px py ax ay bx b1 * crI px py ax ay bx b1 := by
    have : crI px py bx b1 ax ay = -crI px py ax ay bx b1 := by simp only [crI]; grind
    rw [this, Int.neg_mul_neg]
  have e4 : sqI bx b1 ax ay = 0 → sqI px py bx b1 = sqI px py ax ay := fun h => by
    obtain ⟨h1, h2⟩ := sq0 h
    have h1' : bx = ax := by omega
    have h2' : b1 = ay := by omega
    rw [h1', h2']
  have e5 := sqI_nonneg bx b1 ax ay
  unfold nr
  rw [e1, e2, e3]
  generalize sqI bx b1 ax ay = L at *
  generalize dotI px py ax ay bx b1 = d at *
  by_cases c1 : d ≤ 0
  · rw [decide_eq_true c1, cond_true]
    by_cases c2 : L - d ≤ 0
    · rw [decide_eq_true c2, cond_true, e4 (by omega)]
    · rw [decide_eq_false c2, decide_eq_true (show L ≤ L - d by omega)]
      rfl
  · rw [decide_eq_false c1, cond_false]
    by_cases c2 : L ≤ d
    · rw [decide_eq_true c2, decide_eq_true (show L - d ≤ 0 by omega)]
      rfl
    · rw [decide_eq_false c2, decide_eq_false (show ¬ L - d ≤ 0 by omega), decide_eq_false (show ¬ L ≤ L - d by omega)]
      rfl
abbrev swp (c d : Int) : Prop := (c = 0 ∧ d = 0) ∨ (c = 1 ∧ d = 2) ∨ (c = 2 ∧ d = 1) ∨ (c = 3 ∧ d = 3)
theorem swp_J (a p : Nat → Int) {c d : Int} (h : swp c d) : fl3p (hipJ a (flP p)) (hipJ a p) ∧ fl3p (neckJ a (flP p)) (neckJ a p) ∧ fl3p (headJ a (flP p)) (headJ a p) ∧ fl3p (hipL a (flP p)) (hipR a p) ∧ fl3p (hipR a (flP p)) (hipL a p) ∧
    fl3p (shL a (flP p)) (shR a p) ∧ fl3p (shR a (flP p)) (shL a p) ∧ fl3p (handL a (flP p)) (handR a p) ∧ fl3p (handR a (flP p)) (handL a p) ∧ fl3p (footL a (flP p) d) (footR a p c) ∧ fl3p (footR a (flP p) d) (footL a p c) := by
  refine J_mirror a p c d ?_ ?_
  · rcases h with ⟨rfl, rfl⟩ | ⟨rfl, rfl⟩ | ⟨rfl, rfl⟩ | ⟨rfl, rfl⟩ <;> simp
  · rcases h with ⟨rfl, rfl⟩ | ⟨rfl, rfl⟩ | ⟨rfl, rfl⟩ | ⟨rfl, rfl⟩ <;> simp
theorem sums_fl {a j k : Nat → Int} (h : k 0 = -j 0 ∧ k 3 = -j 3 ∧ k 6 = -j 6 ∧ k 9 = -j 12 ∧ k 12 = -j 9 ∧ k 15 = -j 18 ∧ k 18 = -j 15 ∧ k 21 = -j 24 ∧ k 24 = -j 21 ∧ k 27 = -j 30 ∧ k 30 = -j 27) : sX a k = -sX a j := by
  obtain ⟨e0, e1, e2, e3, e4, e5, e6, e7, e8, e9, e10⟩ := h
  unfold sX
  rw [e0, e1, e2, e3, e4, e5, e6, e7, e8, e9, e10]
  grind
theorem sumsY_fl {a j k : Nat → Int} (h : k 1 = j 1 ∧ k 4 = j 4 ∧ k 7 = j 7 ∧ k 10 = j 13 ∧ k 13 = j 10 ∧ k 16 = j 19 ∧ k 19 = j 16 ∧ k 22 = j 25 ∧ k 25 = j 22 ∧ k 28 = j 31 ∧ k 31 = j 28) : sY a k = sY a j := by
  obtain ⟨e0, e1, e2, e3, e4, e5, e6, e7, e8, e9, e10⟩ := h
  unfold sY
  rw [e0, e1, e2, e3, e4, e5, e6, e7, e8, e9, e10]
  grind
theorem sums_tn {a j k : Nat → Int} (h : k 0 = j 1 ∧ k 3 = j 4 ∧ k 6 = j 7 ∧ k 9 = j 10 ∧ k 12 = j 13 ∧ k 15 = j 16 ∧ k 18 = j 19 ∧ k 21 = j 22 ∧ k 24 = j 25 ∧ k 27 = j 28 ∧ k 30 = j 31) : sX a k = sY a j := by
  obtain ⟨e0, e1, e2, e3, e4, e5, e6, e7, e8, e9, e10⟩ := h
  unfold sX sY
  rw [e0, e1, e2, e3, e4, e5, e6, e7, e8, e9, e10]
theorem sumsY_tn {a j k : Nat → Int} (h : k 1 = -j 0 ∧ k 4 = -j 3 ∧ k 7 = -j 6 ∧ k 10 = -j 9 ∧ k 13 = -j 12 ∧ k 16 = -j 15 ∧ k 19 = -j 18 ∧ k 22 = -j 21 ∧ k 25 = -j 24 ∧ k 28 = -j 27 ∧ k 31 = -j 30) : sY a k = -sX a j := by
  obtain ⟨e0, e1, e2, e3, e4, e5, e6, e7, e8, e9, e10⟩ := h
  unfold sX sY
  rw [e0, e1, e2, e3, e4, e5, e6, e7, e8, e9, e10]
  grind
theorem c_fl {a p : Nat → Int} (ha : okB a) {c d : Int} (h : swp c d) : cxI a (flP p) d = -cxI a p c ∧ cyI a (flP p) d = cyI a p c := by
  have hM := mass_pos ha
  obtain ⟨⟨m1, m2, _⟩, ⟨m4, m5, _⟩, ⟨m7, m8, _⟩, ⟨n1, n2, _⟩, ⟨n4, n5, _⟩, ⟨n7, n8, _⟩, ⟨p1, p2, _⟩, ⟨p4, p5, _⟩, ⟨p7, p8, _⟩, ⟨q1, q2, _⟩, q4, q5, _⟩ := swp_J a p h
  unfold cxI cyI
  rw [sums_fl (a := a) (j := J a p c) (k := J a (flP p) d) ⟨m1, m4, m7, n1, n4, n7, p1, p4, p7, q1, q4⟩, sumsY_fl (a := a) (j := J a p c) (k := J a (flP p) d) ⟨m2, m5, m8, n2, n5, n8, p2, p5, p8, q2, q5⟩, near_negb (by omega)]
  exact ⟨rfl, rfl⟩
theorem c_tn {a p : Nat → Int} (ha : okB a) (c : Int) : cxI a (tnP p) c = cyI a p c ∧ cyI a (tnP p) c = -cxI a p c := by
  have hM := mass_pos ha
  obtain ⟨⟨m1, m2, _⟩, ⟨m4, m5, _⟩, ⟨m7, m8, _⟩, ⟨n1, n2, _⟩, ⟨n4, n5, _⟩, ⟨n7, n8, _⟩, ⟨p1, p2, _⟩, ⟨p4, p5, _⟩, ⟨p7, p8, _⟩, ⟨q1, q2, _⟩, q4, q5, _⟩ := J_turned a p c
  unfold cxI cyI
  rw [sums_tn (a := a) (j := J a p c) (k := J a (tnP p) c) ⟨m1, m4, m7, n1, n4, n7, p1, p4, p7, q1, q4⟩, sumsY_tn (a := a) (j := J a p c) (k := J a (tnP p) c) ⟨m2, m5, m8, n2, n5, n8, p2, p5, p8, q2, q5⟩, near_negb (by omega)]
  exact ⟨rfl, rfl⟩
theorem abv_tn {a p : Nat → Int} (ha : okB a) (c : Int) : abv a (tnP p) c = abv a p c := by
  funext r
  obtain ⟨e1, e2⟩ := c_tn (p := p) ha c
  obtain ⟨_, _, _, _, _, _, _, _, _, ⟨q1, q2, _⟩, q4, q5, _⟩ := J_turned a p c
  unfold abv ftA ftB
  rw [e1, e2]
  cases decide (c = 1) <;> cases decide (c = 2) <;> simp only [cond_true, cond_false, q1, q2, q4, q5] <;> exact nr_tn _ _ _ _ _ _ _
theorem abv_fl {a p : Nat → Int} (ha : okB a) {c d : Int} (h : swp c d) : abv a (flP p) d = abv a p c := by
  funext r
  obtain ⟨e1, e2⟩ := c_fl (p := p) ha h
  obtain ⟨_, _, _, _, _, _, _, _, _, ⟨q1, q2, _⟩, q4, q5, _⟩ := swp_J a p h
  unfold abv ftA ftB
  rw [e1, e2]
  clear e1 e2
  generalize cxI a p c = X
  generalize cyI a p c = Y
  generalize footL a (flP p) d = u at *
  generalize footR a (flP p) d = v at *
  generalize footL a p c = y at *
  generalize footR a p c = z at *
  have k3 : nr (-X) Y (u 0) (u 1) (v 0) (v 1) r = nr X Y (y 0) (y 1) (z 0) (z 1) r := by
    rw [q1, q2, q4, q5, nr_fl]
    exact nr_sw _ _ _ _ _ _ _
  have k1 : nr (-X) Y (v 0) (v 1) (v 0) (v 1) r = nr X Y (y 0) (y 1) (y 0) (y 1) r := by
    rw [q4, q5, nr_fl]
  have k2 : nr (-X) Y (u 0) (u 1) (u 0) (u 1) r = nr X Y (z 0) (z 1) (z 0) (z 1) r := by
    rw [q1, q2, nr_fl]
  rcases h with ⟨rfl, rfl⟩ | ⟨rfl, rfl⟩ | ⟨rfl, rfl⟩ | ⟨rfl, rfl⟩
  · exact k3
  · exact k1
  · exact k2
  · exact k3
theorem swapped_eq {c : Int} (h : 0 ≤ c ∧ c ≤ 3) : ∃ d, f23 c = some d ∧ swp c d := by
  have : c = 0 ∨ c = 1 ∨ c = 2 ∨ c = 3 := by omega
  rcases this with rfl | rfl | rfl | rfl
  · exact ⟨0, by kernel_rfl, .inl ⟨rfl, rfl⟩⟩
  · exact ⟨2, by kernel_rfl, .inr (.inl ⟨rfl, rfl⟩)⟩
  · exact ⟨1, by kernel_rfl, .inr (.inr (.inl ⟨rfl, rfl⟩))⟩
  · exact ⟨3, by kernel_rfl, .inr (.inr (.inr ⟨rfl, rfl⟩))⟩
theorem lawMirror (a b : Nat → Int) (c : Int) : f9 a b c = some true := by
  unfold f9
  rw [aw]
  by_cases h : okA a b c
  · obtain ⟨ha, hp, hc⟩ := id h
    obtain ⟨d, hd, hs⟩ := swapped_eq hc
    have hd2 : 0 ≤ d ∧ d ≤ 3 := by rcases hs with ⟨_, rfl⟩ | ⟨_, rfl⟩ | ⟨_, rfl⟩ | ⟨_, rfl⟩ <;> omega
    have hd0 : decide (d = 0) = decide (c = 0) := by rcases hs with ⟨rfl, rfl⟩ | ⟨rfl, rfl⟩ | ⟨rfl, rfl⟩ | ⟨rfl, rfl⟩ <;> rfl
    have hd1 : (if d = 0 then ((0 : Int), (28 : Int)) else mgI a b c) = if c = 0 then ((0 : Int), (28 : Int)) else mgI a b c := by rcases hs with ⟨rfl, rfl⟩ | ⟨rfl, rfl⟩ | ⟨rfl, rfl⟩ | ⟨rfl, rfl⟩ <;> rfl
    have o1 : okA a (flP b) d := ⟨ha, flP_ok hp, hd2⟩
    have o2 : okA a (tnP b) c := ⟨ha, tnP_ok hp, hc⟩
    have m1 := fcenter_in o1
    have m2 := (stable_in o1).1
    have m3 := margin_val o1
    have t1 := fcenter_in o2
    have t2 := (stable_in o2).1
    have t3 := margin_val o2
    rw [(c_fl (p := b) ha hs).1, (c_fl (p := b) ha hs).2] at m1
    rw [st_congr (abv_fl (p := b) ha hs) hd0] at m2
    rw [mg_congr (abv_fl (p := b) ha hs), hd1] at m3
    rw [(c_tn (p := b) ha c).1, (c_tn (p := b) ha c).2] at t1
    rw [st_congr (abv_tn (p := b) ha c) rfl] at t2
    rw [mg_congr (abv_tn (p := b) ha c)] at t3
    have k1 := c_co ha hp c
    rw [fcenter_in h, mirrorpose_in hp, rotatepose1_in hp, hd, (stable_in h).1, margin_val h]
    simp -implicitDefEqProofs only [Option.bind_some, decide_true, Bool.not_true, cond_false]
    have ef : nthI [flP b 0, flP b 1, flP b 2, flP b 3, flP b 4, flP b 5, flP b 6, flP b 7, flP b 8, flP b 9, flP b 10, flP b 11, flP b 12, flP b 13, flP b 14, flP b 15, flP b 16, flP b 17, flP b 18, flP b 19, flP b 20, flP b 21] = flP b := rfl
    have et : nthI [tnP b 0, tnP b 1, tnP b 2, tnP b 3, tnP b 4, tnP b 5, tnP b 6, tnP b 7, tnP b 8, tnP b 9, tnP b 10, tnP b 11, tnP b 12, tnP b 13, tnP b 14, tnP b 15, tnP b 16, tnP b 17, tnP b 18, tnP b 19, tnP b 20, tnP b 21] = tnP b := rfl
    simp -implicitDefEqProofs only [ef, et, m1, m2, m3, t1, t2, t3, Option.bind_some]
    clear m1 m2 m3 t1 t2 t3 o1 o2 ef et
    obtain ⟨⟨x1, x2⟩, y1, y2⟩ := k1
    generalize cxI a b c = X at *
    generalize cyI a b c = Y at *
    generalize (if c = 0 then ((0 : Int), (28 : Int)) else mgI a b c) = mg
    generalize stI a b c = st
    have hx : IntKind.i64.wrap (0 - X) = -X := by rw [w64 (by omega) (by omega)]; omega
    simp -implicitDefEqProofs only [nthI, hx, decide_true, Bool.and_self, Bool.not_true, cond_false, cond_true]
    cases st <;> rfl
  · obtain ⟨e, he, h1, _⟩ := center_out h
    rw [h1]
    simp -implicitDefEqProofs only [Option.bind_some, he, nthI, decide_true, decide_false, Bool.and_self, Bool.not_false, cond_true]

end Go.Proofs.YtggiamcgkiaicaaDoor
