/-
  THE PLAIN LAWS: what the contracts compute answers as the statements say.
-/
import Derived.Test.YtggiamcgkiaicaaDoorLf
open Go Go.VE Go.Proofs
set_option maxRecDepth 1000000
set_option maxHeartbeats 0
set_option linter.unusedVariables false
set_option linter.unusedSimpArgs false
namespace Go.Proofs.YtggiamcgkiaicaaDoor
/-! ### Moved by an even way -/
theorem near_even {s b d : Int} (hb : 0 < b) : near (s + b * (2 * d)) b = near s b + 2 * d := by
  have h1 : (s + b * (2 * d)) / b = s / b + 2 * d := Int.add_mul_ediv_left _ _ (by omega)
  have h2 : (s + b * (2 * d)) % b = s % b := Int.add_mul_emod_self_left _ _ _
  unfold near
  rw [h1, h2]
  split
  · omega
  · split
    · by_cases h : (s / b) % 2 = 0
      · rw [if_pos h, if_pos (by omega)]
      · rw [if_neg h, if_neg (by omega)]; omega
    · rfl
theorem sums_moved {a j k : Nat → Int} {d : Int} (h : (k 0 = j 0 + d ∧ k 3 = j 3 + d ∧ k 6 = j 6 + d ∧ k 9 = j 9 + d ∧ k 12 = j 12 + d ∧ k 15 = j 15 + d ∧ k 18 = j 18 + d ∧ k 21 = j 21 + d ∧ k 24 = j 24 + d ∧ k 27 = j 27 + d ∧ k 30 = j 30 + d)) : sX a k = sX a j + 2 * massI a * d := by
  obtain ⟨e0, e1, e2, e3, e4, e5, e6, e7, e8, e9, e10⟩ := h
  unfold sX massI
  rw [e0, e1, e2, e3, e4, e5, e6, e7, e8, e9, e10]
  grind
theorem sumsY_moved {a j k : Nat → Int} {d : Int} (h : (k 1 = j 1 + d ∧ k 4 = j 4 + d ∧ k 7 = j 7 + d ∧ k 10 = j 10 + d ∧ k 13 = j 13 + d ∧ k 16 = j 16 + d ∧ k 19 = j 19 + d ∧ k 22 = j 22 + d ∧ k 25 = j 25 + d ∧ k 28 = j 28 + d ∧ k 31 = j 31 + d)) : sY a k = sY a j + 2 * massI a * d := by
  obtain ⟨e0, e1, e2, e3, e4, e5, e6, e7, e8, e9, e10⟩ := h
  unfold sY massI
  rw [e0, e1, e2, e3, e4, e5, e6, e7, e8, e9, e10]
  grind
theorem mv_eq {u v x : Int} (h : u - v = x) : u = v + x := by omega
theorem c_moved {a p : Nat → Int} (ha : okB a) (c x y : Int) : cxI a (atP p (p 0 + 2 * x) (p 1 + 2 * y)) c = cxI a p c + 2 * x ∧ cyI a (atP p (p 0 + 2 * x) (p 1 + 2 * y)) c = cyI a p c + 2 * y := by
  have hM := mass_pos ha
  have hm := J_moved a p (p 0 + 2 * x) (p 1 + 2 * y) c
  rw [show p 0 + 2 * x - p 0 = 2 * x by omega, show p 1 + 2 * y - p 1 = 2 * y by omega] at hm
  obtain ⟨⟨m1, m2, _⟩, ⟨m4, m5, _⟩, ⟨m7, m8, _⟩, ⟨n1, n2, _⟩, ⟨n4, n5, _⟩, ⟨n7, n8, _⟩, ⟨p1, p2, _⟩, ⟨p4, p5, _⟩, ⟨p7, p8, _⟩, ⟨q1, q2, _⟩, q4, q5, _⟩ := hm
  unfold cxI cyI
  rw [sums_moved (a := a) (j := J a p c) (k := J a (atP p (p 0 + 2 * x) (p 1 + 2 * y)) c) (d := 2 * x) ⟨mv_eq m1, mv_eq m4, mv_eq m7, mv_eq n1, mv_eq n4, mv_eq n7, mv_eq p1, mv_eq p4, mv_eq p7, mv_eq q1, mv_eq q4⟩,
    sumsY_moved (a := a) (j := J a p c) (k := J a (atP p (p 0 + 2 * x) (p 1 + 2 * y)) c) (d := 2 * y) ⟨mv_eq m2, mv_eq m5, mv_eq m8, mv_eq n2, mv_eq n5, mv_eq n8, mv_eq p2, mv_eq p5, mv_eq p8, mv_eq q2, mv_eq q5⟩, near_even (by omega), near_even (by omega)]
  exact ⟨rfl, rfl⟩
theorem nr_add (px py ax ay bx b1 r x y : Int) : nr (px + x) (py + y) (ax + x) (ay + y) (bx + x) (b1 + y) r = nr px py ax ay bx b1 r := by
  have e : ∀ u v w : Int, u + w - (v + w) = u - v := fun u v w => by omega
  simp only [nr, dotI, sqI, crI, e]
theorem abv_moved {a p : Nat → Int} (ha : okB a) (c x y : Int) : abv a (atP p (p 0 + 2 * x) (p 1 + 2 * y)) c = abv a p c := by
  funext r
  obtain ⟨e1, e2⟩ := c_moved (p := p) ha c x y
  have hm := J_moved a p (p 0 + 2 * x) (p 1 + 2 * y) c
  rw [show p 0 + 2 * x - p 0 = 2 * x by omega, show p 1 + 2 * y - p 1 = 2 * y by omega] at hm
  obtain ⟨_, _, _, _, _, _, _, _, _, ⟨q1, q2, _⟩, q4, q5, _⟩ := hm
  unfold abv ftA ftB
  rw [e1, e2]
  replace q1 := mv_eq q1
  replace q2 := mv_eq q2
  replace q4 := mv_eq q4
  replace q5 := mv_eq q5
  cases decide (c = 1) <;> cases decide (c = 2) <;> simp only [cond_true, cond_false, q1, q2, q4, q5] <;> exact nr_add _ _ _ _ _ _ _ _ _
theorem st_congr {a p q : Nat → Int} {c d : Int} (h : abv a q d = abv a p c) (h0 : decide (d = 0) = decide (c = 0)) : stI a q d = stI a p c := by
  unfold stI
  rw [h, h0]
theorem mg_congr {a p q : Nat → Int} {c d : Int} (h : abv a q d = abv a p c) : mgI a q d = mgI a p c := by
  unfold mgI mgF
  rw [h]
theorem of_same {a p q : Nat → Int} {c : Int} (hp : poseOk p) (hq : poseOk q) (h : ¬ (okB a ∧ 0 ≤ c ∧ c ≤ 3)) : f24 a p c = f24 a q c := by
  unfold f24
  by_cases ha : okB a
  · rw [build_in ha, valid_in hp, valid_in hq]
    by_cases c1 : c < 0
    · simp only [c1, Option.bind_some, decide_true, Bool.not_true, cond_false, cond_true]
    · have c2 : 3 < c := Int.not_le.1 fun hc => h ⟨ha, by omega, hc⟩
      simp only [c1, c2, Option.bind_some, decide_true, decide_false, Bool.not_true, cond_false, cond_true]
  · rw [build_out ha]
    simp -implicitDefEqProofs only [Option.bind_some, show decide ((23 : Int) = 0) = false from rfl, Bool.not_false, cond_true]
theorem outs_of {a p : Nat → Int} {c e : Int} {z : Nat → Int} (he : e ≠ 0) (h1 : f24 a p c = some (z, e)) : f10 a p c = some (nthI [0, 0], e) ∧ f13 a p c = some (false, e) ∧ f15 a p c = some (0, e) := by
  unfold f10 f13 f15
  rw [h1]
  simp -implicitDefEqProofs only [Option.bind_some, he, decide_false, Bool.not_false, cond_true, and_self]
theorem margin_val {a p : Nat → Int} {c : Int} (h : okA a p c) : f15 a p c = some (if c = 0 then (0, 28) else mgI a p c) := by
  by_cases hc : c = 0
  · subst hc
    exact (margin_air h).1
  · rw [if_neg hc]
    exact (margin_in h hc).1
theorem lawMoves (a b c : Nat → Int) : f6 a b c = some true := by
  unfold f6
  rw [aw]
  by_cases h1 : c 1 < -32768
  · rw [decide_eq_true h1]; rfl
  by_cases h2 : 32768 < c 1
  · rw [decide_eq_false h1, decide_eq_true h2]; rfl
  by_cases h3 : c 2 < -32768
  · rw [decide_eq_false h1, decide_eq_false h2, decide_eq_true h3]; rfl
  by_cases h4 : 32768 < c 2
  · rw [decide_eq_false h1, decide_eq_false h2, decide_eq_false h3, decide_eq_true h4]; rfl
  rw [decide_eq_false h1, decide_eq_false h2, decide_eq_false h3, decide_eq_false h4]
  simp only [cond_false]
  obtain ⟨r, hr⟩ := valid_some b
  rw [hr]
  by_cases hz : r = 0
  · subst hz
    have hp := valid_of hr
    have hp1 := hp.1
    obtain ⟨⟨_, _⟩, _, _⟩ := hp1
    rw [w64 (n := 2 * c 1) (by omega) (by omega), w64 (n := 2 * c 2) (by omega) (by omega), w64 (n := b 0 + 2 * c 1) (by omega) (by omega), w64 (n := b 1 + 2 * c 2) (by omega) (by omega)]
    obtain ⟨r', hr'⟩ := valid_some (atP b (b 0 + 2 * c 1) (b 1 + 2 * c 2))
    simp -implicitDefEqProofs only [Option.bind_some, decide_true, Bool.not_true, cond_false]
    rw [show f19 (nthI [b 0 + 2 * c 1, b 1 + 2 * c 2, b 2, b 3, b 4, b 5, b 6, b 7, b 8, b 9, b 10, b 11, b 12, b 13, b 14, b 15, b 16, b 17, b 18, b 19, b 20, b 21]) = some r' from hr']
    by_cases hz' : r' = 0
    · subst hz'
      have hq := valid_of hr'
      have hq1 := hq.1
      have hqx : -32768 ≤ b 0 + 2 * c 1 ∧ b 0 + 2 * c 1 ≤ 32768 := hq1.1
      have hqy : -32768 ≤ b 1 + 2 * c 2 ∧ b 1 + 2 * c 2 ≤ 32768 := hq1.2
      simp -implicitDefEqProofs only [Option.bind_some, decide_true, Bool.not_true, cond_false]
      by_cases ho : okB a ∧ 0 ≤ c 0 ∧ c 0 ≤ 3
      · have o1 : okA a b (c 0) := ⟨ho.1, hp, ho.2⟩
        have o2 : okA a (atP b (b 0 + 2 * c 1) (b 1 + 2 * c 2)) (c 0) := ⟨ho.1, hq, ho.2⟩
        obtain ⟨e1, e2⟩ := c_moved (p := b) ho.1 (c 0) (c 1) (c 2)
        have e3 := abv_moved (p := b) ho.1 (c 0) (c 1) (c 2)
        have g1 := fcenter_in o2
        have g2 := (stable_in o2).1
        have g3 := margin_val o2
        rw [e1, e2] at g1
        rw [st_congr e3 rfl] at g2
        rw [mg_congr e3] at g3
        obtain ⟨⟨_, _⟩, _, _⟩ := c_rel ho.1 hp (c 0)
        rw [fcenter_in o1, (stable_in o1).1, margin_val o1, show f10 a (nthI [b 0 + 2 * c 1, b 1 + 2 * c 2, b 2, b 3, b 4, b 5, b 6, b 7, b 8, b 9, b 10, b 11, b 12, b 13, b 14, b 15, b 16, b 17, b 18, b 19, b 20, b 21]) (c 0) = _ from g1,
          show f13 a (nthI [b 0 + 2 * c 1, b 1 + 2 * c 2, b 2, b 3, b 4, b 5, b 6, b 7, b 8, b 9, b 10, b 11, b 12, b 13, b 14, b 15, b 16, b 17, b 18, b 19, b 20, b 21]) (c 0) = _ from g2,
          show f15 a (nthI [b 0 + 2 * c 1, b 1 + 2 * c 2, b 2, b 3, b 4, b 5, b 6, b 7, b 8, b 9, b 10, b 11, b 12, b 13, b 14, b 15, b 16, b 17, b 18, b 19, b 20, b 21]) (c 0) = _ from g3]
        clear g1 g2 g3 e1 e2 e3 o1 o2 hr hr'
        generalize cxI a b (c 0) = X at *
        generalize cyI a b (c 0) = Y at *
        generalize (if c 0 = 0 then ((0 : Int), (28 : Int)) else mgI a b (c 0)) = mg
        generalize stI a b (c 0) = st
        have hx : IntKind.i64.wrap (X + 2 * c 1) = X + 2 * c 1 := w64 (by omega) (by omega)
        have hy : IntKind.i64.wrap (Y + 2 * c 2) = Y + 2 * c 2 := w64 (by omega) (by omega)
        simp -implicitDefEqProofs only [Option.bind_some, decide_true, Bool.not_true, cond_false, cond_true, nthI, hx, hy]
        cases st <;> rfl
      · obtain ⟨e, z, he, hf, _⟩ := of_out (a := a) (p := b) (c := c 0) fun h => ho ⟨h.1, h.2.2⟩
        obtain ⟨g1, g2, g3⟩ := outs_of he hf
        obtain ⟨k1, k2, k3⟩ := outs_of he ((of_same hq hp ho).trans hf)
        rw [g1, g2, g3, show f10 a (nthI [b 0 + 2 * c 1, b 1 + 2 * c 2, b 2, b 3, b 4, b 5, b 6, b 7, b 8, b 9, b 10, b 11, b 12, b 13, b 14, b 15, b 16, b 17, b 18, b 19, b 20, b 21]) (c 0) = _ from k1,
          show f13 a (nthI [b 0 + 2 * c 1, b 1 + 2 * c 2, b 2, b 3, b 4, b 5, b 6, b 7, b 8, b 9, b 10, b 11, b 12, b 13, b 14, b 15, b 16, b 17, b 18, b 19, b 20, b 21]) (c 0) = _ from k2,
          show f15 a (nthI [b 0 + 2 * c 1, b 1 + 2 * c 2, b 2, b 3, b 4, b 5, b 6, b 7, b 8, b 9, b 10, b 11, b 12, b 13, b 14, b 15, b 16, b 17, b 18, b 19, b 20, b 21]) (c 0) = _ from k3]
        simp -implicitDefEqProofs only [Option.bind_some, he, decide_true, decide_false, Bool.and_self, Bool.not_true, Bool.not_false, cond_true, cond_false]
        rfl
    · simp -implicitDefEqProofs only [Option.bind_some, hz', decide_false, Bool.not_false, cond_true]
  · simp -implicitDefEqProofs only [Option.bind_some, hz, decide_false, Bool.not_false, cond_true]
/-! ### Feet -/
abbrev wf (a : Nat → Int) (v : Int) : Nat → Int := nthI [a 0, a 1, a 2, a 3, a 4, a 5, a 6, a 7, a 8, v, a 10, a 11, a 12, a 13, a 14]
theorem abv_wf (a p : Nat → Int) (v c r : Int) : abv (wf a v) p c r = abv a p c r := rfl
theorem feet_st {a p : Nat → Int} {c v : Int} (hp : poseOk p) (hc : 0 ≤ c ∧ c ≤ 3) (h0 : c ≠ 0) : ∃ r e, f13 (wf a v) p c = some r ∧ f20 (wf a v) = some e ∧ (e = 0 → r = (abv a p c v, 0) ∧ 20 ≤ v) := by
  obtain ⟨r, hr, _⟩ := stable_eq (wf a v) p c
  refine ⟨r, _, hr, build_eq _, fun he => ?_⟩
  by_cases hb : okB (wf a v)
  · have hf := foot9 hb
    have := (stable_in (a := wf a v) (p := p) (c := c) ⟨hb, hp, hc⟩).1
    rw [hr] at this
    refine ⟨(Option.some.inj this).trans ?_, hf.1⟩
    unfold stI
    rw [decide_eq_false h0, abv_wf]
    rfl
  · rw [if_neg hb] at he
    omega
theorem lawFeet (a b : Nat → Int) (c : Int) : f7 a b c = some true := by
  unfold f7
  rw [aw]
  by_cases h : okA a b c
  · by_cases hc : c = 0
    · subst hc
      rw [(margin_air h).1]
      rfl
    · rw [(margin_in h hc).1]
      unfold mgI
      cases hm : mgF a b c with
      | none => rfl
      | some x =>
        have hf := foot9 h.1
        have ht : ((a 9 + 1).toNat : Int) = a 9 + 1 := by omega
        obtain ⟨x1, x2, x3, x4⟩ := findR_some hm
        rw [ht] at x2
        simp -implicitDefEqProofs only [Option.bind_some, decide_true, Bool.not_true, cond_false]
        rw [decide_eq_false (show ¬ a 9 - x < 0 by omega), decide_eq_false (show ¬ a 9 < a 9 - x by omega), w64 (n := a 9 + 1) (by omega) (by omega), w64 (n := a 9 - (a 9 - x)) (by omega) (by omega), show a 9 - (a 9 - x) = x by omega, w64 (n := x - 1) (by omega) (by omega)]
        obtain ⟨r1, e1, g1, g2, g3⟩ := feet_st (a := a) (v := a 9 + 1) h.2.1 h.2.2 hc
        obtain ⟨r2, e2, k1, k2, k3⟩ := feet_st (a := a) (v := x) h.2.1 h.2.2 hc
        obtain ⟨r3, e3, l1, l2, l3⟩ := feet_st (a := a) (v := x - 1) h.2.1 h.2.2 hc
        rw [show abv a b c (a 9 + 1) = true from nr_mono (r := x) ⟨x1, by omega⟩ x3] at g3
        rw [x3] at k3
        have l4 : e3 = 0 → r3 = (false, 0) := fun he => by
          obtain ⟨q1, q2⟩ := l3 he
          rw [q1, x4 (x - 1) (by omega) (by omega)]
        rw [show f13 (nthI [a 0, a 1, a 2, a 3, a 4, a 5, a 6, a 7, a 8, a 9 + 1, a 10, a 11, a 12, a 13, a 14]) b c = some r1 from g1, show f20 (nthI [a 0, a 1, a 2, a 3, a 4, a 5, a 6, a 7, a 8, a 9 + 1, a 10, a 11, a 12, a 13, a 14]) = some e1 from g2,
          show f13 (nthI [a 0, a 1, a 2, a 3, a 4, a 5, a 6, a 7, a 8, x, a 10, a 11, a 12, a 13, a 14]) b c = some r2 from k1, show f20 (nthI [a 0, a 1, a 2, a 3, a 4, a 5, a 6, a 7, a 8, x, a 10, a 11, a 12, a 13, a 14]) = some e2 from k2,
          show f13 (nthI [a 0, a 1, a 2, a 3, a 4, a 5, a 6, a 7, a 8, x - 1, a 10, a 11, a 12, a 13, a 14]) b c = some r3 from l1, show f20 (nthI [a 0, a 1, a 2, a 3, a 4, a 5, a 6, a 7, a 8, x - 1, a 10, a 11, a 12, a 13, a 14]) = some e3 from l2]
        simp -implicitDefEqProofs only [Option.bind_some, cond_false]
        by_cases q3 : e3 = 0
        · rw [l4 q3]
          by_cases q1 : e1 = 0 <;> by_cases q2 : e2 = 0
          · rw [(g3 q1).1, (k3 q2).1]; simp -implicitDefEqProofs only [q1, q2, q3, decide_true, decide_false, Bool.not_true, Bool.not_false, cond_true, cond_false]
          · rw [(g3 q1).1]; simp -implicitDefEqProofs only [q1, q2, q3, decide_true, decide_false, Bool.not_true, Bool.not_false, cond_true, cond_false]
          · rw [(k3 q2).1]; simp -implicitDefEqProofs only [q1, q2, q3, decide_true, decide_false, Bool.not_true, Bool.not_false, cond_true, cond_false]
          · simp -implicitDefEqProofs only [q1, q2, q3, decide_true, decide_false, Bool.not_true, Bool.not_false, cond_true, cond_false]
        · by_cases q1 : e1 = 0 <;> by_cases q2 : e2 = 0
          · rw [(g3 q1).1, (k3 q2).1]; simp -implicitDefEqProofs only [q1, q2, q3, decide_true, decide_false, Bool.not_true, Bool.not_false, cond_true, cond_false]
          · rw [(g3 q1).1]; simp -implicitDefEqProofs only [q1, q2, q3, decide_true, decide_false, Bool.not_true, Bool.not_false, cond_true, cond_false]
          · rw [(k3 q2).1]; simp -implicitDefEqProofs only [q1, q2, q3, decide_true, decide_false, Bool.not_true, Bool.not_false, cond_true, cond_false]
          · simp -implicitDefEqProofs only [q1, q2, q3, decide_true, decide_false, Bool.not_true, Bool.not_false, cond_true, cond_false]
  · obtain ⟨e, he, h1, _⟩ := margin_out h
    rw [h1]
    simp -implicitDefEqProofs only [Option.bind_some, he, decide_true, decide_false, Bool.not_false, cond_true]

end Go.Proofs.YtggiamcgkiaicaaDoor
