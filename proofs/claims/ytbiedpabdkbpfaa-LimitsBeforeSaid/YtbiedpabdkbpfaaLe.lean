/-
  THE PLAIN LAWS: what the contracts compute answers as the statements say.
-/
import Derived.Test.YtbiedpabdkbpfaaLd
open Go Go.VE Go.Proofs
set_option maxRecDepth 1000000
set_option maxHeartbeats 0
set_option linter.unusedVariables false
set_option linter.unusedSimpArgs false
namespace Go.Proofs.Ytbiedpabdkbpfaa
/-! ### How many runs -/
def st (p : Int → Bool) (k : Int) : Bool := p k && (decide (k = 0) || !p (k - 1))
def cnt (p : Int → Bool) : Nat → Int → Int
  | 0, _ => 0
  | d + 1, k => (bif st p k then 1 else 0) + cnt p d (k + 1)
theorem cnt_nn (p : Int → Bool) : ∀ (d : Nat) (k : Int), 0 ≤ cnt p d k ∧ cnt p d k ≤ d
  | 0, k => by simp [cnt]
  | d + 1, k => by
    have := cnt_nn p d (k + 1)
    simp only [cnt]
    cases st p k <;> simp only [cond_true, cond_false] <;> omega
theorem cnt_one (p : Int → Bool) : ∀ (d : Nat) (k j : Int), k ≤ j → j < k + d → st p j = true → 1 ≤ cnt p d k
  | 0, k, j, h1, h2, _ => by omega
  | d + 1, k, j, h1, h2, h => by
    have hn := cnt_nn p d (k + 1)
    simp only [cnt]
    by_cases hj : j = k
    · subst hj
      rw [h]
      simp only [cond_true]
      omega
    · have := cnt_one p d (k + 1) j (by omega) (by omega) h
      cases st p k <;> simp only [cond_true, cond_false] <;> omega
theorem cnt_two (p : Int → Bool) : ∀ (d : Nat) (k i j : Int), k ≤ i → i < j → j < k + d → st p i = true → st p j = true → 2 ≤ cnt p d k
  | 0, k, i, j, h1, h2, h3, _, _ => by omega
  | d + 1, k, i, j, h1, h2, h3, hi, hj => by
    simp only [cnt]
    by_cases hk : i = k
    · subst hk
      have := cnt_one p d (i + 1) j (by omega) (by omega) hj
      rw [hi]
      simp only [cond_true]
      omega
    · have := cnt_two p d (k + 1) i j (by omega) h2 (by omega) hi hj
      cases st p k <;> simp only [cond_true, cond_false] <;> omega
theorem inside_eq {l : Nat → Int} {a k : Int} (h2 : 0 ≤ l 2 ∧ l 2 ≤ 255) (ha : 0 ≤ a ∧ a ≤ 255) (hk : -4096 ≤ k ∧ k ≤ 4096) : f39 l a k = some (insP a (l 2) (l 3) k) := by
  unfold f39
  rw [w64 (n := a + k) (by omega) (by omega), w64 (n := a + k - l 2) (by omega) (by omega)]
  have := Option.some.inj (norm_eq (a + k - l 2))
  rw [this]
  rfl
theorem run1 {c2 c3 c4 c5 c6 c7 c8 c9 c10 c11 c12 c13 : Int} {Y : Nat → Sl} (h4 : 0 ≤ c4 ∧ c4 ≤ 255) (h5 : 0 ≤ c5 ∧ c5 ≤ 255) (h10 : 0 ≤ c10 ∧ c10 ≤ 255) : ∀ (d m : Nat) (n k : Int), 0 ≤ n → n ≤ k → 0 ≤ k → k + d = c5 + 1 → d < m →
    iterL s21_0 m (nthI [n, k, c2, c3, c4, c5, c6, c7, c8, c9, c10, c11, c12, c13]) Y = some (0, nthI [n + cnt (insP c4 c10 c11) d k], nthS [])
  | d, 0, n, k, _, _, _, _, h => by omega
  | 0, m + 1, n, k, _, _, h0, h1, _ => by
    have hk : ¬ k ≤ c5 := by omega
    simp only [iterL, s21_0, nthI, hk, decide_false, cond_false, cnt, Int.add_zero]
  | d + 1, m + 1, n, k, hn, hnk, h0, h1, h2 => by
    have hk : k ≤ c5 := by omega
    have ih1 := run1 (c2 := c2) (c3 := c3) (c4 := c4) (c5 := c5) (c6 := c6) (c7 := c7) (c8 := c8) (c9 := c9) (c10 := c10) (c11 := c11) (c12 := c12) (c13 := c13) (Y := nthS []) h4 h5 h10 d m (n + 1) (k + 1) (by omega) (by omega) (by omega) (by omega) (by omega)
    have ih0 := run1 (c2 := c2) (c3 := c3) (c4 := c4) (c5 := c5) (c6 := c6) (c7 := c7) (c8 := c8) (c9 := c9) (c10 := c10) (c11 := c11) (c12 := c12) (c13 := c13) (Y := nthS []) h4 h5 h10 d m n (k + 1) (by omega) (by omega) (by omega) (by omega) (by omega)
    have hs : f39 (nthI [c8, c9, c10, c11, c12, c13]) c4 k = some (insP c4 c10 c11 k) := inside_eq (l := nthI [c8, c9, c10, c11, c12, c13]) h10 h4 ⟨by omega, by omega⟩
    have hs' : f39 (nthI [c8, c9, c10, c11, c12, c13]) c4 (k - 1) = some (insP c4 c10 c11 (k - 1)) := inside_eq (l := nthI [c8, c9, c10, c11, c12, c13]) h10 h4 ⟨by omega, by omega⟩
    simp only [iterL, s21_0, nthI, hk, decide_true, cond_true, cnt, st]
    rw [w64 (n := k - 1) (by omega) (by omega), w64 (n := k + 1) (by omega) (by omega), w64 (n := n + 1) (by omega) (by omega), hs, hs']
    simp only [Option.bind_some]
    by_cases hp : insP c4 c10 c11 k = true
    · by_cases hz : k = 0
      · subst hz
        simp only [hp, cond_true, decide_true, Bool.true_and, Bool.true_or]
        rw [ih1, show n + (1 + cnt (insP c4 c10 c11) d (0 + 1)) = n + 1 + cnt (insP c4 c10 c11) d (0 + 1) by omega]
      · by_cases hq : insP c4 c10 c11 (k - 1) = true
        · simp only [hp, hz, hq, cond_true, cond_false, decide_false, Bool.not_true, Bool.false_or, Bool.and_false, Int.zero_add]
          exact ih0
        · have hq := Bool.eq_false_iff.2 hq
          simp only [hp, hz, hq, cond_true, cond_false, decide_false, Bool.not_false, Bool.false_or, Bool.and_true]
          rw [ih1, show n + (1 + cnt (insP c4 c10 c11) d (k + 1)) = n + 1 + cnt (insP c4 c10 c11) d (k + 1) by omega]
    · have hp := Bool.eq_false_iff.2 hp
      simp only [hp, cond_false, Bool.false_and, Int.zero_add]
      exact ih0
theorem runs_eq {l m : Nat → Int} (hl : lbR l) (hm : lbR m) : f21 l m = some (cnt (insP (l 2) (m 2) (m 3)) (l 3 + 1).toNat 0) := by
  have h := run1 (c2 := l 0) (c3 := l 1) (c4 := l 2) (c5 := l 3) (c6 := l 4) (c7 := l 5) (c8 := m 0) (c9 := m 1) (c10 := m 2) (c11 := m 3) (c12 := m 4) (c13 := m 5) (Y := nthS []) hl.2.1 hl.2.2.1 hm.2.1 (l 3 + 1).toNat 400 0 0 (by omega) (by omega) (by omega) (by have := hl.2.2.1; omega) (by have := hl.2.2.1; omega)
  unfold f21
  rw [show l21_0 (nthI [0, 0, l 0, l 1, l 2, l 3, l 4, l 5, m 0, m 1, m 2, m 3, m 4, m 5]) (nthS []) = _ from h]
  simp only [Option.bind_some, nthI, Int.zero_add]

/-! ### What narrowing allows -/
theorem maxI_le {x y z : Int} : maxI x y ≤ z ↔ x ≤ z ∧ y ≤ z := by unfold maxI; split <;> omega
theorem le_minI {x y z : Int} : z ≤ minI x y ↔ z ≤ x ∧ z ≤ y := by unfold minI; split <;> omega
theorem sec_facts {l m : Nat → Int} (hl : lbR l) (h : ¬ (sec l m).2 < 0) : fst l m ≤ l 3 ∧ (sec l m).1 = (l 2 + fst l m) % 256 ∧ 0 ≤ (sec l m).2 ∧ fst l m + (sec l m).2 ≤ l 3 ∧
    (∀ j, fst l m ≤ j → j ≤ fst l m + (sec l m).2 → insP (l 2) (m 2) (m 3) j = true) ∧ (∀ j, 0 ≤ j → j < fst l m → insP (l 2) (m 2) (m 3) j = false) ∧
    (fst l m + (sec l m).2 < l 3 → insP (l 2) (m 2) (m 3) (fst l m + (sec l m).2 + 1) = false) := by
  have hb := hl.2.2.1
  have hf := fst_in (m := m) hl
  by_cases hw : fst l m ≤ l 3
  · have hs : sec l m = ((l 2 + fst l m) % 256, hF (insP (l 2) (m 2) (m 3)) (l 3 - fst l m).toNat (fst l m + 1)) := by simp [sec, hw]
    have hh := hF_le (insP (l 2) (m 2) (m 3)) (l 3 - fst l m).toNat (fst l m + 1)
    rw [hs] at h ⊢
    refine ⟨hw, rfl, by simp only; omega, by simp only; omega, fun j h1 h2 => ?_, fun j h1 h2 => fF_miss _ _ 0 j h1 h2, fun h1 => ?_⟩
    · by_cases hj : j = fst l m
      · rw [hj]
        exact fF_hit _ (l 3 + 1).toNat 0 (by show fst l m < 0 + ((l 3 + 1).toNat : Int); omega)
      · exact hF_hit _ (l 3 - fst l m).toNat (fst l m + 1) j (by omega) (by simp only at h2; omega)
    · have := hF_miss (insP (l 2) (m 2) (m 3)) (l 3 - fst l m).toNat (fst l m + 1) (by simp only at h1; omega)
      simp only
      rwa [show fst l m + hF (insP (l 2) (m 2) (m 3)) (l 3 - fst l m).toNat (fst l m + 1) + 1 = fst l m + 1 + hF (insP (l 2) (m 2) (m 3)) (l 3 - fst l m).toNat (fst l m + 1) by omega]
  · exfalso
    apply h
    simp [sec, hw]
theorem nar_cut {l m : Nat → Int} (h : (nar l m).2 = true) : ¬ minI (l 1) (m 1) < maxI (l 0) (m 0) ∧ ¬ (sec l m).2 < 0 := by
  have e := nar_snd l m
  rw [h] at e
  simpa using e
theorem nar_ok {l m : Nat → Int} (hl : lbR l) (hm : lbR m) (h : (nar l m).2 = true) : lbR (nar l m).1 := by
  obtain ⟨h1, h2⟩ := nar_cut h
  obtain ⟨f1, f2, f3, f4, _⟩ := sec_facts hl h2
  have hf := fst_in (m := m) hl
  rw [nar_fst h]
  unfold lbR lb at *
  simp only [nthI, f2]
  have hmx : maxI (l 0) (m 0) = l 0 ∨ maxI (l 0) (m 0) = m 0 := by unfold maxI; split <;> simp
  have hmn : minI (l 1) (m 1) = l 1 ∨ minI (l 1) (m 1) = m 1 := by unfold minI; split <;> simp
  have hmb : minI (l 4) (m 4) = l 4 ∨ minI (l 4) (m 4) = m 4 := by unfold minI; split <;> simp
  have hms : minI (l 5) (m 5) = l 5 ∨ minI (l 5) (m 5) = m 5 := by unfold minI; split <;> simp
  omega
theorem nar_allows {l m c : Nat → Int} (hl : lbR l) (hm : lbR m) (h : (nar l m).2 = true) : alw (nar l m).1 c → alw l c ∧ alw m c := by
  obtain ⟨h1, h2⟩ := nar_cut h
  obtain ⟨f1, f2, f3, f4, f5, _⟩ := sec_facts hl h2
  have hf := fst_in (m := m) hl
  have hb := hl.2.2.1
  rw [nar_fst h]
  unfold alw
  simp only [nthI, f2, maxI_le, le_minI]
  rintro ⟨⟨p1, p2⟩, ⟨p3, p4⟩, ⟨p5, p6⟩, hz⟩
  refine ⟨⟨p1, p3, p5, ?_⟩, p2, p4, p6, ?_⟩
  · rcases hz with hz | hz | hz
    · exact .inl hz
    · exact .inr (.inl hz)
    · exact .inr (.inr (by omega))
  · rcases hz with hz | hz | hz
    · exact .inl hz
    · exact .inr (.inl hz)
    · have := f5 (fst l m + (c 0 - (l 2 + fst l m) % 256) % 256) (by omega) (by omega)
      simp only [insP, decide_eq_true_eq] at this
      exact .inr (.inr (by omega))
theorem nar_allows' {l m c : Nat → Int} (hl : lbR l) (hm : lbR m) (h : (nar l m).2 = true) (hc : 0 ≤ c 0 ∧ c 0 ≤ 255) (hr : cnt (insP (l 2) (m 2) (m 3)) (l 3 + 1).toNat 0 = 1) (h3 : alw l c) (h4 : alw m c) : alw (nar l m).1 c := by
  obtain ⟨h1, h2⟩ := nar_cut h
  obtain ⟨f1, f2, f3, f4, f5, f6, f7⟩ := sec_facts hl h2
  have hf := fst_in (m := m) hl
  have hb := hl.2.2.1
  rw [nar_fst h]
  unfold alw at *
  simp only [nthI, f2, maxI_le, le_minI]
  obtain ⟨p1, p3, p5, hz⟩ := h3
  obtain ⟨p2, p4, p6, hz'⟩ := h4
  refine ⟨⟨p1, p2⟩, ⟨p3, p4⟩, ⟨p5, p6⟩, ?_⟩
  rcases hz with hz | hz | hz
  · exact .inl hz
  · exact .inr (.inl hz)
  rcases hz' with hz' | hz' | hz'
  · exact .inl hz'
  · exact .inr (.inl hz')
  refine .inr (.inr ?_)
  -- the azimuth's number in the first sector
  have hk : insP (l 2) (m 2) (m 3) ((c 0 - l 2) % 256) = true := by
    simp only [insP, decide_eq_true_eq]
    omega
  generalize hK : (c 0 - l 2) % 256 = K at *
  have hK0 : 0 ≤ K := by omega
  have hge : fst l m ≤ K := by
    refine Int.not_lt.1 fun hlt => ?_
    rw [f6 K hK0 hlt] at hk
    cases hk
  by_cases hle : K ≤ fst l m + (sec l m).2
  · omega
  · exfalso
    have hlt : fst l m + (sec l m).2 < l 3 := by omega
    have hm := f7 hlt
    generalize hS : fst l m + (sec l m).2 + 1 = S at *
    -- the next run's beginning
    have hj := fF_le (insP (l 2) (m 2) (m 3)) (K - S).toNat S
    have hjp : insP (l 2) (m 2) (m 3) (fF (insP (l 2) (m 2) (m 3)) (K - S).toNat S) = true := by
      by_cases hlt2 : fF (insP (l 2) (m 2) (m 3)) (K - S).toNat S < S + ((K - S).toNat : Int)
      · exact fF_hit _ _ _ hlt2
      · rw [show fF (insP (l 2) (m 2) (m 3)) (K - S).toNat S = K by omega]
        exact hk
    have hne : fF (insP (l 2) (m 2) (m 3)) (K - S).toNat S ≠ S := fun e => by
      rw [e, hm] at hjp
      cases hjp
    have hprev := fF_miss (insP (l 2) (m 2) (m 3)) (K - S).toNat S (fF (insP (l 2) (m 2) (m 3)) (K - S).toNat S - 1) (by omega) (by omega)
    have s2 : st (insP (l 2) (m 2) (m 3)) (fF (insP (l 2) (m 2) (m 3)) (K - S).toNat S) = true := by
      simp [st, hjp, hprev]
    have s1 : st (insP (l 2) (m 2) (m 3)) (fst l m) = true := by
      have e1 := f5 (fst l m) (by omega) (by omega)
      by_cases hz : fst l m = 0
      · simp [st, e1, hz]
        rw [hz] at e1
        exact e1
      · have e2 := f6 (fst l m - 1) (by omega) (by omega)
        simp [st, e1, e2]
    have := cnt_two (insP (l 2) (m 2) (m 3)) (l 3 + 1).toNat 0 (fst l m) _ (by omega) (show fst l m < fF (insP (l 2) (m 2) (m 3)) (K - S).toNat S by omega) (by omega) s1 s2
    omega
theorem narL_ok {a b : Nat → Int} (ha : limOk a) (hb : limOk b) (h : okN a b = true) : limOk (narL a b) := by
  obtain ⟨a0, a1, a2, a3, a4, a5, a6, a7⟩ := id ha
  obtain ⟨b0, b1, b2, b3, b4, b5, b6, b7⟩ := id hb
  simp only [okN, Bool.and_eq_true] at h
  obtain ⟨⟨⟨⟨⟨h0, h1⟩, h2⟩, h3⟩, h4⟩, h5⟩ := h
  have hmb : minI (a 38) (b 38) = a 38 ∨ minI (a 38) (b 38) = b 38 := by unfold minI; split <;> simp
  have hms : minI (a 39) (b 39) = a 39 ∨ minI (a 39) (b 39) = b 39 := by unfold minI; split <;> simp
  refine ⟨nar_ok (l := a) (m := b) a0 b0 h0, nar_ok (l := nthI [a 6, a 7, a 8, a 9, a 10, a 11]) (m := nthI [b 6, b 7, b 8, b 9, b 10, b 11]) a1 b1 h1, nar_ok (l := nthI [a 12, a 13, a 14, a 15, a 16, a 17]) (m := nthI [b 12, b 13, b 14, b 15, b 16, b 17]) a2 b2 h2, nar_ok (l := nthI [a 18, a 19, a 20, a 21, a 22, a 23]) (m := nthI [b 18, b 19, b 20, b 21, b 22, b 23]) a3 b3 h3, nar_ok (l := nthI [a 24, a 25, a 26, a 27, a 28, a 29]) (m := nthI [b 24, b 25, b 26, b 27, b 28, b 29]) a4 b4 h4, nar_ok (l := nthI [a 30, a 31, a 32, a 33, a 34, a 35]) (m := nthI [b 30, b 31, b 32, b 33, b 34, b 35]) a5 b5 h5, ?_, ?_⟩
  · show 0 ≤ minI (a 38) (b 38) ∧ minI (a 38) (b 38) ≤ 8192
    omega
  · show 1 ≤ minI (a 39) (b 39) ∧ minI (a 39) (b 39) ≤ 128
    omega
theorem narL_row {a b : Nat → Int} (ha : limOk a) (hb : limOk b) (h : okN a b = true) {i : Int} (hi : 0 ≤ i ∧ i < 6) {c : Nat → Int} (hc : 0 ≤ c 0 ∧ c 0 ≤ 255) : (alw (row (narL a b) i) c → alw (row a i) c ∧ alw (row b i) c) ∧
    (cnt (insP (row a i 2) (row b i 2) (row b i 3)) (row a i 3 + 1).toNat 0 = 1 → alw (row a i) c → alw (row b i) c → alw (row (narL a b) i) c) := by
  obtain ⟨a0, a1, a2, a3, a4, a5, a6, a7⟩ := id ha
  obtain ⟨b0, b1, b2, b3, b4, b5, b6, b7⟩ := id hb
  simp only [okN, Bool.and_eq_true] at h
  obtain ⟨⟨⟨⟨⟨h0, h1⟩, h2⟩, h3⟩, h4⟩, h5⟩ := h
  rcases six hi with rfl | rfl | rfl | rfl | rfl | rfl
  · exact ⟨nar_allows (l := a) (m := b) a0 b0 h0, nar_allows' (l := a) (m := b) a0 b0 h0 hc⟩
  · exact ⟨nar_allows (l := nthI [a 6, a 7, a 8, a 9, a 10, a 11]) (m := nthI [b 6, b 7, b 8, b 9, b 10, b 11]) a1 b1 h1, nar_allows' (l := nthI [a 6, a 7, a 8, a 9, a 10, a 11]) (m := nthI [b 6, b 7, b 8, b 9, b 10, b 11]) a1 b1 h1 hc⟩
  · exact ⟨nar_allows (l := nthI [a 12, a 13, a 14, a 15, a 16, a 17]) (m := nthI [b 12, b 13, b 14, b 15, b 16, b 17]) a2 b2 h2, nar_allows' (l := nthI [a 12, a 13, a 14, a 15, a 16, a 17]) (m := nthI [b 12, b 13, b 14, b 15, b 16, b 17]) a2 b2 h2 hc⟩
  · exact ⟨nar_allows (l := nthI [a 18, a 19, a 20, a 21, a 22, a 23]) (m := nthI [b 18, b 19, b 20, b 21, b 22, b 23]) a3 b3 h3, nar_allows' (l := nthI [a 18, a 19, a 20, a 21, a 22, a 23]) (m := nthI [b 18, b 19, b 20, b 21, b 22, b 23]) a3 b3 h3 hc⟩
  · exact ⟨nar_allows (l := nthI [a 24, a 25, a 26, a 27, a 28, a 29]) (m := nthI [b 24, b 25, b 26, b 27, b 28, b 29]) a4 b4 h4, nar_allows' (l := nthI [a 24, a 25, a 26, a 27, a 28, a 29]) (m := nthI [b 24, b 25, b 26, b 27, b 28, b 29]) a4 b4 h4 hc⟩
  · exact ⟨nar_allows (l := nthI [a 30, a 31, a 32, a 33, a 34, a 35]) (m := nthI [b 30, b 31, b 32, b 33, b 34, b 35]) a5 b5 h5, nar_allows' (l := nthI [a 30, a 31, a 32, a 33, a 34, a 35]) (m := nthI [b 30, b 31, b 32, b 33, b 34, b 35]) a5 b5 h5 hc⟩
theorem minI_l (x y : Int) : ¬ x < minI x y := by unfold minI; split <;> omega
theorem minI_r (x y : Int) : ¬ y < minI x y := by unfold minI; split <;> omega
theorem bbn (x y : Int) : (!decide (bb (bif !decide (x = 0) then 1 else 0) (bif !decide (y = 0) then 1 else 0) = 0)) = (!decide (x = 0) && !decide (y = 0)) := by
  by_cases h : x = 0 <;> by_cases h' : y = 0 <;> simp [bb, h, h']
theorem bc1 {α : Type} {c : Bool} {X : Option Bool} {E K : Option α} : (Option.bind (cond c (some true) X) fun r => cond r E K) = cond c E (Option.bind X fun r => cond r E K) := by cases c <;> rfl
set_option maxHeartbeats 4000000 in
theorem lawNarrow (a b c : Nat → Int) : f6 a b c = some true := by
  unfold f6
  by_cases ha : limOk a
  case neg =>
    rw [lnarrow_a (a := cpL a) ha]
    rfl
  by_cases hb : limOk b
  case neg =>
    rw [lnarrow_b (a := cpL a) (b := cpL b) ha hb]
    rfl
  rw [lnarrow_in (a := cpL a) (b := cpL b) ha hb]
  cases ho : okN (cpL a) (cpL b)
  case false => rfl
  have ha' : limOk (cpL a) := ha
  have hb' : limOk (cpL b) := hb
  have hn := narL_ok ha' hb' ho
  have hrow := fun i hi => narL_row (c := nthI [c 1, c 2, c 3]) ha' hb' ho (i := i) hi
  have g38 : narL (cpL a) (cpL b) 38 = minI (a 38) (b 38) := rfl
  have g39 : narL (cpL a) (cpL b) 39 = minI (a 39) (b 39) := rfl
  have g36 : (!decide (narL (cpL a) (cpL b) 36 = 0)) = (!decide (a 36 = 0) && !decide (b 36 = 0)) := bbn (a 36) (b 36)
  have g37 : (!decide (narL (cpL a) (cpL b) 37 = 0)) = (!decide (a 37 = 0) && !decide (b 37 = 0)) := bbn (a 37) (b 37)
  generalize narL (cpL a) (cpL b) = n at *
  have hn' : limOk (cpL n) := hn
  simp only [cond_true, Option.bind_some, decide_true, Bool.not_true, cond_false]
  rw [lc_in ha, lc_in hb, lc_in hn]
  have u1 : ¬ a 38 < n 38 := by rw [g38]; exact minI_l _ _
  have u2 : ¬ b 38 < n 38 := by rw [g38]; exact minI_r _ _
  have u3 : ¬ a 39 < n 39 := by rw [g39]; exact minI_l _ _
  have u4 : ¬ b 39 < n 39 := by rw [g39]; exact minI_r _ _
  simp only [Option.bind_some, decide_true, Bool.not_true, cond_false, u1, u2, u3, u4, decide_false]
  have hbools : (cond (!decide (a 36 = 0)) (cond (!(!decide (n 36 = 0)) == !decide (b 36 = 0)) (some true) (cond (!decide (a 37 = 0)) (some (!(!decide (n 37 = 0)) == !decide (b 37 = 0))) (some (!(!decide (n 37 = 0)) == false))))
      (cond (!(!decide (n 36 = 0)) == false) (some true) (cond (!decide (a 37 = 0)) (some (!(!decide (n 37 = 0)) == !decide (b 37 = 0))) (some (!(!decide (n 37 = 0)) == false))))) = some false := by
    rw [g36, g37]
    cases decide (a 36 = 0) <;> cases decide (b 36 = 0) <;> cases decide (a 37 = 0) <;> cases decide (b 37 = 0) <;> rfl
  rw [hbools]
  simp only [Option.bind_some, cond_false]
  obtain ⟨e, he⟩ := acheck_ex (c 0) (nthI [c 1, c 2, c 3])
  by_cases h0 : e = 0
  · subst h0
    have hi := acheck_known he
    have hc : aimOk (nthI [c 1, c 2, c 3]) := acheck_of he
    obtain ⟨r1, r2⟩ := hrow (c 0) hi hc.1
    have hr : f21 (row a (c 0)) (row b (c 0)) = some (cnt (insP (row a (c 0) 2) (row b (c 0) 2) (row b (c 0) 3)) (row a (c 0) 3 + 1).toNat 0) := runs_eq (l := row a (c 0)) (m := row b (c 0)) (row_ok ha hi) (row_ok hb hi)
    have x1 : f17 (cpL n) (c 0) (nthI [c 1, c 2, c 3]) = some (decide (alw (row n (c 0)) (nthI [c 1, c 2, c 3])), 0) := lallows_in hn' he
    have x2 : f17 (cpL a) (c 0) (nthI [c 1, c 2, c 3]) = some (decide (alw (row a (c 0)) (nthI [c 1, c 2, c 3])), 0) := lallows_in ha' he
    have x3 : f17 (cpL b) (c 0) (nthI [c 1, c 2, c 3]) = some (decide (alw (row b (c 0)) (nthI [c 1, c 2, c 3])), 0) := lallows_in hb' he
    rw [x1, x2, x3]
    have q1 : ¬ c 0 < 0 := by omega
    have q2 : ¬ 6 ≤ c 0 := by omega
    simp only [Option.bind_some, decide_true, Bool.not_true, cond_false, q1, q2, hi.1, hi.2, decide_false, cond_true]
    rw [hr]
    have r1' : alw (row n (c 0)) (nthI [c 1, c 2, c 3]) → alw (row a (c 0)) (nthI [c 1, c 2, c 3]) ∧ alw (row b (c 0)) (nthI [c 1, c 2, c 3]) := r1
    have r2' : cnt (insP (row a (c 0) 2) (row b (c 0) 2) (row b (c 0) 3)) (row a (c 0) 3 + 1).toNat 0 = 1 → alw (row a (c 0)) (nthI [c 1, c 2, c 3]) → alw (row b (c 0)) (nthI [c 1, c 2, c 3]) → alw (row n (c 0)) (nthI [c 1, c 2, c 3]) := r2
    revert r1' r2'
    clear r1 r2 x1 x2 x3 hr hrow
    generalize cnt (insP (row a (c 0) 2) (row b (c 0) 2) (row b (c 0) 3)) (row a (c 0) 3 + 1).toNat 0 = N
    intro r1 r2
    rw [awake_eq]
    by_cases y1 : alw (row n (c 0)) (nthI [c 1, c 2, c 3])
    · obtain ⟨y2, y3⟩ := r1 y1
      rw [show decide (alw (row n (c 0)) (nthI [c 1, c 2, c 3])) = true from decide_eq_true y1, show decide (alw (row a (c 0)) (nthI [c 1, c 2, c 3])) = true from decide_eq_true y2, show decide (alw (row b (c 0)) (nthI [c 1, c 2, c 3])) = true from decide_eq_true y3]
      simp only [Option.bind_some, Bool.not_true, cond_true, cond_false]
      cases !decide (N = 1) <;> rfl
    · rw [show decide (alw (row n (c 0)) (nthI [c 1, c 2, c 3])) = false from decide_eq_false y1]
      simp only [Option.bind_some, Bool.not_true, cond_true, cond_false]
      by_cases y2 : alw (row a (c 0)) (nthI [c 1, c 2, c 3])
      · by_cases y3 : alw (row b (c 0)) (nthI [c 1, c 2, c 3])
        · have hN : ¬ N = 1 := fun e => y1 (r2 e y2 y3)
          rw [show decide (alw (row a (c 0)) (nthI [c 1, c 2, c 3])) = true from decide_eq_true y2, show decide (alw (row b (c 0)) (nthI [c 1, c 2, c 3])) = true from decide_eq_true y3]
          simp [hN]
        · rw [show decide (alw (row a (c 0)) (nthI [c 1, c 2, c 3])) = true from decide_eq_true y2, show decide (alw (row b (c 0)) (nthI [c 1, c 2, c 3])) = false from decide_eq_false y3]
          rfl
      · rw [show decide (alw (row a (c 0)) (nthI [c 1, c 2, c 3])) = false from decide_eq_false y2]
        rfl
  · have x1 : f17 (cpL n) (c 0) (nthI [c 1, c 2, c 3]) = some (false, e) := lallows_bad hn' he h0
    have x2 : f17 (cpL a) (c 0) (nthI [c 1, c 2, c 3]) = some (false, e) := lallows_bad ha' he h0
    have x3 : f17 (cpL b) (c 0) (nthI [c 1, c 2, c 3]) = some (false, e) := lallows_bad hb' he h0
    rw [x1, x2, x3, awake_eq]
    simp [h0]

end Go.Proofs.Ytbiedpabdkbpfaa
