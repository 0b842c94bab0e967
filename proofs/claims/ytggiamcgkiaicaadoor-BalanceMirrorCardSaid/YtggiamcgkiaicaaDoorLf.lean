/-
  THE PLAIN LAWS: what the contracts compute answers as the statements say.
-/
import Derived.Test.YtggiamcgkiaicaaDoorLe
open Go Go.VE Go.Proofs
set_option maxRecDepth 1000000
set_option maxHeartbeats 0
set_option linter.unusedVariables false
set_option linter.unusedSimpArgs false
namespace Go.Proofs.YtggiamcgkiaicaaDoor
theorem f14_eta (a q : Nat → Int) (t : Int) : f14 (nthI [a 0, a 1, a 2, a 3, a 4, a 5, a 6, a 7, a 8, a 9, a 10, a 11, a 12, a 13, a 14]) (nthI [q 0, q 1, q 2, q 3, q 4, q 5, q 6, q 7, q 8, q 9, q 10, q 11, q 12, q 13, q 14, q 15, q 16, q 17, q 18, q 19, q 20, q 21]) t = f14 a q t := by kernel_rfl
theorem f13_eta (a q : Nat → Int) (t : Int) : f13 (nthI [a 0, a 1, a 2, a 3, a 4, a 5, a 6, a 7, a 8, a 9, a 10, a 11, a 12, a 13, a 14]) (nthI [q 0, q 1, q 2, q 3, q 4, q 5, q 6, q 7, q 8, q 9, q 10, q 11, q 12, q 13, q 14, q 15, q 16, q 17, q 18, q 19, q 20, q 21]) t = f13 a q t := by kernel_rfl
abbrev st18 (s i : Int) (a : Nat → Int) : Nat → Int := nthI [s, i, a 0, a 1, a 2, a 3, a 4, a 5, a 6, a 7, a 8, a 9, a 10, a 11, a 12, a 13, a 14]
abbrev ix18 (i : Int) (b : Sl × Sl) : Int := minI i (IntKind.i64.wrap (Int.ofNat b.2.1 - 1))
theorem step18 (rec : (Nat → Int) → (Nat → Sl) → Option LR) (s i : Int) (a : Nat → Int) (b : Sl × Sl) : s18_0 rec (st18 s i a) (nthS [b.1, b.2]) =
    cond (decide (i < Int.ofNat b.1.1)) (cond (decide (0 ≤ i)) (cond (decide (i < Int.ofNat b.1.1)) (cond (decide (0 ≤ ix18 i b)) (cond (decide (ix18 i b < Int.ofNat b.2.1))
      (Option.bind (f14 a (b.1.2 i.toNat) (b.2.2 (ix18 i b).toNat 0)) fun r3 => cond (!decide (r3.2 = 0)) (some (1, nthI [0, r3.2], nthS [])) (cond (!r3.1) (cond (decide (s < 0)) (rec (st18 i (IntKind.i64.wrap (i + 1)) a) (nthS [b.1, b.2])) (rec (st18 s (IntKind.i64.wrap (i + 1)) a) (nthS [b.1, b.2]))) (rec (st18 s (IntKind.i64.wrap (i + 1)) a) (nthS [b.1, b.2]))))
      none) none) none) none) (some (0, nthI [s], nthS [])) := by
  rw [← f14_eta a]
  rfl
theorem ix_eq {i M : Nat} (h : 1 ≤ M) (hM : M ≤ 20) : minI (i : Int) (IntKind.i64.wrap (Int.ofNat M - 1)) = ((min i (M - 1) : Nat) : Int) := by
  rw [w64 (by simp only [Int.ofNat_eq_natCast]; omega) (by simp only [Int.ofNat_eq_natCast]; omega)]
  unfold minI
  simp only [Int.ofNat_eq_natCast]
  split <;> omega
theorem loop18 (a : Nat → Int) (b : Sl × Sl) (R : Nat → Bool × Int) (hM : 1 ≤ b.2.1) (hM2 : b.2.1 ≤ 20) (hN : b.1.1 ≤ 20) (hR : ∀ j, f13 a (b.1.2 j) (tick17 b j) = some (R j) ∧ f14 a (b.1.2 j) (tick17 b j) = some (R j)) : ∀ (n k i : Nat) (s : Int), n < k → i + n = b.1.1 →
    ∃ v, g17 a b n i s = some v ∧ iterL s18_0 k (st18 s (i : Int) a) (nthS [b.1, b.2]) = some (if v.2 = 0 then (0, nthI [v.1], nthS []) else (1, nthI [0, v.2], nthS [])) ∧ (v.2 ≠ 0 → v.1 = 0)
  | _, 0, _, _, h, _ => by omega
  | 0, k + 1, i, s, h, h1 => by
    refine ⟨_, rfl, ?_, fun h => absurd rfl h⟩
    rw [iterL, step18, decide_eq_false (show ¬ (i : Int) < Int.ofNat b.1.1 by simp only [Int.ofNat_eq_natCast]; omega)]
    rfl
  | n + 1, k + 1, i, s, h, h1 => by
    have hlt : (i : Int) < Int.ofNat b.1.1 := by simp only [Int.ofNat_eq_natCast]; omega
    have hix : ix18 (i : Int) b = ((min i (b.2.1 - 1) : Nat) : Int) := ix_eq hM hM2
    rw [iterL, step18, g17, decide_eq_true hlt, decide_eq_true (show (0 : Int) ≤ i by omega), hix, decide_eq_true (show (0 : Int) ≤ ((min i (b.2.1 - 1) : Nat) : Int) by omega), decide_eq_true (show ((min i (b.2.1 - 1) : Nat) : Int) < Int.ofNat b.2.1 by simp only [Int.ofNat_eq_natCast]; omega), w64 (n := (i : Int) + 1) (by omega) (by omega)]
    simp only [cond_true, Int.toNat_natCast]
    rw [(hR i).1, show b.2.2 (min i (b.2.1 - 1)) 0 = tick17 b i from rfl, (hR i).2]
    simp only [Option.bind_some]
    by_cases he : (R i).2 = 0
    · rw [decide_eq_true he]
      simp only [Bool.not_true, cond_false]
      have hi : ((i + 1 : Nat) : Int) = (i : Int) + 1 := by omega
      cases hr : (R i).1 with
      | true =>
        simp only [Bool.not_true, cond_false, cond_true]
        have := loop18 a b R hM hM2 hN hR n k (i + 1) s (by omega) (by omega)
        rw [hi] at this
        exact this
      | false =>
        simp only [Bool.not_false, cond_false, cond_true]
        by_cases hs : s < 0
        · rw [decide_eq_true hs]
          have := loop18 a b R hM hM2 hN hR n k (i + 1) (i : Int) (by omega) (by omega)
          rw [hi] at this
          exact this
        · rw [decide_eq_false hs]
          have := loop18 a b R hM hM2 hN hR n k (i + 1) s (by omega) (by omega)
          rw [hi] at this
          exact this
    · rw [decide_eq_false he]
      refine ⟨_, rfl, ?_, fun _ => rfl⟩
      show some _ = _
      rw [if_neg he]
theorem all17_in (a : Nat → Int) (b : Sl × Sl) : ∀ n, all17 a b n = true
  | 0 => rfl
  | n + 1 => by
    obtain ⟨r, h, _⟩ := stable_eq a (b.1.2 n) (tick17 b n)
    rw [all17, h, all17_in a b n]
    rfl
theorem R17 (a : Nat → Int) (b : Sl × Sl) : ∃ R : Nat → Bool × Int, ∀ j, f13 a (b.1.2 j) (tick17 b j) = some (R j) ∧ f14 a (b.1.2 j) (tick17 b j) = some (R j) := ⟨fun j => (f13 a (b.1.2 j) (tick17 b j)).getD (false, 0), fun j => by
  obtain ⟨r, h, h'⟩ := stable_eq a (b.1.2 j) (tick17 b j)
  show _ = some ((f13 a (b.1.2 j) (tick17 b j)).getD (false, 0)) ∧ _ = some ((f13 a (b.1.2 j) (tick17 b j)).getD (false, 0))
  rw [h, h']
  exact ⟨rfl, rfl⟩⟩
theorem first_cases (a : Nat → Int) (b : Sl × Sl) (hM : b.2.1 ≤ 20) (hN : b.1.1 ≤ 20) : (f17 a b = some (0, 2) ∧ f18 a b = some (0, 2)) ∨ (1 ≤ b.2.1 ∧ b.1.1 = b.2.1 + 1 ∧ f17 a b = g17 a b b.1.1 0 (-1) ∧
    f18 a b = Option.bind (iterL s18_0 (b.1.1 + 1) (st18 (-1) 0 a) (nthS [b.1, b.2])) fun r2 => cond (decide (r2.1 = 0)) (some (r2.2.1 0, 0)) (some (r2.2.1 0, r2.2.1 1))) := by
  have ew : IntKind.i64.wrap (Int.ofNat b.2.1 + 1) = (b.2.1 : Int) + 1 := w64 (by simp only [Int.ofNat_eq_natCast]; omega) (by simp only [Int.ofNat_eq_natCast]; omega)
  unfold f17 f18
  rw [ew]
  by_cases h1 : Int.ofNat b.2.1 < 1
  · left
    rw [decide_eq_true h1]
    exact ⟨rfl, rfl⟩
  · rw [decide_eq_false h1]
    by_cases h2 : Int.ofNat b.1.1 = (b.2.1 : Int) + 1
    · right
      simp only [Int.ofNat_eq_natCast] at h1 h2
      refine ⟨by omega, by omega, ?_, ?_⟩
      · rw [decide_eq_true (show Int.ofNat b.1.1 = (b.2.1 : Int) + 1 from h2), decide_eq_true (show Int.ofNat b.2.1 < 9223372036854775807 by simp only [Int.ofNat_eq_natCast]; omega), all17_in]
        rfl
      · rw [decide_eq_true (show Int.ofNat b.1.1 = (b.2.1 : Int) + 1 from h2)]
        rfl
    · left
      rw [decide_eq_false h2]
      exact ⟨rfl, rfl⟩
theorem first_eq (a : Nat → Int) (b : Sl × Sl) (hM : b.2.1 ≤ 20) (hN : b.1.1 ≤ 20) : ∃ r, f17 a b = some r ∧ f18 a b = some r := by
  rcases first_cases a b hM hN with h | ⟨h1, h2, h3, h4⟩
  · exact ⟨_, h⟩
  · obtain ⟨R, hR⟩ := R17 a b
    obtain ⟨v, hv, hl, hz⟩ := loop18 a b R h1 hM hN hR b.1.1 (b.1.1 + 1) 0 (-1) (by omega) (by omega)
    refine ⟨v, h3.trans hv, ?_⟩
    rw [h4, show iterL s18_0 (b.1.1 + 1) (st18 (-1) 0 a) (nthS [b.1, b.2]) = _ from hl]
    obtain ⟨v1, v2⟩ := v
    by_cases he : v2 = 0
    · rw [if_pos he]
      subst he
      rfl
    · rw [if_neg he]
      have := hz he
      subst this
      rfl
theorem lawFirst (a : Nat → Int) (b : Sl × Sl) : f5 a b = some true := by
  unfold f5
  rw [aw]
  by_cases h1 : 20 < Int.ofNat b.1.1
  · rw [decide_eq_true h1]
    rfl
  · rw [decide_eq_false h1]
    by_cases h2 : 20 < Int.ofNat b.2.1
    · rw [decide_eq_true h2]
      rfl
    · rw [decide_eq_false h2]
      simp only [Int.ofNat_eq_natCast] at h1 h2
      obtain ⟨r, h3, h4⟩ := first_eq a b (by omega) (by omega)
      rw [h3, h4]
      simp -implicitDefEqProofs only [Option.bind_some, decide_true, cond_true, cond_false]
/-! ### Ticks -/
theorem fstN_facts (ok : Nat → Bool) : ∀ n, (fstN ok n = -1 ∧ ∀ i, i < n → ok i = true) ∨ (∃ k, k < n ∧ fstN ok n = (k : Int) ∧ ok k = false ∧ ∀ i, i < k → ok i = true)
  | 0 => .inl ⟨rfl, fun i h => by omega⟩
  | n + 1 => by
    rw [fstN]
    rcases fstN_facts ok n with ⟨h1, h2⟩ | ⟨k, h0, h1, h2, h3⟩
    · cases ho : ok n with
      | true =>
        left
        refine ⟨h1, fun i hi => ?_⟩
        by_cases e : i = n
        · rw [e, ho]
        · exact h2 i (by omega)
      | false =>
        right
        rw [h1]
        exact ⟨n, by omega, rfl, ho, h2⟩
    · right
      refine ⟨k, by omega, ?_, h2, h3⟩
      rw [h1, decide_eq_false (show ¬ (k : Int) < 0 by omega)]
      cases ok n <;> rfl
theorem g17_inv {a : Nat → Int} {b : Sl × Sl} {R : Nat → Bool × Int} (hR : ∀ j, f13 a (b.1.2 j) (tick17 b j) = some (R j)) : ∀ n k s v, g17 a b n k s = some v → v.2 = 0 → s = fstN (fun j => (R j).1) k → (∀ j, k ≤ j → j < k + n → (R j).2 = 0) ∧ v.1 = fstN (fun j => (R j).1) (k + n)
  | 0, k, s, v, h, h1, h2 => by
    rw [g17] at h
    cases h
    exact ⟨fun j h3 h4 => by omega, h2⟩
  | n + 1, k, s, v, h, h1, h2 => by
    rw [g17, hR k] at h
    simp only [Option.bind_some] at h
    by_cases he : (R k).2 = 0
    · rw [decide_eq_true he] at h
      simp only [Bool.not_true, cond_false] at h
      obtain ⟨h3, h4⟩ := g17_inv hR n (k + 1) _ v h h1 (by rw [h2]; rfl)
      refine ⟨fun j h5 h6 => ?_, by rw [h4, show k + 1 + n = k + (n + 1) by omega]⟩
      by_cases e : j = k
      · rw [e, he]
      · exact h3 j (by omega) (by omega)
    · rw [decide_eq_false he] at h
      simp only [Bool.not_false, cond_true] at h
      cases h
      exact absurd h1 he
theorem step8 (rec : (Nat → Int) → (Nat → Sl) → Option LR) (s i : Int) (a : Nat → Int) (b : Sl × Sl) : s8_0 rec (st18 s i a) (nthS [b.1, b.2]) =
    cond (decide (i < Int.ofNat b.1.1)) (cond (decide (0 ≤ i)) (cond (decide (i < Int.ofNat b.1.1)) (cond (decide (0 ≤ ix18 i b)) (cond (decide (ix18 i b < Int.ofNat b.2.1))
      (Option.bind (f13 a (b.1.2 i.toNat) (b.2.2 (ix18 i b).toNat 0)) fun r3 => cond (!decide (r3.2 = 0)) (some (1, nthI [0], nthS [])) (
        cond (decide (i = s)) (cond r3.1 (some (1, nthI [0], nthS [])) (cond (decide (s < 0)) (cond (!r3.1) (some (1, nthI [0], nthS [])) (rec (st18 s (IntKind.i64.wrap (i + 1)) a) (nthS [b.1, b.2]))) (cond (decide (i < s)) (cond (!r3.1) (some (1, nthI [0], nthS [])) (rec (st18 s (IntKind.i64.wrap (i + 1)) a) (nthS [b.1, b.2]))) (rec (st18 s (IntKind.i64.wrap (i + 1)) a) (nthS [b.1, b.2])))))
        (cond (decide (s < 0)) (cond (!r3.1) (some (1, nthI [0], nthS [])) (rec (st18 s (IntKind.i64.wrap (i + 1)) a) (nthS [b.1, b.2]))) (cond (decide (i < s)) (cond (!r3.1) (some (1, nthI [0], nthS [])) (rec (st18 s (IntKind.i64.wrap (i + 1)) a) (nthS [b.1, b.2]))) (rec (st18 s (IntKind.i64.wrap (i + 1)) a) (nthS [b.1, b.2]))))))
      none) none) none) none) (some (0, nthI [], nthS [])) := by
  rw [← f13_eta a]
  rfl
theorem loop8 (a : Nat → Int) (b : Sl × Sl) (R : Nat → Bool × Int) (s : Int) (hM : 1 ≤ b.2.1) (hM2 : b.2.1 ≤ 20) (hN : b.1.1 ≤ 20) (hR : ∀ j, f13 a (b.1.2 j) (tick17 b j) = some (R j)) (he : ∀ j, j < b.1.1 → (R j).2 = 0)
    (h1 : ∀ j : Nat, (j : Int) = s → (R j).1 = false) (h2 : ∀ j : Nat, j < b.1.1 → (s < 0 ∨ (j : Int) < s) → (R j).1 = true) : ∀ (n k i : Nat), n < k → i + n = b.1.1 → iterL s8_0 k (st18 s (i : Int) a) (nthS [b.1, b.2]) = some (0, nthI [], nthS [])
  | _, 0, _, h, _ => by omega
  | 0, k + 1, i, h, h3 => by
    rw [iterL, step8, decide_eq_false (show ¬ (i : Int) < Int.ofNat b.1.1 by simp only [Int.ofNat_eq_natCast]; omega)]
    rfl
  | n + 1, k + 1, i, h, h3 => by
    have hlt : (i : Int) < Int.ofNat b.1.1 := by simp only [Int.ofNat_eq_natCast]; omega
    have hix : ix18 (i : Int) b = ((min i (b.2.1 - 1) : Nat) : Int) := ix_eq hM hM2
    have hi : ((i + 1 : Nat) : Int) = (i : Int) + 1 := by omega
    have hrec := loop8 a b R s hM hM2 hN hR he h1 h2 n k (i + 1) (by omega) (by omega)
    rw [hi] at hrec
    rw [iterL, step8, decide_eq_true hlt, decide_eq_true (show (0 : Int) ≤ i by omega), hix, decide_eq_true (show (0 : Int) ≤ ((min i (b.2.1 - 1) : Nat) : Int) by omega), decide_eq_true (show ((min i (b.2.1 - 1) : Nat) : Int) < Int.ofNat b.2.1 by simp only [Int.ofNat_eq_natCast]; omega), w64 (n := (i : Int) + 1) (by omega) (by omega)]
    simp only [cond_true, Int.toNat_natCast]
    rw [show b.2.2 (min i (b.2.1 - 1)) 0 = tick17 b i from rfl, hR i, hrec]
    simp only [Option.bind_some, he i (by omega), decide_true, Bool.not_true, cond_false]
    have g1 := h1 i
    have g2 := h2 i (by omega)
    by_cases e : (i : Int) = s
    · rw [g1 e, decide_eq_true e, decide_eq_false (show ¬ s < 0 by omega), decide_eq_false (show ¬ (i : Int) < s by omega)]
      rfl
    · rw [decide_eq_false e]
      by_cases e2 : s < 0
      · rw [decide_eq_true e2, g2 (.inl e2)]
        rfl
      · rw [decide_eq_false e2]
        by_cases e3 : (i : Int) < s
        · rw [decide_eq_true e3, g2 (.inr e3)]
          rfl
        · rw [decide_eq_false e3]
          rfl
theorem lawTicks (a : Nat → Int) (b : Sl × Sl) : f8 a b = some true := by
  unfold f8
  rw [aw]
  by_cases h1 : 20 < Int.ofNat b.1.1
  · rw [decide_eq_true h1]
    rfl
  · rw [decide_eq_false h1]
    by_cases h2 : 20 < Int.ofNat b.2.1
    · rw [decide_eq_true h2]
      rfl
    · rw [decide_eq_false h2]
      simp only [Int.ofNat_eq_natCast] at h1 h2
      rcases first_cases a b (by omega) (by omega) with h | ⟨h3, h4, h5, h6⟩
      · rw [h.1]
        rfl
      · obtain ⟨R, hR⟩ := R17 a b
        obtain ⟨v, hv, hl, hz⟩ := loop18 a b R h3 (by omega) (by omega) hR b.1.1 (b.1.1 + 1) 0 (-1) (by omega) (by omega)
        rw [h5, hv]
        simp only [Option.bind_some, cond_false]
        by_cases he : v.2 = 0
        · rw [decide_eq_true he]
          simp only [Bool.not_true, cond_false]
          obtain ⟨g1, g2⟩ := g17_inv (fun j => (hR j).1) b.1.1 0 (-1) v hv he rfl
          rw [Nat.zero_add] at g1 g2
          have hf := fstN_facts (fun j => (R j).1) b.1.1
          have hb : -1 ≤ v.1 ∧ v.1 < b.1.1 := by
            rcases hf with ⟨k1, _⟩ | ⟨k, k0, k1, _⟩ <;> rw [g2, k1] <;> omega
          have hl8 : l8_0 (st18 v.1 0 a) (nthS [b.1, b.2]) = some (0, nthI [], nthS []) := by
            refine loop8 a b R v.1 h3 (by omega) (by omega) (fun j => (hR j).1) (fun j hj => g1 j (by omega) hj) ?_ ?_ b.1.1 _ 0 (by show _ < b.1.1 + 1; omega) (by omega)
            · intro j hj
              rcases hf with ⟨k1, _⟩ | ⟨k, k0, k1, k2, _⟩
              · rw [g2, k1] at hj; omega
              · rw [g2, k1] at hj
                obtain rfl : j = k := by omega
                exact k2
            · intro j hj h
              rcases hf with ⟨k1, k2⟩ | ⟨k, k0, k1, k2, k3⟩
              · exact k2 j hj
              · rw [g2, k1] at h
                exact k3 j (by omega)
          rw [decide_eq_false (show ¬ v.1 < -1 by omega), decide_eq_false (show ¬ Int.ofNat b.1.1 ≤ v.1 by simp only [Int.ofNat_eq_natCast]; omega), decide_eq_false (show ¬ Int.ofNat b.2.1 < 1 by simp only [Int.ofNat_eq_natCast]; omega), show l8_0 _ (nthS [b.1, b.2]) = _ from hl8]
          rfl
        · rw [decide_eq_false he, hz he]
          rfl

end Go.Proofs.YtggiamcgkiaicaaDoor
