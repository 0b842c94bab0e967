/-
  THE PLAIN LAWS: what the contracts compute answers as the statements say.
-/
import Derived.Test.YtggiamcgkiaicaaDoorLd
open Go Go.VE Go.Proofs
set_option maxRecDepth 1000000
set_option maxHeartbeats 0
set_option linter.unusedVariables false
set_option linter.unusedSimpArgs false
namespace Go.Proofs.YtggiamcgkiaicaaDoor
noncomputable def stI (a p : Nat → Int) (c : Int) : Bool := bif decide (c = 0) then true else abv a p c (a 9)
theorem foot9 {a : Nat → Int} (ha : okB a) : 20 ≤ a 9 ∧ a 9 ≤ 300 := by
  obtain ⟨h0, h1, h2, h3, h4, h5, h6, h7, h8, h9, _⟩ := ha
  exact h9
theorem stable_in {a p : Nat → Int} {c : Int} (h : okA a p c) : f13 a p c = some (stI a p c, 0) ∧ f14 a p c = some (stI a p c, 0) := by
  have hf := foot9 h.1
  have h1 := above_in h (r := a 9) (by omega)
  have h2 := rabove_in h (r := a 9) (by omega)
  have h3 := of_in h.1 h.2.1 h.2.2
  have h4 := rof_in h.1 h.2.1 h.2.2
  unfold f13 f14 stI
  rw [h3, h4, h2]
  simp -implicitDefEqProofs only [Option.bind_some, decide_true, Bool.not_true, cond_false]
  rw [h1]
  cases decide (c = 0) <;> exact ⟨rfl, rfl⟩
theorem stable_out {a p : Nat → Int} {c : Int} (h : ¬ okA a p c) : ∃ e, e ≠ 0 ∧ f13 a p c = some (false, e) ∧ f14 a p c = some (false, e) := by
  obtain ⟨e, z, he, h1, _⟩ := of_out h
  refine ⟨e, he, ?_, ?_⟩
  · unfold f13
    rw [h1]
    simp -implicitDefEqProofs only [Option.bind_some, he, decide_false, Bool.not_false, cond_true]
  · unfold f14
    rw [rof_eq, h1]
    simp -implicitDefEqProofs only [Option.bind_some, he, decide_false, Bool.not_false, cond_true]
theorem stable_eq (a p : Nat → Int) (c : Int) : ∃ r, f13 a p c = some r ∧ f14 a p c = some r := by
  by_cases h : okA a p c
  · exact ⟨_, stable_in h⟩
  · obtain ⟨e, _, h1, h2⟩ := stable_out h
    exact ⟨_, h1, h2⟩
/-! ### The least radius -/
def findR (f : Int → Bool) : Nat → Int → Option Int
  | 0, _ => none
  | n + 1, r => bif f r then some r else findR f n (r + 1)
theorem findR_some {f : Int → Bool} : ∀ {n : Nat} {r k : Int}, findR f n r = some k → r ≤ k ∧ k < r + n ∧ f k = true ∧ ∀ j, r ≤ j → j < k → f j = false
  | 0, _, _, h => by cases h
  | n + 1, r, k, h => by
    unfold findR at h
    cases hf : f r with
    | true =>
      rw [hf, cond_true] at h
      cases h
      exact ⟨Int.le_refl _, by omega, hf, fun j h1 h2 => by omega⟩
    | false =>
      rw [hf, cond_false] at h
      obtain ⟨h1, h2, h3, h4⟩ := findR_some h
      refine ⟨by omega, by omega, h3, fun j h5 h6 => ?_⟩
      by_cases e : j = r
      · rw [e, hf]
      · exact h4 j (by omega) h6
theorem findR_none {f : Int → Bool} : ∀ {n : Nat} {r : Int}, findR f n r = none → ∀ j, r ≤ j → j < r + n → f j = false
  | 0, _, _, j, _, _ => by omega
  | n + 1, r, h, j, h1, h2 => by
    unfold findR at h
    cases hf : f r with
    | true => rw [hf, cond_true] at h; cases h
    | false =>
      rw [hf, cond_false] at h
      by_cases e : j = r
      · rw [e, hf]
      · exact findR_none h j (by omega) (by omega)
theorem findR_congr {f g : Int → Bool} : ∀ {n : Nat} {r : Int}, (∀ j, r ≤ j → j < r + n → f j = g j) → findR f n r = findR g n r
  | 0, _, _ => rfl
  | n + 1, r, h => by
    unfold findR
    rw [h r (Int.le_refl _) (by omega), findR_congr (n := n) (r := r + 1) fun j h1 h2 => h j (by omega) (by omega)]
theorem f33_eta (a j : Nat → Int) (c r : Int) : f33 (nthI [a 0, a 1, a 2, a 3, a 4, a 5, a 6, a 7, a 8, a 9, a 10, a 11, a 12, a 13, a 14]) (nthI [j 0, j 1, j 2, j 3, j 4, j 5, j 6, j 7, j 8, j 9, j 10, j 11, j 12, j 13, j 14, j 15, j 16, j 17, j 18, j 19, j 20, j 21, j 22, j 23, j 24, j 25, j 26, j 27, j 28, j 29, j 30, j 31, j 32]) c r = f33 a j c r := by kernel_rfl
theorem f34_eta (a p : Nat → Int) (c r : Int) : f34 (nthI [a 0, a 1, a 2, a 3, a 4, a 5, a 6, a 7, a 8, a 9, a 10, a 11, a 12, a 13, a 14]) (nthI [p 0, p 1, p 2, p 3, p 4, p 5, p 6, p 7, p 8, p 9, p 10, p 11, p 12, p 13, p 14, p 15, p 16, p 17, p 18, p 19, p 20, p 21]) c r = f34 a p c r := by kernel_rfl
abbrev st15 (c n r : Int) (a j : Nat → Int) : Nat → Int := nthI [c, n, r, a 0, a 1, a 2, a 3, a 4, a 5, a 6, a 7, a 8, a 9, a 10, a 11, a 12, a 13, a 14, j 0, j 1, j 2, j 3, j 4, j 5, j 6, j 7, j 8, j 9, j 10, j 11, j 12, j 13, j 14, j 15, j 16, j 17, j 18, j 19, j 20, j 21, j 22, j 23, j 24, j 25, j 26, j 27, j 28, j 29, j 30, j 31, j 32]
theorem step15 (rec : (Nat → Int) → (Nat → Sl) → Option LR) (c n r : Int) (a j : Nat → Int) : s15_0 rec (st15 c n r a j) (nthS []) = cond (decide (r < n)) (Option.bind (f33 a j c r) fun r3 => cond r3 (some (1, nthI [IntKind.i64.wrap (a 9 - r), 0], nthS [])) (rec (st15 c n (IntKind.i64.wrap (r + 1)) a j) (nthS []))) (some (0, nthI [], nthS [])) := by
  rw [← f33_eta a j c r]
  rfl
theorem loop15 (a j : Nat → Int) (c : Int) (f : Int → Bool) (hb : 0 ≤ a 9 ∧ a 9 ≤ 300) (hf : ∀ r, 0 ≤ r → r ≤ a 9 → f33 a j c r = some (f r)) : ∀ (n k : Nat) (r : Int), n < k → 0 ≤ r → r + n = a 9 + 1 → iterL s15_0 k (st15 c (a 9 + 1) r a j) (nthS []) = match findR f n r with | some x => some (1, nthI [a 9 - x, 0], nthS []) | none => some (0, nthI [], nthS [])
  | _, 0, _, h, _, _ => by omega
  | 0, k + 1, r, h, h1, h2 => by
    rw [iterL, step15, decide_eq_false (show ¬ r < a 9 + 1 by omega)]
    rfl
  | n + 1, k + 1, r, h, h1, h2 => by
    rw [iterL, step15, decide_eq_true (show r < a 9 + 1 by omega), cond_true, hf r h1 (by omega), w64 (n := a 9 - r) (by omega) (by omega), w64 (n := r + 1) (by omega) (by omega)]
    unfold findR
    cases f r with
    | true => rfl
    | false =>
      have := loop15 a j c f hb hf n k (r + 1) (by omega) (by omega) (by omega)
      simp only [Option.bind_some, cond_false]
      exact this
abbrev st16 (c r : Int) (a p : Nat → Int) : Nat → Int := nthI [c, r, a 0, a 1, a 2, a 3, a 4, a 5, a 6, a 7, a 8, a 9, a 10, a 11, a 12, a 13, a 14, p 0, p 1, p 2, p 3, p 4, p 5, p 6, p 7, p 8, p 9, p 10, p 11, p 12, p 13, p 14, p 15, p 16, p 17, p 18, p 19, p 20, p 21]
theorem step16 (rec : (Nat → Int) → (Nat → Sl) → Option LR) (c r : Int) (a p : Nat → Int) : s16_0 rec (st16 c r a p) (nthS []) = Option.bind (f34 a p c (IntKind.i64.wrap (a 9 - r))) fun r3 => cond (!r3) (rec (st16 c (IntKind.i64.wrap (r - 1)) a p) (nthS [])) (some (0, nthI [r], nthS [])) := by
  rw [← f34_eta a p c]
  rfl
theorem loop16 (a p : Nat → Int) (c : Int) (f : Int → Bool) (hb : 0 ≤ a 9 ∧ a 9 ≤ 300) (hf : ∀ r, 0 ≤ r → r ≤ a 9 → f34 a p c r = some (f r)) : ∀ (n k : Nat) (r x : Int), n ≤ k → 0 ≤ r → r + n = a 9 + 1 → findR f n r = some x → iterL s16_0 k (st16 c (a 9 - r) a p) (nthS []) = some (0, nthI [a 9 - x], nthS [])
  | 0, k, r, x, h, h1, h2, h3 => by cases h3
  | n + 1, 0, r, x, h, h1, h2, h3 => by omega
  | n + 1, k + 1, r, x, h, h1, h2, h3 => by
    rw [iterL, step16, w64 (n := a 9 - (a 9 - r)) (by omega) (by omega), show a 9 - (a 9 - r) = r by omega, hf r h1 (by omega), w64 (n := a 9 - r - 1) (by omega) (by omega), show a 9 - r - 1 = a 9 - (r + 1) by omega]
    unfold findR at h3
    cases hr : f r with
    | true =>
      rw [hr, cond_true] at h3
      cases h3
      rfl
    | false =>
      rw [hr, cond_false] at h3
      simp only [Option.bind_some, Bool.not_false, cond_true]
      exact loop16 a p c f hb hf n k (r + 1) x (by omega) (by omega) (by omega) h3
/-! A greater radius -/
theorem sq_mono {r s : Int} (h : 0 ≤ r ∧ r ≤ s) : r * r ≤ s * s := Int.mul_le_mul h.2 h.2 h.1 (by omega)
theorem sqI_nonneg (px py ax ay : Int) : 0 ≤ sqI px py ax ay := by
  have h : ∀ x : Int, 0 ≤ x * x := fun x => by
    rcases Int.le_total 0 x with h | h
    · exact Int.mul_nonneg h h
    · exact Int.mul_nonneg_of_nonpos_of_nonpos h h
  have := h (px - ax)
  have := h (py - ay)
  simp only [sqI]
  omega
theorem nr_mono {px py ax ay bx b1 r s : Int} (h : 0 ≤ r ∧ r ≤ s) (hn : nr px py ax ay bx b1 r = true) : nr px py ax ay bx b1 s = true := by
  have hs := sq_mono h
  unfold nr at hn ⊢
  cases h1 : decide (dotI px py ax ay bx b1 ≤ 0)
  · rw [h1, cond_false] at hn
    rw [cond_false]
    cases h2 : decide (sqI bx b1 ax ay ≤ dotI px py ax ay bx b1)
    · rw [h2, cond_false] at hn
      rw [cond_false]
      have := of_decide_eq_true hn
      have h3 : r * r * sqI bx b1 ax ay ≤ s * s * sqI bx b1 ax ay := Int.mul_le_mul_of_nonneg_right hs (sqI_nonneg _ _ _ _)
      exact decide_eq_true (Int.le_trans this h3)
    · rw [h2, cond_true] at hn
      rw [cond_true]
      exact decide_eq_true (Int.le_trans (of_decide_eq_true hn) hs)
  · rw [h1, cond_true] at hn
    rw [cond_true]
    exact decide_eq_true (Int.le_trans (of_decide_eq_true hn) hs)
noncomputable def mgF (a p : Nat → Int) (c : Int) : Option Int := findR (abv a p c) (a 9 + 1).toNat 0
noncomputable def mgI (a p : Nat → Int) (c : Int) : Int × Int := match mgF a p c with
  | some x => (a 9 - x, 0)
  | none => (0, 27)
theorem mg_stable {a p : Nat → Int} {c : Int} (h : okA a p c) : (mgF a p c).isSome = abv a p c (a 9) := by
  have hf := foot9 h.1
  have ht : ((a 9 + 1).toNat : Int) = a 9 + 1 := by omega
  unfold mgF
  cases hm : findR (abv a p c) (a 9 + 1).toNat 0 with
  | none => exact (findR_none hm (a 9) (by omega) (by omega)).symm
  | some x =>
    obtain ⟨h1, h2, h3, _⟩ := findR_some hm
    exact (nr_mono (r := x) (s := a 9) ⟨h1, by omega⟩ h3).symm
theorem margin_in {a p : Nat → Int} {c : Int} (h : okA a p c) (hc : c ≠ 0) : f15 a p c = some (mgI a p c) ∧ f16 a p c = some (mgI a p c) := by
  have hf := foot9 h.1
  have hst := stable_in h
  have hms := mg_stable h
  have ht : ((a 9 + 1).toNat : Int) = a 9 + 1 := by omega
  have h3 := of_in h.1 h.2.1 h.2.2
  constructor
  · unfold f15
    rw [h3]
    simp -implicitDefEqProofs only [Option.bind_some, decide_true, Bool.not_true, cond_false, hc, decide_false]
    have hl : l15_0 (st15 c (IntKind.i64.wrap (a 9 + 1)) 0 a (J a p c)) (nthS []) = match mgF a p c with | some x => some (1, nthI [a 9 - x, 0], nthS []) | none => some (0, nthI [], nthS []) := by
      rw [w64 (by omega) (by omega)]
      exact loop15 a (J a p c) c (abv a p c) (by omega) (fun r h1 h2 => above_in h (by omega)) (a 9 + 1).toNat _ 0 (by show _ < (a 9 + 1).toNat + 1; omega) (by omega) (by omega)
    rw [show l15_0 _ (nthS []) = _ from hl]
    unfold mgI
    cases mgF a p c <;> rfl
  · unfold f16
    rw [hst.2]
    simp -implicitDefEqProofs only [Option.bind_some, decide_true, Bool.not_true, cond_false, hc, decide_false]
    have hs : stI a p c = abv a p c (a 9) := by unfold stI; rw [decide_eq_false hc]; rfl
    rw [hs, ← hms]
    unfold mgI
    cases hm : mgF a p c with
    | none => rfl
    | some x =>
      have := loop16 a p c (abv a p c) (by omega) (fun r h1 h2 => rabove_in h (by omega)) (a 9 + 1).toNat ((a 9).toNat + 1) 0 x (by omega) (by omega) (by omega) hm
      rw [Int.sub_zero] at this
      simp only [Option.isSome_some, Bool.not_true, cond_false]
      rw [show l16_0 _ (nthS []) = _ from this]
      rfl
theorem margin_air {a p : Nat → Int} (h : okA a p 0) : f15 a p 0 = some (0, 28) ∧ f16 a p 0 = some (0, 28) := by
  have hst := stable_in h
  have h3 := of_in h.1 h.2.1 h.2.2
  unfold f15 f16
  rw [h3, hst.2]
  exact ⟨rfl, rfl⟩
theorem margin_out {a p : Nat → Int} {c : Int} (h : ¬ okA a p c) : ∃ e, e ≠ 0 ∧ f15 a p c = some (0, e) ∧ f16 a p c = some (0, e) := by
  obtain ⟨e, z, he, h1, _⟩ := of_out h
  refine ⟨e, he, ?_, ?_⟩
  · unfold f15
    rw [h1]
    simp -implicitDefEqProofs only [Option.bind_some, he, decide_false, Bool.not_false, cond_true]
  · unfold f16 f14
    rw [rof_eq, h1]
    simp -implicitDefEqProofs only [Option.bind_some, he, decide_false, Bool.not_false, cond_true]
theorem margin_eq (a p : Nat → Int) (c : Int) : ∃ r, f15 a p c = some r ∧ f16 a p c = some r := by
  by_cases h : okA a p c
  · by_cases hc : c = 0
    · subst hc; exact ⟨_, margin_air h⟩
    · exact ⟨_, margin_in h hc⟩
  · obtain ⟨e, _, h1, h2⟩ := margin_out h
    exact ⟨_, h1, h2⟩
theorem lawStable (a b : Nat → Int) (c : Int) : f4 a b c = some true := by
  obtain ⟨r, h1, h2⟩ := stable_eq a b c
  obtain ⟨s, h3, h4⟩ := margin_eq a b c
  unfold f4
  rw [h1, h2, h3, h4, aw]
  simp -implicitDefEqProofs only [Option.bind_some, decide_true, cond_true, beq_self_eq_true]

end Go.Proofs.YtggiamcgkiaicaaDoor
