/-
  THE PLAIN LAWS of chapter 16: what the contracts compute answers true.
-/
import Derived.Test.YtghmaghmkhpaaaaDoorVEp
import Derived.Test.YtghmaghmkhpaaaaDoorF
open Go Go.VE Go.Proofs
set_option maxRecDepth 1000000
set_option linter.unusedVariables false
set_option linter.unusedSimpArgs false
namespace Go.Proofs.YtghmaghmkhpaaaaDoor

theorem v_out {a : Int} (h : ¬ (0 ≤ a ∧ a ≤ 8)) : f27 a = some false := by
  unfold f27
  by_cases h1 : 0 ≤ a
  · have : ¬ a ≤ 8 := fun h2 => h ⟨h1, h2⟩
    simp [h1, this]
  · simp [h1]
theorem v_in {a : Int} (h : 0 ≤ a ∧ a ≤ 8) : f27 a = some true := by
  unfold f27
  simp [h.1, h.2]
theorem f28_eq (a : Int) : f28 a = f27 a := rfl
theorem f16_eq (a b : Int) : f16 a b = f15 a b := rfl

theorem f15_in {a b : Int} (h : 0 ≤ a ∧ a ≤ 8) (hb : -1 ≤ b ∧ b ≤ 1) : f15 a b = some 0 := by
  have h1 : ¬ b < -1 := by omega
  have h2 : ¬ 1 < b := by omega
  simp [f15, v_in h, h1, h2]
theorem f15_out {a b : Int} (h : ¬ ((0 ≤ a ∧ a ≤ 8) ∧ (-1 ≤ b ∧ b ≤ 1))) : f15 a b = some 1 := by
  by_cases ha : 0 ≤ a ∧ a ≤ 8
  · by_cases h1 : b < -1
    · simp [f15, v_in ha, h1]
    · by_cases h2 : 1 < b
      · simp [f15, v_in ha, h1, h2]
      · exact absurd ⟨ha, by omega, by omega⟩ h
  · simp [f15, v_out ha]
theorem f15_some (a b : Int) : ∃ r, f15 a b = some r := by
  by_cases h : (0 ≤ a ∧ a ≤ 8) ∧ (-1 ≤ b ∧ b ≤ 1)
  · exact ⟨_, f15_in h.1 h.2⟩
  · exact ⟨_, f15_out h⟩

/-! DirChecks -/
theorem f3_red (a b : Int) : f3 a b = Option.bind (f11 a) fun r2 => Option.bind (f12 a) fun r3 => Option.bind (f13 a) fun r4 => Option.bind (f14 a) fun r5 =>
    cond (decide (r2.1 = r3.1)) (cond (decide (r2.2 = r3.2)) (cond (decide (r4.1 = r5.1)) (cond (decide (r4.2 = r5.2)) (some true) (some false)) (some false)) (some false)) (some false) := by
  obtain ⟨r, hr⟩ := f15_some a b
  simp [f3, f16_eq, hr]
theorem law3_in : rng 0 (fun a => isT (f3 a 0)) 9 = true := by kernel_rfl
theorem law3 (a b : Int) : f3 a b = some true := by
  by_cases h : 0 ≤ a ∧ a ≤ 8
  · have := isT_eq (rng_get law3_in a h.1 (by omega))
    rw [f3_red] at this ⊢
    exact this
  · simp [f3_red, f11, f12, f13, f14, f28_eq, v_out h]

/-! DirRotates -/
theorem f18_mod (a b : Int) : f18 a b = f18 a (b.tmod 8) := by
  unfold f18
  rw [Int.tmod_tmod]
theorem f19_mod (a b : Int) : f19 a b = f19 a (b.tmod 8) := by
  unfold f19
  rw [Int.tmod_tmod]
theorem f18_out {a b : Int} (h : ¬ (0 ≤ a ∧ a ≤ 8)) : f18 a b = some (0, 1) := by simp [f18, v_out h]
theorem law4_in : rng 0 (fun a => rng (-7) (fun m => isT (f4 a m)) 15) 9 = true := by kernel_rfl
theorem law4 (a b : Int) : f4 a b = some true := by
  by_cases h : 0 ≤ a ∧ a ≤ 8
  · have hm : -8 < b.tmod 8 ∧ b.tmod 8 < 8 := tmod_bounds b 8 (by omega)
    have := isT_eq (rng_get (rng_get law4_in a h.1 (by omega)) (b.tmod 8) (by omega) (by omega))
    unfold f4 at this ⊢
    rw [f18_mod, f19_mod]
    exact this
  · simp [f4, f18_out h, f19, f28_eq, v_out h]

/-! DirNames -/
theorem law5_in : rng 0 (fun a => rng (-1) (fun m => isT (f5 a m)) 3) 9 = true := by kernel_rfl
theorem strEq_self (x : ByteArray) : strEq x x = true := by simp [strEq]
theorem f20_out {a b : Int} (h : ¬ ((0 ≤ a ∧ a ≤ 8) ∧ (-1 ≤ b ∧ b ≤ 1))) : f20 a b = some (bs [], 1) := by simp [f20, f15_out h]
theorem law5 (a b : Int) : f5 a b = some true := by
  by_cases h : (0 ≤ a ∧ a ≤ 8) ∧ (-1 ≤ b ∧ b ≤ 1)
  · exact isT_eq (rng_get (rng_get law5_in a h.1.1 (by omega)) b (by omega) (by omega))
  · simp [f5, f20_out h, f21, f16_eq, f15_out h, strEq_self]

/-! DirParses -/
def chain : List (ByteArray × Int × Int) → ByteArray → Option (Int × Int × Int)
  | [], _ => some (0, 0, 8)
  | (l, x, y) :: r, s => cond (strEq l s) (some (x, y, 0)) (chain r s)
def words : List (ByteArray × Int × Int) := [
  (bs [112, 108, 97, 99, 101, 45, 108, 111, 119], 0, -1),
  (bs [112, 108, 97, 99, 101, 45, 109, 105, 100, 100, 108, 101], 0, 0),
  (bs [112, 108, 97, 99, 101, 45, 104, 105, 103, 104], 0, 1),
  (bs [102, 111, 114, 119, 97, 114, 100, 45, 108, 111, 119], 1, -1),
  (bs [102, 111, 114, 119, 97, 114, 100, 45, 109, 105, 100, 100, 108, 101], 1, 0),
  (bs [102, 111, 114, 119, 97, 114, 100, 45, 104, 105, 103, 104], 1, 1),
  (bs [102, 111, 114, 119, 97, 114, 100, 45, 114, 105, 103, 104, 116, 45, 108, 111, 119], 2, -1),
  (bs [102, 111, 114, 119, 97, 114, 100, 45, 114, 105, 103, 104, 116, 45, 109, 105, 100, 100, 108, 101], 2, 0),
  (bs [102, 111, 114, 119, 97, 114, 100, 45, 114, 105, 103, 104, 116, 45, 104, 105, 103, 104], 2, 1),
  (bs [114, 105, 103, 104, 116, 45, 108, 111, 119], 3, -1),
  (bs [114, 105, 103, 104, 116, 45, 109, 105, 100, 100, 108, 101], 3, 0),
  (bs [114, 105, 103, 104, 116, 45, 104, 105, 103, 104], 3, 1),
  (bs [98, 97, 99, 107, 45, 114, 105, 103, 104, 116, 45, 108, 111, 119], 4, -1),
  (bs [98, 97, 99, 107, 45, 114, 105, 103, 104, 116, 45, 109, 105, 100, 100, 108, 101], 4, 0),
  (bs [98, 97, 99, 107, 45, 114, 105, 103, 104, 116, 45, 104, 105, 103, 104], 4, 1),
  (bs [98, 97, 99, 107, 45, 108, 111, 119], 5, -1),
  (bs [98, 97, 99, 107, 45, 109, 105, 100, 100, 108, 101], 5, 0),
  (bs [98, 97, 99, 107, 45, 104, 105, 103, 104], 5, 1),
  (bs [98, 97, 99, 107, 45, 108, 101, 102, 116, 45, 108, 111, 119], 6, -1),
  (bs [98, 97, 99, 107, 45, 108, 101, 102, 116, 45, 109, 105, 100, 100, 108, 101], 6, 0),
  (bs [98, 97, 99, 107, 45, 108, 101, 102, 116, 45, 104, 105, 103, 104], 6, 1),
  (bs [108, 101, 102, 116, 45, 108, 111, 119], 7, -1),
  (bs [108, 101, 102, 116, 45, 109, 105, 100, 100, 108, 101], 7, 0),
  (bs [108, 101, 102, 116, 45, 104, 105, 103, 104], 7, 1),
  (bs [102, 111, 114, 119, 97, 114, 100, 45, 108, 101, 102, 116, 45, 108, 111, 119], 8, -1),
  (bs [102, 111, 114, 119, 97, 114, 100, 45, 108, 101, 102, 116, 45, 109, 105, 100, 100, 108, 101], 8, 0),
  (bs [102, 111, 114, 119, 97, 114, 100, 45, 108, 101, 102, 116, 45, 104, 105, 103, 104], 8, 1)]
theorem f22_chain (s : ByteArray) : f22 s = chain words s := by kernel_rfl
theorem f23_eq (s : ByteArray) : f23 s = f22 s := by kernel_rfl
theorem chain_cases (s : ByteArray) : ∀ l : List (ByteArray × Int × Int), chain l s = some (0, 0, 8) ∨ ∃ w, w ∈ l ∧ strEq w.1 s = true ∧ chain l s = some (w.2.1, w.2.2, 0)
  | [] => .inl rfl
  | (l, x, y) :: r => by
    cases h : strEq l s with
    | true => exact .inr ⟨_, List.mem_cons_self .., h, by simp [chain, h]⟩
    | false =>
      rcases chain_cases s r with h1 | ⟨w, h1, h2, h3⟩
      · exact .inl (by simp [chain, h, h1])
      · exact .inr ⟨w, List.mem_cons_of_mem _ h1, h2, by simp [chain, h, h3]⟩
theorem law6 (s : ByteArray) : f6 s = some true := by
  have h : ∃ r, f22 s = some r := by
    rw [f22_chain]
    rcases chain_cases s words with h | ⟨w, _, _, h⟩ <;> exact ⟨_, h⟩
  obtain ⟨r, hr⟩ := h
  simp [f6, f23_eq, hr]

/-! DirGroup -/
theorem f11_out {a : Int} (h : ¬ (0 ≤ a ∧ a ≤ 8)) : f11 a = some (0, 1) := by simp [f11, v_out h]
theorem f7_mod (a b c : Int) : f7 a b c = f7 a (b.tmod 8) (c.tmod 8) := by
  have e1 := f18_mod a b
  have e2 : ∀ x, f18 x c = f18 x (c.tmod 8) := fun x => f18_mod x c
  unfold f7
  simp only [Int.tmod_tmod, ← e1, ← e2]
theorem law7_in : rng 0 (fun a => rng (-7) (fun m => rng (-7) (fun n => isT (f7 a m n)) 15) 15) 9 = true := by kernel_rfl
theorem law7 (a b c : Int) : f7 a b c = some true := by
  by_cases h : 0 ≤ a ∧ a ≤ 8
  · have hm : -8 < b.tmod 8 ∧ b.tmod 8 < 8 := tmod_bounds b 8 (by omega)
    have hn : -8 < c.tmod 8 ∧ c.tmod 8 < 8 := tmod_bounds c 8 (by omega)
    rw [f7_mod]
    exact isT_eq (rng_get (rng_get (rng_get law7_in a h.1 (by omega)) (b.tmod 8) (by omega) (by omega)) (c.tmod 8) (by omega) (by omega))
  · have h' : a < 0 ∨ 8 < a := by omega
    by_cases h1 : a < 0
    · simp [f7, f18_out h, f11_out h, h1]
    · have h2 : 8 < a := by omega
      simp [f7, f18_out h, f11_out h, h1, h2]

/-! DirEighths -/
theorem f8_mod (a b : Int) : f8 a b = f8 a (b.tmod 8) := by
  unfold f8
  simp only [Int.tmod_tmod]
theorem f13_out {a : Int} (h : ¬ (0 ≤ a ∧ a ≤ 8)) : f13 a = some (0, 1) := by simp [f13, v_out h]
theorem law8_in : rng (-1) (fun a => rng (-7) (fun m => isT (f8 a m)) 15) 10 = true := by kernel_rfl
theorem law8 (a b : Int) : f8 a b = some true := by
  have hm : -8 < b.tmod 8 ∧ b.tmod 8 < 8 := tmod_bounds b 8 (by omega)
  rw [f8_mod]
  by_cases h : 0 ≤ a ∧ a ≤ 8
  · exact isT_eq (rng_get (rng_get law8_in a (by omega) (by omega)) (b.tmod 8) (by omega) (by omega))
  · have e : f8 a (b.tmod 8) = f8 (-1) (b.tmod 8) := by
      unfold f8
      rw [f13_out h, f13_out (a := -1) (by omega)]
      rfl
    rw [e]
    exact isT_eq (rng_get (rng_get law8_in (-1) (by omega) (by omega)) (b.tmod 8) (by omega) (by omega))

/-! DirBack -/
theorem back_in : rng 0 (fun a => rng (-1) (fun m => isT (Option.bind (f20 a m) fun r => Option.bind (f26 r.1 a m) fun x => some (decide (r.2 = 0) && x))) 3) 9 = true := by kernel_rfl
theorem words_in : words.all (fun w => isT (Option.bind (f20 w.2.1 w.2.2) fun r => some (decide (r.2 = 0) && strEq r.1 w.1))) = true := by kernel_rfl
theorem strEq_iff {x y : ByteArray} : strEq x y = true ↔ x.toList = y.toList := by simp [strEq]
theorem back_words (s : ByteArray) : f22 s = some (0, 0, 8) ∨ ∃ x y, f22 s = some (x, y, 0) ∧ f26 s x y = some true := by
  rw [f22_chain]
  rcases chain_cases s words with h | ⟨w, h1, h2, h3⟩
  · exact .inl h
  · refine .inr ⟨_, _, h3, ?_⟩
    have hw := isT_eq (List.all_eq_true.1 words_in w h1)
    cases hr : f20 w.2.1 w.2.2 with
    | none => simp [hr] at hw
    | some r =>
      simp [hr] at hw
      have e : strEq r.1 s = true := by
        rw [strEq_iff] at h2 ⊢
        rw [← h2]
        exact strEq_iff.1 hw.2
      simp [f26, hr, f22_chain, h3, e, hw.1]
theorem law9 (a b : Int) (c : ByteArray) : f9 a b c = some true := by
  by_cases h : (0 ≤ a ∧ a ≤ 8) ∧ (-1 ≤ b ∧ b ≤ 1)
  · have hi := isT_eq (rng_get (rng_get back_in a h.1.1 (by omega)) b (by omega) (by omega))
    cases hr : f20 a b with
    | none => simp [hr] at hi
    | some r =>
      cases hq : f26 r.1 a b with
      | none => simp [hr, hq] at hi
      | some q =>
        simp [hr, hq] at hi
        rcases back_words c with hc | ⟨x, y, hc, hd⟩
        · simp [f9, hr, f15_in h.1 h.2, hi, hq, hc]
        · simp [f9, hr, f15_in h.1 h.2, hi, hq, hc, hd]
  · rcases back_words c with hc | ⟨x, y, hc, hd⟩
    · simp [f9, f20_out h, f15_out h, hc]
    · simp [f9, f20_out h, f15_out h, hc, hd]

/-! DirDistinct -/
theorem f10_nth (a b : Nat → Int) (c : Int) : f10 a b c = f10 (nthI [a 0, a 1]) (nthI [b 0, b 1]) (c.tmod 8) := by
  have e1 : ∀ x, f18 x c = f18 x (c.tmod 8) := fun x => f18_mod x c
  unfold f10
  simp only [e1, Int.tmod_tmod]
  rfl
theorem law10_in : rng 0 (fun a => rng (-1) (fun l => rng 0 (fun b => rng (-1) (fun m => rng (-7) (fun c => isT (f10 (nthI [a, l]) (nthI [b, m]) c)) 15) 3) 9) 3) 9 = true := by kernel_rfl
theorem f20_in {a b : Int} (h : (0 ≤ a ∧ a ≤ 8) ∧ (-1 ≤ b ∧ b ≤ 1)) : ∃ r, f20 a b = some r := by
  have hi := isT_eq (rng_get (rng_get back_in a h.1.1 (by omega)) b (by omega) (by omega))
  cases hr : f20 a b with
  | none => simp [hr] at hi
  | some r => exact ⟨r, rfl⟩
theorem law10 (a b : Nat → Int) (c : Int) : f10 a b c = some true := by
  by_cases h : (0 ≤ a 0 ∧ a 0 ≤ 8) ∧ (-1 ≤ a 1 ∧ a 1 ≤ 1)
  · by_cases h2 : (0 ≤ b 0 ∧ b 0 ≤ 8) ∧ (-1 ≤ b 1 ∧ b 1 ≤ 1)
    · have hn : -8 < c.tmod 8 ∧ c.tmod 8 < 8 := tmod_bounds c 8 (by omega)
      rw [f10_nth]
      exact isT_eq (rng_get (rng_get (rng_get (rng_get (rng_get law10_in (a 0) h.1.1 (by omega)) (a 1) (by omega) (by omega)) (b 0) h2.1.1 (by omega)) (b 1) (by omega) (by omega)) (c.tmod 8) (by omega) (by omega))
    · obtain ⟨r, hr⟩ := f20_in h
      by_cases hz : r.2 = 0
      · simp [f10, hr, f20_out h2, hz]
      · simp [f10, hr, f20_out h2, hz]
  · by_cases h2 : (0 ≤ b 0 ∧ b 0 ≤ 8) ∧ (-1 ≤ b 1 ∧ b 1 ≤ 1)
    · obtain ⟨r, hr⟩ := f20_in h2
      simp [f10, hr, f20_out h]
    · simp [f10, f20_out h, f20_out h2]
end Go.Proofs.YtghmaghmkhpaaaaDoor
