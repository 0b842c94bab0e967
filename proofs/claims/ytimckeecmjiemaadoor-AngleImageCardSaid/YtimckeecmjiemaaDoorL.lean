/-
  THE PLAIN LAWS of chapter 02: what the contracts compute answers true.
-/
import Derived.Test.YtimckeecmjiemaaDoorVEq
import Derived.Test.YtimckeecmjiemaaDoorF
open Go Go.VE Go.Proofs
set_option maxRecDepth 1000000
set_option linter.unusedVariables false
set_option linter.unusedSimpArgs false
namespace Go.Proofs.YtimckeecmjiemaaDoor

theorem f11_eq (a : Int) : f11 a = some (a % 256) := by
  unfold f11
  have h : (IntKind.i64.wrap (a.tmod 256 + 256)).tmod 256 = a % 256 := by
    have hb : -256 < a.tmod 256 ∧ a.tmod 256 < 256 := tmod_bounds a 256 (by omega)
    rw [w64 (by omega) (by omega), tmod_nonneg_eq (by omega)]
    rcases tmod_cases a 256 with ⟨_, h⟩ | ⟨_, h⟩ <;> omega
  rw [h]
theorem f25_eq (a : Int) : f25 a = some (a % 256) := by
  unfold f25
  have hb : -256 < a.tmod 256 ∧ a.tmod 256 < 256 := tmod_bounds a 256 (by omega)
  by_cases h : a.tmod 256 < 0
  · rw [w64 (by omega) (by omega)]
    rcases tmod_cases a 256 with ⟨_, h2⟩ | ⟨_, h2⟩
    · omega
    · simp only [h, decide_true, cond_true]
      rw [show a.tmod 256 + 256 = a % 256 by omega]
  · rcases tmod_cases a 256 with ⟨_, h2⟩ | ⟨_, h2⟩
    · simp only [h, decide_false, cond_false]
      rw [h2]
    · simp only [h, decide_false, cond_false]
      rw [show a.tmod 256 = a % 256 by omega]
theorem tmod_mod (a : Int) : a.tmod 256 % 256 = a % 256 := by
  rcases tmod_cases a 256 with ⟨_, h⟩ | ⟨_, h⟩ <;> omega
theorem f12_eq (a : Int) : f12 a = some ((-a) % 256) := by
  unfold f12
  simp only [f11_eq, Option.bind_some]
  rw [w64 (by omega) (by omega)]
  rw [show (0 - a % 256) % 256 = (-a) % 256 by omega]

theorem f14_mod (a : Int) : f14 a = f14 (a % 256) := by
  unfold f14
  simp only [f11_eq, Int.emod_emod_of_dvd _ (Int.dvd_refl 256)]
theorem f15_mod (a : Int) : f15 a = f15 (a % 256) := by
  unfold f15
  simp only [f25_eq, Int.emod_emod_of_dvd _ (Int.dvd_refl 256)]
theorem f16_eq (a : Int) : f16 a = f14 (a % 256 + 64) := by
  unfold f16
  simp only [f11_eq, Option.bind_some]
  rw [w64 (by omega) (by omega)]
  cases f14 (a % 256 + 64) <;> rfl
theorem f17_eq (a : Int) : f17 a = f15 (a % 256 + 64) := by
  unfold f17
  simp only [f25_eq, Option.bind_some]
  rw [w64 (by omega) (by omega)]
  cases f15 (a % 256 + 64) <;> rfl

/-- The sine, as a number. -/
noncomputable def sn (a : Int) : Int := (f14 a).getD 0
theorem sn_in : rng 0 (fun n => match f14 n with | some v => decide (-16384 ≤ v) && decide (v ≤ 16384) && (match f15 n with | some u => decide (u = v) | none => false) | none => false) 256 = true := by kernel_rfl
theorem sn_get (a : Int) : f14 a = some (sn a) ∧ f15 a = some (sn a) ∧ -16384 ≤ sn a ∧ sn a ≤ 16384 := by
  have h := rng_get sn_in (a % 256) (by omega) (by omega)
  rw [← f14_mod, ← f15_mod] at h
  unfold sn
  cases h1 : f14 a with
  | none => simp [h1] at h
  | some v =>
    cases h2 : f15 a with
    | none => simp [h1, h2] at h
    | some u =>
      simp [h1, h2] at h
      obtain ⟨⟨h3, h4⟩, h5⟩ := h
      exact ⟨rfl, by rw [h5]; rfl, h3, h4⟩
theorem f14_eq (a : Int) : f14 a = some (sn a) := (sn_get a).1
theorem f15_eq (a : Int) : f15 a = some (sn a) := (sn_get a).2.1
theorem sn_mod (a : Int) : sn (a % 256) = sn a := by
  unfold sn
  rw [← f14_mod]
theorem sn_congr {a b : Int} (h : a % 256 = b % 256) : sn a = sn b := by rw [← sn_mod a, ← sn_mod b, h]
theorem f16_sn (a : Int) : f16 a = some (sn (a + 64)) := by
  rw [f16_eq, f14_eq, sn_congr (b := a + 64) (by omega)]
theorem f17_sn (a : Int) : f17 a = some (sn (a + 64)) := by
  rw [f17_eq, f15_eq, sn_congr (b := a + 64) (by omega)]

/-! AngleNorm -/
theorem f11_t (a : Int) : f11 (a.tmod 256) = f11 a := by rw [f11_eq, f11_eq, tmod_mod]
theorem f12_t (a : Int) : f12 (a.tmod 256) = f12 a := by
  rw [f12_eq, f12_eq]
  have := tmod_mod a
  rw [show (-a.tmod 256) % 256 = (-a) % 256 by omega]
theorem f3_t (a : Int) : f3 a = f3 (a.tmod 256) := by
  unfold f3
  simp only [f11_t, f12_t, Int.tmod_tmod]
theorem law3_in : rng (-255) (fun a => isT (f3 a)) 511 = true := by kernel_rfl
theorem law3 (a : Int) : f3 a = some true := by
  have hb : -256 < a.tmod 256 ∧ a.tmod 256 < 256 := tmod_bounds a 256 (by omega)
  rw [f3_t]
  exact isT_eq (rng_get law3_in _ (by omega) (by omega))

/-! AngleSines -/
theorem law4 (a : Int) : f4 a = some true := by
  simp [f4, f14_eq, f15_eq, f16_sn, f17_sn]

/-! AngleCircle -/
theorem sn_t (a : Int) : sn (a.tmod 256) = sn a := sn_congr (tmod_mod a)
theorem f14_t (a : Int) : f14 (a.tmod 256) = f14 a := by rw [f14_eq, f14_eq, sn_t]
theorem f16_t (a : Int) : f16 (a.tmod 256) = f16 a := by
  have := tmod_mod a
  rw [f16_sn, f16_sn, sn_congr (a := a.tmod 256 + 64) (b := a + 64) (by omega)]
theorem f5_t (a : Int) : f5 a = f5 (a.tmod 256) := by
  unfold f5
  simp only [f14_t, f16_t, Int.tmod_tmod]
theorem law5_in : rng (-255) (fun a => isT (f5 a)) 511 = true := by kernel_rfl
theorem law5 (a : Int) : f5 a = some true := by
  have hb : -256 < a.tmod 256 ∧ a.tmod 256 < 256 := tmod_bounds a 256 (by omega)
  rw [f5_t]
  exact isT_eq (rng_get law5_in _ (by omega) (by omega))

/-! AngleBetween -/
theorem f27_eq (a : Int) : f27 a = some (decide (0 ≤ a ∧ a < 256)) := by
  unfold f27
  by_cases h : 0 ≤ a <;> simp [h]
theorem f28_eq (a b : Int) (h1 : -9223372036854775808 ≤ b - a) (h2 : b - a ≤ 9223372036854775807) : f28 a b = some (decide (1 ≤ (b - a) % 256 ∧ (b - a) % 256 ≤ 127)) := by
  unfold f28
  rw [w64 h1 h2]
  simp only [f25_eq, Option.bind_some]
  by_cases h : 1 ≤ (b - a) % 256 <;> simp [h]
def thr (a b c : Int) : Bool := if a = c ∨ b = c then decide ((0 - a) % 256 < 128) else decide ((c - a) % 256 < 128)
def way (a b c : Int) : Int := if (b - a) % 256 < 128 then (b - a) % 256 else if 128 < (b - a) % 256 then (b - a) % 256 - 256 else if thr a b c then 128 else -128
theorem f18_in {a b c : Int} (ha : 0 ≤ a ∧ a < 256) (hb : 0 ≤ b ∧ b < 256) (hc : c = 64 ∨ c = 192) : f18 a b c = some (way a b c, 0) := by
  unfold f18
  simp only [f27_eq, ha, hb, Option.bind_some, and_self, decide_true, Bool.not_true, cond_false, f11_eq]
  rw [w64 (n := b - a) (by omega) (by omega), w64 (n := 0 - a) (by omega) (by omega), w64 (n := c - a) (by omega) (by omega), w64 (n := (b - a) % 256 - 256) (by omega) (by omega)]
  unfold way thr
  rcases hc with rfl | rfl
  all_goals
    simp only [Bool.cond_eq_ite, decide_eq_true_eq, Bool.not_eq_true', decide_eq_false_iff_not, not_true, not_false_eq_true, if_true, if_false, Int.reduceEq]
    repeat' split
    all_goals first
      | rfl
      | (exfalso; simp_all; done)
      | (exfalso; simp_all; omega)
theorem f19_in {a b c : Int} (ha : 0 ≤ a ∧ a < 256) (hb : 0 ≤ b ∧ b < 256) (hc : c = 64 ∨ c = 192) : f19 a b c = some (way a b c, 0) := by
  unfold f19
  simp only [f25_eq, Option.bind_some]
  rw [w64 (n := b - a) (by omega) (by omega), f28_eq a 0 (by omega) (by omega), f28_eq a c (by omega) (by omega), w64 (n := (b - a) % 256 - 256) (by omega) (by omega)]
  unfold way thr
  simp only [Option.bind_some]
  have h1 : ¬ a < 0 := by omega
  have h2 : ¬ 255 < a := by omega
  have h3 : ¬ b < 0 := by omega
  have h4 : ¬ 255 < b := by omega
  rcases hc with rfl | rfl
  all_goals
    simp only [h1, h2, h3, h4, Bool.cond_eq_ite, decide_eq_true_eq, Bool.not_eq_true', decide_eq_false_iff_not, not_true, not_false_eq_true, if_true, if_false, Int.reduceEq]
    repeat' split
    all_goals first
      | rfl
      | (exfalso; simp_all; done)
      | (exfalso; simp_all; omega)
      | (exfalso; omega)
theorem f6_eq (a b c : Int) : f18 a b c = f19 a b c := by
  by_cases ha : 0 ≤ a ∧ a < 256
  · by_cases hb : 0 ≤ b ∧ b < 256
    · by_cases hc : c = 64 ∨ c = 192
      · rw [f18_in ha hb hc, f19_in ha hb hc]
      · have h1 : ¬ a < 0 := by omega
        have h2 : ¬ 255 < a := by omega
        have h3 : ¬ b < 0 := by omega
        have h4 : ¬ 255 < b := by omega
        have h5 : ¬ c = 64 := by omega
        have h6 : ¬ c = 192 := by omega
        simp [f18, f19, f27_eq, ha, hb, h1, h2, h3, h4, h5, h6]
    · by_cases h3 : b < 0
      · have h1 : ¬ a < 0 := by omega
        have h2 : ¬ 255 < a := by omega
        simp [f18, f19, f27_eq, ha, hb, h1, h2, h3]
      · have h1 : ¬ a < 0 := by omega
        have h2 : ¬ 255 < a := by omega
        have h4 : 255 < b := by omega
        simp [f18, f19, f27_eq, ha, hb, h1, h2, h3, h4]
  · by_cases h1 : a < 0
    · simp [f18, f19, f27_eq, ha, h1]
    · have h2 : 255 < a := by omega
      simp [f18, f19, f27_eq, ha, h1, h2]
theorem f18_some (a b c : Int) : ∃ r, f18 a b c = some r := by
  by_cases ha : 0 ≤ a ∧ a < 256
  · by_cases hb : 0 ≤ b ∧ b < 256
    · by_cases hc : c = 64 ∨ c = 192
      · exact ⟨_, f18_in ha hb hc⟩
      · have h5 : ¬ c = 64 := by omega
        have h6 : ¬ c = 192 := by omega
        exact ⟨(0, 9), by simp [f18, f27_eq, ha, hb, h5, h6]⟩
    · exact ⟨(0, 1), by simp [f18, f27_eq, ha, hb]⟩
  · exact ⟨(0, 1), by simp [f18, f27_eq, ha]⟩
theorem law6 (a b c : Int) : f6 a b c = some true := by
  obtain ⟨r, hr⟩ := f18_some a b c
  simp [f6, ← f6_eq, hr]
/-! AngleBack -/
theorem thr_iff (a b c : Int) : thr a b c = true ↔ ((a = c ∨ b = c) ∧ (0 - a) % 256 < 128) ∨ (¬ (a = c ∨ b = c) ∧ (c - a) % 256 < 128) := by
  unfold thr
  split <;> simp_all
theorem way_lt {a b c : Int} (h : (b - a) % 256 < 128) : way a b c = (b - a) % 256 := by simp [way, h]
theorem way_gt {a b c : Int} (h : 128 < (b - a) % 256) : way a b c = (b - a) % 256 - 256 := by
  have : ¬ (b - a) % 256 < 128 := by omega
  simp [way, h, this]
theorem way_eq {a b c : Int} (h : (b - a) % 256 = 128) : way a b c = if ((a = c ∨ b = c) ∧ (0 - a) % 256 < 128) ∨ (¬ (a = c ∨ b = c) ∧ (c - a) % 256 < 128) then 128 else -128 := by
  simp only [way, h]
  by_cases ht : thr a b c = true
  · rw [if_pos ((thr_iff a b c).1 ht)]
    simp [ht]
  · rw [if_neg (fun hh => ht ((thr_iff a b c).2 hh))]
    simp [ht]
theorem way_facts {a b c d : Int} (ha : 0 ≤ a ∧ a < 256) (hb : 0 ≤ b ∧ b < 256) (hc : (c = 64 ∧ d = 192) ∨ (c = 192 ∧ d = 64)) :
    way b a c = -way a b c ∧ way ((-a) % 256) ((-b) % 256) d = -way a b c ∧ -128 ≤ way a b c ∧ way a b c ≤ 128 ∧ (a + way a b c) % 256 = b := by
  by_cases h0 : (b - a) % 256 = 0
  · rw [way_lt (a := a) (by omega), way_lt (a := b) (by omega), way_lt (a := (-a) % 256) (by omega)]
    omega
  · by_cases h1 : (b - a) % 256 < 128
    · rw [way_lt h1, way_gt (a := b) (by omega), way_gt (a := (-a) % 256) (by omega)]
      omega
    · by_cases h2 : 128 < (b - a) % 256
      · rw [way_gt h2, way_lt (a := b) (by omega), way_lt (a := (-a) % 256) (by omega)]
        omega
      · rw [way_eq (a := a) (by omega), way_eq (a := b) (by omega), way_eq (a := (-a) % 256) (by omega)]
        rcases hc with ⟨rfl, rfl⟩ | ⟨rfl, rfl⟩ <;> (repeat' split) <;> omega
theorem u8_small {a : Int} (h : IntKind.u8.has a) : 0 ≤ a ∧ a < 256 := by
  have h1 : IntKind.u8.min ≤ a := h.1
  have h2 : a ≤ IntKind.u8.max := h.2
  have e1 : IntKind.u8.min = 0 := by decide
  have e2 : IntKind.u8.max = 255 := by decide
  omega
theorem law7 (a b : Int) (c : Bool) (ha : IntKind.u8.has a) (hb : IntKind.u8.has b) : f7 a b c = some true := by
  have ha := u8_small ha
  have hb := u8_small hb
  have ea : IntKind.i64.wrap a = a := w64 (by omega) (by omega)
  have eb : IntKind.i64.wrap b = b := w64 (by omega) (by omega)
  have ma : 0 ≤ (-a) % 256 ∧ (-a) % 256 < 256 := by omega
  have mb : 0 ≤ (-b) % 256 ∧ (-b) % 256 < 256 := by omega
  cases c with
  | true =>
    obtain ⟨h1, h2, h3, h4, h5⟩ := way_facts ha hb (c := 192) (d := 64) (by omega)
    have h6 : ¬ way a b 192 < -128 := by omega
    have h7 : ¬ 128 < way a b 192 := by omega
    have e1 : IntKind.i64.wrap (-way a b 192) = -way a b 192 := w64 (by omega) (by omega)
    have e2 : IntKind.i64.wrap (a + way a b 192) = a + way a b 192 := w64 (by omega) (by omega)
    simp [f7, ea, eb, f18_in ha hb (c := 192) (by omega), f18_in hb ha (c := 192) (by omega), f12_eq, f18_in ma mb (c := 64) (by omega), h1, h2, h6, h7, e1, e2, f11_eq, h5]
  | false =>
    obtain ⟨h1, h2, h3, h4, h5⟩ := way_facts ha hb (c := 64) (d := 192) (by omega)
    have h6 : ¬ way a b 64 < -128 := by omega
    have h7 : ¬ 128 < way a b 64 := by omega
    have e1 : IntKind.i64.wrap (-way a b 64) = -way a b 64 := w64 (by omega) (by omega)
    have e2 : IntKind.i64.wrap (a + way a b 64) = a + way a b 64 := w64 (by omega) (by omega)
    simp [f7, ea, eb, f18_in ha hb (c := 64) (by omega), f18_in hb ha (c := 64) (by omega), f12_eq, f18_in ma mb (c := 192) (by omega), h1, h2, h6, h7, e1, e2, f11_eq, h5]

/-! Rounding, in this program -/
theorem f36_eq {a b : Int} (hb : 0 < b) (hb2 : b ≤ 1125899906842624) (h1 : -1125899906842624 ≤ a) (h2 : a ≤ 1125899906842624) : f36 a b = some (a / b, a % b) := by
  have h0 : ¬ b = 0 := by omega
  have l1 := Int.tmod_lt_of_pos a hb
  have l2 : -b < a.tmod b := by
    have := Int.tmod_lt_of_pos (-a) hb
    rw [Int.neg_tmod] at this
    omega
  have q := ediv_small hb h1 h2 (by omega)
  unfold f36
  by_cases h : a.tmod b < 0
  · obtain ⟨e1, e2⟩ := down_neg hb h
    rw [w64 (n := a.tdiv b) (by omega) (by omega), w64 (by omega) (by omega), w64 (by omega) (by omega), e1, e2]
    simp [h0, h]
  · obtain ⟨e1, e2⟩ := down_pos hb h
    rw [w64 (n := a.tdiv b) (by omega) (by omega), ← e1, ← e2]
    simp [h0, h]
theorem f37_eq (a b : Int) : f37 a b = f36 a b := rfl
theorem f33_eq {a b : Int} (hb : 0 < b) (hb2 : b ≤ 1125899906842624) (h1 : -1125899906842624 ≤ a) (h2 : a ≤ 1125899906842624) : f33 a b = some (near a b) := by
  have q := ediv_small hb h1 h2 (by omega)
  have r1 := Int.emod_nonneg a (by omega : b ≠ 0)
  have r2 := Int.emod_lt_of_pos a hb
  unfold f33
  simp only [f36_eq hb hb2 h1 h2, Option.bind_some]
  rw [w64 (n := 2 * (a % b)) (by omega) (by omega), w64 (n := a / b + 1) (by omega) (by omega)]
  unfold near
  by_cases c1 : b < 2 * (a % b)
  · simp [c1]
  · by_cases c2 : 2 * (a % b) = b
    · have := tmod2 (a / b)
      by_cases c3 : (a / b) % 2 = 0
      · simp [c2, this.2 c3, c3]
      · have c4 : ¬ (a / b).tmod 2 = 0 := fun hh => c3 (this.1 hh)
        simp [c2, c3, c4]
    · simp [c1, c2]
theorem f35_eq {a b : Int} (hb : 0 < b) (hb2 : b ≤ 1125899906842624) (h1 : -1125899906842624 ≤ a) (h2 : a ≤ 1125899906842624) : f35 a b = some (near a b) := by
  have q := ediv_small hb h1 h2 (by omega)
  have r1 := Int.emod_nonneg a (by omega : b ≠ 0)
  have r2 := Int.emod_lt_of_pos a hb
  unfold f35
  simp only [f37_eq, f36_eq hb hb2 h1 h2, Option.bind_some]
  rw [w64 (n := b - a % b) (by omega) (by omega), w64 (n := a / b + 1) (by omega) (by omega)]
  unfold near
  by_cases c1 : b < 2 * (a % b)
  · have c1' : b - a % b < a % b := by omega
    simp [c1, c1']
  · have c1' : ¬ b - a % b < a % b := by omega
    by_cases c2 : 2 * (a % b) = b
    · have c2' : a % b = b - a % b := by omega
      have := tmod2 (a / b)
      by_cases c3 : (a / b) % 2 = 0
      · simp only [c1, c1', c2, c3, this.2 c3]
        simp [← c2']
      · have c4 : ¬ (a / b).tmod 2 = 0 := fun hh => c3 (this.1 hh)
        simp only [c1, c1', c2, c3, c4]
        simp [← c2']
    · have c2' : ¬ a % b = b - a % b := by omega
      simp [c1, c1', c2, c2']
theorem f29_eq {a b : Int} (hb : 0 < b) (hb2 : b ≤ 1125899906842624) (h1 : -1125899906842624 ≤ a) (h2 : a ≤ 1125899906842624) : f29 a b = some (near a b, 0) := by
  have c1 : ¬ a < -1125899906842624 := by omega
  have c2 : ¬ 1125899906842624 < a := by omega
  have c3 : ¬ b < -1125899906842624 := by omega
  have c4 : ¬ 1125899906842624 < b := by omega
  have c5 : ¬ b = 0 := by omega
  have c6 : ¬ b < 0 := by omega
  simp [f29, c1, c2, c3, c4, c5, c6, f33_eq hb hb2 h1 h2]
theorem f31_eq {a b : Int} (hb : 0 < b) (hb2 : b ≤ 1125899906842624) (h1 : -1125899906842624 ≤ a) (h2 : a ≤ 1125899906842624) : f31 a b = some (near a b, 0) := by
  have c3 : -1125899906842624 ≤ b := by omega
  have c5 : ¬ b = 0 := by omega
  have c6 : ¬ b < 0 := by omega
  simp [f31, f34, h1, h2, c3, hb2, c5, c6, f35_eq hb hb2 h1 h2]

/-! AngleTurned -/
theorem mul_bound {x y A B : Int} (hx : -A ≤ x ∧ x ≤ A) (hy : -B ≤ y ∧ y ≤ B) : -(A * B) ≤ x * y ∧ x * y ≤ A * B := by
  have hA : 0 ≤ A := by omega
  have hB : 0 ≤ B := by omega
  by_cases h : 0 ≤ x
  · have a1 : x * y ≤ x * B := Int.mul_le_mul_of_nonneg_left hy.2 h
    have a2 : x * B ≤ A * B := Int.mul_le_mul_of_nonneg_right hx.2 hB
    have a3 : x * -B ≤ x * y := Int.mul_le_mul_of_nonneg_left hy.1 h
    rw [Int.mul_neg] at a3
    omega
  · have h' : 0 ≤ -x := by omega
    have a1 : -x * y ≤ -x * B := Int.mul_le_mul_of_nonneg_left hy.2 h'
    have a2 : -x * B ≤ A * B := Int.mul_le_mul_of_nonneg_right (by omega) hB
    have a3 : -x * -B ≤ -x * y := Int.mul_le_mul_of_nonneg_left hy.1 h'
    rw [Int.mul_neg] at a3
    rw [Int.neg_mul] at *
    rw [Int.neg_mul] at *
    omega
/-- Both coordinates, turned. -/
noncomputable def tx (x y a : Int) : Int := near (x * sn (a + 64) + y * sn a) 16384
noncomputable def ty (x y a : Int) : Int := near (y * sn (a + 64) - x * sn a) 16384
abbrev okP (x : Int) : Prop := -32768 ≤ x ∧ x ≤ 32768
theorem prods {x : Int} (hx : okP x) (a : Int) : -536870912 ≤ x * sn a ∧ x * sn a ≤ 536870912 := mul_bound (A := 32768) (B := 16384) hx ⟨(sn_get a).2.2.1, (sn_get a).2.2.2⟩
theorem f20_in {p : Nat → Int} {b : Int} (h0 : okP (p 0)) (h1 : okP (p 1)) : f20 p b = some (nthI [tx (p 0) (p 1) b, ty (p 0) (p 1) b], 0) := by
  obtain ⟨u1, u2⟩ := h0
  obtain ⟨v1, v2⟩ := h1
  have c1 : ¬ p 0 < -32768 := by omega
  have c2 : ¬ 32768 < p 0 := by omega
  have c3 : ¬ p 1 < -32768 := by omega
  have c4 : ¬ 32768 < p 1 := by omega
  have m1 := prods ⟨u1, u2⟩ (b + 64)
  have m2 := prods ⟨u1, u2⟩ b
  have m3 := prods ⟨v1, v2⟩ (b + 64)
  have m4 := prods ⟨v1, v2⟩ b
  unfold f20
  simp only [f16_sn, f14_eq, Option.bind_some]
  rw [w64 (n := p 0 * sn (b + 64)) (by omega) (by omega), w64 (n := p 0 * sn b) (by omega) (by omega), w64 (n := p 1 * sn (b + 64)) (by omega) (by omega), w64 (n := p 1 * sn b) (by omega) (by omega),
    w64 (n := p 0 * sn (b + 64) + p 1 * sn b) (by omega) (by omega), w64 (n := p 1 * sn (b + 64) - p 0 * sn b) (by omega) (by omega),
    f29_eq (by omega) (by omega) (by omega) (by omega), f29_eq (by omega) (by omega) (by omega) (by omega)]
  simp [c1, c2, c3, c4, tx, ty]
theorem f20_out {p : Nat → Int} {b : Int} (h : ¬ (okP (p 0) ∧ okP (p 1))) : f20 p b = some (nthI [0, 0], 1) := by
  unfold okP at h
  unfold f20
  by_cases c1 : p 0 < -32768
  · simp [c1]
  · by_cases c2 : 32768 < p 0
    · simp [c1, c2]
    · by_cases c3 : p 1 < -32768
      · simp [c1, c2, c3]
      · have c4 : 32768 < p 1 := by omega
        simp [c1, c2, c3, c4]
theorem f30_eq (p : Nat → Int) : f30 p = some (decide (¬ (okP (p 0) ∧ okP (p 1)))) := by
  unfold f30 okP
  by_cases c1 : p 0 < -32768
  · have : ¬ -32768 ≤ p 0 := by omega
    simp [c1, this]
  · by_cases c2 : 32768 < p 0
    · have : ¬ p 0 ≤ 32768 := by omega
      simp [c1, c2, this]
    · have k1 : -32768 ≤ p 0 := by omega
      have k2 : p 0 ≤ 32768 := by omega
      by_cases c3 : p 1 < -32768
      · have : ¬ -32768 ≤ p 1 := by omega
        simp [c1, c2, c3, this]
      · have k3 : -32768 ≤ p 1 := by omega
        simp [c1, c2, c3, k1, k2, k3]
theorem f21_in {p : Nat → Int} {b : Int} (h0 : okP (p 0)) (h1 : okP (p 1)) : f21 p b = some (nthI [tx (p 0) (p 1) b, ty (p 0) (p 1) b], 0) := by
  obtain ⟨u1, u2⟩ := h0
  obtain ⟨v1, v2⟩ := h1
  have m1 := prods ⟨u1, u2⟩ (b + 64)
  have m2 := prods ⟨u1, u2⟩ b
  have m3 := prods ⟨v1, v2⟩ (b + 64)
  have m4 := prods ⟨v1, v2⟩ b
  unfold f21
  simp only [f17_sn, f15_eq, Option.bind_some, f30_eq]
  rw [w64 (n := p 0 * sn (b + 64)) (by omega) (by omega), w64 (n := p 0 * sn b) (by omega) (by omega), w64 (n := p 1 * sn (b + 64)) (by omega) (by omega), w64 (n := p 1 * sn b) (by omega) (by omega),
    w64 (n := p 0 * sn (b + 64) + p 1 * sn b) (by omega) (by omega), w64 (n := p 1 * sn (b + 64) - p 0 * sn b) (by omega) (by omega),
    f31_eq (by omega) (by omega) (by omega) (by omega), f31_eq (by omega) (by omega) (by omega) (by omega)]
  simp [nthI, okP, u1, u2, v1, v2, tx, ty]
theorem f21_out {p : Nat → Int} {b : Int} (h : ¬ (okP (p 0) ∧ okP (p 1))) : f21 p b = some (nthI [0, 0], 1) := by
  unfold f21
  rw [f30_eq]
  have e : (okP (nthI [p 0, p 1] 0) ∧ okP (nthI [p 0, p 1] 1)) = (okP (p 0) ∧ okP (p 1)) := rfl
  simp only [e, h, not_false_eq_true, decide_true, Option.bind_some, cond_true]
theorem f20_nth (p : Nat → Int) (b : Int) : f20 (nthI [p 0, p 1]) b = f20 p b := rfl
theorem f21_nth (p : Nat → Int) (b : Int) : f21 (nthI [p 0, p 1]) b = f21 p b := rfl
theorem law8 (p : Nat → Int) (b : Int) : f8 p b = some true := by
  unfold f8
  rw [f20_nth, f21_nth]
  by_cases h : okP (p 0) ∧ okP (p 1)
  · simp [f20_in h.1 h.2, f21_in h.1 h.2]
  · simp [f20_out h, f21_out h]

/-! AngleImage -/
theorem near_neg (z : Int) : near (-z) 16384 = -near z 16384 := by
  unfold near
  (repeat' split) <;> omega
theorem sn_neg_in : rng 0 (fun n => match f14 n, f14 (-n) with | some u, some v => decide (v = -u) | _, _ => false) 256 = true := by kernel_rfl
theorem sn_neg (a : Int) : sn (-a) = -sn a := by
  have h := rng_get sn_neg_in (a % 256) (by omega) (by omega)
  rw [f14_eq, f14_eq] at h
  simp at h
  rw [sn_mod] at h
  rw [← h]
  exact sn_congr (by omega)
theorem cs_neg_in : rng 0 (fun n => match f14 (n + 64), f14 (-n + 64) with | some u, some v => decide (v = u) | _, _ => false) 256 = true := by kernel_rfl
theorem cs_neg (a : Int) : sn (-a + 64) = sn (a + 64) := by
  have h := rng_get cs_neg_in (a % 256) (by omega) (by omega)
  rw [f14_eq, f14_eq] at h
  simp at h
  rw [sn_congr (a := a % 256 + 64) (b := a + 64) (by omega)] at h
  rw [← h]
  exact sn_congr (by omega)
theorem near_in {z M : Int} (h1 : -M ≤ z) (h2 : z ≤ M) (hM : M ≤ 2000000000) : -131072 ≤ near z 16384 ∧ near z 16384 ≤ 131072 := by
  have := near_dist (a := z) (b := 16384) (by omega)
  omega
theorem law10 (p : Nat → Int) (b : Int) : f10 p b = some true := by
  unfold f10
  rw [f20_nth]
  by_cases h : okP (p 0) ∧ okP (p 1)
  · obtain ⟨⟨u1, u2⟩, v1, v2⟩ := h
    have c1 : ¬ p 0 < -32768 := by omega
    have c2 : ¬ 32768 < p 0 := by omega
    have c3 : ¬ p 1 < -32768 := by omega
    have c4 : ¬ 32768 < p 1 := by omega
    have e0 : IntKind.i64.wrap (0 - p 0) = -p 0 := by rw [w64 (by omega) (by omega)]; omega
    have m1 := prods ⟨u1, u2⟩ (b + 64)
    have m2 := prods ⟨u1, u2⟩ b
    have m3 := prods ⟨v1, v2⟩ (b + 64)
    have m4 := prods ⟨v1, v2⟩ b
    have ex : tx (-p 0) (p 1) (-b % 256) = -tx (p 0) (p 1) b := by
      unfold tx
      rw [sn_congr (a := -b % 256 + 64) (b := -b + 64) (by omega), sn_mod, cs_neg, sn_neg, ← near_neg]
      congr 1
      rw [Int.neg_mul, Int.mul_neg]
      omega
    have ey : ty (-p 0) (p 1) (-b % 256) = ty (p 0) (p 1) b := by
      unfold ty
      rw [sn_congr (a := -b % 256 + 64) (b := -b + 64) (by omega), sn_mod, cs_neg, sn_neg]
      congr 1
      rw [Int.neg_mul_neg]
    have bx := near_in (z := p 0 * sn (b + 64) + p 1 * sn b) (M := 1073741824) (by omega) (by omega) (by omega)
    have e1 : IntKind.i64.wrap (-tx (p 0) (p 1) b) = -tx (p 0) (p 1) b := by
      unfold tx
      exact w64 (by omega) (by omega)
    have k : f20 (nthI [-p 0, p 1]) (-b % 256) = some (nthI [tx (-p 0) (p 1) (-b % 256), ty (-p 0) (p 1) (-b % 256)], 0) := f20_in (p := nthI [-p 0, p 1]) ⟨by show -32768 ≤ -p 0; omega, by show -p 0 ≤ 32768; omega⟩ ⟨v1, v2⟩
    rw [f20_in ⟨u1, u2⟩ ⟨v1, v2⟩, e0, f12_eq]
    simp only [Option.bind_some, k, ex, ey]
    simp [c1, c2, c3, c4, nthI, e1]
  · unfold okP at h
    by_cases c1 : p 0 < -32768
    · simp [c1]
    · by_cases c2 : 32768 < p 0
      · simp [c1, c2]
      · by_cases c3 : p 1 < -32768
        · simp [c1, c2, c3]
        · have c4 : 32768 < p 1 := by omega
          simp [c1, c2, c3, c4]
/-! AngleTurns -/
theorem isqrt (n : Nat) : ∃ r : Nat, r * r ≤ n ∧ n < (r + 1) * (r + 1) := by
  induction n with
  | zero => exact ⟨0, by omega, by omega⟩
  | succ n ih =>
    obtain ⟨r, h1, h2⟩ := ih
    by_cases h : n + 1 < (r + 1) * (r + 1)
    · exact ⟨r, by omega, h⟩
    · refine ⟨r + 1, by omega, ?_⟩
      have : (r + 1 + 1) * (r + 1 + 1) = (r + 1) * (r + 1) + 2 * (r + 1) + 1 := by grind
      omega
theorem isqrtI {n : Int} (h : 0 ≤ n) : ∃ r : Int, 0 ≤ r ∧ r * r ≤ n ∧ n < r * r + 2 * r + 1 := by
  obtain ⟨r, h1, h2⟩ := isqrt n.toNat
  have e : (r + 1) * (r + 1) = r * r + 2 * r + 1 := by grind
  have e2 : ((r * r : Nat) : Int) = (r : Int) * (r : Int) := by simp
  refine ⟨r, by omega, by omega, by omega⟩
theorem sq_le {a b : Int} (h0 : 0 ≤ a) (h : a ≤ b) : a * a ≤ b * b := Int.mul_le_mul h h h0 (by omega)
theorem core {n D t : Int} (hn0 : 0 ≤ n) (hn : n ≤ 2147483648) (hD : 9 < D) (ht0 : 0 ≤ t) (h1 : 268435456 * D ≤ 23172 * n + 2 * t + 134217728) (h2 : t * t ≤ 134217728 * (268458628 * n)) : (D + 9) * (D + 9) ≤ 36 * n := by
  apply Classical.byContradiction
  intro hc
  have hc : 36 * n < (D + 9) * (D + 9) := by omega
  obtain ⟨r, hr0, hr1, hr2⟩ := isqrtI hn0
  have hDr : 6 * r < D + 9 := by
    apply Classical.byContradiction
    intro h
    have h' : D + 9 ≤ 6 * r := by omega
    have := sq_le (by omega) h'
    have e : 6 * r * (6 * r) = 36 * (r * r) := by grind
    omega
  have hr : r ≤ 46340 := by
    apply Classical.byContradiction
    intro h
    have := sq_le (a := 46341) (b := r) (by omega) (by omega)
    omega
  by_cases h3 : 3 ≤ r
  · have hrr : r * r ≤ 46340 * r := Int.mul_le_mul_of_nonneg_right hr hr0
    have ht : 201326592 * (r + 1) ≤ t := by
      by_cases h20 : r ≤ 20
      · have : r * r ≤ 20 * r := Int.mul_le_mul_of_nonneg_right h20 hr0
        omega
      · omega
    have h4 := sq_le (by omega) ht
    have e : 201326592 * (r + 1) * (201326592 * (r + 1)) = 40532396646334464 * (r * r + 2 * r + 1) := by grind
    omega
  · have hrr : r * r ≤ 2 * 2 := sq_le hr0 (by omega)
    have h4 := sq_le (a := 1274975728) (b := t) (by omega) (by omega)
    omega

theorem circle_in : rng 0 (fun n => match f14 n, f14 (n + 64) with | some u, some v => decide (-23172 ≤ v * v + u * u - 268435456) && decide (v * v + u * u - 268435456 ≤ 23172) | _, _ => false) 256 = true := by kernel_rfl
theorem circle (a : Int) : -23172 ≤ sn (a + 64) * sn (a + 64) + sn a * sn a - 268435456 ∧ sn (a + 64) * sn (a + 64) + sn a * sn a - 268435456 ≤ 23172 := by
  have h := rng_get circle_in (a % 256) (by omega) (by omega)
  rw [f14_eq, f14_eq] at h
  simp only [Bool.and_eq_true, decide_eq_true_eq] at h
  rw [sn_mod, sn_congr (a := a % 256 + 64) (b := a + 64) (by omega)] at h
  exact h

theorem sq_nonneg (a : Int) : 0 ≤ a * a := by
  by_cases h : 0 ≤ a
  · exact Int.mul_nonneg h h
  · have := Int.mul_nonneg (by omega : 0 ≤ -a) (by omega : 0 ≤ -a)
    rwa [Int.neg_mul_neg] at this
theorem sq_bound {a M : Int} (h1 : -M ≤ a) (h2 : a ≤ M) : a * a ≤ M * M := by
  by_cases h : 0 ≤ a
  · exact sq_le h h2
  · have := sq_le (a := -a) (b := M) (by omega) (by omega)
    rwa [Int.neg_mul_neg] at this

/-- What a turn does to the distance from the origin. -/
theorem turn_dist {x y c s u v : Int} (hx : okP x) (hy : okP y) (hc : -23172 ≤ c * c + s * s - 268435456 ∧ c * c + s * s - 268435456 ≤ 23172)
    (hu : -16384 ≤ 2 * (16384 * u - (x * c + y * s)) ∧ 2 * (16384 * u - (x * c + y * s)) ≤ 16384) (hv : -16384 ≤ 2 * (16384 * v - (y * c - x * s)) ∧ 2 * (16384 * v - (y * c - x * s)) ≤ 16384)
    {D : Int} (hD : 9 < D) (hd : D = (u * u + v * v) - (x * x + y * y) ∨ D = (x * x + y * y) - (u * u + v * v)) : (D + 9) * (D + 9) ≤ 36 * (x * x + y * y) := by
  obtain ⟨e, he⟩ : ∃ e, e = 16384 * u - (x * c + y * s) := ⟨_, rfl⟩
  obtain ⟨f, hf⟩ : ∃ f, f = 16384 * v - (y * c - x * s) := ⟨_, rfl⟩
  obtain ⟨U, hU⟩ : ∃ U, U = x * c + y * s := ⟨_, rfl⟩
  obtain ⟨V, hV⟩ : ∃ V, V = y * c - x * s := ⟨_, rfl⟩
  rw [← he] at hu
  rw [← hf] at hv
  obtain ⟨n, hn⟩ : ∃ n, n = x * x + y * y := ⟨_, rfl⟩
  obtain ⟨k, hk⟩ : ∃ k, k = c * c + s * s - 268435456 := ⟨_, rfl⟩
  rw [← hk] at hc
  rw [← hn] at hd ⊢
  have n1 := sq_bound (M := 32768) hx.1 hx.2
  have n2 := sq_bound (M := 32768) hy.1 hy.2
  have n3 := sq_nonneg x
  have n4 := sq_nonneg y
  have n0 : 0 ≤ n := by omega
  have e1 := sq_bound (a := e) (M := 8192) (by omega) (by omega)
  have f1 := sq_bound (a := f) (M := 8192) (by omega) (by omega)
  have e2 := sq_nonneg e
  have f2 := sq_nonneg f
  obtain ⟨T, hT⟩ : ∃ T, T = e * U + f * V := ⟨_, rfl⟩
  have key : U * U + V * V = 268435456 * n + n * k := by rw [hU, hV, hn, hk]; grind
  have key2 : 268435456 * (u * u + v * v) = U * U + V * V + 2 * T + (e * e + f * f) := by
    have a1 : 16384 * u = U + e := by omega
    have a2 : 16384 * v = V + f := by omega
    have a3 : 268435456 * (u * u + v * v) = (16384 * u) * (16384 * u) + (16384 * v) * (16384 * v) := by grind
    rw [a3, a1, a2, hT]
    grind
  have lag : (e * e + f * f) * (U * U + V * V) - T * T = (e * V - f * U) * (e * V - f * U) := by rw [hT]; grind
  have lag2 := sq_nonneg (e * V - f * U)
  have nk1 : n * k ≤ n * 23172 := Int.mul_le_mul_of_nonneg_left hc.2 n0
  have nk2 : n * -23172 ≤ n * k := Int.mul_le_mul_of_nonneg_left hc.1 n0
  have N0 : 0 ≤ U * U + V * V := by have := sq_nonneg U; have := sq_nonneg V; omega
  have w1 : (e * e + f * f) * (U * U + V * V) ≤ 134217728 * (U * U + V * V) := Int.mul_le_mul_of_nonneg_right (by omega) N0
  have hTT : T * T ≤ 134217728 * (268458628 * n) := by omega
  by_cases hs : 0 ≤ T
  · exact core n0 (by omega) hD (t := T) hs (by omega) hTT
  · exact core n0 (by omega) hD (t := -T) (by omega) (by omega) (by rw [Int.neg_mul_neg]; exact hTT)

theorem f23_eq {n m : Int} (hn0 : 0 ≤ n) (hn : n ≤ 1000000000000) (hm0 : 0 ≤ m) (hm : m ≤ 1000000000000) (h : 9 < m - n → (m - n - 9) ≤ 4000000 ∧ (m - n - 9) * (m - n - 9) ≤ 36 * n) : f23 n m = some true := by
  unfold f23
  rw [w64 (n := m - n) (by omega) (by omega), w64 (n := m - n - 9) (by omega) (by omega), w64 (n := 36 * n) (by omega) (by omega)]
  by_cases h1 : m - n - 9 ≤ 0
  · simp [h1]
  · obtain ⟨h2, h3⟩ := h (by omega)
    have := sq_nonneg (m - n - 9)
    rw [w64 (n := (m - n - 9) * (m - n - 9)) (by omega) (by omega)]
    simp [h1, h2, h3]

theorem sn_quarters : sn 0 = 0 ∧ sn 64 = 16384 ∧ sn 128 = 0 ∧ sn 192 = -16384 ∧ sn (-64) = -16384 := by
  refine ⟨?_, ?_, ?_, ?_, ?_⟩ <;> (unfold sn; kernel_rfl)
theorem near_exact (x : Int) : near (x * 16384) 16384 = x := by
  unfold near
  (repeat' split) <;> omega
theorem near_exact' (x : Int) : near (x * -16384) 16384 = -x := by
  unfold near
  (repeat' split) <;> omega
theorem f22_in {x y a u v : Int} (hx : okP x) (hy : okP y) (h1 : tx x y a = u) (h2 : ty x y a = v) : f22 x y a u v = some true := by
  have k : f20 (nthI [x, y]) a = some (nthI [tx x y a, ty x y a], 0) := f20_in (p := nthI [x, y]) hx hy
  simp [f22, k, nthI, h1, h2]
theorem t_in {x y a : Int} (hx : okP x) (hy : okP y) : (-65537 ≤ tx x y a ∧ tx x y a ≤ 65537) ∧ -65537 ≤ ty x y a ∧ ty x y a ≤ 65537 := by
  have m1 := prods hx (a + 64)
  have m2 := prods hx a
  have m3 := prods hy (a + 64)
  have m4 := prods hy a
  have d1 := near_dist (a := x * sn (a + 64) + y * sn a) (b := 16384) (by omega)
  have d2 := near_dist (a := y * sn (a + 64) - x * sn a) (b := 16384) (by omega)
  unfold tx ty
  omega
theorem law9 (p : Nat → Int) (b : Int) : f9 p b = some true := by
  unfold f9
  rw [f20_nth]
  by_cases h : okP (p 0) ∧ okP (p 1)
  · obtain ⟨⟨u1, u2⟩, v1, v2⟩ := h
    have c1 : ¬ p 0 < -32768 := by omega
    have c2 : ¬ 32768 < p 0 := by omega
    have c3 : ¬ p 1 < -32768 := by omega
    have c4 : ¬ 32768 < p 1 := by omega
    have e0 : IntKind.i64.wrap (0 - p 0) = -p 0 := by rw [w64 (by omega) (by omega)]; omega
    have e1 : IntKind.i64.wrap (0 - p 1) = -p 1 := by rw [w64 (by omega) (by omega)]; omega
    obtain ⟨q0, q1, q2, q3, q4⟩ := sn_quarters
    have a1 : f22 (p 0) (p 1) 0 (p 0) (p 1) = some true := f22_in ⟨u1, u2⟩ ⟨v1, v2⟩ (by simp [tx, q0, q1, near_exact]) (by simp [ty, q0, q1, near_exact])
    have a2 : f22 (p 0) (p 1) 64 (p 1) (-p 0) = some true := f22_in ⟨u1, u2⟩ ⟨v1, v2⟩ (by simp [tx, q1, q2, near_exact]) (by simp [ty, q1, q2, near_neg, near_exact, near_exact'])
    have a3 : f22 (p 0) (p 1) 128 (-p 0) (-p 1) = some true := f22_in ⟨u1, u2⟩ ⟨v1, v2⟩ (by simp [tx, q2, q3, near_neg, near_exact, near_exact']) (by simp [ty, q2, q3, near_neg, near_exact, near_exact'])
    have a4 : f22 (p 0) (p 1) (-64) (-p 1) (p 0) = some true := f22_in ⟨u1, u2⟩ ⟨v1, v2⟩ (by simp [tx, q0, q4, near_neg, near_exact, near_exact']) (by simp [ty, q0, q4, near_neg, near_exact, near_exact'])
    obtain ⟨⟨b1, b2⟩, b3, b4⟩ := t_in (a := b) ⟨u1, u2⟩ ⟨v1, v2⟩
    have d1 : ¬ tx (p 0) (p 1) b < -100000 := by omega
    have d2 : ¬ 100000 < tx (p 0) (p 1) b := by omega
    have d3 : ¬ ty (p 0) (p 1) b < -100000 := by omega
    have d4 : ¬ 100000 < ty (p 0) (p 1) b := by omega
    have s1 := sq_bound (M := 32768) u1 u2
    have s2 := sq_bound (M := 32768) v1 v2
    have s3 := sq_bound (M := 65537) b1 b2
    have s4 := sq_bound (M := 65537) b3 b4
    have z1 := sq_nonneg (p 0)
    have z2 := sq_nonneg (p 1)
    have z3 := sq_nonneg (tx (p 0) (p 1) b)
    have z4 := sq_nonneg (ty (p 0) (p 1) b)
    have w1 : IntKind.i64.wrap (IntKind.i64.wrap (p 0 * p 0) + IntKind.i64.wrap (p 1 * p 1)) = p 0 * p 0 + p 1 * p 1 := by
      rw [w64 (n := p 0 * p 0) (by omega) (by omega), w64 (n := p 1 * p 1) (by omega) (by omega), w64 (by omega) (by omega)]
    have w2 : IntKind.i64.wrap (IntKind.i64.wrap (tx (p 0) (p 1) b * tx (p 0) (p 1) b) + IntKind.i64.wrap (ty (p 0) (p 1) b * ty (p 0) (p 1) b)) = tx (p 0) (p 1) b * tx (p 0) (p 1) b + ty (p 0) (p 1) b * ty (p 0) (p 1) b := by
      rw [w64 (n := tx (p 0) (p 1) b * tx (p 0) (p 1) b) (by omega) (by omega), w64 (n := ty (p 0) (p 1) b * ty (p 0) (p 1) b) (by omega) (by omega), w64 (by omega) (by omega)]
    have hu := near_dist (a := p 0 * sn (b + 64) + p 1 * sn b) (b := 16384) (by omega)
    have hv := near_dist (a := p 1 * sn (b + 64) - p 0 * sn b) (b := 16384) (by omega)
    have td := fun D h1 h2 => turn_dist (D := D) ⟨u1, u2⟩ ⟨v1, v2⟩ (circle b) (u := tx (p 0) (p 1) b) (v := ty (p 0) (p 1) b) hu hv h1 h2
    obtain ⟨n, hn⟩ : ∃ n, n = p 0 * p 0 + p 1 * p 1 := ⟨_, rfl⟩
    obtain ⟨m, hm⟩ : ∃ m, m = tx (p 0) (p 1) b * tx (p 0) (p 1) b + ty (p 0) (p 1) b * ty (p 0) (p 1) b := ⟨_, rfl⟩
    rw [← hn] at w1
    rw [← hm] at w2
    rw [← hn, ← hm] at td
    have lim : ∀ D : Int, 9 < D → (D + 9) * (D + 9) ≤ 36 * n → D ≤ 4000000 := by
      intro D hD hh
      apply Classical.byContradiction
      intro hc
      have := sq_le (a := 4000000) (b := D + 9) (by omega) (by omega)
      omega
    have n1 : f23 n m = some true := f23_eq (by omega) (by omega) (by omega) (by omega) (fun hd => by
      have t := td (m - n) hd (.inl rfl)
      have l := lim _ hd t
      have sq := sq_le (a := m - n - 9) (b := m - n + 9) (by omega) (by omega)
      exact ⟨by omega, by omega⟩)
    have n2 : f23 m n = some true := f23_eq (by omega) (by omega) (by omega) (by omega) (fun hd => by
      have t := td (n - m) hd (.inr rfl)
      have l := lim _ hd t
      refine ⟨by omega, ?_⟩
      have e : (n - m + 9) * (n - m + 9) = (n - m - 9) * (n - m - 9) + 36 * (n - m) := by grind
      omega)
    rw [f20_in ⟨u1, u2⟩ ⟨v1, v2⟩, e0, e1]
    simp only [Option.bind_some, a1, a2, a3, a4]
    simp [c1, c2, c3, c4, nthI, d1, d2, d3, d4, w1, w2, n1, n2]
  · rw [f20_out h]
    unfold okP at h
    by_cases c1 : p 0 < -32768
    · simp [c1]
    · by_cases c2 : 32768 < p 0
      · simp [c1, c2]
      · by_cases c3 : p 1 < -32768
        · simp [c1, c2, c3]
        · have c4 : 32768 < p 1 := by omega
          simp [c1, c2, c3, c4]
end Go.Proofs.YtimckeecmjiemaaDoor
