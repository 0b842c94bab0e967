/-
  THE PLAIN LAWS of chapter 17: what the contracts compute answers true.
-/
import Derived.Test.YtpfoanamlhgnkaaDoorVEq
import Derived.Test.YtpfoanamlhgnkaaDoorF
open Go Go.VE Go.Proofs
set_option maxRecDepth 1000000
set_option linter.unusedVariables false
set_option linter.unusedSimpArgs false
namespace Go.Proofs.YtpfoanamlhgnkaaDoor
theorem divide_eq {a b : Int} (hb : 0 < b) (hb2 : b ≤ 1125899906842624) (h1 : -1125899906842624 ≤ a) (h2 : a ≤ 1125899906842624) : f30 a b = some (a / b, a % b) := by
  have h0 : ¬ b = 0 := by omega
  have l1 := Int.tmod_lt_of_pos a hb
  have l2 : -b < a.tmod b := by
    have := Int.tmod_lt_of_pos (-a) hb
    rw [Int.neg_tmod] at this
    omega
  have q := ediv_small hb h1 h2 (by omega)
  unfold f30
  by_cases h : a.tmod b < 0
  · obtain ⟨e1, e2⟩ := down_neg hb h
    rw [w64 (n := a.tdiv b) (by omega) (by omega), w64 (by omega) (by omega), w64 (by omega) (by omega), e1, e2]
    simp [h0, h]
  · obtain ⟨e1, e2⟩ := down_pos hb h
    rw [w64 (n := a.tdiv b) (by omega) (by omega), ← e1, ← e2]
    simp [h0, h]
theorem nearest_eq {a b : Int} (hb : 0 < b) (hb2 : b ≤ 1125899906842624) (h1 : -1125899906842624 ≤ a) (h2 : a ≤ 1125899906842624) : f27 a b = some (near a b) := by
  have q := ediv_small hb h1 h2 (by omega)
  have r1 := Int.emod_nonneg a (by omega : b ≠ 0)
  have r2 := Int.emod_lt_of_pos a hb
  unfold f27
  simp only [divide_eq hb hb2 h1 h2, Option.bind_some]
  rw [w64 (n := 2 * (a % b)) (by omega) (by omega), w64 (n := a / b + 1) (by omega) (by omega)]
  unfold near
  by_cases c1 : b < 2 * (a % b)
  · simp [c1]
  · by_cases c2 : 2 * (a % b) = b
    · have := tmod2 (a / b)
      by_cases c3 : (a / b) % 2 = 0
      · simp [c2, this.2 c3, c3]
      · have c4 : ¬ (a / b).tmod 2 = 0 := fun hh => c3 (this.1 hh)
        simp [c2, c3, c4]
    · simp [c1, c2]
theorem round_eq {a b : Int} (hb : 0 < b) (hb2 : b ≤ 1125899906842624) (h1 : -1125899906842624 ≤ a) (h2 : a ≤ 1125899906842624) : f23 a b = some (near a b, 0) := by
  have c1 : ¬ a < -1125899906842624 := by omega
  have c2 : ¬ 1125899906842624 < a := by omega
  have c3 : ¬ b < -1125899906842624 := by omega
  have c4 : ¬ 1125899906842624 < b := by omega
  have c5 : ¬ b = 0 := by omega
  have c6 : ¬ b < 0 := by omega
  simp [f23, c1, c2, c3, c4, c5, c6, nearest_eq hb hb2 h1 h2]
theorem rdown_eq (a b : Int) : f31 a b = f30 a b := rfl
theorem rnearest_eq {a b : Int} (hb : 0 < b) (hb2 : b ≤ 1125899906842624) (h1 : -1125899906842624 ≤ a) (h2 : a ≤ 1125899906842624) : f29 a b = some (near a b) := by
  have q := ediv_small hb h1 h2 (by omega)
  have r1 := Int.emod_nonneg a (by omega : b ≠ 0)
  have r2 := Int.emod_lt_of_pos a hb
  unfold f29
  simp only [rdown_eq, divide_eq hb hb2 h1 h2, Option.bind_some]
  rw [w64 (n := b - a % b) (by omega) (by omega), w64 (n := a / b + 1) (by omega) (by omega)]
  unfold near
  by_cases c1 : b < 2 * (a % b)
  · have c1' : b - a % b < a % b := by omega
    simp [c1, c1']
  · have c1' : ¬ b - a % b < a % b := by omega
    by_cases c2 : 2 * (a % b) = b
    · have c2' : a % b = b - a % b := by omega
      have := tmod2 (a / b)
      by_cases c3 : (a / b) % 2 = 0
      · simp only [c1, c1', c2, c3, this.2 c3]
        simp [← c2']
      · have c4 : ¬ (a / b).tmod 2 = 0 := fun hh => c3 (this.1 hh)
        simp only [c1, c1', c2, c3, c4]
        simp [← c2']
    · have c2' : ¬ a % b = b - a % b := by omega
      simp [c1, c1', c2, c2']
theorem rround_eq {a b : Int} (hb : 0 < b) (hb2 : b ≤ 1125899906842624) (h1 : -1125899906842624 ≤ a) (h2 : a ≤ 1125899906842624) : f24 a b = some (near a b, 0) := by
  have c3 : -1125899906842624 ≤ b := by omega
  have c5 : ¬ b = 0 := by omega
  have c6 : ¬ b < 0 := by omega
  simp [f24, f28, h1, h2, c3, hb2, c5, c6, rnearest_eq hb hb2 h1 h2]
/-! The check of a build -/
abbrev okB (a : Nat → Int) : Prop := (400 ≤ a 0 ∧ a 0 ≤ 1500) ∧ (200 ≤ a 1 ∧ a 1 ≤ 1000) ∧ (50 ≤ a 2 ∧ a 2 ≤ 500) ∧ (200 ≤ a 3 ∧ a 3 ≤ 1200) ∧ (20 ≤ a 4 ∧ a 4 ≤ 300) ∧ (50 ≤ a 5 ∧ a 5 ≤ 400) ∧ (100 ≤ a 6 ∧ a 6 ≤ 1200) ∧
  (0 ≤ a 7 ∧ a 7 ≤ 200) ∧ (0 ≤ a 8 ∧ a 8 ≤ 200) ∧ (20 ≤ a 9 ∧ a 9 ≤ 300) ∧ (100 ≤ a 10 ∧ a 10 ≤ 1000) ∧ (1 ≤ a 11 ∧ a 11 ≤ 200000) ∧ (1 ≤ a 12 ∧ a 12 ≤ 200000) ∧ (1 ≤ a 13 ∧ a 13 ≤ 200000) ∧ (1 ≤ a 14 ∧ a 14 ≤ 200000)
theorem cr {x lo hi : Int} {K : Option Int} : cond (decide (x < lo)) (some 23) (cond (decide (hi < x)) (some 23) K) = if lo ≤ x ∧ x ≤ hi then K else some 23 := by
  by_cases h1 : x < lo
  · have : ¬ lo ≤ x := by omega
    simp [h1, this]
  · by_cases h2 : hi < x
    · have : ¬ x ≤ hi := by omega
      simp [h1, h2, this]
    · have h3 : lo ≤ x := by omega
      have h4 : x ≤ hi := by omega
      simp [h1, h2, h3, h4]
theorem br {x lo hi : Int} {K : Option Int} : (Option.bind (f20 x lo hi) fun r => cond (!r) (some 23) K) = if lo ≤ x ∧ x ≤ hi then K else some 23 := by
  unfold f20
  by_cases h1 : lo ≤ x
  · by_cases h2 : x ≤ hi <;> simp [h1, h2]
  · simp [h1]
theorem ck {p q : Prop} [Decidable p] [Decidable q] : (if p then some (if q then (0 : Int) else 23) else some 23) = some (if p ∧ q then 0 else 23) := by
  by_cases hp : p <;> by_cases hq : q <;> simp [hp, hq]
theorem ck1 {p : Prop} [Decidable p] : (if p then some (0 : Int) else some 23) = some (if p then 0 else 23) := by
  by_cases hp : p <;> simp [hp]
theorem f11_eq (a : Nat → Int) : f11 a = some (if okB a then 0 else 23) := by
  unfold f11 okB
  simp only [cr, ck1, ck]
theorem f10_eq (a : Nat → Int) : f10 a = some (if okB a then 0 else 23) := by
  unfold f10 okB
  simp only [br, ck1, ck]
theorem f11_in {a : Nat → Int} (h : okB a) : f11 a = some 0 := by rw [f11_eq, if_pos h]
theorem f10_in {a : Nat → Int} (h : okB a) : f10 a = some 0 := by rw [f10_eq, if_pos h]
theorem f11_out {a : Nat → Int} (h : ¬ okB a) : f11 a = some 23 := by rw [f11_eq, if_neg h]
theorem f10_out {a : Nat → Int} (h : ¬ okB a) : f10 a = some 23 := by rw [f10_eq, if_neg h]

/-! BuildCheck -/
theorem law3 (a : Nat → Int) (b : Int) : f3 a b = some true := by
  by_cases h : okB a
  · simp [f3, f10_in h, f11_in h]
  · simp [f3, f10_out h, f11_out h, f13, f14, f15, nthI, tab0]

/-! BuildMass -/
theorem law5 (a : Nat → Int) : f5 a = some true := by
  by_cases h : okB a
  · simp [f5, f14, f17, f10_in h, f11_in h]
  · simp [f5, f14, f17, f10_out h, f11_out h]

/-! Steps -/
theorem diag_eq {s : Int} (h : 100 ≤ s ∧ s ≤ 1200) : f23 (IntKind.i64.wrap (s * 11585)) 16384 = some (near (s * 11585) 16384, 0) := by
  rw [w64 (by omega) (by omega)]
  exact round_eq (by omega) (by omega) (by omega) (by omega)
theorem rdiag_eq {s : Int} (h : 100 ≤ s ∧ s ≤ 1200) : f24 (IntKind.i64.wrap (s * 11585)) 16384 = some (near (s * 11585) 16384, 0) := by
  rw [w64 (by omega) (by omega)]
  exact rround_eq (by omega) (by omega) (by omega) (by omega)
theorem diag_in {s : Int} (h : 100 ≤ s ∧ s ≤ 1200) : 70 ≤ near (s * 11585) 16384 ∧ near (s * 11585) 16384 ≤ 900 := by
  have := near_dist (a := s * 11585) (b := 16384) (by omega)
  omega
/-- The way of a step: s straight on, h to each side. -/
def stX (s h k : Int) : Int := if k = 0 then 0 else if k = 1 then h else if k = 2 then s else if k = 3 then h else if k = 4 then 0 else if k = 5 then -h else if k = 6 then -s else -h
def stY (s h k : Int) : Int := if k = 0 then s else if k = 1 then h else if k = 2 then 0 else if k = 3 then -h else if k = 4 then -s else if k = 5 then -h else if k = 6 then 0 else h
theorem wneg {x : Int} (h : -1000000 ≤ x ∧ x ≤ 1000000) : IntKind.i64.wrap (0 - x) = -x := by rw [w64 (by omega) (by omega)]; omega
theorem wnegneg {x : Int} (h : -1000000 ≤ x ∧ x ≤ 1000000) : IntKind.i64.wrap (0 - -x) = x := by rw [wneg (by omega)]; omega
theorem f13_in {a : Nat → Int} (ha : okB a) {k : Int} (hk : 0 ≤ k ∧ k ≤ 7) : f13 a k = some (nthI [stX (a 6) (near (a 6 * 11585) 16384) k, stY (a 6) (near (a 6 * 11585) 16384) k], 0) := by
  have h6 : 100 ≤ a 6 ∧ a 6 ≤ 1200 := ha.2.2.2.2.2.2.1
  have hd := diag_in h6
  unfold f13
  rw [f11_in ha, diag_eq h6]
  obtain ⟨h, hh⟩ : ∃ h, h = near (a 6 * 11585) 16384 := ⟨_, rfl⟩
  rw [← hh] at hd ⊢
  obtain ⟨s, hs⟩ : ∃ s, s = a 6 := ⟨_, rfl⟩
  rw [← hs] at h6 ⊢
  simp only [Option.bind_some, wnegneg (x := h) (by omega), wneg (x := h) (by omega), wneg (x := s) (by omega)]
  rcases (by omega : k = 0 ∨ k = 1 ∨ k = 2 ∨ k = 3 ∨ k = 4 ∨ k = 5 ∨ k = 6 ∨ k = 7) with rfl | rfl | rfl | rfl | rfl | rfl | rfl | rfl <;> rfl
theorem f16_in {a : Nat → Int} (ha : okB a) {k : Int} (hk : 0 ≤ k ∧ k ≤ 7) : f16 a k = some (nthI [stX (a 6) (near (a 6 * 11585) 16384) k, stY (a 6) (near (a 6 * 11585) 16384) k], 0) := by
  have h6 : 100 ≤ a 6 ∧ a 6 ≤ 1200 := ha.2.2.2.2.2.2.1
  have hd := diag_in h6
  unfold f16
  rw [f10_in ha, rdiag_eq h6]
  obtain ⟨h, hh⟩ : ∃ h, h = near (a 6 * 11585) 16384 := ⟨_, rfl⟩
  rw [← hh] at hd ⊢
  obtain ⟨s, hs⟩ : ∃ s, s = a 6 := ⟨_, rfl⟩
  rw [← hs] at h6 ⊢
  simp only [Option.bind_some, wneg (x := h) (by omega), wneg (x := s) (by omega)]
  rcases (by omega : k = 0 ∨ k = 1 ∨ k = 2 ∨ k = 3 ∨ k = 4 ∨ k = 5 ∨ k = 6 ∨ k = 7) with rfl | rfl | rfl | rfl | rfl | rfl | rfl | rfl <;> rfl
theorem f13_range {a : Nat → Int} (ha : okB a) {k : Int} (hk : ¬ (0 ≤ k ∧ k ≤ 7)) : f13 a k = some (nthI [0, 0], 1) := by
  unfold f13
  rw [f11_in ha]
  by_cases h1 : k < 0
  · simp [h1]
  · have h2 : 7 < k := by omega
    simp [h1, h2]
theorem f16_range {a : Nat → Int} (ha : okB a) {k : Int} (hk : ¬ (0 ≤ k ∧ k ≤ 7)) : f16 a k = some (nthI [0, 0], 1) := by
  unfold f16
  rw [f10_in ha]
  by_cases h1 : k < 0
  · simp [h1]
  · have h2 : 7 < k := by omega
    simp [h1, h2]
theorem f13_out {a : Nat → Int} (ha : ¬ okB a) (k : Int) : f13 a k = some (nthI [0, 0], 23) := by simp [f13, f11_out ha]
theorem f16_out {a : Nat → Int} (ha : ¬ okB a) (k : Int) : f16 a k = some (nthI [0, 0], 23) := by simp [f16, f10_out ha]
/-! BuildStep -/
theorem law4 (a : Nat → Int) (b : Int) : f4 a b = some true := by
  by_cases h : okB a
  · by_cases hb : 0 ≤ b ∧ b ≤ 7
    · simp [f4, f13_in h hb, f16_in h hb]
    · simp [f4, f13_range h hb, f16_range h hb]
  · simp [f4, f13_out h, f16_out h]

/-! BuildSteps -/
theorem u8_small {a : Int} (h : IntKind.u8.has a) : 0 ≤ a ∧ a < 256 := by
  have h1 : IntKind.u8.min ≤ a := h.1
  have h2 : a ≤ IntKind.u8.max := h.2
  have e1 : IntKind.u8.min = 0 := by decide
  have e2 : IntKind.u8.max = 255 := by decide
  omega
theorem law7 (a : Nat → Int) (b : Int) (hb : IntKind.u8.has b) : f7 a b = some true := by
  have hb := u8_small hb
  have eb : IntKind.i64.wrap (b.tmod 8) = b % 8 := by rw [tmod_nonneg_eq hb.1, w64 (by omega) (by omega)]
  have e4 : (IntKind.i64.wrap (b % 8 + 4)).tmod 8 = (b % 8 + 4) % 8 := by rw [w64 (by omega) (by omega), tmod_nonneg_eq (by omega)]
  have e2 : (IntKind.i64.wrap (b % 8 + 2)).tmod 8 = (b % 8 + 2) % 8 := by rw [w64 (by omega) (by omega), tmod_nonneg_eq (by omega)]
  have e8 : (IntKind.i64.wrap (8 - b % 8)).tmod 8 = (8 - b % 8) % 8 := by rw [w64 (by omega) (by omega), tmod_nonneg_eq (by omega)]
  by_cases h : okB a
  · have h6 : 100 ≤ a 6 ∧ a 6 ≤ 1200 := h.2.2.2.2.2.2.1
    have hd := diag_in h6
    unfold f7
    rw [f11_in h, eb, e4, e2, e8, f13_in h (by omega), f13_in h (by omega), f13_in h (by omega), f13_in h (by omega)]
    obtain ⟨k, hk⟩ : ∃ k, k = b % 8 := ⟨_, rfl⟩
    rw [← hk]
    obtain ⟨x, hh⟩ : ∃ x, x = near (a 6 * 11585) 16384 := ⟨_, rfl⟩
    rw [← hh] at hd ⊢
    obtain ⟨s, hs⟩ : ∃ s, s = a 6 := ⟨_, rfl⟩
    rw [← hs] at h6 ⊢
    have n1 : IntKind.i64.wrap (- -x) = x := by rw [w64 (by omega) (by omega)]; omega
    have n2 : IntKind.i64.wrap (- -s) = s := by rw [w64 (by omega) (by omega)]; omega
    have n3 : IntKind.i64.wrap (-x) = -x := w64 (by omega) (by omega)
    have n4 : IntKind.i64.wrap (-s) = -s := w64 (by omega) (by omega)
    have n5 : IntKind.i64.wrap x = x := w64 (by omega) (by omega)
    have n6 : IntKind.i64.wrap s = s := w64 (by omega) (by omega)
    have n0 : IntKind.i64.wrap 0 = 0 := by decide
    rcases (by omega : k = 0 ∨ k = 1 ∨ k = 2 ∨ k = 3 ∨ k = 4 ∨ k = 5 ∨ k = 6 ∨ k = 7) with rfl | rfl | rfl | rfl | rfl | rfl | rfl | rfl <;> simp [stX, stY, nthI, n0, n1, n2, n3, n4, n5, n6]
  · simp [f7, f11_out h]
/-! BuildLength -/
def bod (s : Int) : Nat → Int := nthI [400, 200, 50, 200, 20, 50, s, 0, 0, 20, 100, 1, 1, 1, 1]
theorem bod_ok {s : Int} (h : 100 ≤ s ∧ s ≤ 1200) : okB (bod s) := by
  simp [okB, bod, nthI, h]
theorem law8_in : rng 100 (fun s => rng 0 (fun k => isT (f8 (bod s) k)) 8) 1101 = true := by kernel_rfl
theorem f8_red {a : Nat → Int} (ha : okB a) {b : Int} (hb : 0 ≤ b) : f8 a b = f8 (bod (a 6)) (b % 8) := by
  have h6 : 100 ≤ a 6 ∧ a 6 ≤ 1200 := ha.2.2.2.2.2.2.1
  have e1 : IntKind.i64.wrap (b.tmod 8) = b % 8 := by rw [tmod_nonneg_eq hb, w64 (by omega) (by omega)]
  have e2 : IntKind.i64.wrap ((b % 8).tmod 8) = b % 8 := by rw [tmod_nonneg_eq (by omega), w64 (by omega) (by omega)]; omega
  unfold f8
  rw [f11_in ha, f11_in (bod_ok h6), e1, e2, f13_in ha (by omega), f13_in (bod_ok h6) (by omega)]
  rfl
theorem law8 (a : Nat → Int) (b : Int) (hb : IntKind.u8.has b) : f8 a b = some true := by
  have hb := u8_small hb
  by_cases h : okB a
  · have h6 : 100 ≤ a 6 ∧ a 6 ≤ 1200 := h.2.2.2.2.2.2.1
    rw [f8_red h hb.1]
    exact isT_eq (rng_get (rng_get law8_in (a 6) (by omega) (by omega)) (b % 8) (by omega) (by omega))
  · simp [f8, f11_out h]

/-! BuildScaled -/
theorem prod_in {x b : Int} (hx : 0 ≤ x ∧ x ≤ 1500) (hb : 500 ≤ b ∧ b ≤ 2000) : 0 ≤ x * b ∧ x * b ≤ 3000000 := by
  have h1 := Int.mul_nonneg hx.1 (by omega : 0 ≤ b)
  have h2 : x * b ≤ 1500 * b := Int.mul_le_mul_of_nonneg_right hx.2 (by omega)
  omega
theorem sc_eq {x b : Int} (hx : 0 ≤ x ∧ x ≤ 1500) (hb : 500 ≤ b ∧ b ≤ 2000) : f23 (IntKind.i64.wrap (x * b)) 1000 = some (near (x * b) 1000, 0) := by
  have := prod_in hx hb
  rw [w64 (by omega) (by omega)]
  exact round_eq (by omega) (by omega) (by omega) (by omega)
theorem rsc_eq {x b : Int} (hx : 0 ≤ x ∧ x ≤ 1500) (hb : 500 ≤ b ∧ b ≤ 2000) : f25 x b = some (near (x * b) 1000) := by
  have := prod_in hx hb
  unfold f25
  rw [w64 (by omega) (by omega), rround_eq (by omega) (by omega) (by omega) (by omega)]
  rfl
def sv (a : Nat → Int) (b : Int) : Nat → Int := nthI [near (a 0 * b) 1000, near (a 1 * b) 1000, near (a 2 * b) 1000, near (a 3 * b) 1000, near (a 4 * b) 1000, near (a 5 * b) 1000, near (a 6 * b) 1000, near (a 7 * b) 1000, near (a 8 * b) 1000, near (a 9 * b) 1000, near (a 10 * b) 1000, a 11, a 12, a 13, a 14]
theorem ok_small {a : Nat → Int} (h : okB a) : (0 ≤ a 0 ∧ a 0 ≤ 1500) ∧ (0 ≤ a 1 ∧ a 1 ≤ 1500) ∧ (0 ≤ a 2 ∧ a 2 ≤ 1500) ∧ (0 ≤ a 3 ∧ a 3 ≤ 1500) ∧ (0 ≤ a 4 ∧ a 4 ≤ 1500) ∧ (0 ≤ a 5 ∧ a 5 ≤ 1500) ∧ (0 ≤ a 6 ∧ a 6 ≤ 1500) ∧ (0 ≤ a 7 ∧ a 7 ≤ 1500) ∧ (0 ≤ a 8 ∧ a 8 ≤ 1500) ∧ (0 ≤ a 9 ∧ a 9 ≤ 1500) ∧ (0 ≤ a 10 ∧ a 10 ≤ 1500) := by
  unfold okB at h
  omega
theorem f15_in {a : Nat → Int} (ha : okB a) {b : Int} (hb : 500 ≤ b ∧ b ≤ 2000) : f15 a b = if okB (sv a b) then some (sv a b, 0) else some (nthI tab0, 23) := by
  obtain ⟨s0, s1, s2, s3, s4, s5, s6, s7, s8, s9, s10⟩ := ok_small ha
  have h1 : ¬ b < 500 := by omega
  have h2 : ¬ 2000 < b := by omega
  unfold f15
  rw [f11_in ha, sc_eq s0 hb, sc_eq s1 hb, sc_eq s2 hb, sc_eq s3 hb, sc_eq s4 hb, sc_eq s5 hb, sc_eq s6 hb, sc_eq s7 hb, sc_eq s8 hb, sc_eq s9 hb, sc_eq s10 hb]
  simp only [Option.bind_some]
  show _ = if okB (sv a b) then _ else _
  have e : (nthI [near (a 0 * b) 1000, near (a 1 * b) 1000, near (a 2 * b) 1000, near (a 3 * b) 1000, near (a 4 * b) 1000, near (a 5 * b) 1000, near (a 6 * b) 1000, near (a 7 * b) 1000, near (a 8 * b) 1000, near (a 9 * b) 1000, near (a 10 * b) 1000, a 11, a 12, a 13, a 14]) = sv a b := rfl
  rw [e]
  by_cases h : okB (sv a b)
  · rw [f11_in h, if_pos h]
    simp [h1, h2]
  · rw [f11_out h, if_neg h]
    simp [h1, h2]
theorem f18_in {a : Nat → Int} (ha : okB a) {b : Int} (hb : 500 ≤ b ∧ b ≤ 2000) : f18 a b = if okB (sv a b) then some (sv a b, 0) else some (nthI tab0, 23) := by
  obtain ⟨s0, s1, s2, s3, s4, s5, s6, s7, s8, s9, s10⟩ := ok_small ha
  have h1 : ¬ b < 500 := by omega
  have h2 : ¬ 2000 < b := by omega
  unfold f18
  rw [f10_in ha, rsc_eq s0 hb, rsc_eq s1 hb, rsc_eq s2 hb, rsc_eq s3 hb, rsc_eq s4 hb, rsc_eq s5 hb, rsc_eq s6 hb, rsc_eq s7 hb, rsc_eq s8 hb, rsc_eq s9 hb, rsc_eq s10 hb]
  simp only [Option.bind_some]
  have e : (nthI [near (a 0 * b) 1000, near (a 1 * b) 1000, near (a 2 * b) 1000, near (a 3 * b) 1000, near (a 4 * b) 1000, near (a 5 * b) 1000, near (a 6 * b) 1000, near (a 7 * b) 1000, near (a 8 * b) 1000, near (a 9 * b) 1000, near (a 10 * b) 1000, a 11, a 12, a 13, a 14]) = sv a b := rfl
  rw [e]
  by_cases h : okB (sv a b)
  · rw [f10_in h, if_pos h]
    simp [h1, h2]
  · rw [f10_out h, if_neg h]
    simp [h1, h2]
theorem f15_range {a : Nat → Int} (ha : okB a) {b : Int} (hb : ¬ (500 ≤ b ∧ b ≤ 2000)) : f15 a b = some (nthI tab0, 1) := by
  unfold f15
  rw [f11_in ha]
  by_cases h1 : b < 500
  · simp [h1]
  · have h2 : 2000 < b := by omega
    simp [h1, h2]
theorem f18_range {a : Nat → Int} (ha : okB a) {b : Int} (hb : ¬ (500 ≤ b ∧ b ≤ 2000)) : f18 a b = some (nthI tab0, 1) := by
  unfold f18
  rw [f10_in ha]
  by_cases h1 : b < 500
  · simp [h1]
  · have h2 : 2000 < b := by omega
    simp [h1, h2]
theorem law6 (a : Nat → Int) (b : Int) : f6 a b = some true := by
  by_cases h : okB a
  · by_cases hb : 500 ≤ b ∧ b ≤ 2000
    · unfold f6
      rw [f15_in h hb, f18_in h hb]
      by_cases h2 : okB (sv a b)
      · rw [if_pos h2]
        simp
      · rw [if_neg h2]
        simp
    · simp [f6, f15_range h hb, f18_range h hb]
  · have e1 : f15 a b = some (nthI tab0, 23) := by simp [f15, f11_out h]
    have e2 : f18 a b = some (nthI tab0, 23) := by simp [f18, f10_out h]
    simp [f6, e1, e2]

/-! BuildGrows -/
theorem near_exact (x : Int) : near (x * 1000) 1000 = x := by
  unfold near
  (repeat' split) <;> omega
theorem near_mono {x y : Int} (h : x ≤ y) : near x 1000 ≤ near y 1000 := by
  by_cases e : x = y
  · rw [e]; exact Int.le_refl _
  · have h1 := near_dist (a := x) (b := 1000) (by omega)
    have h2 := near_dist (a := y) (b := 1000) (by omega)
    omega
theorem grow {x b c : Int} (hx : 0 ≤ x ∧ x ≤ 1500) (h : b ≤ c) : near (x * b) 1000 ≤ near (x * c) 1000 := near_mono (Int.mul_le_mul_of_nonneg_left h hx.1)
theorem sv_1000 (a : Nat → Int) : sv a 1000 = nthI [a 0, a 1, a 2, a 3, a 4, a 5, a 6, a 7, a 8, a 9, a 10, a 11, a 12, a 13, a 14] := by
  unfold sv
  simp only [near_exact]
theorem f19_in {a : Nat → Int} (ha : okB a) {b c : Int} (h : b ≤ c) : f19 (sv a b) (sv a c) = some true := by
  obtain ⟨s0, s1, s2, s3, s4, s5, s6, s7, s8, s9, s10⟩ := ok_small ha
  have g0 := grow s0 h
  have g1 := grow s1 h
  have g2 := grow s2 h
  have g3 := grow s3 h
  have g4 := grow s4 h
  have g5 := grow s5 h
  have g6 := grow s6 h
  have g7 := grow s7 h
  have g8 := grow s8 h
  have g9 := grow s9 h
  have g10 := grow s10 h
  unfold f19
  show (cond (decide (near (a 0 * c) 1000 < near (a 0 * b) 1000)) _ (cond (decide (near (a 1 * c) 1000 < near (a 1 * b) 1000)) _ (cond (decide (near (a 2 * c) 1000 < near (a 2 * b) 1000)) _ (cond (decide (near (a 3 * c) 1000 < near (a 3 * b) 1000)) _
    (cond (decide (near (a 4 * c) 1000 < near (a 4 * b) 1000)) _ (cond (decide (near (a 5 * c) 1000 < near (a 5 * b) 1000)) _ (cond (decide (near (a 6 * b) 1000 ≤ near (a 6 * c) 1000)) (cond (decide (near (a 7 * b) 1000 ≤ near (a 7 * c) 1000))
    (cond (decide (near (a 8 * b) 1000 ≤ near (a 8 * c) 1000)) (cond (decide (near (a 9 * b) 1000 ≤ near (a 9 * c) 1000)) (some (decide (near (a 10 * b) 1000 ≤ near (a 10 * c) 1000))) _) _) _) _)))))) : Option Bool) = _
  have n0 := Int.not_lt.2 g0
  have n1 := Int.not_lt.2 g1
  have n2 := Int.not_lt.2 g2
  have n3 := Int.not_lt.2 g3
  have n4 := Int.not_lt.2 g4
  have n5 := Int.not_lt.2 g5
  simp only [n0, n1, n2, n3, n4, n5, g6, g7, g8, g9, g10, decide_true, decide_false, cond_true, cond_false]
theorem sv_masses (a : Nat → Int) (b : Int) : sv a b 11 = a 11 ∧ sv a b 12 = a 12 ∧ sv a b 13 = a 13 ∧ sv a b 14 = a 14 := ⟨rfl, rfl, rfl, rfl⟩
theorem law9 (a : Nat → Int) (b c : Int) : f9 a b c = some true := by
  by_cases h : okB a
  · have e0 : f15 a 1000 = some (nthI [a 0, a 1, a 2, a 3, a 4, a 5, a 6, a 7, a 8, a 9, a 10, a 11, a 12, a 13, a 14], 0) := by
      rw [f15_in h (by omega), sv_1000, if_pos (by exact h)]
    unfold f9
    rw [f11_in h, e0]
    simp only [Option.bind_some]
    by_cases hb : 500 ≤ b ∧ b ≤ 2000
    · rw [f15_in h hb]
      by_cases h2 : okB (sv a b)
      · by_cases hc : 500 ≤ c ∧ c ≤ 2000
        · rw [f15_in h hc]
          by_cases h3 : okB (sv a c)
          · rw [if_pos h2, if_pos h3]
            simp only [Option.bind_some, f11_in h2, f11_in h3]
            by_cases hl : c < b
            · simp [hl, nthI]
            · obtain ⟨m1, m2, m3, m4⟩ := sv_masses a b
              simp [hl, nthI, f19_in h (Int.not_lt.1 hl), m1, m2, m3, m4]
          · rw [if_pos h2, if_neg h3]
            simp [nthI]
        · rw [f15_range h hc, if_pos h2]
          simp [nthI]
      · rw [if_neg h2]
        by_cases hc : 500 ≤ c ∧ c ≤ 2000
        · rw [f15_in h hc]
          by_cases h3 : okB (sv a c)
          · rw [if_pos h3]
            simp [nthI]
          · rw [if_neg h3]
            simp [nthI]
        · rw [f15_range h hc]
          simp [nthI]
    · rw [f15_range h hb]
      by_cases hc : 500 ≤ c ∧ c ≤ 2000
      · rw [f15_in h hc]
        by_cases h3 : okB (sv a c)
        · rw [if_pos h3]
          simp [nthI]
        · rw [if_neg h3]
          simp [nthI]
      · rw [f15_range h hc]
        simp [nthI]
  · simp [f9, f11_out h]
end Go.Proofs.YtpfoanamlhgnkaaDoor
