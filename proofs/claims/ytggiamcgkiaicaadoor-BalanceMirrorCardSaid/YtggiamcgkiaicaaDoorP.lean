/-
  PLAIN LEMMAS about the contracts, shared by the laws.
-/
import Derived.Test.YtggiamcgkiaicaaDoorVEq
import Derived.Test.YtggiamcgkiaicaaDoorFc
open Go Go.VE Go.Proofs
set_option maxRecDepth 1000000
set_option maxHeartbeats 0
set_option linter.unusedVariables false
set_option linter.unusedSimpArgs false
namespace Go.Proofs.YtggiamcgkiaicaaDoor
theorem divide_eq {a b : Int} (hb : 0 < b) (hb2 : b ≤ 1125899906842624) (h1 : -1125899906842624 ≤ a) (h2 : a ≤ 1125899906842624) : f86 a b = some (a / b, a % b) := by
  have h0 : ¬ b = 0 := by omega
  have l1 := Int.tmod_lt_of_pos a hb
  have l2 : -b < a.tmod b := by
    have := Int.tmod_lt_of_pos (-a) hb
    rw [Int.neg_tmod] at this
    omega
  have q := ediv_small hb h1 h2 (by omega)
  unfold f86
  by_cases h : a.tmod b < 0
  · obtain ⟨e1, e2⟩ := down_neg hb h
    rw [w64 (n := a.tdiv b) (by omega) (by omega), w64 (by omega) (by omega), w64 (by omega) (by omega), e1, e2]
    simp [h0, h]
  · obtain ⟨e1, e2⟩ := down_pos hb h
    rw [w64 (n := a.tdiv b) (by omega) (by omega), ← e1, ← e2]
    simp [h0, h]
theorem nearest_eq {a b : Int} (hb : 0 < b) (hb2 : b ≤ 1125899906842624) (h1 : -1125899906842624 ≤ a) (h2 : a ≤ 1125899906842624) : f71 a b = some (near a b) := by
  have q := ediv_small hb h1 h2 (by omega)
  have r1 := Int.emod_nonneg a (by omega : b ≠ 0)
  have r2 := Int.emod_lt_of_pos a hb
  unfold f71
  simp only [divide_eq hb hb2 h1 h2, Option.bind_some]
  rw [w64 (n := 2 * (a % b)) (by omega) (by omega), w64 (n := a / b + 1) (by omega) (by omega)]
  unfold near
  by_cases c1 : b < 2 * (a % b)
  · simp [c1]
  · by_cases c2 : 2 * (a % b) = b
    · have := tmod2 (a / b)
      by_cases c3 : (a / b) % 2 = 0
      · simp [c2, this.2 c3, c3]
      · have c4 : ¬ (a / b).tmod 2 = 0 := fun hh => c3 (this.1 hh)
        simp [c2, c3, c4]
    · simp [c1, c2]
theorem round_eq {a b : Int} (hb : 0 < b) (hb2 : b ≤ 1125899906842624) (h1 : -1125899906842624 ≤ a) (h2 : a ≤ 1125899906842624) : f50 a b = some (near a b, 0) := by
  have c1 : ¬ a < -1125899906842624 := by omega
  have c2 : ¬ 1125899906842624 < a := by omega
  have c3 : ¬ b < -1125899906842624 := by omega
  have c4 : ¬ 1125899906842624 < b := by omega
  have c5 : ¬ b = 0 := by omega
  have c6 : ¬ b < 0 := by omega
  simp [f50, c1, c2, c3, c4, c5, c6, nearest_eq hb hb2 h1 h2]
theorem rdown_eq (a b : Int) : f77 a b = f86 a b := rfl
theorem rnearest_eq {a b : Int} (hb : 0 < b) (hb2 : b ≤ 1125899906842624) (h1 : -1125899906842624 ≤ a) (h2 : a ≤ 1125899906842624) : f60 a b = some (near a b) := by
  have q := ediv_small hb h1 h2 (by omega)
  have r1 := Int.emod_nonneg a (by omega : b ≠ 0)
  have r2 := Int.emod_lt_of_pos a hb
  unfold f60
  simp only [rdown_eq, divide_eq hb hb2 h1 h2, Option.bind_some]
  rw [w64 (n := b - a % b) (by omega) (by omega), w64 (n := a / b + 1) (by omega) (by omega)]
  unfold near
  by_cases c1 : b < 2 * (a % b)
  · have c1' : b - a % b < a % b := by omega
    simp [c1, c1']
  · have c1' : ¬ b - a % b < a % b := by omega
    by_cases c2 : 2 * (a % b) = b
    · have c2' : a % b = b - a % b := by omega
      have := tmod2 (a / b)
      by_cases c3 : (a / b) % 2 = 0
      · simp only [c1, c1', c2, c3, this.2 c3]
        simp [← c2']
      · have c4 : ¬ (a / b).tmod 2 = 0 := fun hh => c3 (this.1 hh)
        simp only [c1, c1', c2, c3, c4]
        simp [← c2']
    · have c2' : ¬ a % b = b - a % b := by omega
      simp [c1, c1', c2, c2']
theorem rround_eq {a b : Int} (hb : 0 < b) (hb2 : b ≤ 1125899906842624) (h1 : -1125899906842624 ≤ a) (h2 : a ≤ 1125899906842624) : f29 a b = some (near a b, 0) := by
  have c3 : -1125899906842624 ≤ b := by omega
  have c5 : ¬ b = 0 := by omega
  have c6 : ¬ b < 0 := by omega
  simp [f29, f59, h1, h2, c3, hb2, c5, c6, rnearest_eq hb hb2 h1 h2]
theorem norm_eq (a : Int) : f66 a = some (a % 256) := by
  unfold f66
  have h : (IntKind.i64.wrap (a.tmod 256 + 256)).tmod 256 = a % 256 := by
    have hb : -256 < a.tmod 256 ∧ a.tmod 256 < 256 := tmod_bounds a 256 (by omega)
    rw [w64 (by omega) (by omega), tmod_nonneg_eq (by omega)]
    rcases tmod_cases a 256 with ⟨_, h⟩ | ⟨_, h⟩ <;> omega
  rw [h]
theorem rnorm_eq (a : Int) : f89 a = some (a % 256) := by
  unfold f89
  have hb : -256 < a.tmod 256 ∧ a.tmod 256 < 256 := tmod_bounds a 256 (by omega)
  by_cases h : a.tmod 256 < 0
  · rw [w64 (by omega) (by omega)]
    rcases tmod_cases a 256 with ⟨_, h2⟩ | ⟨_, h2⟩
    · omega
    · simp only [h, decide_true, cond_true]
      rw [show a.tmod 256 + 256 = a % 256 by omega]
  · rcases tmod_cases a 256 with ⟨_, h2⟩ | ⟨_, h2⟩
    · simp only [h, decide_false, cond_false]
      rw [h2]
    · simp only [h, decide_false, cond_false]
      rw [show a.tmod 256 = a % 256 by omega]
theorem sin_mod (a : Int) : f85 a = f85 (a % 256) := by
  unfold f85
  simp only [norm_eq, Int.emod_emod_of_dvd _ (Int.dvd_refl 256)]
theorem rsin_mod (a : Int) : f91 a = f91 (a % 256) := by
  unfold f91
  simp only [rnorm_eq, Int.emod_emod_of_dvd _ (Int.dvd_refl 256)]
theorem cos_eq0 (a : Int) : f84 a = f85 (a % 256 + 64) := by
  unfold f84
  simp only [norm_eq, Option.bind_some]
  rw [w64 (by omega) (by omega)]
  cases f85 (a % 256 + 64) <;> rfl
theorem rcos_eq0 (a : Int) : f90 a = f91 (a % 256 + 64) := by
  unfold f90
  simp only [rnorm_eq, Option.bind_some]
  rw [w64 (by omega) (by omega)]
  cases f91 (a % 256 + 64) <;> rfl

/-- The sine, as a number. -/
noncomputable def sn (a : Int) : Int := (f85 a).getD 0
theorem sn_in : rng 0 (fun n => match f85 n with | some v => decide (-16384 ≤ v) && decide (v ≤ 16384) && (match f91 n with | some u => decide (u = v) | none => false) | none => false) 256 = true := by kernel_rfl
theorem sn_get (a : Int) : f85 a = some (sn a) ∧ f91 a = some (sn a) ∧ -16384 ≤ sn a ∧ sn a ≤ 16384 := by
  have h := rng_get sn_in (a % 256) (by omega) (by omega)
  rw [← sin_mod, ← rsin_mod] at h
  unfold sn
  cases h1 : f85 a with
  | none => simp [h1] at h
  | some v =>
    cases h2 : f91 a with
    | none => simp [h1, h2] at h
    | some u =>
      simp [h1, h2] at h
      obtain ⟨⟨h3, h4⟩, h5⟩ := h
      exact ⟨rfl, by rw [h5]; rfl, h3, h4⟩
theorem sin_eq (a : Int) : f85 a = some (sn a) := (sn_get a).1
theorem rsin_eq (a : Int) : f91 a = some (sn a) := (sn_get a).2.1
theorem sn_mod (a : Int) : sn (a % 256) = sn a := by
  unfold sn
  rw [← sin_mod]
theorem sn_congr {a b : Int} (h : a % 256 = b % 256) : sn a = sn b := by rw [← sn_mod a, ← sn_mod b, h]
theorem cos_eq (a : Int) : f84 a = some (sn (a + 64)) := by
  rw [cos_eq0, sin_eq, sn_congr (b := a + 64) (by omega)]
theorem rcos_eq (a : Int) : f90 a = some (sn (a + 64)) := by
  rw [rcos_eq0, rsin_eq, sn_congr (b := a + 64) (by omega)]

theorem amirror_eq (a : Int) : f39 a = some ((-a) % 256) := by
  unfold f39
  simp only [norm_eq, Option.bind_some]
  rw [w64 (by omega) (by omega)]
  rw [show (0 - a % 256) % 256 = (-a) % 256 by omega]

theorem mul_bound {x y A B : Int} (hx : -A ≤ x ∧ x ≤ A) (hy : -B ≤ y ∧ y ≤ B) : -(A * B) ≤ x * y ∧ x * y ≤ A * B := by
  have hA : 0 ≤ A := by omega
  have hB : 0 ≤ B := by omega
  by_cases h : 0 ≤ x
  · have a1 : x * y ≤ x * B := Int.mul_le_mul_of_nonneg_left hy.2 h
    have a2 : x * B ≤ A * B := Int.mul_le_mul_of_nonneg_right hx.2 hB
    have a3 : x * -B ≤ x * y := Int.mul_le_mul_of_nonneg_left hy.1 h
    rw [Int.mul_neg] at a3
    omega
  · have h' : 0 ≤ -x := by omega
    have a1 : -x * y ≤ -x * B := Int.mul_le_mul_of_nonneg_left hy.2 h'
    have a2 : -x * B ≤ A * B := Int.mul_le_mul_of_nonneg_right (by omega) hB
    have a3 : -x * -B ≤ -x * y := Int.mul_le_mul_of_nonneg_left hy.1 h'
    rw [Int.mul_neg] at a3
    rw [Int.neg_mul] at *
    rw [Int.neg_mul] at *
    omega
/-- Both coordinates, turned. -/
noncomputable def tx (x y a : Int) : Int := near (x * sn (a + 64) + y * sn a) 16384
noncomputable def ty (x y a : Int) : Int := near (y * sn (a + 64) - x * sn a) 16384
abbrev okP (x : Int) : Prop := -32768 ≤ x ∧ x ≤ 32768
theorem prods {x : Int} (hx : okP x) (a : Int) : -536870912 ≤ x * sn a ∧ x * sn a ≤ 536870912 := mul_bound (A := 32768) (B := 16384) hx ⟨(sn_get a).2.2.1, (sn_get a).2.2.2⟩
theorem turned_in {p : Nat → Int} {b : Int} (h0 : okP (p 0)) (h1 : okP (p 1)) : f69 p b = some (nthI [tx (p 0) (p 1) b, ty (p 0) (p 1) b], 0) := by
  obtain ⟨u1, u2⟩ := h0
  obtain ⟨v1, v2⟩ := h1
  have c1 : ¬ p 0 < -32768 := by omega
  have c2 : ¬ 32768 < p 0 := by omega
  have c3 : ¬ p 1 < -32768 := by omega
  have c4 : ¬ 32768 < p 1 := by omega
  have m1 := prods ⟨u1, u2⟩ (b + 64)
  have m2 := prods ⟨u1, u2⟩ b
  have m3 := prods ⟨v1, v2⟩ (b + 64)
  have m4 := prods ⟨v1, v2⟩ b
  unfold f69
  simp only [cos_eq, sin_eq, Option.bind_some]
  rw [w64 (n := p 0 * sn (b + 64)) (by omega) (by omega), w64 (n := p 0 * sn b) (by omega) (by omega), w64 (n := p 1 * sn (b + 64)) (by omega) (by omega), w64 (n := p 1 * sn b) (by omega) (by omega),
    w64 (n := p 0 * sn (b + 64) + p 1 * sn b) (by omega) (by omega), w64 (n := p 1 * sn (b + 64) - p 0 * sn b) (by omega) (by omega),
    round_eq (by omega) (by omega) (by omega) (by omega), round_eq (by omega) (by omega) (by omega) (by omega)]
  simp [c1, c2, c3, c4, tx, ty]
theorem far_eq (p : Nat → Int) : f92 p = some (decide (¬ (okP (p 0) ∧ okP (p 1)))) := by
  unfold f92 okP
  by_cases c1 : p 0 < -32768
  · have : ¬ -32768 ≤ p 0 := by omega
    simp [c1, this]
  · by_cases c2 : 32768 < p 0
    · have : ¬ p 0 ≤ 32768 := by omega
      simp [c1, c2, this]
    · have k1 : -32768 ≤ p 0 := by omega
      have k2 : p 0 ≤ 32768 := by omega
      by_cases c3 : p 1 < -32768
      · have : ¬ -32768 ≤ p 1 := by omega
        simp [c1, c2, c3, this]
      · have k3 : -32768 ≤ p 1 := by omega
        simp [c1, c2, c3, k1, k2, k3]
theorem rturned_in {p : Nat → Int} {b : Int} (h0 : okP (p 0)) (h1 : okP (p 1)) : f76 p b = some (nthI [tx (p 0) (p 1) b, ty (p 0) (p 1) b], 0) := by
  obtain ⟨u1, u2⟩ := h0
  obtain ⟨v1, v2⟩ := h1
  have m1 := prods ⟨u1, u2⟩ (b + 64)
  have m2 := prods ⟨u1, u2⟩ b
  have m3 := prods ⟨v1, v2⟩ (b + 64)
  have m4 := prods ⟨v1, v2⟩ b
  unfold f76
  simp only [rcos_eq, rsin_eq, Option.bind_some, far_eq]
  rw [w64 (n := p 0 * sn (b + 64)) (by omega) (by omega), w64 (n := p 0 * sn b) (by omega) (by omega), w64 (n := p 1 * sn (b + 64)) (by omega) (by omega), w64 (n := p 1 * sn b) (by omega) (by omega),
    w64 (n := p 0 * sn (b + 64) + p 1 * sn b) (by omega) (by omega), w64 (n := p 1 * sn (b + 64) - p 0 * sn b) (by omega) (by omega),
    rround_eq (by omega) (by omega) (by omega) (by omega), rround_eq (by omega) (by omega) (by omega) (by omega)]
  simp [nthI, okP, u1, u2, v1, v2, tx, ty]
theorem sn_neg_in : rng 0 (fun n => match f85 n, f85 (-n) with | some u, some v => decide (v = -u) | _, _ => false) 256 = true := by kernel_rfl
theorem sn_neg (a : Int) : sn (-a) = -sn a := by
  have h := rng_get sn_neg_in (a % 256) (by omega) (by omega)
  rw [sin_eq, sin_eq] at h
  simp at h
  rw [sn_mod] at h
  rw [← h]
  exact sn_congr (by omega)
theorem cs_neg_in : rng 0 (fun n => match f85 (n + 64), f85 (-n + 64) with | some u, some v => decide (v = u) | _, _ => false) 256 = true := by kernel_rfl
theorem cs_neg (a : Int) : sn (-a + 64) = sn (a + 64) := by
  have h := rng_get cs_neg_in (a % 256) (by omega) (by omega)
  rw [sin_eq, sin_eq] at h
  simp at h
  rw [sn_congr (a := a % 256 + 64) (b := a + 64) (by omega)] at h
  rw [← h]
  exact sn_congr (by omega)
/-! The check of a build -/
abbrev okB (a : Nat → Int) : Prop := (400 ≤ a 0 ∧ a 0 ≤ 1500) ∧ (200 ≤ a 1 ∧ a 1 ≤ 1000) ∧ (50 ≤ a 2 ∧ a 2 ≤ 500) ∧ (200 ≤ a 3 ∧ a 3 ≤ 1200) ∧ (20 ≤ a 4 ∧ a 4 ≤ 300) ∧ (50 ≤ a 5 ∧ a 5 ≤ 400) ∧ (100 ≤ a 6 ∧ a 6 ≤ 1200) ∧
  (0 ≤ a 7 ∧ a 7 ≤ 200) ∧ (0 ≤ a 8 ∧ a 8 ≤ 200) ∧ (20 ≤ a 9 ∧ a 9 ≤ 300) ∧ (100 ≤ a 10 ∧ a 10 ≤ 1000) ∧ (1 ≤ a 11 ∧ a 11 ≤ 200000) ∧ (1 ≤ a 12 ∧ a 12 ≤ 200000) ∧ (1 ≤ a 13 ∧ a 13 ≤ 200000) ∧ (1 ≤ a 14 ∧ a 14 ≤ 200000)
theorem cr {x lo hi : Int} {K : Option Int} : cond (decide (x < lo)) (some 23) (cond (decide (hi < x)) (some 23) K) = if lo ≤ x ∧ x ≤ hi then K else some 23 := by
  by_cases h1 : x < lo
  · have : ¬ lo ≤ x := by omega
    simp [h1, this]
  · by_cases h2 : hi < x
    · have : ¬ x ≤ hi := by omega
      simp [h1, h2, this]
    · have h3 : lo ≤ x := by omega
      have h4 : x ≤ hi := by omega
      simp [h1, h2, h3, h4]
theorem br {x lo hi : Int} {K : Option Int} : (Option.bind (f72 x lo hi) fun r => cond (!r) (some 23) K) = if lo ≤ x ∧ x ≤ hi then K else some 23 := by
  unfold f72
  by_cases h1 : lo ≤ x
  · by_cases h2 : x ≤ hi <;> simp [h1, h2]
  · simp [h1]
theorem ck {p q : Prop} [Decidable p] [Decidable q] : (if p then some (if q then (0 : Int) else 23) else some 23) = some (if p ∧ q then 0 else 23) := by
  by_cases hp : p <;> by_cases hq : q <;> simp [hp, hq]
theorem ck1 {p : Prop} [Decidable p] : (if p then some (0 : Int) else some 23) = some (if p then 0 else 23) := by
  by_cases hp : p <;> simp [hp]
theorem build_eq (a : Nat → Int) : f20 a = some (if okB a then 0 else 23) := by
  unfold f20 okB
  simp only [cr, ck1, ck]
theorem rbuild_eq (a : Nat → Int) : f53 a = some (if okB a then 0 else 23) := by
  unfold f53 okB
  simp only [br, ck1, ck]
theorem build_in {a : Nat → Int} (h : okB a) : f20 a = some 0 := by rw [build_eq, if_pos h]
theorem rbuild_in {a : Nat → Int} (h : okB a) : f53 a = some 0 := by rw [rbuild_eq, if_pos h]
theorem build_out {a : Nat → Int} (h : ¬ okB a) : f20 a = some 23 := by rw [build_eq, if_neg h]
theorem rbuild_out {a : Nat → Int} (h : ¬ okB a) : f53 a = some 23 := by rw [rbuild_eq, if_neg h]


/-! ### Checks, opened -/
theorem peel {c : Prop} [Decidable c] {e : Int} {K : Option Int} (he : e ≠ 0) (h : cond (decide c) (some e) K = some 0) : ¬ c ∧ K = some 0 := by
  by_cases hc : c
  · simp [hc] at h
    exact absurd h he
  · simp [hc] at h
    exact ⟨hc, h⟩
theorem peelb {x K : Option Int} (h : (Option.bind x fun r => cond (!decide (r = 0)) (some r) K) = some 0) : x = some 0 ∧ K = some 0 := by
  cases x with
  | none => simp at h
  | some r =>
    by_cases hr : r = 0
    · subst hr
      simpa using h
    · simp [hr] at h
theorem peeln {x : Option Bool} {e : Int} {K : Option Int} (he : e ≠ 0) (h : (Option.bind x fun r => cond (!r) (some e) K) = some 0) : x = some true ∧ K = some 0 := by
  cases x with
  | none => simp at h
  | some r =>
    cases r
    · simp at h
      exact absurd h he
    · simpa using h
/-! ### Aims -/
abbrev aimOk (a : Nat → Int) : Prop := (0 ≤ a 0 ∧ a 0 ≤ 255) ∧ (-64 ≤ a 1 ∧ a 1 ≤ 64) ∧ (0 ≤ a 2 ∧ a 2 ≤ 6) ∧ ((a 1 = 64 ∨ a 1 = -64) → a 0 = 0)
theorem known_in {k : Int} (h : 0 ≤ k ∧ k < 6) : f64 k = some true := by simp [f64, h.1, h.2]
theorem upright_eq (a : Nat → Int) : f65 a = some (decide (a 1 = 64 ∨ a 1 = -64)) := by
  unfold f65
  by_cases h : a 1 = 64 <;> simp [h]
theorem acheck_in {k : Int} (hk : 0 ≤ k ∧ k < 6) {a : Nat → Int} (h : aimOk a) : f37 k a = some 0 := by
  obtain ⟨⟨h1, h2⟩, ⟨h3, h4⟩, ⟨h5, h6⟩, h7⟩ := h
  have c1 : ¬ a 0 < 0 := by omega
  have c2 : ¬ 255 < a 0 := by omega
  have c3 : ¬ a 1 < -64 := by omega
  have c4 : ¬ 64 < a 1 := by omega
  have c5 : ¬ a 2 < 0 := by omega
  have c6 : ¬ 6 < a 2 := by omega
  unfold f37
  simp only [known_in hk, upright_eq, Option.bind_some, c1, c2, c3, c4, c5, c6, decide_false, cond_false, Bool.not_true]
  by_cases hp : a 1 = 64 ∨ a 1 = -64
  · simp [hp, h7 hp]
  · simp [hp]
theorem acheck_of {k : Int} {a : Nat → Int} (h : f37 k a = some 0) : aimOk a := by
  unfold f37 at h
  obtain ⟨_, h⟩ := peeln (by omega) h
  obtain ⟨c1, h⟩ := peel (by omega) h
  obtain ⟨c2, h⟩ := peel (by omega) h
  obtain ⟨c3, h⟩ := peel (by omega) h
  obtain ⟨c4, h⟩ := peel (by omega) h
  obtain ⟨c5, h⟩ := peel (by omega) h
  obtain ⟨c6, h⟩ := peel (by omega) h
  refine ⟨by omega, by omega, by omega, fun hp => ?_⟩
  rw [upright_eq] at h
  simp only [hp, decide_true, Option.bind_some, cond_true] at h
  by_cases hz : a 0 = 0
  · exact hz
  · simp [hz] at h
theorem racheck_eq (k : Int) (a : Nat → Int) : f74 k a = f37 k a := rfl
/-! ### Poses -/
abbrev poseOk (p : Nat → Int) : Prop := (okP (p 0) ∧ okP (p 1)) ∧ (0 ≤ p 2 ∧ p 2 ≤ 255) ∧ (-8 ≤ p 3 ∧ p 3 ≤ 8) ∧
  aimOk (nthI [p 4, p 5, p 6]) ∧ aimOk (nthI [p 7, p 8, p 9]) ∧ aimOk (nthI [p 10, p 11, p 12]) ∧ aimOk (nthI [p 13, p 14, p 15]) ∧ aimOk (nthI [p 16, p 17, p 18]) ∧ aimOk (nthI [p 19, p 20, p 21])
theorem on_eq (p : Nat → Int) : f36 p = some (decide (okP (p 0) ∧ okP (p 1))) := by
  unfold f36 okP
  by_cases c1 : -32768 ≤ p 0
  · by_cases c2 : p 0 ≤ 32768
    · by_cases c3 : -32768 ≤ p 1 <;> simp [c1, c2, c3]
    · simp [c1, c2]
  · simp [c1]
theorem valid_of {p : Nat → Int} (h : f19 p = some 0) : poseOk p := by
  unfold f19 at h
  obtain ⟨h0, h⟩ := peeln (by omega) h
  rw [on_eq] at h0
  obtain ⟨c1, h⟩ := peel (by omega) h
  obtain ⟨c2, h⟩ := peel (by omega) h
  obtain ⟨c3, h⟩ := peel (by omega) h
  obtain ⟨c4, h⟩ := peel (by omega) h
  obtain ⟨a0, h⟩ := peelb h
  obtain ⟨a1, h⟩ := peelb h
  obtain ⟨a2, h⟩ := peelb h
  obtain ⟨a3, h⟩ := peelb h
  obtain ⟨a4, h⟩ := peelb h
  obtain ⟨a5, h⟩ := peelb h
  exact ⟨by simpa using h0, by omega, by omega, acheck_of a0, acheck_of a1, acheck_of a2, acheck_of a3, acheck_of a4, acheck_of a5⟩
theorem valid_in {p : Nat → Int} (h : poseOk p) : f19 p = some 0 := by
  obtain ⟨h0, ⟨h1, h2⟩, ⟨h3, h4⟩, a0, a1, a2, a3, a4, a5⟩ := h
  have c1 : ¬ p 2 < 0 := by omega
  have c2 : ¬ 255 < p 2 := by omega
  have c3 : ¬ p 3 < -8 := by omega
  have c4 : ¬ 8 < p 3 := by omega
  unfold f19
  rw [on_eq, acheck_in (by omega) a0, acheck_in (by omega) a1, acheck_in (by omega) a2, acheck_in (by omega) a3, acheck_in (by omega) a4, acheck_in (by omega) a5]
  have hd : decide (okP (p 0) ∧ okP (p 1)) = true := decide_eq_true h0
  simp only [hd, c1, c2, c3, c4, and_self, decide_true, decide_false, Option.bind_some, Bool.not_true, cond_false]
theorem ron_eq (x : Int) : f73 x = some (decide (okP x)) := by
  unfold f73 okP
  by_cases c1 : -32768 ≤ x <;> simp [c1]
theorem rvalid_eq (p : Nat → Int) : f54 p = f19 p := by
  unfold f54 f19
  rw [on_eq, ron_eq, ron_eq]
  simp only [racheck_eq]
  by_cases h0 : okP (p 0)
  · by_cases h1 : okP (p 1)
    · have d0 : decide (okP (p 0)) = true := decide_eq_true h0
      have d1 : decide (okP (p 1)) = true := decide_eq_true h1
      have d2 : decide (okP (p 0) ∧ okP (p 1)) = true := decide_eq_true ⟨h0, h1⟩
      simp only [d0, d1, d2, Option.bind_some, Bool.not_true, cond_false]
    · have d0 : decide (okP (p 0)) = true := decide_eq_true h0
      have d1 : decide (okP (p 1)) = false := decide_eq_false h1
      have d2 : decide (okP (p 0) ∧ okP (p 1)) = false := decide_eq_false fun h => h1 h.2
      simp only [d0, d1, d2, Option.bind_some, Bool.not_true, Bool.not_false, cond_false, cond_true]
  · have d0 : decide (okP (p 0)) = false := decide_eq_false h0
    have d2 : decide (okP (p 0) ∧ okP (p 1)) = false := decide_eq_false fun h => h0 h.1
    simp only [d0, d2, Option.bind_some, Bool.not_false, cond_true]
theorem ex_c {α : Type} {c : Bool} {A B : Option α} (h1 : ∃ r, A = some r) (h2 : ∃ r, B = some r) : ∃ r, cond c A B = some r := by
  cases c
  · exact h2
  · exact h1
theorem ex_b {α β : Type} {x : Option α} {g : α → Option β} (h1 : ∃ r, x = some r) (h2 : ∀ r, ∃ s, g r = some s) : ∃ s, Option.bind x g = some s := by
  obtain ⟨r, rfl⟩ := h1
  exact h2 r
theorem acheck_some {k : Int} (hk : 0 ≤ k ∧ k < 6) (a : Nat → Int) : ∃ r, f37 k a = some r := by
  unfold f37
  refine ex_b ⟨_, known_in hk⟩ fun r => ?_
  repeat' first | exact ⟨_, rfl⟩ | apply ex_c | (refine ex_b ⟨_, upright_eq a⟩ fun r => ?_)
theorem valid_some (p : Nat → Int) : ∃ r, f19 p = some r := by
  unfold f19
  refine ex_b ⟨_, on_eq p⟩ fun r => ?_
  repeat' first | exact ⟨_, rfl⟩ | apply ex_c | (refine ex_b (acheck_some (by omega) _) fun r => ?_)
/-! ### Vectors -/
noncomputable def vx (a : Nat → Int) (f : Int) : Int := near (sn (a 1 + 64) * sn (a 0 + f)) 16384
noncomputable def vy (a : Nat → Int) (f : Int) : Int := near (sn (a 1 + 64) * sn (a 0 + f + 64)) 16384
theorem sn_in' (a : Int) : -16384 ≤ sn a ∧ sn a ≤ 16384 := ⟨(sn_get a).2.2.1, (sn_get a).2.2.2⟩
theorem sn2 (a b : Int) : -268435456 ≤ sn a * sn b ∧ sn a * sn b ≤ 268435456 := mul_bound (A := 16384) (B := 16384) (sn_in' a) (sn_in' b)
theorem v_in (a : Nat → Int) (f : Int) : (-16384 ≤ vx a f ∧ vx a f ≤ 16384) ∧ (-16384 ≤ vy a f ∧ vy a f ≤ 16384) := by
  have m1 := sn2 (a 1 + 64) (a 0 + f)
  have m2 := sn2 (a 1 + 64) (a 0 + f + 64)
  have d1 := near_dist (a := sn (a 1 + 64) * sn (a 0 + f)) (b := 16384) (by omega)
  have d2 := near_dist (a := sn (a 1 + 64) * sn (a 0 + f + 64)) (b := 16384) (by omega)
  unfold vx vy
  omega
theorem vector_in {a : Nat → Int} (ha : aimOk a) (f : Int) : f67 a f = some (nthI [vx a f, vy a f, sn (a 1)], 0) := by
  have m1 := sn2 (a 1 + 64) (a 0 + f)
  have m2 := sn2 (a 1 + 64) (a 0 + f + 64)
  have e1 : sn (a 0 + f % 256) = sn (a 0 + f) := sn_congr (by omega)
  have e2 : sn (a 0 + f % 256 + 64) = sn (a 0 + f + 64) := sn_congr (by omega)
  obtain ⟨⟨h1, h2⟩, h3⟩ := ha
  unfold f67
  rw [acheck_in (by omega) ⟨⟨h1, h2⟩, h3⟩]
  simp only [norm_eq, Option.bind_some, cos_eq, sin_eq]
  rw [w64 (n := a 0 + f % 256) (by omega) (by omega), e1, e2, w64 (n := sn (a 1 + 64) * sn (a 0 + f)) (by omega) (by omega), w64 (n := sn (a 1 + 64) * sn (a 0 + f + 64)) (by omega) (by omega),
    round_eq (by omega) (by omega) (by omega) (by omega), round_eq (by omega) (by omega) (by omega) (by omega)]
  rfl
theorem rvector_in {a : Nat → Int} (ha : aimOk a) (f : Int) : f75 a f = some (nthI [vx a f, vy a f, sn (a 1)], 0) := by
  have m1 := sn2 (a 1 + 64) (a 0 + f)
  have m2 := sn2 (a 1 + 64) (a 0 + f + 64)
  have e1 : sn (a 0 + f % 256) = sn (a 0 + f) := sn_congr (by omega)
  have e2 : sn (a 0 + f % 256 + 64) = sn (a 0 + f + 64) := sn_congr (by omega)
  obtain ⟨⟨h1, h2⟩, h3⟩ := ha
  unfold f75
  rw [racheck_eq, acheck_in (by omega) ⟨⟨h1, h2⟩, h3⟩]
  simp only [rnorm_eq, Option.bind_some, rcos_eq, rsin_eq]
  rw [w64 (n := a 0 + f % 256) (by omega) (by omega), e1, e2, w64 (n := sn (a 1 + 64) * sn (a 0 + f)) (by omega) (by omega), w64 (n := sn (a 1 + 64) * sn (a 0 + f + 64)) (by omega) (by omega),
    rround_eq (by omega) (by omega) (by omega) (by omega), rround_eq (by omega) (by omega) (by omega) (by omega)]
  rfl
/-! ### Along a limb -/
noncomputable def al (n : Int) (a : Nat → Int) (f : Int) : Nat → Int := nthI [near (n * (8 - a 2) * vx a f) 131072, near (n * (8 - a 2) * vy a f) 131072, near (n * (8 - a 2) * sn (a 1)) 131072]
theorem mid {n : Int} (hn : 0 ≤ n ∧ n ≤ 1500) {a : Nat → Int} (ha : aimOk a) : 0 ≤ n * (8 - a 2) ∧ n * (8 - a 2) ≤ 12000 := by
  obtain ⟨_, _, ⟨h1, h2⟩, _⟩ := ha
  have k1 := Int.mul_nonneg hn.1 (by omega : 0 ≤ 8 - a 2)
  have k2 : n * (8 - a 2) ≤ 1500 * (8 - a 2) := Int.mul_le_mul_of_nonneg_right hn.2 (by omega)
  omega
theorem mid2 {n : Int} (hn : 0 ≤ n ∧ n ≤ 1500) {a : Nat → Int} (ha : aimOk a) {v : Int} (hv : -16384 ≤ v ∧ v ≤ 16384) : -196608000 ≤ n * (8 - a 2) * v ∧ n * (8 - a 2) * v ≤ 196608000 := by
  have := mid hn ha
  exact mul_bound (A := 12000) (B := 16384) ⟨by omega, by omega⟩ hv
theorem along_in {n : Int} (hn : 0 ≤ n ∧ n ≤ 1500) {a : Nat → Int} (ha : aimOk a) (f : Int) : f45 n a f = some (al n a f) := by
  have hm := mid hn ha
  obtain ⟨hx, hy⟩ := v_in a f
  have m1 := mid2 hn ha hx
  have m2 := mid2 hn ha hy
  have m3 := mid2 hn ha (sn_in' (a 1))
  unfold f45
  rw [vector_in ha f]
  have h2 := ha.2.2.1
  have e8 : IntKind.i64.wrap (8 - a 2) = 8 - a 2 := w64 (by omega) (by omega)
  simp only [Option.bind_some, e8]
  show Option.bind (f50 (IntKind.i64.wrap (IntKind.i64.wrap (n * (8 - a 2)) * vx a f)) 131072) (fun r4 => Option.bind (f50 (IntKind.i64.wrap (IntKind.i64.wrap (n * (8 - a 2)) * vy a f)) 131072) (fun r5 =>
    Option.bind (f50 (IntKind.i64.wrap (IntKind.i64.wrap (n * (8 - a 2)) * sn (a 1))) 131072) (fun r6 => some (nthI [r4.fst, r5.fst, r6.fst])))) = _
  rw [w64 (n := n * (8 - a 2)) (by omega) (by omega), w64 (n := n * (8 - a 2) * vx a f) (by omega) (by omega), w64 (n := n * (8 - a 2) * vy a f) (by omega) (by omega), w64 (n := n * (8 - a 2) * sn (a 1)) (by omega) (by omega),
    round_eq (by omega) (by omega) (by omega) (by omega), round_eq (by omega) (by omega) (by omega) (by omega), round_eq (by omega) (by omega) (by omega) (by omega)]
  rfl
theorem ralong_in {n : Int} (hn : 0 ≤ n ∧ n ≤ 1500) {a : Nat → Int} (ha : aimOk a) (f : Int) : f57 n a f = some (al n a f) := by
  have hm := mid hn ha
  obtain ⟨hx, hy⟩ := v_in a f
  have m1 := mid2 hn ha hx
  have m2 := mid2 hn ha hy
  have m3 := mid2 hn ha (sn_in' (a 1))
  unfold f57
  rw [rvector_in ha f]
  have h2 := ha.2.2.1
  have e8 : IntKind.i64.wrap (8 - a 2) = 8 - a 2 := w64 (by omega) (by omega)
  simp only [Option.bind_some, e8, f55]
  show Option.bind (Option.bind (f29 (IntKind.i64.wrap (IntKind.i64.wrap (n * (8 - a 2)) * vx a f)) 131072) fun r2 => some r2.1) (fun r4 => Option.bind (Option.bind (f29 (IntKind.i64.wrap (IntKind.i64.wrap (n * (8 - a 2)) * vy a f)) 131072) fun r2 => some r2.1) (fun r5 =>
    Option.bind (Option.bind (f29 (IntKind.i64.wrap (IntKind.i64.wrap (n * (8 - a 2)) * sn (a 1))) 131072) fun r2 => some r2.1) (fun r6 => some (nthI [r4, r5, r6])))) = _
  rw [w64 (n := n * (8 - a 2)) (by omega) (by omega), w64 (n := n * (8 - a 2) * vx a f) (by omega) (by omega), w64 (n := n * (8 - a 2) * vy a f) (by omega) (by omega), w64 (n := n * (8 - a 2) * sn (a 1)) (by omega) (by omega),
    rround_eq (by omega) (by omega) (by omega) (by omega), rround_eq (by omega) (by omega) (by omega) (by omega), rround_eq (by omega) (by omega) (by omega) (by omega)]
  rfl
/-! ### Sides -/
noncomputable def sx (n f : Int) : Int := near (n * sn (f + 64)) 16384
noncomputable def sy (n f : Int) : Int := near (-(n * sn f)) 16384
theorem near_neg (z : Int) : near (-z) 16384 = -near z 16384 := by
  unfold near
  (repeat' split) <;> omega
theorem tx_side (n f : Int) : tx n 0 f = sx n f ∧ ty n 0 f = sy n f ∧ tx (-n) 0 f = -sx n f ∧ ty (-n) 0 f = -sy n f := by
  unfold tx ty sx sy
  refine ⟨by simp, by simp, ?_, ?_⟩
  · rw [← near_neg]
    congr 1
    simp [Int.neg_mul]
  · rw [← near_neg]
    congr 1
    simp [Int.neg_mul]
theorem sides_in {n : Int} (hn : 0 ≤ n ∧ n ≤ 1000) (f : Int) : f46 n f = some (nthI [-sx n f, -sy n f, 0, sx n f, sy n f, 0]) := by
  obtain ⟨e1, e2, e3, e4⟩ := tx_side n f
  unfold f46
  rw [w64 (n := 0 - n) (by omega) (by omega)]
  have k1 : f69 (nthI [0 - n, 0]) f = some (nthI [tx (0 - n) 0 f, ty (0 - n) 0 f], 0) := turned_in (p := nthI [0 - n, 0]) ⟨by show -32768 ≤ 0 - n; omega, by show 0 - n ≤ 32768; omega⟩ ⟨by show (-32768 : Int) ≤ 0; omega, by show (0 : Int) ≤ 32768; omega⟩
  have k2 : f69 (nthI [n, 0]) f = some (nthI [tx n 0 f, ty n 0 f], 0) := turned_in (p := nthI [n, 0]) ⟨by show -32768 ≤ n; omega, by show n ≤ 32768; omega⟩ ⟨by show (-32768 : Int) ≤ 0; omega, by show (0 : Int) ≤ 32768; omega⟩
  rw [k1, k2, show (0 : Int) - n = -n by omega, e1, e2, e3, e4]
  rfl
theorem rside_in {n k : Int} (hn : 0 ≤ n ∧ n ≤ 1000) (hk : k = 1 ∨ k = -1) (f : Int) : f58 n k f = some (nthI [k * sx n f, k * sy n f, 0]) := by
  obtain ⟨e1, e2, e3, e4⟩ := tx_side n f
  unfold f58
  rcases hk with rfl | rfl
  · rw [Int.one_mul, w64 (n := n) (by omega) (by omega)]
    have k2 : f76 (nthI [n, 0]) f = some (nthI [tx n 0 f, ty n 0 f], 0) := rturned_in (p := nthI [n, 0]) ⟨by show -32768 ≤ n; omega, by show n ≤ 32768; omega⟩ ⟨by show (-32768 : Int) ≤ 0; omega, by show (0 : Int) ≤ 32768; omega⟩
    rw [k2, e1, e2, Int.one_mul, Int.one_mul]
    rfl
  · rw [show (-1 : Int) * n = -n by omega, w64 (n := -n) (by omega) (by omega)]
    have k2 : f76 (nthI [-n, 0]) f = some (nthI [tx (-n) 0 f, ty (-n) 0 f], 0) := rturned_in (p := nthI [-n, 0]) ⟨by show -32768 ≤ -n; omega, by show -n ≤ 32768; omega⟩ ⟨by show (-32768 : Int) ≤ 0; omega, by show (0 : Int) ≤ 32768; omega⟩
    rw [k2, e3, e4, show -1 * sx n f = -sx n f by omega, show -1 * sy n f = -sy n f by omega]
    rfl

/-! ### Joints -/
theorem near_neg17 (z : Int) : near (-z) 131072 = -near z 131072 := by
  unfold near
  (repeat' split) <;> omega
abbrev in3 (B : Int) (u : Nat → Int) : Prop := (-B ≤ u 0 ∧ u 0 ≤ B) ∧ (-B ≤ u 1 ∧ u 1 ≤ B) ∧ (-B ≤ u 2 ∧ u 2 ≤ B)
noncomputable def add3 (u v : Nat → Int) : Nat → Int := nthI [u 0 + v 0, u 1 + v 1, u 2 + v 2]
theorem add3_in {A B C : Int} {u v : Nat → Int} (hu : in3 A u) (hv : in3 B v) (h : A + B ≤ C) : in3 C (add3 u v) := by
  obtain ⟨⟨_, _⟩, ⟨_, _⟩, _, _⟩ := hu
  obtain ⟨⟨_, _⟩, ⟨_, _⟩, _, _⟩ := hv
  refine ⟨⟨?_, ?_⟩, ⟨?_, ?_⟩, ?_, ?_⟩ <;> simp only [add3, nthI] <;> omega
theorem plus_in {u v : Nat → Int} (hu : in3 1000000 u) (hv : in3 1000000 v) : f44 u v = some (add3 u v) := by
  obtain ⟨⟨_, _⟩, ⟨_, _⟩, _, _⟩ := hu
  obtain ⟨⟨_, _⟩, ⟨_, _⟩, _, _⟩ := hv
  unfold f44
  rw [w64 (n := u 0 + v 0) (by omega) (by omega), w64 (n := u 1 + v 1) (by omega) (by omega), w64 (n := u 2 + v 2) (by omega) (by omega)]
  rfl
noncomputable def hh (a : Nat → Int) (l : Int) : Int := a 0 + near ((if l < 0 then a 7 else a 8) * l) 8
theorem lift_in {x l : Int} (hx : 0 ≤ x ∧ x ≤ 200) (hl : -8 ≤ l ∧ l ≤ 8) : -1600 ≤ x * l ∧ x * l ≤ 1600 := mul_bound (A := 200) (B := 8) ⟨by omega, hx.2⟩ hl
theorem hh_in {a : Nat → Int} (ha : okB a) {l : Int} (hl : -8 ≤ l ∧ l ≤ 8) : 200 ≤ hh a l ∧ hh a l ≤ 1700 := by
  obtain ⟨h0, _, _, _, _, _, _, h7, h8, _⟩ := ha
  have m7 := lift_in h7 hl
  have m8 := lift_in h8 hl
  have d7 := near_dist (a := a 7 * l) (b := 8) (by omega)
  have d8 := near_dist (a := a 8 * l) (b := 8) (by omega)
  unfold hh
  split <;> omega
theorem height_in {a : Nat → Int} (ha : okB a) {l : Int} (hl : -8 ≤ l ∧ l ≤ 8) : f43 a l = some (hh a l) := by
  have hi := hh_in ha hl
  obtain ⟨h0, _, _, _, _, _, _, h7, h8, _⟩ := ha
  have m7 := lift_in h7 hl
  have m8 := lift_in h8 hl
  unfold f43 hh at *
  rw [w64 (n := a 7 * l) (by omega) (by omega), w64 (n := a 8 * l) (by omega) (by omega), round_eq (by omega) (by omega) (by omega) (by omega), round_eq (by omega) (by omega) (by omega) (by omega)]
  by_cases c : l < 0
  · simp only [c, if_true, decide_true, cond_true, Option.bind_some] at *
    rw [w64 (by omega) (by omega)]
  · simp only [c, if_false, decide_false, cond_false, Option.bind_some] at *
    rw [w64 (by omega) (by omega)]
theorem al_in {n : Int} (hn : 0 ≤ n ∧ n ≤ 1500) {a : Nat → Int} (ha : aimOk a) (f : Int) : in3 1500 (al n a f) := by
  obtain ⟨hx, hy⟩ := v_in a f
  have m1 := mid2 hn ha hx
  have m2 := mid2 hn ha hy
  have m3 := mid2 hn ha (sn_in' (a 1))
  have d1 := near_dist (a := n * (8 - a 2) * vx a f) (b := 131072) (by omega)
  have d2 := near_dist (a := n * (8 - a 2) * vy a f) (b := 131072) (by omega)
  have d3 := near_dist (a := n * (8 - a 2) * sn (a 1)) (b := 131072) (by omega)
  refine ⟨⟨?_, ?_⟩, ⟨?_, ?_⟩, ?_, ?_⟩ <;> simp only [al, nthI] <;> omega
noncomputable def sdL (n f : Int) : Nat → Int := nthI [-sx n f, -sy n f, 0]
noncomputable def sdR (n f : Int) : Nat → Int := nthI [sx n f, sy n f, 0]
theorem sxy_in {n : Int} (hn : 0 ≤ n ∧ n ≤ 1000) (f : Int) : (-1000 ≤ sx n f ∧ sx n f ≤ 1000) ∧ (-1000 ≤ sy n f ∧ sy n f ≤ 1000) := by
  have m1 := mul_bound (x := n) (A := 1000) (B := 16384) ⟨by omega, hn.2⟩ (sn_in' (f + 64))
  have m2 := mul_bound (x := n) (A := 1000) (B := 16384) ⟨by omega, hn.2⟩ (sn_in' f)
  have d1 := near_dist (a := n * sn (f + 64)) (b := 16384) (by omega)
  have d2 := near_dist (a := -(n * sn f)) (b := 16384) (by omega)
  unfold sx sy
  omega
theorem sdL_in {n : Int} (hn : 0 ≤ n ∧ n ≤ 1000) (f : Int) : in3 1000 (sdL n f) := by
  obtain ⟨⟨_, _⟩, _, _⟩ := sxy_in hn f
  refine ⟨⟨?_, ?_⟩, ⟨?_, ?_⟩, ?_, ?_⟩ <;> simp only [sdL, nthI] <;> omega
theorem sdR_in {n : Int} (hn : 0 ≤ n ∧ n ≤ 1000) (f : Int) : in3 1000 (sdR n f) := by
  obtain ⟨⟨_, _⟩, _, _⟩ := sxy_in hn f
  refine ⟨⟨?_, ?_⟩, ⟨?_, ?_⟩, ?_, ?_⟩ <;> simp only [sdR, nthI] <;> omega
theorem rsideL {n : Int} (hn : 0 ≤ n ∧ n ≤ 1000) (f : Int) : f58 n (-1) f = some (sdL n f) := by
  rw [rside_in hn (.inr rfl), show (-1) * sx n f = -sx n f by omega, show (-1) * sy n f = -sy n f by omega]
  rfl
theorem rsideR {n : Int} (hn : 0 ≤ n ∧ n ≤ 1000) (f : Int) : f58 n 1 f = some (sdR n f) := by
  rw [rside_in hn (.inl rfl), Int.one_mul, Int.one_mul]
  rfl
noncomputable def hipJ (a p : Nat → Int) : Nat → Int := nthI [p 0, p 1, hh a (p 3)]
noncomputable def neckJ (a p : Nat → Int) : Nat → Int := add3 (hipJ a p) (al (a 1) (nthI [p 10, p 11, p 12]) (p 2))
noncomputable def headJ (a p : Nat → Int) : Nat → Int := add3 (neckJ a p) (al (a 2) (nthI [p 19, p 20, p 21]) (p 2))
noncomputable def hipL (a p : Nat → Int) : Nat → Int := add3 (hipJ a p) (sdL (a 4) (p 2))
noncomputable def hipR (a p : Nat → Int) : Nat → Int := add3 (hipJ a p) (sdR (a 4) (p 2))
noncomputable def shL (a p : Nat → Int) : Nat → Int := add3 (neckJ a p) (sdL (a 5) (p 2))
noncomputable def shR (a p : Nat → Int) : Nat → Int := add3 (neckJ a p) (sdR (a 5) (p 2))
noncomputable def handL (a p : Nat → Int) : Nat → Int := add3 (shL a p) (al (a 3) (nthI [p 13, p 14, p 15]) (p 2))
noncomputable def handR (a p : Nat → Int) : Nat → Int := add3 (shR a p) (al (a 3) (nthI [p 16, p 17, p 18]) (p 2))
noncomputable def footL (a p : Nat → Int) (c : Int) : Nat → Int := bif decide (c % 2 = 1) then nthI [hipL a p 0, hipL a p 1, 0] else add3 (hipL a p) (al (a 0) (nthI [p 4, p 5, p 6]) (p 2))
noncomputable def footR (a p : Nat → Int) (c : Int) : Nat → Int := bif decide (c / 2 % 2 = 1) then nthI [hipR a p 0, hipR a p 1, 0] else add3 (hipR a p) (al (a 0) (nthI [p 7, p 8, p 9]) (p 2))
noncomputable def J (a p : Nat → Int) (c : Int) : Nat → Int := nthI [p 0, p 1, hh a (p 3), neckJ a p 0, neckJ a p 1, neckJ a p 2, headJ a p 0, headJ a p 1, headJ a p 2, hipL a p 0, hipL a p 1, hipL a p 2, hipR a p 0, hipR a p 1, hipR a p 2,
  shL a p 0, shL a p 1, shL a p 2, shR a p 0, shR a p 1, shR a p 2, handL a p 0, handL a p 1, handL a p 2, handR a p 0, handR a p 1, handR a p 2, footL a p c 0, footL a p c 1, footL a p c 2, footR a p c 0, footR a p c 1, footR a p c 2]
theorem in3_mono {A B : Int} {u : Nat → Int} (h : in3 A u) (hAB : A ≤ B) : in3 B u := by
  obtain ⟨⟨_, _⟩, ⟨_, _⟩, _, _⟩ := h
  refine ⟨⟨?_, ?_⟩, ⟨?_, ?_⟩, ?_, ?_⟩ <;> omega
theorem J_in {a p : Nat → Int} (ha : okB a) (hp : poseOk p) : in3 33000 (hipJ a p) ∧ in3 34500 (neckJ a p) ∧ in3 36000 (headJ a p) ∧ in3 34000 (hipL a p) ∧ in3 34000 (hipR a p) ∧ in3 35500 (shL a p) ∧ in3 35500 (shR a p) ∧ in3 37000 (handL a p) ∧ in3 37000 (handR a p) := by
  obtain ⟨h0, h1, h2, h3, h4, h5, h6, h7, h8, h9, _⟩ := id ha
  obtain ⟨⟨⟨_, _⟩, _, _⟩, ⟨_, _⟩, ⟨_, _⟩, a0, a1, a2, a3, a4, a5⟩ := hp
  have hz := hh_in (l := p 3) ha (by omega)
  have j0 : in3 33000 (hipJ a p) := by refine ⟨⟨?_, ?_⟩, ⟨?_, ?_⟩, ?_, ?_⟩ <;> simp only [hipJ, nthI] <;> omega
  have j1 : in3 34500 (neckJ a p) := add3_in j0 (al_in (by omega) a2 _) (by omega)
  have j2 : in3 36000 (headJ a p) := add3_in j1 (al_in (by omega) a5 _) (by omega)
  have j3 : in3 34000 (hipL a p) := add3_in j0 (sdL_in (by omega) _) (by omega)
  have j4 : in3 34000 (hipR a p) := add3_in j0 (sdR_in (by omega) _) (by omega)
  have j5 : in3 35500 (shL a p) := add3_in j1 (sdL_in (by omega) _) (by omega)
  have j6 : in3 35500 (shR a p) := add3_in j1 (sdR_in (by omega) _) (by omega)
  exact ⟨j0, j1, j2, j3, j4, j5, j6, add3_in j5 (al_in (by omega) a3 _) (by omega), add3_in j6 (al_in (by omega) a4 _) (by omega)⟩
theorem J_foot {a p : Nat → Int} (ha : okB a) (hp : poseOk p) (c : Int) : in3 36000 (footL a p c) ∧ in3 36000 (footR a p c) := by
  obtain ⟨_, _, _, j3, j4, _⟩ := J_in ha hp
  obtain ⟨h0, _⟩ := ha
  obtain ⟨_, _, _, a0, a1, _⟩ := hp
  constructor
  · unfold footL
    cases decide (c % 2 = 1)
    · exact add3_in j3 (al_in (by omega) a0 _) (by omega)
    · obtain ⟨⟨_, _⟩, ⟨_, _⟩, _⟩ := j3
      refine ⟨⟨?_, ?_⟩, ⟨?_, ?_⟩, ?_, ?_⟩ <;> simp only [nthI, cond_true] <;> omega
  · unfold footR
    cases decide (c / 2 % 2 = 1)
    · exact add3_in j4 (al_in (by omega) a1 _) (by omega)
    · obtain ⟨⟨_, _⟩, ⟨_, _⟩, _⟩ := j4
      refine ⟨⟨?_, ?_⟩, ⟨?_, ?_⟩, ?_, ?_⟩ <;> simp only [nthI, cond_true] <;> omega
theorem bit10 : bitsI BinOp.and IntKind.i64 0 1 = 0 ∧ bitsI BinOp.and IntKind.i64 1 1 = 1 ∧ bitsI BinOp.and IntKind.i64 2 1 = 0 ∧ bitsI BinOp.and IntKind.i64 3 1 = 1 := ⟨by kernel_rfl, by kernel_rfl, by kernel_rfl, by kernel_rfl⟩
theorem bit20 : bitsI BinOp.and IntKind.i64 0 2 = 0 ∧ bitsI BinOp.and IntKind.i64 1 2 = 0 ∧ bitsI BinOp.and IntKind.i64 2 2 = 2 ∧ bitsI BinOp.and IntKind.i64 3 2 = 2 := ⟨by kernel_rfl, by kernel_rfl, by kernel_rfl, by kernel_rfl⟩
theorem add3_6 (u : Nat → Int) (x y z x' y' z' : Int) : add3 u (nthI [x, y, z, x', y', z']) = add3 u (nthI [x, y, z]) := rfl
theorem fl0 (a p : Nat → Int) : footL a p 0 = add3 (hipL a p) (al (a 0) (nthI [p 4, p 5, p 6]) (p 2)) := by rw [footL, show decide ((0 : Int) % 2 = 1) = false from rfl]; rfl
theorem fl1 (a p : Nat → Int) : footL a p 1 = nthI [hipL a p 0, hipL a p 1, 0] := by rw [footL, show decide ((1 : Int) % 2 = 1) = true from rfl]; rfl
theorem fl2 (a p : Nat → Int) : footL a p 2 = add3 (hipL a p) (al (a 0) (nthI [p 4, p 5, p 6]) (p 2)) := by rw [footL, show decide ((2 : Int) % 2 = 1) = false from rfl]; rfl
theorem fl3 (a p : Nat → Int) : footL a p 3 = nthI [hipL a p 0, hipL a p 1, 0] := by rw [footL, show decide ((3 : Int) % 2 = 1) = true from rfl]; rfl
theorem fr0 (a p : Nat → Int) : footR a p 0 = add3 (hipR a p) (al (a 0) (nthI [p 7, p 8, p 9]) (p 2)) := by rw [footR, show decide ((0 : Int) / 2 % 2 = 1) = false from rfl]; rfl
theorem fr1 (a p : Nat → Int) : footR a p 1 = add3 (hipR a p) (al (a 0) (nthI [p 7, p 8, p 9]) (p 2)) := by rw [footR, show decide ((1 : Int) / 2 % 2 = 1) = false from rfl]; rfl
theorem fr2 (a p : Nat → Int) : footR a p 2 = nthI [hipR a p 0, hipR a p 1, 0] := by rw [footR, show decide ((2 : Int) / 2 % 2 = 1) = true from rfl]; rfl
theorem fr3 (a p : Nat → Int) : footR a p 3 = nthI [hipR a p 0, hipR a p 1, 0] := by rw [footR, show decide ((3 : Int) / 2 % 2 = 1) = true from rfl]; rfl
theorem d10 : decide ((1 : Int) = 0) = false := rfl
theorem d20 : decide ((2 : Int) = 0) = false := rfl
theorem d00 : decide ((0 : Int) = 0) = true := rfl
theorem of_in {a p : Nat → Int} {c : Int} (ha : okB a) (hp : poseOk p) (hc : 0 ≤ c ∧ c ≤ 3) : f24 a p c = some (J a p c, 0) := by
  obtain ⟨h0, h1, h2, h3, h4, h5, h6, h7, h8, h9, _⟩ := id ha
  obtain ⟨_, _, hl, a0, a1, a2, a3, a4, a5⟩ := id hp
  obtain ⟨j0, j1, j2, j3, j4, j5, j6, _, _⟩ := J_in ha hp
  have k1 : f44 (nthI [p 0, p 1, hh a (p 3)]) (al (a 1) (nthI [p 10, p 11, p 12]) (p 2)) = some (neckJ a p) := plus_in (u := hipJ a p) (in3_mono j0 (by omega)) (in3_mono (al_in (by omega) a2 _) (by omega))
  have k2 : f44 (neckJ a p) (al (a 2) (nthI [p 19, p 20, p 21]) (p 2)) = some (headJ a p) := plus_in (in3_mono j1 (by omega)) (in3_mono (al_in (by omega) a5 _) (by omega))
  have k3 : f44 (nthI [p 0, p 1, hh a (p 3)]) (nthI [-sx (a 4) (p 2), -sy (a 4) (p 2), 0, sx (a 4) (p 2), sy (a 4) (p 2), 0]) = some (hipL a p) := by
    rw [plus_in (u := nthI [p 0, p 1, hh a (p 3)]) (in3_mono j0 (by omega)) (in3_mono (show in3 1000 (nthI [-sx (a 4) (p 2), -sy (a 4) (p 2), 0, sx (a 4) (p 2), sy (a 4) (p 2), 0]) from sdL_in (n := a 4) (by omega) (p 2)) (by omega)), add3_6]
    rfl
  have k4 : f44 (neckJ a p) (nthI [-sx (a 5) (p 2), -sy (a 5) (p 2), 0, sx (a 5) (p 2), sy (a 5) (p 2), 0]) = some (shL a p) := by
    rw [plus_in (in3_mono j1 (by omega)) (in3_mono (show in3 1000 (nthI [-sx (a 5) (p 2), -sy (a 5) (p 2), 0, sx (a 5) (p 2), sy (a 5) (p 2), 0]) from sdL_in (n := a 5) (by omega) (p 2)) (by omega)), add3_6]
    rfl
  have k5 : f44 (shL a p) (al (a 3) (nthI [p 13, p 14, p 15]) (p 2)) = some (handL a p) := plus_in (in3_mono j5 (by omega)) (in3_mono (al_in (by omega) a3 _) (by omega))
  have k6 : f44 (nthI [p 0, p 1, hh a (p 3)]) (nthI [sx (a 4) (p 2), sy (a 4) (p 2), 0]) = some (hipR a p) := plus_in (in3_mono j0 (by omega)) (in3_mono (sdR_in (n := a 4) (by omega) (p 2)) (by omega))
  have k7 : f44 (neckJ a p) (nthI [sx (a 5) (p 2), sy (a 5) (p 2), 0]) = some (shR a p) := plus_in (in3_mono j1 (by omega)) (in3_mono (sdR_in (n := a 5) (by omega) (p 2)) (by omega))
  have k8 : f44 (shR a p) (al (a 3) (nthI [p 16, p 17, p 18]) (p 2)) = some (handR a p) := plus_in (in3_mono j6 (by omega)) (in3_mono (al_in (by omega) a4 _) (by omega))
  have k9 : f44 (hipL a p) (al (a 0) (nthI [p 4, p 5, p 6]) (p 2)) = some (add3 (hipL a p) (al (a 0) (nthI [p 4, p 5, p 6]) (p 2))) := plus_in (in3_mono j3 (by omega)) (in3_mono (al_in (by omega) a0 _) (by omega))
  have k0 : f44 (hipR a p) (al (a 0) (nthI [p 7, p 8, p 9]) (p 2)) = some (add3 (hipR a p) (al (a 0) (nthI [p 7, p 8, p 9]) (p 2))) := plus_in (in3_mono j4 (by omega)) (in3_mono (al_in (by omega) a1 _) (by omega))
  have c1 : ¬ c < 0 := by omega
  have c2 : ¬ 3 < c := by omega
  unfold f24
  simp -implicitDefEqProofs only [build_in ha, valid_in hp, c1, c2, decide_false, decide_true, Bool.not_true, cond_false, Option.bind_some, height_in ha hl, along_in (n := a 0) (by omega) a0, along_in (n := a 0) (by omega) a1, along_in (n := a 1) (by omega) a2,
    along_in (n := a 2) (by omega) a5, along_in (n := a 3) (by omega) a3, along_in (n := a 3) (by omega) a4, sides_in (n := a 4) (by omega), sides_in (n := a 5) (by omega), k1, k2, k3, k4, k5, nthI, k6, k7, k8]
  have h : c = 0 ∨ c = 1 ∨ c = 2 ∨ c = 3 := by omega
  rcases h with rfl | rfl | rfl | rfl
  · simp -implicitDefEqProofs only [bit10.1, bit20.1, d10, d20, d00, decide_true, Bool.not_true, Bool.not_false, cond_true, cond_false, Option.bind_some, k9, k0, J, fl0, fr0, nthI]
  · simp -implicitDefEqProofs only [bit10.2.1, bit20.2.1, d10, d20, d00, decide_true, Bool.not_true, Bool.not_false, cond_true, cond_false, Option.bind_some, k9, k0, J, fl1, fr1, nthI]
  · simp -implicitDefEqProofs only [bit10.2.2.1, bit20.2.2.1, d10, d20, d00, decide_true, Bool.not_true, Bool.not_false, cond_true, cond_false, Option.bind_some, k9, k0, J, fl2, fr2, nthI]
  · simp -implicitDefEqProofs only [bit10.2.2.2, bit20.2.2.2, d10, d20, d00, decide_true, Bool.not_true, Bool.not_false, cond_true, cond_false, Option.bind_some, k9, k0, J, fl3, fr3, nthI]
theorem rround20_eq {a : Int} (h1 : -1125899906842624 ≤ a) (h2 : a ≤ 1125899906842624) : f55 a 8 = some (near a 8) := by
  unfold f55
  rw [rround_eq (by omega) (by omega) h1 h2]
  rfl
theorem rof_in {a p : Nat → Int} {c : Int} (ha : okB a) (hp : poseOk p) (hc : 0 ≤ c ∧ c ≤ 3) : f26 a p c = some (J a p c, 0) := by
  have hz := hh_in (l := p 3) ha hp.2.2.1
  obtain ⟨h0, h1, h2, h3, h4, h5, h6, h7, h8, h9, _⟩ := id ha
  obtain ⟨_, _, hl, a0, a1, a2, a3, a4, a5⟩ := id hp
  obtain ⟨j0, j1, j2, j3, j4, j5, j6, _, _⟩ := J_in ha hp
  have m7 := lift_in h7 hl
  have m8 := lift_in h8 hl
  have d7 := near_dist (a := a 7 * p 3) (b := 8) (by omega)
  have d8 := near_dist (a := a 8 * p 3) (b := 8) (by omega)
  have k1 : f56 (nthI [p 0, p 1, hh a (p 3)]) (al (a 1) (nthI [p 10, p 11, p 12]) (p 2)) = some (neckJ a p) := plus_in (u := hipJ a p) (in3_mono j0 (by omega)) (in3_mono (al_in (by omega) a2 _) (by omega))
  have k2 : f56 (neckJ a p) (al (a 2) (nthI [p 19, p 20, p 21]) (p 2)) = some (headJ a p) := plus_in (in3_mono j1 (by omega)) (in3_mono (al_in (by omega) a5 _) (by omega))
  have k3 : f56 (nthI [p 0, p 1, hh a (p 3)]) (sdL (a 4) (p 2)) = some (hipL a p) := plus_in (in3_mono j0 (by omega)) (in3_mono (sdL_in (n := a 4) (by omega) (p 2)) (by omega))
  have k4 : f56 (neckJ a p) (sdL (a 5) (p 2)) = some (shL a p) := plus_in (in3_mono j1 (by omega)) (in3_mono (sdL_in (n := a 5) (by omega) (p 2)) (by omega))
  have k5 : f56 (shL a p) (al (a 3) (nthI [p 13, p 14, p 15]) (p 2)) = some (handL a p) := plus_in (in3_mono j5 (by omega)) (in3_mono (al_in (by omega) a3 _) (by omega))
  have k6 : f56 (nthI [p 0, p 1, hh a (p 3)]) (sdR (a 4) (p 2)) = some (hipR a p) := plus_in (in3_mono j0 (by omega)) (in3_mono (sdR_in (n := a 4) (by omega) (p 2)) (by omega))
  have k7 : f56 (neckJ a p) (sdR (a 5) (p 2)) = some (shR a p) := plus_in (in3_mono j1 (by omega)) (in3_mono (sdR_in (n := a 5) (by omega) (p 2)) (by omega))
  have k8 : f56 (shR a p) (al (a 3) (nthI [p 16, p 17, p 18]) (p 2)) = some (handR a p) := plus_in (in3_mono j6 (by omega)) (in3_mono (al_in (by omega) a4 _) (by omega))
  have k9 : f56 (hipL a p) (al (a 0) (nthI [p 4, p 5, p 6]) (p 2)) = some (add3 (hipL a p) (al (a 0) (nthI [p 4, p 5, p 6]) (p 2))) := plus_in (in3_mono j3 (by omega)) (in3_mono (al_in (by omega) a0 _) (by omega))
  have k0 : f56 (hipR a p) (al (a 0) (nthI [p 7, p 8, p 9]) (p 2)) = some (add3 (hipR a p) (al (a 0) (nthI [p 7, p 8, p 9]) (p 2))) := plus_in (in3_mono j4 (by omega)) (in3_mono (al_in (by omega) a1 _) (by omega))
  have c1 : ¬ c < 0 := by omega
  have c2 : ¬ 3 < c := by omega
  have e7 : IntKind.i64.wrap (a 7 * p 3) = a 7 * p 3 := w64 (by omega) (by omega)
  have e8 : IntKind.i64.wrap (a 8 * p 3) = a 8 * p 3 := w64 (by omega) (by omega)
  have hh7 : p 3 < 0 → IntKind.i64.wrap (a 0 + near (a 7 * p 3) 8) = hh a (p 3) := fun h => by rw [w64 (by omega) (by omega)]; simp [hh, h]
  have hh8 : ¬ p 3 < 0 → IntKind.i64.wrap (a 0 + near (a 8 * p 3) 8) = hh a (p 3) := fun h => by rw [w64 (by omega) (by omega)]; simp [hh, h]
  unfold f26
  simp -implicitDefEqProofs only [rbuild_in ha, rvalid_eq, valid_in hp, c1, c2, decide_false, decide_true, Bool.not_true, cond_false, Option.bind_some, e7, e8, rround20_eq (a := a 7 * p 3) (by omega) (by omega), rround20_eq (a := a 8 * p 3) (by omega) (by omega)]
  by_cases hlt : p 3 < 0
  · simp -implicitDefEqProofs only [hlt, decide_true, cond_true, hh7 hlt, Option.bind_some, ralong_in (n := a 0) (by omega) a0, ralong_in (n := a 0) (by omega) a1, ralong_in (n := a 1) (by omega) a2,
      ralong_in (n := a 2) (by omega) a5, ralong_in (n := a 3) (by omega) a3, ralong_in (n := a 3) (by omega) a4, rsideL (n := a 4) (by omega), rsideL (n := a 5) (by omega), rsideR (n := a 4) (by omega), rsideR (n := a 5) (by omega), k1, k2, k3, k4, k5, k6, k7, k8]
    have h : c = 0 ∨ c = 1 ∨ c = 2 ∨ c = 3 := by omega
    rcases h with rfl | rfl | rfl | rfl
    · simp -implicitDefEqProofs only [bit10.1, bit20.1, d10, d20, d00, decide_true, Bool.not_true, Bool.not_false, cond_true, cond_false, Option.bind_some, k9, k0, J, fl0, fr0, nthI]
    · simp -implicitDefEqProofs only [bit10.2.1, bit20.2.1, d10, d20, d00, decide_true, Bool.not_true, Bool.not_false, cond_true, cond_false, Option.bind_some, k9, k0, J, fl1, fr1, nthI]
    · simp -implicitDefEqProofs only [bit10.2.2.1, bit20.2.2.1, d10, d20, d00, decide_true, Bool.not_true, Bool.not_false, cond_true, cond_false, Option.bind_some, k9, k0, J, fl2, fr2, nthI]
    · simp -implicitDefEqProofs only [bit10.2.2.2, bit20.2.2.2, d10, d20, d00, decide_true, Bool.not_true, Bool.not_false, cond_true, cond_false, Option.bind_some, k9, k0, J, fl3, fr3, nthI]
  · simp -implicitDefEqProofs only [hlt, decide_false, cond_false, hh8 hlt, Option.bind_some, ralong_in (n := a 0) (by omega) a0, ralong_in (n := a 0) (by omega) a1, ralong_in (n := a 1) (by omega) a2,
      ralong_in (n := a 2) (by omega) a5, ralong_in (n := a 3) (by omega) a3, ralong_in (n := a 3) (by omega) a4, rsideL (n := a 4) (by omega), rsideL (n := a 5) (by omega), rsideR (n := a 4) (by omega), rsideR (n := a 5) (by omega), k1, k2, k3, k4, k5, k6, k7, k8]
    have h : c = 0 ∨ c = 1 ∨ c = 2 ∨ c = 3 := by omega
    rcases h with rfl | rfl | rfl | rfl
    · simp -implicitDefEqProofs only [bit10.1, bit20.1, d10, d20, d00, decide_true, Bool.not_true, Bool.not_false, cond_true, cond_false, Option.bind_some, k9, k0, J, fl0, fr0, nthI]
    · simp -implicitDefEqProofs only [bit10.2.1, bit20.2.1, d10, d20, d00, decide_true, Bool.not_true, Bool.not_false, cond_true, cond_false, Option.bind_some, k9, k0, J, fl1, fr1, nthI]
    · simp -implicitDefEqProofs only [bit10.2.2.1, bit20.2.2.1, d10, d20, d00, decide_true, Bool.not_true, Bool.not_false, cond_true, cond_false, Option.bind_some, k9, k0, J, fl2, fr2, nthI]
    · simp -implicitDefEqProofs only [bit10.2.2.2, bit20.2.2.2, d10, d20, d00, decide_true, Bool.not_true, Bool.not_false, cond_true, cond_false, Option.bind_some, k9, k0, J, fl3, fr3, nthI]
/-! The error that Of returns, where it returns one. -/
theorem of_out {a p : Nat → Int} {c : Int} (h : ¬ (okB a ∧ poseOk p ∧ 0 ≤ c ∧ c ≤ 3)) : ∃ e z, e ≠ 0 ∧ f24 a p c = some (z, e) ∧ ∀ i, i < 33 → z i = 0 := by
  unfold f24
  by_cases ha : okB a
  · rw [build_in ha]
    obtain ⟨r, hr⟩ := valid_some p
    rw [hr]
    by_cases hz : r = 0
    · subst hz
      have hp := valid_of hr
      by_cases c1 : c < 0
      · simp only [c1, Option.bind_some, decide_true, Bool.not_true, cond_false, cond_true]
        exact ⟨_, _, by omega, rfl, by decide⟩
      · have c2 : 3 < c := by
          refine Int.not_le.1 fun hc => h ⟨ha, hp, by omega, hc⟩
        simp only [c1, c2, Option.bind_some, decide_true, decide_false, Bool.not_true, cond_false, cond_true]
        exact ⟨_, _, by omega, rfl, by decide⟩
    · simp only [hz, Option.bind_some, decide_true, decide_false, Bool.not_true, Bool.not_false, cond_false, cond_true]
      exact ⟨_, _, hz, rfl, by decide⟩
  · rw [build_out ha]
    exact ⟨_, _, by omega, rfl, by decide⟩
theorem rof_out {a p : Nat → Int} {c : Int} (h : ¬ (okB a ∧ poseOk p ∧ 0 ≤ c ∧ c ≤ 3)) : f26 a p c = f24 a p c := by
  unfold f24 f26
  rw [rvalid_eq]
  by_cases ha : okB a
  · rw [build_in ha, rbuild_in ha]
    obtain ⟨r, hr⟩ := valid_some p
    rw [hr]
    by_cases hz : r = 0
    · subst hz
      have hp := valid_of hr
      by_cases c1 : c < 0
      · simp only [c1, Option.bind_some, decide_true, Bool.not_true, cond_false, cond_true]
      · have c2 : 3 < c := by
          refine Int.not_le.1 fun hc => h ⟨ha, hp, by omega, hc⟩
        simp only [c1, c2, Option.bind_some, decide_true, decide_false, Bool.not_true, cond_false, cond_true]
    · simp only [hz, Option.bind_some, decide_true, decide_false, Bool.not_true, Bool.not_false, cond_false, cond_true]
  · rw [build_out ha, rbuild_out ha]
    rfl
theorem rof_eq (a p : Nat → Int) (c : Int) : f26 a p c = f24 a p c := by
  by_cases h : okB a ∧ poseOk p ∧ 0 ≤ c ∧ c ≤ 3
  · rw [rof_in h.1 h.2.1 h.2.2, of_in h.1 h.2.1 h.2.2]
  · exact rof_out h
/-! ### Joints of a body that is moved, turned, mirrored -/
abbrev mv3 (u v : Nat → Int) (x y : Int) : Prop := u 0 - v 0 = x ∧ u 1 - v 1 = y ∧ u 2 - v 2 = 0
theorem add3_mv {u v w : Nat → Int} {x y : Int} (h : mv3 u v x y) : mv3 (add3 u w) (add3 v w) x y := by
  obtain ⟨h1, h2, h3⟩ := h
  refine ⟨?_, ?_, ?_⟩ <;> simp only [add3, nthI] <;> omega
abbrev atP (p : Nat → Int) (x y : Int) : Nat → Int := nthI [x, y, p 2, p 3, p 4, p 5, p 6, p 7, p 8, p 9, p 10, p 11, p 12, p 13, p 14, p 15, p 16, p 17, p 18, p 19, p 20, p 21]
abbrev J11 (P : (Nat → Int) → (Nat → Int) → Prop) (a q p : Nat → Int) (d c : Int) : Prop := P (hipJ a q) (hipJ a p) ∧ P (neckJ a q) (neckJ a p) ∧ P (headJ a q) (headJ a p) ∧ P (hipL a q) (hipL a p) ∧ P (hipR a q) (hipR a p) ∧ P (shL a q) (shL a p) ∧ P (shR a q) (shR a p) ∧ P (handL a q) (handL a p) ∧ P (handR a q) (handR a p) ∧ P (footL a q d) (footL a p c) ∧ P (footR a q d) (footR a p c)
theorem J_moved (a p : Nat → Int) (x y c : Int) : J11 (fun u v => mv3 u v (x - p 0) (y - p 1)) a (atP p x y) p c c := by
  have h0 : mv3 (hipJ a (atP p x y)) (hipJ a p) (x - p 0) (y - p 1) := ⟨rfl, rfl, Int.sub_self _⟩
  have h1 : mv3 (neckJ a (atP p x y)) (neckJ a p) (x - p 0) (y - p 1) := add3_mv (w := al (a 1) (nthI [p 10, p 11, p 12]) (p 2)) h0
  have h3 : mv3 (hipL a (atP p x y)) (hipL a p) (x - p 0) (y - p 1) := add3_mv (w := sdL (a 4) (p 2)) h0
  have h4 : mv3 (hipR a (atP p x y)) (hipR a p) (x - p 0) (y - p 1) := add3_mv (w := sdR (a 4) (p 2)) h0
  have h5 : mv3 (shL a (atP p x y)) (shL a p) (x - p 0) (y - p 1) := add3_mv (w := sdL (a 5) (p 2)) h1
  have h6 : mv3 (shR a (atP p x y)) (shR a p) (x - p 0) (y - p 1) := add3_mv (w := sdR (a 5) (p 2)) h1
  refine ⟨h0, h1, add3_mv (w := al (a 2) (nthI [p 19, p 20, p 21]) (p 2)) h1, h3, h4, h5, h6, add3_mv (w := al (a 3) (nthI [p 13, p 14, p 15]) (p 2)) h5, add3_mv (w := al (a 3) (nthI [p 16, p 17, p 18]) (p 2)) h6, ?_, ?_⟩
  · unfold footL
    cases decide (c % 2 = 1)
    · exact add3_mv (w := al (a 0) (nthI [p 4, p 5, p 6]) (p 2)) h3
    · exact ⟨h3.1, h3.2.1, rfl⟩
  · unfold footR
    cases decide (c / 2 % 2 = 1)
    · exact add3_mv (w := al (a 0) (nthI [p 7, p 8, p 9]) (p 2)) h4
    · exact ⟨h4.1, h4.2.1, rfl⟩
theorem sn_half_in : rng 0 (fun n => match f85 n, f85 (n + 128) with | some u, some v => decide (v = -u) | _, _ => false) 256 = true := by kernel_rfl
theorem sn_half (a : Int) : sn (a + 128) = -sn a := by
  have h := rng_get sn_half_in (a % 256) (by omega) (by omega)
  rw [sin_eq, sin_eq] at h
  simp at h
  rw [sn_mod] at h
  rw [← h]
  exact sn_congr (by omega)
abbrev tn3 (u v : Nat → Int) : Prop := u 0 = v 1 ∧ u 1 = -v 0 ∧ u 2 = v 2
theorem add3_tn {u v w z : Nat → Int} (h : tn3 u v) (h' : tn3 w z) : tn3 (add3 u w) (add3 v z) := by
  obtain ⟨h1, h2, h3⟩ := h
  obtain ⟨k1, k2, k3⟩ := h'
  refine ⟨?_, ?_, ?_⟩ <;> simp only [add3, nthI] <;> omega
theorem v_tn (a : Nat → Int) {f g : Int} (hg : g % 256 = (f + 64) % 256) : vx a g = vy a f ∧ vy a g = -vx a f := by
  have e1 : sn (a 0 + g) = sn (a 0 + f + 64) := sn_congr (by omega)
  have e2 : sn (a 0 + g + 64) = -sn (a 0 + f) := by rw [← sn_half]; exact sn_congr (by omega)
  unfold vx vy
  rw [e1, e2, Int.mul_neg, near_neg]
  exact ⟨rfl, rfl⟩
theorem al_tn (n : Int) (a : Nat → Int) {f g : Int} (hg : g % 256 = (f + 64) % 256) : tn3 (al n a g) (al n a f) := by
  obtain ⟨h1, h2⟩ := v_tn a hg
  refine ⟨?_, ?_, ?_⟩ <;> simp only [al, nthI, h1, h2, Int.mul_neg, near_neg17]
theorem s_tn (n : Int) {f g : Int} (hg : g % 256 = (f + 64) % 256) : sx n g = sy n f ∧ sy n g = -sx n f := by
  have e1 : sn (g + 64) = -sn f := by rw [← sn_half]; exact sn_congr (by omega)
  have e2 : sn g = sn (f + 64) := sn_congr (by omega)
  unfold sx sy
  rw [e1, e2, Int.mul_neg, near_neg, near_neg]
  exact ⟨rfl, rfl⟩
theorem sdL_tn (n : Int) {f g : Int} (hg : g % 256 = (f + 64) % 256) : tn3 (sdL n g) (sdL n f) := by
  obtain ⟨h1, h2⟩ := s_tn n hg
  refine ⟨?_, ?_, ?_⟩ <;> simp only [sdL, nthI, h1, h2]
theorem sdR_tn (n : Int) {f g : Int} (hg : g % 256 = (f + 64) % 256) : tn3 (sdR n g) (sdR n f) := by
  obtain ⟨h1, h2⟩ := s_tn n hg
  refine ⟨?_, ?_, ?_⟩ <;> simp only [sdR, nthI, h1, h2]
/-- The pose, turned by a quarter. -/
abbrev tnP (p : Nat → Int) : Nat → Int := nthI [p 1, -p 0, (p 2 + 64) % 256, p 3, p 4, p 5, p 6, p 7, p 8, p 9, p 10, p 11, p 12, p 13, p 14, p 15, p 16, p 17, p 18, p 19, p 20, p 21]
theorem tnP_ok {p : Nat → Int} (hp : poseOk p) : poseOk (tnP p) := by
  obtain ⟨⟨⟨_, _⟩, _, _⟩, ⟨_, _⟩, h3, h4⟩ := hp
  refine ⟨⟨⟨?_, ?_⟩, ?_, ?_⟩, ⟨?_, ?_⟩, h3, h4⟩ <;> simp only [nthI] <;> omega
theorem J_turned (a p : Nat → Int) (c : Int) : J11 tn3 a (tnP p) p c c := by
  have hg : (p 2 + 64) % 256 % 256 = (p 2 + 64) % 256 := by omega
  have h0 : tn3 (hipJ a (tnP p)) (hipJ a p) := ⟨rfl, rfl, rfl⟩
  have h1 : tn3 (neckJ a (tnP p)) (neckJ a p) := add3_tn h0 (al_tn (a 1) (nthI [p 10, p 11, p 12]) hg)
  have h3 : tn3 (hipL a (tnP p)) (hipL a p) := add3_tn h0 (sdL_tn (a 4) hg)
  have h4 : tn3 (hipR a (tnP p)) (hipR a p) := add3_tn h0 (sdR_tn (a 4) hg)
  have h5 : tn3 (shL a (tnP p)) (shL a p) := add3_tn h1 (sdL_tn (a 5) hg)
  have h6 : tn3 (shR a (tnP p)) (shR a p) := add3_tn h1 (sdR_tn (a 5) hg)
  refine ⟨h0, h1, add3_tn h1 (al_tn (a 2) (nthI [p 19, p 20, p 21]) hg), h3, h4, h5, h6, add3_tn h5 (al_tn (a 3) (nthI [p 13, p 14, p 15]) hg), add3_tn h6 (al_tn (a 3) (nthI [p 16, p 17, p 18]) hg), ?_, ?_⟩
  · unfold footL
    cases decide (c % 2 = 1)
    · exact add3_tn h3 (al_tn (a 0) (nthI [p 4, p 5, p 6]) hg)
    · exact ⟨h3.1, h3.2.1, rfl⟩
  · unfold footR
    cases decide (c / 2 % 2 = 1)
    · exact add3_tn h4 (al_tn (a 0) (nthI [p 7, p 8, p 9]) hg)
    · exact ⟨h4.1, h4.2.1, rfl⟩
abbrev fl3p (u v : Nat → Int) : Prop := u 0 = -v 0 ∧ u 1 = v 1 ∧ u 2 = v 2
theorem add3_fl {u v w z : Nat → Int} (h : fl3p u v) (h' : fl3p w z) : fl3p (add3 u w) (add3 v z) := by
  obtain ⟨h1, h2, h3⟩ := h
  obtain ⟨k1, k2, k3⟩ := h'
  refine ⟨?_, ?_, ?_⟩ <;> simp only [add3, nthI] <;> omega
theorem v_fl {a b : Nat → Int} {f g : Int} (hg : g % 256 = (-f) % 256) (h0 : b 0 = (-a 0) % 256) (h1 : b 1 = a 1) : vx b g = -vx a f ∧ vy b g = vy a f := by
  have e1 : sn (b 0 + g) = -sn (a 0 + f) := by rw [← sn_neg]; exact sn_congr (by omega)
  have e2 : sn (b 0 + g + 64) = sn (a 0 + f + 64) := by rw [← cs_neg]; exact sn_congr (by omega)
  unfold vx vy
  rw [e1, e2, h1, Int.mul_neg, near_neg]
  exact ⟨rfl, rfl⟩
theorem al_fl (n : Int) {a b : Nat → Int} {f g : Int} (hg : g % 256 = (-f) % 256) (h0 : b 0 = (-a 0) % 256) (h1 : b 1 = a 1) (h2 : b 2 = a 2) : fl3p (al n b g) (al n a f) := by
  obtain ⟨k1, k2⟩ := v_fl hg h0 h1
  refine ⟨?_, ?_, ?_⟩ <;> simp only [al, nthI, h1, h2, k1, k2, Int.mul_neg, near_neg17]
theorem s_fl (n : Int) {f g : Int} (hg : g % 256 = (-f) % 256) : sx n g = sx n f ∧ sy n g = -sy n f := by
  have e1 : sn (g + 64) = sn (f + 64) := by rw [← cs_neg]; exact sn_congr (by omega)
  have e2 : sn g = -sn f := by rw [← sn_neg]; exact sn_congr (by omega)
  unfold sx sy
  rw [e1, e2, Int.mul_neg, near_neg (n * sn f), Int.neg_neg, Int.neg_neg]
  exact ⟨rfl, rfl⟩
theorem sdL_fl (n : Int) {f g : Int} (hg : g % 256 = (-f) % 256) : fl3p (sdL n g) (sdR n f) := by
  obtain ⟨h1, h2⟩ := s_fl n hg
  refine ⟨?_, ?_, ?_⟩ <;> simp only [sdL, sdR, nthI, h1, h2, Int.neg_neg]
theorem sdR_fl (n : Int) {f g : Int} (hg : g % 256 = (-f) % 256) : fl3p (sdR n g) (sdL n f) := by
  obtain ⟨h1, h2⟩ := s_fl n hg
  refine ⟨?_, ?_, ?_⟩ <;> simp only [sdL, sdR, nthI, h1, h2, Int.neg_neg]
/-- The mirror image of a pose. -/
abbrev flP (p : Nat → Int) : Nat → Int := nthI [-p 0, p 1, (-p 2) % 256, p 3, (-p 7) % 256, p 8, p 9, (-p 4) % 256, p 5, p 6, (-p 10) % 256, p 11, p 12, (-p 16) % 256, p 17, p 18, (-p 13) % 256, p 14, p 15, (-p 19) % 256, p 20, p 21]
theorem aim_fl {x y z : Int} (h : aimOk (nthI [x, y, z])) : aimOk (nthI [(-x) % 256, y, z]) := by
  obtain ⟨h1, h2, h3, h4⟩ := h
  simp only [aimOk, nthI] at *
  exact ⟨by omega, h2, h3, fun h => by have := h4 h; omega⟩
theorem flP_ok {p : Nat → Int} (hp : poseOk p) : poseOk (flP p) := by
  obtain ⟨⟨⟨_, _⟩, _, _⟩, ⟨_, _⟩, h3, a0, a1, a2, a3, a4, a5⟩ := hp
  refine ⟨⟨⟨?_, ?_⟩, ?_, ?_⟩, ⟨?_, ?_⟩, h3, aim_fl a1, aim_fl a0, aim_fl a2, aim_fl a4, aim_fl a3, aim_fl a5⟩ <;> simp only [nthI] <;> omega
theorem J_mirror (a p : Nat → Int) (c d : Int) (h1 : (d % 2 = 1) = (c / 2 % 2 = 1)) (h2 : (d / 2 % 2 = 1) = (c % 2 = 1)) : fl3p (hipJ a (flP p)) (hipJ a p) ∧ fl3p (neckJ a (flP p)) (neckJ a p) ∧ fl3p (headJ a (flP p)) (headJ a p) ∧ fl3p (hipL a (flP p)) (hipR a p) ∧ fl3p (hipR a (flP p)) (hipL a p) ∧
    fl3p (shL a (flP p)) (shR a p) ∧ fl3p (shR a (flP p)) (shL a p) ∧ fl3p (handL a (flP p)) (handR a p) ∧ fl3p (handR a (flP p)) (handL a p) ∧ fl3p (footL a (flP p) d) (footR a p c) ∧ fl3p (footR a (flP p) d) (footL a p c) := by
  have hg : (-p 2) % 256 % 256 = (-p 2) % 256 := by omega
  have k0 : fl3p (hipJ a (flP p)) (hipJ a p) := ⟨rfl, rfl, rfl⟩
  have k1 : fl3p (neckJ a (flP p)) (neckJ a p) := add3_fl k0 (al_fl (a := nthI [p 10, p 11, p 12]) (b := nthI [(-p 10) % 256, p 11, p 12]) (a 1) hg rfl rfl rfl)
  have k3 : fl3p (hipL a (flP p)) (hipR a p) := add3_fl k0 (sdL_fl (a 4) hg)
  have k4 : fl3p (hipR a (flP p)) (hipL a p) := add3_fl k0 (sdR_fl (a 4) hg)
  have k5 : fl3p (shL a (flP p)) (shR a p) := add3_fl k1 (sdL_fl (a 5) hg)
  have k6 : fl3p (shR a (flP p)) (shL a p) := add3_fl k1 (sdR_fl (a 5) hg)
  refine ⟨k0, k1, add3_fl k1 (al_fl (a := nthI [p 19, p 20, p 21]) (b := nthI [(-p 19) % 256, p 20, p 21]) (a 2) hg rfl rfl rfl), k3, k4, k5, k6, add3_fl k5 (al_fl (a := nthI [p 16, p 17, p 18]) (b := nthI [(-p 16) % 256, p 17, p 18]) (a 3) hg rfl rfl rfl), add3_fl k6 (al_fl (a := nthI [p 13, p 14, p 15]) (b := nthI [(-p 13) % 256, p 14, p 15]) (a 3) hg rfl rfl rfl), ?_, ?_⟩
  · unfold footL footR
    simp only [h1]
    cases decide (c / 2 % 2 = 1)
    · exact add3_fl k3 (al_fl (a := nthI [p 7, p 8, p 9]) (b := nthI [(-p 7) % 256, p 8, p 9]) (a 0) hg rfl rfl rfl)
    · exact ⟨k3.1, k3.2.1, rfl⟩
  · unfold footL footR
    simp only [h2]
    cases decide (c % 2 = 1)
    · exact add3_fl k4 (al_fl (a := nthI [p 4, p 5, p 6]) (b := nthI [(-p 4) % 256, p 5, p 6]) (a 0) hg rfl rfl rfl)
    · exact ⟨k4.1, k4.2.1, rfl⟩
/-! ### Poses, turned and mirrored, as the program does it -/
theorem aimmirror_in {k : Int} (hk : 0 ≤ k ∧ k < 6) {a : Nat → Int} (h : aimOk a) : f41 k a = some (nthI [(-a 0) % 256, a 1, a 2], 0) := by
  unfold f41
  rw [acheck_in hk h, amirror_eq]
  rfl
theorem mirrorpose_in {p : Nat → Int} (hp : poseOk p) : f21 p = some (flP p, 0) := by
  obtain ⟨⟨⟨_, _⟩, _, _⟩, _, _, a0, a1, a2, a3, a4, a5⟩ := id hp
  unfold f21
  rw [valid_in hp, amirror_eq, aimmirror_in (by omega) a0, aimmirror_in (by omega) a1, aimmirror_in (by omega) a2, aimmirror_in (by omega) a3, aimmirror_in (by omega) a4, aimmirror_in (by omega) a5, w64 (n := 0 - p 0) (by omega) (by omega), show 0 - p 0 = -p 0 by omega]
  rfl
theorem turned1 {p : Nat → Int} (h0 : okP (p 0)) : f42 p 1 = some (nthI [p 1, -p 0], 1) := by
  unfold f42
  obtain ⟨_, _⟩ := h0
  rw [show (IntKind.i64.wrap ((1 : Int).tmod 4 + 4)).tmod 4 = 1 by kernel_rfl, w64 (n := 0 - p 0) (by omega) (by omega), show 0 - p 0 = -p 0 by omega]
  rfl
theorem rotatepose1_in {p : Nat → Int} (hp : poseOk p) : f22 p 1 = some (tnP p, 0) := by
  obtain ⟨h0, ⟨_, _⟩, _⟩ := id hp
  unfold f22
  rw [valid_in hp, turned1 h0.1]
  simp only [Option.bind_some, decide_true, Bool.not_true, cond_false]
  rw [show (IntKind.i64.wrap (64 * 1)) = 64 by kernel_rfl, w64 (n := p 2 + 64) (by omega) (by omega), tmod_nonneg_eq (by omega)]
  rfl
noncomputable def d2 (a b : Nat → Int) : Int := (a 0 - b 0) * (a 0 - b 0) + (a 1 - b 1) * (a 1 - b 1) + (a 2 - b 2) * (a 2 - b 2)
theorem sq_comm (x y : Int) : (x - y) * (x - y) = (y - x) * (y - x) := by
  rw [← Int.neg_sub, Int.neg_mul_neg]
def thr (a b c : Int) : Bool := if a = c ∨ b = c then decide ((0 - a) % 256 < 128) else decide ((c - a) % 256 < 128)
def way (a b c : Int) : Int := if (b - a) % 256 < 128 then (b - a) % 256 else if 128 < (b - a) % 256 then (b - a) % 256 - 256 else if thr a b c then 128 else -128
def ex (c : Int) : Int := if c = 3 then 3 else 3 - c
end Go.Proofs.YtggiamcgkiaicaaDoor
