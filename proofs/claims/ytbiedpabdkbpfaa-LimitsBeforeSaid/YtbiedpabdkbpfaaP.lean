/-
  PLAIN LEMMAS about the contracts, shared by the laws.
-/
import Derived.Test.YtbiedpabdkbpfaaVEq
import Derived.Test.YtbiedpabdkbpfaaFc
open Go Go.VE Go.Proofs
set_option maxRecDepth 1000000
set_option maxHeartbeats 0
set_option linter.unusedVariables false
set_option linter.unusedSimpArgs false
namespace Go.Proofs.Ytbiedpabdkbpfaa
theorem norm_eq (a : Int) : f45 a = some (a % 256) := by
  unfold f45
  have h : (IntKind.i64.wrap (a.tmod 256 + 256)).tmod 256 = a % 256 := by
    have hb : -256 < a.tmod 256 ∧ a.tmod 256 < 256 := tmod_bounds a 256 (by omega)
    rw [w64 (by omega) (by omega), tmod_nonneg_eq (by omega)]
    rcases tmod_cases a 256 with ⟨_, h⟩ | ⟨_, h⟩ <;> omega
  rw [h]
theorem rnorm_eq (a : Int) : f30 a = some (a % 256) := by
  unfold f30
  have hb : -256 < a.tmod 256 ∧ a.tmod 256 < 256 := tmod_bounds a 256 (by omega)
  by_cases h : a.tmod 256 < 0
  · rw [w64 (by omega) (by omega)]
    rcases tmod_cases a 256 with ⟨_, h2⟩ | ⟨_, h2⟩
    · omega
    · simp only [h, decide_true, cond_true]
      rw [show a.tmod 256 + 256 = a % 256 by omega]
  · rcases tmod_cases a 256 with ⟨_, h2⟩ | ⟨_, h2⟩
    · simp only [h, decide_false, cond_false]
      rw [h2]
    · simp only [h, decide_false, cond_false]
      rw [show a.tmod 256 = a % 256 by omega]
theorem amirror_eq (a : Int) : f28 a = some ((-a) % 256) := by
  unfold f28
  simp only [norm_eq, Option.bind_some]
  rw [w64 (by omega) (by omega)]
  rw [show (0 - a % 256) % 256 = (-a) % 256 by omega]

abbrev okP (x : Int) : Prop := -32768 ≤ x ∧ x ≤ 32768
/-! ### Checks, opened -/
theorem peel {c : Prop} [Decidable c] {e : Int} {K : Option Int} (he : e ≠ 0) (h : cond (decide c) (some e) K = some 0) : ¬ c ∧ K = some 0 := by
  by_cases hc : c
  · simp [hc] at h
    exact absurd h he
  · simp [hc] at h
    exact ⟨hc, h⟩
theorem peelb {x K : Option Int} (h : (Option.bind x fun r => cond (!decide (r = 0)) (some r) K) = some 0) : x = some 0 ∧ K = some 0 := by
  cases x with
  | none => simp at h
  | some r =>
    by_cases hr : r = 0
    · subst hr
      simpa using h
    · simp [hr] at h
theorem peeln {x : Option Bool} {e : Int} {K : Option Int} (he : e ≠ 0) (h : (Option.bind x fun r => cond (!r) (some e) K) = some 0) : x = some true ∧ K = some 0 := by
  cases x with
  | none => simp at h
  | some r =>
    cases r
    · simp at h
      exact absurd h he
    · simpa using h
/-! ### Aims -/
abbrev aimOk (a : Nat → Int) : Prop := (0 ≤ a 0 ∧ a 0 ≤ 255) ∧ (-64 ≤ a 1 ∧ a 1 ≤ 64) ∧ (0 ≤ a 2 ∧ a 2 ≤ 6) ∧ ((a 1 = 64 ∨ a 1 = -64) → a 0 = 0)
theorem known_in {k : Int} (h : 0 ≤ k ∧ k < 6) : f47 k = some true := by simp [f47, h.1, h.2]
theorem upright_eq (a : Nat → Int) : f48 a = some (decide (a 1 = 64 ∨ a 1 = -64)) := by
  unfold f48
  by_cases h : a 1 = 64 <;> simp [h]
theorem acheck_in {k : Int} (hk : 0 ≤ k ∧ k < 6) {a : Nat → Int} (h : aimOk a) : f33 k a = some 0 := by
  obtain ⟨⟨h1, h2⟩, ⟨h3, h4⟩, ⟨h5, h6⟩, h7⟩ := h
  have c1 : ¬ a 0 < 0 := by omega
  have c2 : ¬ 255 < a 0 := by omega
  have c3 : ¬ a 1 < -64 := by omega
  have c4 : ¬ 64 < a 1 := by omega
  have c5 : ¬ a 2 < 0 := by omega
  have c6 : ¬ 6 < a 2 := by omega
  unfold f33
  simp only [known_in hk, upright_eq, Option.bind_some, c1, c2, c3, c4, c5, c6, decide_false, cond_false, Bool.not_true]
  by_cases hp : a 1 = 64 ∨ a 1 = -64
  · simp [hp, h7 hp]
  · simp [hp]
theorem acheck_of {k : Int} {a : Nat → Int} (h : f33 k a = some 0) : aimOk a := by
  unfold f33 at h
  obtain ⟨_, h⟩ := peeln (by omega) h
  obtain ⟨c1, h⟩ := peel (by omega) h
  obtain ⟨c2, h⟩ := peel (by omega) h
  obtain ⟨c3, h⟩ := peel (by omega) h
  obtain ⟨c4, h⟩ := peel (by omega) h
  obtain ⟨c5, h⟩ := peel (by omega) h
  obtain ⟨c6, h⟩ := peel (by omega) h
  refine ⟨by omega, by omega, by omega, fun hp => ?_⟩
  rw [upright_eq] at h
  simp only [hp, decide_true, Option.bind_some, cond_true] at h
  by_cases hz : a 0 = 0
  · exact hz
  · simp [hz] at h
theorem racheck_eq (k : Int) (a : Nat → Int) : f35 k a = f33 k a := rfl
/-! ### Poses -/
abbrev poseOk (p : Nat → Int) : Prop := (okP (p 0) ∧ okP (p 1)) ∧ (0 ≤ p 2 ∧ p 2 ≤ 255) ∧ (-8 ≤ p 3 ∧ p 3 ≤ 8) ∧
  aimOk (nthI [p 4, p 5, p 6]) ∧ aimOk (nthI [p 7, p 8, p 9]) ∧ aimOk (nthI [p 10, p 11, p 12]) ∧ aimOk (nthI [p 13, p 14, p 15]) ∧ aimOk (nthI [p 16, p 17, p 18]) ∧ aimOk (nthI [p 19, p 20, p 21])
theorem on_eq (p : Nat → Int) : f54 p = some (decide (okP (p 0) ∧ okP (p 1))) := by
  unfold f54 okP
  by_cases c1 : -32768 ≤ p 0
  · by_cases c2 : p 0 ≤ 32768
    · by_cases c3 : -32768 ≤ p 1 <;> simp [c1, c2, c3]
    · simp [c1, c2]
  · simp [c1]
theorem valid_of {p : Nat → Int} (h : f40 p = some 0) : poseOk p := by
  unfold f40 at h
  obtain ⟨h0, h⟩ := peeln (by omega) h
  rw [on_eq] at h0
  obtain ⟨c1, h⟩ := peel (by omega) h
  obtain ⟨c2, h⟩ := peel (by omega) h
  obtain ⟨c3, h⟩ := peel (by omega) h
  obtain ⟨c4, h⟩ := peel (by omega) h
  obtain ⟨a0, h⟩ := peelb h
  obtain ⟨a1, h⟩ := peelb h
  obtain ⟨a2, h⟩ := peelb h
  obtain ⟨a3, h⟩ := peelb h
  obtain ⟨a4, h⟩ := peelb h
  obtain ⟨a5, h⟩ := peelb h
  exact ⟨by simpa using h0, by omega, by omega, acheck_of a0, acheck_of a1, acheck_of a2, acheck_of a3, acheck_of a4, acheck_of a5⟩
theorem valid_in {p : Nat → Int} (h : poseOk p) : f40 p = some 0 := by
  obtain ⟨h0, ⟨h1, h2⟩, ⟨h3, h4⟩, a0, a1, a2, a3, a4, a5⟩ := h
  have c1 : ¬ p 2 < 0 := by omega
  have c2 : ¬ 255 < p 2 := by omega
  have c3 : ¬ p 3 < -8 := by omega
  have c4 : ¬ 8 < p 3 := by omega
  unfold f40
  rw [on_eq, acheck_in (by omega) a0, acheck_in (by omega) a1, acheck_in (by omega) a2, acheck_in (by omega) a3, acheck_in (by omega) a4, acheck_in (by omega) a5]
  have hd : decide (okP (p 0) ∧ okP (p 1)) = true := decide_eq_true h0
  simp only [hd, c1, c2, c3, c4, and_self, decide_true, decide_false, Option.bind_some, Bool.not_true, cond_false]
theorem ron_eq (x : Int) : f56 x = some (decide (okP x)) := by
  unfold f56 okP
  by_cases c1 : -32768 ≤ x <;> simp [c1]
theorem rvalid_eq (p : Nat → Int) : f43 p = f40 p := by
  unfold f43 f40
  rw [on_eq, ron_eq, ron_eq]
  simp only [racheck_eq]
  by_cases h0 : okP (p 0)
  · by_cases h1 : okP (p 1)
    · have d0 : decide (okP (p 0)) = true := decide_eq_true h0
      have d1 : decide (okP (p 1)) = true := decide_eq_true h1
      have d2 : decide (okP (p 0) ∧ okP (p 1)) = true := decide_eq_true ⟨h0, h1⟩
      simp only [d0, d1, d2, Option.bind_some, Bool.not_true, cond_false]
    · have d0 : decide (okP (p 0)) = true := decide_eq_true h0
      have d1 : decide (okP (p 1)) = false := decide_eq_false h1
      have d2 : decide (okP (p 0) ∧ okP (p 1)) = false := decide_eq_false fun h => h1 h.2
      simp only [d0, d1, d2, Option.bind_some, Bool.not_true, Bool.not_false, cond_false, cond_true]
  · have d0 : decide (okP (p 0)) = false := decide_eq_false h0
    have d2 : decide (okP (p 0) ∧ okP (p 1)) = false := decide_eq_false fun h => h0 h.1
    simp only [d0, d2, Option.bind_some, Bool.not_false, cond_true]
theorem ex_c {α : Type} {c : Bool} {A B : Option α} (h1 : ∃ r, A = some r) (h2 : ∃ r, B = some r) : ∃ r, cond c A B = some r := by
  cases c
  · exact h2
  · exact h1
theorem ex_b {α β : Type} {x : Option α} {g : α → Option β} (h1 : ∃ r, x = some r) (h2 : ∀ r, ∃ s, g r = some s) : ∃ s, Option.bind x g = some s := by
  obtain ⟨r, rfl⟩ := h1
  exact h2 r
theorem acheck_some {k : Int} (hk : 0 ≤ k ∧ k < 6) (a : Nat → Int) : ∃ r, f33 k a = some r := by
  unfold f33
  refine ex_b ⟨_, known_in hk⟩ fun r => ?_
  repeat' first | exact ⟨_, rfl⟩ | apply ex_c | (refine ex_b ⟨_, upright_eq a⟩ fun r => ?_)
theorem valid_some (p : Nat → Int) : ∃ r, f40 p = some r := by
  unfold f40
  refine ex_b ⟨_, on_eq p⟩ fun r => ?_
  repeat' first | exact ⟨_, rfl⟩ | apply ex_c | (refine ex_b (acheck_some (by omega) _) fun r => ?_)
noncomputable def hh (a : Nat → Int) (l : Int) : Int := a 0 + near ((if l < 0 then a 7 else a 8) * l) 8
/-! ### Poses, turned and mirrored, as the program does it -/
theorem aimmirror_in {k : Int} (hk : 0 ≤ k ∧ k < 6) {a : Nat → Int} (h : aimOk a) : f27 k a = some (nthI [(-a 0) % 256, a 1, a 2], 0) := by
  unfold f27
  rw [acheck_in hk h, amirror_eq]
  rfl
/-! ### Distances -/
theorem cre {α : Type} {e : α} {x lo hi : Int} {K : Option α} : cond (decide (x < lo)) (some e) (cond (decide (hi < x)) (some e) K) = if lo ≤ x ∧ x ≤ hi then K else some e := by
  by_cases h1 : x < lo
  · have : ¬ lo ≤ x := by omega
    simp [h1, this]
  · by_cases h2 : hi < x
    · have : ¬ x ≤ hi := by omega
      simp [h1, h2, this]
    · have h3 : lo ≤ x := by omega
      have h4 : x ≤ hi := by omega
      simp [h1, h2, h3, h4]
/-! ### Ways between angles -/
/-! AngleBetween -/
theorem avalid_eq (a : Int) : f63 a = some (decide (0 ≤ a ∧ a < 256)) := by
  unfold f63
  by_cases h : 0 ≤ a <;> simp [h]
theorem rthrough_eq (a b : Int) (h1 : -9223372036854775808 ≤ b - a) (h2 : b - a ≤ 9223372036854775807) : f64 a b = some (decide (1 ≤ (b - a) % 256 ∧ (b - a) % 256 ≤ 127)) := by
  unfold f64
  rw [w64 h1 h2]
  simp only [rnorm_eq, Option.bind_some]
  by_cases h : 1 ≤ (b - a) % 256 <;> simp [h]
def thr (a b c : Int) : Bool := if a = c ∨ b = c then decide ((0 - a) % 256 < 128) else decide ((c - a) % 256 < 128)
def way (a b c : Int) : Int := if (b - a) % 256 < 128 then (b - a) % 256 else if 128 < (b - a) % 256 then (b - a) % 256 - 256 else if thr a b c then 128 else -128
theorem between_in {a b c : Int} (ha : 0 ≤ a ∧ a < 256) (hb : 0 ≤ b ∧ b < 256) (hc : c = 64 ∨ c = 192) : f60 a b c = some (way a b c, 0) := by
  unfold f60
  simp only [avalid_eq, ha, hb, Option.bind_some, and_self, decide_true, Bool.not_true, cond_false, norm_eq]
  rw [w64 (n := b - a) (by omega) (by omega), w64 (n := 0 - a) (by omega) (by omega), w64 (n := c - a) (by omega) (by omega), w64 (n := (b - a) % 256 - 256) (by omega) (by omega)]
  unfold way thr
  rcases hc with rfl | rfl
  all_goals
    simp only [Bool.cond_eq_ite, decide_eq_true_eq, Bool.not_eq_true', decide_eq_false_iff_not, not_true, not_false_eq_true, if_true, if_false, Int.reduceEq]
    repeat' split
    all_goals first
      | rfl
      | (exfalso; simp_all; done)
      | (exfalso; simp_all; omega)
theorem rbetween_in {a b c : Int} (ha : 0 ≤ a ∧ a < 256) (hb : 0 ≤ b ∧ b < 256) (hc : c = 64 ∨ c = 192) : f62 a b c = some (way a b c, 0) := by
  unfold f62
  simp only [rnorm_eq, Option.bind_some]
  rw [w64 (n := b - a) (by omega) (by omega), rthrough_eq a 0 (by omega) (by omega), rthrough_eq a c (by omega) (by omega), w64 (n := (b - a) % 256 - 256) (by omega) (by omega)]
  unfold way thr
  simp only [Option.bind_some]
  have h1 : ¬ a < 0 := by omega
  have h2 : ¬ 255 < a := by omega
  have h3 : ¬ b < 0 := by omega
  have h4 : ¬ 255 < b := by omega
  rcases hc with rfl | rfl
  all_goals
    simp only [h1, h2, h3, h4, Bool.cond_eq_ite, decide_eq_true_eq, Bool.not_eq_true', decide_eq_false_iff_not, not_true, not_false_eq_true, if_true, if_false, Int.reduceEq]
    repeat' split
    all_goals first
      | rfl
      | (exfalso; simp_all; done)
      | (exfalso; simp_all; omega)
      | (exfalso; omega)
/-! ### Limits -/
theorem bj1 {α : Type} {c : Bool} {X : Option Bool} {E K : Option α} : (Option.bind (cond c (some true) X) fun r => cond r E K) = cond c E (Option.bind X fun r => cond r E K) := by
  cases c <;> rfl
def lb (x0 x1 x2 x3 x4 x5 : Int) : Prop := (-64 ≤ x0 ∧ x0 ≤ x1 ∧ x1 ≤ 64) ∧ (0 ≤ x2 ∧ x2 ≤ 255) ∧ (0 ≤ x3 ∧ x3 ≤ 255) ∧ (0 ≤ x4 ∧ x4 ≤ 6) ∧ (1 ≤ x5 ∧ x5 ≤ 128)
instance lb_dec (x0 x1 x2 x3 x4 x5 : Int) : Decidable (lb x0 x1 x2 x3 x4 x5) := by unfold lb; exact inferInstance
theorem lb11 {x0 x1 x2 x3 x4 x5 : Int} {K : Option Int} : cond (decide (x0 < -64)) (some 1) (cond (decide (x1 < x0)) (some 1) (cond (decide (64 < x1)) (some 1) (cond (decide (x2 < 0)) (some 1) (cond (decide (255 < x2)) (some 1) (cond (decide (x3 < 0)) (some 1) (cond (decide (255 < x3)) (some 1)
    (cond (decide (x4 < 0)) (some 1) (cond (decide (6 < x4)) (some 1) (cond (decide (x5 < 1)) (some 1) (cond (decide (128 < x5)) (some 1) K)))))))))) = if lb x0 x1 x2 x3 x4 x5 then K else some 1 := by
  -- lb_dec
  by_cases h : lb x0 x1 x2 x3 x4 x5
  · obtain ⟨⟨h1, h2, h3⟩, ⟨h4, h5⟩, ⟨h6, h7⟩, ⟨h8, h9⟩, h10, h11⟩ := id h
    rw [if_pos h, decide_eq_false (show ¬ x0 < -64 by omega), decide_eq_false (show ¬ x1 < x0 by omega), decide_eq_false (show ¬ 64 < x1 by omega), decide_eq_false (show ¬ x2 < 0 by omega), decide_eq_false (show ¬ 255 < x2 by omega), decide_eq_false (show ¬ x3 < 0 by omega), decide_eq_false (show ¬ 255 < x3 by omega),
      decide_eq_false (show ¬ x4 < 0 by omega), decide_eq_false (show ¬ 6 < x4 by omega), decide_eq_false (show ¬ x5 < 1 by omega), decide_eq_false (show ¬ 128 < x5 by omega)]
    rfl
  · rw [if_neg h]
    by_cases c1 : x0 < -64
    · rw [decide_eq_true c1]; rfl
    rw [decide_eq_false c1]
    by_cases c2 : x1 < x0
    · rw [decide_eq_true c2]; rfl
    rw [decide_eq_false c2]
    by_cases c3 : 64 < x1
    · rw [decide_eq_true c3]; rfl
    rw [decide_eq_false c3]
    by_cases c4 : x2 < 0
    · rw [decide_eq_true c4]; rfl
    rw [decide_eq_false c4]
    by_cases c5 : 255 < x2
    · rw [decide_eq_true c5]; rfl
    rw [decide_eq_false c5]
    by_cases c6 : x3 < 0
    · rw [decide_eq_true c6]; rfl
    rw [decide_eq_false c6]
    by_cases c7 : 255 < x3
    · rw [decide_eq_true c7]; rfl
    rw [decide_eq_false c7]
    by_cases c8 : x4 < 0
    · rw [decide_eq_true c8]; rfl
    rw [decide_eq_false c8]
    by_cases c9 : 6 < x4
    · rw [decide_eq_true c9]; rfl
    rw [decide_eq_false c9]
    by_cases c10 : x5 < 1
    · rw [decide_eq_true c10]; rfl
    rw [decide_eq_false c10]
    by_cases c11 : 128 < x5
    · rw [decide_eq_true c11]; rfl
    exact absurd ⟨⟨by omega, by omega, by omega⟩, ⟨by omega, by omega⟩, ⟨by omega, by omega⟩, ⟨by omega, by omega⟩, by omega, by omega⟩ h
abbrev limOk (a : Nat → Int) : Prop := lb (a 0) (a 1) (a 2) (a 3) (a 4) (a 5) ∧ lb (a 6) (a 7) (a 8) (a 9) (a 10) (a 11) ∧ lb (a 12) (a 13) (a 14) (a 15) (a 16) (a 17) ∧ lb (a 18) (a 19) (a 20) (a 21) (a 22) (a 23) ∧ lb (a 24) (a 25) (a 26) (a 27) (a 28) (a 29) ∧ lb (a 30) (a 31) (a 32) (a 33) (a 34) (a 35) ∧
  (0 ≤ a 38 ∧ a 38 ≤ 8192) ∧ (1 ≤ a 39 ∧ a 39 ≤ 128)
theorem ck1' {p q : Prop} [Decidable p] [Decidable q] : (if p then (some (if q then (0 : Int) else 1)) else some 1) = some (if p ∧ q then 0 else 1) := by
  by_cases hp : p <;> by_cases hq : q <;> simp [hp, hq]
theorem lcheck_eq (a : Nat → Int) : f14 a = some (if limOk a then 0 else 1) := by
  have e : ∀ {p : Prop} [Decidable p], (if p then some (0 : Int) else some 1) = some (if p then 0 else 1) := by
    intro p _
    by_cases hp : p <;> simp [hp]
  unfold f14 limOk
  simp -implicitDefEqProofs only [lb11]
  simp -implicitDefEqProofs only [cre, e, ck1']
theorem lcheck_in {a : Nat → Int} (h : limOk a) : f14 a = some 0 := by rw [lcheck_eq, if_pos h]
theorem lcheck_out {a : Nat → Int} (h : ¬ limOk a) : f14 a = some 1 := by rw [lcheck_eq, if_neg h]
theorem rlcheck_eq (a : Nat → Int) : f15 a = f14 a := by
  unfold f15 f14
  simp -implicitDefEqProofs only [bj1, Option.bind_some]

end Go.Proofs.Ytbiedpabdkbpfaa
