/-
  PLAIN LEMMAS about the contracts, shared by the laws.
-/
import Derived.Test.YtfpmbgknojbkcaaDoorVEq
import Derived.Test.YtfpmbgknojbkcaaDoorFb
open Go Go.VE Go.Proofs
set_option maxRecDepth 1000000
set_option maxHeartbeats 0
set_option linter.unusedVariables false
set_option linter.unusedSimpArgs false
namespace Go.Proofs.YtfpmbgknojbkcaaDoor
theorem norm_eq (a : Int) : f64 a = some (a % 256) := by
  unfold f64
  have h : (IntKind.i64.wrap (a.tmod 256 + 256)).tmod 256 = a % 256 := by
    have hb : -256 < a.tmod 256 ∧ a.tmod 256 < 256 := tmod_bounds a 256 (by omega)
    rw [w64 (by omega) (by omega), tmod_nonneg_eq (by omega)]
    rcases tmod_cases a 256 with ⟨_, h⟩ | ⟨_, h⟩ <;> omega
  rw [h]
theorem rnorm_eq (a : Int) : f65 a = some (a % 256) := by
  unfold f65
  have hb : -256 < a.tmod 256 ∧ a.tmod 256 < 256 := tmod_bounds a 256 (by omega)
  by_cases h : a.tmod 256 < 0
  · rw [w64 (by omega) (by omega)]
    rcases tmod_cases a 256 with ⟨_, h2⟩ | ⟨_, h2⟩
    · omega
    · simp only [h, decide_true, cond_true]
      rw [show a.tmod 256 + 256 = a % 256 by omega]
  · rcases tmod_cases a 256 with ⟨_, h2⟩ | ⟨_, h2⟩
    · simp only [h, decide_false, cond_false]
      rw [h2]
    · simp only [h, decide_false, cond_false]
      rw [show a.tmod 256 = a % 256 by omega]
theorem amirror_eq (a : Int) : f49 a = some ((-a) % 256) := by
  unfold f49
  simp only [norm_eq, Option.bind_some]
  rw [w64 (by omega) (by omega)]
  rw [show (0 - a % 256) % 256 = (-a) % 256 by omega]

abbrev okP (x : Int) : Prop := -32768 ≤ x ∧ x ≤ 32768
/-! ### Checks, opened -/
theorem peel {c : Prop} [Decidable c] {e : Int} {K : Option Int} (he : e ≠ 0) (h : cond (decide c) (some e) K = some 0) : ¬ c ∧ K = some 0 := by
  by_cases hc : c
  · simp [hc] at h
    exact absurd h he
  · simp [hc] at h
    exact ⟨hc, h⟩
theorem peelb {x K : Option Int} (h : (Option.bind x fun r => cond (!decide (r = 0)) (some r) K) = some 0) : x = some 0 ∧ K = some 0 := by
  cases x with
  | none => simp at h
  | some r =>
    by_cases hr : r = 0
    · subst hr
      simpa using h
    · simp [hr] at h
theorem peeln {x : Option Bool} {e : Int} {K : Option Int} (he : e ≠ 0) (h : (Option.bind x fun r => cond (!r) (some e) K) = some 0) : x = some true ∧ K = some 0 := by
  cases x with
  | none => simp at h
  | some r =>
    cases r
    · simp at h
      exact absurd h he
    · simpa using h
/-! ### Aims -/
abbrev aimOk (a : Nat → Int) : Prop := (0 ≤ a 0 ∧ a 0 ≤ 255) ∧ (-64 ≤ a 1 ∧ a 1 ≤ 64) ∧ (0 ≤ a 2 ∧ a 2 ≤ 6) ∧ ((a 1 = 64 ∨ a 1 = -64) → a 0 = 0)
theorem known_in {k : Int} (h : 0 ≤ k ∧ k < 6) : f53 k = some true := by simp [f53, h.1, h.2]
theorem upright_eq (a : Nat → Int) : f59 a = some (decide (a 1 = 64 ∨ a 1 = -64)) := by
  unfold f59
  by_cases h : a 1 = 64 <;> simp [h]
theorem acheck_in {k : Int} (hk : 0 ≤ k ∧ k < 6) {a : Nat → Int} (h : aimOk a) : f38 k a = some 0 := by
  obtain ⟨⟨h1, h2⟩, ⟨h3, h4⟩, ⟨h5, h6⟩, h7⟩ := h
  have c1 : ¬ a 0 < 0 := by omega
  have c2 : ¬ 255 < a 0 := by omega
  have c3 : ¬ a 1 < -64 := by omega
  have c4 : ¬ 64 < a 1 := by omega
  have c5 : ¬ a 2 < 0 := by omega
  have c6 : ¬ 6 < a 2 := by omega
  unfold f38
  simp only [known_in hk, upright_eq, Option.bind_some, c1, c2, c3, c4, c5, c6, decide_false, cond_false, Bool.not_true]
  by_cases hp : a 1 = 64 ∨ a 1 = -64
  · simp [hp, h7 hp]
  · simp [hp]
theorem acheck_of {k : Int} {a : Nat → Int} (h : f38 k a = some 0) : aimOk a := by
  unfold f38 at h
  obtain ⟨_, h⟩ := peeln (by omega) h
  obtain ⟨c1, h⟩ := peel (by omega) h
  obtain ⟨c2, h⟩ := peel (by omega) h
  obtain ⟨c3, h⟩ := peel (by omega) h
  obtain ⟨c4, h⟩ := peel (by omega) h
  obtain ⟨c5, h⟩ := peel (by omega) h
  obtain ⟨c6, h⟩ := peel (by omega) h
  refine ⟨by omega, by omega, by omega, fun hp => ?_⟩
  rw [upright_eq] at h
  simp only [hp, decide_true, Option.bind_some, cond_true] at h
  by_cases hz : a 0 = 0
  · exact hz
  · simp [hz] at h
theorem racheck_eq (k : Int) (a : Nat → Int) : f39 k a = f38 k a := rfl
/-! ### Poses -/
abbrev poseOk (p : Nat → Int) : Prop := (okP (p 0) ∧ okP (p 1)) ∧ (0 ≤ p 2 ∧ p 2 ≤ 255) ∧ (-8 ≤ p 3 ∧ p 3 ≤ 8) ∧
  aimOk (nthI [p 4, p 5, p 6]) ∧ aimOk (nthI [p 7, p 8, p 9]) ∧ aimOk (nthI [p 10, p 11, p 12]) ∧ aimOk (nthI [p 13, p 14, p 15]) ∧ aimOk (nthI [p 16, p 17, p 18]) ∧ aimOk (nthI [p 19, p 20, p 21])
theorem on_eq (p : Nat → Int) : f30 p = some (decide (okP (p 0) ∧ okP (p 1))) := by
  unfold f30 okP
  by_cases c1 : -32768 ≤ p 0
  · by_cases c2 : p 0 ≤ 32768
    · by_cases c3 : -32768 ≤ p 1 <;> simp [c1, c2, c3]
    · simp [c1, c2]
  · simp [c1]
theorem valid_of {p : Nat → Int} (h : f18 p = some 0) : poseOk p := by
  unfold f18 at h
  obtain ⟨h0, h⟩ := peeln (by omega) h
  rw [on_eq] at h0
  obtain ⟨c1, h⟩ := peel (by omega) h
  obtain ⟨c2, h⟩ := peel (by omega) h
  obtain ⟨c3, h⟩ := peel (by omega) h
  obtain ⟨c4, h⟩ := peel (by omega) h
  obtain ⟨a0, h⟩ := peelb h
  obtain ⟨a1, h⟩ := peelb h
  obtain ⟨a2, h⟩ := peelb h
  obtain ⟨a3, h⟩ := peelb h
  obtain ⟨a4, h⟩ := peelb h
  obtain ⟨a5, h⟩ := peelb h
  exact ⟨by simpa using h0, by omega, by omega, acheck_of a0, acheck_of a1, acheck_of a2, acheck_of a3, acheck_of a4, acheck_of a5⟩
theorem valid_in {p : Nat → Int} (h : poseOk p) : f18 p = some 0 := by
  obtain ⟨h0, ⟨h1, h2⟩, ⟨h3, h4⟩, a0, a1, a2, a3, a4, a5⟩ := h
  have c1 : ¬ p 2 < 0 := by omega
  have c2 : ¬ 255 < p 2 := by omega
  have c3 : ¬ p 3 < -8 := by omega
  have c4 : ¬ 8 < p 3 := by omega
  unfold f18
  rw [on_eq, acheck_in (by omega) a0, acheck_in (by omega) a1, acheck_in (by omega) a2, acheck_in (by omega) a3, acheck_in (by omega) a4, acheck_in (by omega) a5]
  have hd : decide (okP (p 0) ∧ okP (p 1)) = true := decide_eq_true h0
  simp only [hd, c1, c2, c3, c4, and_self, decide_true, decide_false, Option.bind_some, Bool.not_true, cond_false]
theorem ron_eq (x : Int) : f31 x = some (decide (okP x)) := by
  unfold f31 okP
  by_cases c1 : -32768 ≤ x <;> simp [c1]
theorem rvalid_eq (p : Nat → Int) : f19 p = f18 p := by
  unfold f19 f18
  rw [on_eq, ron_eq, ron_eq]
  simp only [racheck_eq]
  by_cases h0 : okP (p 0)
  · by_cases h1 : okP (p 1)
    · have d0 : decide (okP (p 0)) = true := decide_eq_true h0
      have d1 : decide (okP (p 1)) = true := decide_eq_true h1
      have d2 : decide (okP (p 0) ∧ okP (p 1)) = true := decide_eq_true ⟨h0, h1⟩
      simp only [d0, d1, d2, Option.bind_some, Bool.not_true, cond_false]
    · have d0 : decide (okP (p 0)) = true := decide_eq_true h0
      have d1 : decide (okP (p 1)) = false := decide_eq_false h1
      have d2 : decide (okP (p 0) ∧ okP (p 1)) = false := decide_eq_false fun h => h1 h.2
      simp only [d0, d1, d2, Option.bind_some, Bool.not_true, Bool.not_false, cond_false, cond_true]
  · have d0 : decide (okP (p 0)) = false := decide_eq_false h0
    have d2 : decide (okP (p 0) ∧ okP (p 1)) = false := decide_eq_false fun h => h0 h.1
    simp only [d0, d2, Option.bind_some, Bool.not_false, cond_true]
theorem ex_c {α : Type} {c : Bool} {A B : Option α} (h1 : ∃ r, A = some r) (h2 : ∃ r, B = some r) : ∃ r, cond c A B = some r := by
  cases c
  · exact h2
  · exact h1
theorem ex_b {α β : Type} {x : Option α} {g : α → Option β} (h1 : ∃ r, x = some r) (h2 : ∀ r, ∃ s, g r = some s) : ∃ s, Option.bind x g = some s := by
  obtain ⟨r, rfl⟩ := h1
  exact h2 r
theorem acheck_some {k : Int} (hk : 0 ≤ k ∧ k < 6) (a : Nat → Int) : ∃ r, f38 k a = some r := by
  unfold f38
  refine ex_b ⟨_, known_in hk⟩ fun r => ?_
  repeat' first | exact ⟨_, rfl⟩ | apply ex_c | (refine ex_b ⟨_, upright_eq a⟩ fun r => ?_)
theorem valid_some (p : Nat → Int) : ∃ r, f18 p = some r := by
  unfold f18
  refine ex_b ⟨_, on_eq p⟩ fun r => ?_
  repeat' first | exact ⟨_, rfl⟩ | apply ex_c | (refine ex_b (acheck_some (by omega) _) fun r => ?_)
theorem bit10 : bitsI BinOp.and IntKind.i64 0 1 = 0 ∧ bitsI BinOp.and IntKind.i64 1 1 = 1 ∧ bitsI BinOp.and IntKind.i64 2 1 = 0 ∧ bitsI BinOp.and IntKind.i64 3 1 = 1 := ⟨by kernel_rfl, by kernel_rfl, by kernel_rfl, by kernel_rfl⟩
theorem bit20 : bitsI BinOp.and IntKind.i64 0 2 = 0 ∧ bitsI BinOp.and IntKind.i64 1 2 = 0 ∧ bitsI BinOp.and IntKind.i64 2 2 = 2 ∧ bitsI BinOp.and IntKind.i64 3 2 = 2 := ⟨by kernel_rfl, by kernel_rfl, by kernel_rfl, by kernel_rfl⟩
theorem d10 : decide ((1 : Int) = 0) = false := rfl
theorem d20 : decide ((2 : Int) = 0) = false := rfl
theorem d00 : decide ((0 : Int) = 0) = true := rfl
/-- The mirror image of a pose. -/
abbrev flP (p : Nat → Int) : Nat → Int := nthI [-p 0, p 1, (-p 2) % 256, p 3, (-p 7) % 256, p 8, p 9, (-p 4) % 256, p 5, p 6, (-p 10) % 256, p 11, p 12, (-p 16) % 256, p 17, p 18, (-p 13) % 256, p 14, p 15, (-p 19) % 256, p 20, p 21]
theorem aim_fl {x y z : Int} (h : aimOk (nthI [x, y, z])) : aimOk (nthI [(-x) % 256, y, z]) := by
  obtain ⟨h1, h2, h3, h4⟩ := h
  simp only [aimOk, nthI] at *
  exact ⟨by omega, h2, h3, fun h => by have := h4 h; omega⟩
theorem flP_ok {p : Nat → Int} (hp : poseOk p) : poseOk (flP p) := by
  obtain ⟨⟨⟨_, _⟩, _, _⟩, ⟨_, _⟩, h3, a0, a1, a2, a3, a4, a5⟩ := hp
  refine ⟨⟨⟨?_, ?_⟩, ?_, ?_⟩, ⟨?_, ?_⟩, h3, aim_fl a1, aim_fl a0, aim_fl a2, aim_fl a4, aim_fl a3, aim_fl a5⟩ <;> simp only [nthI] <;> omega
/-! ### Poses, turned and mirrored, as the program does it -/
theorem aimmirror_in {k : Int} (hk : 0 ≤ k ∧ k < 6) {a : Nat → Int} (h : aimOk a) : f50 k a = some (nthI [(-a 0) % 256, a 1, a 2], 0) := by
  unfold f50
  rw [acheck_in hk h, amirror_eq]
  rfl
theorem mirrorpose_in {p : Nat → Int} (hp : poseOk p) : f26 p = some (flP p, 0) := by
  obtain ⟨⟨⟨_, _⟩, _, _⟩, _, _, a0, a1, a2, a3, a4, a5⟩ := id hp
  unfold f26
  rw [valid_in hp, amirror_eq, aimmirror_in (by omega) a0, aimmirror_in (by omega) a1, aimmirror_in (by omega) a2, aimmirror_in (by omega) a3, aimmirror_in (by omega) a4, aimmirror_in (by omega) a5, w64 (n := 0 - p 0) (by omega) (by omega), show 0 - p 0 = -p 0 by omega]
  rfl
noncomputable def d2 (a b : Nat → Int) : Int := (a 0 - b 0) * (a 0 - b 0) + (a 1 - b 1) * (a 1 - b 1) + (a 2 - b 2) * (a 2 - b 2)
/-! ### Directions -/
theorem dvalid_out {a : Int} (h : ¬ (0 ≤ a ∧ a ≤ 8)) : f62 a = some false := by
  unfold f62
  by_cases h1 : 0 ≤ a
  · have : ¬ a ≤ 8 := fun h2 => h ⟨h1, h2⟩
    simp [h1, this]
  · simp [h1]
theorem dvalid_in {a : Int} (h : 0 ≤ a ∧ a ≤ 8) : f62 a = some true := by
  unfold f62
  simp [h.1, h.2]
theorem ris_eq (a : Int) : f63 a = f62 a := rfl
theorem dcheck_in {a b : Int} (h : 0 ≤ a ∧ a ≤ 8) (hb : -1 ≤ b ∧ b ≤ 1) : f54 a b = some 0 := by
  have h1 : ¬ b < -1 := by omega
  have h2 : ¬ 1 < b := by omega
  simp [f54, dvalid_in h, h1, h2]
theorem dcheck_out {a b : Int} (h : ¬ ((0 ≤ a ∧ a ≤ 8) ∧ (-1 ≤ b ∧ b ≤ 1))) : f54 a b = some 1 := by
  by_cases ha : 0 ≤ a ∧ a ≤ 8
  · by_cases h1 : b < -1
    · simp [f54, dvalid_in ha, h1]
    · by_cases h2 : 1 < b
      · simp [f54, dvalid_in ha, h1, h2]
      · exact absurd ⟨ha, by omega, by omega⟩ h
  · simp [f54, dvalid_out ha]
/-! ### Targets -/
abbrev tgOk (k : Int) (t : Nat → Int) : Prop := (0 ≤ t 0 ∧ t 0 ≤ 8) ∧ (-1 ≤ t 1 ∧ t 1 ≤ 1) ∧ (0 ≤ t 2 ∧ t 2 ≤ 6) ∧ (t 0 = 0 → t 1 ≠ 0 ∧ (t 1 = -1 → k ≠ 2 ∧ k ≠ 5))
def azT (d : Int) : Int := if d = 0 then 0 else 32 * (d - 1)
def elT (d l : Int) : Int := if d = 0 then 64 * l else 32 * l
theorem deighth_in {d : Int} (h : 1 ≤ d ∧ d ≤ 8) : f55 d = some (d - 1, 0) := by
  have h0 : ¬ d = 0 := by omega
  unfold f55
  rw [dvalid_in (by omega), w64 (n := d - 1) (by omega) (by omega)]
  simp [h0]
theorem tof_in {k : Int} (hk : 0 ≤ k ∧ k < 6) {t : Nat → Int} (h : tgOk k t) : f28 k t = some (nthI [azT (t 0), elT (t 0) (t 1), t 2], 0) := by
  obtain ⟨⟨h1, h2⟩, ⟨h3, h4⟩, ⟨h5, h6⟩, h7⟩ := h
  have c1 : ¬ t 2 < 0 := by omega
  have c2 : ¬ 6 < t 2 := by omega
  unfold f28
  rw [known_in hk, dcheck_in ⟨h1, h2⟩ ⟨h3, h4⟩, w64 (n := 32 * t 1) (by omega) (by omega), w64 (n := 64 * t 1) (by omega) (by omega)]
  simp only [c1, c2, Option.bind_some, decide_true, decide_false, Bool.not_true, cond_false]
  by_cases h0 : t 0 = 0
  · obtain ⟨k1, k2⟩ := h7 h0
    have k3 : ¬ t 1 = 0 := k1
    simp only [h0, k3, decide_true, decide_false, Bool.not_true, cond_false, azT, elT, if_true]
    by_cases h8 : t 1 = -1
    · obtain ⟨k4, k5⟩ := k2 h8
      have k4' : ¬ k = 2 := k4
      have k5' : ¬ k = 5 := k5
      simp only [h8, k4', k5', decide_true, decide_false, cond_true, cond_false]
    · simp only [h8, decide_false, cond_false]
  · rw [deighth_in (by omega)]
    simp only [h0, decide_false, Bool.not_false, cond_true, Option.bind_some, azT, elT, if_false]
    rw [w64 (n := 32 * (t 0 - 1)) (by omega) (by omega)]
theorem tof_out {k : Int} {t : Nat → Int} (h : ¬ ((0 ≤ k ∧ k < 6) ∧ tgOk k t)) : ∃ e, e ≠ 0 ∧ f28 k t = some (nthI [0, 0, 0], e) := by
  unfold f28
  by_cases hk : 0 ≤ k ∧ k < 6
  · rw [known_in hk]
    by_cases hd : (0 ≤ t 0 ∧ t 0 ≤ 8) ∧ (-1 ≤ t 1 ∧ t 1 ≤ 1)
    · rw [dcheck_in hd.1 hd.2]
      by_cases c1 : t 2 < 0
      · exact ⟨1, by omega, by simp [c1]⟩
      · by_cases c2 : 6 < t 2
        · exact ⟨1, by omega, by simp [c1, c2]⟩
        · have h7 : ¬ (t 0 = 0 → t 1 ≠ 0 ∧ (t 1 = -1 → k ≠ 2 ∧ k ≠ 5)) := fun h7 => h ⟨hk, hd.1, hd.2, by omega, h7⟩
          by_cases h0 : t 0 = 0
          · by_cases h1 : t 1 = 0
            · exact ⟨18, by omega, by simp [c1, c2, h0, h1]⟩
            · by_cases h2 : t 1 = -1
              · by_cases h3 : k = 2
                · exact ⟨18, by omega, by simp [c1, c2, h0, h2, h3]⟩
                · by_cases h4 : k = 5
                  · exact ⟨18, by omega, by simp [c1, c2, h0, h2, h4]⟩
                  · exact absurd (fun _ => ⟨h1, fun _ => ⟨h3, h4⟩⟩) h7
              · exact absurd (fun _ => ⟨h1, fun h => absurd h h2⟩) h7
          · exact absurd (fun h => absurd h h0) h7
    · rw [dcheck_out hd]
      exact ⟨1, by omega, by simp⟩
  · have : f53 k = some false := by
      unfold f53
      by_cases h1 : 0 ≤ k
      · have : ¬ k < 6 := by omega
        simp [h1, this]
      · simp [h1]
    rw [this]
    exact ⟨9, by omega, by simp⟩
theorem tof_some (k : Int) (t : Nat → Int) : ∃ r, f28 k t = some r := by
  by_cases h : (0 ≤ k ∧ k < 6) ∧ tgOk k t
  · exact ⟨_, tof_in h.1 h.2⟩
  · obtain ⟨e, _, h⟩ := tof_out h
    exact ⟨_, h⟩
theorem tof_of {k : Int} {t z : Nat → Int} (h : f28 k t = some (z, 0)) : (0 ≤ k ∧ k < 6) ∧ tgOk k t := by
  by_cases h' : (0 ≤ k ∧ k < 6) ∧ tgOk k t
  · exact h'
  · obtain ⟨e, he, h2⟩ := tof_out h'
    rw [h] at h2
    have := congrArg (fun o => o.map Prod.snd) h2
    simp at this
    exact absurd this.symm he
theorem rtof_eq (k : Int) (t : Nat → Int) : f29 k t = f28 k t := rfl
theorem aim_of_tg {k : Int} {t : Nat → Int} (h : tgOk k t) : aimOk (nthI [azT (t 0), elT (t 0) (t 1), t 2]) := by
  obtain ⟨⟨h1, h2⟩, ⟨h3, h4⟩, ⟨h5, h6⟩, h7⟩ := h
  simp only [aimOk, nthI, azT, elT]
  by_cases h0 : t 0 = 0
  · simp only [h0, if_true]
    refine ⟨by omega, by omega, by omega, fun _ => by simp⟩
  · simp only [h0, if_false]
    refine ⟨by omega, by omega, by omega, fun _ => by omega⟩
theorem drot1 {n : Int} (h : 0 ≤ n ∧ n ≤ 7) : f60 1 n = some (n + 1, 0) := by
  unfold f60
  rw [dvalid_in (by omega)]
  simp only [Option.bind_some, Bool.not_true, cond_false]
  have e : IntKind.i64.wrap (1 - 1) = 0 := by kernel_rfl
  rw [e, tmod_nonneg_eq h.1, w64 (n := 0 + n % 8) (by omega) (by omega), w64 (n := 0 + n % 8 + 8) (by omega) (by omega), tmod_nonneg_eq (by omega), w64 (by omega) (by omega)]
  simp
  omega
theorem anot_in {k : Int} (hk : 0 ≤ k ∧ k < 6) {t : Nat → Int} (h : tgOk k t) : f36 k (nthI [azT (t 0), elT (t 0) (t 1), t 2]) = some (nthI [t 0, t 1, t 2], 0) := by
  have ha := aim_of_tg h
  obtain ⟨⟨h1, h2⟩, ⟨h3, h4⟩, ⟨h5, h6⟩, h7⟩ := id h
  unfold f36
  rw [acheck_in hk ha, upright_eq]
  simp only [nthI, Option.bind_some, decide_true, Bool.not_true, cond_false]
  by_cases h0 : t 0 = 0
  · obtain ⟨k1, k2⟩ := h7 h0
    have hu : elT (t 0) (t 1) = 64 ∨ elT (t 0) (t 1) = -64 := by simp only [elT, h0, if_true]; omega
    have e1 : IntKind.i64.wrap ((elT (t 0) (t 1)).tdiv 64) = t 1 := by
      simp only [elT, h0, if_true]
      have : t 1 = 1 ∨ t 1 = -1 := by omega
      rcases this with h | h <;> rw [h] <;> rfl
    simp only [hu, decide_true, Bool.not_true, cond_false, e1]
    have e2 : f28 k (nthI [0, t 1, t 2]) = some (nthI [azT 0, elT 0 (t 1), t 2], 0) := tof_in hk (t := nthI [0, t 1, t 2]) ⟨by simp [nthI], ⟨h3, h4⟩, ⟨h5, h6⟩, fun _ => ⟨k1, k2⟩⟩
    rw [e2, h0]
    simp only [Option.bind_some, nthI, decide_true, Bool.not_true, Bool.and_self, cond_false]
  · have hu : ¬ (elT (t 0) (t 1) = 64 ∨ elT (t 0) (t 1) = -64) := by simp only [elT, h0, if_false]; omega
    have e1 : IntKind.i64.wrap ((elT (t 0) (t 1)).tdiv 32) = t 1 := by
      simp only [elT, h0, if_false]
      have : t 1 = 1 ∨ t 1 = 0 ∨ t 1 = -1 := by omega
      rcases this with h | h | h <;> rw [h] <;> rfl
    have e0 : IntKind.i64.wrap ((azT (t 0)).tdiv 32) = t 0 - 1 := by
      simp only [azT, h0, if_false]
      rw [Int.tdiv_eq_ediv_of_nonneg (by omega), w64 (by omega) (by omega)]
      omega
    simp only [hu, decide_false, Bool.not_false, cond_true, e0, e1]
    rw [drot1 (by omega), show t 0 - 1 + 1 = t 0 by omega]
    simp only [Option.bind_some]
    have e2 : f28 k (nthI [t 0, t 1, t 2]) = some (nthI [azT (t 0), elT (t 0) (t 1), t 2], 0) := tof_in hk (t := nthI [t 0, t 1, t 2]) h
    rw [e2]
    simp only [Option.bind_some, nthI, decide_true, Bool.not_true, Bool.and_self, cond_false]
theorem anot_of {k : Int} {a : Nat → Int} (hk : 0 ≤ k ∧ k < 6) (ha : aimOk a) : (∃ e, e ≠ 0 ∧ f36 k a = some (nthI [0, 0, 0], e)) ∨ (∃ x y, tgOk k (nthI [x, y, a 2]) ∧ azT x = a 0 ∧ elT x y = a 1 ∧ f36 k a = some (nthI [x, y, a 2], 0)) := by
  have key : ∀ x y : Int, (∃ e, e ≠ 0 ∧ (Option.bind (f28 k (nthI [x, y, a 2])) fun r5 => cond (!decide (r5.snd = 0)) (some ((nthI [0, 0, 0], 2))) (cond (!(decide (r5.fst 0 = a 0) && (decide (r5.fst 1 = a 1) && decide (r5.fst 2 = a 2)))) (some ((nthI [0, 0, 0], (2 : Int)))) (some ((nthI [x, y, a 2], 0))))) = some (nthI [0, 0, 0], e)) ∨
      (tgOk k (nthI [x, y, a 2]) ∧ azT x = a 0 ∧ elT x y = a 1 ∧ (Option.bind (f28 k (nthI [x, y, a 2])) fun r5 => cond (!decide (r5.snd = 0)) (some ((nthI [0, 0, 0], 2))) (cond (!(decide (r5.fst 0 = a 0) && (decide (r5.fst 1 = a 1) && decide (r5.fst 2 = a 2)))) (some ((nthI [0, 0, 0], (2 : Int)))) (some ((nthI [x, y, a 2], 0))))) = some (nthI [x, y, a 2], 0)) := by
    intro x y
    by_cases h : tgOk k (nthI [x, y, a 2])
    · have e2 : f28 k (nthI [x, y, a 2]) = some (nthI [azT x, elT x y, a 2], 0) := tof_in hk h
      rw [e2]
      simp only [Option.bind_some, nthI, decide_true, Bool.not_true, cond_false, Bool.and_true]
      by_cases h1 : azT x = a 0
      · by_cases h2 : elT x y = a 1
        · refine .inr ⟨h, h1, h2, ?_⟩
          simp only [h1, h2, decide_true, Bool.and_self, Bool.not_true, cond_false]
        · refine .inl ⟨2, by omega, ?_⟩
          simp only [h1, h2, decide_true, decide_false, Bool.and_false, Bool.not_false, cond_true]
      · refine .inl ⟨2, by omega, ?_⟩
        simp only [h1, decide_false, Bool.false_and, Bool.not_false, cond_true]
    · obtain ⟨e, he, h2⟩ := tof_out (k := k) (t := nthI [x, y, a 2]) fun h' => h h'.2
      refine .inl ⟨2, by omega, ?_⟩
      rw [h2]
      simp only [Option.bind_some, he, decide_false, Bool.not_false, cond_true]
  unfold f36
  rw [acheck_in hk ha, upright_eq]
  simp only [Option.bind_some, decide_true, Bool.not_true, cond_false]
  by_cases hu : a 1 = 64 ∨ a 1 = -64
  · simp only [hu, decide_true, Bool.not_true, cond_false]
    rcases key 0 (IntKind.i64.wrap ((a 1).tdiv 64)) with h | h
    · exact .inl h
    · exact .inr ⟨_, _, h⟩
  · simp only [hu, decide_false, Bool.not_false, cond_true]
    have hr : ∃ d, f60 1 (IntKind.i64.wrap ((a 0).tdiv 32)) = some (d, 0) := by
      rw [Int.tdiv_eq_ediv_of_nonneg ha.1.1, w64 (by have := ha.1.1; omega) (by have := ha.1.2; omega)]
      exact ⟨_, drot1 (by have := ha.1.1; have := ha.1.2; omega)⟩
    obtain ⟨d, hd⟩ := hr
    rw [hd]
    simp only [Option.bind_some]
    rcases key d (IntKind.i64.wrap ((a 1).tdiv 32)) with h | h
    · exact .inl h
    · exact .inr ⟨_, _, h⟩
/-! ### Starts -/
abbrev startOk (s : Nat → Int) : Prop := (okP (s 0) ∧ okP (s 1)) ∧ (0 ≤ s 2 ∧ s 2 ≤ 7) ∧ (-1 ≤ s 3 ∧ s 3 ≤ 1) ∧ (1 ≤ s 4 ∧ s 4 ≤ 3) ∧
  tgOk 0 (nthI [s 5, s 6, s 7]) ∧ tgOk 1 (nthI [s 8, s 9, s 10]) ∧ tgOk 2 (nthI [s 11, s 12, s 13]) ∧ tgOk 3 (nthI [s 14, s 15, s 16]) ∧ tgOk 4 (nthI [s 17, s 18, s 19]) ∧ tgOk 5 (nthI [s 20, s 21, s 22]) ∧
  (s 4 ≠ 2 → s 5 = 0 ∧ s 6 = -1 ∧ s 7 = 0) ∧ (s 4 ≠ 1 → s 8 = 0 ∧ s 9 = -1 ∧ s 10 = 0)
theorem peelp {α : Type} {x : Option (α × Int)} {K : Option Int} (h : (Option.bind x fun r => cond (!decide (r.2 = 0)) (some r.2) K) = some 0) : (∃ z, x = some (z, 0)) ∧ K = some 0 := by
  cases x with
  | none => simp at h
  | some r =>
    obtain ⟨z, e⟩ := r
    by_cases hr : e = 0
    · subst hr
      exact ⟨⟨z, rfl⟩, by simpa using h⟩
    · simp [hr] at h
theorem dn3 {p q r : Prop} [Decidable p] [Decidable q] [Decidable r] {K : Option Int} (h : cond (!(decide p && (decide q && decide r))) (some 19) K = some 0) : (p ∧ q ∧ r) ∧ K = some 0 := by
  by_cases hp : p
  · by_cases hq : q
    · by_cases hr : r
      · exact ⟨⟨hp, hq, hr⟩, by simpa [hp, hq, hr] using h⟩
      · simp [hp, hq, hr] at h
    · simp [hp, hq] at h
  · simp [hp] at h
theorem scheck_of {s : Nat → Int} (h : f13 s = some 0) : startOk s := by
  unfold f13 at h
  obtain ⟨h0, h⟩ := peeln (by omega) h
  rw [on_eq] at h0
  obtain ⟨c1, h⟩ := peel (by omega) h
  obtain ⟨c2, h⟩ := peel (by omega) h
  obtain ⟨c3, h⟩ := peel (by omega) h
  obtain ⟨c4, h⟩ := peel (by omega) h
  obtain ⟨c5, h⟩ := peel (by omega) h
  obtain ⟨c6, h⟩ := peel (by omega) h
  obtain ⟨⟨_, a0⟩, h⟩ := peelp h
  obtain ⟨⟨_, a1⟩, h⟩ := peelp h
  obtain ⟨⟨_, a2⟩, h⟩ := peelp h
  obtain ⟨⟨_, a3⟩, h⟩ := peelp h
  obtain ⟨⟨_, a4⟩, h⟩ := peelp h
  obtain ⟨⟨_, a5⟩, h⟩ := peelp h
  refine ⟨by simpa using h0, by omega, by omega, by omega, (tof_of a0).2, (tof_of a1).2, (tof_of a2).2, (tof_of a3).2, (tof_of a4).2, (tof_of a5).2, ?_⟩
  have h4 : s 4 = 1 ∨ s 4 = 2 ∨ s 4 = 3 := by omega
  rcases h4 with h4 | h4 | h4 <;> rw [h4] at h ⊢
  · simp -implicitDefEqProofs only [bit10.2.1, bit20.2.1, d10, d20, d00, decide_true, Bool.not_true, Bool.not_false, cond_true, cond_false] at h
    exact ⟨fun _ => (dn3 h).1, fun h => absurd rfl h⟩
  · simp -implicitDefEqProofs only [bit10.2.2.1, bit20.2.2.1, d10, d20, d00, decide_true, Bool.not_true, Bool.not_false, cond_true, cond_false] at h
    exact ⟨fun h => absurd rfl h, fun _ => (dn3 h).1⟩
  · simp -implicitDefEqProofs only [bit10.2.2.2, bit20.2.2.2, d10, d20, d00, decide_true, Bool.not_true, Bool.not_false, cond_true, cond_false] at h
    exact ⟨fun _ => (dn3 h).1, fun _ => (dn3 (dn3 h).2).1⟩
theorem scheck_in {s : Nat → Int} (h : startOk s) : f13 s = some 0 := by
  obtain ⟨h0, ⟨h1, h2⟩, ⟨h3, h4⟩, ⟨h5, h6⟩, a0, a1, a2, a3, a4, a5, q1, q2⟩ := h
  have c1 : ¬ s 2 < 0 := by omega
  have c2 : ¬ 7 < s 2 := by omega
  have c3 : ¬ s 3 < -1 := by omega
  have c4 : ¬ 1 < s 3 := by omega
  have c5 : ¬ s 4 < 1 := by omega
  have c6 : ¬ 3 < s 4 := by omega
  have hd : decide (okP (s 0) ∧ okP (s 1)) = true := decide_eq_true h0
  unfold f13
  rw [on_eq, tof_in (by omega) a0, tof_in (by omega) a1, tof_in (by omega) a2, tof_in (by omega) a3, tof_in (by omega) a4, tof_in (by omega) a5]
  simp only [hd, c1, c2, c3, c4, c5, c6, decide_true, decide_false, Option.bind_some, Bool.not_true, cond_false]
  have h4 : s 4 = 1 ∨ s 4 = 2 ∨ s 4 = 3 := by omega
  rcases h4 with h4 | h4 | h4 <;> rw [h4] at q1 q2 ⊢
  · rw [bit10.2.1, bit20.2.1, (q1 (by omega)).1, (q1 (by omega)).2.1, (q1 (by omega)).2.2]
    rfl
  · rw [bit10.2.2.1, bit20.2.2.1, (q2 (by omega)).1, (q2 (by omega)).2.1, (q2 (by omega)).2.2]
    rfl
  · rw [bit10.2.2.2, bit20.2.2.2, (q1 (by omega)).1, (q1 (by omega)).2.1, (q1 (by omega)).2.2, (q2 (by omega)).1, (q2 (by omega)).2.1, (q2 (by omega)).2.2]
    rfl
theorem scheck_some (s : Nat → Int) : ∃ r, f13 s = some r := by
  unfold f13
  refine ex_b ⟨_, on_eq s⟩ fun r => ?_
  repeat' first | exact ⟨_, rfl⟩ | apply ex_c | (refine ex_b (tof_some _ _) fun r => ?_)
theorem rscheck_eq (s : Nat → Int) : f14 s = f13 s := by
  unfold f13 f14
  rw [on_eq, ron_eq, ron_eq]
  by_cases h0 : okP (s 0)
  · by_cases h1 : okP (s 1)
    · have d0 : decide (okP (s 0)) = true := decide_eq_true h0
      have d1 : decide (okP (s 1)) = true := decide_eq_true h1
      have d2 : decide (okP (s 0) ∧ okP (s 1)) = true := decide_eq_true ⟨h0, h1⟩
      simp only [d0, d1, d2, Option.bind_some, Bool.not_true, cond_false]
      by_cases c5 : s 4 < 1
      · simp only [c5, decide_true, cond_true]
      · by_cases c6 : 3 < s 4
        · simp only [c5, c6, decide_true, decide_false, cond_true, cond_false]
        · have h4 : s 4 = 1 ∨ s 4 = 2 ∨ s 4 = 3 := by omega
          have m1 : decide ((1 : Int).tmod 2 = 1) = true := by kernel_rfl
          have m2 : decide ((2 : Int).tmod 2 = 1) = false := by kernel_rfl
          have m3 : decide ((3 : Int).tmod 2 = 1) = true := by kernel_rfl
          have v1 : decide (IntKind.i64.wrap ((1 : Int).tdiv 2) = 1) = false := by kernel_rfl
          have v2 : decide (IntKind.i64.wrap ((2 : Int).tdiv 2) = 1) = true := by kernel_rfl
          have v3 : decide (IntKind.i64.wrap ((3 : Int).tdiv 2) = 1) = true := by kernel_rfl
          rcases h4 with h4 | h4 | h4 <;> rw [h4]
          · simp -implicitDefEqProofs only [bit10.2.1, bit20.2.1, m1, v1, d10, d20, d00, decide_true, Bool.not_true, Bool.not_false, cond_true, cond_false, rtof_eq]
          · simp -implicitDefEqProofs only [bit10.2.2.1, bit20.2.2.1, m2, v2, d10, d20, d00, decide_true, Bool.not_true, Bool.not_false, cond_true, cond_false, rtof_eq]
          · simp -implicitDefEqProofs only [bit10.2.2.2, bit20.2.2.2, m3, v3, d10, d20, d00, decide_true, Bool.not_true, Bool.not_false, cond_true, cond_false, rtof_eq]
    · have d0 : decide (okP (s 0)) = true := decide_eq_true h0
      have d1 : decide (okP (s 1)) = false := decide_eq_false h1
      have d2 : decide (okP (s 0) ∧ okP (s 1)) = false := decide_eq_false fun h => h1 h.2
      simp only [d0, d1, d2, Option.bind_some, Bool.not_true, Bool.not_false, cond_false, cond_true]
  · have d0 : decide (okP (s 0)) = false := decide_eq_false h0
    have d2 : decide (okP (s 0) ∧ okP (s 1)) = false := decide_eq_false fun h => h0 h.1
    simp only [d0, d2, Option.bind_some, Bool.not_false, cond_true]
/-- The pose of a start. -/
abbrev poseOf (s : Nat → Int) : Nat → Int := nthI [s 0, s 1, 32 * s 2, 8 * s 3, azT (s 5), elT (s 5) (s 6), s 7, azT (s 8), elT (s 8) (s 9), s 10, azT (s 11), elT (s 11) (s 12), s 13, azT (s 14), elT (s 14) (s 15), s 16, azT (s 17), elT (s 17) (s 18), s 19, azT (s 20), elT (s 20) (s 21), s 22]
theorem poseOf_ok {s : Nat → Int} (h : startOk s) : poseOk (poseOf s) := by
  obtain ⟨h0, ⟨h1, h2⟩, ⟨h3, h4⟩, ⟨h5, h6⟩, a0, a1, a2, a3, a4, a5, _⟩ := h
  refine ⟨h0, ⟨?_, ?_⟩, ⟨?_, ?_⟩, aim_of_tg a0, aim_of_tg a1, aim_of_tg a2, aim_of_tg a3, aim_of_tg a4, aim_of_tg a5⟩ <;> simp only [nthI] <;> omega
theorem pose_in {s : Nat → Int} (h : startOk s) : f11 s = some (poseOf s, 0) := by
  obtain ⟨h0, ⟨h1, h2⟩, ⟨h3, h4⟩, ⟨h5, h6⟩, a0, a1, a2, a3, a4, a5, _⟩ := id h
  unfold f11
  rw [scheck_in h, tof_in (by omega) a0, tof_in (by omega) a1, tof_in (by omega) a2, tof_in (by omega) a3, tof_in (by omega) a4, tof_in (by omega) a5, w64 (n := 32 * s 2) (by omega) (by omega), w64 (n := 8 * s 3) (by omega) (by omega)]
  rfl
theorem pose_out {s : Nat → Int} (h : ¬ startOk s) : ∃ e z, e ≠ 0 ∧ f13 s = some e ∧ f11 s = some (z, e) ∧ ∀ i, i < 22 → z i = 0 := by
  obtain ⟨r, hr⟩ := scheck_some s
  have hz : r ≠ 0 := fun hz => h (scheck_of (hz ▸ hr))
  unfold f11
  rw [hr]
  simp only [hz, Option.bind_some, decide_false, Bool.not_false, cond_true]
  exact ⟨_, _, hz, rfl, rfl, by decide⟩
theorem rpose_eq (s : Nat → Int) : f12 s = f11 s := by
  unfold f11 f12
  rw [rscheck_eq]
  rfl
abbrev cp23 (s : Nat → Int) : Nat → Int := nthI [s 0, s 1, s 2, s 3, s 4, s 5, s 6, s 7, s 8, s 9, s 10, s 11, s 12, s 13, s 14, s 15, s 16, s 17, s 18, s 19, s 20, s 21, s 22]
theorem notate_in {s : Nat → Int} (h : startOk s) : f16 (poseOf s) (s 4) = some (cp23 s, 0) := by
  have hc : f13 (cp23 s) = some 0 := scheck_in h
  have hv := valid_in (poseOf_ok h)
  obtain ⟨h0, ⟨h1, h2⟩, ⟨h3, h4⟩, ⟨h5, h6⟩, a0, a1, a2, a3, a4, a5, _⟩ := id h
  have e1 : (32 * s 2).tmod 32 = 0 := by rw [tmod_nonneg_eq (by omega)]; omega
  have e2 : (8 * s 3).tmod 8 = 0 := by rcases tmod_cases (8 * s 3) 8 with ⟨_, h⟩ | ⟨_, h⟩ <;> omega
  have e3 : IntKind.i64.wrap ((32 * s 2).tdiv 32) = s 2 := by rw [Int.tdiv_eq_ediv_of_nonneg (by omega), w64 (by omega) (by omega)]; omega
  have e4 : IntKind.i64.wrap ((8 * s 3).tdiv 8) = s 3 := by
    have : s 3 = -1 ∨ s 3 = 0 ∨ s 3 = 1 := by omega
    rcases this with h | h | h <;> rw [h] <;> rfl
  have n0 : f36 0 (nthI [azT (s 5), elT (s 5) (s 6), s 7]) = some (nthI [s 5, s 6, s 7], 0) := anot_in (by omega) a0
  have n1 : f36 1 (nthI [azT (s 8), elT (s 8) (s 9), s 10]) = some (nthI [s 8, s 9, s 10], 0) := anot_in (by omega) a1
  have n2 : f36 2 (nthI [azT (s 11), elT (s 11) (s 12), s 13]) = some (nthI [s 11, s 12, s 13], 0) := anot_in (by omega) a2
  have n3 : f36 3 (nthI [azT (s 14), elT (s 14) (s 15), s 16]) = some (nthI [s 14, s 15, s 16], 0) := anot_in (by omega) a3
  have n4 : f36 4 (nthI [azT (s 17), elT (s 17) (s 18), s 19]) = some (nthI [s 17, s 18, s 19], 0) := anot_in (by omega) a4
  have n5 : f36 5 (nthI [azT (s 20), elT (s 20) (s 21), s 22]) = some (nthI [s 20, s 21, s 22], 0) := anot_in (by omega) a5
  unfold f16
  simp -implicitDefEqProofs only [hv, nthI, e1, e2, e3, e4, n0, n1, n2, n3, n4, n5, hc, Option.bind_some, decide_true, Bool.not_true, cond_false]
def dm (d : Int) : Int := if d ≤ 1 then d else 10 - d
theorem dmirror_in {d : Int} (h : 0 ≤ d ∧ d ≤ 8) : f45 d = some (dm d, 0) := by
  unfold f45
  rw [dvalid_in h, w64 (n := 10 - d) (by omega) (by omega)]
  by_cases c : d ≤ 1 <;> simp [c, dm]
theorem rdmirror_in {d : Int} (h : 0 ≤ d ∧ d ≤ 8) : f48 d = some (dm d, 0) := by
  unfold f48
  rw [ris_eq, dvalid_in h, w64 (n := 10 - d) (by omega) (by omega)]
  by_cases c0 : d = 0
  · simp [c0, dm]
  · by_cases c1 : d = 1
    · simp [c1, dm]
    · have : ¬ d ≤ 1 := by omega
      simp [c0, c1, this, dm]
def ex (c : Int) : Int := if c = 3 then 3 else 3 - c
theorem exch_in {c : Int} (h : 1 ≤ c ∧ c ≤ 3) : f43 c = some (ex c) := by
  have : c = 1 ∨ c = 2 ∨ c = 3 := by omega
  rcases this with h | h | h <;> rw [h] <;> rfl
theorem rexch_in {c : Int} (h : 1 ≤ c ∧ c ≤ 3) : f46 c = some (ex c) := by
  have : c = 1 ∨ c = 2 ∨ c = 3 := by omega
  rcases this with h | h | h <;> rw [h] <;> rfl
/-- The mirror image of a start. -/
abbrev mirS (s : Nat → Int) : Nat → Int := nthI [-s 0, s 1, (8 - s 2) % 8, s 3, ex (s 4), dm (s 8), s 9, s 10, dm (s 5), s 6, s 7, dm (s 11), s 12, s 13, dm (s 17), s 18, s 19, dm (s 14), s 15, s 16, dm (s 20), s 21, s 22]
theorem smirror_in {s : Nat → Int} (h : startOk s) : f24 s = some (mirS s, 0) := by
  have hc := scheck_in h
  obtain ⟨⟨⟨_, _⟩, _⟩, ⟨h1, h2⟩, ⟨h3, h4⟩, ⟨h5, h6⟩, ⟨a0, _⟩, ⟨a1, _⟩, ⟨a2, _⟩, ⟨a3, _⟩, ⟨a4, _⟩, ⟨a5, _⟩, _⟩ := id h
  simp only [nthI] at a0 a1 a2 a3 a4 a5
  unfold f24
  rw [hc, exch_in ⟨h5, h6⟩, dmirror_in a0, dmirror_in a1, dmirror_in a2, dmirror_in a3, dmirror_in a4, dmirror_in a5, w64 (n := 0 - s 0) (by omega) (by omega), w64 (n := 8 - s 2) (by omega) (by omega), tmod_nonneg_eq (by omega), show 0 - s 0 = -s 0 by omega]
  rfl
theorem smirror_out {s : Nat → Int} (h : ¬ startOk s) : ∃ e z, e ≠ 0 ∧ f24 s = some (z, e) := by
  obtain ⟨r, hr⟩ := scheck_some s
  have hz : r ≠ 0 := fun hz => h (scheck_of (hz ▸ hr))
  unfold f24
  rw [hr]
  simp only [hz, Option.bind_some, decide_false, Bool.not_false, cond_true]
  exact ⟨_, _, hz, rfl⟩
theorem rsmirror_eq (s : Nat → Int) : f25 s = f24 s := by
  by_cases h : startOk s
  · rw [smirror_in h]
    have hc := scheck_in h
    obtain ⟨⟨⟨_, _⟩, _⟩, ⟨h1, h2⟩, ⟨h3, h4⟩, ⟨h5, h6⟩, ⟨a0, _⟩, ⟨a1, _⟩, ⟨a2, _⟩, ⟨a3, _⟩, ⟨a4, _⟩, ⟨a5, _⟩, _⟩ := id h
    simp only [nthI] at a0 a1 a2 a3 a4 a5
    unfold f25
    rw [rscheck_eq, hc, rexch_in ⟨h5, h6⟩, rdmirror_in a0, rdmirror_in a1, rdmirror_in a2, rdmirror_in a3, rdmirror_in a4, rdmirror_in a5, w64 (n := 0 - s 0) (by omega) (by omega), w64 (n := 8 - s 2) (by omega) (by omega), tmod_nonneg_eq (by omega), show 0 - s 0 = -s 0 by omega]
    rfl
  · obtain ⟨r, hr⟩ := scheck_some s
    have hz : r ≠ 0 := fun hz => h (scheck_of (hz ▸ hr))
    unfold f24 f25
    rw [rscheck_eq, hr]
    simp only [hz, Option.bind_some, decide_false, Bool.not_false, cond_true]
theorem tg_mirror {k j : Int} {x y z : Int} (h : tgOk k (nthI [x, y, z])) (hj : (k = 2 ∨ k = 5) = (j = 2 ∨ j = 5)) : tgOk j (nthI [dm x, y, z]) := by
  obtain ⟨⟨h1, h2⟩, h3, h4, h5⟩ := h
  simp only [tgOk, nthI, dm] at *
  refine ⟨by split <;> omega, h3, h4, fun h0 => ?_⟩
  have hx : x = 0 := by
    split at h0 <;> omega
  obtain ⟨k1, k2⟩ := h5 hx
  refine ⟨k1, fun hy => ?_⟩
  have k3 := k2 hy
  have k4 : ¬ (k = 2 ∨ k = 5) := fun h => h.elim k3.1 k3.2
  rw [hj] at k4
  exact ⟨fun h => k4 (.inl h), fun h => k4 (.inr h)⟩
theorem mirS_ok {s : Nat → Int} (h : startOk s) : startOk (mirS s) := by
  obtain ⟨⟨⟨_, _⟩, _, _⟩, ⟨h1, h2⟩, h3, ⟨h5, h6⟩, a0, a1, a2, a3, a4, a5, q1, q2⟩ := h
  have he : 1 ≤ ex (s 4) ∧ ex (s 4) ≤ 3 := by unfold ex; split <;> omega
  refine ⟨⟨⟨?_, ?_⟩, ?_, ?_⟩, ⟨?_, ?_⟩, h3, he, tg_mirror a1 (by simp), tg_mirror a0 (by simp), tg_mirror a2 rfl, tg_mirror a4 (by simp), tg_mirror a3 (by simp), tg_mirror a5 rfl, fun h => ?_, fun h => ?_⟩
  · simp only [nthI]; omega
  · simp only [nthI]; omega
  · simp only [nthI]; omega
  · simp only [nthI]; omega
  · simp only [nthI]; omega
  · simp only [nthI]; omega
  · have h' : ex (s 4) ≠ 2 := h
    have : s 4 ≠ 1 := fun h1 => h' (by rw [h1]; rfl)
    obtain ⟨k1, k2, k3⟩ := q2 this
    exact ⟨show dm (s 8) = 0 by rw [k1]; rfl, k2, k3⟩
  · have h' : ex (s 4) ≠ 1 := h
    have : s 4 ≠ 2 := fun h1 => h' (by rw [h1]; rfl)
    obtain ⟨k1, k2, k3⟩ := q1 this
    exact ⟨show dm (s 5) = 0 by rw [k1]; rfl, k2, k3⟩
theorem dm_dm {x : Int} (h : 0 ≤ x ∧ x ≤ 8) : dm (dm x) = x := by
  unfold dm
  (repeat' split) <;> omega
theorem ex_ex {c : Int} (h : 1 ≤ c ∧ c ≤ 3) : ex (ex c) = c := by
  have : c = 1 ∨ c = 2 ∨ c = 3 := by omega
  rcases this with h | h | h <;> rw [h] <;> rfl
/-! ### Quarters -/
theorem quarter_eq (q : Int) : (IntKind.i64.wrap (q.tmod 4 + 4)).tmod 4 = q % 4 := by
  have hb : -4 < q.tmod 4 ∧ q.tmod 4 < 4 := tmod_bounds q 4 (by omega)
  rw [w64 (by omega) (by omega), tmod_nonneg_eq (by omega)]
  rcases tmod_cases q 4 with ⟨_, h⟩ | ⟨_, h⟩ <;> omega
def rx (n x y : Int) : Int := if n = 0 then x else if n = 1 then y else if n = 2 then -x else -y
def ry (n x y : Int) : Int := if n = 0 then y else if n = 1 then -x else if n = 2 then -y else x
theorem rxy_in (n : Int) {x y : Int} (hx : okP x) (hy : okP y) : okP (rx n x y) ∧ okP (ry n x y) := by
  unfold rx ry okP at *
  (repeat' split) <;> omega
theorem neg_ok {x : Int} (h : okP x) : IntKind.i64.wrap (0 - x) = -x := by
  obtain ⟨_, _⟩ := h
  rw [w64 (by omega) (by omega)]
  omega
theorem okP_neg {x : Int} (h : okP x) : okP (-x) := by
  obtain ⟨_, _⟩ := h
  exact ⟨by omega, by omega⟩
theorem pturned_in {p : Nat → Int} (h0 : okP (p 0)) (h1 : okP (p 1)) (q : Int) : f40 p q = some (nthI [rx (q % 4) (p 0) (p 1), ry (q % 4) (p 0) (p 1)], q % 4) := by
  unfold f40
  rw [quarter_eq]
  have : q % 4 = 0 ∨ q % 4 = 1 ∨ q % 4 = 2 ∨ q % 4 = 3 := by omega
  rcases this with h | h | h | h <;> rw [h]
  · rfl
  · simp -implicitDefEqProofs only [neg_ok h0, neg_ok h1]
    rfl
  · simp -implicitDefEqProofs only [neg_ok h0, neg_ok h1]
    rfl
  · simp -implicitDefEqProofs only [neg_ok h0, neg_ok h1, neg_ok (okP_neg h0), Int.neg_neg]
    rfl
theorem rquarters_eq (q : Int) : f42 q = some (q % 4) := by
  unfold f42
  rw [quarter_eq]
theorem rpturned_in {p : Nat → Int} (h0 : okP (p 0)) (h1 : okP (p 1)) (q : Int) : f41 p q = some (nthI [rx (q % 4) (p 0) (p 1), ry (q % 4) (p 0) (p 1)]) := by
  unfold f41
  rw [rquarters_eq]
  simp only [Option.bind_some]
  have : q % 4 = 0 ∨ q % 4 = 1 ∨ q % 4 = 2 ∨ q % 4 = 3 := by omega
  rcases this with h | h | h | h <;> rw [h]
  · rfl
  · simp -implicitDefEqProofs only [neg_ok h0, neg_ok h1]
    rfl
  · simp -implicitDefEqProofs only [neg_ok h0, neg_ok h1]
    rfl
  · simp -implicitDefEqProofs only [neg_ok h0, neg_ok h1, neg_ok (okP_neg h0), Int.neg_neg]
    rfl
/-- A start, and a pose, turned by quarters. -/
abbrev rotS (s : Nat → Int) (q : Int) : Nat → Int := nthI [rx (q % 4) (s 0) (s 1), ry (q % 4) (s 0) (s 1), (s 2 + 2 * (q % 4)) % 8, s 3, s 4, s 5, s 6, s 7, s 8, s 9, s 10, s 11, s 12, s 13, s 14, s 15, s 16, s 17, s 18, s 19, s 20, s 21, s 22]
abbrev rotP (p : Nat → Int) (q : Int) : Nat → Int := nthI [rx (q % 4) (p 0) (p 1), ry (q % 4) (p 0) (p 1), (p 2 + 64 * (q % 4)) % 256, p 3, p 4, p 5, p 6, p 7, p 8, p 9, p 10, p 11, p 12, p 13, p 14, p 15, p 16, p 17, p 18, p 19, p 20, p 21]
theorem rotS_ok {s : Nat → Int} (h : startOk s) (q : Int) : startOk (rotS s q) := by
  obtain ⟨⟨h0, h1⟩, ⟨h2, h3⟩, h4⟩ := h
  obtain ⟨k0, k1⟩ := rxy_in (q % 4) h0 h1
  refine ⟨⟨k0, k1⟩, ⟨?_, ?_⟩, h4⟩ <;> simp only [nthI] <;> omega
theorem rotP_ok {p : Nat → Int} (h : poseOk p) (q : Int) : poseOk (rotP p q) := by
  obtain ⟨⟨h0, h1⟩, ⟨h2, h3⟩, h4⟩ := h
  obtain ⟨k0, k1⟩ := rxy_in (q % 4) h0 h1
  refine ⟨⟨k0, k1⟩, ⟨?_, ?_⟩, h4⟩ <;> simp only [nthI] <;> omega
theorem srotate_in {s : Nat → Int} (h : startOk s) (q : Int) : f20 s q = some (rotS s q, 0) := by
  have hc := scheck_in h
  obtain ⟨⟨h0, h1⟩, ⟨h2, h3⟩, h4⟩ := id h
  have hq : 0 ≤ q % 4 ∧ q % 4 ≤ 3 := by omega
  unfold f20
  rw [hc, pturned_in h0 h1]
  simp only [Option.bind_some]
  rw [w64 (n := 2 * (q % 4)) (by omega) (by omega), w64 (n := s 2 + 2 * (q % 4)) (by omega) (by omega), tmod_nonneg_eq (by omega)]
  rfl
theorem protate_in {p : Nat → Int} (h : poseOk p) (q : Int) : f22 p q = some (rotP p q, 0) := by
  have hc := valid_in h
  obtain ⟨⟨h0, h1⟩, ⟨h2, h3⟩, h4⟩ := id h
  have hq : 0 ≤ q % 4 ∧ q % 4 ≤ 3 := by omega
  unfold f22
  rw [hc, pturned_in h0 h1]
  simp only [Option.bind_some]
  rw [w64 (n := 64 * (q % 4)) (by omega) (by omega), w64 (n := p 2 + 64 * (q % 4)) (by omega) (by omega), tmod_nonneg_eq (by omega)]
  rfl
theorem srotate_out {s : Nat → Int} (h : ¬ startOk s) (q : Int) : ∃ e z, f20 s q = some (z, e) ∧ f21 s q = some (z, e) := by
  obtain ⟨r, hr⟩ := scheck_some s
  have hz : r ≠ 0 := fun hz => h (scheck_of (hz ▸ hr))
  unfold f20 f21
  rw [rscheck_eq, hr]
  simp only [hz, Option.bind_some, decide_false, Bool.not_false, cond_true]
  exact ⟨_, _, rfl, rfl⟩
theorem protate_out {p : Nat → Int} (h : ¬ poseOk p) (q : Int) : ∃ e z, e ≠ 0 ∧ f18 p = some e ∧ f22 p q = some (z, e) ∧ ∀ i, i < 22 → z i = 0 := by
  obtain ⟨r, hr⟩ := valid_some p
  have hz : r ≠ 0 := fun hz => h (valid_of (hz ▸ hr))
  unfold f22
  rw [hr]
  simp only [hz, Option.bind_some, decide_false, Bool.not_false, cond_true]
  exact ⟨_, _, hz, rfl, rfl, by decide⟩
theorem rprotate_out {p : Nat → Int} (h : ¬ poseOk p) (q : Int) : f23 p q = f22 p q := by
  obtain ⟨r, hr⟩ := valid_some p
  have hz : r ≠ 0 := fun hz => h (valid_of (hz ▸ hr))
  unfold f22 f23
  rw [rvalid_eq, hr]
  simp only [hz, Option.bind_some, decide_false, Bool.not_false, cond_true]
theorem rsrotate_in {s : Nat → Int} (h : startOk s) (q : Int) : f21 s q = some (rotS s q, 0) := by
  have hc := scheck_in h
  obtain ⟨⟨h0, h1⟩, ⟨h2, h3⟩, h4⟩ := id h
  have hq : 0 ≤ q % 4 ∧ q % 4 ≤ 3 := by omega
  unfold f21
  rw [rscheck_eq, hc, rpturned_in h0 h1, rquarters_eq]
  simp only [Option.bind_some]
  rw [w64 (n := 2 * (q % 4)) (by omega) (by omega), w64 (n := s 2 + 2 * (q % 4)) (by omega) (by omega), tmod_nonneg_eq (by omega)]
  rfl
theorem rprotate_in {p : Nat → Int} (h : poseOk p) (q : Int) : f23 p q = some (rotP p q, 0) := by
  have hc := valid_in h
  obtain ⟨⟨h0, h1⟩, ⟨h2, h3⟩, h4⟩ := id h
  have hq : 0 ≤ q % 4 ∧ q % 4 ≤ 3 := by omega
  unfold f23
  rw [rvalid_eq, hc, rpturned_in h0 h1, rquarters_eq]
  simp only [Option.bind_some]
  rw [w64 (n := 64 * (q % 4)) (by omega) (by omega), w64 (n := p 2 + 64 * (q % 4)) (by omega) (by omega), tmod_nonneg_eq (by omega)]
  rfl
theorem ramirror_eq (a : Int) : f51 a = some ((-a) % 256) := by
  unfold f51
  simp only [rnorm_eq, Option.bind_some]
  rw [w64 (by omega) (by omega)]
  rw [show (256 - a % 256) % 256 = (-a) % 256 by omega]
theorem raimmirror_eq (k : Int) (a : Nat → Int) : f52 k a = f50 k a := by
  unfold f50 f52
  rw [racheck_eq, amirror_eq, ramirror_eq]
theorem mirrorpose_out {p : Nat → Int} (h : ¬ poseOk p) : ∃ e z, e ≠ 0 ∧ f18 p = some e ∧ f26 p = some (z, e) ∧ ∀ i, i < 22 → z i = 0 := by
  obtain ⟨r, hr⟩ := valid_some p
  have hz : r ≠ 0 := fun hz => h (valid_of (hz ▸ hr))
  unfold f26
  rw [hr]
  simp only [hz, Option.bind_some, decide_false, Bool.not_false, cond_true]
  exact ⟨_, _, hz, rfl, rfl, by decide⟩
theorem rmirrorpose_eq (p : Nat → Int) : f27 p = f26 p := by
  by_cases h : poseOk p
  · rw [mirrorpose_in h]
    obtain ⟨⟨⟨_, _⟩, _, _⟩, _, _, a0, a1, a2, a3, a4, a5⟩ := id h
    unfold f27
    rw [rvalid_eq, valid_in h, ramirror_eq, raimmirror_eq, raimmirror_eq, raimmirror_eq, raimmirror_eq, raimmirror_eq, raimmirror_eq, aimmirror_in (by omega) a0, aimmirror_in (by omega) a1, aimmirror_in (by omega) a2, aimmirror_in (by omega) a3, aimmirror_in (by omega) a4, aimmirror_in (by omega) a5, w64 (n := 0 - p 0) (by omega) (by omega), show 0 - p 0 = -p 0 by omega]
    rfl
  · obtain ⟨r, hr⟩ := valid_some p
    have hz : r ≠ 0 := fun hz => h (valid_of (hz ▸ hr))
    unfold f26 f27
    rw [rvalid_eq, hr]
    simp only [hz, Option.bind_some, decide_false, Bool.not_false, cond_true]
/-! ### The notation of an aim, as the reference does it: all targets are tried -/
theorem anot_hit {k : Int} (hk : 0 ≤ k ∧ k < 6) {a : Nat → Int} {x y : Int} (h : tgOk k (nthI [x, y, a 2])) (h0 : azT x = a 0) (h1 : elT x y = a 1) : f36 k a = some (nthI [x, y, a 2], 0) := by
  have e := anot_in hk h
  simp only [nthI, h0, h1] at e
  exact e
theorem anot_miss {k : Int} (hk : 0 ≤ k ∧ k < 6) {a : Nat → Int} (ha : aimOk a) (h : ∀ x y, tgOk k (nthI [x, y, a 2]) → azT x = a 0 → elT x y = a 1 → False) : f36 k a = some (nthI [0, 0, 0], 2) := by
  have key : ∀ x y : Int, (Option.bind (f28 k (nthI [x, y, a 2])) fun r5 => cond (!decide (r5.snd = 0)) (some ((nthI [0, 0, 0], 2))) (cond (!(decide (r5.fst 0 = a 0) && (decide (r5.fst 1 = a 1) && decide (r5.fst 2 = a 2)))) (some ((nthI [0, 0, 0], (2 : Int)))) (some ((nthI [x, y, a 2], 0))))) = some (nthI [0, 0, 0], 2) := by
    intro x y
    by_cases h' : tgOk k (nthI [x, y, a 2])
    · have e2 : f28 k (nthI [x, y, a 2]) = some (nthI [azT x, elT x y, a 2], 0) := tof_in hk h'
      rw [e2]
      simp only [Option.bind_some, nthI, decide_true, Bool.not_true, cond_false, Bool.and_true]
      by_cases h1 : azT x = a 0
      · by_cases h2 : elT x y = a 1
        · exact (h x y h' h1 h2).elim
        · simp only [h1, h2, decide_true, decide_false, Bool.and_false, Bool.not_false, cond_true]
      · simp only [h1, decide_false, Bool.false_and, Bool.not_false, cond_true]
    · obtain ⟨e, he, h2⟩ := tof_out (k := k) (t := nthI [x, y, a 2]) fun h'' => h' h''.2
      rw [h2]
      simp only [Option.bind_some, he, decide_false, Bool.not_false, cond_true]
  unfold f36
  rw [acheck_in hk ha, upright_eq]
  simp only [Option.bind_some, decide_true, Bool.not_true, cond_false]
  by_cases hu : a 1 = 64 ∨ a 1 = -64
  · simp only [hu, decide_true, Bool.not_true, cond_false]
    exact key 0 (IntKind.i64.wrap ((a 1).tdiv 64))
  · simp only [hu, decide_false, Bool.not_false, cond_true]
    have hr : ∃ d, f60 1 (IntKind.i64.wrap ((a 0).tdiv 32)) = some (d, 0) := by
      rw [Int.tdiv_eq_ediv_of_nonneg ha.1.1, w64 (by have := ha.1.1; omega) (by have := ha.1.2; omega)]
      exact ⟨_, drot1 (by have := ha.1.1; have := ha.1.2; omega)⟩
    obtain ⟨d, hd⟩ := hr
    rw [hd]
    simp only [Option.bind_some]
    exact key d (IntKind.i64.wrap ((a 1).tdiv 32))
theorem tg_unique {k : Int} {x y x' y' z : Int} (h : tgOk k (nthI [x, y, z])) (h' : tgOk k (nthI [x', y', z])) (h0 : azT x = azT x') (h1 : elT x y = elT x' y') : x = x' ∧ y = y' := by
  obtain ⟨⟨a1, a2⟩, ⟨a3, a4⟩, _, a5⟩ := h
  obtain ⟨⟨b1, b2⟩, ⟨b3, b4⟩, _, b5⟩ := h'
  simp only [nthI] at *
  unfold azT at h0
  unfold elT at h1
  by_cases c : x = 0
  · have := a5 c
    by_cases c' : x' = 0
    · simp only [c, c', if_true] at h1
      exact ⟨by omega, by omega⟩
    · simp only [c, c', if_true, if_false] at h0 h1
      omega
  · by_cases c' : x' = 0
    · have := b5 c'
      simp only [c, c', if_true, if_false] at h0 h1
      omega
    · simp only [c, c', if_false] at h0 h1
      exact ⟨by omega, by omega⟩
theorem stp_hit {k d l x y : Int} (hk : 0 ≤ k ∧ k < 6) {b : Nat → Int} (h : tgOk k (nthI [x, y, b 2])) (h0 : azT x = b 0) (h1 : elT x y = b 1) (N : Option ((Nat → Int) × Int)) :
    (Option.bind (f29 k (nthI [d, l, b 2])) fun r => Option.bind (cond (decide (r.snd = 0)) (some (decide (r.fst 0 = b 0) && (decide (r.fst 1 = b 1) && decide (r.fst 2 = b 2)))) (some false)) fun q => cond q (some ((nthI [d, l, b 2], 0))) N) = if x = d ∧ y = l then some (nthI [x, y, b 2], 0) else N := by
  rw [rtof_eq]
  by_cases h' : tgOk k (nthI [d, l, b 2])
  · have e2 : f28 k (nthI [d, l, b 2]) = some (nthI [azT d, elT d l, b 2], 0) := tof_in hk h'
    rw [e2]
    simp only [Option.bind_some, nthI, decide_true, cond_true, Bool.and_true]
    by_cases hx : x = d ∧ y = l
    · obtain ⟨rfl, rfl⟩ := hx
      simp only [h0, h1, decide_true, Bool.and_self, cond_true, and_self, if_true]
    · rw [if_neg hx]
      by_cases q1 : azT d = b 0
      · by_cases q2 : elT d l = b 1
        · exact absurd (tg_unique h h' (h0.trans q1.symm) (h1.trans q2.symm)) hx
        · simp only [q1, q2, decide_true, decide_false, Bool.and_false, cond_false]
      · simp only [q1, decide_false, Bool.false_and, cond_false]
  · obtain ⟨e, he, h2⟩ := tof_out (k := k) (t := nthI [d, l, b 2]) fun h'' => h' h''.2
    have hx : ¬ (x = d ∧ y = l) := fun hx => by
      obtain ⟨rfl, rfl⟩ := hx
      exact h' h
    rw [h2, if_neg hx]
    simp only [Option.bind_some, he, decide_false, cond_false]
theorem stp_miss {k d l : Int} (hk : 0 ≤ k ∧ k < 6) {b : Nat → Int} (h : ∀ x y, tgOk k (nthI [x, y, b 2]) → azT x = b 0 → elT x y = b 1 → False) (N : Option ((Nat → Int) × Int)) :
    (Option.bind (f29 k (nthI [d, l, b 2])) fun r => Option.bind (cond (decide (r.snd = 0)) (some (decide (r.fst 0 = b 0) && (decide (r.fst 1 = b 1) && decide (r.fst 2 = b 2)))) (some false)) fun q => cond q (some ((nthI [d, l, b 2], 0))) N) = N := by
  rw [rtof_eq]
  by_cases h' : tgOk k (nthI [d, l, b 2])
  · have e2 : f28 k (nthI [d, l, b 2]) = some (nthI [azT d, elT d l, b 2], 0) := tof_in hk h'
    rw [e2]
    simp only [Option.bind_some, nthI, decide_true, cond_true, Bool.and_true]
    by_cases q1 : azT d = b 0
    · by_cases q2 : elT d l = b 1
      · exact (h d l h' q1 q2).elim
      · simp only [q1, q2, decide_true, decide_false, Bool.and_false, cond_false]
    · simp only [q1, decide_false, Bool.false_and, cond_false]
  · obtain ⟨e, he, h2⟩ := tof_out (k := k) (t := nthI [d, l, b 2]) fun h'' => h' h''.2
    rw [h2]
    simp only [Option.bind_some, he, decide_false, cond_false]
theorem ranot_eq {k : Int} (hk : 0 ≤ k ∧ k < 6) (b : Nat → Int) : f37 k b = f36 k b := by
  by_cases ha : aimOk b
  · by_cases h : ∃ x y, tgOk k (nthI [x, y, b 2]) ∧ azT x = b 0 ∧ elT x y = b 1
    · obtain ⟨x, y, h, h0, h1⟩ := h
      rw [anot_hit hk h h0 h1]
      unfold f37
      rw [racheck_eq, acheck_in hk ha]
      simp only [Option.bind_some, decide_true, Bool.not_true, cond_false]
      simp -implicitDefEqProofs only [stp_hit hk h h0 h1]
      obtain ⟨⟨a1, a2⟩, ⟨a3, a4⟩, _⟩ := h
      simp only [nthI] at a1 a2 a3 a4
      have hx : x = 0 ∨ x = 1 ∨ x = 2 ∨ x = 3 ∨ x = 4 ∨ x = 5 ∨ x = 6 ∨ x = 7 ∨ x = 8 := by omega
      have hy : y = -1 ∨ y = 0 ∨ y = 1 := by omega
      rcases hx with rfl | rfl | rfl | rfl | rfl | rfl | rfl | rfl | rfl <;> rcases hy with rfl | rfl | rfl <;> simp
    · have h' : ∀ x y, tgOk k (nthI [x, y, b 2]) → azT x = b 0 → elT x y = b 1 → False := fun x y h1 h2 h3 => h ⟨x, y, h1, h2, h3⟩
      rw [anot_miss hk ha h']
      unfold f37
      rw [racheck_eq, acheck_in hk ha]
      simp only [Option.bind_some, decide_true, Bool.not_true, cond_false]
      simp -implicitDefEqProofs only [stp_miss hk h']
  · obtain ⟨r, hr⟩ := acheck_some hk b
    have hz : r ≠ 0 := fun hz => ha (acheck_of (hz ▸ hr))
    unfold f37 f36
    rw [racheck_eq, hr]
    simp only [Option.bind_some, hz, decide_false, Bool.not_false, cond_true]
theorem rnotate_eq (p : Nat → Int) (c : Int) : f17 p c = f16 p c := by
  unfold f17 f16
  rw [rvalid_eq]
  simp -implicitDefEqProofs only [ranot_eq (k := 0) (by omega), ranot_eq (k := 1) (by omega), ranot_eq (k := 2) (by omega), ranot_eq (k := 3) (by omega), ranot_eq (k := 4) (by omega), ranot_eq (k := 5) (by omega), rscheck_eq]

end Go.Proofs.YtfpmbgknojbkcaaDoor
