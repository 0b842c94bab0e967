/-
  THE PLAIN LAWS: what the contracts compute answers as the statements say.
-/
import Derived.Test.YtbiedpabdkbpfaaP
open Go Go.VE Go.Proofs
set_option maxRecDepth 1000000
set_option maxHeartbeats 0
set_option linter.unusedVariables false
set_option linter.unusedSimpArgs false
namespace Go.Proofs.Ytbiedpabdkbpfaa
abbrev cpL (a : Nat → Int) : Nat → Int := nthI [a 0, a 1, a 2, a 3, a 4, a 5, a 6, a 7, a 8, a 9, a 10, a 11, a 12, a 13, a 14, a 15, a 16, a 17, a 18, a 19, a 20, a 21, a 22, a 23, a 24, a 25, a 26, a 27, a 28, a 29, a 30, a 31, a 32, a 33, a 34, a 35, bif !decide (a 36 = 0) then 1 else 0, bif !decide (a 37 = 0) then 1 else 0, a 38, a 39]
theorem lc_in {a : Nat → Int} (h : limOk a) : f14 (cpL a) = some 0 := lcheck_in (a := cpL a) h
theorem lc_out {a : Nat → Int} (h : ¬ limOk a) : f14 (cpL a) = some 1 := lcheck_out (a := cpL a) h
theorem rlc_eq (a : Nat → Int) : f15 (cpL a) = f14 (cpL a) := rlcheck_eq (cpL a)
abbrev z40 : Nat → Int := nthI [0, 0, 0, 0, 0, 0, 0, 0, 0, 0, 0, 0, 0, 0, 0, 0, 0, 0, 0, 0, 0, 0, 0, 0, 0, 0, 0, 0, 0, 0, 0, 0, 0, 0, 0, 0, 0, 0, 0, 0]
noncomputable def mirL (a : Nat → Int) : Nat → Int := nthI [a 6, a 7, (-(a 8 + a 9)) % 256, a 9, a 10, a 11, a 0, a 1, (-(a 2 + a 3)) % 256, a 3, a 4, a 5, a 12, a 13, (-(a 14 + a 15)) % 256, a 15, a 16, a 17, a 24, a 25, (-(a 26 + a 27)) % 256, a 27, a 28, a 29, a 18, a 19, (-(a 20 + a 21)) % 256, a 21, a 22, a 23, a 30, a 31, (-(a 32 + a 33)) % 256, a 33, a 34, a 35, bif !decide (a 36 = 0) then 1 else 0, bif !decide (a 37 = 0) then 1 else 0, a 38, a 39]
theorem mod_s {x y : Int} (hx : 0 ≤ x ∧ x ≤ 255) (hy : 0 ≤ y ∧ y ≤ 255) : f28 (IntKind.i64.wrap (x + y)) = some ((-(x + y)) % 256) := by
  rw [amirror_eq, w64 (by omega) (by omega)]
theorem mod_r {x y : Int} (hx : 0 ≤ x ∧ x ≤ 255) (hy : 0 ≤ y ∧ y ≤ 255) : f30 (IntKind.i64.wrap (IntKind.i64.wrap (0 - x) - y)) = some ((-(x + y)) % 256) := by
  rw [rnorm_eq, w64 (n := 0 - x) (by omega) (by omega), w64 (by omega) (by omega), show 0 - x - y = -(x + y) by omega]
theorem lmirror_in {a : Nat → Int} (h : limOk a) : f12 a = some (mirL a, 0) := by
  unfold f12
  have h' := lc_in h
  obtain ⟨⟨_, x0, y0, _⟩, ⟨_, x1, y1, _⟩, ⟨_, x2, y2, _⟩, ⟨_, x3, y3, _⟩, ⟨_, x4, y4, _⟩, ⟨_, x5, y5, _⟩, _⟩ := h
  rw [h']
  simp only [Option.bind_some, decide_true, Bool.not_true, cond_false, mod_s x0 y0, mod_s x1 y1, mod_s x2 y2, mod_s x3 y3, mod_s x4 y4, mod_s x5 y5]
  rfl
theorem lmirror_out {a : Nat → Int} (h : ¬ limOk a) : f12 a = some (z40, 1) := by
  unfold f12
  rw [lc_out h]
  rfl
theorem rlmirror_eq (a : Nat → Int) : f13 a = f12 a := by
  by_cases h : limOk a
  · rw [lmirror_in h]
    unfold f13
    rw [rlc_eq, lc_in h]
    obtain ⟨⟨_, x0, y0, _⟩, ⟨_, x1, y1, _⟩, ⟨_, x2, y2, _⟩, ⟨_, x3, y3, _⟩, ⟨_, x4, y4, _⟩, ⟨_, x5, y5, _⟩, _⟩ := h
    simp only [Option.bind_some, decide_true, Bool.not_true, cond_false, mod_r x0 y0, mod_r x1 y1, mod_r x2 y2, mod_r x3 y3, mod_r x4 y4, mod_r x5 y5]
    rfl
  · rw [lmirror_out h]
    unfold f13
    rw [rlc_eq, lc_out h]
    rfl
theorem lmirror_some (a : Nat → Int) : ∃ z e, f12 a = some (z, e) := by
  by_cases h : limOk a
  · exact ⟨_, _, lmirror_in h⟩
  · exact ⟨_, _, lmirror_out h⟩
theorem lcheck_some (a : Nat → Int) : ∃ e, f14 a = some e := ⟨_, lcheck_eq a⟩
theorem awake_eq : f16 = some true := rfl

theorem lawChecks (a : Nat → Int) : f3 a = some true := by
  unfold f3
  obtain ⟨z, e, hm⟩ := lmirror_some (cpL a)
  obtain ⟨e', hc⟩ := lcheck_some (cpL a)
  rw [rlmirror_eq, rlcheck_eq, hm, hc, awake_eq]
  simp only [Option.bind_some, decide_true, Bool.and_self, cond_true, BEq.rfl]

/-! ### Allows -/
abbrev alw (l c : Nat → Int) : Prop := l 0 ≤ c 1 ∧ c 1 ≤ l 1 ∧ c 2 ≤ l 4 ∧ (c 1 = 64 ∨ c 1 = -64 ∨ (c 0 - l 2) % 256 ≤ l 3)
theorem pole_eq (a : Nat → Int) : f49 a = some (decide (a 1 = 64 ∨ a 1 = -64)) := by
  unfold f49
  by_cases h : a 1 = 64 <;> simp [h]
theorem rupright_eq (a : Nat → Int) : f52 a = some (decide (a 1 = 64 ∨ a 1 = -64)) := by
  unfold f52
  by_cases h : a 1 = -64 <;> simp [h]
theorem sector_eq {l : Nat → Int} {z : Int} (h2 : 0 ≤ l 2 ∧ l 2 ≤ 255) (hz : -4096 ≤ z ∧ z ≤ 4096) : f50 l z = some (decide ((z - l 2) % 256 ≤ l 3)) := by
  unfold f50
  rw [w64 (by omega) (by omega), norm_eq]
  rfl
theorem rin_eq {l : Nat → Int} {z : Int} (h2 : 0 ≤ l 2 ∧ l 2 ≤ 255) (hz : 0 ≤ z ∧ z ≤ 4096) : f53 l z = some (decide ((z - l 2) % 256 ≤ l 3)) := by
  unfold f53
  rw [w64 (n := z + 256) (by omega) (by omega), w64 (by omega) (by omega), tmod_nonneg_eq (by omega), show (z + 256 - l 2) % 256 = (z - l 2) % 256 by omega]
theorem allows_eq {l c : Nat → Int} (h2 : 0 ≤ l 2 ∧ l 2 ≤ 255) (hc : 0 ≤ c 0 ∧ c 0 ≤ 255) : f34 l c = some (decide (alw l c)) := by
  unfold f34
  rw [pole_eq, sector_eq h2 ⟨by omega, by omega⟩]
  simp only [Option.bind_some]
  by_cases c1 : l 0 ≤ c 1 <;> by_cases c2 : c 1 ≤ l 1 <;> by_cases c3 : c 2 ≤ l 4 <;> by_cases c4 : c 1 = 64 ∨ c 1 = -64 <;> simp [alw, c1, c2, c3, c4]
  · rcases c4 with h | h <;> simp [h]
  · have c5 : ¬ c 1 = 64 := fun h => c4 (.inl h)
    have c6 : ¬ c 1 = -64 := fun h => c4 (.inr h)
    simp [c5, c6]
theorem rmay_eq {l c : Nat → Int} (h2 : 0 ≤ l 2 ∧ l 2 ≤ 255) (hc : 0 ≤ c 0 ∧ c 0 ≤ 255) : f36 l c = some (decide (alw l c)) := by
  rw [← allows_eq h2 hc]
  unfold f36 f34
  rw [pole_eq, sector_eq h2 ⟨by omega, by omega⟩, rupright_eq, rin_eq h2 ⟨by omega, by omega⟩]
abbrev row (a : Nat → Int) (b : Int) : Nat → Int := nthI [[a 0, a 6, a 12, a 18, a 24, a 30].getD b.toNat 0, [a 1, a 7, a 13, a 19, a 25, a 31].getD b.toNat 0, [a 2, a 8, a 14, a 20, a 26, a 32].getD b.toNat 0, [a 3, a 9, a 15, a 21, a 27, a 33].getD b.toNat 0, [a 4, a 10, a 16, a 22, a 28, a 34].getD b.toNat 0, [a 5, a 11, a 17, a 23, a 29, a 35].getD b.toNat 0]
theorem six {b : Int} (h : 0 ≤ b ∧ b < 6) : b = 0 ∨ b = 1 ∨ b = 2 ∨ b = 3 ∨ b = 4 ∨ b = 5 := by omega
theorem row_ok {a : Nat → Int} (h : limOk a) {b : Int} (hb : 0 ≤ b ∧ b < 6) : lb (row a b 0) (row a b 1) (row a b 2) (row a b 3) (row a b 4) (row a b 5) := by
  obtain ⟨h0, h1, h2, h3, h4, h5, _⟩ := h
  rcases six hb with rfl | rfl | rfl | rfl | rfl | rfl <;> assumption
theorem acheck_known {k : Int} {a : Nat → Int} (h : f33 k a = some 0) : 0 ≤ k ∧ k < 6 := by
  unfold f33 at h
  obtain ⟨h1, _⟩ := peeln (by omega) h
  unfold f47 at h1
  by_cases hk : 0 ≤ k
  · simp [hk] at h1
    exact ⟨hk, h1⟩
  · simp [hk] at h1
theorem acheck_ex (k : Int) (a : Nat → Int) : ∃ e, f33 k a = some e := by
  by_cases hk : 0 ≤ k ∧ k < 6
  · exact acheck_some hk a
  · refine ⟨9, ?_⟩
    unfold f33
    have : f47 k = some false := by
      unfold f47
      by_cases h : 0 ≤ k
      · have : ¬ k < 6 := by omega
        simp [h, this]
      · simp [h]
    rw [this]
    rfl
theorem lallows_out {a : Nat → Int} (h : ¬ limOk a) (b : Int) (c : Nat → Int) : f17 a b c = some (false, 1) := by
  unfold f17
  rw [lc_out h]
  rfl
theorem lallows_bad {a : Nat → Int} (h : limOk a) {b : Int} {c : Nat → Int} {e : Int} (he : f33 b c = some e) (h0 : e ≠ 0) : f17 a b c = some (false, e) := by
  unfold f17
  rw [lc_in h, he]
  simp [h0]
theorem lallows_in {a : Nat → Int} (h : limOk a) {b : Int} {c : Nat → Int} (he : f33 b c = some 0) : f17 a b c = some (decide (alw (row a b) c), 0) := by
  have hb := acheck_known he
  have hc : aimOk c := acheck_of he
  unfold f17
  rw [lc_in h, he, allows_eq (l := row a b) (c := c) (row_ok h hb).2.1 hc.1]
  simp only [Option.bind_some, decide_true, Bool.not_true, cond_false, hb.1, hb.2, cond_true]
theorem rlallows_eq (a : Nat → Int) (b : Int) (c : Nat → Int) : f18 a b c = f17 a b c := by
  by_cases h : limOk a
  · obtain ⟨e, he⟩ := acheck_ex b c
    by_cases h0 : e = 0
    · subst h0
      have hb := acheck_known he
      have hc : aimOk c := acheck_of he
      rw [lallows_in h he]
      unfold f18
      rw [rlc_eq, lc_in h, racheck_eq, he, rmay_eq (l := row a b) (c := c) (row_ok h hb).2.1 hc.1]
      simp only [Option.bind_some, decide_true, Bool.not_true, cond_false, hb.1, hb.2, cond_true]
    · rw [lallows_bad h he h0]
      unfold f18
      rw [rlc_eq, lc_in h, racheck_eq, he]
      simp [h0]
  · rw [lallows_out h]
    unfold f18
    rw [rlc_eq, lc_out h]
    rfl
theorem lallows_some (a : Nat → Int) (b : Int) (c : Nat → Int) : ∃ x e, f17 a b c = some (x, e) := by
  by_cases h : limOk a
  · obtain ⟨e, he⟩ := acheck_ex b c
    by_cases h0 : e = 0
    · subst h0
      exact ⟨_, _, lallows_in h he⟩
    · exact ⟨_, _, lallows_bad h he h0⟩
  · exact ⟨_, _, lallows_out h b c⟩

theorem lawAllows (a : Nat → Int) (b : Int) (c : Nat → Int) : f4 a b c = some true := by
  unfold f4
  obtain ⟨x, e, hm⟩ := lallows_some (cpL a) b c
  rw [rlallows_eq, hm, awake_eq]
  simp only [Option.bind_some, decide_true, cond_true, BEq.rfl]

/-! ### Mirror -/
theorem mir_ok {a : Nat → Int} (h : limOk a) : limOk (mirL a) := by
  obtain ⟨⟨_, x0, y0, _⟩, ⟨_, x1, y1, _⟩, ⟨_, x2, y2, _⟩, ⟨_, x3, y3, _⟩, ⟨_, x4, y4, _⟩, ⟨_, x5, y5, _⟩, _⟩ := id h
  unfold mirL limOk lb at *
  simp only [nthI]
  omega
theorem mir_back {x y : Int} (hx : 0 ≤ x ∧ x ≤ 255) (hy : 0 ≤ y ∧ y ≤ 255) : (-((-(x + y)) % 256 + y)) % 256 = x := by omega
def swp (b : Int) : Int := if b = 0 then 1 else if b = 1 then 0 else if b = 3 then 4 else if b = 4 then 3 else b
theorem swap_in {b : Int} (h : 0 ≤ b ∧ b < 6) : f26 b = some (swp b, 0) := by
  rcases six h with rfl | rfl | rfl | rfl | rfl | rfl <;> rfl
theorem alw_mir {a c : Nat → Int} (h : limOk a) {b : Int} (hb : 0 ≤ b ∧ b < 6) (hc : aimOk c) : alw (row (mirL a) (swp b)) (nthI [(-c 0) % 256, c 1, c 2]) ↔ alw (row a b) c := by
  have key : ∀ {x w z : Int}, 0 ≤ x ∧ x ≤ 255 → 0 ≤ w ∧ w ≤ 255 → 0 ≤ z ∧ z ≤ 255 → (((-z) % 256 - (-(x + w)) % 256) % 256 ≤ w ↔ (z - x) % 256 ≤ w) := by
    intro x w z hx hw hz
    have e : ((-z) % 256 - (-(x + w)) % 256) % 256 = (w - (z - x)) % 256 := by omega
    rw [e]
    omega
  obtain ⟨⟨_, x0, y0, _⟩, ⟨_, x1, y1, _⟩, ⟨_, x2, y2, _⟩, ⟨_, x3, y3, _⟩, ⟨_, x4, y4, _⟩, ⟨_, x5, y5, _⟩, _⟩ := id h
  have hz := hc.1
  rcases six hb with rfl | rfl | rfl | rfl | rfl | rfl
  · have := key x0 y0 hz
    exact ⟨fun ⟨p, q, r, s⟩ => ⟨p, q, r, s.imp id (·.imp id this.1)⟩, fun ⟨p, q, r, s⟩ => ⟨p, q, r, s.imp id (·.imp id this.2)⟩⟩
  · have := key x1 y1 hz
    exact ⟨fun ⟨p, q, r, s⟩ => ⟨p, q, r, s.imp id (·.imp id this.1)⟩, fun ⟨p, q, r, s⟩ => ⟨p, q, r, s.imp id (·.imp id this.2)⟩⟩
  · have := key x2 y2 hz
    exact ⟨fun ⟨p, q, r, s⟩ => ⟨p, q, r, s.imp id (·.imp id this.1)⟩, fun ⟨p, q, r, s⟩ => ⟨p, q, r, s.imp id (·.imp id this.2)⟩⟩
  · have := key x3 y3 hz
    exact ⟨fun ⟨p, q, r, s⟩ => ⟨p, q, r, s.imp id (·.imp id this.1)⟩, fun ⟨p, q, r, s⟩ => ⟨p, q, r, s.imp id (·.imp id this.2)⟩⟩
  · have := key x4 y4 hz
    exact ⟨fun ⟨p, q, r, s⟩ => ⟨p, q, r, s.imp id (·.imp id this.1)⟩, fun ⟨p, q, r, s⟩ => ⟨p, q, r, s.imp id (·.imp id this.2)⟩⟩
  · have := key x5 y5 hz
    exact ⟨fun ⟨p, q, r, s⟩ => ⟨p, q, r, s.imp id (·.imp id this.1)⟩, fun ⟨p, q, r, s⟩ => ⟨p, q, r, s.imp id (·.imp id this.2)⟩⟩
theorem aim_mir {c : Nat → Int} (h : aimOk c) : aimOk (nthI [(-c 0) % 256, c 1, c 2]) := by
  obtain ⟨h1, h2, h3, h4⟩ := h
  refine ⟨⟨?_, ?_⟩, h2, h3, fun hp => ?_⟩
  · show 0 ≤ (-c 0) % 256
    omega
  · show (-c 0) % 256 ≤ 255
    omega
  · show (-c 0) % 256 = 0
    have := h4 hp
    omega
theorem bx (x : Int) : (bif !decide ((bif !decide (x = 0) then (1 : Int) else 0) = 0) then (1 : Int) else 0) = bif !decide (x = 0) then 1 else 0 := by
  by_cases h : x = 0 <;> simp [h]
theorem bx2 (x : Int) : (!decide ((bif !decide (x = 0) then (1 : Int) else 0) = 0)) = !decide (x = 0) := by
  by_cases h : x = 0 <;> simp [h]
theorem lawMirror (a : Nat → Int) (b : Int) (c : Nat → Int) : f11 a b c = some true := by
  unfold f11
  by_cases h : limOk a
  · have h1 : limOk (cpL a) := h
    have hm : limOk (mirL (cpL a)) := mir_ok h1
    rw [lmirror_in h1]
    simp only [Option.bind_some, decide_true, Bool.not_true, cond_false]
    rw [show f12 (cpL (mirL (cpL a))) = some (mirL (cpL (mirL (cpL a))), 0) from lmirror_in (a := cpL (mirL (cpL a))) hm, show f14 (cpL (mirL (cpL a))) = some 0 from lc_in hm]
    obtain ⟨⟨_, x0, y0, _⟩, ⟨_, x1, y1, _⟩, ⟨_, x2, y2, _⟩, ⟨_, x3, y3, _⟩, ⟨_, x4, y4, _⟩, ⟨_, x5, y5, _⟩, _⟩ := id h
    have k0 : mirL (cpL (mirL (cpL a))) 0 = a 0 := rfl
    have k1 : mirL (cpL (mirL (cpL a))) 1 = a 1 := rfl
    have k2 : mirL (cpL (mirL (cpL a))) 2 = a 2 := mir_back x0 y0
    have k3 : mirL (cpL (mirL (cpL a))) 3 = a 3 := rfl
    have k4 : mirL (cpL (mirL (cpL a))) 4 = a 4 := rfl
    have k5 : mirL (cpL (mirL (cpL a))) 5 = a 5 := rfl
    have k6 : mirL (cpL (mirL (cpL a))) 6 = a 6 := rfl
    have k7 : mirL (cpL (mirL (cpL a))) 7 = a 7 := rfl
    have k8 : mirL (cpL (mirL (cpL a))) 8 = a 8 := mir_back x1 y1
    have k9 : mirL (cpL (mirL (cpL a))) 9 = a 9 := rfl
    have k10 : mirL (cpL (mirL (cpL a))) 10 = a 10 := rfl
    have k11 : mirL (cpL (mirL (cpL a))) 11 = a 11 := rfl
    have k12 : mirL (cpL (mirL (cpL a))) 12 = a 12 := rfl
    have k13 : mirL (cpL (mirL (cpL a))) 13 = a 13 := rfl
    have k14 : mirL (cpL (mirL (cpL a))) 14 = a 14 := mir_back x2 y2
    have k15 : mirL (cpL (mirL (cpL a))) 15 = a 15 := rfl
    have k16 : mirL (cpL (mirL (cpL a))) 16 = a 16 := rfl
    have k17 : mirL (cpL (mirL (cpL a))) 17 = a 17 := rfl
    have k18 : mirL (cpL (mirL (cpL a))) 18 = a 18 := rfl
    have k19 : mirL (cpL (mirL (cpL a))) 19 = a 19 := rfl
    have k20 : mirL (cpL (mirL (cpL a))) 20 = a 20 := mir_back x3 y3
    have k21 : mirL (cpL (mirL (cpL a))) 21 = a 21 := rfl
    have k22 : mirL (cpL (mirL (cpL a))) 22 = a 22 := rfl
    have k23 : mirL (cpL (mirL (cpL a))) 23 = a 23 := rfl
    have k24 : mirL (cpL (mirL (cpL a))) 24 = a 24 := rfl
    have k25 : mirL (cpL (mirL (cpL a))) 25 = a 25 := rfl
    have k26 : mirL (cpL (mirL (cpL a))) 26 = a 26 := mir_back x4 y4
    have k27 : mirL (cpL (mirL (cpL a))) 27 = a 27 := rfl
    have k28 : mirL (cpL (mirL (cpL a))) 28 = a 28 := rfl
    have k29 : mirL (cpL (mirL (cpL a))) 29 = a 29 := rfl
    have k30 : mirL (cpL (mirL (cpL a))) 30 = a 30 := rfl
    have k31 : mirL (cpL (mirL (cpL a))) 31 = a 31 := rfl
    have k32 : mirL (cpL (mirL (cpL a))) 32 = a 32 := mir_back x5 y5
    have k33 : mirL (cpL (mirL (cpL a))) 33 = a 33 := rfl
    have k34 : mirL (cpL (mirL (cpL a))) 34 = a 34 := rfl
    have k35 : mirL (cpL (mirL (cpL a))) 35 = a 35 := rfl
    have k36 : (!decide (mirL (cpL (mirL (cpL a))) 36 = 0)) = !decide (a 36 = 0) := (bx2 _).trans ((bx2 _).trans ((bx2 _).trans (bx2 _)))
    have k37 : (!decide (mirL (cpL (mirL (cpL a))) 37 = 0)) = !decide (a 37 = 0) := (bx2 _).trans ((bx2 _).trans ((bx2 _).trans (bx2 _)))
    have k38 : mirL (cpL (mirL (cpL a))) 38 = a 38 := rfl
    have k39 : mirL (cpL (mirL (cpL a))) 39 = a 39 := rfl
    simp only [Option.bind_some, k0, k1, k2, k3, k4, k5, k6, k7, k8, k9, k10, k11, k12, k13, k14, k15, k16, k17, k18, k19, k20, k21, k22, k23, k24, k25, k26, k27, k28, k29, k30, k31, k32, k33, k34, k35, k36, k37, k38, k39, decide_true, Bool.and_self, BEq.rfl, Bool.not_true, cond_false]
    obtain ⟨e, he⟩ := acheck_ex b c
    by_cases h0 : e = 0
    · subst h0
      have hb := acheck_known he
      have hc : aimOk c := acheck_of he
      obtain ⟨x, e1, e2⟩ : ∃ x, f17 (cpL a) b c = some (x, 0) ∧ f17 (cpL (mirL (cpL a))) (swp b) (nthI [(-c 0) % 256, c 1, c 2]) = some (x, 0) := by
        refine ⟨_, lallows_in h1 he, ?_⟩
        rw [lallows_in (a := cpL (mirL (cpL a))) hm (acheck_in (by rcases six hb with rfl | rfl | rfl | rfl | rfl | rfl <;> decide) (aim_mir hc))]
        have := alw_mir h1 hb hc
        rw [show decide (alw (row (cpL (mirL (cpL a))) (swp b)) (nthI [(-c 0) % 256, c 1, c 2])) = decide (alw (row (cpL a) b) c) from decide_eq_decide.2 this]
      have e3 : f27 b c = some (nthI [(-c 0) % 256, c 1, c 2], 0) := aimmirror_in hb hc
      have e4 := swap_in hb
      rw [e1]
      simp only [Option.bind_some, decide_true, Bool.not_true, cond_false, e4, e3]
      rw [show f17 (cpL (mirL (cpL a))) (swp b) (nthI [(-c 0) % 256, c 1, c 2]) = _ from e2]
      simp only [Option.bind_some, decide_true, cond_true, BEq.rfl, awake_eq]
    · have e1 : f17 (cpL a) b c = some (false, e) := lallows_bad h1 he h0
      rw [e1]
      simp [h0, awake_eq]
  · rw [lmirror_out (a := cpL a) h, lc_out h]
    rfl

end Go.Proofs.Ytbiedpabdkbpfaa
