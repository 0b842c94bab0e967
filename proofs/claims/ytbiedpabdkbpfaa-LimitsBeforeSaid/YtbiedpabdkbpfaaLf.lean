/-
  THE PLAIN LAWS: what the contracts compute answers as the statements say.
-/
import Derived.Test.YtbiedpabdkbpfaaLe
open Go Go.VE Go.Proofs
set_option maxRecDepth 1000000
set_option maxHeartbeats 0
set_option linter.unusedVariables false
set_option linter.unusedSimpArgs false
namespace Go.Proofs.Ytbiedpabdkbpfaa
/-! ### Faults -/
def chgv (x y : Int) : Int := maxI (way x y 64) (IntKind.i64.wrap (0 - way x y 64))
theorem change_eq {x y : Int} (hx : 0 ≤ x ∧ x ≤ 255) (hy : 0 ≤ y ∧ y ≤ 255) : f55 x y = some (chgv x y) := by
  unfold f55
  rw [between_in (by omega) (by omega) (.inl rfl)]
  rfl
theorem rchange_eq {x y : Int} (hx : 0 ≤ x ∧ x ≤ 255) (hy : 0 ≤ y ∧ y ≤ 255) : f58 x y = some (chgv x y) := by
  unfold f58
  rw [rbetween_in (by omega) (by omega) (.inl rfl)]
  rfl
abbrev am (p : Nat → Int) (d : Int) : Nat → Int := nthI [[p 4, p 7, p 10, p 13, p 16, p 19].getD d.toNat 0, [p 5, p 8, p 11, p 14, p 17, p 20].getD d.toNat 0, [p 6, p 9, p 12, p 15, p 18, p 21].getD d.toNat 0]
theorem am_ok {p : Nat → Int} (h : poseOk p) {d : Int} (hd : 0 ≤ d ∧ d < 6) : aimOk (am p d) := by
  obtain ⟨_, _, _, h0, h1, h2, h3, h4, h5⟩ := h
  rcases six hd with rfl | rfl | rfl | rfl | rfl | rfl <;> assumption
def fastB (l u v : Nat → Int) : Bool := decide (l 5 < maxI (u 1 - v 1) (-(u 1 - v 1))) || (!decide (u 1 = 64 ∨ u 1 = -64) && (!decide (v 1 = 64 ∨ v 1 = -64) && decide (l 5 < chgv (v 0) (u 0))))
theorem lt_maxI {x y z : Int} : decide (z < maxI x y) = (decide (z < x) || decide (z < y)) := by
  unfold maxI
  split
  · by_cases h : z < x
    · have : z < y := by omega
      simp [h, this]
    · simp [h]
  · by_cases h : z < y
    · have : z < x := by omega
      simp [h, this]
    · simp [h]
theorem rfast_eq {l u v : Nat → Int} (hu : aimOk u) (hv : aimOk v) : f61 l v u = some (fastB l u v) := by
  obtain ⟨u0, u1, _, _⟩ := hu
  obtain ⟨v0, v1, _, _⟩ := hv
  unfold f61 fastB
  rw [rupright_eq, rupright_eq, rchange_eq v0 u0, w64 (n := u 1 - v 1) (by omega) (by omega), w64 (by omega) (by omega), lt_maxI, show (0 : Int) - (u 1 - v 1) = -(u 1 - v 1) by omega]
  simp only [Option.bind_some]
  cases decide (l 5 < u 1 - v 1) <;> cases decide (l 5 < -(u 1 - v 1)) <;> cases decide (v 1 = 64 ∨ v 1 = -64) <;> cases decide (u 1 = 64 ∨ u 1 = -64) <;> rfl
def lfv (l : Nat → Int) (P : Nat → Nat → Int) (k : Nat) (d : Int) : Int :=
  bif !decide (alw l (am (P k) d)) then 25 else bif decide (0 < k) && fastB l (am (P k) d) (am (P (k - 1)) d) then 26 else 0
theorem limb_eq {l : Nat → Int} (hl : lbR l) {b : Sl} {k : Nat} (hk : k < b.1) (hn : b.1 ≤ 1000000) (hv : ∀ j, j < b.1 → poseOk (b.2 j)) {d : Int} (hd : 0 ≤ d ∧ d < 6) : f41 l b (k : Int) d = some (lfv l b.2 k d) := by
  have hu := am_ok (hv k hk) hd
  have k1 : (0 : Int) ≤ (k : Int) := by omega
  have k2 : (k : Int) < Int.ofNat b.1 := by simp; omega
  unfold f41 lfv
  have ea : f34 l (am (b.2 k) d) = some (decide (alw l (am (b.2 k) d))) := allows_eq hl.2.1 hu.1
  simp only [k1, k2, hd.1, hd.2, decide_true, cond_true, Int.toNat_natCast]
  rw [show f34 l (nthI [[b.2 k 4, b.2 k 7, b.2 k 10, b.2 k 13, b.2 k 16, b.2 k 19].getD d.toNat 0, [b.2 k 5, b.2 k 8, b.2 k 11, b.2 k 14, b.2 k 17, b.2 k 20].getD d.toNat 0, [b.2 k 6, b.2 k 9, b.2 k 12, b.2 k 15, b.2 k 18, b.2 k 21].getD d.toNat 0]) = _ from ea]
  simp only [Option.bind_some]
  cases decide (alw l (am (b.2 k) d))
  case false => rfl
  by_cases hz : k = 0
  · subst hz
    rfl
  have hp := am_ok (hv (k - 1) (by omega)) hd
  have e1 : IntKind.i64.wrap ((k : Int) - 1) = ((k - 1 : Nat) : Int) := by rw [w64 (by omega) (by omega)]; omega
  have k3 : ¬ (k : Int) = 0 := by omega
  have k4 : (0 : Int) ≤ ((k - 1 : Nat) : Int) := by omega
  have k5 : ((k - 1 : Nat) : Int) < Int.ofNat b.1 := by simp; omega
  have k6 : 0 < k := by omega
  rw [e1]
  simp only [k3, k4, k5, k6, decide_true, decide_false, cond_true, cond_false, Bool.not_true, Int.toNat_natCast, Bool.true_and]
  generalize hU : am (b.2 k) d = u at *
  generalize hV : am (b.2 (k - 1)) d = v at *
  have u0 : [b.2 k 4, b.2 k 7, b.2 k 10, b.2 k 13, b.2 k 16, b.2 k 19].getD d.toNat 0 = u 0 := by rw [← hU]; rfl
  have u1 : [b.2 k 5, b.2 k 8, b.2 k 11, b.2 k 14, b.2 k 17, b.2 k 20].getD d.toNat 0 = u 1 := by rw [← hU]; rfl
  have v0 : [b.2 (k - 1) 4, b.2 (k - 1) 7, b.2 (k - 1) 10, b.2 (k - 1) 13, b.2 (k - 1) 16, b.2 (k - 1) 19].getD d.toNat 0 = v 0 := by rw [← hV]; rfl
  have v1 : [b.2 (k - 1) 5, b.2 (k - 1) 8, b.2 (k - 1) 11, b.2 (k - 1) 14, b.2 (k - 1) 17, b.2 (k - 1) 20].getD d.toNat 0 = v 1 := by rw [← hV]; rfl
  have eu : f49 (nthI [[b.2 k 4, b.2 k 7, b.2 k 10, b.2 k 13, b.2 k 16, b.2 k 19].getD d.toNat 0, [b.2 k 5, b.2 k 8, b.2 k 11, b.2 k 14, b.2 k 17, b.2 k 20].getD d.toNat 0, [b.2 k 6, b.2 k 9, b.2 k 12, b.2 k 15, b.2 k 18, b.2 k 21].getD d.toNat 0]) = some (decide (u 1 = 64 ∨ u 1 = -64)) := by rw [show nthI [[b.2 k 4, b.2 k 7, b.2 k 10, b.2 k 13, b.2 k 16, b.2 k 19].getD d.toNat 0, [b.2 k 5, b.2 k 8, b.2 k 11, b.2 k 14, b.2 k 17, b.2 k 20].getD d.toNat 0, [b.2 k 6, b.2 k 9, b.2 k 12, b.2 k 15, b.2 k 18, b.2 k 21].getD d.toNat 0] = u from hU, pole_eq]
  have ev : f49 (nthI [[b.2 (k - 1) 4, b.2 (k - 1) 7, b.2 (k - 1) 10, b.2 (k - 1) 13, b.2 (k - 1) 16, b.2 (k - 1) 19].getD d.toNat 0, [b.2 (k - 1) 5, b.2 (k - 1) 8, b.2 (k - 1) 11, b.2 (k - 1) 14, b.2 (k - 1) 17, b.2 (k - 1) 20].getD d.toNat 0, [b.2 (k - 1) 6, b.2 (k - 1) 9, b.2 (k - 1) 12, b.2 (k - 1) 15, b.2 (k - 1) 18, b.2 (k - 1) 21].getD d.toNat 0]) = some (decide (v 1 = 64 ∨ v 1 = -64)) := by rw [show nthI [[b.2 (k - 1) 4, b.2 (k - 1) 7, b.2 (k - 1) 10, b.2 (k - 1) 13, b.2 (k - 1) 16, b.2 (k - 1) 19].getD d.toNat 0, [b.2 (k - 1) 5, b.2 (k - 1) 8, b.2 (k - 1) 11, b.2 (k - 1) 14, b.2 (k - 1) 17, b.2 (k - 1) 20].getD d.toNat 0, [b.2 (k - 1) 6, b.2 (k - 1) 9, b.2 (k - 1) 12, b.2 (k - 1) 15, b.2 (k - 1) 18, b.2 (k - 1) 21].getD d.toNat 0] = v from hV, pole_eq]
  rw [eu, ev]
  simp only [u1, v1, u0, v0]
  rw [change_eq hp.1 hu.1]
  have du := hu.2.1
  have dv := hp.2.1
  have w1 : IntKind.i64.wrap (u 1 - v 1) = u 1 - v 1 := w64 (by omega) (by omega)
  have w2 : IntKind.i64.wrap (0 - (u 1 - v 1)) = -(u 1 - v 1) := by rw [w64 (by omega) (by omega)]; omega
  unfold fastB
  simp only [Option.bind_some, w1, w2]
  cases decide (l 5 < maxI (u 1 - v 1) (-(u 1 - v 1))) <;> cases decide (v 1 = 64 ∨ v 1 = -64) <;> cases decide (u 1 = 64 ∨ u 1 = -64) <;> cases decide (l 5 < chgv (v 0) (u 0)) <;> rfl
def bfv (sp q r : Int) (P : Nat → Nat → Int) (k : Nat) : Int :=
  bif (decide (P k 3 < 0) && decide (q = 0)) || (decide (0 < P k 3) && decide (r = 0)) then 25 else bif decide (0 < k) && decide (sp < chgv (P (k - 1) 2) (P k 2)) then 26 else 0
theorem body_eq {a : Nat → Int} {b : Sl} {k : Nat} (hk : k < b.1) (hn : b.1 ≤ 1000000) (hv : ∀ j, j < b.1 → poseOk (b.2 j)) : f42 a b (k : Int) = some (bfv (a 39) (a 36) (a 37) b.2 k) := by
  have k1 : (0 : Int) ≤ (k : Int) := by omega
  have k2 : (k : Int) < Int.ofNat b.1 := by simp; omega
  unfold f42 bfv
  simp only [k1, k2, decide_true, cond_true, Int.toNat_natCast]
  by_cases hz : k = 0
  · subst hz
    have : ¬ (0 : Int) < ((0 : Nat) : Int) := by omega
    simp only [this, decide_false, cond_false]
    cases decide (b.2 0 3 < 0) <;> cases decide (0 < b.2 0 3) <;> cases decide (a 36 = 0) <;> cases decide (a 37 = 0) <;> rfl
  have e1 : IntKind.i64.wrap ((k : Int) - 1) = ((k - 1 : Nat) : Int) := by rw [w64 (by omega) (by omega)]; omega
  have k3 : (0 : Int) < (k : Int) := by omega
  have k4 : (0 : Int) ≤ ((k - 1 : Nat) : Int) := by omega
  have k5 : ((k - 1 : Nat) : Int) < Int.ofNat b.1 := by simp; omega
  have k6 : 0 < k := by omega
  rw [e1]
  simp only [k3, k4, k5, k6, decide_true, cond_true, Int.toNat_natCast, Bool.true_and]
  rw [change_eq (hv (k - 1) (by omega)).2.1 (hv k hk).2.1]
  simp only [Option.bind_some]
  cases decide (b.2 k 3 < 0) <;> cases decide (0 < b.2 k 3) <;> cases decide (a 36 = 0) <;> cases decide (a 37 = 0) <;> cases decide (a 39 < chgv (b.2 (k - 1) 2) (b.2 k 2)) <;> rfl
/-- How many ticks before this one had no support. -/
def run (S : Nat → Nat → Int) : Nat → Int
  | 0 => 0
  | k + 1 => bif decide (S k 0 = 0) then run S k + 1 else 0
theorem run_le (S : Nat → Nat → Int) : ∀ k, 0 ≤ run S k ∧ run S k ≤ k
  | 0 => by simp [run]
  | k + 1 => by
    have := run_le S k
    simp only [run]
    cases decide (S k 0 = 0) <;> simp only [cond_true, cond_false] <;> omega
/-- The first limb's fault at a tick: error and limb. -/
def flL (a : Nat → Int) (P : Nat → Nat → Int) (k : Nat) : Int × Int :=
  bif !decide (lfv (nthI [a 0, a 1, a 2, a 3, a 4, a 5]) P k 0 = 0) then (lfv (nthI [a 0, a 1, a 2, a 3, a 4, a 5]) P k 0, 0) else
  bif !decide (lfv (nthI [a 6, a 7, a 8, a 9, a 10, a 11]) P k 1 = 0) then (lfv (nthI [a 6, a 7, a 8, a 9, a 10, a 11]) P k 1, 1) else
  bif !decide (lfv (nthI [a 12, a 13, a 14, a 15, a 16, a 17]) P k 2 = 0) then (lfv (nthI [a 12, a 13, a 14, a 15, a 16, a 17]) P k 2, 2) else
  bif !decide (lfv (nthI [a 18, a 19, a 20, a 21, a 22, a 23]) P k 3 = 0) then (lfv (nthI [a 18, a 19, a 20, a 21, a 22, a 23]) P k 3, 3) else
  bif !decide (lfv (nthI [a 24, a 25, a 26, a 27, a 28, a 29]) P k 4 = 0) then (lfv (nthI [a 24, a 25, a 26, a 27, a 28, a 29]) P k 4, 4) else
  bif !decide (lfv (nthI [a 30, a 31, a 32, a 33, a 34, a 35]) P k 5 = 0) then (lfv (nthI [a 30, a 31, a 32, a 33, a 34, a 35]) P k 5, 5) else
  (0, 0)
/-- The first fault at a tick: error and part. -/
def flt (a : Nat → Int) (q r : Int) (P S : Nat → Nat → Int) (k : Nat) : Int × Int :=
  bif !decide ((flL a P k).1 = 0) then flL a P k else bif !decide (bfv (a 39) q r P k = 0) then (bfv (a 39) q r P k, 6) else bif decide (a 38 < run S k) then (28, 6) else (0, 0)
/-- The first fault from tick k on: error, tick, part. -/
def fst1 (a : Nat → Int) (q r : Int) (P S : Nat → Nat → Int) : Nat → Nat → Int × Int × Int
  | 0, _ => (0, 0, 0)
  | d + 1, k => bif !decide ((flt a q r P S k).1 = 0) then ((flt a q r P S k).1, (k : Int), (flt a q r P S k).2) else fst1 a q r P S d (k + 1)
noncomputable def res1 (x : Int × Int × Int) (z0 z1 z2 : Int) : LR := bif !decide (x.1 = 0) then (1, nthI [0, x.1, x.2.1, x.2.2], nthS []) else (0, nthI [z0, z1, z2], nthS [])
set_option maxHeartbeats 4000000 in
theorem m1 {a : Nat → Int} (ha : limOk a) {q r z0 z1 z2 : Int} (hq : (bif !decide (q = 0) then (1 : Int) else 0) = q) (hr : (bif !decide (r = 0) then (1 : Int) else 0) = r) {P S : Sl} (hn : P.1 = S.1 + 1) (hn2 : P.1 ≤ 1000000) (hv : ∀ j, j < P.1 → poseOk (P.2 j)) :
    ∀ (d m k : Nat), k + d = P.1 → d < m → iterL s24_1 m (nthI [run S.2 (k - 1), Int.ofNat P.1, (k : Int), a 0, a 1, a 2, a 3, a 4, a 5, a 6, a 7, a 8, a 9, a 10, a 11, a 12, a 13, a 14, a 15, a 16, a 17, a 18, a 19, a 20, a 21, a 22, a 23, a 24, a 25, a 26, a 27, a 28, a 29, a 30, a 31, a 32, a 33, a 34, a 35, q, r, a 38, a 39, z0, z1, z2]) (nthS [P, S]) = some (res1 (fst1 a q r P.2 S.2 d k) z0 z1 z2)
  | d, 0, k, _, h => by omega
  | 0, m + 1, k, h1, _ => by
    have hk : ¬ (k : Int) < Int.ofNat P.1 := by simp; omega
    simp only [iterL, s24_1, nthI, hk, decide_false, cond_false, fst1]
    rfl
  | d + 1, m + 1, k, h1, h2 => by
    have hk : k < P.1 := by omega
    have hk' : (k : Int) < Int.ofNat P.1 := by simp; omega
    have ih := m1 ha hq hr (z0 := z0) (z1 := z1) (z2 := z2) hn hn2 hv d m (k + 1) (by omega) (by omega)
    have ew : IntKind.i64.wrap ((k : Int) + 1) = ((k + 1 : Nat) : Int) := by rw [w64 (by omega) (by omega)]; omega
    obtain ⟨a0, a1, a2, a3, a4, a5, a6, a7⟩ := id ha
    have l0 : f41 (nthI [a 0, a 1, a 2, a 3, a 4, a 5]) P (k : Int) 0 = some (lfv (nthI [a 0, a 1, a 2, a 3, a 4, a 5]) P.2 k 0) := limb_eq (l := nthI [a 0, a 1, a 2, a 3, a 4, a 5]) a0 hk hn2 hv ⟨by omega, by omega⟩
    have l1 : f41 (nthI [a 6, a 7, a 8, a 9, a 10, a 11]) P (k : Int) 1 = some (lfv (nthI [a 6, a 7, a 8, a 9, a 10, a 11]) P.2 k 1) := limb_eq (l := nthI [a 6, a 7, a 8, a 9, a 10, a 11]) a1 hk hn2 hv ⟨by omega, by omega⟩
    have l2 : f41 (nthI [a 12, a 13, a 14, a 15, a 16, a 17]) P (k : Int) 2 = some (lfv (nthI [a 12, a 13, a 14, a 15, a 16, a 17]) P.2 k 2) := limb_eq (l := nthI [a 12, a 13, a 14, a 15, a 16, a 17]) a2 hk hn2 hv ⟨by omega, by omega⟩
    have l3 : f41 (nthI [a 18, a 19, a 20, a 21, a 22, a 23]) P (k : Int) 3 = some (lfv (nthI [a 18, a 19, a 20, a 21, a 22, a 23]) P.2 k 3) := limb_eq (l := nthI [a 18, a 19, a 20, a 21, a 22, a 23]) a3 hk hn2 hv ⟨by omega, by omega⟩
    have l4 : f41 (nthI [a 24, a 25, a 26, a 27, a 28, a 29]) P (k : Int) 4 = some (lfv (nthI [a 24, a 25, a 26, a 27, a 28, a 29]) P.2 k 4) := limb_eq (l := nthI [a 24, a 25, a 26, a 27, a 28, a 29]) a4 hk hn2 hv ⟨by omega, by omega⟩
    have l5 : f41 (nthI [a 30, a 31, a 32, a 33, a 34, a 35]) P (k : Int) 5 = some (lfv (nthI [a 30, a 31, a 32, a 33, a 34, a 35]) P.2 k 5) := limb_eq (l := nthI [a 30, a 31, a 32, a 33, a 34, a 35]) a5 hk hn2 hv ⟨by omega, by omega⟩
    have lb : f42 (nthI [a 0, a 1, a 2, a 3, a 4, a 5, a 6, a 7, a 8, a 9, a 10, a 11, a 12, a 13, a 14, a 15, a 16, a 17, a 18, a 19, a 20, a 21, a 22, a 23, a 24, a 25, a 26, a 27, a 28, a 29, a 30, a 31, a 32, a 33, a 34, a 35, q, r, a 38, a 39]) P (k : Int) = some (bfv (a 39) q r P.2 k) := body_eq (a := nthI [a 0, a 1, a 2, a 3, a 4, a 5, a 6, a 7, a 8, a 9, a 10, a 11, a 12, a 13, a 14, a 15, a 16, a 17, a 18, a 19, a 20, a 21, a 22, a 23, a 24, a 25, a 26, a 27, a 28, a 29, a 30, a 31, a 32, a 33, a 34, a 35, q, r, a 38, a 39]) hk hn2 hv
    have hrun := run_le S.2 k
    show ( cond (decide (((k : Int)) < (Int.ofNat P.1))) (
  Option.bind (f41 (nthI [(a 0), (a 1), (a 2), (a 3), (a 4), (a 5)]) (P) (((k : Int))) 0) (fun r3 =>
   cond (!decide (r3 = 0)) (
    some ((1, nthI [0, r3, ((k : Int)), 0], nthS []))) (
    Option.bind (f41 (nthI [(a 6), (a 7), (a 8), (a 9), (a 10), (a 11)]) (P) (((k : Int))) 1) (fun r4 =>
     cond (!decide (r4 = 0)) (
      some ((1, nthI [0, r4, ((k : Int)), 1], nthS []))) (
      Option.bind (f41 (nthI [(a 12), (a 13), (a 14), (a 15), (a 16), (a 17)]) (P) (((k : Int))) 2) (fun r5 =>
       cond (!decide (r5 = 0)) (
        some ((1, nthI [0, r5, ((k : Int)), 2], nthS []))) (
        Option.bind (f41 (nthI [(a 18), (a 19), (a 20), (a 21), (a 22), (a 23)]) (P) (((k : Int))) 3) (fun r6 =>
         cond (!decide (r6 = 0)) (
          some ((1, nthI [0, r6, ((k : Int)), 3], nthS []))) (
          Option.bind (f41 (nthI [(a 24), (a 25), (a 26), (a 27), (a 28), (a 29)]) (P) (((k : Int))) 4) (fun r7 =>
           cond (!decide (r7 = 0)) (
            some ((1, nthI [0, r7, ((k : Int)), 4], nthS []))) (
            Option.bind (f41 (nthI [(a 30), (a 31), (a 32), (a 33), (a 34), (a 35)]) (P) (((k : Int))) 5) (fun r8 =>
             cond (!decide (r8 = 0)) (
              some ((1, nthI [0, r8, ((k : Int)), 5], nthS []))) (
              Option.bind (f42 (nthI [(a 0), (a 1), (a 2), (a 3), (a 4), (a 5), (a 6), (a 7), (a 8), (a 9), (a 10), (a 11), (a 12), (a 13), (a 14), (a 15), (a 16), (a 17), (a 18), (a 19), (a 20), (a 21), (a 22), (a 23), (a 24), (a 25), (a 26), (a 27), (a 28), (a 29), (a 30), (a 31), (a 32), (a 33), (a 34), (a 35), bif !decide (q = 0) then 1 else 0, bif !decide (r = 0) then 1 else 0, (a 38), (a 39)]) (P) (((k : Int)))) (fun r9 =>
               cond (decide (0 < ((k : Int)))) (
                cond (decide (0 ≤ IntKind.i64.wrap (((k : Int)) - 1))) (
                 cond (decide (IntKind.i64.wrap (((k : Int)) - 1) < Int.ofNat (S).fst)) (
                  cond (!decide ((S).snd (IntKind.i64.wrap (((k : Int)) - 1)).toNat 0 = 0)) (
                   Option.bind (cond (decide (r9 = 0)) (
                     some (decide ((a 38) < 0))) (
                     some (false))) (fun r10 =>
                    cond (r10) (
                     some ((1, nthI [0, 28, ((k : Int)), 6], nthS []))) (
                     cond (!decide (r9 = 0)) (
                      some ((1, nthI [0, r9, ((k : Int)), 6], nthS []))) (
                      iterL s24_1 m (nthI [0, (Int.ofNat P.1), IntKind.i64.wrap (((k : Int)) + 1), (a 0), (a 1), (a 2), (a 3), (a 4), (a 5), (a 6), (a 7), (a 8), (a 9), (a 10), (a 11), (a 12), (a 13), (a 14), (a 15), (a 16), (a 17), (a 18), (a 19), (a 20), (a 21), (a 22), (a 23), (a 24), (a 25), (a 26), (a 27), (a 28), (a 29), (a 30), (a 31), (a 32), (a 33), (a 34), (a 35), bif !decide (q = 0) then 1 else 0, bif !decide (r = 0) then 1 else 0, (a 38), (a 39), z0, z1, z2]) (nthS [P, S]))))) (
                   Option.bind (cond (decide (r9 = 0)) (
                     some (decide ((a 38) < IntKind.i64.wrap ((run S.2 (k - 1)) + 1)))) (
                     some (false))) (fun r10 =>
                    cond (r10) (
                     some ((1, nthI [0, 28, ((k : Int)), 6], nthS []))) (
                     cond (!decide (r9 = 0)) (
                      some ((1, nthI [0, r9, ((k : Int)), 6], nthS []))) (
                      iterL s24_1 m (nthI [IntKind.i64.wrap ((run S.2 (k - 1)) + 1), (Int.ofNat P.1), IntKind.i64.wrap (((k : Int)) + 1), (a 0), (a 1), (a 2), (a 3), (a 4), (a 5), (a 6), (a 7), (a 8), (a 9), (a 10), (a 11), (a 12), (a 13), (a 14), (a 15), (a 16), (a 17), (a 18), (a 19), (a 20), (a 21), (a 22), (a 23), (a 24), (a 25), (a 26), (a 27), (a 28), (a 29), (a 30), (a 31), (a 32), (a 33), (a 34), (a 35), bif !decide (q = 0) then 1 else 0, bif !decide (r = 0) then 1 else 0, (a 38), (a 39), z0, z1, z2]) (nthS [P, S])))))) none) none) (
                Option.bind (cond (decide (r9 = 0)) (
                  some (decide ((a 38) < (run S.2 (k - 1))))) (
                  some (false))) (fun r10 =>
                 cond (r10) (
                  some ((1, nthI [0, 28, ((k : Int)), 6], nthS []))) (
                  cond (!decide (r9 = 0)) (
                   some ((1, nthI [0, r9, ((k : Int)), 6], nthS []))) (
                   iterL s24_1 m (nthI [(run S.2 (k - 1)), (Int.ofNat P.1), IntKind.i64.wrap (((k : Int)) + 1), (a 0), (a 1), (a 2), (a 3), (a 4), (a 5), (a 6), (a 7), (a 8), (a 9), (a 10), (a 11), (a 12), (a 13), (a 14), (a 15), (a 16), (a 17), (a 18), (a 19), (a 20), (a 21), (a 22), (a 23), (a 24), (a 25), (a 26), (a 27), (a 28), (a 29), (a 30), (a 31), (a 32), (a 33), (a 34), (a 35), bif !decide (q = 0) then 1 else 0, bif !decide (r = 0) then 1 else 0, (a 38), (a 39), z0, z1, z2]) (nthS [P, S]))))))))))))))))))) (
  some ((0, nthI [z0, z1, z2], nthS [])))) = _
    simp only [hk', decide_true, cond_true, hq, hr, ew, l0, l1, l2, l3, l4, l5, lb, Option.bind_some, fst1]
    unfold flt flL
    by_cases h0' : lfv (nthI [a 0, a 1, a 2, a 3, a 4, a 5]) P.2 k 0 = 0
    case neg =>
      simp only [h0', decide_false, decide_true, Bool.not_false, Bool.not_true, cond_true, cond_false, res1]
    by_cases h1' : lfv (nthI [a 6, a 7, a 8, a 9, a 10, a 11]) P.2 k 1 = 0
    case neg =>
      simp only [h0', h1', decide_false, decide_true, Bool.not_false, Bool.not_true, cond_true, cond_false, res1]
    by_cases h2' : lfv (nthI [a 12, a 13, a 14, a 15, a 16, a 17]) P.2 k 2 = 0
    case neg =>
      simp only [h0', h1', h2', decide_false, decide_true, Bool.not_false, Bool.not_true, cond_true, cond_false, res1]
    by_cases h3' : lfv (nthI [a 18, a 19, a 20, a 21, a 22, a 23]) P.2 k 3 = 0
    case neg =>
      simp only [h0', h1', h2', h3', decide_false, decide_true, Bool.not_false, Bool.not_true, cond_true, cond_false, res1]
    by_cases h4' : lfv (nthI [a 24, a 25, a 26, a 27, a 28, a 29]) P.2 k 4 = 0
    case neg =>
      simp only [h0', h1', h2', h3', h4', decide_false, decide_true, Bool.not_false, Bool.not_true, cond_true, cond_false, res1]
    by_cases h5' : lfv (nthI [a 30, a 31, a 32, a 33, a 34, a 35]) P.2 k 5 = 0
    case neg =>
      simp only [h0', h1', h2', h3', h4', h5', decide_false, decide_true, Bool.not_false, Bool.not_true, cond_true, cond_false, res1]
    simp only [h0', h1', h2', h3', h4', h5', decide_true, Bool.not_true, cond_false]
    have hrun := run_le S.2 (k - 1)
    by_cases hz : k = 0
    · subst hz
      have k0 : ¬ (0 : Int) < ((0 : Nat) : Int) := by omega
      simp only [k0, decide_false, cond_false]
      have e0 : run S.2 (0 - 1) = run S.2 0 := rfl
      rw [e0]
      by_cases hb : bfv (a 39) q r P.2 0 = 0 <;> by_cases hx : a 38 < run S.2 0 <;> simp only [hb, hx, decide_true, decide_false, cond_true, cond_false, Bool.not_true, Bool.not_false, Option.bind_some] <;> first | exact ih | rfl | (simp only [res1, hb, decide_false, Bool.not_false, cond_true])
    · obtain ⟨k', rfl⟩ : ∃ k', k = k' + 1 := ⟨k - 1, by omega⟩
      have k0 : (0 : Int) < ((k' + 1 : Nat) : Int) := by omega
      have e1 : IntKind.i64.wrap (((k' + 1 : Nat) : Int) - 1) = (k' : Int) := by rw [w64 (by omega) (by omega)]; omega
      have k1 : (0 : Int) ≤ (k' : Int) := by omega
      have k2 : (k' : Int) < Int.ofNat S.1 := by simp; omega
      have e2 : k' + 1 - 1 = k' := rfl
      have e4 : k' + 1 + 1 - 1 = k' + 1 := rfl
      rw [e2] at hrun
      have e3 : IntKind.i64.wrap (run S.2 k' + 1) = run S.2 k' + 1 := w64 (by omega) (by omega)
      simp only [k0, e1, k1, k2, e2, e3, e4, Int.toNat_natCast, decide_true, cond_true, run] at ih ⊢
      by_cases hs : S.2 k' 0 = 0
      · simp only [hs, decide_true, Bool.not_true, cond_true, cond_false] at ih ⊢
        by_cases hb : bfv (a 39) q r P.2 (k' + 1) = 0 <;> by_cases hx : a 38 < run S.2 k' + 1 <;> simp only [hb, hx, decide_true, decide_false, cond_true, cond_false, Bool.not_true, Bool.not_false, Option.bind_some] <;> first | exact ih | rfl | (simp only [res1, hb, decide_false, Bool.not_false, cond_true])
      · simp only [hs, decide_false, Bool.not_false, cond_true, cond_false] at ih ⊢
        by_cases hb : bfv (a 39) q r P.2 (k' + 1) = 0 <;> by_cases hx : a 38 < 0 <;> simp only [hb, hx, decide_true, decide_false, cond_true, cond_false, Bool.not_true, Bool.not_false, Option.bind_some] <;> first | exact ih | rfl | (simp only [res1, hb, decide_false, Bool.not_false, cond_true])

end Go.Proofs.Ytbiedpabdkbpfaa
