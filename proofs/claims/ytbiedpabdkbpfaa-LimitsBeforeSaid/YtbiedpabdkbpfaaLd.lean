/-
  THE PLAIN LAWS: what the contracts compute answers as the statements say.
-/
import Derived.Test.YtbiedpabdkbpfaaLc
open Go Go.VE Go.Proofs
set_option maxRecDepth 1000000
set_option maxHeartbeats 0
set_option linter.unusedVariables false
set_option linter.unusedSimpArgs false
namespace Go.Proofs.Ytbiedpabdkbpfaa
/-! ### Narrowed by itself, by everything -/
theorem nar_id {l m : Nat → Int} (hl : lbR l) (hp : ∀ j, 0 ≤ j → j < l 3 + 1 → insP (l 2) (m 2) (m 3) j = true) (h0 : maxI (l 0) (m 0) = l 0) (h1 : minI (l 1) (m 1) = l 1) (h4 : minI (l 4) (m 4) = l 4) (h5 : minI (l 5) (m 5) = l 5) :
    nar l m = (nthI [l 0, l 1, l 2, l 3, l 4, l 5], true) := by
  have hb := hl.2.2.1
  have h2 := hl.2.1
  have hf : fst l m = 0 := fF_all _ _ _ (hp 0 (by omega) (by omega)) (by omega)
  have hh := hF_all (insP (l 2) (m 2) (m 3)) (l 3 - 0).toNat (0 + 1) (fun j h1 h4 => hp j (by omega) (by omega))
  have hs : sec l m = (l 2, l 3) := by
    unfold sec
    rw [hf, hh]
    have : decide (0 ≤ l 3) = true := by simp; omega
    rw [this]
    simp only [cond_true, Prod.mk.injEq]
    omega
  unfold nar
  rw [hs, h0, h1, h4, h5]
  have hlow : ¬ l 1 < l 0 := by have := hl.1; omega
  have h3 : ¬ l 3 < 0 := by omega
  simp [hlow, h3]
theorem nar_self {l : Nat → Int} (hl : lbR l) : nar l l = (nthI [l 0, l 1, l 2, l 3, l 4, l 5], true) :=
  nar_id hl (fun j h1 h4 => by
    have := hl.2.2.1
    have := hl.2.1
    simp only [insP, decide_eq_true_eq]
    omega) (maxI_self _) (minI_self _) (minI_self _) (minI_self _)
theorem maxI_of {x y : Int} (h : y ≤ x) : maxI x y = x := by unfold maxI; split <;> omega
theorem minI_of {x y : Int} (h : x ≤ y) : minI x y = x := by unfold minI; split <;> omega
theorem nar_wide {l m : Nat → Int} (hl : lbR l) (h0 : m 0 = -64) (h1 : m 1 = 64) (h3 : m 3 = 255) (h4 : m 4 = 6) (h5 : m 5 = 128) : nar l m = (nthI [l 0, l 1, l 2, l 3, l 4, l 5], true) := by
  obtain ⟨a0, a2, a3, a4, a5⟩ := id hl
  exact nar_id hl (fun j h1 h4 => by
    simp only [insP, decide_eq_true_eq, h3]
    omega) (maxI_of (by omega)) (minI_of (by omega)) (minI_of (by omega)) (minI_of (by omega))
noncomputable def wideL : Nat → Int := nthI [-64, 64, 0, 255, 6, 128, -64, 64, 0, 255, 6, 128, -64, 64, 0, 255, 6, 128, -64, 64, 0, 255, 6, 128, -64, 64, 0, 255, 6, 128, -64, 64, 0, 255, 6, 128, 1, 1, 8192, 128]
theorem wide_eq : f22 = some wideL := rfl
theorem wide_ok : limOk wideL := by
  unfold limOk lb wideL
  simp only [nthI]
  omega
theorem bbs (x : Int) : (!decide (bb (bif !decide (x = 0) then 1 else 0) (bif !decide (x = 0) then 1 else 0) = 0)) = !decide (x = 0) := by
  by_cases h : x = 0 <;> simp [bb, h]
theorem bbw (x : Int) : (!decide (bb (bif !decide (x = 0) then 1 else 0) 1 = 0)) = !decide (x = 0) := by
  by_cases h : x = 0 <;> simp [bb, h]
theorem lawSelf (a : Nat → Int) : f7 a = some true := by
  unfold f7
  by_cases h : limOk a
  · have h1 : limOk (cpL a) := h
    obtain ⟨a0, a1, a2, a3, a4, a5, a6, a7⟩ := id h
    have s0 : nar (cpL a) (cpL a) = (nthI [a 0, a 1, a 2, a 3, a 4, a 5], true) := nar_self (l := nthI [a 0, a 1, a 2, a 3, a 4, a 5]) a0
    have w0 : nar (cpL a) (cpL wideL) = (nthI [a 0, a 1, a 2, a 3, a 4, a 5], true) := nar_wide (l := nthI [a 0, a 1, a 2, a 3, a 4, a 5]) (m := nthI [wideL 0, wideL 1, wideL 2, wideL 3, wideL 4, wideL 5]) a0 rfl rfl rfl rfl rfl
    have s1 : nar (nthI [(cpL a) 6, (cpL a) 7, (cpL a) 8, (cpL a) 9, (cpL a) 10, (cpL a) 11]) (nthI [cpL a 6, cpL a 7, cpL a 8, cpL a 9, cpL a 10, cpL a 11]) = (nthI [a 6, a 7, a 8, a 9, a 10, a 11], true) := nar_self (l := nthI [a 6, a 7, a 8, a 9, a 10, a 11]) a1
    have w1 : nar (nthI [cpL a 6, cpL a 7, cpL a 8, cpL a 9, cpL a 10, cpL a 11]) (nthI [cpL wideL 6, cpL wideL 7, cpL wideL 8, cpL wideL 9, cpL wideL 10, cpL wideL 11]) = (nthI [a 6, a 7, a 8, a 9, a 10, a 11], true) := nar_wide (l := nthI [a 6, a 7, a 8, a 9, a 10, a 11]) (m := nthI [wideL 6, wideL 7, wideL 8, wideL 9, wideL 10, wideL 11]) a1 rfl rfl rfl rfl rfl
    have s2 : nar (nthI [(cpL a) 12, (cpL a) 13, (cpL a) 14, (cpL a) 15, (cpL a) 16, (cpL a) 17]) (nthI [cpL a 12, cpL a 13, cpL a 14, cpL a 15, cpL a 16, cpL a 17]) = (nthI [a 12, a 13, a 14, a 15, a 16, a 17], true) := nar_self (l := nthI [a 12, a 13, a 14, a 15, a 16, a 17]) a2
    have w2 : nar (nthI [cpL a 12, cpL a 13, cpL a 14, cpL a 15, cpL a 16, cpL a 17]) (nthI [cpL wideL 12, cpL wideL 13, cpL wideL 14, cpL wideL 15, cpL wideL 16, cpL wideL 17]) = (nthI [a 12, a 13, a 14, a 15, a 16, a 17], true) := nar_wide (l := nthI [a 12, a 13, a 14, a 15, a 16, a 17]) (m := nthI [wideL 12, wideL 13, wideL 14, wideL 15, wideL 16, wideL 17]) a2 rfl rfl rfl rfl rfl
    have s3 : nar (nthI [(cpL a) 18, (cpL a) 19, (cpL a) 20, (cpL a) 21, (cpL a) 22, (cpL a) 23]) (nthI [cpL a 18, cpL a 19, cpL a 20, cpL a 21, cpL a 22, cpL a 23]) = (nthI [a 18, a 19, a 20, a 21, a 22, a 23], true) := nar_self (l := nthI [a 18, a 19, a 20, a 21, a 22, a 23]) a3
    have w3 : nar (nthI [cpL a 18, cpL a 19, cpL a 20, cpL a 21, cpL a 22, cpL a 23]) (nthI [cpL wideL 18, cpL wideL 19, cpL wideL 20, cpL wideL 21, cpL wideL 22, cpL wideL 23]) = (nthI [a 18, a 19, a 20, a 21, a 22, a 23], true) := nar_wide (l := nthI [a 18, a 19, a 20, a 21, a 22, a 23]) (m := nthI [wideL 18, wideL 19, wideL 20, wideL 21, wideL 22, wideL 23]) a3 rfl rfl rfl rfl rfl
    have s4 : nar (nthI [(cpL a) 24, (cpL a) 25, (cpL a) 26, (cpL a) 27, (cpL a) 28, (cpL a) 29]) (nthI [cpL a 24, cpL a 25, cpL a 26, cpL a 27, cpL a 28, cpL a 29]) = (nthI [a 24, a 25, a 26, a 27, a 28, a 29], true) := nar_self (l := nthI [a 24, a 25, a 26, a 27, a 28, a 29]) a4
    have w4 : nar (nthI [cpL a 24, cpL a 25, cpL a 26, cpL a 27, cpL a 28, cpL a 29]) (nthI [cpL wideL 24, cpL wideL 25, cpL wideL 26, cpL wideL 27, cpL wideL 28, cpL wideL 29]) = (nthI [a 24, a 25, a 26, a 27, a 28, a 29], true) := nar_wide (l := nthI [a 24, a 25, a 26, a 27, a 28, a 29]) (m := nthI [wideL 24, wideL 25, wideL 26, wideL 27, wideL 28, wideL 29]) a4 rfl rfl rfl rfl rfl
    have s5 : nar (nthI [(cpL a) 30, (cpL a) 31, (cpL a) 32, (cpL a) 33, (cpL a) 34, (cpL a) 35]) (nthI [cpL a 30, cpL a 31, cpL a 32, cpL a 33, cpL a 34, cpL a 35]) = (nthI [a 30, a 31, a 32, a 33, a 34, a 35], true) := nar_self (l := nthI [a 30, a 31, a 32, a 33, a 34, a 35]) a5
    have w5 : nar (nthI [cpL a 30, cpL a 31, cpL a 32, cpL a 33, cpL a 34, cpL a 35]) (nthI [cpL wideL 30, cpL wideL 31, cpL wideL 32, cpL wideL 33, cpL wideL 34, cpL wideL 35]) = (nthI [a 30, a 31, a 32, a 33, a 34, a 35], true) := nar_wide (l := nthI [a 30, a 31, a 32, a 33, a 34, a 35]) (m := nthI [wideL 30, wideL 31, wideL 32, wideL 33, wideL 34, wideL 35]) a5 rfl rfl rfl rfl rfl
    have e1 : f19 (cpL a) (cpL a) = some (narL (cpL a) (cpL a), 0) := by
      rw [lnarrow_in h1 h1]
      unfold okN
      rw [s0, s1, s2, s3, s4, s5]
      rfl
    have e2 : f19 (cpL a) (cpL wideL) = some (narL (cpL a) (cpL wideL), 0) := by
      rw [lnarrow_in h1 (show limOk (cpL wideL) from wide_ok)]
      unfold okN
      rw [w0, w1, w2, w3, w4, w5]
      rfl
    rw [e1, wide_eq, lc_in h]
    simp only [Option.bind_some]
    rw [e2]
    have k0 : narL (cpL a) (cpL a) 0 = a 0 := by
      show (nar (cpL a) (cpL a)).1 0 = a 0
      rw [s0]
      rfl
    have m0 : narL (cpL a) (cpL wideL) 0 = a 0 := by
      show (nar (cpL a) (cpL wideL)).1 0 = a 0
      rw [w0]
      rfl
    have k1 : narL (cpL a) (cpL a) 1 = a 1 := by
      show (nar (cpL a) (cpL a)).1 1 = a 1
      rw [s0]
      rfl
    have m1 : narL (cpL a) (cpL wideL) 1 = a 1 := by
      show (nar (cpL a) (cpL wideL)).1 1 = a 1
      rw [w0]
      rfl
    have k2 : narL (cpL a) (cpL a) 2 = a 2 := by
      show (nar (cpL a) (cpL a)).1 2 = a 2
      rw [s0]
      rfl
    have m2 : narL (cpL a) (cpL wideL) 2 = a 2 := by
      show (nar (cpL a) (cpL wideL)).1 2 = a 2
      rw [w0]
      rfl
    have k3 : narL (cpL a) (cpL a) 3 = a 3 := by
      show (nar (cpL a) (cpL a)).1 3 = a 3
      rw [s0]
      rfl
    have m3 : narL (cpL a) (cpL wideL) 3 = a 3 := by
      show (nar (cpL a) (cpL wideL)).1 3 = a 3
      rw [w0]
      rfl
    have k4 : narL (cpL a) (cpL a) 4 = a 4 := by
      show (nar (cpL a) (cpL a)).1 4 = a 4
      rw [s0]
      rfl
    have m4 : narL (cpL a) (cpL wideL) 4 = a 4 := by
      show (nar (cpL a) (cpL wideL)).1 4 = a 4
      rw [w0]
      rfl
    have k5 : narL (cpL a) (cpL a) 5 = a 5 := by
      show (nar (cpL a) (cpL a)).1 5 = a 5
      rw [s0]
      rfl
    have m5 : narL (cpL a) (cpL wideL) 5 = a 5 := by
      show (nar (cpL a) (cpL wideL)).1 5 = a 5
      rw [w0]
      rfl
    have k6 : narL (cpL a) (cpL a) 6 = a 6 := by
      show (nar (nthI [cpL a 6, cpL a 7, cpL a 8, cpL a 9, cpL a 10, cpL a 11]) (nthI [cpL a 6, cpL a 7, cpL a 8, cpL a 9, cpL a 10, cpL a 11])).1 0 = a 6
      rw [s1]
      rfl
    have m6 : narL (cpL a) (cpL wideL) 6 = a 6 := by
      show (nar (nthI [cpL a 6, cpL a 7, cpL a 8, cpL a 9, cpL a 10, cpL a 11]) (nthI [cpL wideL 6, cpL wideL 7, cpL wideL 8, cpL wideL 9, cpL wideL 10, cpL wideL 11])).1 0 = a 6
      rw [w1]
      rfl
    have k7 : narL (cpL a) (cpL a) 7 = a 7 := by
      show (nar (nthI [cpL a 6, cpL a 7, cpL a 8, cpL a 9, cpL a 10, cpL a 11]) (nthI [cpL a 6, cpL a 7, cpL a 8, cpL a 9, cpL a 10, cpL a 11])).1 1 = a 7
      rw [s1]
      rfl
    have m7 : narL (cpL a) (cpL wideL) 7 = a 7 := by
      show (nar (nthI [cpL a 6, cpL a 7, cpL a 8, cpL a 9, cpL a 10, cpL a 11]) (nthI [cpL wideL 6, cpL wideL 7, cpL wideL 8, cpL wideL 9, cpL wideL 10, cpL wideL 11])).1 1 = a 7
      rw [w1]
      rfl
    have k8 : narL (cpL a) (cpL a) 8 = a 8 := by
      show (nar (nthI [cpL a 6, cpL a 7, cpL a 8, cpL a 9, cpL a 10, cpL a 11]) (nthI [cpL a 6, cpL a 7, cpL a 8, cpL a 9, cpL a 10, cpL a 11])).1 2 = a 8
      rw [s1]
      rfl
    have m8 : narL (cpL a) (cpL wideL) 8 = a 8 := by
      show (nar (nthI [cpL a 6, cpL a 7, cpL a 8, cpL a 9, cpL a 10, cpL a 11]) (nthI [cpL wideL 6, cpL wideL 7, cpL wideL 8, cpL wideL 9, cpL wideL 10, cpL wideL 11])).1 2 = a 8
      rw [w1]
      rfl
    have k9 : narL (cpL a) (cpL a) 9 = a 9 := by
      show (nar (nthI [cpL a 6, cpL a 7, cpL a 8, cpL a 9, cpL a 10, cpL a 11]) (nthI [cpL a 6, cpL a 7, cpL a 8, cpL a 9, cpL a 10, cpL a 11])).1 3 = a 9
      rw [s1]
      rfl
    have m9 : narL (cpL a) (cpL wideL) 9 = a 9 := by
      show (nar (nthI [cpL a 6, cpL a 7, cpL a 8, cpL a 9, cpL a 10, cpL a 11]) (nthI [cpL wideL 6, cpL wideL 7, cpL wideL 8, cpL wideL 9, cpL wideL 10, cpL wideL 11])).1 3 = a 9
      rw [w1]
      rfl
    have k10 : narL (cpL a) (cpL a) 10 = a 10 := by
      show (nar (nthI [cpL a 6, cpL a 7, cpL a 8, cpL a 9, cpL a 10, cpL a 11]) (nthI [cpL a 6, cpL a 7, cpL a 8, cpL a 9, cpL a 10, cpL a 11])).1 4 = a 10
      rw [s1]
      rfl
    have m10 : narL (cpL a) (cpL wideL) 10 = a 10 := by
      show (nar (nthI [cpL a 6, cpL a 7, cpL a 8, cpL a 9, cpL a 10, cpL a 11]) (nthI [cpL wideL 6, cpL wideL 7, cpL wideL 8, cpL wideL 9, cpL wideL 10, cpL wideL 11])).1 4 = a 10
      rw [w1]
      rfl
    have k11 : narL (cpL a) (cpL a) 11 = a 11 := by
      show (nar (nthI [cpL a 6, cpL a 7, cpL a 8, cpL a 9, cpL a 10, cpL a 11]) (nthI [cpL a 6, cpL a 7, cpL a 8, cpL a 9, cpL a 10, cpL a 11])).1 5 = a 11
      rw [s1]
      rfl
    have m11 : narL (cpL a) (cpL wideL) 11 = a 11 := by
      show (nar (nthI [cpL a 6, cpL a 7, cpL a 8, cpL a 9, cpL a 10, cpL a 11]) (nthI [cpL wideL 6, cpL wideL 7, cpL wideL 8, cpL wideL 9, cpL wideL 10, cpL wideL 11])).1 5 = a 11
      rw [w1]
      rfl
    have k12 : narL (cpL a) (cpL a) 12 = a 12 := by
      show (nar (nthI [cpL a 12, cpL a 13, cpL a 14, cpL a 15, cpL a 16, cpL a 17]) (nthI [cpL a 12, cpL a 13, cpL a 14, cpL a 15, cpL a 16, cpL a 17])).1 0 = a 12
      rw [s2]
      rfl
    have m12 : narL (cpL a) (cpL wideL) 12 = a 12 := by
      show (nar (nthI [cpL a 12, cpL a 13, cpL a 14, cpL a 15, cpL a 16, cpL a 17]) (nthI [cpL wideL 12, cpL wideL 13, cpL wideL 14, cpL wideL 15, cpL wideL 16, cpL wideL 17])).1 0 = a 12
      rw [w2]
      rfl
    have k13 : narL (cpL a) (cpL a) 13 = a 13 := by
      show (nar (nthI [cpL a 12, cpL a 13, cpL a 14, cpL a 15, cpL a 16, cpL a 17]) (nthI [cpL a 12, cpL a 13, cpL a 14, cpL a 15, cpL a 16, cpL a 17])).1 1 = a 13
      rw [s2]
      rfl
    have m13 : narL (cpL a) (cpL wideL) 13 = a 13 := by
      show (nar (nthI [cpL a 12, cpL a 13, cpL a 14, cpL a 15, cpL a 16, cpL a 17]) (nthI [cpL wideL 12, cpL wideL 13, cpL wideL 14, cpL wideL 15, cpL wideL 16, cpL wideL 17])).1 1 = a 13
      rw [w2]
      rfl
    have k14 : narL (cpL a) (cpL a) 14 = a 14 := by
      show (nar (nthI [cpL a 12, cpL a 13, cpL a 14, cpL a 15, cpL a 16, cpL a 17]) (nthI [cpL a 12, cpL a 13, cpL a 14, cpL a 15, cpL a 16, cpL a 17])).1 2 = a 14
      rw [s2]
      rfl
    have m14 : narL (cpL a) (cpL wideL) 14 = a 14 := by
      show (nar (nthI [cpL a 12, cpL a 13, cpL a 14, cpL a 15, cpL a 16, cpL a 17]) (nthI [cpL wideL 12, cpL wideL 13, cpL wideL 14, cpL wideL 15, cpL wideL 16, cpL wideL 17])).1 2 = a 14
      rw [w2]
      rfl
    have k15 : narL (cpL a) (cpL a) 15 = a 15 := by
      show (nar (nthI [cpL a 12, cpL a 13, cpL a 14, cpL a 15, cpL a 16, cpL a 17]) (nthI [cpL a 12, cpL a 13, cpL a 14, cpL a 15, cpL a 16, cpL a 17])).1 3 = a 15
      rw [s2]
      rfl
    have m15 : narL (cpL a) (cpL wideL) 15 = a 15 := by
      show (nar (nthI [cpL a 12, cpL a 13, cpL a 14, cpL a 15, cpL a 16, cpL a 17]) (nthI [cpL wideL 12, cpL wideL 13, cpL wideL 14, cpL wideL 15, cpL wideL 16, cpL wideL 17])).1 3 = a 15
      rw [w2]
      rfl
    have k16 : narL (cpL a) (cpL a) 16 = a 16 := by
      show (nar (nthI [cpL a 12, cpL a 13, cpL a 14, cpL a 15, cpL a 16, cpL a 17]) (nthI [cpL a 12, cpL a 13, cpL a 14, cpL a 15, cpL a 16, cpL a 17])).1 4 = a 16
      rw [s2]
      rfl
    have m16 : narL (cpL a) (cpL wideL) 16 = a 16 := by
      show (nar (nthI [cpL a 12, cpL a 13, cpL a 14, cpL a 15, cpL a 16, cpL a 17]) (nthI [cpL wideL 12, cpL wideL 13, cpL wideL 14, cpL wideL 15, cpL wideL 16, cpL wideL 17])).1 4 = a 16
      rw [w2]
      rfl
    have k17 : narL (cpL a) (cpL a) 17 = a 17 := by
      show (nar (nthI [cpL a 12, cpL a 13, cpL a 14, cpL a 15, cpL a 16, cpL a 17]) (nthI [cpL a 12, cpL a 13, cpL a 14, cpL a 15, cpL a 16, cpL a 17])).1 5 = a 17
      rw [s2]
      rfl
    have m17 : narL (cpL a) (cpL wideL) 17 = a 17 := by
      show (nar (nthI [cpL a 12, cpL a 13, cpL a 14, cpL a 15, cpL a 16, cpL a 17]) (nthI [cpL wideL 12, cpL wideL 13, cpL wideL 14, cpL wideL 15, cpL wideL 16, cpL wideL 17])).1 5 = a 17
      rw [w2]
      rfl
    have k18 : narL (cpL a) (cpL a) 18 = a 18 := by
      show (nar (nthI [cpL a 18, cpL a 19, cpL a 20, cpL a 21, cpL a 22, cpL a 23]) (nthI [cpL a 18, cpL a 19, cpL a 20, cpL a 21, cpL a 22, cpL a 23])).1 0 = a 18
      rw [s3]
      rfl
    have m18 : narL (cpL a) (cpL wideL) 18 = a 18 := by
      show (nar (nthI [cpL a 18, cpL a 19, cpL a 20, cpL a 21, cpL a 22, cpL a 23]) (nthI [cpL wideL 18, cpL wideL 19, cpL wideL 20, cpL wideL 21, cpL wideL 22, cpL wideL 23])).1 0 = a 18
      rw [w3]
      rfl
    have k19 : narL (cpL a) (cpL a) 19 = a 19 := by
      show (nar (nthI [cpL a 18, cpL a 19, cpL a 20, cpL a 21, cpL a 22, cpL a 23]) (nthI [cpL a 18, cpL a 19, cpL a 20, cpL a 21, cpL a 22, cpL a 23])).1 1 = a 19
      rw [s3]
      rfl
    have m19 : narL (cpL a) (cpL wideL) 19 = a 19 := by
      show (nar (nthI [cpL a 18, cpL a 19, cpL a 20, cpL a 21, cpL a 22, cpL a 23]) (nthI [cpL wideL 18, cpL wideL 19, cpL wideL 20, cpL wideL 21, cpL wideL 22, cpL wideL 23])).1 1 = a 19
      rw [w3]
      rfl
    have k20 : narL (cpL a) (cpL a) 20 = a 20 := by
      show (nar (nthI [cpL a 18, cpL a 19, cpL a 20, cpL a 21, cpL a 22, cpL a 23]) (nthI [cpL a 18, cpL a 19, cpL a 20, cpL a 21, cpL a 22, cpL a 23])).1 2 = a 20
      rw [s3]
      rfl
    have m20 : narL (cpL a) (cpL wideL) 20 = a 20 := by
      show (nar (nthI [cpL a 18, cpL a 19, cpL a 20, cpL a 21, cpL a 22, cpL a 23]) (nthI [cpL wideL 18, cpL wideL 19, cpL wideL 20, cpL wideL 21, cpL wideL 22, cpL wideL 23])).1 2 = a 20
      rw [w3]
      rfl
    have k21 : narL (cpL a) (cpL a) 21 = a 21 := by
      show (nar (nthI [cpL a 18, cpL a 19, cpL a 20, cpL a 21, cpL a 22, cpL a 23]) (nthI [cpL a 18, cpL a 19, cpL a 20, cpL a 21, cpL a 22, cpL a 23])).1 3 = a 21
      rw [s3]
      rfl
    have m21 : narL (cpL a) (cpL wideL) 21 = a 21 := by
      show (nar (nthI [cpL a 18, cpL a 19, cpL a 20, cpL a 21, cpL a 22, cpL a 23]) (nthI [cpL wideL 18, cpL wideL 19, cpL wideL 20, cpL wideL 21, cpL wideL 22, cpL wideL 23])).1 3 = a 21
      rw [w3]
      rfl
    have k22 : narL (cpL a) (cpL a) 22 = a 22 := by
      show (nar (nthI [cpL a 18, cpL a 19, cpL a 20, cpL a 21, cpL a 22, cpL a 23]) (nthI [cpL a 18, cpL a 19, cpL a 20, cpL a 21, cpL a 22, cpL a 23])).1 4 = a 22
      rw [s3]
      rfl
    have m22 : narL (cpL a) (cpL wideL) 22 = a 22 := by
      show (nar (nthI [cpL a 18, cpL a 19, cpL a 20, cpL a 21, cpL a 22, cpL a 23]) (nthI [cpL wideL 18, cpL wideL 19, cpL wideL 20, cpL wideL 21, cpL wideL 22, cpL wideL 23])).1 4 = a 22
      rw [w3]
      rfl
    have k23 : narL (cpL a) (cpL a) 23 = a 23 := by
      show (nar (nthI [cpL a 18, cpL a 19, cpL a 20, cpL a 21, cpL a 22, cpL a 23]) (nthI [cpL a 18, cpL a 19, cpL a 20, cpL a 21, cpL a 22, cpL a 23])).1 5 = a 23
      rw [s3]
      rfl
    have m23 : narL (cpL a) (cpL wideL) 23 = a 23 := by
      show (nar (nthI [cpL a 18, cpL a 19, cpL a 20, cpL a 21, cpL a 22, cpL a 23]) (nthI [cpL wideL 18, cpL wideL 19, cpL wideL 20, cpL wideL 21, cpL wideL 22, cpL wideL 23])).1 5 = a 23
      rw [w3]
      rfl
    have k24 : narL (cpL a) (cpL a) 24 = a 24 := by
      show (nar (nthI [cpL a 24, cpL a 25, cpL a 26, cpL a 27, cpL a 28, cpL a 29]) (nthI [cpL a 24, cpL a 25, cpL a 26, cpL a 27, cpL a 28, cpL a 29])).1 0 = a 24
      rw [s4]
      rfl
    have m24 : narL (cpL a) (cpL wideL) 24 = a 24 := by
      show (nar (nthI [cpL a 24, cpL a 25, cpL a 26, cpL a 27, cpL a 28, cpL a 29]) (nthI [cpL wideL 24, cpL wideL 25, cpL wideL 26, cpL wideL 27, cpL wideL 28, cpL wideL 29])).1 0 = a 24
      rw [w4]
      rfl
    have k25 : narL (cpL a) (cpL a) 25 = a 25 := by
      show (nar (nthI [cpL a 24, cpL a 25, cpL a 26, cpL a 27, cpL a 28, cpL a 29]) (nthI [cpL a 24, cpL a 25, cpL a 26, cpL a 27, cpL a 28, cpL a 29])).1 1 = a 25
      rw [s4]
      rfl
    have m25 : narL (cpL a) (cpL wideL) 25 = a 25 := by
      show (nar (nthI [cpL a 24, cpL a 25, cpL a 26, cpL a 27, cpL a 28, cpL a 29]) (nthI [cpL wideL 24, cpL wideL 25, cpL wideL 26, cpL wideL 27, cpL wideL 28, cpL wideL 29])).1 1 = a 25
      rw [w4]
      rfl
    have k26 : narL (cpL a) (cpL a) 26 = a 26 := by
      show (nar (nthI [cpL a 24, cpL a 25, cpL a 26, cpL a 27, cpL a 28, cpL a 29]) (nthI [cpL a 24, cpL a 25, cpL a 26, cpL a 27, cpL a 28, cpL a 29])).1 2 = a 26
      rw [s4]
      rfl
    have m26 : narL (cpL a) (cpL wideL) 26 = a 26 := by
      show (nar (nthI [cpL a 24, cpL a 25, cpL a 26, cpL a 27, cpL a 28, cpL a 29]) (nthI [cpL wideL 24, cpL wideL 25, cpL wideL 26, cpL wideL 27, cpL wideL 28, cpL wideL 29])).1 2 = a 26
      rw [w4]
      rfl
    have k27 : narL (cpL a) (cpL a) 27 = a 27 := by
      show (nar (nthI [cpL a 24, cpL a 25, cpL a 26, cpL a 27, cpL a 28, cpL a 29]) (nthI [cpL a 24, cpL a 25, cpL a 26, cpL a 27, cpL a 28, cpL a 29])).1 3 = a 27
      rw [s4]
      rfl
    have m27 : narL (cpL a) (cpL wideL) 27 = a 27 := by
      show (nar (nthI [cpL a 24, cpL a 25, cpL a 26, cpL a 27, cpL a 28, cpL a 29]) (nthI [cpL wideL 24, cpL wideL 25, cpL wideL 26, cpL wideL 27, cpL wideL 28, cpL wideL 29])).1 3 = a 27
      rw [w4]
      rfl
    have k28 : narL (cpL a) (cpL a) 28 = a 28 := by
      show (nar (nthI [cpL a 24, cpL a 25, cpL a 26, cpL a 27, cpL a 28, cpL a 29]) (nthI [cpL a 24, cpL a 25, cpL a 26, cpL a 27, cpL a 28, cpL a 29])).1 4 = a 28
      rw [s4]
      rfl
    have m28 : narL (cpL a) (cpL wideL) 28 = a 28 := by
      show (nar (nthI [cpL a 24, cpL a 25, cpL a 26, cpL a 27, cpL a 28, cpL a 29]) (nthI [cpL wideL 24, cpL wideL 25, cpL wideL 26, cpL wideL 27, cpL wideL 28, cpL wideL 29])).1 4 = a 28
      rw [w4]
      rfl
    have k29 : narL (cpL a) (cpL a) 29 = a 29 := by
      show (nar (nthI [cpL a 24, cpL a 25, cpL a 26, cpL a 27, cpL a 28, cpL a 29]) (nthI [cpL a 24, cpL a 25, cpL a 26, cpL a 27, cpL a 28, cpL a 29])).1 5 = a 29
      rw [s4]
      rfl
    have m29 : narL (cpL a) (cpL wideL) 29 = a 29 := by
      show (nar (nthI [cpL a 24, cpL a 25, cpL a 26, cpL a 27, cpL a 28, cpL a 29]) (nthI [cpL wideL 24, cpL wideL 25, cpL wideL 26, cpL wideL 27, cpL wideL 28, cpL wideL 29])).1 5 = a 29
      rw [w4]
      rfl
    have k30 : narL (cpL a) (cpL a) 30 = a 30 := by
      show (nar (nthI [cpL a 30, cpL a 31, cpL a 32, cpL a 33, cpL a 34, cpL a 35]) (nthI [cpL a 30, cpL a 31, cpL a 32, cpL a 33, cpL a 34, cpL a 35])).1 0 = a 30
      rw [s5]
      rfl
    have m30 : narL (cpL a) (cpL wideL) 30 = a 30 := by
      show (nar (nthI [cpL a 30, cpL a 31, cpL a 32, cpL a 33, cpL a 34, cpL a 35]) (nthI [cpL wideL 30, cpL wideL 31, cpL wideL 32, cpL wideL 33, cpL wideL 34, cpL wideL 35])).1 0 = a 30
      rw [w5]
      rfl
    have k31 : narL (cpL a) (cpL a) 31 = a 31 := by
      show (nar (nthI [cpL a 30, cpL a 31, cpL a 32, cpL a 33, cpL a 34, cpL a 35]) (nthI [cpL a 30, cpL a 31, cpL a 32, cpL a 33, cpL a 34, cpL a 35])).1 1 = a 31
      rw [s5]
      rfl
    have m31 : narL (cpL a) (cpL wideL) 31 = a 31 := by
      show (nar (nthI [cpL a 30, cpL a 31, cpL a 32, cpL a 33, cpL a 34, cpL a 35]) (nthI [cpL wideL 30, cpL wideL 31, cpL wideL 32, cpL wideL 33, cpL wideL 34, cpL wideL 35])).1 1 = a 31
      rw [w5]
      rfl
    have k32 : narL (cpL a) (cpL a) 32 = a 32 := by
      show (nar (nthI [cpL a 30, cpL a 31, cpL a 32, cpL a 33, cpL a 34, cpL a 35]) (nthI [cpL a 30, cpL a 31, cpL a 32, cpL a 33, cpL a 34, cpL a 35])).1 2 = a 32
      rw [s5]
      rfl
    have m32 : narL (cpL a) (cpL wideL) 32 = a 32 := by
      show (nar (nthI [cpL a 30, cpL a 31, cpL a 32, cpL a 33, cpL a 34, cpL a 35]) (nthI [cpL wideL 30, cpL wideL 31, cpL wideL 32, cpL wideL 33, cpL wideL 34, cpL wideL 35])).1 2 = a 32
      rw [w5]
      rfl
    have k33 : narL (cpL a) (cpL a) 33 = a 33 := by
      show (nar (nthI [cpL a 30, cpL a 31, cpL a 32, cpL a 33, cpL a 34, cpL a 35]) (nthI [cpL a 30, cpL a 31, cpL a 32, cpL a 33, cpL a 34, cpL a 35])).1 3 = a 33
      rw [s5]
      rfl
    have m33 : narL (cpL a) (cpL wideL) 33 = a 33 := by
      show (nar (nthI [cpL a 30, cpL a 31, cpL a 32, cpL a 33, cpL a 34, cpL a 35]) (nthI [cpL wideL 30, cpL wideL 31, cpL wideL 32, cpL wideL 33, cpL wideL 34, cpL wideL 35])).1 3 = a 33
      rw [w5]
      rfl
    have k34 : narL (cpL a) (cpL a) 34 = a 34 := by
      show (nar (nthI [cpL a 30, cpL a 31, cpL a 32, cpL a 33, cpL a 34, cpL a 35]) (nthI [cpL a 30, cpL a 31, cpL a 32, cpL a 33, cpL a 34, cpL a 35])).1 4 = a 34
      rw [s5]
      rfl
    have m34 : narL (cpL a) (cpL wideL) 34 = a 34 := by
      show (nar (nthI [cpL a 30, cpL a 31, cpL a 32, cpL a 33, cpL a 34, cpL a 35]) (nthI [cpL wideL 30, cpL wideL 31, cpL wideL 32, cpL wideL 33, cpL wideL 34, cpL wideL 35])).1 4 = a 34
      rw [w5]
      rfl
    have k35 : narL (cpL a) (cpL a) 35 = a 35 := by
      show (nar (nthI [cpL a 30, cpL a 31, cpL a 32, cpL a 33, cpL a 34, cpL a 35]) (nthI [cpL a 30, cpL a 31, cpL a 32, cpL a 33, cpL a 34, cpL a 35])).1 5 = a 35
      rw [s5]
      rfl
    have m35 : narL (cpL a) (cpL wideL) 35 = a 35 := by
      show (nar (nthI [cpL a 30, cpL a 31, cpL a 32, cpL a 33, cpL a 34, cpL a 35]) (nthI [cpL wideL 30, cpL wideL 31, cpL wideL 32, cpL wideL 33, cpL wideL 34, cpL wideL 35])).1 5 = a 35
      rw [w5]
      rfl
    have k36 : (!decide (narL (cpL a) (cpL a) 36 = 0)) = !decide (a 36 = 0) := bbs _
    have m36 : (!decide (narL (cpL a) (cpL wideL) 36 = 0)) = !decide (a 36 = 0) := bbw _
    have k37 : (!decide (narL (cpL a) (cpL a) 37 = 0)) = !decide (a 37 = 0) := bbs _
    have m37 : (!decide (narL (cpL a) (cpL wideL) 37 = 0)) = !decide (a 37 = 0) := bbw _
    have k38 : narL (cpL a) (cpL a) 38 = a 38 := minI_self _
    have m38 : narL (cpL a) (cpL wideL) 38 = a 38 := minI_of (x := a 38) (y := 8192) (by omega)
    have k39 : narL (cpL a) (cpL a) 39 = a 39 := minI_self _
    have m39 : narL (cpL a) (cpL wideL) 39 = a 39 := minI_of (x := a 39) (y := 128) (by omega)
    simp only [Option.bind_some, k0, m0, k1, m1, k2, m2, k3, m3, k4, m4, k5, m5, k6, m6, k7, m7, k8, m8, k9, m9, k10, m10, k11, m11, k12, m12, k13, m13, k14, m14, k15, m15, k16, m16, k17, m17, k18, m18, k19, m19, k20, m20, k21, m21, k22, m22, k23, m23, k24, m24, k25, m25, k26, m26, k27, m27, k28, m28, k29, m29, k30, m30, k31, m31, k32, m32, k33, m33, k34, m34, k35, m35, k36, m36, k37, m37, k38, m38, k39, m39, decide_true, Bool.and_self, BEq.rfl, Bool.not_true, cond_false, cond_true, awake_eq]
  · rw [lnarrow_a (a := cpL a) h, wide_eq, lc_out h]
    simp only [Option.bind_some]
    rw [lnarrow_a (a := cpL a) h]
    rfl

end Go.Proofs.Ytbiedpabdkbpfaa
