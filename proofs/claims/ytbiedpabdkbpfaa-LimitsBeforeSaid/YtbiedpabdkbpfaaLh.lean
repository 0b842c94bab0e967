/-
  THE PLAIN LAWS: what the contracts compute answers as the statements say.
-/
import Derived.Test.YtbiedpabdkbpfaaLg
open Go Go.VE Go.Proofs
set_option maxRecDepth 1000000
set_option maxHeartbeats 0
set_option linter.unusedVariables false
set_option linter.unusedSimpArgs false
namespace Go.Proofs.Ytbiedpabdkbpfaa
theorem lfv_u (l : Nat → Int) (P : Nat → Nat → Int) (k : Nat) (d : Int) : lfv l P k d = bif !decide (alw l (am (P k) d)) then 25 else bif decide (0 < k) && fastB l (am (P k) d) (am (P (k - 1)) d) then 26 else 0 := rfl
theorem c25 {x : Bool} : (bif x then (26 : Int) else 0) = 0 ↔ x = false := by cases x <;> simp
set_option maxHeartbeats 4000000 in
theorem rlimbs_eq {a : Nat → Int} (ha : limOk a) {b : Sl × Sl} {k : Nat} (hk : k < b.1.1) (hn : b.1.1 ≤ 1000000) (hv : ∀ j, j < b.1.1 → poseOk (b.1.2 j)) :
    f57 a b (k : Int) = some (bif !decide ((flL a b.1.2 k).1 = 0) then nthI [(flL a b.1.2 k).1, (k : Int), (flL a b.1.2 k).2] else nthI [0, 0, 0]) := by
  obtain ⟨a0, a1, a2, a3, a4, a5, a6, a7⟩ := id ha
  have k1 : (0 : Int) ≤ (k : Int) := by omega
  have k2 : (k : Int) < Int.ofNat b.1.1 := by simp; omega
  obtain ⟨_, _, _, u0, u1, u2, u3, u4, u5⟩ := hv k hk
  have m0 : f36 (a) (nthI [b.1.2 k 4, b.1.2 k 5, b.1.2 k 6]) = some (decide (alw (nthI [a 0, a 1, a 2, a 3, a 4, a 5]) (am (b.1.2 k) 0))) := rmay_eq (l := a) (c := nthI [b.1.2 k 4, b.1.2 k 5, b.1.2 k 6]) a0.2.1 u0.1
  have m1 : f36 (nthI [a 6, a 7, a 8, a 9, a 10, a 11]) (nthI [b.1.2 k 7, b.1.2 k 8, b.1.2 k 9]) = some (decide (alw (nthI [a 6, a 7, a 8, a 9, a 10, a 11]) (am (b.1.2 k) 1))) := rmay_eq (l := nthI [a 6, a 7, a 8, a 9, a 10, a 11]) (c := nthI [b.1.2 k 7, b.1.2 k 8, b.1.2 k 9]) a1.2.1 u1.1
  have m2 : f36 (nthI [a 12, a 13, a 14, a 15, a 16, a 17]) (nthI [b.1.2 k 10, b.1.2 k 11, b.1.2 k 12]) = some (decide (alw (nthI [a 12, a 13, a 14, a 15, a 16, a 17]) (am (b.1.2 k) 2))) := rmay_eq (l := nthI [a 12, a 13, a 14, a 15, a 16, a 17]) (c := nthI [b.1.2 k 10, b.1.2 k 11, b.1.2 k 12]) a2.2.1 u2.1
  have m3 : f36 (nthI [a 18, a 19, a 20, a 21, a 22, a 23]) (nthI [b.1.2 k 13, b.1.2 k 14, b.1.2 k 15]) = some (decide (alw (nthI [a 18, a 19, a 20, a 21, a 22, a 23]) (am (b.1.2 k) 3))) := rmay_eq (l := nthI [a 18, a 19, a 20, a 21, a 22, a 23]) (c := nthI [b.1.2 k 13, b.1.2 k 14, b.1.2 k 15]) a3.2.1 u3.1
  have m4 : f36 (nthI [a 24, a 25, a 26, a 27, a 28, a 29]) (nthI [b.1.2 k 16, b.1.2 k 17, b.1.2 k 18]) = some (decide (alw (nthI [a 24, a 25, a 26, a 27, a 28, a 29]) (am (b.1.2 k) 4))) := rmay_eq (l := nthI [a 24, a 25, a 26, a 27, a 28, a 29]) (c := nthI [b.1.2 k 16, b.1.2 k 17, b.1.2 k 18]) a4.2.1 u4.1
  have m5 : f36 (nthI [a 30, a 31, a 32, a 33, a 34, a 35]) (nthI [b.1.2 k 19, b.1.2 k 20, b.1.2 k 21]) = some (decide (alw (nthI [a 30, a 31, a 32, a 33, a 34, a 35]) (am (b.1.2 k) 5))) := rmay_eq (l := nthI [a 30, a 31, a 32, a 33, a 34, a 35]) (c := nthI [b.1.2 k 19, b.1.2 k 20, b.1.2 k 21]) a5.2.1 u5.1
  by_cases hz : k = 0
  · subst hz
    have k0 : ¬ (0 : Int) < ((0 : Nat) : Int) := by omega
    have h0 : lfv (nthI [a 0, a 1, a 2, a 3, a 4, a 5]) b.1.2 0 0 = bif !decide (alw (nthI [a 0, a 1, a 2, a 3, a 4, a 5]) (am (b.1.2 0) 0)) then 25 else bif false then 26 else 0 := lfv_u _ _ _ _
    have h1 : lfv (nthI [a 6, a 7, a 8, a 9, a 10, a 11]) b.1.2 0 1 = bif !decide (alw (nthI [a 6, a 7, a 8, a 9, a 10, a 11]) (am (b.1.2 0) 1)) then 25 else bif false then 26 else 0 := lfv_u _ _ _ _
    have h2 : lfv (nthI [a 12, a 13, a 14, a 15, a 16, a 17]) b.1.2 0 2 = bif !decide (alw (nthI [a 12, a 13, a 14, a 15, a 16, a 17]) (am (b.1.2 0) 2)) then 25 else bif false then 26 else 0 := lfv_u _ _ _ _
    have h3 : lfv (nthI [a 18, a 19, a 20, a 21, a 22, a 23]) b.1.2 0 3 = bif !decide (alw (nthI [a 18, a 19, a 20, a 21, a 22, a 23]) (am (b.1.2 0) 3)) then 25 else bif false then 26 else 0 := lfv_u _ _ _ _
    have h4 : lfv (nthI [a 24, a 25, a 26, a 27, a 28, a 29]) b.1.2 0 4 = bif !decide (alw (nthI [a 24, a 25, a 26, a 27, a 28, a 29]) (am (b.1.2 0) 4)) then 25 else bif false then 26 else 0 := lfv_u _ _ _ _
    have h5 : lfv (nthI [a 30, a 31, a 32, a 33, a 34, a 35]) b.1.2 0 5 = bif !decide (alw (nthI [a 30, a 31, a 32, a 33, a 34, a 35]) (am (b.1.2 0) 5)) then 25 else bif false then 26 else 0 := lfv_u _ _ _ _
    unfold f57 flL
    simp only [k0, k1, k2, decide_true, decide_false, cond_true, cond_false, Int.toNat_natCast, m0, m1, m2, m3, m4, m5, Option.bind_some]
    cases w0 : decide (alw (nthI [a 0, a 1, a 2, a 3, a 4, a 5]) (am (b.1.2 0) 0)) <;> simp only [w0, Bool.not_true, Bool.not_false, cond_true, cond_false, decide_true] at h0 ⊢
    case false => rw [h0]; rfl
    rw [h0]
    simp only [decide_true, Bool.not_true, cond_false]
    cases w1 : decide (alw (nthI [a 6, a 7, a 8, a 9, a 10, a 11]) (am (b.1.2 0) 1)) <;> simp only [w1, Bool.not_true, Bool.not_false, cond_true, cond_false, decide_true] at h1 ⊢
    case false => rw [h1]; rfl
    rw [h1]
    simp only [decide_true, Bool.not_true, cond_false]
    cases w2 : decide (alw (nthI [a 12, a 13, a 14, a 15, a 16, a 17]) (am (b.1.2 0) 2)) <;> simp only [w2, Bool.not_true, Bool.not_false, cond_true, cond_false, decide_true] at h2 ⊢
    case false => rw [h2]; rfl
    rw [h2]
    simp only [decide_true, Bool.not_true, cond_false]
    cases w3 : decide (alw (nthI [a 18, a 19, a 20, a 21, a 22, a 23]) (am (b.1.2 0) 3)) <;> simp only [w3, Bool.not_true, Bool.not_false, cond_true, cond_false, decide_true] at h3 ⊢
    case false => rw [h3]; rfl
    rw [h3]
    simp only [decide_true, Bool.not_true, cond_false]
    cases w4 : decide (alw (nthI [a 24, a 25, a 26, a 27, a 28, a 29]) (am (b.1.2 0) 4)) <;> simp only [w4, Bool.not_true, Bool.not_false, cond_true, cond_false, decide_true] at h4 ⊢
    case false => rw [h4]; rfl
    rw [h4]
    simp only [decide_true, Bool.not_true, cond_false]
    cases w5 : decide (alw (nthI [a 30, a 31, a 32, a 33, a 34, a 35]) (am (b.1.2 0) 5)) <;> simp only [w5, Bool.not_true, Bool.not_false, cond_true, cond_false, decide_true] at h5 ⊢
    case false => rw [h5]; rfl
    rw [h5]
    rfl
  · obtain ⟨k', rfl⟩ : ∃ k', k = k' + 1 := ⟨k - 1, by omega⟩
    have k0 : (0 : Int) < ((k' + 1 : Nat) : Int) := by omega
    have e1 : IntKind.i64.wrap (((k' + 1 : Nat) : Int) - 1) = (k' : Int) := by rw [w64 (by omega) (by omega)]; omega
    have k3 : (0 : Int) ≤ (k' : Int) := by omega
    have k4 : (k' : Int) < Int.ofNat b.1.1 := by simp; omega
    obtain ⟨_, _, _, v0, v1, v2, v3, v4, v5⟩ := hv k' (by omega)
    have f0 : f61 (a) (nthI [b.1.2 k' 4, b.1.2 k' 5, b.1.2 k' 6]) (nthI [b.1.2 (k' + 1) 4, b.1.2 (k' + 1) 5, b.1.2 (k' + 1) 6]) = some (fastB (nthI [a 0, a 1, a 2, a 3, a 4, a 5]) (am (b.1.2 (k' + 1)) 0) (am (b.1.2 k') 0)) := rfast_eq (l := a) (u := nthI [b.1.2 (k' + 1) 4, b.1.2 (k' + 1) 5, b.1.2 (k' + 1) 6]) (v := nthI [b.1.2 k' 4, b.1.2 k' 5, b.1.2 k' 6]) u0 v0
    have h0 : lfv (nthI [a 0, a 1, a 2, a 3, a 4, a 5]) b.1.2 (k' + 1) 0 = bif !decide (alw (nthI [a 0, a 1, a 2, a 3, a 4, a 5]) (am (b.1.2 (k' + 1)) 0)) then 25 else bif fastB (nthI [a 0, a 1, a 2, a 3, a 4, a 5]) (am (b.1.2 (k' + 1)) 0) (am (b.1.2 k') 0) then 26 else 0 := by rw [lfv_u]; simp
    have f1 : f61 (nthI [a 6, a 7, a 8, a 9, a 10, a 11]) (nthI [b.1.2 k' 7, b.1.2 k' 8, b.1.2 k' 9]) (nthI [b.1.2 (k' + 1) 7, b.1.2 (k' + 1) 8, b.1.2 (k' + 1) 9]) = some (fastB (nthI [a 6, a 7, a 8, a 9, a 10, a 11]) (am (b.1.2 (k' + 1)) 1) (am (b.1.2 k') 1)) := rfast_eq (l := nthI [a 6, a 7, a 8, a 9, a 10, a 11]) (u := nthI [b.1.2 (k' + 1) 7, b.1.2 (k' + 1) 8, b.1.2 (k' + 1) 9]) (v := nthI [b.1.2 k' 7, b.1.2 k' 8, b.1.2 k' 9]) u1 v1
    have h1 : lfv (nthI [a 6, a 7, a 8, a 9, a 10, a 11]) b.1.2 (k' + 1) 1 = bif !decide (alw (nthI [a 6, a 7, a 8, a 9, a 10, a 11]) (am (b.1.2 (k' + 1)) 1)) then 25 else bif fastB (nthI [a 6, a 7, a 8, a 9, a 10, a 11]) (am (b.1.2 (k' + 1)) 1) (am (b.1.2 k') 1) then 26 else 0 := by rw [lfv_u]; simp
    have f2 : f61 (nthI [a 12, a 13, a 14, a 15, a 16, a 17]) (nthI [b.1.2 k' 10, b.1.2 k' 11, b.1.2 k' 12]) (nthI [b.1.2 (k' + 1) 10, b.1.2 (k' + 1) 11, b.1.2 (k' + 1) 12]) = some (fastB (nthI [a 12, a 13, a 14, a 15, a 16, a 17]) (am (b.1.2 (k' + 1)) 2) (am (b.1.2 k') 2)) := rfast_eq (l := nthI [a 12, a 13, a 14, a 15, a 16, a 17]) (u := nthI [b.1.2 (k' + 1) 10, b.1.2 (k' + 1) 11, b.1.2 (k' + 1) 12]) (v := nthI [b.1.2 k' 10, b.1.2 k' 11, b.1.2 k' 12]) u2 v2
    have h2 : lfv (nthI [a 12, a 13, a 14, a 15, a 16, a 17]) b.1.2 (k' + 1) 2 = bif !decide (alw (nthI [a 12, a 13, a 14, a 15, a 16, a 17]) (am (b.1.2 (k' + 1)) 2)) then 25 else bif fastB (nthI [a 12, a 13, a 14, a 15, a 16, a 17]) (am (b.1.2 (k' + 1)) 2) (am (b.1.2 k') 2) then 26 else 0 := by rw [lfv_u]; simp
    have f3 : f61 (nthI [a 18, a 19, a 20, a 21, a 22, a 23]) (nthI [b.1.2 k' 13, b.1.2 k' 14, b.1.2 k' 15]) (nthI [b.1.2 (k' + 1) 13, b.1.2 (k' + 1) 14, b.1.2 (k' + 1) 15]) = some (fastB (nthI [a 18, a 19, a 20, a 21, a 22, a 23]) (am (b.1.2 (k' + 1)) 3) (am (b.1.2 k') 3)) := rfast_eq (l := nthI [a 18, a 19, a 20, a 21, a 22, a 23]) (u := nthI [b.1.2 (k' + 1) 13, b.1.2 (k' + 1) 14, b.1.2 (k' + 1) 15]) (v := nthI [b.1.2 k' 13, b.1.2 k' 14, b.1.2 k' 15]) u3 v3
    have h3 : lfv (nthI [a 18, a 19, a 20, a 21, a 22, a 23]) b.1.2 (k' + 1) 3 = bif !decide (alw (nthI [a 18, a 19, a 20, a 21, a 22, a 23]) (am (b.1.2 (k' + 1)) 3)) then 25 else bif fastB (nthI [a 18, a 19, a 20, a 21, a 22, a 23]) (am (b.1.2 (k' + 1)) 3) (am (b.1.2 k') 3) then 26 else 0 := by rw [lfv_u]; simp
    have f4 : f61 (nthI [a 24, a 25, a 26, a 27, a 28, a 29]) (nthI [b.1.2 k' 16, b.1.2 k' 17, b.1.2 k' 18]) (nthI [b.1.2 (k' + 1) 16, b.1.2 (k' + 1) 17, b.1.2 (k' + 1) 18]) = some (fastB (nthI [a 24, a 25, a 26, a 27, a 28, a 29]) (am (b.1.2 (k' + 1)) 4) (am (b.1.2 k') 4)) := rfast_eq (l := nthI [a 24, a 25, a 26, a 27, a 28, a 29]) (u := nthI [b.1.2 (k' + 1) 16, b.1.2 (k' + 1) 17, b.1.2 (k' + 1) 18]) (v := nthI [b.1.2 k' 16, b.1.2 k' 17, b.1.2 k' 18]) u4 v4
    have h4 : lfv (nthI [a 24, a 25, a 26, a 27, a 28, a 29]) b.1.2 (k' + 1) 4 = bif !decide (alw (nthI [a 24, a 25, a 26, a 27, a 28, a 29]) (am (b.1.2 (k' + 1)) 4)) then 25 else bif fastB (nthI [a 24, a 25, a 26, a 27, a 28, a 29]) (am (b.1.2 (k' + 1)) 4) (am (b.1.2 k') 4) then 26 else 0 := by rw [lfv_u]; simp
    have f5 : f61 (nthI [a 30, a 31, a 32, a 33, a 34, a 35]) (nthI [b.1.2 k' 19, b.1.2 k' 20, b.1.2 k' 21]) (nthI [b.1.2 (k' + 1) 19, b.1.2 (k' + 1) 20, b.1.2 (k' + 1) 21]) = some (fastB (nthI [a 30, a 31, a 32, a 33, a 34, a 35]) (am (b.1.2 (k' + 1)) 5) (am (b.1.2 k') 5)) := rfast_eq (l := nthI [a 30, a 31, a 32, a 33, a 34, a 35]) (u := nthI [b.1.2 (k' + 1) 19, b.1.2 (k' + 1) 20, b.1.2 (k' + 1) 21]) (v := nthI [b.1.2 k' 19, b.1.2 k' 20, b.1.2 k' 21]) u5 v5
    have h5 : lfv (nthI [a 30, a 31, a 32, a 33, a 34, a 35]) b.1.2 (k' + 1) 5 = bif !decide (alw (nthI [a 30, a 31, a 32, a 33, a 34, a 35]) (am (b.1.2 (k' + 1)) 5)) then 25 else bif fastB (nthI [a 30, a 31, a 32, a 33, a 34, a 35]) (am (b.1.2 (k' + 1)) 5) (am (b.1.2 k') 5) then 26 else 0 := by rw [lfv_u]; simp
    unfold f57 flL
    simp only [k0, k1, k2, k3, k4, e1, decide_true, decide_false, cond_true, cond_false, Int.toNat_natCast, m0, m1, m2, m3, m4, m5, f0, f1, f2, f3, f4, f5, Option.bind_some]
    cases w0 : decide (alw (nthI [a 0, a 1, a 2, a 3, a 4, a 5]) (am (b.1.2 (k' + 1)) 0)) <;> simp only [w0, Bool.not_true, Bool.not_false, cond_true, cond_false] at h0 ⊢
    case false => rw [h0]; rfl
    cases x0 : fastB (nthI [a 0, a 1, a 2, a 3, a 4, a 5]) (am (b.1.2 (k' + 1)) 0) (am (b.1.2 k') 0) <;> simp only [x0, cond_true, cond_false] at h0 ⊢
    case true => rw [h0]; rfl
    rw [h0]
    simp only [decide_true, Bool.not_true, cond_false]
    cases w1 : decide (alw (nthI [a 6, a 7, a 8, a 9, a 10, a 11]) (am (b.1.2 (k' + 1)) 1)) <;> simp only [w1, Bool.not_true, Bool.not_false, cond_true, cond_false] at h1 ⊢
    case false => rw [h1]; rfl
    cases x1 : fastB (nthI [a 6, a 7, a 8, a 9, a 10, a 11]) (am (b.1.2 (k' + 1)) 1) (am (b.1.2 k') 1) <;> simp only [x1, cond_true, cond_false] at h1 ⊢
    case true => rw [h1]; rfl
    rw [h1]
    simp only [decide_true, Bool.not_true, cond_false]
    cases w2 : decide (alw (nthI [a 12, a 13, a 14, a 15, a 16, a 17]) (am (b.1.2 (k' + 1)) 2)) <;> simp only [w2, Bool.not_true, Bool.not_false, cond_true, cond_false] at h2 ⊢
    case false => rw [h2]; rfl
    cases x2 : fastB (nthI [a 12, a 13, a 14, a 15, a 16, a 17]) (am (b.1.2 (k' + 1)) 2) (am (b.1.2 k') 2) <;> simp only [x2, cond_true, cond_false] at h2 ⊢
    case true => rw [h2]; rfl
    rw [h2]
    simp only [decide_true, Bool.not_true, cond_false]
    cases w3 : decide (alw (nthI [a 18, a 19, a 20, a 21, a 22, a 23]) (am (b.1.2 (k' + 1)) 3)) <;> simp only [w3, Bool.not_true, Bool.not_false, cond_true, cond_false] at h3 ⊢
    case false => rw [h3]; rfl
    cases x3 : fastB (nthI [a 18, a 19, a 20, a 21, a 22, a 23]) (am (b.1.2 (k' + 1)) 3) (am (b.1.2 k') 3) <;> simp only [x3, cond_true, cond_false] at h3 ⊢
    case true => rw [h3]; rfl
    rw [h3]
    simp only [decide_true, Bool.not_true, cond_false]
    cases w4 : decide (alw (nthI [a 24, a 25, a 26, a 27, a 28, a 29]) (am (b.1.2 (k' + 1)) 4)) <;> simp only [w4, Bool.not_true, Bool.not_false, cond_true, cond_false] at h4 ⊢
    case false => rw [h4]; rfl
    cases x4 : fastB (nthI [a 24, a 25, a 26, a 27, a 28, a 29]) (am (b.1.2 (k' + 1)) 4) (am (b.1.2 k') 4) <;> simp only [x4, cond_true, cond_false] at h4 ⊢
    case true => rw [h4]; rfl
    rw [h4]
    simp only [decide_true, Bool.not_true, cond_false]
    cases w5 : decide (alw (nthI [a 30, a 31, a 32, a 33, a 34, a 35]) (am (b.1.2 (k' + 1)) 5)) <;> simp only [w5, Bool.not_true, Bool.not_false, cond_true, cond_false] at h5 ⊢
    case false => rw [h5]; rfl
    cases x5 : fastB (nthI [a 30, a 31, a 32, a 33, a 34, a 35]) (am (b.1.2 (k' + 1)) 5) (am (b.1.2 k') 5) <;> simp only [x5, cond_true, cond_false] at h5 ⊢
    case true => rw [h5]; rfl
    rw [h5]
    simp only [decide_true, Bool.not_true, cond_false]

end Go.Proofs.Ytbiedpabdkbpfaa
