/-
  THE PLAIN LAWS: what the contracts compute answers as the statements say.
-/
import Derived.Test.YtbiedpabdkbpfaaLh
open Go Go.VE Go.Proofs
set_option maxRecDepth 1000000
set_option maxHeartbeats 0
set_option linter.unusedVariables false
set_option linter.unusedSimpArgs false
namespace Go.Proofs.Ytbiedpabdkbpfaa
theorem flt_nz {a : Nat → Int} {q r : Int} {P S : Nat → Nat → Int} {k : Nat} : flt a q r P S k = flt a q r P S k := rfl
noncomputable def at1 (x : Int × Int) (k : Int) : Nat → Int := bif !decide (x.1 = 0) then nthI [x.1, k, x.2] else nthI [0, 0, 0]
set_option maxHeartbeats 4000000 in
theorem rat_eq {a : Nat → Int} (ha : limOk a) {b : Sl × Sl} {k : Nat} (hk : k < b.1.1) (hkS : k ≤ b.2.1) (hn : b.1.1 ≤ 1000000) (hn2 : b.2.1 ≤ 1000000) (hv : ∀ j, j < b.1.1 → poseOk (b.1.2 j)) :
    f44 a b (k : Int) = some (at1 (flt a (a 36) (a 37) b.1.2 b.2.2 k) (k : Int)) := by
  have k1 : (0 : Int) ≤ (k : Int) := by omega
  have k2 : (k : Int) < Int.ofNat b.1.1 := by simp; omega
  have e0 : f57 (nthI [a 0, a 1, a 2, a 3, a 4, a 5, a 6, a 7, a 8, a 9, a 10, a 11, a 12, a 13, a 14, a 15, a 16, a 17, a 18, a 19, a 20, a 21, a 22, a 23, a 24, a 25, a 26, a 27, a 28, a 29, a 30, a 31, a 32, a 33, a 34, a 35, bif !decide (a 36 = 0) then 1 else 0, bif !decide (a 37 = 0) then 1 else 0, a 38, a 39]) b (k : Int) = _ := rlimbs_eq (a := nthI [a 0, a 1, a 2, a 3, a 4, a 5, a 6, a 7, a 8, a 9, a 10, a 11, a 12, a 13, a 14, a 15, a 16, a 17, a 18, a 19, a 20, a 21, a 22, a 23, a 24, a 25, a 26, a 27, a 28, a 29, a 30, a 31, a 32, a 33, a 34, a 35, bif !decide (a 36 = 0) then 1 else 0, bif !decide (a 37 = 0) then 1 else 0, a 38, a 39]) ha hk hn hv
  have e1 : f59 (nthI [a 0, a 1, a 2, a 3, a 4, a 5, a 6, a 7, a 8, a 9, a 10, a 11, a 12, a 13, a 14, a 15, a 16, a 17, a 18, a 19, a 20, a 21, a 22, a 23, a 24, a 25, a 26, a 27, a 28, a 29, a 30, a 31, a 32, a 33, a 34, a 35, bif !decide (a 36 = 0) then 1 else 0, bif !decide (a 37 = 0) then 1 else 0, a 38, a 39]) b (k : Int) = some (decide (a 38 < run b.2.2 k)) := rair_eq (a := nthI [a 0, a 1, a 2, a 3, a 4, a 5, a 6, a 7, a 8, a 9, a 10, a 11, a 12, a 13, a 14, a 15, a 16, a 17, a 18, a 19, a 20, a 21, a 22, a 23, a 24, a 25, a 26, a 27, a 28, a 29, a 30, a 31, a 32, a 33, a 34, a 35, bif !decide (a 36 = 0) then 1 else 0, bif !decide (a 37 = 0) then 1 else 0, a 38, a 39]) (P := b.1) (S := b.2) ha.2.2.2.2.2.2.1 hkS hn2
  rw [show flL (nthI [a 0, a 1, a 2, a 3, a 4, a 5, a 6, a 7, a 8, a 9, a 10, a 11, a 12, a 13, a 14, a 15, a 16, a 17, a 18, a 19, a 20, a 21, a 22, a 23, a 24, a 25, a 26, a 27, a 28, a 29, a 30, a 31, a 32, a 33, a 34, a 35, bif !decide (a 36 = 0) then 1 else 0, bif !decide (a 37 = 0) then 1 else 0, a 38, a 39]) b.1.2 k = flL a b.1.2 k from rfl] at e0
  unfold f44
  rw [e0, e1]
  unfold flt at1
  have hb : (Option.bind (cond (decide (b.1.2 k 3 < 0)) (cond (!!decide (a 36 = 0)) (some true) (cond (decide (0 < b.1.2 k 3)) (some (!!decide (a 37 = 0))) (some false))) (cond (decide (0 < b.1.2 k 3)) (some (!!decide (a 37 = 0))) (some false))) fun r4 =>
      cond r4 (some (nthI [25, (k : Int), 6])) (Option.bind (cond (decide (0 < (k : Int))) (cond (decide (0 ≤ IntKind.i64.wrap ((k : Int) - 1))) (cond (decide (IntKind.i64.wrap ((k : Int) - 1) < Int.ofNat b.1.1)) (Option.bind (f58 (b.1.2 (IntKind.i64.wrap ((k : Int) - 1)).toNat 2) (b.1.2 k 2)) fun r5 => some (decide (a 39 < r5))) none) none) (some false)) fun r5 =>
        cond r5 (some (nthI [26, (k : Int), 6])) (Option.bind (some (decide (a 38 < run b.2.2 k))) fun r6 => cond r6 (some (nthI [28, (k : Int), 6])) (some (nthI [0, 0, 0]))))) =
      some (bif !decide (bfv (a 39) (a 36) (a 37) b.1.2 k = 0) then nthI [bfv (a 39) (a 36) (a 37) b.1.2 k, (k : Int), 6] else bif decide (a 38 < run b.2.2 k) then nthI [28, (k : Int), 6] else nthI [0, 0, 0]) := by
    have h2 : (cond (decide (0 < (k : Int))) (cond (decide (0 ≤ IntKind.i64.wrap ((k : Int) - 1))) (cond (decide (IntKind.i64.wrap ((k : Int) - 1) < Int.ofNat b.1.1)) (Option.bind (f58 (b.1.2 (IntKind.i64.wrap ((k : Int) - 1)).toNat 2) (b.1.2 k 2)) fun r5 => some (decide (a 39 < r5))) none) none) (some false)) =
        some (decide (0 < k) && decide (a 39 < chgv (b.1.2 (k - 1) 2) (b.1.2 k 2))) := by
      by_cases hz : k = 0
      · subst hz
        rfl
      have e1 : IntKind.i64.wrap ((k : Int) - 1) = ((k - 1 : Nat) : Int) := by rw [w64 (by omega) (by omega)]; omega
      have k3 : (0 : Int) < (k : Int) := by omega
      have k4 : (0 : Int) ≤ ((k - 1 : Nat) : Int) := by omega
      have k5 : ((k - 1 : Nat) : Int) < Int.ofNat b.1.1 := by simp; omega
      have k6 : 0 < k := by omega
      rw [e1]
      simp only [k3, k4, k5, k6, decide_true, cond_true, Int.toNat_natCast, Bool.true_and]
      rw [rchange_eq (hv (k - 1) (by omega)).2.1 (hv k hk).2.1]
      rfl
    rw [h2]
    unfold bfv
    cases decide (0 < k) && decide (a 39 < chgv (b.1.2 (k - 1) 2) (b.1.2 k 2)) <;> cases decide (a 38 < run b.2.2 k) <;> cases decide (b.1.2 k 3 < 0) <;> cases decide (0 < b.1.2 k 3) <;> cases decide (a 36 = 0) <;> cases decide (a 37 = 0) <;> rfl
  by_cases hL : (flL a b.1.2 k).1 = 0
  case neg =>
    rw [show (bif !decide ((flL a b.1.2 k).1 = 0) then nthI [(flL a b.1.2 k).1, (k : Int), (flL a b.1.2 k).2] else nthI [0, 0, 0]) = nthI [(flL a b.1.2 k).1, (k : Int), (flL a b.1.2 k).2] from by simp [hL], show (bif !decide ((flL a b.1.2 k).1 = 0) then flL a b.1.2 k else (bif !decide (bfv (a 39) (a 36) (a 37) b.1.2 k = 0) then (bfv (a 39) (a 36) (a 37) b.1.2 k, 6) else bif decide (a 38 < run b.2.2 k) then (28, 6) else (0, 0))) = flL a b.1.2 k from by simp [hL]]
    show cond (!decide ((flL a b.1.2 k).1 = 0)) (some (nthI [(flL a b.1.2 k).1, (k : Int), (flL a b.1.2 k).2])) _ = _
    simp only [hL, decide_false, Bool.not_false, cond_true]
  rw [show (bif !decide ((flL a b.1.2 k).1 = 0) then nthI [(flL a b.1.2 k).1, (k : Int), (flL a b.1.2 k).2] else nthI [0, 0, 0]) = nthI [0, 0, 0] from by simp [hL], show (bif !decide ((flL a b.1.2 k).1 = 0) then flL a b.1.2 k else (bif !decide (bfv (a 39) (a 36) (a 37) b.1.2 k = 0) then (bfv (a 39) (a 36) (a 37) b.1.2 k, 6) else bif decide (a 38 < run b.2.2 k) then (28, 6) else (0, 0))) = (bif !decide (bfv (a 39) (a 36) (a 37) b.1.2 k = 0) then (bfv (a 39) (a 36) (a 37) b.1.2 k, 6) else bif decide (a 38 < run b.2.2 k) then (28, 6) else (0, 0)) from by simp [hL]]
  show cond (decide (0 ≤ (k : Int))) (cond (decide ((k : Int) < Int.ofNat b.1.1)) (Option.bind (cond (decide (b.1.2 k 3 < 0)) (cond (!!decide (a 36 = 0)) (some true) (cond (decide (0 < b.1.2 k 3)) (some (!!decide (a 37 = 0))) (some false))) (cond (decide (0 < b.1.2 k 3)) (some (!!decide (a 37 = 0))) (some false))) fun r4 =>
      cond r4 (some (nthI [25, (k : Int), 6])) (Option.bind (cond (decide (0 < (k : Int))) (cond (decide (0 ≤ IntKind.i64.wrap ((k : Int) - 1))) (cond (decide (IntKind.i64.wrap ((k : Int) - 1) < Int.ofNat b.1.1)) (Option.bind (f58 (b.1.2 (IntKind.i64.wrap ((k : Int) - 1)).toNat 2) (b.1.2 k 2)) fun r5 => some (decide (a 39 < r5))) none) none) (some false)) fun r5 =>
        cond r5 (some (nthI [26, (k : Int), 6])) (Option.bind (some (decide (a 38 < run b.2.2 k))) fun r6 => cond r6 (some (nthI [28, (k : Int), 6])) (some (nthI [0, 0, 0]))))) none) none = _
  rw [hb]
  simp only [k1, k2, decide_true, cond_true]
  by_cases hB : bfv (a 39) (a 36) (a 37) b.1.2 k = 0
  · cases hr : decide (a 38 < run b.2.2 k) <;> simp [hB]
  · simp [hB]
theorem m2 {a : Nat → Int} (ha : limOk a) {q r z0 z1 z2 : Int} (hq : (bif !decide (q = 0) then (1 : Int) else 0) = q) (hr : (bif !decide (r = 0) then (1 : Int) else 0) = r) {P S : Sl} (hn : P.1 = S.1 + 1) (hn2 : P.1 ≤ 1000000) (hv : ∀ j, j < P.1 → poseOk (P.2 j)) :
    ∀ (d m k : Nat), k + d = P.1 → d < m → iterL s25_1 m (nthI [(k : Int), a 0, a 1, a 2, a 3, a 4, a 5, a 6, a 7, a 8, a 9, a 10, a 11, a 12, a 13, a 14, a 15, a 16, a 17, a 18, a 19, a 20, a 21, a 22, a 23, a 24, a 25, a 26, a 27, a 28, a 29, a 30, a 31, a 32, a 33, a 34, a 35, q, r, a 38, a 39, z0, z1, z2]) (nthS [P, S]) = some (res1 (fst1 a q r P.2 S.2 d k) z0 z1 z2)
  | d, 0, k, _, h => by omega
  | 0, m + 1, k, h1, _ => by
    have hk : ¬ (k : Int) < Int.ofNat P.1 := by simp; omega
    show ( cond (decide (((k : Int)) < Int.ofNat (P).fst)) (
  Option.bind (f44 (nthI [(a 0), (a 1), (a 2), (a 3), (a 4), (a 5), (a 6), (a 7), (a 8), (a 9), (a 10), (a 11), (a 12), (a 13), (a 14), (a 15), (a 16), (a 17), (a 18), (a 19), (a 20), (a 21), (a 22), (a 23), (a 24), (a 25), (a 26), (a 27), (a 28), (a 29), (a 30), (a 31), (a 32), (a 33), (a 34), (a 35), bif !decide (q = 0) then 1 else 0, bif !decide (r = 0) then 1 else 0, (a 38), (a 39)]) (P, S) (((k : Int)))) (fun r3 =>
   cond (!decide (r3 0 = 0)) (
    some ((1, nthI [0, r3 0, r3 1, r3 2], nthS []))) (
    iterL s25_1 m (nthI [IntKind.i64.wrap (((k : Int)) + 1), (a 0), (a 1), (a 2), (a 3), (a 4), (a 5), (a 6), (a 7), (a 8), (a 9), (a 10), (a 11), (a 12), (a 13), (a 14), (a 15), (a 16), (a 17), (a 18), (a 19), (a 20), (a 21), (a 22), (a 23), (a 24), (a 25), (a 26), (a 27), (a 28), (a 29), (a 30), (a 31), (a 32), (a 33), (a 34), (a 35), bif !decide (q = 0) then 1 else 0, bif !decide (r = 0) then 1 else 0, (a 38), (a 39), z0, z1, z2]) (nthS [P, S])))) (
  some ((0, nthI [z0, z1, z2], nthS [])))) = _
    simp only [hk, decide_false, cond_false, fst1]
    rfl
  | d + 1, m + 1, k, h1, h2 => by
    have hk' : (k : Int) < Int.ofNat P.1 := by simp; omega
    have ih := m2 ha hq hr (z0 := z0) (z1 := z1) (z2 := z2) hn hn2 hv d m (k + 1) (by omega) (by omega)
    have ew : IntKind.i64.wrap ((k : Int) + 1) = ((k + 1 : Nat) : Int) := by rw [w64 (by omega) (by omega)]; omega
    have e0 : f44 (nthI [a 0, a 1, a 2, a 3, a 4, a 5, a 6, a 7, a 8, a 9, a 10, a 11, a 12, a 13, a 14, a 15, a 16, a 17, a 18, a 19, a 20, a 21, a 22, a 23, a 24, a 25, a 26, a 27, a 28, a 29, a 30, a 31, a 32, a 33, a 34, a 35, q, r, a 38, a 39]) (P, S) (k : Int) = some (at1 (flt a q r P.2 S.2 k) (k : Int)) := rat_eq (a := nthI [a 0, a 1, a 2, a 3, a 4, a 5, a 6, a 7, a 8, a 9, a 10, a 11, a 12, a 13, a 14, a 15, a 16, a 17, a 18, a 19, a 20, a 21, a 22, a 23, a 24, a 25, a 26, a 27, a 28, a 29, a 30, a 31, a 32, a 33, a 34, a 35, q, r, a 38, a 39]) (b := (P, S)) ha (by show k < P.1; omega) (by show k ≤ S.1; omega) hn2 (by show S.1 ≤ 1000000; omega) hv
    show ( cond (decide (((k : Int)) < Int.ofNat (P).fst)) (
  Option.bind (f44 (nthI [(a 0), (a 1), (a 2), (a 3), (a 4), (a 5), (a 6), (a 7), (a 8), (a 9), (a 10), (a 11), (a 12), (a 13), (a 14), (a 15), (a 16), (a 17), (a 18), (a 19), (a 20), (a 21), (a 22), (a 23), (a 24), (a 25), (a 26), (a 27), (a 28), (a 29), (a 30), (a 31), (a 32), (a 33), (a 34), (a 35), bif !decide (q = 0) then 1 else 0, bif !decide (r = 0) then 1 else 0, (a 38), (a 39)]) (P, S) (((k : Int)))) (fun r3 =>
   cond (!decide (r3 0 = 0)) (
    some ((1, nthI [0, r3 0, r3 1, r3 2], nthS []))) (
    iterL s25_1 m (nthI [IntKind.i64.wrap (((k : Int)) + 1), (a 0), (a 1), (a 2), (a 3), (a 4), (a 5), (a 6), (a 7), (a 8), (a 9), (a 10), (a 11), (a 12), (a 13), (a 14), (a 15), (a 16), (a 17), (a 18), (a 19), (a 20), (a 21), (a 22), (a 23), (a 24), (a 25), (a 26), (a 27), (a 28), (a 29), (a 30), (a 31), (a 32), (a 33), (a 34), (a 35), bif !decide (q = 0) then 1 else 0, bif !decide (r = 0) then 1 else 0, (a 38), (a 39), z0, z1, z2]) (nthS [P, S])))) (
  some ((0, nthI [z0, z1, z2], nthS [])))) = _
    simp only [hk', decide_true, cond_true, hq, hr, ew, e0, Option.bind_some, fst1]
    unfold at1
    by_cases h0 : (flt a q r P.2 S.2 k).1 = 0
    · simp only [h0, decide_true, Bool.not_true, cond_false, nthI]
      exact ih
    · simp only [h0, decide_false, Bool.not_false, cond_true, nthI, res1]

/-! ### First -/
noncomputable def first (a : Nat → Int) (b : Sl × Sl) : (Nat → Int) × Int :=
  bif !decide (limOk a) then (nthI [0, 0, 0], 1) else bif decide (b.2.1 < 1) || !decide (b.1.1 = b.2.1 + 1) then (nthI [0, 0, 0], 2) else bif !decide (vF b.1.2 b.1.1 0 = 0) then (nthI [0, 0, 0], vF b.1.2 b.1.1 0)
  else (nthI [(fst1 a (a 36) (a 37) b.1.2 b.2.2 b.1.1 0).1, (fst1 a (a 36) (a 37) b.1.2 b.2.2 b.1.1 0).2.1, (fst1 a (a 36) (a 37) b.1.2 b.2.2 b.1.1 0).2.2], 0)
theorem fst1_z {a : Nat → Int} {q r : Int} {P S : Nat → Nat → Int} : ∀ (d k : Nat), (fst1 a q r P S d k).1 = 0 → fst1 a q r P S d k = (0, 0, 0)
  | 0, k, _ => rfl
  | d + 1, k, h => by
    simp only [fst1] at h ⊢
    by_cases h0 : (flt a q r P S k).1 = 0
    · simp only [h0, decide_true, Bool.not_true, cond_false] at h ⊢
      exact fst1_z d (k + 1) h
    · simp only [h0, decide_false, Bool.not_false, cond_true] at h
theorem fst1_cong {a : Nat → Int} {q r q' r' : Int} {P S : Nat → Nat → Int} (hq : decide (q = 0) = decide (q' = 0)) (hr : decide (r = 0) = decide (r' = 0)) : ∀ (d k : Nat), fst1 a q r P S d k = fst1 a q' r' P S d k
  | 0, k => rfl
  | d + 1, k => by
    have : flt a q r P S k = flt a q' r' P S k := by
      unfold flt bfv
      rw [hq, hr]
    simp only [fst1, this, fst1_cong hq hr d (k + 1)]
theorem bq (x : Int) : (bif !decide ((bif !decide (x = 0) then (1 : Int) else 0) = 0) then (1 : Int) else 0) = bif !decide (x = 0) then 1 else 0 := bx x
theorem bq' (x : Int) : decide ((bif !decide (x = 0) then (1 : Int) else 0) = 0) = decide (x = 0) := by by_cases h : x = 0 <;> simp [h]
theorem len_eq {b : Sl × Sl} (h2 : b.2.1 ≤ 100000) : (cond (decide (Int.ofNat b.2.1 < 1)) (some true) (some (!decide (Int.ofNat b.1.1 = IntKind.i64.wrap (Int.ofNat b.2.1 + 1))))) = some (decide (b.2.1 < 1) || !decide (b.1.1 = b.2.1 + 1)) := by
  have e1 : decide (Int.ofNat b.2.1 < 1) = decide (b.2.1 < 1) := by
    apply decide_eq_decide.2
    simp
    omega
  have e2 : decide (Int.ofNat b.1.1 = IntKind.i64.wrap (Int.ofNat b.2.1 + 1)) = decide (b.1.1 = b.2.1 + 1) := by
    apply decide_eq_decide.2
    rw [w64 (by simp; omega) (by simp; omega)]
    simp
    omega
  rw [e1, e2]
  cases decide (b.2.1 < 1) <;> rfl
set_option maxHeartbeats 4000000 in
theorem lfirst_eq {a : Nat → Int} {b : Sl × Sl} (h1 : b.1.1 ≤ 100000) (h2 : b.2.1 ≤ 100000) : f24 a b = some (first a b) := by
  unfold f24 first
  by_cases ha : limOk a
  case neg =>
    rw [lc_out ha]
    simp [ha]
  rw [lc_in ha, len_eq h2, show decide (limOk a) = true from decide_eq_true ha]
  simp only [Option.bind_some, decide_true, Bool.not_true, cond_false]
  cases hl : (decide (b.2.1 < 1) || !decide (b.1.1 = b.2.1 + 1))
  case true => rfl
  have hl' : ¬ b.2.1 < 1 ∧ b.1.1 = b.2.1 + 1 := by simpa using hl
  simp only [cond_false]
  have e1 : l24_0 (nthI [Int.ofNat b.1.1, 0, a 0, a 1, a 2, a 3, a 4, a 5, a 6, a 7, a 8, a 9, a 10, a 11, a 12, a 13, a 14, a 15, a 16, a 17, a 18, a 19, a 20, a 21, a 22, a 23, a 24, a 25, a 26, a 27, a 28, a 29, a 30, a 31, a 32, a 33, a 34, a 35, bif !decide (a 36 = 0) then 1 else 0, bif !decide (a 37 = 0) then 1 else 0, a 38, a 39, 0, 0, 0]) (nthS [b.1, b.1, b.2]) = _ := v0 (a := a) (q := bif !decide (a 36 = 0) then 1 else 0) (r := bif !decide (a 37 = 0) then 1 else 0) (z0 := 0) (z1 := 0) (z2 := 0) (bq _) (bq _) (P := b.1) (S := b.2) (by omega) b.1.1 (b.1.1 + 1) 0 (by omega) (by omega)
  rw [e1]
  by_cases hv : vF b.1.2 b.1.1 0 = 0
  case neg => simp only [hv, decide_false, Bool.not_false, cond_true, Option.bind_some, nthI]; rfl
  have hv' := vF_zero _ _ hv
  have e2 : l24_1 (nthI [0, Int.ofNat b.1.1, 0, a 0, a 1, a 2, a 3, a 4, a 5, a 6, a 7, a 8, a 9, a 10, a 11, a 12, a 13, a 14, a 15, a 16, a 17, a 18, a 19, a 20, a 21, a 22, a 23, a 24, a 25, a 26, a 27, a 28, a 29, a 30, a 31, a 32, a 33, a 34, a 35, bif !decide (a 36 = 0) then 1 else 0, bif !decide (a 37 = 0) then 1 else 0, a 38, a 39, 0, 0, 0]) (nthS [b.1, b.2]) = _ := m1 (a := a) ha (q := bif !decide (a 36 = 0) then 1 else 0) (r := bif !decide (a 37 = 0) then 1 else 0) (z0 := 0) (z1 := 0) (z2 := 0) (bq _) (bq _) (P := b.1) (S := b.2) hl'.2 (by omega) (fun j hj => hv' j (by omega) (by omega)) b.1.1 (b.1.1 + 1) 0 (by omega) (by omega)
  rw [show decide (vF b.1.2 b.1.1 0 = 0) = true from decide_eq_true hv]
  suffices hh : Option.bind (l24_1 (nthI [0, Int.ofNat b.1.1, 0, a 0, a 1, a 2, a 3, a 4, a 5, a 6, a 7, a 8, a 9, a 10, a 11, a 12, a 13, a 14, a 15, a 16, a 17, a 18, a 19, a 20, a 21, a 22, a 23, a 24, a 25, a 26, a 27, a 28, a 29, a 30, a 31, a 32, a 33, a 34, a 35, bif !decide ((bif !decide (a 36 = 0) then (1 : Int) else 0) = 0) then 1 else 0, bif !decide ((bif !decide (a 37 = 0) then (1 : Int) else 0) = 0) then 1 else 0, a 38, a 39, 0, 0, 0]) (nthS [b.1, b.2])) (fun r5 => cond (decide (r5.1 = 0)) (some (nthI [0, 0, 0], 0)) (some (nthI [r5.2.1 1, r5.2.1 2, r5.2.1 3], r5.2.1 0))) = some (nthI [(fst1 a (a 36) (a 37) b.1.2 b.2.2 b.1.1 0).1, (fst1 a (a 36) (a 37) b.1.2 b.2.2 b.1.1 0).2.1, (fst1 a (a 36) (a 37) b.1.2 b.2.2 b.1.1 0).2.2], 0) from hh
  rw [bq, bq, e2]
  rw [fst1_cong (q' := a 36) (r' := a 37) (bq' _) (bq' _)]
  unfold res1
  by_cases h0 : (fst1 a (a 36) (a 37) b.1.2 b.2.2 b.1.1 0).1 = 0
  · rw [fst1_z _ _ h0]
    rfl
  · simp only [h0, decide_false, Bool.not_false, cond_true, Option.bind_some, nthI]
    rfl
set_option maxHeartbeats 4000000 in
theorem rfirst_eq {a : Nat → Int} {b : Sl × Sl} (h1 : b.1.1 ≤ 100000) (h2 : b.2.1 ≤ 100000) : f25 a b = some (first a b) := by
  unfold f25 first
  by_cases ha : limOk a
  case neg =>
    rw [rlc_eq, lc_out ha]
    simp [ha]
  rw [rlc_eq, lc_in ha, len_eq h2, show decide (limOk a) = true from decide_eq_true ha]
  simp only [Option.bind_some, decide_true, Bool.not_true, cond_false]
  cases hl : (decide (b.2.1 < 1) || !decide (b.1.1 = b.2.1 + 1))
  case true => rfl
  have hl' : ¬ b.2.1 < 1 ∧ b.1.1 = b.2.1 + 1 := by simpa using hl
  simp only [cond_false]
  have e1 : l25_0 (nthI [0, a 0, a 1, a 2, a 3, a 4, a 5, a 6, a 7, a 8, a 9, a 10, a 11, a 12, a 13, a 14, a 15, a 16, a 17, a 18, a 19, a 20, a 21, a 22, a 23, a 24, a 25, a 26, a 27, a 28, a 29, a 30, a 31, a 32, a 33, a 34, a 35, bif !decide (a 36 = 0) then 1 else 0, bif !decide (a 37 = 0) then 1 else 0, a 38, a 39, 0, 0, 0]) (nthS [b.1, b.2]) = _ := rv0 (a := a) (q := bif !decide (a 36 = 0) then 1 else 0) (r := bif !decide (a 37 = 0) then 1 else 0) (z0 := 0) (z1 := 0) (z2 := 0) (bq _) (bq _) (P := b.1) (S := b.2) (by omega) b.1.1 (b.1.1 + 1) 0 (by omega) (by omega)
  rw [e1]
  by_cases hv : vF b.1.2 b.1.1 0 = 0
  case neg => simp only [hv, decide_false, Bool.not_false, cond_true, Option.bind_some, nthI]; rfl
  have hv' := vF_zero _ _ hv
  have e2 : l25_1 (nthI [0, a 0, a 1, a 2, a 3, a 4, a 5, a 6, a 7, a 8, a 9, a 10, a 11, a 12, a 13, a 14, a 15, a 16, a 17, a 18, a 19, a 20, a 21, a 22, a 23, a 24, a 25, a 26, a 27, a 28, a 29, a 30, a 31, a 32, a 33, a 34, a 35, bif !decide (a 36 = 0) then 1 else 0, bif !decide (a 37 = 0) then 1 else 0, a 38, a 39, 0, 0, 0]) (nthS [b.1, b.2]) = _ := m2 (a := a) ha (q := bif !decide (a 36 = 0) then 1 else 0) (r := bif !decide (a 37 = 0) then 1 else 0) (z0 := 0) (z1 := 0) (z2 := 0) (bq _) (bq _) (P := b.1) (S := b.2) hl'.2 (by omega) (fun j hj => hv' j (by omega) (by omega)) b.1.1 (b.1.1 + 1) 0 (by omega) (by omega)
  rw [show decide (vF b.1.2 b.1.1 0 = 0) = true from decide_eq_true hv]
  suffices hh : Option.bind (l25_1 (nthI [0, a 0, a 1, a 2, a 3, a 4, a 5, a 6, a 7, a 8, a 9, a 10, a 11, a 12, a 13, a 14, a 15, a 16, a 17, a 18, a 19, a 20, a 21, a 22, a 23, a 24, a 25, a 26, a 27, a 28, a 29, a 30, a 31, a 32, a 33, a 34, a 35, bif !decide ((bif !decide (a 36 = 0) then (1 : Int) else 0) = 0) then 1 else 0, bif !decide ((bif !decide (a 37 = 0) then (1 : Int) else 0) = 0) then 1 else 0, a 38, a 39, 0, 0, 0]) (nthS [b.1, b.2])) (fun r5 => cond (decide (r5.1 = 0)) (some (nthI [0, 0, 0], 0)) (some (nthI [r5.2.1 1, r5.2.1 2, r5.2.1 3], r5.2.1 0))) = some (nthI [(fst1 a (a 36) (a 37) b.1.2 b.2.2 b.1.1 0).1, (fst1 a (a 36) (a 37) b.1.2 b.2.2 b.1.1 0).2.1, (fst1 a (a 36) (a 37) b.1.2 b.2.2 b.1.1 0).2.2], 0) from hh
  rw [bq, bq, e2]
  rw [fst1_cong (q' := a 36) (r' := a 37) (bq' _) (bq' _)]
  unfold res1
  by_cases h0 : (fst1 a (a 36) (a 37) b.1.2 b.2.2 b.1.1 0).1 = 0
  · rw [fst1_z _ _ h0]
    rfl
  · simp only [h0, decide_false, Bool.not_false, cond_true, Option.bind_some, nthI]
    rfl
theorem great_eq (b : Sl × Sl) : f23 b = some (decide (100 < b.1.1) || decide (100 < b.2.1)) := by
  unfold f23
  have e1 : decide (100 < Int.ofNat b.1.1) = decide (100 < b.1.1) := by apply decide_eq_decide.2; simp; omega
  have e2 : decide (100 < Int.ofNat b.2.1) = decide (100 < b.2.1) := by apply decide_eq_decide.2; simp; omega
  rw [e1, e2]
  cases decide (100 < b.1.1) <;> rfl
theorem lawFirst (a : Nat → Int) (b : Sl × Sl) : f8 a b = some true := by
  unfold f8
  rw [great_eq]
  cases h : (decide (100 < b.1.1) || decide (100 < b.2.1))
  case true => rfl
  have h' : ¬ 100 < b.1.1 ∧ ¬ 100 < b.2.1 := by simpa using h
  rw [lfirst_eq (by omega) (by omega), rfirst_eq (by omega) (by omega), awake_eq]
  simp only [Option.bind_some, decide_true, Bool.and_self, cond_true, cond_false]

end Go.Proofs.Ytbiedpabdkbpfaa
