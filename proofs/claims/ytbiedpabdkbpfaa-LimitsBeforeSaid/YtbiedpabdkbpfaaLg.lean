/-
  THE PLAIN LAWS: what the contracts compute answers as the statements say.
-/
import Derived.Test.YtbiedpabdkbpfaaLf
open Go Go.VE Go.Proofs
set_option maxRecDepth 1000000
set_option maxHeartbeats 0
set_option linter.unusedVariables false
set_option linter.unusedSimpArgs false
namespace Go.Proofs.Ytbiedpabdkbpfaa
theorem vl_cp (p : Nat → Int) : f40 (nthI [p 0, p 1, p 2, p 3, p 4, p 5, p 6, p 7, p 8, p 9, p 10, p 11, p 12, p 13, p 14, p 15, p 16, p 17, p 18, p 19, p 20, p 21]) = f40 p := rfl
/-- The first error of the poses from tick k on. -/
noncomputable def vF (P : Nat → Nat → Int) : Nat → Nat → Int
  | 0, _ => 0
  | d + 1, k => bif !decide ((f40 (P k)).getD 0 = 0) then (f40 (P k)).getD 0 else vF P d (k + 1)
theorem vF_zero {P : Nat → Nat → Int} : ∀ (d k : Nat), vF P d k = 0 → ∀ j, k ≤ j → j < k + d → poseOk (P j)
  | 0, k, _, j, h1, h2 => by omega
  | d + 1, k, h, j, h1, h2 => by
    obtain ⟨e, he⟩ := valid_some (P k)
    simp only [vF, he, Option.getD_some] at h
    by_cases h0 : e = 0
    · subst h0
      simp only [decide_true, Bool.not_true, cond_false] at h
      by_cases hj : j = k
      · rw [hj]; exact valid_of he
      · exact vF_zero d (k + 1) h j (by omega) (by omega)
    · simp only [h0, decide_false, Bool.not_false, cond_true] at h
theorem vF_sub {P : Nat → Nat → Int} : ∀ (d k : Nat), (∀ j, k ≤ j → j < k + d → poseOk (P j)) → vF P d k = 0
  | 0, k, _ => rfl
  | d + 1, k, h => by
    simp only [vF, valid_in (h k (by omega) (by omega)), Option.getD_some, decide_true, Bool.not_true, cond_false]
    exact vF_sub d (k + 1) fun j h1 h2 => h j (by omega) (by omega)
theorem v0 {a : Nat → Int} {q r z0 z1 z2 : Int} (hq : (bif !decide (q = 0) then (1 : Int) else 0) = q) (hr : (bif !decide (r = 0) then (1 : Int) else 0) = r) {P S : Sl} (hn2 : P.1 ≤ 1000000) :
    ∀ (d m k : Nat), k + d = P.1 → d < m → iterL s24_0 m (nthI [Int.ofNat P.1, (k : Int), a 0, a 1, a 2, a 3, a 4, a 5, a 6, a 7, a 8, a 9, a 10, a 11, a 12, a 13, a 14, a 15, a 16, a 17, a 18, a 19, a 20, a 21, a 22, a 23, a 24, a 25, a 26, a 27, a 28, a 29, a 30, a 31, a 32, a 33, a 34, a 35, q, r, a 38, a 39, z0, z1, z2]) (nthS [P, P, S]) = some (bif !decide (vF P.2 d k = 0) then (1, nthI [vF P.2 d k, 0, 0, 0], nthS []) else (0, nthI [a 0, a 1, a 2, a 3, a 4, a 5, a 6, a 7, a 8, a 9, a 10, a 11, a 12, a 13, a 14, a 15, a 16, a 17, a 18, a 19, a 20, a 21, a 22, a 23, a 24, a 25, a 26, a 27, a 28, a 29, a 30, a 31, a 32, a 33, a 34, a 35, q, r, a 38, a 39, z0, z1, z2], nthS [P, S]))
  | d, 0, k, _, h => by omega
  | 0, m + 1, k, h1, _ => by
    have hk : ¬ (k : Int) < Int.ofNat P.1 := by simp; omega
    show ( cond (decide (((k : Int)) < (Int.ofNat P.1))) (
  cond (decide (0 ≤ ((k : Int)))) (
   cond (decide (((k : Int)) < Int.ofNat (P).fst)) (
    Option.bind (f40 (nthI [(P).snd (((k : Int))).toNat 0, (P).snd (((k : Int))).toNat 1, (P).snd (((k : Int))).toNat 2, (P).snd (((k : Int))).toNat 3, (P).snd (((k : Int))).toNat 4, (P).snd (((k : Int))).toNat 5, (P).snd (((k : Int))).toNat 6, (P).snd (((k : Int))).toNat 7, (P).snd (((k : Int))).toNat 8, (P).snd (((k : Int))).toNat 9, (P).snd (((k : Int))).toNat 10, (P).snd (((k : Int))).toNat 11, (P).snd (((k : Int))).toNat 12, (P).snd (((k : Int))).toNat 13, (P).snd (((k : Int))).toNat 14, (P).snd (((k : Int))).toNat 15, (P).snd (((k : Int))).toNat 16, (P).snd (((k : Int))).toNat 17, (P).snd (((k : Int))).toNat 18, (P).snd (((k : Int))).toNat 19, (P).snd (((k : Int))).toNat 20, (P).snd (((k : Int))).toNat 21])) (fun r3 =>
     cond (!decide (r3 = 0)) (
      some ((1, nthI [r3, 0, 0, 0], nthS []))) (
      iterL s24_0 m (nthI [(Int.ofNat P.1), IntKind.i64.wrap (((k : Int)) + 1), (a 0), (a 1), (a 2), (a 3), (a 4), (a 5), (a 6), (a 7), (a 8), (a 9), (a 10), (a 11), (a 12), (a 13), (a 14), (a 15), (a 16), (a 17), (a 18), (a 19), (a 20), (a 21), (a 22), (a 23), (a 24), (a 25), (a 26), (a 27), (a 28), (a 29), (a 30), (a 31), (a 32), (a 33), (a 34), (a 35), bif !decide (q = 0) then 1 else 0, bif !decide (r = 0) then 1 else 0, (a 38), (a 39), z0, z1, z2]) (nthS [P, P, S])))) none) none) (
  some ((0, nthI [(a 0), (a 1), (a 2), (a 3), (a 4), (a 5), (a 6), (a 7), (a 8), (a 9), (a 10), (a 11), (a 12), (a 13), (a 14), (a 15), (a 16), (a 17), (a 18), (a 19), (a 20), (a 21), (a 22), (a 23), (a 24), (a 25), (a 26), (a 27), (a 28), (a 29), (a 30), (a 31), (a 32), (a 33), (a 34), (a 35), bif !decide (q = 0) then 1 else 0, bif !decide (r = 0) then 1 else 0, (a 38), (a 39), z0, z1, z2], nthS [P, S])))) = _
    simp only [hk, decide_false, cond_false, vF, hq, hr, decide_true, Bool.not_true]
  | d + 1, m + 1, k, h1, h2 => by
    have hk' : (k : Int) < Int.ofNat P.1 := by simp; omega
    have k0 : (0 : Int) ≤ (k : Int) := by omega
    have ih := v0 (a := a) hq hr (z0 := z0) (z1 := z1) (z2 := z2) (S := S) hn2 d m (k + 1) (by omega) (by omega)
    have ew : IntKind.i64.wrap ((k : Int) + 1) = ((k + 1 : Nat) : Int) := by rw [w64 (by omega) (by omega)]; omega
    obtain ⟨e, he⟩ := valid_some (P.2 k)
    show ( cond (decide (((k : Int)) < (Int.ofNat P.1))) (
  cond (decide (0 ≤ ((k : Int)))) (
   cond (decide (((k : Int)) < Int.ofNat (P).fst)) (
    Option.bind (f40 (nthI [(P).snd (((k : Int))).toNat 0, (P).snd (((k : Int))).toNat 1, (P).snd (((k : Int))).toNat 2, (P).snd (((k : Int))).toNat 3, (P).snd (((k : Int))).toNat 4, (P).snd (((k : Int))).toNat 5, (P).snd (((k : Int))).toNat 6, (P).snd (((k : Int))).toNat 7, (P).snd (((k : Int))).toNat 8, (P).snd (((k : Int))).toNat 9, (P).snd (((k : Int))).toNat 10, (P).snd (((k : Int))).toNat 11, (P).snd (((k : Int))).toNat 12, (P).snd (((k : Int))).toNat 13, (P).snd (((k : Int))).toNat 14, (P).snd (((k : Int))).toNat 15, (P).snd (((k : Int))).toNat 16, (P).snd (((k : Int))).toNat 17, (P).snd (((k : Int))).toNat 18, (P).snd (((k : Int))).toNat 19, (P).snd (((k : Int))).toNat 20, (P).snd (((k : Int))).toNat 21])) (fun r3 =>
     cond (!decide (r3 = 0)) (
      some ((1, nthI [r3, 0, 0, 0], nthS []))) (
      iterL s24_0 m (nthI [(Int.ofNat P.1), IntKind.i64.wrap (((k : Int)) + 1), (a 0), (a 1), (a 2), (a 3), (a 4), (a 5), (a 6), (a 7), (a 8), (a 9), (a 10), (a 11), (a 12), (a 13), (a 14), (a 15), (a 16), (a 17), (a 18), (a 19), (a 20), (a 21), (a 22), (a 23), (a 24), (a 25), (a 26), (a 27), (a 28), (a 29), (a 30), (a 31), (a 32), (a 33), (a 34), (a 35), bif !decide (q = 0) then 1 else 0, bif !decide (r = 0) then 1 else 0, (a 38), (a 39), z0, z1, z2]) (nthS [P, P, S])))) none) none) (
  some ((0, nthI [(a 0), (a 1), (a 2), (a 3), (a 4), (a 5), (a 6), (a 7), (a 8), (a 9), (a 10), (a 11), (a 12), (a 13), (a 14), (a 15), (a 16), (a 17), (a 18), (a 19), (a 20), (a 21), (a 22), (a 23), (a 24), (a 25), (a 26), (a 27), (a 28), (a 29), (a 30), (a 31), (a 32), (a 33), (a 34), (a 35), bif !decide (q = 0) then 1 else 0, bif !decide (r = 0) then 1 else 0, (a 38), (a 39), z0, z1, z2], nthS [P, S])))) = _
    simp only [hk', k0, decide_true, cond_true, Int.toNat_natCast, hq, hr, ew, vl_cp, he, Option.bind_some, vF, Option.getD_some]
    by_cases h0 : e = 0
    · simp only [h0, decide_true, Bool.not_true, cond_false]
      exact ih
    · simp only [h0, decide_false, Bool.not_false, cond_true]
theorem rv0 {a : Nat → Int} {q r z0 z1 z2 : Int} (hq : (bif !decide (q = 0) then (1 : Int) else 0) = q) (hr : (bif !decide (r = 0) then (1 : Int) else 0) = r) {P S : Sl} (hn2 : P.1 ≤ 1000000) :
    ∀ (d m k : Nat), k + d = P.1 → d < m → iterL s25_0 m (nthI [(k : Int), a 0, a 1, a 2, a 3, a 4, a 5, a 6, a 7, a 8, a 9, a 10, a 11, a 12, a 13, a 14, a 15, a 16, a 17, a 18, a 19, a 20, a 21, a 22, a 23, a 24, a 25, a 26, a 27, a 28, a 29, a 30, a 31, a 32, a 33, a 34, a 35, q, r, a 38, a 39, z0, z1, z2]) (nthS [P, S]) = some (bif !decide (vF P.2 d k = 0) then (1, nthI [vF P.2 d k, 0, 0, 0], nthS []) else (0, nthI [a 0, a 1, a 2, a 3, a 4, a 5, a 6, a 7, a 8, a 9, a 10, a 11, a 12, a 13, a 14, a 15, a 16, a 17, a 18, a 19, a 20, a 21, a 22, a 23, a 24, a 25, a 26, a 27, a 28, a 29, a 30, a 31, a 32, a 33, a 34, a 35, q, r, a 38, a 39, z0, z1, z2], nthS [P, S]))
  | d, 0, k, _, h => by omega
  | 0, m + 1, k, h1, _ => by
    have hk : ¬ (k : Int) < Int.ofNat P.1 := by simp; omega
    show ( cond (decide (((k : Int)) < Int.ofNat (P).fst)) (
  cond (decide (0 ≤ ((k : Int)))) (
   cond (decide (((k : Int)) < Int.ofNat (P).fst)) (
    Option.bind (f43 (nthI [(P).snd (((k : Int))).toNat 0, (P).snd (((k : Int))).toNat 1, (P).snd (((k : Int))).toNat 2, (P).snd (((k : Int))).toNat 3, (P).snd (((k : Int))).toNat 4, (P).snd (((k : Int))).toNat 5, (P).snd (((k : Int))).toNat 6, (P).snd (((k : Int))).toNat 7, (P).snd (((k : Int))).toNat 8, (P).snd (((k : Int))).toNat 9, (P).snd (((k : Int))).toNat 10, (P).snd (((k : Int))).toNat 11, (P).snd (((k : Int))).toNat 12, (P).snd (((k : Int))).toNat 13, (P).snd (((k : Int))).toNat 14, (P).snd (((k : Int))).toNat 15, (P).snd (((k : Int))).toNat 16, (P).snd (((k : Int))).toNat 17, (P).snd (((k : Int))).toNat 18, (P).snd (((k : Int))).toNat 19, (P).snd (((k : Int))).toNat 20, (P).snd (((k : Int))).toNat 21])) (fun r3 =>
     cond (!decide (r3 = 0)) (
      some ((1, nthI [r3, 0, 0, 0], nthS []))) (
      iterL s25_0 m (nthI [IntKind.i64.wrap (((k : Int)) + 1), (a 0), (a 1), (a 2), (a 3), (a 4), (a 5), (a 6), (a 7), (a 8), (a 9), (a 10), (a 11), (a 12), (a 13), (a 14), (a 15), (a 16), (a 17), (a 18), (a 19), (a 20), (a 21), (a 22), (a 23), (a 24), (a 25), (a 26), (a 27), (a 28), (a 29), (a 30), (a 31), (a 32), (a 33), (a 34), (a 35), bif !decide (q = 0) then 1 else 0, bif !decide (r = 0) then 1 else 0, (a 38), (a 39), z0, z1, z2]) (nthS [P, S])))) none) none) (
  some ((0, nthI [(a 0), (a 1), (a 2), (a 3), (a 4), (a 5), (a 6), (a 7), (a 8), (a 9), (a 10), (a 11), (a 12), (a 13), (a 14), (a 15), (a 16), (a 17), (a 18), (a 19), (a 20), (a 21), (a 22), (a 23), (a 24), (a 25), (a 26), (a 27), (a 28), (a 29), (a 30), (a 31), (a 32), (a 33), (a 34), (a 35), bif !decide (q = 0) then 1 else 0, bif !decide (r = 0) then 1 else 0, (a 38), (a 39), z0, z1, z2], nthS [P, S])))) = _
    simp only [hk, decide_false, cond_false, vF, hq, hr, decide_true, Bool.not_true]
  | d + 1, m + 1, k, h1, h2 => by
    have hk' : (k : Int) < Int.ofNat P.1 := by simp; omega
    have k0 : (0 : Int) ≤ (k : Int) := by omega
    have ih := rv0 (a := a) hq hr (z0 := z0) (z1 := z1) (z2 := z2) (S := S) hn2 d m (k + 1) (by omega) (by omega)
    have ew : IntKind.i64.wrap ((k : Int) + 1) = ((k + 1 : Nat) : Int) := by rw [w64 (by omega) (by omega)]; omega
    obtain ⟨e, he⟩ := valid_some (P.2 k)
    show ( cond (decide (((k : Int)) < Int.ofNat (P).fst)) (
  cond (decide (0 ≤ ((k : Int)))) (
   cond (decide (((k : Int)) < Int.ofNat (P).fst)) (
    Option.bind (f43 (nthI [(P).snd (((k : Int))).toNat 0, (P).snd (((k : Int))).toNat 1, (P).snd (((k : Int))).toNat 2, (P).snd (((k : Int))).toNat 3, (P).snd (((k : Int))).toNat 4, (P).snd (((k : Int))).toNat 5, (P).snd (((k : Int))).toNat 6, (P).snd (((k : Int))).toNat 7, (P).snd (((k : Int))).toNat 8, (P).snd (((k : Int))).toNat 9, (P).snd (((k : Int))).toNat 10, (P).snd (((k : Int))).toNat 11, (P).snd (((k : Int))).toNat 12, (P).snd (((k : Int))).toNat 13, (P).snd (((k : Int))).toNat 14, (P).snd (((k : Int))).toNat 15, (P).snd (((k : Int))).toNat 16, (P).snd (((k : Int))).toNat 17, (P).snd (((k : Int))).toNat 18, (P).snd (((k : Int))).toNat 19, (P).snd (((k : Int))).toNat 20, (P).snd (((k : Int))).toNat 21])) (fun r3 =>
     cond (!decide (r3 = 0)) (
      some ((1, nthI [r3, 0, 0, 0], nthS []))) (
      iterL s25_0 m (nthI [IntKind.i64.wrap (((k : Int)) + 1), (a 0), (a 1), (a 2), (a 3), (a 4), (a 5), (a 6), (a 7), (a 8), (a 9), (a 10), (a 11), (a 12), (a 13), (a 14), (a 15), (a 16), (a 17), (a 18), (a 19), (a 20), (a 21), (a 22), (a 23), (a 24), (a 25), (a 26), (a 27), (a 28), (a 29), (a 30), (a 31), (a 32), (a 33), (a 34), (a 35), bif !decide (q = 0) then 1 else 0, bif !decide (r = 0) then 1 else 0, (a 38), (a 39), z0, z1, z2]) (nthS [P, S])))) none) none) (
  some ((0, nthI [(a 0), (a 1), (a 2), (a 3), (a 4), (a 5), (a 6), (a 7), (a 8), (a 9), (a 10), (a 11), (a 12), (a 13), (a 14), (a 15), (a 16), (a 17), (a 18), (a 19), (a 20), (a 21), (a 22), (a 23), (a 24), (a 25), (a 26), (a 27), (a 28), (a 29), (a 30), (a 31), (a 32), (a 33), (a 34), (a 35), bif !decide (q = 0) then 1 else 0, bif !decide (r = 0) then 1 else 0, (a 38), (a 39), z0, z1, z2], nthS [P, S])))) = _
    simp only [hk', k0, decide_true, cond_true, Int.toNat_natCast, hq, hr, ew, rvalid_eq, vl_cp, he, Option.bind_some, vF, Option.getD_some]
    by_cases h0 : e = 0
    · simp only [h0, decide_true, Bool.not_true, cond_false]
      exact ih
    · simp only [h0, decide_false, Bool.not_false, cond_true]
theorem run_ge (S : Nat → Nat → Int) : ∀ (k m : Nat), m ≤ k → ((m : Int) ≤ run S k ↔ ∀ j, k - m ≤ j → j < k → S j 0 = 0)
  | 0, m, h => by
    have : m = 0 := by omega
    subst this
    simp [run]
  | k + 1, 0, h => by
    have := run_le S (k + 1)
    constructor
    · intro _ j h1 h2
      omega
    · intro _
      omega
  | k + 1, m + 1, h => by
    have ih := run_ge S k m (by omega)
    have hl := run_le S k
    simp only [run]
    by_cases hs : S k 0 = 0
    · simp only [hs, decide_true, cond_true]
      constructor
      · intro h3 j h1 h2
        by_cases hj : j = k
        · rw [hj]; exact hs
        · exact ih.1 (by omega) j (by omega) (by omega)
      · intro h3
        have := ih.2 fun j h1 h2 => h3 j (by omega) (by omega)
        omega
    · simp only [hs, decide_false, cond_false]
      constructor
      · intro h3
        omega
      · intro h3
        exact absurd (h3 k (by omega) (by omega)) hs
theorem air0 {P S : Sl} {k : Nat} (hk : k ≤ S.1) (hn2 : S.1 ≤ 1000000) : ∀ (d m i : Nat), i + d = k → d < m →
    ∃ t, iterL s59_0 m (nthI [(k : Int), (i : Int)]) (nthS [P, S]) = some t ∧ ((t = (0, nthI [], nthS []) ∧ ∀ j, i ≤ j → j < k → S.2 j 0 = 0) ∨ (t = (1, nthI [0], nthS []) ∧ ∃ j, i ≤ j ∧ j < k ∧ S.2 j 0 ≠ 0))
  | d, 0, i, _, h => by omega
  | 0, m + 1, i, h1, _ => by
    have hi : ¬ (i : Int) < (k : Int) := by omega
    refine ⟨(0, nthI [], nthS []), ?_, .inl ⟨rfl, fun j h1 h2 => by omega⟩⟩
    show ( cond (decide (((i : Int)) < ((k : Int)))) (
  cond (decide (0 ≤ ((i : Int)))) (
   cond (decide (((i : Int)) < Int.ofNat (S).fst)) (
    cond (!decide ((S).snd (((i : Int))).toNat 0 = 0)) (
     some ((1, nthI [0], nthS []))) (
     iterL s59_0 m (nthI [((k : Int)), IntKind.i64.wrap (((i : Int)) + 1)]) (nthS [P, S]))) none) none) (
  some ((0, nthI [], nthS [])))) = _
    simp only [hi, decide_false, cond_false]
  | d + 1, m + 1, i, h1, h2 => by
    obtain ⟨t, ih, ht⟩ := air0 (P := P) hk hn2 d m (i + 1) (by omega) (by omega)
    have hi : (i : Int) < (k : Int) := by omega
    have i0 : (0 : Int) ≤ (i : Int) := by omega
    have i1 : (i : Int) < Int.ofNat S.1 := by simp; omega
    have ew : IntKind.i64.wrap ((i : Int) + 1) = ((i + 1 : Nat) : Int) := by rw [w64 (by omega) (by omega)]; omega
    by_cases hs : S.2 i 0 = 0
    · refine ⟨t, ?_, ?_⟩
      · show ( cond (decide (((i : Int)) < ((k : Int)))) (
  cond (decide (0 ≤ ((i : Int)))) (
   cond (decide (((i : Int)) < Int.ofNat (S).fst)) (
    cond (!decide ((S).snd (((i : Int))).toNat 0 = 0)) (
     some ((1, nthI [0], nthS []))) (
     iterL s59_0 m (nthI [((k : Int)), IntKind.i64.wrap (((i : Int)) + 1)]) (nthS [P, S]))) none) none) (
  some ((0, nthI [], nthS [])))) = _
        simp only [hi, i0, i1, ew, hs, decide_true, cond_true, Int.toNat_natCast, Bool.not_true, cond_false]
        exact ih
      · rcases ht with ⟨h3, h4⟩ | ⟨h3, j, h4, h5, h6⟩
        · refine .inl ⟨h3, fun j h5 h6 => ?_⟩
          by_cases hj : j = i
          · rw [hj]; exact hs
          · exact h4 j (by omega) h6
        · exact .inr ⟨h3, j, by omega, h5, h6⟩
    · refine ⟨(1, nthI [0], nthS []), ?_, .inr ⟨rfl, i, by omega, by omega, hs⟩⟩
      show ( cond (decide (((i : Int)) < ((k : Int)))) (
  cond (decide (0 ≤ ((i : Int)))) (
   cond (decide (((i : Int)) < Int.ofNat (S).fst)) (
    cond (!decide ((S).snd (((i : Int))).toNat 0 = 0)) (
     some ((1, nthI [0], nthS []))) (
     iterL s59_0 m (nthI [((k : Int)), IntKind.i64.wrap (((i : Int)) + 1)]) (nthS [P, S]))) none) none) (
  some ((0, nthI [], nthS [])))) = _
      simp only [hi, i0, i1, hs, decide_true, decide_false, cond_true, Int.toNat_natCast, Bool.not_false]
theorem rair_eq {a : Nat → Int} (ha : 0 ≤ a 38 ∧ a 38 ≤ 8192) {P S : Sl} {k : Nat} (hk : k ≤ S.1) (hn2 : S.1 ≤ 1000000) : f59 a (P, S) (k : Int) = some (decide (a 38 < run S.2 k)) := by
  have hl := run_le S.2 k
  unfold f59
  by_cases hc : (k : Int) ≤ a 38
  · have : ¬ a 38 < run S.2 k := by omega
    simp only [hc, this, decide_true, decide_false, cond_true]
  · obtain ⟨n, hn⟩ : ∃ n : Nat, (n : Int) = a 38 := ⟨(a 38).toNat, by omega⟩
    have e1 : IntKind.i64.wrap (IntKind.i64.wrap ((k : Int) - a 38) - 1) = ((k - n - 1 : Nat) : Int) := by
      rw [w64 (n := (k : Int) - a 38) (by omega) (by omega), w64 (by omega) (by omega)]
      omega
    obtain ⟨t, h1, h2⟩ := air0 (P := P) hk hn2 (n + 1) (S.1 + 2) (k - n - 1) (by omega) (by omega)
    have hg := run_ge S.2 k (n + 1) (by omega)
    simp only [hc, decide_false, cond_false, e1]
    rw [show l59_0 (nthI [(k : Int), ((k - n - 1 : Nat) : Int)]) (nthS [P, S]) = _ from h1]
    rcases h2 with ⟨rfl, h3⟩ | ⟨rfl, j, h3, h4, h5⟩
    · have : a 38 < run S.2 k := by
        have := hg.2 fun j h5 h6 => h3 j (by omega) h6
        omega
      simp [this]
    · have : ¬ a 38 < run S.2 k := fun h => h5 (hg.1 (by omega) j (by omega) h4)
      simp [this, nthI]

end Go.Proofs.Ytbiedpabdkbpfaa
