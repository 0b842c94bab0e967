/-
  THE PLAIN LAWS: what the contracts compute answers as the statements say.
-/
import Derived.Test.YtbiedpabdkbpfaaLi
open Go Go.VE Go.Proofs
set_option maxRecDepth 1000000
set_option maxHeartbeats 0
set_option linter.unusedVariables false
set_option linter.unusedSimpArgs false
namespace Go.Proofs.Ytbiedpabdkbpfaa
theorem fst1_hit {a : Nat → Int} {q r : Int} {P S : Nat → Nat → Int} : ∀ (d k : Nat), (fst1 a q r P S d k).1 ≠ 0 → ∃ j, k ≤ j ∧ j < k + d ∧ (flt a q r P S j).1 ≠ 0 ∧ fst1 a q r P S d k = ((flt a q r P S j).1, (j : Int), (flt a q r P S j).2) ∧ ∀ i, k ≤ i → i < j → (flt a q r P S i).1 = 0
  | 0, k, h => absurd rfl h
  | d + 1, k, h => by
    simp only [fst1] at h ⊢
    by_cases h0 : (flt a q r P S k).1 = 0
    · rw [show decide ((flt a q r P S k).1 = 0) = true from decide_eq_true h0] at h ⊢
      obtain ⟨j, h1, h2, h3, h4, h5⟩ := fst1_hit d (k + 1) h
      refine ⟨j, by omega, by omega, h3, h4, fun i h6 h7 => ?_⟩
      by_cases hi : i = k
      · rw [hi]; exact h0
      · exact h5 i (by omega) h7
    · rw [show decide ((flt a q r P S k).1 = 0) = false from decide_eq_false h0]
      exact ⟨k, by omega, by omega, h0, rfl, fun i h6 h7 => by omega⟩
theorem fst1_none {a : Nat → Int} {q r : Int} {P S : Nat → Nat → Int} : ∀ (d k : Nat), (∀ i, k ≤ i → i < k + d → (flt a q r P S i).1 = 0) → fst1 a q r P S d k = (0, 0, 0)
  | 0, k, h => rfl
  | d + 1, k, h => by
    simp only [fst1]
    rw [show decide ((flt a q r P S k).1 = 0) = true from decide_eq_true (h k (by omega) (by omega))]
    exact fst1_none d (k + 1) fun i h1 h2 => h i (by omega) (by omega)
theorem fst1_all {a : Nat → Int} {q r : Int} {P S : Nat → Nat → Int} : ∀ (d k : Nat), (fst1 a q r P S d k).1 = 0 → ∀ i, k ≤ i → i < k + d → (flt a q r P S i).1 = 0
  | 0, k, _, i, h1, h2 => by omega
  | d + 1, k, h, i, h1, h2 => by
    simp only [fst1] at h
    by_cases h0 : (flt a q r P S k).1 = 0
    · rw [show decide ((flt a q r P S k).1 = 0) = true from decide_eq_true h0] at h
      by_cases hi : i = k
      · rw [hi]; exact h0
      · exact fst1_all d (k + 1) h i (by omega) (by omega)
    · rw [show decide ((flt a q r P S k).1 = 0) = false from decide_eq_false h0] at h
      exact absurd h h0
theorem lfv_in (l : Nat → Int) (P : Nat → Nat → Int) (k : Nat) (d : Int) : lfv l P k d = 0 ∨ lfv l P k d = 25 ∨ lfv l P k d = 26 := by
  unfold lfv
  cases !decide (alw l (am (P k) d)) <;> cases decide (0 < k) && fastB l (am (P k) d) (am (P (k - 1)) d) <;> simp
theorem flL_cases (a : Nat → Int) (P : Nat → Nat → Int) (k : Nat) : ((flL a P k).1 = 0 ∧ lfv (nthI [a 0, a 1, a 2, a 3, a 4, a 5]) P k 0 = 0 ∧ lfv (nthI [a 6, a 7, a 8, a 9, a 10, a 11]) P k 1 = 0 ∧ lfv (nthI [a 12, a 13, a 14, a 15, a 16, a 17]) P k 2 = 0 ∧ lfv (nthI [a 18, a 19, a 20, a 21, a 22, a 23]) P k 3 = 0 ∧ lfv (nthI [a 24, a 25, a 26, a 27, a 28, a 29]) P k 4 = 0 ∧ lfv (nthI [a 30, a 31, a 32, a 33, a 34, a 35]) P k 5 = 0) ∨ (((flL a P k).1 = 25 ∨ (flL a P k).1 = 26) ∧ 0 ≤ (flL a P k).2 ∧ (flL a P k).2 ≤ 6) := by
  unfold flL
  by_cases h0 : lfv (nthI [a 0, a 1, a 2, a 3, a 4, a 5]) P k 0 = 0
  case neg =>
    have := (lfv_in (nthI [a 0, a 1, a 2, a 3, a 4, a 5]) P k 0).resolve_left h0
    right
    simp only [h0, decide_true, decide_false, Bool.not_true, Bool.not_false, cond_true, cond_false]
    exact ⟨this, by omega, by omega⟩
  by_cases h1 : lfv (nthI [a 6, a 7, a 8, a 9, a 10, a 11]) P k 1 = 0
  case neg =>
    have := (lfv_in (nthI [a 6, a 7, a 8, a 9, a 10, a 11]) P k 1).resolve_left h1
    right
    simp only [h0, h1, decide_true, decide_false, Bool.not_true, Bool.not_false, cond_true, cond_false]
    exact ⟨this, by omega, by omega⟩
  by_cases h2 : lfv (nthI [a 12, a 13, a 14, a 15, a 16, a 17]) P k 2 = 0
  case neg =>
    have := (lfv_in (nthI [a 12, a 13, a 14, a 15, a 16, a 17]) P k 2).resolve_left h2
    right
    simp only [h0, h1, h2, decide_true, decide_false, Bool.not_true, Bool.not_false, cond_true, cond_false]
    exact ⟨this, by omega, by omega⟩
  by_cases h3 : lfv (nthI [a 18, a 19, a 20, a 21, a 22, a 23]) P k 3 = 0
  case neg =>
    have := (lfv_in (nthI [a 18, a 19, a 20, a 21, a 22, a 23]) P k 3).resolve_left h3
    right
    simp only [h0, h1, h2, h3, decide_true, decide_false, Bool.not_true, Bool.not_false, cond_true, cond_false]
    exact ⟨this, by omega, by omega⟩
  by_cases h4 : lfv (nthI [a 24, a 25, a 26, a 27, a 28, a 29]) P k 4 = 0
  case neg =>
    have := (lfv_in (nthI [a 24, a 25, a 26, a 27, a 28, a 29]) P k 4).resolve_left h4
    right
    simp only [h0, h1, h2, h3, h4, decide_true, decide_false, Bool.not_true, Bool.not_false, cond_true, cond_false]
    exact ⟨this, by omega, by omega⟩
  by_cases h5 : lfv (nthI [a 30, a 31, a 32, a 33, a 34, a 35]) P k 5 = 0
  case neg =>
    have := (lfv_in (nthI [a 30, a 31, a 32, a 33, a 34, a 35]) P k 5).resolve_left h5
    right
    simp only [h0, h1, h2, h3, h4, h5, decide_true, decide_false, Bool.not_true, Bool.not_false, cond_true, cond_false]
    exact ⟨this, by omega, by omega⟩
  left
  refine ⟨?_, h0, h1, h2, h3, h4, h5⟩
  simp only [h0, h1, h2, h3, h4, h5, decide_true, Bool.not_true, cond_false]
theorem bfv_in (sp q r : Int) (P : Nat → Nat → Int) (k : Nat) : bfv sp q r P k = 0 ∨ bfv sp q r P k = 25 ∨ bfv sp q r P k = 26 := by
  unfold bfv
  cases (decide (P k 3 < 0) && decide (q = 0)) || (decide (0 < P k 3) && decide (r = 0)) <;> cases decide (0 < k) && decide (sp < chgv (P (k - 1) 2) (P k 2)) <;> simp
theorem flt_in (a : Nat → Int) (q r : Int) (P S : Nat → Nat → Int) (k : Nat) (h : (flt a q r P S k).1 ≠ 0) : ((flt a q r P S k).1 = 25 ∨ (flt a q r P S k).1 = 26 ∨ (flt a q r P S k).1 = 28) ∧ 0 ≤ (flt a q r P S k).2 ∧ (flt a q r P S k).2 ≤ 6 := by
  unfold flt at *
  rcases flL_cases a P k with ⟨h0, _⟩ | ⟨h0, h1, h2⟩
  · rw [show decide ((flL a P k).1 = 0) = true from decide_eq_true h0] at *
    rcases bfv_in (a 39) q r P k with h1 | h1 | h1
    · rw [show decide (bfv (a 39) q r P k = 0) = true from decide_eq_true h1] at h ⊢
      cases hr : decide (a 38 < run S k)
      · rw [hr] at h
        exact absurd rfl h
      · exact ⟨.inr (.inr rfl), show (0 : Int) ≤ 6 by decide, show (6 : Int) ≤ 6 by decide⟩
    · rw [show decide (bfv (a 39) q r P k = 0) = false from decide_eq_false (by omega)]
      exact ⟨.inl h1, show (0 : Int) ≤ 6 by decide, show (6 : Int) ≤ 6 by decide⟩
    · rw [show decide (bfv (a 39) q r P k = 0) = false from decide_eq_false (by omega)]
      exact ⟨.inr (.inl h1), show (0 : Int) ≤ 6 by decide, show (6 : Int) ≤ 6 by decide⟩
  · have h3 : ¬ (flL a P k).1 = 0 := by omega
    rw [show decide ((flL a P k).1 = 0) = false from decide_eq_false h3] at *
    simp only [Bool.not_false, cond_true] at *
    omega
theorem flt_zero {a : Nat → Int} {q r : Int} {P S : Nat → Nat → Int} {k : Nat} (h : (flt a q r P S k).1 = 0) : (∀ d, 0 ≤ d ∧ d < 6 → lfv (row a d) P k d = 0) ∧ bfv (a 39) q r P k = 0 ∧ ¬ a 38 < run S k := by
  unfold flt at h
  rcases flL_cases a P k with ⟨h0, e0, e1, e2, e3, e4, e5⟩ | ⟨h0, h1, h2⟩
  · rw [show decide ((flL a P k).1 = 0) = true from decide_eq_true h0] at h
    refine ⟨fun d hd => ?_, ?_⟩
    · rcases six hd with rfl | rfl | rfl | rfl | rfl | rfl <;> assumption
    · rcases bfv_in (a 39) q r P k with h1 | h1 | h1
      · rw [h1] at h
        refine ⟨h1, fun hr => ?_⟩
        simp [hr] at h
      · rw [h1] at h
        simp at h
      · rw [h1] at h
        simp at h
  · have h3 : ¬ (flL a P k).1 = 0 := by omega
    rw [show decide ((flL a P k).1 = 0) = false from decide_eq_false h3] at h
    exact absurd h h3

/-! ### Before a fault there is none -/
theorem first_bad {a : Nat → Int} {b : Sl × Sl} (h : (first a b).2 ≠ 0) : (first a b).1 = nthI [0, 0, 0] := by
  unfold first at *
  cases h1 : decide (limOk a)
  · rfl
  rw [h1] at h
  cases h2 : (decide (b.2.1 < 1) || !decide (b.1.1 = b.2.1 + 1))
  · rw [h2] at h
    by_cases h3 : vF b.1.2 b.1.1 0 = 0
    · rw [show decide (vF b.1.2 b.1.1 0 = 0) = true from decide_eq_true h3] at h
      exact absurd rfl h
    · rw [show decide (vF b.1.2 b.1.1 0 = 0) = false from decide_eq_false h3]
      rfl
  · rfl
theorem first_ok {a : Nat → Int} {b : Sl × Sl} (h : (first a b).2 = 0) : limOk a ∧ ¬ b.2.1 < 1 ∧ b.1.1 = b.2.1 + 1 ∧ vF b.1.2 b.1.1 0 = 0 ∧
    first a b = (nthI [(fst1 a (a 36) (a 37) b.1.2 b.2.2 b.1.1 0).1, (fst1 a (a 36) (a 37) b.1.2 b.2.2 b.1.1 0).2.1, (fst1 a (a 36) (a 37) b.1.2 b.2.2 b.1.1 0).2.2], 0) := by
  unfold first at *
  by_cases h1 : limOk a
  case neg =>
    rw [show decide (limOk a) = false from decide_eq_false h1] at h
    exact absurd (show (1 : Int) = 0 from h) (by decide)
  rw [show decide (limOk a) = true from decide_eq_true h1] at *
  cases h2 : (decide (b.2.1 < 1) || !decide (b.1.1 = b.2.1 + 1))
  case true =>
    rw [h2] at h
    exact absurd (show (2 : Int) = 0 from h) (by decide)
  rw [h2] at h
  have hl' : ¬ b.2.1 < 1 ∧ b.1.1 = b.2.1 + 1 := by simpa using h2
  by_cases h3 : vF b.1.2 b.1.1 0 = 0
  · rw [show decide (vF b.1.2 b.1.1 0 = 0) = true from decide_eq_true h3]
    exact ⟨h1, hl'.1, hl'.2, h3, rfl⟩
  · rw [show decide (vF b.1.2 b.1.1 0 = 0) = false from decide_eq_false h3] at h
    exact absurd h h3
theorem first_pre {a : Nat → Int} {P S : Nat → Nat → Int} {j : Nat} (ha : limOk a) (hj : 2 ≤ j) (hv : ∀ i, i < j → poseOk (P i)) (hf : ∀ i, i < j → (flt a (a 36) (a 37) P S i).1 = 0) : first a ((j, P), (j - 1, S)) = (nthI [0, 0, 0], 0) := by
  unfold first
  rw [show decide (limOk a) = true from decide_eq_true ha]
  have h1 : (decide (j - 1 < 1) || !decide (j = j - 1 + 1)) = false := by
    have e1 : ¬ j - 1 < 1 := by omega
    have e2 : j = j - 1 + 1 := by omega
    rw [decide_eq_false e1, decide_eq_true e2]
    rfl
  have h2 : vF P j 0 = 0 := vF_sub j 0 fun i _ h => hv i (by omega)
  have h3 : fst1 a (a 36) (a 37) P S j 0 = (0, 0, 0) := fst1_none j 0 fun i _ h => hf i (by omega)
  show (bif !true then _ else bif (decide (j - 1 < 1) || !decide (j = j - 1 + 1)) then (nthI [0, 0, 0], (2 : Int)) else bif !decide (vF P j 0 = 0) then (nthI [0, 0, 0], vF P j 0) else (nthI [(fst1 a (a 36) (a 37) P S j 0).1, (fst1 a (a 36) (a 37) P S j 0).2.1, (fst1 a (a 36) (a 37) P S j 0).2.2], (0 : Int))) = _
  rw [h1, h2, h3]
  rfl
theorem lawBefore (a : Nat → Int) (b : Sl × Sl) : f10 a b = some true := by
  unfold f10
  rw [great_eq]
  cases h : (decide (100 < b.1.1) || decide (100 < b.2.1))
  case true => rfl
  have h' : ¬ 100 < b.1.1 ∧ ¬ 100 < b.2.1 := by simpa using h
  rw [lfirst_eq (a := cpL a) (by omega) (by omega), awake_eq]
  by_cases he : (first (cpL a) b).2 = 0
  case neg =>
    have hz := first_bad he
    generalize first (cpL a) b = F at *
    obtain ⟨F1, F2⟩ := F
    simp only at he hz
    subst hz
    simp [he, nthI]
  obtain ⟨ha, hl1, hl2, hv, hF⟩ := first_ok he
  have hv' := vF_zero _ _ hv
  rw [hF]
  by_cases h0 : (fst1 (cpL a) ((cpL a) 36) ((cpL a) 37) b.1.2 b.2.2 b.1.1 0).1 = 0
  · rw [fst1_z _ _ h0]
    rfl
  obtain ⟨j, _, h2, h3, h4, h5⟩ := fst1_hit _ _ h0
  rw [h4]
  obtain ⟨g1, g2, g3⟩ := flt_in _ _ _ _ _ _ h3
  have hp : 2 ≤ j → first (cpL a) ((j, b.1.2), (j - 1, b.2.2)) = (nthI [0, 0, 0], 0) := fun hj => first_pre ha hj (fun i hi => hv' i (by omega) (by omega)) (fun i hi => h5 i (by omega) hi)
  have hp' : 2 ≤ j → f24 (cpL a) (((((j : Nat) : Int)).toNat, b.1.2), ((IntKind.i64.wrap ((j : Int) - 1)).toNat, b.2.2)) = some (nthI [0, 0, 0], 0) := fun hj => by
    rw [w64 (by omega) (by omega), show ((j : Int) - 1).toNat = j - 1 by omega, Int.toNat_natCast, lfirst_eq (a := cpL a) (by show j ≤ 100000; omega) (by show j - 1 ≤ 100000; omega), hp hj]
  generalize (flt (cpL a) ((cpL a) 36) ((cpL a) 37) b.1.2 b.2.2 j).1 = e at *
  generalize (flt (cpL a) ((cpL a) 36) ((cpL a) 37) b.1.2 b.2.2 j).2 = p at *
  have q1 : ¬ p < 0 := by omega
  have q2 : ¬ 6 < p := by omega
  have q3 : ¬ (j : Int) < 0 := by omega
  have q4 : ¬ Int.ofNat b.1.1 ≤ (j : Int) := by simp; omega
  have q5 : ¬ Int.ofNat b.2.1 < (j : Int) := by simp; omega
  simp only [Option.bind_some, cond_false, nthI, decide_true, Bool.not_true, h3, decide_false, q1, q2, q3, q4, q5]
  by_cases hj : (j : Int) < 2
  · rcases g1 with rfl | rfl | rfl <;> simp [hj]
  · have q6 : (0 : Int) ≤ (j : Int) := by omega
    have q7 : (j : Int) ≤ Int.ofNat b.1.1 := by simp; omega
    have q8 : (0 : Int) ≤ IntKind.i64.wrap ((j : Int) - 1) := by rw [w64 (by omega) (by omega)]; omega
    have q9 : IntKind.i64.wrap ((j : Int) - 1) ≤ Int.ofNat b.2.1 := by rw [w64 (by omega) (by omega)]; simp; omega
    have hp2 := hp' (by omega)
    simp only [hj, q6, q7, q8, q9, decide_true, decide_false, cond_true, cond_false]
    rw [hp2]
    rcases g1 with rfl | rfl | rfl <;> simp [nthI]

/-! ### Without a fault -/
theorem hold {a : Nat → Int} (ha : limOk a) {q r c0 c1 c2 c3 : Int} (hc : 0 ≤ c0 ∧ c0 < 6) (hq : (bif !decide (q = 0) then (1 : Int) else 0) = q) (hr : (bif !decide (r = 0) then (1 : Int) else 0) = r) {P S : Sl} (hn : P.1 = S.1 + 1) (hn2 : P.1 ≤ 1000000) (hv : ∀ j, j < P.1 → poseOk (P.2 j)) (hf : ∀ j, j < P.1 → (flt a q r P.2 S.2 j).1 = 0) :
    ∀ (d m k : Nat), k + d = P.1 → d < m → iterL s9_0 m (nthI [(k : Int), a 0, a 1, a 2, a 3, a 4, a 5, a 6, a 7, a 8, a 9, a 10, a 11, a 12, a 13, a 14, a 15, a 16, a 17, a 18, a 19, a 20, a 21, a 22, a 23, a 24, a 25, a 26, a 27, a 28, a 29, a 30, a 31, a 32, a 33, a 34, a 35, q, r, a 38, a 39, c0, c1, c2, c3]) (nthS [P, S]) = some (0, nthI [], nthS [])
  | d, 0, k, _, h => by omega
  | 0, m + 1, k, h1, _ => by
    have hk : ¬ (k : Int) < Int.ofNat P.1 := by simp; omega
    show ( cond (decide (((k : Int)) < Int.ofNat (P).fst)) (
  cond (decide (0 ≤ ((k : Int)))) (
   cond (decide (((k : Int)) < Int.ofNat (P).fst)) (
    cond (decide (0 ≤ c0)) (
     cond (decide (c0 < 6)) (
      Option.bind (f17 (nthI [(a 0), (a 1), (a 2), (a 3), (a 4), (a 5), (a 6), (a 7), (a 8), (a 9), (a 10), (a 11), (a 12), (a 13), (a 14), (a 15), (a 16), (a 17), (a 18), (a 19), (a 20), (a 21), (a 22), (a 23), (a 24), (a 25), (a 26), (a 27), (a 28), (a 29), (a 30), (a 31), (a 32), (a 33), (a 34), (a 35), bif !decide (q = 0) then 1 else 0, bif !decide (r = 0) then 1 else 0, (a 38), (a 39)]) (c0) (nthI [[(P).snd (((k : Int))).toNat 4, (P).snd (((k : Int))).toNat 7, (P).snd (((k : Int))).toNat 10, (P).snd (((k : Int))).toNat 13, (P).snd (((k : Int))).toNat 16, (P).snd (((k : Int))).toNat 19].getD (c0).toNat 0, [(P).snd (((k : Int))).toNat 5, (P).snd (((k : Int))).toNat 8, (P).snd (((k : Int))).toNat 11, (P).snd (((k : Int))).toNat 14, (P).snd (((k : Int))).toNat 17, (P).snd (((k : Int))).toNat 20].getD (c0).toNat 0, [(P).snd (((k : Int))).toNat 6, (P).snd (((k : Int))).toNat 9, (P).snd (((k : Int))).toNat 12, (P).snd (((k : Int))).toNat 15, (P).snd (((k : Int))).toNat 18, (P).snd (((k : Int))).toNat 21].getD (c0).toNat 0])) (fun r3 =>
       Option.bind (cond (!r3.fst) (
         some (true)) (
         cond (!decide (r3.snd = 0)) (
          some (true)) (
          cond (decide (0 ≤ ((k : Int)))) (
           cond (decide (((k : Int)) < Int.ofNat (P).fst)) (
            cond (decide ((P).snd (((k : Int))).toNat 3 < 0)) (
             cond (!!decide (q = 0)) (
              some (true)) (
              cond (decide (0 ≤ ((k : Int)))) (
               cond (decide (((k : Int)) < Int.ofNat (P).fst)) (
                cond (decide (0 < (P).snd (((k : Int))).toNat 3)) (
                 some (!!decide (r = 0))) (
                 some (false))) none) none)) (
             cond (decide (0 ≤ ((k : Int)))) (
              cond (decide (((k : Int)) < Int.ofNat (P).fst)) (
               cond (decide (0 < (P).snd (((k : Int))).toNat 3)) (
                some (!!decide (r = 0))) (
                some (false))) none) none)) none) none))) (fun r4 =>
        cond (r4) (
         some ((1, nthI [0], nthS []))) (
         cond (decide (((k : Int)) = 0)) (
          iterL s9_0 m (nthI [IntKind.i64.wrap (((k : Int)) + 1), (a 0), (a 1), (a 2), (a 3), (a 4), (a 5), (a 6), (a 7), (a 8), (a 9), (a 10), (a 11), (a 12), (a 13), (a 14), (a 15), (a 16), (a 17), (a 18), (a 19), (a 20), (a 21), (a 22), (a 23), (a 24), (a 25), (a 26), (a 27), (a 28), (a 29), (a 30), (a 31), (a 32), (a 33), (a 34), (a 35), bif !decide (q = 0) then 1 else 0, bif !decide (r = 0) then 1 else 0, (a 38), (a 39), c0, c1, c2, c3]) (nthS [P, S])) (
          cond (decide (0 ≤ IntKind.i64.wrap (((k : Int)) - 1))) (
           cond (decide (IntKind.i64.wrap (((k : Int)) - 1) < Int.ofNat (P).fst)) (
            cond (decide (0 ≤ c0)) (
             cond (decide (c0 < 6)) (
              Option.bind (cond (decide (0 ≤ c0)) (
                cond (decide (c0 < 6)) (
                 cond (decide ([(a 5), (a 11), (a 17), (a 23), (a 29), (a 35)].getD (c0).toNat 0 < IntKind.i64.wrap ([(P).snd (((k : Int))).toNat 5, (P).snd (((k : Int))).toNat 8, (P).snd (((k : Int))).toNat 11, (P).snd (((k : Int))).toNat 14, (P).snd (((k : Int))).toNat 17, (P).snd (((k : Int))).toNat 20].getD (c0).toNat 0 - [(P).snd (IntKind.i64.wrap (((k : Int)) - 1)).toNat 5, (P).snd (IntKind.i64.wrap (((k : Int)) - 1)).toNat 8, (P).snd (IntKind.i64.wrap (((k : Int)) - 1)).toNat 11, (P).snd (IntKind.i64.wrap (((k : Int)) - 1)).toNat 14, (P).snd (IntKind.i64.wrap (((k : Int)) - 1)).toNat 17, (P).snd (IntKind.i64.wrap (((k : Int)) - 1)).toNat 20].getD (c0).toNat 0))) (
                  some (true)) (
                  cond (decide (0 ≤ c0)) (
                   cond (decide (c0 < 6)) (
                    cond (decide ([(a 5), (a 11), (a 17), (a 23), (a 29), (a 35)].getD (c0).toNat 0 < IntKind.i64.wrap (0 - IntKind.i64.wrap ([(P).snd (((k : Int))).toNat 5, (P).snd (((k : Int))).toNat 8, (P).snd (((k : Int))).toNat 11, (P).snd (((k : Int))).toNat 14, (P).snd (((k : Int))).toNat 17, (P).snd (((k : Int))).toNat 20].getD (c0).toNat 0 - [(P).snd (IntKind.i64.wrap (((k : Int)) - 1)).toNat 5, (P).snd (IntKind.i64.wrap (((k : Int)) - 1)).toNat 8, (P).snd (IntKind.i64.wrap (((k : Int)) - 1)).toNat 11, (P).snd (IntKind.i64.wrap (((k : Int)) - 1)).toNat 14, (P).snd (IntKind.i64.wrap (((k : Int)) - 1)).toNat 17, (P).snd (IntKind.i64.wrap (((k : Int)) - 1)).toNat 20].getD (c0).toNat 0)))) (
                     some (true)) (
                     cond (decide ((a 38) = 0)) (
                      cond (decide (0 ≤ IntKind.i64.wrap (((k : Int)) - 1))) (
                       cond (decide (IntKind.i64.wrap (((k : Int)) - 1) < Int.ofNat (S).fst)) (
                        some (decide ((S).snd (IntKind.i64.wrap (((k : Int)) - 1)).toNat 0 = 0))) none) none) (
                      some (false)))) none) none)) none) none) (fun r5 =>
               cond (r5) (
                some ((1, nthI [0], nthS []))) (
                iterL s9_0 m (nthI [IntKind.i64.wrap (((k : Int)) + 1), (a 0), (a 1), (a 2), (a 3), (a 4), (a 5), (a 6), (a 7), (a 8), (a 9), (a 10), (a 11), (a 12), (a 13), (a 14), (a 15), (a 16), (a 17), (a 18), (a 19), (a 20), (a 21), (a 22), (a 23), (a 24), (a 25), (a 26), (a 27), (a 28), (a 29), (a 30), (a 31), (a 32), (a 33), (a 34), (a 35), bif !decide (q = 0) then 1 else 0, bif !decide (r = 0) then 1 else 0, (a 38), (a 39), c0, c1, c2, c3]) (nthS [P, S])))) none) none) none) none))))) none) none) none) none) (
  some ((0, nthI [], nthS [])))) = _
    simp only [hk, decide_false, cond_false]
  | d + 1, m + 1, k, h1, h2 => by
    have hk : k < P.1 := by omega
    have hk' : (k : Int) < Int.ofNat P.1 := by simp; omega
    have k0 : (0 : Int) ≤ (k : Int) := by omega
    have ih := hold ha (c1 := c1) (c2 := c2) (c3 := c3) hc hq hr hn hn2 hv hf d m (k + 1) (by omega) (by omega)
    have ew : IntKind.i64.wrap ((k : Int) + 1) = ((k + 1 : Nat) : Int) := by rw [w64 (by omega) (by omega)]; omega
    obtain ⟨z1, z2, z3⟩ := flt_zero (hf k hk)
    have hl := z1 c0 hc
    have hu := am_ok (hv k hk) hc
    have hw : alw (row a c0) (am (P.2 k) c0) := by
      refine Classical.byContradiction fun hw => ?_
      unfold lfv at hl
      rw [decide_eq_false hw] at hl
      exact absurd (show (25 : Int) = 0 from hl) (by decide)
    have hal : f17 (nthI [a 0, a 1, a 2, a 3, a 4, a 5, a 6, a 7, a 8, a 9, a 10, a 11, a 12, a 13, a 14, a 15, a 16, a 17, a 18, a 19, a 20, a 21, a 22, a 23, a 24, a 25, a 26, a 27, a 28, a 29, a 30, a 31, a 32, a 33, a 34, a 35, q, r, a 38, a 39]) c0 (am (P.2 k) c0) = some (true, 0) := by
      rw [lallows_in (a := nthI [a 0, a 1, a 2, a 3, a 4, a 5, a 6, a 7, a 8, a 9, a 10, a 11, a 12, a 13, a 14, a 15, a 16, a 17, a 18, a 19, a 20, a 21, a 22, a 23, a 24, a 25, a 26, a 27, a 28, a 29, a 30, a 31, a 32, a 33, a 34, a 35, q, r, a 38, a 39]) ha (acheck_in hc hu), show decide (alw (row (nthI [a 0, a 1, a 2, a 3, a 4, a 5, a 6, a 7, a 8, a 9, a 10, a 11, a 12, a 13, a 14, a 15, a 16, a 17, a 18, a 19, a 20, a 21, a 22, a 23, a 24, a 25, a 26, a 27, a 28, a 29, a 30, a 31, a 32, a 33, a 34, a 35, q, r, a 38, a 39]) c0) (am (P.2 k) c0)) = true from decide_eq_true hw]
    have hb : ((decide (P.2 k 3 < 0) && decide (q = 0)) || (decide (0 < P.2 k 3) && decide (r = 0))) = false := by
      unfold bfv at z2
      cases hx : ((decide (P.2 k 3 < 0) && decide (q = 0)) || (decide (0 < P.2 k 3) && decide (r = 0)))
      · rfl
      · rw [hx] at z2
        exact absurd (show (25 : Int) = 0 from z2) (by decide)
    have hbs : (cond (decide (P.2 k 3 < 0)) (cond (!!decide (q = 0)) (some true) (cond (decide (0 ≤ (k : Int))) (cond (decide ((k : Int) < Int.ofNat P.1)) (cond (decide (0 < P.2 k 3)) (some (!!decide (r = 0))) (some false)) none) none)) (cond (decide (0 ≤ (k : Int))) (cond (decide ((k : Int) < Int.ofNat P.1)) (cond (decide (0 < P.2 k 3)) (some (!!decide (r = 0))) (some false)) none) none)) = some false := by
      rw [decide_eq_true hk', decide_eq_true k0]
      revert hb
      cases decide (P.2 k 3 < 0) <;> cases decide (q = 0) <;> cases decide (0 < P.2 k 3) <;> cases decide (r = 0) <;> simp
    show ( cond (decide (((k : Int)) < Int.ofNat (P).fst)) (
  cond (decide (0 ≤ ((k : Int)))) (
   cond (decide (((k : Int)) < Int.ofNat (P).fst)) (
    cond (decide (0 ≤ c0)) (
     cond (decide (c0 < 6)) (
      Option.bind (f17 (nthI [(a 0), (a 1), (a 2), (a 3), (a 4), (a 5), (a 6), (a 7), (a 8), (a 9), (a 10), (a 11), (a 12), (a 13), (a 14), (a 15), (a 16), (a 17), (a 18), (a 19), (a 20), (a 21), (a 22), (a 23), (a 24), (a 25), (a 26), (a 27), (a 28), (a 29), (a 30), (a 31), (a 32), (a 33), (a 34), (a 35), bif !decide (q = 0) then 1 else 0, bif !decide (r = 0) then 1 else 0, (a 38), (a 39)]) (c0) (nthI [[(P).snd (((k : Int))).toNat 4, (P).snd (((k : Int))).toNat 7, (P).snd (((k : Int))).toNat 10, (P).snd (((k : Int))).toNat 13, (P).snd (((k : Int))).toNat 16, (P).snd (((k : Int))).toNat 19].getD (c0).toNat 0, [(P).snd (((k : Int))).toNat 5, (P).snd (((k : Int))).toNat 8, (P).snd (((k : Int))).toNat 11, (P).snd (((k : Int))).toNat 14, (P).snd (((k : Int))).toNat 17, (P).snd (((k : Int))).toNat 20].getD (c0).toNat 0, [(P).snd (((k : Int))).toNat 6, (P).snd (((k : Int))).toNat 9, (P).snd (((k : Int))).toNat 12, (P).snd (((k : Int))).toNat 15, (P).snd (((k : Int))).toNat 18, (P).snd (((k : Int))).toNat 21].getD (c0).toNat 0])) (fun r3 =>
       Option.bind (cond (!r3.fst) (
         some (true)) (
         cond (!decide (r3.snd = 0)) (
          some (true)) (
          cond (decide (0 ≤ ((k : Int)))) (
           cond (decide (((k : Int)) < Int.ofNat (P).fst)) (
            cond (decide ((P).snd (((k : Int))).toNat 3 < 0)) (
             cond (!!decide (q = 0)) (
              some (true)) (
              cond (decide (0 ≤ ((k : Int)))) (
               cond (decide (((k : Int)) < Int.ofNat (P).fst)) (
                cond (decide (0 < (P).snd (((k : Int))).toNat 3)) (
                 some (!!decide (r = 0))) (
                 some (false))) none) none)) (
             cond (decide (0 ≤ ((k : Int)))) (
              cond (decide (((k : Int)) < Int.ofNat (P).fst)) (
               cond (decide (0 < (P).snd (((k : Int))).toNat 3)) (
                some (!!decide (r = 0))) (
                some (false))) none) none)) none) none))) (fun r4 =>
        cond (r4) (
         some ((1, nthI [0], nthS []))) (
         cond (decide (((k : Int)) = 0)) (
          iterL s9_0 m (nthI [IntKind.i64.wrap (((k : Int)) + 1), (a 0), (a 1), (a 2), (a 3), (a 4), (a 5), (a 6), (a 7), (a 8), (a 9), (a 10), (a 11), (a 12), (a 13), (a 14), (a 15), (a 16), (a 17), (a 18), (a 19), (a 20), (a 21), (a 22), (a 23), (a 24), (a 25), (a 26), (a 27), (a 28), (a 29), (a 30), (a 31), (a 32), (a 33), (a 34), (a 35), bif !decide (q = 0) then 1 else 0, bif !decide (r = 0) then 1 else 0, (a 38), (a 39), c0, c1, c2, c3]) (nthS [P, S])) (
          cond (decide (0 ≤ IntKind.i64.wrap (((k : Int)) - 1))) (
           cond (decide (IntKind.i64.wrap (((k : Int)) - 1) < Int.ofNat (P).fst)) (
            cond (decide (0 ≤ c0)) (
             cond (decide (c0 < 6)) (
              Option.bind (cond (decide (0 ≤ c0)) (
                cond (decide (c0 < 6)) (
                 cond (decide ([(a 5), (a 11), (a 17), (a 23), (a 29), (a 35)].getD (c0).toNat 0 < IntKind.i64.wrap ([(P).snd (((k : Int))).toNat 5, (P).snd (((k : Int))).toNat 8, (P).snd (((k : Int))).toNat 11, (P).snd (((k : Int))).toNat 14, (P).snd (((k : Int))).toNat 17, (P).snd (((k : Int))).toNat 20].getD (c0).toNat 0 - [(P).snd (IntKind.i64.wrap (((k : Int)) - 1)).toNat 5, (P).snd (IntKind.i64.wrap (((k : Int)) - 1)).toNat 8, (P).snd (IntKind.i64.wrap (((k : Int)) - 1)).toNat 11, (P).snd (IntKind.i64.wrap (((k : Int)) - 1)).toNat 14, (P).snd (IntKind.i64.wrap (((k : Int)) - 1)).toNat 17, (P).snd (IntKind.i64.wrap (((k : Int)) - 1)).toNat 20].getD (c0).toNat 0))) (
                  some (true)) (
                  cond (decide (0 ≤ c0)) (
                   cond (decide (c0 < 6)) (
                    cond (decide ([(a 5), (a 11), (a 17), (a 23), (a 29), (a 35)].getD (c0).toNat 0 < IntKind.i64.wrap (0 - IntKind.i64.wrap ([(P).snd (((k : Int))).toNat 5, (P).snd (((k : Int))).toNat 8, (P).snd (((k : Int))).toNat 11, (P).snd (((k : Int))).toNat 14, (P).snd (((k : Int))).toNat 17, (P).snd (((k : Int))).toNat 20].getD (c0).toNat 0 - [(P).snd (IntKind.i64.wrap (((k : Int)) - 1)).toNat 5, (P).snd (IntKind.i64.wrap (((k : Int)) - 1)).toNat 8, (P).snd (IntKind.i64.wrap (((k : Int)) - 1)).toNat 11, (P).snd (IntKind.i64.wrap (((k : Int)) - 1)).toNat 14, (P).snd (IntKind.i64.wrap (((k : Int)) - 1)).toNat 17, (P).snd (IntKind.i64.wrap (((k : Int)) - 1)).toNat 20].getD (c0).toNat 0)))) (
                     some (true)) (
                     cond (decide ((a 38) = 0)) (
                      cond (decide (0 ≤ IntKind.i64.wrap (((k : Int)) - 1))) (
                       cond (decide (IntKind.i64.wrap (((k : Int)) - 1) < Int.ofNat (S).fst)) (
                        some (decide ((S).snd (IntKind.i64.wrap (((k : Int)) - 1)).toNat 0 = 0))) none) none) (
                      some (false)))) none) none)) none) none) (fun r5 =>
               cond (r5) (
                some ((1, nthI [0], nthS []))) (
                iterL s9_0 m (nthI [IntKind.i64.wrap (((k : Int)) + 1), (a 0), (a 1), (a 2), (a 3), (a 4), (a 5), (a 6), (a 7), (a 8), (a 9), (a 10), (a 11), (a 12), (a 13), (a 14), (a 15), (a 16), (a 17), (a 18), (a 19), (a 20), (a 21), (a 22), (a 23), (a 24), (a 25), (a 26), (a 27), (a 28), (a 29), (a 30), (a 31), (a 32), (a 33), (a 34), (a 35), bif !decide (q = 0) then 1 else 0, bif !decide (r = 0) then 1 else 0, (a 38), (a 39), c0, c1, c2, c3]) (nthS [P, S])))) none) none) none) none))))) none) none) none) none) (
  some ((0, nthI [], nthS [])))) = _
    simp only [hk', k0, hc.1, hc.2, decide_true, cond_true, Int.toNat_natCast, hq, hr, ew] at hbs ⊢
    rw [show f17 (nthI [a 0, a 1, a 2, a 3, a 4, a 5, a 6, a 7, a 8, a 9, a 10, a 11, a 12, a 13, a 14, a 15, a 16, a 17, a 18, a 19, a 20, a 21, a 22, a 23, a 24, a 25, a 26, a 27, a 28, a 29, a 30, a 31, a 32, a 33, a 34, a 35, q, r, a 38, a 39]) c0 _ = _ from hal]
    simp only [Option.bind_some, Bool.not_true, cond_false, decide_true, hbs]
    by_cases hz : k = 0
    · subst hz
      have : decide (((0 : Nat) : Int) = 0) = true := rfl
      simp only [this, cond_true]
      exact ih
    · obtain ⟨k', rfl⟩ : ∃ k', k = k' + 1 := ⟨k - 1, by omega⟩
      have e0 : ¬ ((k' + 1 : Nat) : Int) = 0 := by omega
      have e1 : IntKind.i64.wrap (((k' + 1 : Nat) : Int) - 1) = (k' : Int) := by rw [w64 (by omega) (by omega)]; omega
      have e2 : (0 : Int) ≤ (k' : Int) := by omega
      have e3 : (k' : Int) < Int.ofNat P.1 := by simp; omega
      have e4 : (k' : Int) < Int.ofNat S.1 := by simp; omega
      have hv' := am_ok (hv k' (by omega)) hc
      have hfast : fastB (row a c0) (am (P.2 (k' + 1)) c0) (am (P.2 k') c0) = false := by
        unfold lfv at hl
        rw [decide_eq_true hw] at hl
        cases hx : fastB (row a c0) (am (P.2 (k' + 1)) c0) (am (P.2 k') c0)
        · rfl
        · have : decide (0 < k' + 1) = true := by simp
          rw [this, show k' + 1 - 1 = k' from rfl, hx] at hl
          exact absurd (show (26 : Int) = 0 from hl) (by decide)
      have hmx : decide ((row a c0) 5 < maxI (am (P.2 (k' + 1)) c0 1 - am (P.2 k') c0 1) (-(am (P.2 (k' + 1)) c0 1 - am (P.2 k') c0 1))) = false := by
        unfold fastB at hfast
        cases hx : decide ((row a c0) 5 < maxI (am (P.2 (k' + 1)) c0 1 - am (P.2 k') c0 1) (-(am (P.2 (k' + 1)) c0 1 - am (P.2 k') c0 1)))
        · rfl
        · rw [hx] at hfast
          cases hfast
      rw [lt_maxI, Bool.or_eq_false_iff] at hmx
      have b1 := hu.2.1
      have b2 := hv'.2.1
      have w1 : IntKind.i64.wrap (am (P.2 (k' + 1)) c0 1 - am (P.2 k') c0 1) = am (P.2 (k' + 1)) c0 1 - am (P.2 k') c0 1 := w64 (by omega) (by omega)
      have w2 : IntKind.i64.wrap (0 - (am (P.2 (k' + 1)) c0 1 - am (P.2 k') c0 1)) = -(am (P.2 (k' + 1)) c0 1 - am (P.2 k') c0 1) := by rw [w64 (by omega) (by omega)]; omega
      have f1' : ¬ (row a c0) 5 < IntKind.i64.wrap (am (P.2 (k' + 1)) c0 1 - am (P.2 k') c0 1) := by rw [w1]; exact of_decide_eq_false hmx.1
      have f1 : ¬ [a 5, a 11, a 17, a 23, a 29, a 35].getD c0.toNat 0 < IntKind.i64.wrap ([P.2 (k' + 1) 5, P.2 (k' + 1) 8, P.2 (k' + 1) 11, P.2 (k' + 1) 14, P.2 (k' + 1) 17, P.2 (k' + 1) 20].getD c0.toNat 0 - [P.2 k' 5, P.2 k' 8, P.2 k' 11, P.2 k' 14, P.2 k' 17, P.2 k' 20].getD c0.toNat 0) := f1'
      have f2' : ¬ (row a c0) 5 < IntKind.i64.wrap (0 - IntKind.i64.wrap (am (P.2 (k' + 1)) c0 1 - am (P.2 k') c0 1)) := by rw [w1, w2]; exact of_decide_eq_false hmx.2
      have f2 : ¬ [a 5, a 11, a 17, a 23, a 29, a 35].getD c0.toNat 0 < IntKind.i64.wrap (0 - IntKind.i64.wrap ([P.2 (k' + 1) 5, P.2 (k' + 1) 8, P.2 (k' + 1) 11, P.2 (k' + 1) 14, P.2 (k' + 1) 17, P.2 (k' + 1) 20].getD c0.toNat 0 - [P.2 k' 5, P.2 k' 8, P.2 k' 11, P.2 k' 14, P.2 k' 17, P.2 k' 20].getD c0.toNat 0)) := f2'
      have hair : (cond (decide (a 38 = 0)) (some (decide (S.2 k' 0 = 0))) (some false)) = some false := by
        by_cases h38 : a 38 = 0
        · by_cases hs : S.2 k' 0 = 0
          · exfalso
            apply z3
            have := run_le S.2 k'
            simp only [run, hs, decide_true, cond_true]
            omega
          · simp [h38, hs]
        · simp [h38]
      simp only [e0, e1, e2, e3, e4, decide_true, decide_false, cond_true, cond_false, Int.toNat_natCast]
      simp only [f1, f2, hair, decide_false, cond_false, Option.bind_some]
      exact ih
theorem lawHold (a : Nat → Int) (b : Sl × Sl) (c : Nat → Int) : f9 a b c = some true := by
  unfold f9
  rw [great_eq]
  cases h : (decide (100 < b.1.1) || decide (100 < b.2.1))
  case true => rfl
  have h' : ¬ 100 < b.1.1 ∧ ¬ 100 < b.2.1 := by simpa using h
  rw [lfirst_eq (a := cpL a) (by omega) (by omega), awake_eq]
  by_cases he : (first (cpL a) b).2 = 0
  case neg =>
    have hz := first_bad he
    generalize first (cpL a) b = F at *
    obtain ⟨F1, F2⟩ := F
    simp only at he hz
    subst hz
    simp [he, nthI]
  obtain ⟨ha, hl1, hl2, hv, hF⟩ := first_ok he
  have hv' := vF_zero _ _ hv
  rw [hF]
  by_cases h0 : (fst1 (cpL a) ((cpL a) 36) ((cpL a) 37) b.1.2 b.2.2 b.1.1 0).1 = 0
  case neg =>
    generalize fst1 (cpL a) ((cpL a) 36) ((cpL a) 37) b.1.2 b.2.2 b.1.1 0 = x at *
    simp [h0, nthI]
  have hall := fst1_all _ _ h0
  rw [fst1_z _ _ h0]
  by_cases hc : 0 ≤ c 0 ∧ c 0 < 6
  case neg =>
    by_cases hc0 : c 0 < 0
    · simp [hc0, nthI]
    · have : 6 ≤ c 0 := by omega
      simp [hc0, this, nthI]
  have c1 : ¬ c 0 < 0 := by omega
  have c2 : ¬ 6 ≤ c 0 := by omega
  have e1 : decide (Int.ofNat b.1.1 = IntKind.i64.wrap (Int.ofNat b.2.1 + 1)) = true := by
    apply decide_eq_true
    rw [w64 (by simp; omega) (by simp; omega)]
    simp
    omega
  have e2 : l9_0 (nthI [0, a 0, a 1, a 2, a 3, a 4, a 5, a 6, a 7, a 8, a 9, a 10, a 11, a 12, a 13, a 14, a 15, a 16, a 17, a 18, a 19, a 20, a 21, a 22, a 23, a 24, a 25, a 26, a 27, a 28, a 29, a 30, a 31, a 32, a 33, a 34, a 35, bif !decide (a 36 = 0) then 1 else 0, bif !decide (a 37 = 0) then 1 else 0, a 38, a 39, c 0, c 1, c 2, c 3]) (nthS [b.1, b.2]) = _ := hold (a := cpL a) ha (q := bif !decide (a 36 = 0) then 1 else 0) (r := bif !decide (a 37 = 0) then 1 else 0) (c0 := c 0) (c1 := c 1) (c2 := c 2) (c3 := c 3) hc (bq _) (bq _) (P := b.1) (S := b.2) hl2 (by omega) (fun j hj => hv' j (by omega) (by omega)) (fun j hj => hall j (by omega) (by omega)) b.1.1 (b.1.1 + 1) 0 (by omega) (by omega)
  rw [e1, e2]
  simp [c1, c2, nthI]

end Go.Proofs.Ytbiedpabdkbpfaa
