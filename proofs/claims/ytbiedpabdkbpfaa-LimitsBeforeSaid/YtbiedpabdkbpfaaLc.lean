/-
  THE PLAIN LAWS: what the contracts compute answers as the statements say.
-/
import Derived.Test.YtbiedpabdkbpfaaLb
open Go Go.VE Go.Proofs
set_option maxRecDepth 1000000
set_option maxHeartbeats 0
set_option linter.unusedVariables false
set_option linter.unusedSimpArgs false
namespace Go.Proofs.Ytbiedpabdkbpfaa
theorem bj2 {α : Type} {c d : Bool} {E K : Option α} : (Option.bind (cond c (some true) (some d)) fun r => cond r E K) = cond (c || d) E K := by cases c <;> rfl
theorem nar_snd (l m : Nat → Int) : (decide (minI (l 1) (m 1) < maxI (l 0) (m 0)) || decide ((sec l m).2 < 0)) = !(nar l m).2 := by
  unfold nar
  cases (decide (minI (l 1) (m 1) < maxI (l 0) (m 0)) || decide ((sec l m).2 < 0)) <;> rfl
theorem nar_fst {l m : Nat → Int} (h : (nar l m).2 = true) : nar l m = (nthI [maxI (l 0) (m 0), minI (l 1) (m 1), (sec l m).1, (sec l m).2, minI (l 4) (m 4), minI (l 5) (m 5)], true) := by
  have e := nar_snd l m
  rw [h] at e
  unfold nar
  rw [e]
  rfl
def bb (x y : Int) : Int := bif !decide (x = 0) then (bif !decide (y = 0) then 1 else 0) else 0
noncomputable def narL (a b : Nat → Int) : Nat → Int := nthI [(nar (a) (b)).1 0, (nar (a) (b)).1 1, (nar (a) (b)).1 2, (nar (a) (b)).1 3, (nar (a) (b)).1 4, (nar (a) (b)).1 5, (nar (nthI [a 6, a 7, a 8, a 9, a 10, a 11]) (nthI [b 6, b 7, b 8, b 9, b 10, b 11])).1 0, (nar (nthI [a 6, a 7, a 8, a 9, a 10, a 11]) (nthI [b 6, b 7, b 8, b 9, b 10, b 11])).1 1, (nar (nthI [a 6, a 7, a 8, a 9, a 10, a 11]) (nthI [b 6, b 7, b 8, b 9, b 10, b 11])).1 2, (nar (nthI [a 6, a 7, a 8, a 9, a 10, a 11]) (nthI [b 6, b 7, b 8, b 9, b 10, b 11])).1 3, (nar (nthI [a 6, a 7, a 8, a 9, a 10, a 11]) (nthI [b 6, b 7, b 8, b 9, b 10, b 11])).1 4, (nar (nthI [a 6, a 7, a 8, a 9, a 10, a 11]) (nthI [b 6, b 7, b 8, b 9, b 10, b 11])).1 5, (nar (nthI [a 12, a 13, a 14, a 15, a 16, a 17]) (nthI [b 12, b 13, b 14, b 15, b 16, b 17])).1 0, (nar (nthI [a 12, a 13, a 14, a 15, a 16, a 17]) (nthI [b 12, b 13, b 14, b 15, b 16, b 17])).1 1, (nar (nthI [a 12, a 13, a 14, a 15, a 16, a 17]) (nthI [b 12, b 13, b 14, b 15, b 16, b 17])).1 2, (nar (nthI [a 12, a 13, a 14, a 15, a 16, a 17]) (nthI [b 12, b 13, b 14, b 15, b 16, b 17])).1 3, (nar (nthI [a 12, a 13, a 14, a 15, a 16, a 17]) (nthI [b 12, b 13, b 14, b 15, b 16, b 17])).1 4, (nar (nthI [a 12, a 13, a 14, a 15, a 16, a 17]) (nthI [b 12, b 13, b 14, b 15, b 16, b 17])).1 5, (nar (nthI [a 18, a 19, a 20, a 21, a 22, a 23]) (nthI [b 18, b 19, b 20, b 21, b 22, b 23])).1 0, (nar (nthI [a 18, a 19, a 20, a 21, a 22, a 23]) (nthI [b 18, b 19, b 20, b 21, b 22, b 23])).1 1, (nar (nthI [a 18, a 19, a 20, a 21, a 22, a 23]) (nthI [b 18, b 19, b 20, b 21, b 22, b 23])).1 2, (nar (nthI [a 18, a 19, a 20, a 21, a 22, a 23]) (nthI [b 18, b 19, b 20, b 21, b 22, b 23])).1 3, (nar (nthI [a 18, a 19, a 20, a 21, a 22, a 23]) (nthI [b 18, b 19, b 20, b 21, b 22, b 23])).1 4, (nar (nthI [a 18, a 19, a 20, a 21, a 22, a 23]) (nthI [b 18, b 19, b 20, b 21, b 22, b 23])).1 5, (nar (nthI [a 24, a 25, a 26, a 27, a 28, a 29]) (nthI [b 24, b 25, b 26, b 27, b 28, b 29])).1 0, (nar (nthI [a 24, a 25, a 26, a 27, a 28, a 29]) (nthI [b 24, b 25, b 26, b 27, b 28, b 29])).1 1, (nar (nthI [a 24, a 25, a 26, a 27, a 28, a 29]) (nthI [b 24, b 25, b 26, b 27, b 28, b 29])).1 2, (nar (nthI [a 24, a 25, a 26, a 27, a 28, a 29]) (nthI [b 24, b 25, b 26, b 27, b 28, b 29])).1 3, (nar (nthI [a 24, a 25, a 26, a 27, a 28, a 29]) (nthI [b 24, b 25, b 26, b 27, b 28, b 29])).1 4, (nar (nthI [a 24, a 25, a 26, a 27, a 28, a 29]) (nthI [b 24, b 25, b 26, b 27, b 28, b 29])).1 5, (nar (nthI [a 30, a 31, a 32, a 33, a 34, a 35]) (nthI [b 30, b 31, b 32, b 33, b 34, b 35])).1 0, (nar (nthI [a 30, a 31, a 32, a 33, a 34, a 35]) (nthI [b 30, b 31, b 32, b 33, b 34, b 35])).1 1, (nar (nthI [a 30, a 31, a 32, a 33, a 34, a 35]) (nthI [b 30, b 31, b 32, b 33, b 34, b 35])).1 2, (nar (nthI [a 30, a 31, a 32, a 33, a 34, a 35]) (nthI [b 30, b 31, b 32, b 33, b 34, b 35])).1 3, (nar (nthI [a 30, a 31, a 32, a 33, a 34, a 35]) (nthI [b 30, b 31, b 32, b 33, b 34, b 35])).1 4, (nar (nthI [a 30, a 31, a 32, a 33, a 34, a 35]) (nthI [b 30, b 31, b 32, b 33, b 34, b 35])).1 5, bb (a 36) (b 36), bb (a 37) (b 37), minI (a 38) (b 38), minI (a 39) (b 39)]
noncomputable def okN (a b : Nat → Int) : Bool := (nar (a) (b)).2 && (nar (nthI [a 6, a 7, a 8, a 9, a 10, a 11]) (nthI [b 6, b 7, b 8, b 9, b 10, b 11])).2 && (nar (nthI [a 12, a 13, a 14, a 15, a 16, a 17]) (nthI [b 12, b 13, b 14, b 15, b 16, b 17])).2 && (nar (nthI [a 18, a 19, a 20, a 21, a 22, a 23]) (nthI [b 18, b 19, b 20, b 21, b 22, b 23])).2 && (nar (nthI [a 24, a 25, a 26, a 27, a 28, a 29]) (nthI [b 24, b 25, b 26, b 27, b 28, b 29])).2 && (nar (nthI [a 30, a 31, a 32, a 33, a 34, a 35]) (nthI [b 30, b 31, b 32, b 33, b 34, b 35])).2
theorem lnarrow_a {a : Nat → Int} (ha : ¬ limOk a) (b : Nat → Int) : f19 a b = some (z40, 1) := by
  unfold f19
  rw [lc_out ha]
  rfl
theorem lnarrow_b {a b : Nat → Int} (ha : limOk a) (hb : ¬ limOk b) : f19 a b = some (z40, 1) := by
  unfold f19
  rw [lc_in ha, lc_out hb]
  rfl
set_option maxHeartbeats 4000000 in
theorem lnarrow_in {a b : Nat → Int} (ha : limOk a) (hb : limOk b) : f19 a b = some (bif okN a b then (narL a b, 0) else (z40, 25)) := by
  obtain ⟨a0, a1, a2, a3, a4, a5, _⟩ := id ha
  obtain ⟨b0, b1, b2, b3, b4, b5, _⟩ := id hb
  have q0 : f37 (a) (b) = some (nar (a) (b)) := narrow_eq (l := a) (m := b) a0 b0
  have q1 : f37 (nthI [a 6, a 7, a 8, a 9, a 10, a 11]) (nthI [b 6, b 7, b 8, b 9, b 10, b 11]) = some (nar (nthI [a 6, a 7, a 8, a 9, a 10, a 11]) (nthI [b 6, b 7, b 8, b 9, b 10, b 11])) := narrow_eq (l := nthI [a 6, a 7, a 8, a 9, a 10, a 11]) (m := nthI [b 6, b 7, b 8, b 9, b 10, b 11]) a1 b1
  have q2 : f37 (nthI [a 12, a 13, a 14, a 15, a 16, a 17]) (nthI [b 12, b 13, b 14, b 15, b 16, b 17]) = some (nar (nthI [a 12, a 13, a 14, a 15, a 16, a 17]) (nthI [b 12, b 13, b 14, b 15, b 16, b 17])) := narrow_eq (l := nthI [a 12, a 13, a 14, a 15, a 16, a 17]) (m := nthI [b 12, b 13, b 14, b 15, b 16, b 17]) a2 b2
  have q3 : f37 (nthI [a 18, a 19, a 20, a 21, a 22, a 23]) (nthI [b 18, b 19, b 20, b 21, b 22, b 23]) = some (nar (nthI [a 18, a 19, a 20, a 21, a 22, a 23]) (nthI [b 18, b 19, b 20, b 21, b 22, b 23])) := narrow_eq (l := nthI [a 18, a 19, a 20, a 21, a 22, a 23]) (m := nthI [b 18, b 19, b 20, b 21, b 22, b 23]) a3 b3
  have q4 : f37 (nthI [a 24, a 25, a 26, a 27, a 28, a 29]) (nthI [b 24, b 25, b 26, b 27, b 28, b 29]) = some (nar (nthI [a 24, a 25, a 26, a 27, a 28, a 29]) (nthI [b 24, b 25, b 26, b 27, b 28, b 29])) := narrow_eq (l := nthI [a 24, a 25, a 26, a 27, a 28, a 29]) (m := nthI [b 24, b 25, b 26, b 27, b 28, b 29]) a4 b4
  have q5 : f37 (nthI [a 30, a 31, a 32, a 33, a 34, a 35]) (nthI [b 30, b 31, b 32, b 33, b 34, b 35]) = some (nar (nthI [a 30, a 31, a 32, a 33, a 34, a 35]) (nthI [b 30, b 31, b 32, b 33, b 34, b 35])) := narrow_eq (l := nthI [a 30, a 31, a 32, a 33, a 34, a 35]) (m := nthI [b 30, b 31, b 32, b 33, b 34, b 35]) a5 b5
  unfold f19 okN narL bb
  rw [lc_in ha, lc_in hb]
  simp only [Option.bind_some, decide_true, Bool.not_true, cond_false, q0, q1, q2, q3, q4, q5]
  generalize nar (a) (b) = n0
  generalize nar (nthI [a 6, a 7, a 8, a 9, a 10, a 11]) (nthI [b 6, b 7, b 8, b 9, b 10, b 11]) = n1
  generalize nar (nthI [a 12, a 13, a 14, a 15, a 16, a 17]) (nthI [b 12, b 13, b 14, b 15, b 16, b 17]) = n2
  generalize nar (nthI [a 18, a 19, a 20, a 21, a 22, a 23]) (nthI [b 18, b 19, b 20, b 21, b 22, b 23]) = n3
  generalize nar (nthI [a 24, a 25, a 26, a 27, a 28, a 29]) (nthI [b 24, b 25, b 26, b 27, b 28, b 29]) = n4
  generalize nar (nthI [a 30, a 31, a 32, a 33, a 34, a 35]) (nthI [b 30, b 31, b 32, b 33, b 34, b 35]) = n5
  obtain ⟨n0, o0⟩ := n0
  obtain ⟨n1, o1⟩ := n1
  obtain ⟨n2, o2⟩ := n2
  obtain ⟨n3, o3⟩ := n3
  obtain ⟨n4, o4⟩ := n4
  obtain ⟨n5, o5⟩ := n5
  simp only
  cases o0
  case false => cases decide (a 36 = 0) <;> cases decide (a 37 = 0) <;> rfl
  cases o1
  case false => cases decide (a 36 = 0) <;> cases decide (a 37 = 0) <;> rfl
  cases o2
  case false => cases decide (a 36 = 0) <;> cases decide (a 37 = 0) <;> rfl
  cases o3
  case false => cases decide (a 36 = 0) <;> cases decide (a 37 = 0) <;> rfl
  cases o4
  case false => cases decide (a 36 = 0) <;> cases decide (a 37 = 0) <;> rfl
  cases o5
  case false => cases decide (a 36 = 0) <;> cases decide (a 37 = 0) <;> rfl
  cases decide (a 36 = 0) <;> cases decide (a 37 = 0) <;> rfl
theorem lnarrow_some (a b : Nat → Int) : ∃ z e, f19 a b = some (z, e) := by
  by_cases ha : limOk a
  · by_cases hb : limOk b
    · rw [lnarrow_in ha hb]
      cases okN a b
      · exact ⟨_, _, rfl⟩
      · exact ⟨_, _, rfl⟩
    · exact ⟨_, _, lnarrow_b ha hb⟩
  · exact ⟨_, _, lnarrow_a ha b⟩
set_option maxHeartbeats 4000000 in
theorem rnarrow_eq (a b : Nat → Int) : f20 a b = f19 a b := by
  by_cases ha : limOk a
  case neg =>
    rw [lnarrow_a ha]
    unfold f20
    rw [rlc_eq, lc_out ha]
    rfl
  by_cases hb : limOk b
  case neg =>
    rw [lnarrow_b ha hb]
    unfold f20
    rw [rlc_eq, rlc_eq, lc_in ha, lc_out hb]
    rfl
  · rw [lnarrow_in ha hb]
    obtain ⟨a0, a1, a2, a3, a4, a5, _⟩ := id ha
    obtain ⟨b0, b1, b2, b3, b4, b5, _⟩ := id hb
    have s0 : f38 (a) (b) = some (sec (a) (b)) := rsector_eq (l := a) (m := b) a0 b0
    have s1 : f38 (nthI [a 6, a 7, a 8, a 9, a 10, a 11]) (nthI [b 6, b 7, b 8, b 9, b 10, b 11]) = some (sec (nthI [a 6, a 7, a 8, a 9, a 10, a 11]) (nthI [b 6, b 7, b 8, b 9, b 10, b 11])) := rsector_eq (l := nthI [a 6, a 7, a 8, a 9, a 10, a 11]) (m := nthI [b 6, b 7, b 8, b 9, b 10, b 11]) a1 b1
    have s2 : f38 (nthI [a 12, a 13, a 14, a 15, a 16, a 17]) (nthI [b 12, b 13, b 14, b 15, b 16, b 17]) = some (sec (nthI [a 12, a 13, a 14, a 15, a 16, a 17]) (nthI [b 12, b 13, b 14, b 15, b 16, b 17])) := rsector_eq (l := nthI [a 12, a 13, a 14, a 15, a 16, a 17]) (m := nthI [b 12, b 13, b 14, b 15, b 16, b 17]) a2 b2
    have s3 : f38 (nthI [a 18, a 19, a 20, a 21, a 22, a 23]) (nthI [b 18, b 19, b 20, b 21, b 22, b 23]) = some (sec (nthI [a 18, a 19, a 20, a 21, a 22, a 23]) (nthI [b 18, b 19, b 20, b 21, b 22, b 23])) := rsector_eq (l := nthI [a 18, a 19, a 20, a 21, a 22, a 23]) (m := nthI [b 18, b 19, b 20, b 21, b 22, b 23]) a3 b3
    have s4 : f38 (nthI [a 24, a 25, a 26, a 27, a 28, a 29]) (nthI [b 24, b 25, b 26, b 27, b 28, b 29]) = some (sec (nthI [a 24, a 25, a 26, a 27, a 28, a 29]) (nthI [b 24, b 25, b 26, b 27, b 28, b 29])) := rsector_eq (l := nthI [a 24, a 25, a 26, a 27, a 28, a 29]) (m := nthI [b 24, b 25, b 26, b 27, b 28, b 29]) a4 b4
    have s5 : f38 (nthI [a 30, a 31, a 32, a 33, a 34, a 35]) (nthI [b 30, b 31, b 32, b 33, b 34, b 35]) = some (sec (nthI [a 30, a 31, a 32, a 33, a 34, a 35]) (nthI [b 30, b 31, b 32, b 33, b 34, b 35])) := rsector_eq (l := nthI [a 30, a 31, a 32, a 33, a 34, a 35]) (m := nthI [b 30, b 31, b 32, b 33, b 34, b 35]) a5 b5
    have e0 : (decide (minI (a 1) (b 1) < maxI (a 0) (b 0)) || decide ((sec (a) (b)).2 < 0)) = !(nar (a) (b)).2 := nar_snd (a) (b)
    have e1 : (decide (minI (a 7) (b 7) < maxI (a 6) (b 6)) || decide ((sec (nthI [a 6, a 7, a 8, a 9, a 10, a 11]) (nthI [b 6, b 7, b 8, b 9, b 10, b 11])).2 < 0)) = !(nar (nthI [a 6, a 7, a 8, a 9, a 10, a 11]) (nthI [b 6, b 7, b 8, b 9, b 10, b 11])).2 := nar_snd (nthI [a 6, a 7, a 8, a 9, a 10, a 11]) (nthI [b 6, b 7, b 8, b 9, b 10, b 11])
    have e2 : (decide (minI (a 13) (b 13) < maxI (a 12) (b 12)) || decide ((sec (nthI [a 12, a 13, a 14, a 15, a 16, a 17]) (nthI [b 12, b 13, b 14, b 15, b 16, b 17])).2 < 0)) = !(nar (nthI [a 12, a 13, a 14, a 15, a 16, a 17]) (nthI [b 12, b 13, b 14, b 15, b 16, b 17])).2 := nar_snd (nthI [a 12, a 13, a 14, a 15, a 16, a 17]) (nthI [b 12, b 13, b 14, b 15, b 16, b 17])
    have e3 : (decide (minI (a 19) (b 19) < maxI (a 18) (b 18)) || decide ((sec (nthI [a 18, a 19, a 20, a 21, a 22, a 23]) (nthI [b 18, b 19, b 20, b 21, b 22, b 23])).2 < 0)) = !(nar (nthI [a 18, a 19, a 20, a 21, a 22, a 23]) (nthI [b 18, b 19, b 20, b 21, b 22, b 23])).2 := nar_snd (nthI [a 18, a 19, a 20, a 21, a 22, a 23]) (nthI [b 18, b 19, b 20, b 21, b 22, b 23])
    have e4 : (decide (minI (a 25) (b 25) < maxI (a 24) (b 24)) || decide ((sec (nthI [a 24, a 25, a 26, a 27, a 28, a 29]) (nthI [b 24, b 25, b 26, b 27, b 28, b 29])).2 < 0)) = !(nar (nthI [a 24, a 25, a 26, a 27, a 28, a 29]) (nthI [b 24, b 25, b 26, b 27, b 28, b 29])).2 := nar_snd (nthI [a 24, a 25, a 26, a 27, a 28, a 29]) (nthI [b 24, b 25, b 26, b 27, b 28, b 29])
    have e5 : (decide (minI (a 31) (b 31) < maxI (a 30) (b 30)) || decide ((sec (nthI [a 30, a 31, a 32, a 33, a 34, a 35]) (nthI [b 30, b 31, b 32, b 33, b 34, b 35])).2 < 0)) = !(nar (nthI [a 30, a 31, a 32, a 33, a 34, a 35]) (nthI [b 30, b 31, b 32, b 33, b 34, b 35])).2 := nar_snd (nthI [a 30, a 31, a 32, a 33, a 34, a 35]) (nthI [b 30, b 31, b 32, b 33, b 34, b 35])
    unfold f20
    rw [rlc_eq, rlc_eq, lc_in ha, lc_in hb]
    simp -implicitDefEqProofs only [Option.bind_some, decide_true, Bool.not_true, cond_false, s0, s1, s2, s3, s4, s5, bj2, e0, e1, e2, e3, e4, e5]
    unfold okN narL bb
    cases h0 : (nar (a) (b)).2
    case false =>
      simp -implicitDefEqProofs only [h0, Bool.not_true, Bool.not_false, cond_true, cond_false, Bool.false_and, Bool.true_and, Bool.and_false]
      cases decide (a 36 = 0) <;> cases decide (a 37 = 0) <;> rfl
    cases h1 : (nar (nthI [a 6, a 7, a 8, a 9, a 10, a 11]) (nthI [b 6, b 7, b 8, b 9, b 10, b 11])).2
    case false =>
      simp -implicitDefEqProofs only [h0, h1, Bool.not_true, Bool.not_false, cond_true, cond_false, Bool.false_and, Bool.true_and, Bool.and_false]
      cases decide (a 36 = 0) <;> cases decide (a 37 = 0) <;> rfl
    cases h2 : (nar (nthI [a 12, a 13, a 14, a 15, a 16, a 17]) (nthI [b 12, b 13, b 14, b 15, b 16, b 17])).2
    case false =>
      simp -implicitDefEqProofs only [h0, h1, h2, Bool.not_true, Bool.not_false, cond_true, cond_false, Bool.false_and, Bool.true_and, Bool.and_false]
      cases decide (a 36 = 0) <;> cases decide (a 37 = 0) <;> rfl
    cases h3 : (nar (nthI [a 18, a 19, a 20, a 21, a 22, a 23]) (nthI [b 18, b 19, b 20, b 21, b 22, b 23])).2
    case false =>
      simp -implicitDefEqProofs only [h0, h1, h2, h3, Bool.not_true, Bool.not_false, cond_true, cond_false, Bool.false_and, Bool.true_and, Bool.and_false]
      cases decide (a 36 = 0) <;> cases decide (a 37 = 0) <;> rfl
    cases h4 : (nar (nthI [a 24, a 25, a 26, a 27, a 28, a 29]) (nthI [b 24, b 25, b 26, b 27, b 28, b 29])).2
    case false =>
      simp -implicitDefEqProofs only [h0, h1, h2, h3, h4, Bool.not_true, Bool.not_false, cond_true, cond_false, Bool.false_and, Bool.true_and, Bool.and_false]
      cases decide (a 36 = 0) <;> cases decide (a 37 = 0) <;> rfl
    cases h5 : (nar (nthI [a 30, a 31, a 32, a 33, a 34, a 35]) (nthI [b 30, b 31, b 32, b 33, b 34, b 35])).2
    case false =>
      simp -implicitDefEqProofs only [h0, h1, h2, h3, h4, h5, Bool.not_true, Bool.not_false, cond_true, cond_false, Bool.false_and, Bool.true_and, Bool.and_false]
      cases decide (a 36 = 0) <;> cases decide (a 37 = 0) <;> rfl
    rw [nar_fst h0, nar_fst h1, nar_fst h2, nar_fst h3, nar_fst h4, nar_fst h5]
    simp -implicitDefEqProofs only [Bool.not_true, Bool.not_false, cond_true, cond_false, Bool.and_self]
    cases decide (a 36 = 0) <;> cases decide (a 37 = 0) <;> rfl

theorem lawNarrows (a b : Nat → Int) : f5 a b = some true := by
  unfold f5
  obtain ⟨z, e, hm⟩ := lnarrow_some (cpL a) (cpL b)
  rw [rnarrow_eq, hm, awake_eq]
  simp only [Option.bind_some, decide_true, Bool.and_self, cond_true, BEq.rfl]

end Go.Proofs.Ytbiedpabdkbpfaa
