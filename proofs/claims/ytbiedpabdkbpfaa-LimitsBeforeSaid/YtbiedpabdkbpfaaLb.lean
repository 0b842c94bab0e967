/-
  THE PLAIN LAWS: what the contracts compute answers as the statements say.
-/
import Derived.Test.YtbiedpabdkbpfaaLa
open Go Go.VE Go.Proofs
set_option maxRecDepth 1000000
set_option maxHeartbeats 0
set_option linter.unusedVariables false
set_option linter.unusedSimpArgs false
namespace Go.Proofs.Ytbiedpabdkbpfaa
/-! ### Runs of azimuths -/
def fF (p : Int → Bool) : Nat → Int → Int
  | 0, k => k
  | d + 1, k => bif p k then k else fF p d (k + 1)
def hF (p : Int → Bool) : Nat → Int → Int
  | 0, _ => 0
  | d + 1, k => bif p k then 1 + hF p d (k + 1) else 0
theorem fF_le (p : Int → Bool) : ∀ (d : Nat) (k : Int), k ≤ fF p d k ∧ fF p d k ≤ k + d
  | 0, k => by simp [fF]
  | d + 1, k => by
    have := fF_le p d (k + 1)
    simp only [fF]
    cases p k
    · simp only [cond_false]; omega
    · simp only [cond_true]; omega
theorem hF_le (p : Int → Bool) : ∀ (d : Nat) (k : Int), 0 ≤ hF p d k ∧ hF p d k ≤ d
  | 0, k => by simp [hF]
  | d + 1, k => by
    have := hF_le p d (k + 1)
    simp only [hF]
    cases p k
    · simp only [cond_false]; omega
    · simp only [cond_true]; omega
theorem fF_hit (p : Int → Bool) : ∀ (d : Nat) (k : Int), fF p d k < k + d → p (fF p d k) = true
  | 0, k => by simp [fF]
  | d + 1, k => by
    have := fF_hit p d (k + 1)
    simp only [fF]
    cases hp : p k
    · simp only [cond_false]; intro h; exact this (by omega)
    · simp only [cond_true]; intro _; exact hp
theorem fF_miss (p : Int → Bool) : ∀ (d : Nat) (k j : Int), k ≤ j → j < fF p d k → p j = false
  | 0, k, j => by simp only [fF]; omega
  | d + 1, k, j => by
    have ih := fF_miss p d (k + 1) j
    simp only [fF]
    cases hp : p k
    · simp only [cond_false]
      intro h1 h2
      by_cases hj : j = k
      · rw [hj]; exact hp
      · exact ih (by omega) h2
    · simp only [cond_true]; omega
theorem hF_hit (p : Int → Bool) : ∀ (d : Nat) (k j : Int), k ≤ j → j < k + hF p d k → p j = true
  | 0, k, j => by simp only [hF]; omega
  | d + 1, k, j => by
    have ih := hF_hit p d (k + 1) j
    simp only [hF]
    cases hp : p k
    · simp only [cond_false]; omega
    · simp only [cond_true]
      intro h1 h2
      by_cases hj : j = k
      · rw [hj]; exact hp
      · exact ih (by omega) (by omega)
theorem hF_miss (p : Int → Bool) : ∀ (d : Nat) (k : Int), hF p d k < d → p (k + hF p d k) = false
  | 0, k => by simp [hF]
  | d + 1, k => by
    have ih := hF_miss p d (k + 1)
    simp only [hF]
    cases hp : p k
    · simp only [cond_false, Int.add_zero]; intro _; exact hp
    · simp only [cond_true]
      intro h
      have := ih (by omega)
      rwa [show k + (1 + hF p d (k + 1)) = k + 1 + hF p d (k + 1) by omega]
theorem fF_all (p : Int → Bool) (d : Nat) (k : Int) (h : p k = true) (hd : 0 < d) : fF p d k = k := by
  cases d with
  | zero => omega
  | succ d => simp [fF, h]
theorem hF_all (p : Int → Bool) : ∀ (d : Nat) (k : Int), (∀ j, k ≤ j → j < k + d → p j = true) → hF p d k = d
  | 0, k, _ => by simp [hF]
  | d + 1, k, h => by
    have h0 := h k (by omega) (by omega)
    have := hF_all p d (k + 1) (fun j h1 h2 => h j (by omega) (by omega))
    simp only [hF, h0, cond_true, this]
    omega
def insP (a b w k : Int) : Bool := decide ((a + k - b) % 256 ≤ w)
theorem n0 {c1 c2 c3 c4 c5 c6 c7 c8 c9 c10 c11 c12 c13 c14 c15 c16 c17 c18 c19 c20 c21 c22 c23 c24 : Int} {Y : Nat → Sl} (h3 : 0 ≤ c3 ∧ c3 ≤ 255) (h4 : 0 ≤ c4 ∧ c4 ≤ 255) (h9 : 0 ≤ c9 ∧ c9 ≤ 255) : ∀ (d m : Nat) (k : Int), 0 ≤ k → k + d = c4 + 1 → d < m →
    iterL s37_0 m (nthI [k, c1, c2, c3, c4, c5, c6, c7, c8, c9, c10, c11, c12, c13, c14, c15, c16, c17, c18, c19, c20, c21, c22, c23, c24]) Y = some (0, nthI [fF (insP c3 c9 c10) d k, c1, c2, c3, c4, c5, c6, c7, c8, c9, c10, c11, c12, c13, c14, c15, c16, c17, c18, c19, c20, c21, c22, c23, c24], nthS [])
  | d, 0, k, _, _, h => by omega
  | 0, m + 1, k, h0, h1, _ => by
    have hk : ¬ k ≤ c4 := by omega
    simp only [iterL, s37_0, nthI, hk, decide_false, cond_false, fF]
  | d + 1, m + 1, k, h0, h1, h2 => by
    have hk : k ≤ c4 := by omega
    have ih := n0 (c1 := c1) (c2 := c2) (c3 := c3) (c4 := c4) (c5 := c5) (c6 := c6) (c7 := c7) (c8 := c8) (c9 := c9) (c10 := c10) (c11 := c11) (c12 := c12) (c13 := c13) (c14 := c14) (c15 := c15) (c16 := c16) (c17 := c17) (c18 := c18) (c19 := c19) (c20 := c20) (c21 := c21) (c22 := c22) (c23 := c23) (c24 := c24) (Y := nthS []) h3 h4 h9 d m (k + 1) (by omega) (by omega) (by omega)
    have hs : f50 (nthI [c7, c8, c9, c10, c11, c12]) (c3 + k) = some (insP c3 c9 c10 k) := sector_eq (l := nthI [c7, c8, c9, c10, c11, c12]) h9 ⟨by omega, by omega⟩
    simp only [iterL, s37_0, nthI, hk, decide_true, cond_true, fF]
    rw [w64 (n := c3 + k) (by omega) (by omega), w64 (n := k + 1) (by omega) (by omega), hs]
    simp only [Option.bind_some]
    cases insP c3 c9 c10 k
    · exact ih
    · rfl
theorem n1 {c0 c2 c3 c4 c5 c6 c7 c8 c9 c10 c11 c12 c13 c14 c15 c16 c17 c18 c19 c20 c21 c22 c23 c24 c25 : Int} {Y : Nat → Sl} (h4 : 0 ≤ c4 ∧ c4 ≤ 255) (h5 : 0 ≤ c5 ∧ c5 ≤ 255) (h10 : 0 ≤ c10 ∧ c10 ≤ 255) : ∀ (d m : Nat) (k : Int), 0 ≤ k → k + d = c5 → d < m →
    iterL s37_1 m (nthI [c0, k, c2, c3, c4, c5, c6, c7, c8, c9, c10, c11, c12, c13, c14, c15, c16, c17, c18, c19, c20, c21, c22, c23, c24, c25]) Y = some (0, nthI [c0, k + hF (insP c4 c10 c11) d (k + 1), c2, c3, c4, c5, c6, c7, c14, c15, c16, c17, c18, c19, c20, c21, c22, c23, c24, c25], nthS [])
  | d, 0, k, _, _, h => by omega
  | 0, m + 1, k, h0, h1, _ => by
    have hk : ¬ k < c5 := by omega
    simp only [iterL, s37_1, nthI, hk, decide_false, cond_false, hF, Int.add_zero]
  | d + 1, m + 1, k, h0, h1, h2 => by
    have hk : k < c5 := by omega
    have ih := n1 (c0 := c0) (c2 := c2) (c3 := c3) (c4 := c4) (c5 := c5) (c6 := c6) (c7 := c7) (c8 := c8) (c9 := c9) (c10 := c10) (c11 := c11) (c12 := c12) (c13 := c13) (c14 := c14) (c15 := c15) (c16 := c16) (c17 := c17) (c18 := c18) (c19 := c19) (c20 := c20) (c21 := c21) (c22 := c22) (c23 := c23) (c24 := c24) (c25 := c25) (Y := nthS []) h4 h5 h10 d m (k + 1) (by omega) (by omega) (by omega)
    have hs : f50 (nthI [c8, c9, c10, c11, c12, c13]) (c4 + k + 1) = some (insP c4 c10 c11 (k + 1)) := by
      rw [sector_eq (l := nthI [c8, c9, c10, c11, c12, c13]) h10 ⟨by omega, by omega⟩, insP, show c4 + (k + 1) - c10 = c4 + k + 1 - c10 by omega]
      rfl
    simp only [iterL, s37_1, nthI, hk, decide_true, cond_true, hF]
    rw [w64 (n := c4 + k) (by omega) (by omega), w64 (n := c4 + k + 1) (by omega) (by omega), w64 (n := k + 1) (by omega) (by omega), hs]
    simp only [Option.bind_some]
    cases insP c4 c10 c11 (k + 1)
    · simp only [cond_false, Int.add_zero]
    · simp only [cond_true]
      rw [ih, show k + (1 + hF (insP c4 c10 c11) d (k + 1 + 1)) = k + 1 + hF (insP c4 c10 c11) d (k + 1 + 1) by omega]
theorem r1 {c3 c4 c5 c6 c7 c8 c9 c10 c11 c12 c13 c14 : Int} {Y : Nat → Sl} (h5 : 0 ≤ c5 ∧ c5 ≤ 255) (h6 : 0 ≤ c6 ∧ c6 ≤ 255) (h11 : 0 ≤ c11 ∧ c11 ≤ 255) : ∀ (d m : Nat) (f w k : Int), 0 ≤ w → w ≤ 1000 - d → 0 ≤ k → k + d = c6 + 1 → d < m →
    ∃ t, iterL s38_0 m (nthI [f, w, k, c3, c4, c5, c6, c7, c8, c9, c10, c11, c12, c13, c14]) Y = some (t, nthI [f, w + hF (insP c5 c11 c12) d k], nthS [])
  | d, 0, f, w, k, _, _, _, _, h => by omega
  | 0, m + 1, f, w, k, _, _, h0, h1, _ => by
    have hk : ¬ k ≤ c6 := by omega
    exact ⟨0, by simp only [iterL, s38_0, nthI, hk, decide_false, cond_false, hF, Int.add_zero]⟩
  | d + 1, m + 1, f, w, k, hw, hw2, h0, h1, h2 => by
    have hk : k ≤ c6 := by omega
    have hnw : ¬ w < 0 := by omega
    obtain ⟨t, ih⟩ := r1 (c3 := c3) (c4 := c4) (c5 := c5) (c6 := c6) (c7 := c7) (c8 := c8) (c9 := c9) (c10 := c10) (c11 := c11) (c12 := c12) (c13 := c13) (c14 := c14) (Y := nthS []) h5 h6 h11 d m f (w + 1) (k + 1) (by omega) (by omega) (by omega) (by omega) (by omega)
    have hs : f53 (nthI [c9, c10, c11, c12, c13, c14]) (c5 + k) = some (insP c5 c11 c12 k) := rin_eq (l := nthI [c9, c10, c11, c12, c13, c14]) h11 ⟨by omega, by omega⟩
    simp only [iterL, s38_0, nthI, hk, hw, hnw, decide_true, cond_true, decide_false, cond_false, hF]
    rw [w64 (n := c5 + k) (by omega) (by omega), w64 (n := k + 1) (by omega) (by omega), w64 (n := w + 1) (by omega) (by omega), hs]
    simp only [Option.bind_some]
    cases insP c5 c11 c12 k
    · exact ⟨1, by simp only [Bool.not_false, cond_true, cond_false, Int.add_zero]⟩
    · refine ⟨t, ?_⟩
      simp only [Bool.not_true, cond_true, cond_false]
      rw [ih, show w + (1 + hF (insP c5 c11 c12) d (k + 1)) = w + 1 + hF (insP c5 c11 c12) d (k + 1) by omega]
theorem r0 {c3 c4 c5 c6 c7 c8 c9 c10 c11 c12 c13 c14 : Int} {Y : Nat → Sl} (h5 : 0 ≤ c5 ∧ c5 ≤ 255) (h6 : 0 ≤ c6 ∧ c6 ≤ 255) (h11 : 0 ≤ c11 ∧ c11 ≤ 255) : ∀ (d m : Nat) (k : Int), 0 ≤ k → k + d = c6 + 1 → d < m →
    ∃ t, iterL s38_0 m (nthI [0, -1, k, c3, c4, c5, c6, c7, c8, c9, c10, c11, c12, c13, c14]) Y = some (t, bif decide (fF (insP c5 c11 c12) d k ≤ c6) then nthI [(c5 + fF (insP c5 c11 c12) d k) % 256, hF (insP c5 c11 c12) (c6 - fF (insP c5 c11 c12) d k).toNat (fF (insP c5 c11 c12) d k + 1)] else nthI [0, -1], nthS [])
  | d, 0, k, _, _, h => by omega
  | 0, m + 1, k, h0, h1, _ => by
    have hk : ¬ k ≤ c6 := by omega
    exact ⟨0, by simp only [iterL, s38_0, nthI, hk, decide_false, cond_false, fF]⟩
  | d + 1, m + 1, k, h0, h1, h2 => by
    have hk : k ≤ c6 := by omega
    obtain ⟨t, ih⟩ := r0 (c3 := c3) (c4 := c4) (c5 := c5) (c6 := c6) (c7 := c7) (c8 := c8) (c9 := c9) (c10 := c10) (c11 := c11) (c12 := c12) (c13 := c13) (c14 := c14) (Y := nthS []) h5 h6 h11 d m (k + 1) (by omega) (by omega) (by omega)
    obtain ⟨t', ih'⟩ := r1 (c3 := c3) (c4 := c4) (c5 := c5) (c6 := c6) (c7 := c7) (c8 := c8) (c9 := c9) (c10 := c10) (c11 := c11) (c12 := c12) (c13 := c13) (c14 := c14) (Y := nthS []) h5 h6 h11 d m ((c5 + k) % 256) 0 (k + 1) (by omega) (by omega) (by omega) (by omega) (by omega)
    have hs : f53 (nthI [c9, c10, c11, c12, c13, c14]) (c5 + k) = some (insP c5 c11 c12 k) := rin_eq (l := nthI [c9, c10, c11, c12, c13, c14]) h11 ⟨by omega, by omega⟩
    have hn : ¬ (0 : Int) ≤ -1 := by omega
    have hn2 : (-1 : Int) < 0 := by omega
    simp only [iterL, s38_0, nthI, hk, hn, hn2, decide_true, cond_true, decide_false, cond_false, fF]
    rw [w64 (n := c5 + k) (by omega) (by omega), w64 (n := k + 1) (by omega) (by omega), hs, tmod_nonneg_eq (by omega : 0 ≤ c5 + k), show IntKind.i64.wrap (-1 + 1) = 0 from rfl]
    simp only [Option.bind_some]
    by_cases hp : insP c5 c11 c12 k = true
    case neg =>
      have hp := Bool.eq_false_iff.2 hp
      exact ⟨t, by simp only [hp, Bool.not_false, cond_true, cond_false]; exact ih⟩
    · refine ⟨t', ?_⟩
      simp only [hp, Bool.not_true, cond_true, cond_false, hk, decide_true]
      rw [ih', Int.zero_add, show (c6 - k).toNat = d by omega]

/-! ### Narrowing one limit -/
noncomputable def fst (l m : Nat → Int) : Int := fF (insP (l 2) (m 2) (m 3)) (l 3 + 1).toNat 0
noncomputable def sec (l m : Nat → Int) : Int × Int := bif decide (fst l m ≤ l 3) then ((l 2 + fst l m) % 256, hF (insP (l 2) (m 2) (m 3)) (l 3 - fst l m).toNat (fst l m + 1)) else (0, -1)
abbrev lbR (l : Nat → Int) : Prop := lb (l 0) (l 1) (l 2) (l 3) (l 4) (l 5)
noncomputable def nar (l m : Nat → Int) : (Nat → Int) × Bool :=
  bif decide (minI (l 1) (m 1) < maxI (l 0) (m 0)) || decide ((sec l m).2 < 0) then (nthI [0, 0, 0, 0, 0, 0], false)
  else (nthI [maxI (l 0) (m 0), minI (l 1) (m 1), (sec l m).1, (sec l m).2, minI (l 4) (m 4), minI (l 5) (m 5)], true)
theorem fst_in {l m : Nat → Int} (h : lbR l) : 0 ≤ fst l m ∧ fst l m ≤ l 3 + 1 := by
  have := fF_le (insP (l 2) (m 2) (m 3)) (l 3 + 1).toNat 0
  have h3 := h.2.2.1
  unfold fst
  omega
theorem rsector_eq {l m : Nat → Int} (hl : lbR l) (hm : lbR m) : f38 l m = some (sec l m) := by
  obtain ⟨t, h⟩ := r0 (c3 := l 0) (c4 := l 1) (c5 := l 2) (c6 := l 3) (c7 := l 4) (c8 := l 5) (c9 := m 0) (c10 := m 1) (c11 := m 2) (c12 := m 3) (c13 := m 4) (c14 := m 5) (Y := nthS []) hl.2.1 hl.2.2.1 hm.2.1 (l 3 + 1).toNat 400 0 (by omega) (by have := hl.2.2.1; omega) (by have := hl.2.2.1; omega)
  unfold f38
  rw [show l38_0 (nthI [0, -1, 0, l 0, l 1, l 2, l 3, l 4, l 5, m 0, m 1, m 2, m 3, m 4, m 5]) (nthS []) = _ from h]
  simp only [Option.bind_some, sec]
  rw [show fF (insP (l 2) (m 2) (m 3)) (l 3 + 1).toNat 0 = fst l m from rfl]
  cases decide (fst l m ≤ l 3) <;> cases decide (t = 0) <;> rfl
theorem maxI_self (x : Int) : maxI x x = x := by unfold maxI; split <;> rfl
theorem minI_self (x : Int) : minI x x = x := by unfold minI; split <;> rfl
theorem sec_self {l m : Nat → Int} (hl : lbR l) (h2 : m 2 = l 2) (h3 : m 3 = l 3) : sec l m = (l 2, l 3) := by
  have hb := hl.2.2.1
  have h0 := hl.2.1
  have hp : ∀ j, 0 ≤ j → j < l 3 + 1 → insP (l 2) (m 2) (m 3) j = true := fun j h1 h4 => by
    simp only [insP, h2, h3, decide_eq_true_eq]
    omega
  have hf : fst l m = 0 := fF_all _ _ _ (hp 0 (by omega) (by omega)) (by omega)
  have hh := hF_all (insP (l 2) (m 2) (m 3)) (l 3 - 0).toNat (0 + 1) (fun j h1 h4 => hp j (by omega) (by omega))
  unfold sec
  rw [hf, hh]
  have : decide (0 ≤ l 3) = true := by simp; omega
  rw [this]
  simp only [cond_true, Prod.mk.injEq]
  omega
theorem narrow_eq {l m : Nat → Int} (hl : lbR l) (hm : lbR m) : f37 l m = some (nar l m) := by
  have hb := hl.2.2.1
  have hf := fst_in (m := m) hl
  by_cases he : l 0 = m 0 ∧ l 1 = m 1 ∧ l 2 = m 2 ∧ l 3 = m 3 ∧ l 4 = m 4 ∧ l 5 = m 5
  · obtain ⟨e0, e1, e2, e3, e4, e5⟩ := he
    have hs := sec_self (m := m) hl e2.symm e3.symm
    unfold f37 nar
    rw [hs]
    have hlow : ¬ l 1 < l 0 := by have := hl.1; omega
    have h3 : ¬ l 3 < 0 := by omega
    simp [← e0, ← e1, ← e2, ← e3, ← e4, ← e5, maxI_self, minI_self, hlow, h3]
  · have hd : (decide (l 0 = m 0) && (decide (l 1 = m 1) && (decide (l 2 = m 2) && (decide (l 3 = m 3) && (decide (l 4 = m 4) && decide (l 5 = m 5)))))) = false := by
      cases h : (decide (l 0 = m 0) && (decide (l 1 = m 1) && (decide (l 2 = m 2) && (decide (l 3 = m 3) && (decide (l 4 = m 4) && decide (l 5 = m 5)))))) with
      | false => rfl
      | true => exact absurd (by simpa using h) he
    unfold f37 nar
    rw [hd]
    by_cases hlow : minI (l 1) (m 1) < maxI (l 0) (m 0)
    · simp [hlow]
    · have n0' := n0 (c1 := l 0) (c2 := l 1) (c3 := l 2) (c4 := l 3) (c5 := l 4) (c6 := l 5) (c7 := m 0) (c8 := m 1) (c9 := m 2) (c10 := m 3) (c11 := m 4) (c12 := m 5) (c13 := 0) (c14 := 0) (c15 := 0) (c16 := 0) (c17 := 0) (c18 := 0) (c19 := maxI (l 0) (m 0)) (c20 := minI (l 1) (m 1)) (c21 := 0) (c22 := 0) (c23 := minI (l 4) (m 4)) (c24 := minI (l 5) (m 5)) (Y := nthS []) hl.2.1 hb hm.2.1 (l 3 + 1).toNat 400 0 (by omega) (by omega) (by omega)
      simp only [cond_false, hlow, decide_false, Bool.false_or]
      rw [show l37_0 _ _ = _ from n0']
      rw [show fF (insP (l 2) (m 2) (m 3)) (l 3 + 1).toNat 0 = fst l m from rfl]
      simp only [Option.bind_some, nthI]
      by_cases hw : l 3 < fst l m
      · have hw' : ¬ fst l m ≤ l 3 := by omega
        simp [hw, sec, hw']
      · have hw' : fst l m ≤ l 3 := by omega
        have n1' := n1 (c0 := fst l m) (c2 := l 0) (c3 := l 1) (c4 := l 2) (c5 := l 3) (c6 := l 4) (c7 := l 5) (c8 := m 0) (c9 := m 1) (c10 := m 2) (c11 := m 3) (c12 := m 4) (c13 := m 5) (c14 := 0) (c15 := 0) (c16 := 0) (c17 := 0) (c18 := 0) (c19 := 0) (c20 := maxI (l 0) (m 0)) (c21 := minI (l 1) (m 1)) (c22 := 0) (c23 := 0) (c24 := minI (l 4) (m 4)) (c25 := minI (l 5) (m 5)) (Y := nthS []) hl.2.1 hb hm.2.1 (l 3 - fst l m).toNat 400 (fst l m) (by omega) (by omega) (by omega)
        simp only [hw, decide_false, cond_false]
        rw [show l37_1 _ _ = _ from n1']
        have hh := hF_le (insP (l 2) (m 2) (m 3)) (l 3 - fst l m).toNat (fst l m + 1)
        have hl2 := hl.2.1
        simp only [Option.bind_some, nthI, sec, hw', decide_true, cond_true]
        have hn : ¬ hF (insP (l 2) (m 2) (m 3)) (l 3 - fst l m).toNat (fst l m + 1) < 0 := by omega
        rw [w64 (n := l 2 + fst l m) (by omega) (by omega), norm_eq, w64 (by omega) (by omega)]
        simp only [Option.bind_some, hn, decide_false, cond_false]
        rw [show fst l m + hF (insP (l 2) (m 2) (m 3)) (l 3 - fst l m).toNat (fst l m + 1) - fst l m = hF (insP (l 2) (m 2) (m 3)) (l 3 - fst l m).toNat (fst l m + 1) by omega]

end Go.Proofs.Ytbiedpabdkbpfaa
