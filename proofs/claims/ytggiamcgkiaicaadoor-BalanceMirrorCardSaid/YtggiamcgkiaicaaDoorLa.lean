/-
  THE PLAIN LAWS: what the contracts compute answers as the statements say.
-/
import Derived.Test.YtggiamcgkiaicaaDoorP
open Go Go.VE Go.Proofs
set_option maxRecDepth 1000000
set_option maxHeartbeats 0
set_option linter.unusedVariables false
set_option linter.unusedSimpArgs false
namespace Go.Proofs.YtggiamcgkiaicaaDoor
theorem nn_mul {x y A B : Int} (hx : 0 ≤ x ∧ x ≤ A) (hy : 0 ≤ y ∧ y ≤ B) : 0 ≤ x * y ∧ x * y ≤ A * B :=
  ⟨Int.mul_nonneg hx.1 hy.1, Int.mul_le_mul hx.2 hy.2 hy.1 (Int.le_trans hx.1 hx.2)⟩
def abI (a : Int) : Int := if a < 0 then -a else a
theorem abI_in {a : Int} (h : -1125899906842624 ≤ a ∧ a ≤ 1125899906842624) : 0 ≤ abI a ∧ abI a ≤ 1125899906842624 ∧ (abI a = 0 ↔ a = 0) := by
  unfold abI
  split <;> refine ⟨?_, ?_, ?_⟩ <;> omega
theorem abs_in {a : Int} (h : -1125899906842624 ≤ a ∧ a ≤ 1125899906842624) : f100 a = some (abI a) := by
  unfold f100
  rw [w64 (by omega) (by omega)]
  unfold abI maxI
  congr 1
  split <;> split <;> omega
theorem rabs_in {a : Int} (h : -1125899906842624 ≤ a ∧ a ≤ 1125899906842624) : f98 a = some (abI a) := by
  unfold f98 abI
  rw [w64 (by omega) (by omega)]
  by_cases h1 : a < 0
  · simp [h1]
  · simp [h1]
def cmpI (u v : Int) : Int := if u < v then -1 else if v < u then 1 else 0
theorem order_eq (u v : Int) : f94 u v = some (cmpI u v) := by
  unfold f94 cmpI
  by_cases h1 : u < v
  · simp [h1]
  · by_cases h2 : v < u
    · simp [h1, h2]
    · simp [h1, h2]
theorem rorder_eq (u v : Int) : f96 u v = some (cmpI u v) := order_eq u v
theorem cmpI_cases (u v : Int) : (u < v ∧ cmpI u v = -1) ∨ (v < u ∧ cmpI u v = 1) ∨ (u = v ∧ cmpI u v = 0) := by
  unfold cmpI
  split
  · exact .inl ⟨‹_›, rfl⟩
  · split
    · exact .inr (.inl ⟨‹_›, rfl⟩)
    · exact .inr (.inr ⟨by omega, rfl⟩)
/-! products in halves -/
theorem halves {x y x1 x0 y1 y0 md mq mr : Int} (hx : x = 33554432 * x1 + x0) (hy : y = 33554432 * y1 + y0) (hm : md = x1 * y0 + x0 * y1) (hq : md = 33554432 * mq + mr) :
    x * y = (x1 * y1 + mq) * 1125899906842624 + (x0 * y0 + mr * 33554432) := by
  subst hx hy
  grind
theorem times_pos {x y : Int} (hx : 0 ≤ x ∧ x ≤ 1125899906842624) (hy : 0 ≤ y ∧ y ≤ 1125899906842624) :
    ∃ H Lo, IntKind.i64.wrap (IntKind.i64.wrap (IntKind.i64.wrap (IntKind.i64.wrap (x.tdiv 33554432) * IntKind.i64.wrap (y.tdiv 33554432)) + IntKind.i64.wrap ((IntKind.i64.wrap (IntKind.i64.wrap (IntKind.i64.wrap (x.tdiv 33554432) * y.tmod 33554432) + IntKind.i64.wrap (x.tmod 33554432 * IntKind.i64.wrap (y.tdiv 33554432)))).tdiv 33554432)) + IntKind.i64.wrap ((IntKind.i64.wrap (IntKind.i64.wrap (x.tmod 33554432 * y.tmod 33554432) + IntKind.i64.wrap ((IntKind.i64.wrap (IntKind.i64.wrap (IntKind.i64.wrap (x.tdiv 33554432) * y.tmod 33554432) + IntKind.i64.wrap (x.tmod 33554432 * IntKind.i64.wrap (y.tdiv 33554432)))).tmod 33554432 * 33554432))).tdiv 1125899906842624)) = H ∧
      (IntKind.i64.wrap (IntKind.i64.wrap (x.tmod 33554432 * y.tmod 33554432) + IntKind.i64.wrap ((IntKind.i64.wrap (IntKind.i64.wrap (IntKind.i64.wrap (x.tdiv 33554432) * y.tmod 33554432) + IntKind.i64.wrap (x.tmod 33554432 * IntKind.i64.wrap (y.tdiv 33554432)))).tmod 33554432 * 33554432))).tmod 1125899906842624 = Lo ∧
      x * y = H * 1125899906842624 + Lo ∧ 0 ≤ Lo ∧ Lo < 1125899906842624 ∧ 0 ≤ H ∧ H ≤ 9007199254740992 := by
  rw [tmod_nonneg_eq (a := x) hx.1, tmod_nonneg_eq (a := y) hy.1, Int.tdiv_eq_ediv_of_nonneg (a := x) hx.1, Int.tdiv_eq_ediv_of_nonneg (a := y) hy.1]
  have ex : x = 33554432 * (x / 33554432) + x % 33554432 := by omega
  have ey : y = 33554432 * (y / 33554432) + y % 33554432 := by omega
  have bx1 : 0 ≤ x / 33554432 ∧ x / 33554432 ≤ 33554432 := by omega
  have bx0 : 0 ≤ x % 33554432 ∧ x % 33554432 ≤ 33554431 := by omega
  have by1 : 0 ≤ y / 33554432 ∧ y / 33554432 ≤ 33554432 := by omega
  have by0 : 0 ≤ y % 33554432 ∧ y % 33554432 ≤ 33554431 := by omega
  generalize x / 33554432 = x1 at *
  generalize x % 33554432 = x0 at *
  generalize y / 33554432 = y1 at *
  generalize y % 33554432 = y0 at *
  have p11 := nn_mul bx1 by1
  have p10 := nn_mul bx1 by0
  have p01 := nn_mul bx0 by1
  have p00 := nn_mul bx0 by0
  have h0 := halves ex ey (md := x1 * y0 + x0 * y1) rfl (mq := (x1 * y0 + x0 * y1) / 33554432) (mr := (x1 * y0 + x0 * y1) % 33554432) (by omega)
  rw [w64 (n := x1) (by omega) (by omega), w64 (n := y1) (by omega) (by omega)]
  generalize x1 * y1 = z11 at *
  generalize x1 * y0 = z10 at *
  generalize x0 * y1 = z01 at *
  generalize x0 * y0 = z00 at *
  rw [w64 (n := z11) (by omega) (by omega), w64 (n := z10) (by omega) (by omega), w64 (n := z01) (by omega) (by omega), w64 (n := z00) (by omega) (by omega), w64 (n := z10 + z01) (by omega) (by omega), tmod_nonneg_eq (a := z10 + z01) (by omega), Int.tdiv_eq_ediv_of_nonneg (a := z10 + z01) (by omega)]
  have em : z10 + z01 = 33554432 * ((z10 + z01) / 33554432) + (z10 + z01) % 33554432 := by omega
  have bq : 0 ≤ (z10 + z01) / 33554432 ∧ (z10 + z01) / 33554432 ≤ 67108864 := by omega
  have br : 0 ≤ (z10 + z01) % 33554432 ∧ (z10 + z01) % 33554432 ≤ 33554431 := by omega
  generalize (z10 + z01) / 33554432 = q at *
  generalize (z10 + z01) % 33554432 = r at *
  rw [w64 (n := q) (by omega) (by omega), w64 (n := r * 33554432) (by omega) (by omega), w64 (n := z11 + q) (by omega) (by omega), w64 (n := z00 + r * 33554432) (by omega) (by omega), tmod_nonneg_eq (a := z00 + r * 33554432) (by omega), Int.tdiv_eq_ediv_of_nonneg (a := z00 + r * 33554432) (by omega)]
  have bz : 0 ≤ (z00 + r * 33554432) / 1125899906842624 ∧ (z00 + r * 33554432) / 1125899906842624 ≤ 2 := by omega
  refine ⟨z11 + q + (z00 + r * 33554432) / 1125899906842624, _, ?_, rfl, ?_, ?_, ?_, ?_, ?_⟩
  · rw [w64 (n := (z00 + r * 33554432) / 1125899906842624) (by omega) (by omega), w64 (by omega) (by omega)]
  all_goals omega
/-! A product as the program keeps it -/
abbrev Wd (v : Nat → Int) (z : Int) : Prop := z = v 0 * (v 1 * 1125899906842624 + v 2) ∧ 0 ≤ v 2 ∧ v 2 < 1125899906842624 ∧ 0 ≤ v 1 ∧ v 1 ≤ 9007199254740992 ∧ ((v 0 = 0 ∧ v 1 = 0 ∧ v 2 = 0) ∨ ((v 0 = 1 ∨ v 0 = -1) ∧ 0 < v 1 * 1125899906842624 + v 2))
theorem abI_mul (a b : Int) : abI a * abI b = (if decide (a < 0) = decide (b < 0) then a * b else -(a * b)) := by
  unfold abI
  by_cases h1 : a < 0
  · by_cases h2 : b < 0
    · simp [h1, h2, Int.neg_mul, Int.mul_neg]
    · simp [h1, h2, Int.neg_mul, Int.mul_neg]
  · by_cases h2 : b < 0
    · simp [h1, h2, Int.neg_mul, Int.mul_neg]
    · simp [h1, h2, Int.neg_mul, Int.mul_neg]
theorem times_in {a b : Int} (ha : -1125899906842624 ≤ a ∧ a ≤ 1125899906842624) (hb : -1125899906842624 ≤ b ∧ b ≤ 1125899906842624) : ∃ v, f93 a b = some v ∧ Wd v (a * b) := by
  unfold f93
  rw [abs_in ha, abs_in hb]
  obtain ⟨a1, a2, a3⟩ := abI_in ha
  obtain ⟨b1, b2, b3⟩ := abI_in hb
  simp only [Option.bind_some]
  by_cases h1 : abI a = 0
  · rw [decide_eq_true h1, cond_true]
    refine ⟨_, rfl, ?_⟩
    rw [a3.1 h1, Int.zero_mul]
    simp [Wd, nthI]
  · rw [decide_eq_false h1, cond_false]
    by_cases h2 : abI b = 0
    · rw [decide_eq_true h2, cond_true]
      refine ⟨_, rfl, ?_⟩
      rw [b3.1 h2, Int.mul_zero]
      simp [Wd, nthI]
    · rw [decide_eq_false h2, cond_false]
      obtain ⟨H, Lo, e1, e2, e3, e4, e5, e6, e7⟩ := times_pos ⟨a1, a2⟩ ⟨b1, b2⟩
      rw [e1, e2]
      have hpos : 0 < abI a * abI b := Int.mul_pos (by omega) (by omega)
      have hm := abI_mul a b
      by_cases h3 : decide (a < 0) = decide (b < 0)
      · rw [if_pos h3] at hm
        rw [show (!decide (a < 0) == decide (b < 0)) = false by rw [h3]; cases decide (b < 0) <;> rfl, cond_false]
        refine ⟨_, rfl, ?_⟩
        show Wd (nthI _) _
        simp only [Wd, nthI]
        refine ⟨?_, e4, e5, e6, e7, .inr ⟨by decide, ?_⟩⟩
        · rw [Int.one_mul]; omega
        · omega
      · rw [if_neg h3] at hm
        rw [show (!decide (a < 0) == decide (b < 0)) = true by revert h3; cases decide (a < 0) <;> cases decide (b < 0) <;> simp, cond_true]
        refine ⟨_, rfl, ?_⟩
        show Wd (nthI _) _
        simp only [Wd, nthI]
        refine ⟨?_, e4, e5, e6, e7, .inr ⟨by decide, ?_⟩⟩
        · omega
        · omega
abbrev sm (a : Int) : Prop := -1125899906842624 ≤ a ∧ a ≤ 1125899906842624
theorem compare_in {a b c d : Int} (ha : sm a) (hb : sm b) (hc : sm c) (hd : sm d) : f78 a b c d = some (cmpI (a * b) (c * d), 0) := by
  unfold f78
  obtain ⟨a1, a2⟩ := id ha
  obtain ⟨b1, b2⟩ := id hb
  obtain ⟨c1, c2⟩ := id hc
  obtain ⟨d1, d2⟩ := id hd
  obtain ⟨v, hv, v1, v2, v3, v4, v5, v6⟩ := times_in ha hb
  obtain ⟨u, hu, u1, u2, u3, u4, u5, u6⟩ := times_in hc hd
  rw [decide_eq_false (Int.not_lt.2 a1), decide_eq_false (Int.not_lt.2 a2), decide_eq_false (Int.not_lt.2 b1), decide_eq_false (Int.not_lt.2 b2), decide_eq_false (Int.not_lt.2 c1), decide_eq_false (Int.not_lt.2 c2), decide_eq_false (Int.not_lt.2 d1), decide_eq_false (Int.not_lt.2 d2), hv, hu]
  simp only [cond_false, Option.bind_some, order_eq]
  generalize v 0 = p0 at *
  generalize v 1 = p1 at *
  generalize v 2 = p2 at *
  generalize u 0 = q0 at *
  generalize u 1 = q1 at *
  generalize u 2 = q2 at *
  generalize a * b = z at *
  generalize c * d = y at *
  have fin : ∀ {x : Int}, x = cmpI z y → (some (x, (0 : Int)) : Option (Int × Int)) = some (cmpI z y, 0) := fun h => by rw [h]
  have hz : p0 = 0 ∧ z = 0 ∨ p0 = 1 ∧ z = p1 * 1125899906842624 + p2 ∨ p0 = -1 ∧ z = -(p1 * 1125899906842624 + p2) := by
    rcases v6 with ⟨rfl, rfl, rfl⟩ | ⟨rfl | rfl, h⟩
    · left; exact ⟨rfl, by omega⟩
    · right; left; exact ⟨rfl, by omega⟩
    · right; right; exact ⟨rfl, by omega⟩
  have hy : q0 = 0 ∧ y = 0 ∨ q0 = 1 ∧ y = q1 * 1125899906842624 + q2 ∨ q0 = -1 ∧ y = -(q1 * 1125899906842624 + q2) := by
    rcases u6 with ⟨rfl, rfl, rfl⟩ | ⟨rfl | rfl, h⟩
    · left; exact ⟨rfl, by omega⟩
    · right; left; exact ⟨rfl, by omega⟩
    · right; right; exact ⟨rfl, by omega⟩
  have hw : ∀ x, -1 ≤ x ∧ x ≤ 1 → IntKind.i64.wrap (p0 * x) = p0 * x := fun x hx => w64 (by rcases hz with h | h | h <;> rw [h.1] <;> omega) (by rcases hz with h | h | h <;> rw [h.1] <;> omega)
  have hc1 : ∀ s t, -1 ≤ cmpI s t ∧ cmpI s t ≤ 1 := fun s t => by rcases cmpI_cases s t with h | h | h <;> omega
  rw [hw _ (hc1 _ _), hw _ (hc1 _ _)]
  by_cases e0 : p0 = q0
  · rw [decide_eq_true e0]
    simp only [Bool.not_true, cond_false]
    by_cases e1 : p1 = q1
    · rw [decide_eq_true e1]
      simp only [Bool.not_true, cond_false]
      apply fin
      rcases cmpI_cases p2 q2 with ⟨h, e⟩ | ⟨h, e⟩ | ⟨h, e⟩ <;> rw [e] <;> rcases cmpI_cases z y with ⟨h', e'⟩ | ⟨h', e'⟩ | ⟨h', e'⟩ <;> rw [e'] <;> rcases hz with h3 | h3 | h3 <;> rcases hy with h4 | h4 | h4 <;> omega
    · rw [decide_eq_false e1]
      simp only [Bool.not_false, cond_true]
      apply fin
      rcases cmpI_cases p1 q1 with ⟨h, e⟩ | ⟨h, e⟩ | ⟨h, e⟩ <;> rw [e] <;> rcases cmpI_cases z y with ⟨h', e'⟩ | ⟨h', e'⟩ | ⟨h', e'⟩ <;> rw [e'] <;> rcases hz with h3 | h3 | h3 <;> rcases hy with h4 | h4 | h4 <;> omega
  · rw [decide_eq_false e0]
    simp only [Bool.not_false, cond_true]
    apply fin
    rcases cmpI_cases p0 q0 with ⟨h, e⟩ | ⟨h, e⟩ | ⟨h, e⟩ <;> rw [e] <;> rcases cmpI_cases z y with ⟨h', e'⟩ | ⟨h', e'⟩ | ⟨h', e'⟩ <;> rw [e'] <;> rcases hz with h3 | h3 | h3 <;> rcases hy with h4 | h4 | h4 <;> omega

end Go.Proofs.YtggiamcgkiaicaaDoor
