/-
  THE PLAIN LAWS: what the contracts compute answers as the statements say.
-/
import Derived.Test.YtggiamcgkiaicaaDoorLa
open Go Go.VE Go.Proofs
set_option maxRecDepth 1000000
set_option maxHeartbeats 0
set_option linter.unusedVariables false
set_option linter.unusedSimpArgs false
namespace Go.Proofs.YtggiamcgkiaicaaDoor
theorem small_in {a : Int} (h : sm a) : f59 a = some true := by
  unfold f59
  obtain ⟨h1, h2⟩ := h
  rw [decide_eq_true (show -1125899906842624 ≤ a from h1), decide_eq_true h2]
  rfl
theorem rwide {x y x1 x0 y1 y0 md mq mr lq lr : Int} (hx : x = 67108864 * x1 + x0) (hy : y = 67108864 * y1 + y0) (hl : x0 * y0 = 67108864 * lq + lr) (hm : md = x1 * y0 + x0 * y1 + lq) (hq : md = 67108864 * mq + mr) :
    x * y = (x1 * y1 + mq) * 4503599627370496 + mr * 67108864 + lr := by
  subst hx hy
  grind
theorem wide_in {x y : Int} (hx : 0 ≤ x ∧ x ≤ 1125899906842624) (hy : 0 ≤ y ∧ y ≤ 1125899906842624) :
    ∃ v, f97 x y = some v ∧ x * y = v 0 * 4503599627370496 + v 1 * 67108864 + v 2 ∧ 0 ≤ v 1 ∧ v 1 < 67108864 ∧ 0 ≤ v 2 ∧ v 2 < 67108864 ∧ 0 ≤ v 0 := by
  unfold f97
  rw [tmod_nonneg_eq (a := x) hx.1, tmod_nonneg_eq (a := y) hy.1, Int.tdiv_eq_ediv_of_nonneg (a := x) hx.1, Int.tdiv_eq_ediv_of_nonneg (a := y) hy.1]
  have ex : x = 67108864 * (x / 67108864) + x % 67108864 := by omega
  have ey : y = 67108864 * (y / 67108864) + y % 67108864 := by omega
  have bx1 : 0 ≤ x / 67108864 ∧ x / 67108864 ≤ 16777216 := by omega
  have bx0 : 0 ≤ x % 67108864 ∧ x % 67108864 ≤ 67108863 := by omega
  have by1 : 0 ≤ y / 67108864 ∧ y / 67108864 ≤ 16777216 := by omega
  have by0 : 0 ≤ y % 67108864 ∧ y % 67108864 ≤ 67108863 := by omega
  generalize x / 67108864 = x1 at *
  generalize x % 67108864 = x0 at *
  generalize y / 67108864 = y1 at *
  generalize y % 67108864 = y0 at *
  have p11 := nn_mul bx1 by1
  have p10 := nn_mul bx1 by0
  have p01 := nn_mul bx0 by1
  have p00 := nn_mul bx0 by0
  have h0 := rwide ex ey (lq := x0 * y0 / 67108864) (lr := x0 * y0 % 67108864) (by omega) (md := x1 * y0 + x0 * y1 + x0 * y0 / 67108864) rfl (mq := (x1 * y0 + x0 * y1 + x0 * y0 / 67108864) / 67108864) (mr := (x1 * y0 + x0 * y1 + x0 * y0 / 67108864) % 67108864) (by omega)
  rw [w64 (n := x1) (by omega) (by omega), w64 (n := y1) (by omega) (by omega)]
  generalize x1 * y1 = z11 at *
  generalize x1 * y0 = z10 at *
  generalize x0 * y1 = z01 at *
  generalize x0 * y0 = z00 at *
  rw [w64 (n := z11) (by omega) (by omega), w64 (n := z10) (by omega) (by omega), w64 (n := z01) (by omega) (by omega), w64 (n := z00) (by omega) (by omega), w64 (n := z10 + z01) (by omega) (by omega), tmod_nonneg_eq (a := z00) (by omega), Int.tdiv_eq_ediv_of_nonneg (a := z00) (by omega)]
  have bl : 0 ≤ z00 / 67108864 ∧ z00 / 67108864 ≤ 67108864 := by omega
  have bm : 0 ≤ z00 % 67108864 ∧ z00 % 67108864 < 67108864 := by omega
  generalize z00 / 67108864 = lq at *
  generalize z00 % 67108864 = lr at *
  rw [w64 (n := lq) (by omega) (by omega), w64 (n := z10 + z01 + lq) (by omega) (by omega), tmod_nonneg_eq (a := z10 + z01 + lq) (by omega), Int.tdiv_eq_ediv_of_nonneg (a := z10 + z01 + lq) (by omega)]
  have bq : 0 ≤ (z10 + z01 + lq) / 67108864 ∧ (z10 + z01 + lq) / 67108864 ≤ 67108864 := by omega
  have br : 0 ≤ (z10 + z01 + lq) % 67108864 ∧ (z10 + z01 + lq) % 67108864 < 67108864 := by omega
  generalize (z10 + z01 + lq) / 67108864 = q at *
  generalize (z10 + z01 + lq) % 67108864 = r at *
  rw [w64 (n := q) (by omega) (by omega), w64 (n := z11 + q) (by omega) (by omega)]
  refine ⟨_, rfl, ?_⟩
  simp only [nthI]
  refine ⟨?_, ?_, ?_, ?_, ?_, ?_⟩ <;> omega
theorem sign_eq (a b : Int) : f95 a b = some (cmpI a 0 * cmpI b 0) := by
  unfold f95
  rw [rorder_eq, rorder_eq]
  simp only [Option.bind_some]
  rw [w64 (by rcases cmpI_cases a 0 with h | h | h <;> rcases cmpI_cases b 0 with h' | h' | h' <;> rw [h.2, h'.2] <;> omega) (by rcases cmpI_cases a 0 with h | h | h <;> rcases cmpI_cases b 0 with h' | h' | h' <;> rw [h.2, h'.2] <;> omega)]
theorem sign_facts {a b : Int} (ha : sm a) (hb : sm b) : (cmpI a 0 * cmpI b 0 = 0 ∧ a * b = 0) ∨ (cmpI a 0 * cmpI b 0 = 1 ∧ a * b = abI a * abI b ∧ 0 < abI a * abI b) ∨ (cmpI a 0 * cmpI b 0 = -1 ∧ a * b = -(abI a * abI b) ∧ 0 < abI a * abI b) := by
  have hm := abI_mul a b
  obtain ⟨a1, a2, a3⟩ := abI_in ha
  obtain ⟨b1, b2, b3⟩ := abI_in hb
  by_cases hz : a = 0
  · left
    subst hz
    rw [Int.zero_mul]
    rcases cmpI_cases 0 0 with h | h | h <;> rw [h.2] <;> omega
  by_cases hy : b = 0
  · left
    subst hy
    rw [Int.mul_zero]
    rcases cmpI_cases 0 0 with h | h | h <;> rw [h.2] <;> omega
  have hpos : 0 < abI a * abI b := Int.mul_pos (by omega) (by omega)
  right
  rcases cmpI_cases a 0 with h | h | h <;> rcases cmpI_cases b 0 with h' | h' | h' <;> rw [h.2, h'.2] <;> try omega
  · left; rw [decide_eq_true h.1, decide_eq_true h'.1, if_pos rfl] at hm; omega
  · right; rw [decide_eq_true h.1, decide_eq_false (show ¬ b < 0 by omega), if_neg (by simp)] at hm; omega
  · right; rw [decide_eq_false (show ¬ a < 0 by omega), decide_eq_true h'.1, if_neg (by simp)] at hm; omega
  · left; rw [decide_eq_false (show ¬ a < 0 by omega), decide_eq_false (show ¬ b < 0 by omega), if_pos rfl] at hm; omega
theorem rcompare_in {a b c d : Int} (ha : sm a) (hb : sm b) (hc : sm c) (hd : sm d) : f83 a b c d = some (cmpI (a * b) (c * d), 0) := by
  unfold f83
  rw [small_in ha, small_in hb, small_in hc, small_in hd, sign_eq, sign_eq, rabs_in ha, rabs_in hb, rabs_in hc, rabs_in hd]
  obtain ⟨a1, a2, _⟩ := abI_in ha
  obtain ⟨b1, b2, _⟩ := abI_in hb
  obtain ⟨c1, c2, _⟩ := abI_in hc
  obtain ⟨d1, d2, _⟩ := abI_in hd
  obtain ⟨v, hv, v1, v2, v3, v4, v5, v6⟩ := wide_in ⟨a1, a2⟩ ⟨b1, b2⟩
  obtain ⟨u, hu, u1, u2, u3, u4, u5, u6⟩ := wide_in ⟨c1, c2⟩ ⟨d1, d2⟩
  simp only [Option.bind_some, Bool.not_true, cond_false, hv, hu, rorder_eq]
  have hz := sign_facts ha hb
  have hy := sign_facts hc hd
  generalize cmpI a 0 * cmpI b 0 = p0 at *
  generalize cmpI c 0 * cmpI d 0 = q0 at *
  generalize a * b = z at *
  generalize c * d = y at *
  generalize abI a * abI b = X at *
  generalize abI c * abI d = Y at *
  generalize v 0 = p1 at *
  generalize v 1 = p2 at *
  generalize v 2 = p3 at *
  generalize u 0 = q1 at *
  generalize u 1 = q2 at *
  generalize u 2 = q3 at *
  have fin : ∀ {x : Int}, x = cmpI z y → (some (x, (0 : Int)) : Option (Int × Int)) = some (cmpI z y, 0) := fun h => by rw [h]
  have hw : ∀ x, -1 ≤ x ∧ x ≤ 1 → IntKind.i64.wrap (p0 * x) = p0 * x := fun x hx => w64 (by rcases hz with h | h | h <;> rw [h.1] <;> omega) (by rcases hz with h | h | h <;> rw [h.1] <;> omega)
  have hc1 : ∀ s t, -1 ≤ cmpI s t ∧ cmpI s t ≤ 1 := fun s t => by rcases cmpI_cases s t with h | h | h <;> omega
  rw [hw _ (hc1 _ _), hw _ (hc1 _ _), hw _ (hc1 _ _)]
  by_cases e0 : p0 = q0
  · rw [decide_eq_true e0]
    simp only [Bool.not_true, cond_false]
    by_cases e1 : p1 = q1
    · rw [decide_eq_true e1]
      simp only [Bool.not_true, cond_false]
      by_cases e2 : p2 = q2
      · rw [decide_eq_true e2]
        simp only [Bool.not_true, cond_false]
        apply fin
        rcases cmpI_cases p3 q3 with ⟨h, e⟩ | ⟨h, e⟩ | ⟨h, e⟩ <;> rw [e] <;> rcases cmpI_cases z y with ⟨h', e'⟩ | ⟨h', e'⟩ | ⟨h', e'⟩ <;> rw [e'] <;> rcases hz with h3 | h3 | h3 <;> rcases hy with h4 | h4 | h4 <;> omega
      · rw [decide_eq_false e2]
        simp only [Bool.not_false, cond_true]
        apply fin
        rcases cmpI_cases p2 q2 with ⟨h, e⟩ | ⟨h, e⟩ | ⟨h, e⟩ <;> rw [e] <;> rcases cmpI_cases z y with ⟨h', e'⟩ | ⟨h', e'⟩ | ⟨h', e'⟩ <;> rw [e'] <;> rcases hz with h3 | h3 | h3 <;> rcases hy with h4 | h4 | h4 <;> omega
    · rw [decide_eq_false e1]
      simp only [Bool.not_false, cond_true]
      apply fin
      rcases cmpI_cases p1 q1 with ⟨h, e⟩ | ⟨h, e⟩ | ⟨h, e⟩ <;> rw [e] <;> rcases cmpI_cases z y with ⟨h', e'⟩ | ⟨h', e'⟩ | ⟨h', e'⟩ <;> rw [e'] <;> rcases hz with h3 | h3 | h3 <;> rcases hy with h4 | h4 | h4 <;> omega
  · rw [decide_eq_false e0]
    simp only [Bool.not_false, cond_true]
    apply fin
    rcases cmpI_cases p0 q0 with ⟨h, e⟩ | ⟨h, e⟩ | ⟨h, e⟩ <;> rw [e] <;> rcases cmpI_cases z y with ⟨h', e'⟩ | ⟨h', e'⟩ | ⟨h', e'⟩ <;> rw [e'] <;> rcases hz with h3 | h3 | h3 <;> rcases hy with h4 | h4 | h4 <;> omega
/-! ### Near a segment -/
abbrev dotI (px py ax ay bx b1 : Int) : Int := (px - ax) * (bx - ax) + (py - ay) * (b1 - ay)
abbrev sqI (px py ax ay : Int) : Int := (px - ax) * (px - ax) + (py - ay) * (py - ay)
abbrev crI (px py ax ay bx b1 : Int) : Int := (bx - ax) * (py - ay) - (b1 - ay) * (px - ax)
def nr (px py ax ay bx b1 r : Int) : Bool :=
  bif decide (dotI px py ax ay bx b1 ≤ 0) then decide (sqI px py ax ay ≤ r * r)
  else bif decide (sqI bx b1 ax ay ≤ dotI px py ax ay bx b1) then decide (sqI px py bx b1 ≤ r * r)
  else decide (crI px py ax ay bx b1 * crI px py ax ay bx b1 ≤ r * r * sqI bx b1 ax ay)
abbrev co (x : Int) : Prop := -70000 ≤ x ∧ x ≤ 70000
theorem pr_in {x y u v : Int} (hx : co x) (hy : co y) (hu : co u) (hv : co v) : -19600000000 ≤ (x - y) * (u - v) ∧ (x - y) * (u - v) ≤ 19600000000 :=
  mul_bound (A := 140000) (B := 140000) ⟨by omega, by omega⟩ ⟨by omega, by omega⟩
theorem cmp_le {u v : Int} : decide (cmpI u v ≤ 0) = decide (u ≤ v) := by
  rcases cmpI_cases u v with ⟨h, e⟩ | ⟨h, e⟩ | ⟨h, e⟩ <;> rw [e] <;> rw [decide_eq_decide] <;> omega
theorem near_in {p A B : Nat → Int} {r : Int} (p0 : co (p 0)) (p1 : co (p 1)) (a0 : co (A 0)) (a1 : co (A 1)) (b0 : co (B 0)) (b1 : co (B 1)) (hr : 0 ≤ r ∧ r ≤ 70000) : f61 p A B r = some (nr (p 0) (p 1) (A 0) (A 1) (B 0) (B 1) r) := by
  unfold f61
  have hrr := nn_mul hr hr
  have d0 := pr_in p0 a0 b0 a0
  have d1 := pr_in p1 a1 b1 a1
  have s0 := pr_in p0 a0 p0 a0
  have s1 := pr_in p1 a1 p1 a1
  have t0 := pr_in p0 b0 p0 b0
  have t1 := pr_in p1 b1 p1 b1
  have l0 := pr_in b0 a0 b0 a0
  have l1 := pr_in b1 a1 b1 a1
  have c0 := pr_in b0 a0 p1 a1
  have c1 := pr_in b1 a1 p0 a0
  rw [w64 (n := p 0 - A 0) (by omega) (by omega), w64 (n := p 1 - A 1) (by omega) (by omega), w64 (n := B 0 - A 0) (by omega) (by omega), w64 (n := B 1 - A 1) (by omega) (by omega), w64 (n := p 0 - B 0) (by omega) (by omega), w64 (n := p 1 - B 1) (by omega) (by omega),
    w64 (n := r * r) (by omega) (by omega), w64 (n := (p 0 - A 0) * (B 0 - A 0)) (by omega) (by omega), w64 (n := (p 1 - A 1) * (B 1 - A 1)) (by omega) (by omega), w64 (n := (p 0 - A 0) * (p 0 - A 0)) (by omega) (by omega), w64 (n := (p 1 - A 1) * (p 1 - A 1)) (by omega) (by omega),
    w64 (n := (p 0 - B 0) * (p 0 - B 0)) (by omega) (by omega), w64 (n := (p 1 - B 1) * (p 1 - B 1)) (by omega) (by omega), w64 (n := (B 0 - A 0) * (B 0 - A 0)) (by omega) (by omega), w64 (n := (B 1 - A 1) * (B 1 - A 1)) (by omega) (by omega),
    w64 (n := (B 0 - A 0) * (p 1 - A 1)) (by omega) (by omega), w64 (n := (B 1 - A 1) * (p 0 - A 0)) (by omega) (by omega),
    w64 (n := (p 0 - A 0) * (B 0 - A 0) + (p 1 - A 1) * (B 1 - A 1)) (by omega) (by omega), w64 (n := (p 0 - A 0) * (p 0 - A 0) + (p 1 - A 1) * (p 1 - A 1)) (by omega) (by omega), w64 (n := (p 0 - B 0) * (p 0 - B 0) + (p 1 - B 1) * (p 1 - B 1)) (by omega) (by omega),
    w64 (n := (B 0 - A 0) * (B 0 - A 0) + (B 1 - A 1) * (B 1 - A 1)) (by omega) (by omega), w64 (n := (B 0 - A 0) * (p 1 - A 1) - (B 1 - A 1) * (p 0 - A 0)) (by omega) (by omega)]
  rw [compare_in (by constructor <;> omega) (by constructor <;> omega) (by constructor <;> omega) (by constructor <;> omega)]
  unfold nr
  simp only [dotI, sqI, crI, Option.bind_some, decide_true, cond_true, cmp_le]
  cases decide ((p 0 - A 0) * (B 0 - A 0) + (p 1 - A 1) * (B 1 - A 1) ≤ 0)
  · cases decide ((B 0 - A 0) * (B 0 - A 0) + (B 1 - A 1) * (B 1 - A 1) ≤ (p 0 - A 0) * (B 0 - A 0) + (p 1 - A 1) * (B 1 - A 1)) <;> rfl
  · rfl
abbrev vd (x : Int) : Prop := -32768 ≤ x ∧ x ≤ 32768
theorem rvd {p : Nat → Int} (h0 : vd (p 0)) (h1 : vd (p 1)) : f79 p = some true := by
  unfold f79
  rw [decide_eq_true h0.1, decide_eq_true h0.2, decide_eq_true h1.1, decide_eq_true h1.2]
  rfl
theorem vd_co {x : Int} (h : vd x) : co x := by obtain ⟨_, _⟩ := h; constructor <;> omega
theorem rnear_in {p A B : Nat → Int} {r : Int} (p0 : vd (p 0)) (p1 : vd (p 1)) (a0 : vd (A 0)) (a1 : vd (A 1)) (b0 : vd (B 0)) (b1 : vd (B 1)) (hr : 0 ≤ r ∧ r ≤ 32768) : f62 p A B r = some (nr (p 0) (p 1) (A 0) (A 1) (B 0) (B 1) r, 0) := by
  unfold f62
  have hrr := nn_mul hr hr
  have e80 : f80 r = some true := by
    unfold f80
    rw [decide_eq_true hr.1, decide_eq_true hr.2]
    rfl
  rw [rvd p0 p1, rvd a0 a1, rvd b0 b1, e80]
  replace p0 := vd_co p0
  replace p1 := vd_co p1
  replace a0 := vd_co a0
  replace a1 := vd_co a1
  replace b0 := vd_co b0
  replace b1 := vd_co b1
  have d0 := pr_in p0 a0 b0 a0
  have d1 := pr_in p1 a1 b1 a1
  have s0 := pr_in p0 a0 p0 a0
  have s1 := pr_in p1 a1 p1 a1
  have t0 := pr_in p0 b0 p0 b0
  have t1 := pr_in p1 b1 p1 b1
  have l0 := pr_in b0 a0 b0 a0
  have l1 := pr_in b1 a1 b1 a1
  have c0 := pr_in b0 a0 p1 a1
  have c1 := pr_in b1 a1 p0 a0
  have q0 : f81 p A = some (sqI (p 0) (p 1) (A 0) (A 1)) := by
    unfold f81
    rw [w64 (n := p 0 - A 0) (by omega) (by omega), w64 (n := p 1 - A 1) (by omega) (by omega), w64 (n := (p 0 - A 0) * (p 0 - A 0)) (by omega) (by omega), w64 (n := (p 1 - A 1) * (p 1 - A 1)) (by omega) (by omega), w64 (n := (p 0 - A 0) * (p 0 - A 0) + (p 1 - A 1) * (p 1 - A 1)) (by omega) (by omega)]
  have q1 : f81 p B = some (sqI (p 0) (p 1) (B 0) (B 1)) := by
    unfold f81
    rw [w64 (n := p 0 - B 0) (by omega) (by omega), w64 (n := p 1 - B 1) (by omega) (by omega), w64 (n := (p 0 - B 0) * (p 0 - B 0)) (by omega) (by omega), w64 (n := (p 1 - B 1) * (p 1 - B 1)) (by omega) (by omega), w64 (n := (p 0 - B 0) * (p 0 - B 0) + (p 1 - B 1) * (p 1 - B 1)) (by omega) (by omega)]
  have q2 : f81 A B = some (sqI (B 0) (B 1) (A 0) (A 1)) := by
    unfold f81
    rw [w64 (n := A 0 - B 0) (by omega) (by omega), w64 (n := A 1 - B 1) (by omega) (by omega), sq_comm (A 0) (B 0), sq_comm (A 1) (B 1), w64 (n := (B 0 - A 0) * (B 0 - A 0)) (by omega) (by omega), w64 (n := (B 1 - A 1) * (B 1 - A 1)) (by omega) (by omega), w64 (n := (B 0 - A 0) * (B 0 - A 0) + (B 1 - A 1) * (B 1 - A 1)) (by omega) (by omega)]
  have q3 : f82 A B p = some (crI (p 0) (p 1) (A 0) (A 1) (B 0) (B 1)) := by
    unfold f82
    rw [w64 (n := p 0 - A 0) (by omega) (by omega), w64 (n := p 1 - A 1) (by omega) (by omega), w64 (n := B 0 - A 0) (by omega) (by omega), w64 (n := B 1 - A 1) (by omega) (by omega), w64 (n := (B 0 - A 0) * (p 1 - A 1)) (by omega) (by omega), w64 (n := (B 1 - A 1) * (p 0 - A 0)) (by omega) (by omega), w64 (n := (B 0 - A 0) * (p 1 - A 1) - (B 1 - A 1) * (p 0 - A 0)) (by omega) (by omega)]
  rw [q0, q1, q2, q3, w64 (n := p 0 - A 0) (by omega) (by omega), w64 (n := p 1 - A 1) (by omega) (by omega), w64 (n := B 0 - A 0) (by omega) (by omega), w64 (n := B 1 - A 1) (by omega) (by omega), w64 (n := r * r) (by omega) (by omega),
    w64 (n := (p 0 - A 0) * (B 0 - A 0)) (by omega) (by omega), w64 (n := (p 1 - A 1) * (B 1 - A 1)) (by omega) (by omega), w64 (n := (p 0 - A 0) * (B 0 - A 0) + (p 1 - A 1) * (B 1 - A 1)) (by omega) (by omega)]
  have hcmp : f83 (crI (p 0) (p 1) (A 0) (A 1) (B 0) (B 1)) (crI (p 0) (p 1) (A 0) (A 1) (B 0) (B 1)) (r * r) (sqI (B 0) (B 1) (A 0) (A 1)) = some (cmpI (crI (p 0) (p 1) (A 0) (A 1) (B 0) (B 1) * crI (p 0) (p 1) (A 0) (A 1) (B 0) (B 1)) (r * r * sqI (B 0) (B 1) (A 0) (A 1)), 0) :=
    rcompare_in (by simp only [crI]; constructor <;> omega) (by simp only [crI]; constructor <;> omega) (by constructor <;> omega) (by simp only [sqI]; constructor <;> omega)
  unfold nr
  simp only [Option.bind_some, Bool.not_true, cond_false, hcmp, cmp_le]
  simp only [dotI]
  cases decide ((p 0 - A 0) * (B 0 - A 0) + (p 1 - A 1) * (B 1 - A 1) ≤ 0)
  · cases decide (sqI (B 0) (B 1) (A 0) (A 1) ≤ (p 0 - A 0) * (B 0 - A 0) + (p 1 - A 1) * (B 1 - A 1)) <;> rfl
  · rfl

end Go.Proofs.YtggiamcgkiaicaaDoor
