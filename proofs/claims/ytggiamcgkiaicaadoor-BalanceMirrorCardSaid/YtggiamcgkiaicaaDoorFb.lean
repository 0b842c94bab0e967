/-
  THE CONTRACTS, continued.
-/
import Derived.Test.YtggiamcgkiaicaaDoorF
open Go Go.VE Go.Proofs
set_option maxRecDepth 1000000
set_option maxHeartbeats 0
set_option linter.unusedVariables false
namespace Go.Proofs.YtggiamcgkiaicaaDoor


/-- num.Compare -/
theorem ok78 : CtxOK Tryd.prog (cx [(70, Tryd.f70)] [(93, conF (aCons (pC (cI .i64)) (aOne (pC (cI .i64)))) (rOne (cA .i64 3)) (fun a => f93 (a.1) (a.2))), (94, conF (aCons (pC (cI .i64)) (aOne (pC (cI .i64)))) (rOne (cI .i64)) (fun a => f94 (a.1) (a.2)))] []) gl := ctx_of tyOk moOk (show SpecL Tryd.prog gG gl [(93, conF (aCons (pC (cI .i64)) (aOne (pC (cI .i64)))) (rOne (cA .i64 3)) (fun a => f93 (a.1) (a.2))), (94, conF (aCons (pC (cI .i64)) (aOne (pC (cI .i64)))) (rOne (cI .i64)) (fun a => f94 (a.1) (a.2)))] from ⟨sp93, sp94, trivial⟩) (show FnL Tryd.prog [(70, Tryd.f70)] from ⟨⟨Tryd.func70, Tryd.call70⟩, trivial⟩) (fnLp_nil _) joinOk
noncomputable def f78 (a : Int) (b : Int) (c : Int) (d : Int) : Option (Int × Int) :=
 cond (decide (a < -1125899906842624)) (
 some ((0, 1))) (
 cond (decide (1125899906842624 < a)) (
 some ((0, 1))) (
 cond (decide (b < -1125899906842624)) (
 some ((0, 1))) (
 cond (decide (1125899906842624 < b)) (
 some ((0, 1))) (
 cond (decide (c < -1125899906842624)) (
 some ((0, 1))) (
 cond (decide (1125899906842624 < c)) (
 some ((0, 1))) (
 cond (decide (d < -1125899906842624)) (
 some ((0, 1))) (
 cond (decide (1125899906842624 < d)) (
 some ((0, 1))) (
 Option.bind (f93 a b) (fun r4 =>
 Option.bind (f93 c d) (fun r5 =>
 cond (!decide (r4 0 = r5 0)) (
 Option.bind (f94 (r4 0) (r5 0)) (fun r6 =>
 some ((r6, 0)))) (
 cond (!decide (r4 1 = r5 1)) (
 Option.bind (f94 (r4 1) (r5 1)) (fun r6 =>
 some ((IntKind.i64.wrap (r4 0 * r6), 0)))) (
 Option.bind (f94 (r4 2) (r5 2)) (fun r6 =>
 some ((IntKind.i64.wrap (r4 0 * r6), 0)))))))))))))))
theorem evg78 (f93 : (Int) → (Int) → Option ((Nat → Int))) (f94 : (Int) → (Int) → Option (Int))  (xx : (aCons (pC (cI .i64)) (aCons (pC (cI .i64)) (aCons (pC (cI .i64)) (aOne (pC (cI .i64)))))).T) : evF (R := (rTup (cCons (cI .i64) (cOne (cI .i64)))).T) (cx [(70, Tryd.f70)] [(93, conF (aCons (pC (cI .i64)) (aOne (pC (cI .i64)))) (rOne (cA .i64 3)) (fun a => f93 (a.1) (a.2))), (94, conF (aCons (pC (cI .i64)) (aOne (pC (cI .i64)))) (rOne (cI .i64)) (fun a => f94 (a.1) (a.2)))] []) 1000 Tryd.f78 ((aCons (pC (cI .i64)) (aCons (pC (cI .i64)) (aCons (pC (cI .i64)) (aOne (pC (cI .i64)))))).enc gG xx) (glMem gl) 2 (rTup (cCons (cI .i64) (cOne (cI .i64)))).dec =
 (fun (a : Int) (b : Int) (c : Int) (d : Int) =>
 (( cond (decide (a < -1125899906842624)) (
 some ((0, 1))) (
 cond (decide (1125899906842624 < a)) (
 some ((0, 1))) (
 cond (decide (b < -1125899906842624)) (
 some ((0, 1))) (
 cond (decide (1125899906842624 < b)) (
 some ((0, 1))) (
 cond (decide (c < -1125899906842624)) (
 some ((0, 1))) (
 cond (decide (1125899906842624 < c)) (
 some ((0, 1))) (
 cond (decide (d < -1125899906842624)) (
 some ((0, 1))) (
 cond (decide (1125899906842624 < d)) (
 some ((0, 1))) (
 Option.bind (f93 a b) (fun r4 =>
 Option.bind (f93 c d) (fun r5 =>
 cond (!decide (r4 0 = r5 0)) (
 Option.bind (f94 (r4 0) (r5 0)) (fun r6 =>
 some ((r6, 0)))) (
 cond (!decide (r4 1 = r5 1)) (
 Option.bind (f94 (r4 1) (r5 1)) (fun r6 =>
 some ((IntKind.i64.wrap (r4 0 * r6), 0)))) (
 Option.bind (f94 (r4 2) (r5 2)) (fun r6 =>
 some ((IntKind.i64.wrap (r4 0 * r6), 0)))))))))))))))) : Option (Int × Int))) xx.1 xx.2.1 xx.2.2.1 xx.2.2.2 := by kernel_rfl
theorem ev78 (a : (aCons (pC (cI .i64)) (aCons (pC (cI .i64)) (aCons (pC (cI .i64)) (aOne (pC (cI .i64)))))).T) : evF (R := (rTup (cCons (cI .i64) (cOne (cI .i64)))).T) (cx [(70, Tryd.f70)] [(93, conF (aCons (pC (cI .i64)) (aOne (pC (cI .i64)))) (rOne (cA .i64 3)) (fun a => f93 (a.1) (a.2))), (94, conF (aCons (pC (cI .i64)) (aOne (pC (cI .i64)))) (rOne (cI .i64)) (fun a => f94 (a.1) (a.2)))] []) 1000 Tryd.f78 ((aCons (pC (cI .i64)) (aCons (pC (cI .i64)) (aCons (pC (cI .i64)) (aOne (pC (cI .i64)))))).enc gG a) (glMem gl) 2 (rTup (cCons (cI .i64) (cOne (cI .i64)))).dec = f78 a.1 a.2.1 a.2.2.1 a.2.2.2 := evg78 f93 f94  a
theorem sp78 : VE.Spec Tryd.prog gG gl 78 (conF (aCons (pC (cI .i64)) (aCons (pC (cI .i64)) (aCons (pC (cI .i64)) (aOne (pC (cI .i64)))))) (rTup (cCons (cI .i64) (cOne (cI .i64)))) (fun a => f78 a.1 a.2.1 a.2.2.1 a.2.2.2)) := spec_of ok78 Tryd.func78 Tryd.call78 (lpAll_nil rfl) 1000 (aCons_ok (pC_ok (cI_ok _)) (aCons_ok (pC_ok (cI_ok _)) (aCons_ok (pC_ok (cI_ok _)) (aOne_ok (pC_ok (cI_ok _)))))) (rTup_ok (cCons_ok (cI_ok _) (cOne_ok (cI_ok _)))) ev78

/-- balance.near -/
theorem ok61 : CtxOK Tryd.prog (cx [] [(78, conF (aCons (pC (cI .i64)) (aCons (pC (cI .i64)) (aCons (pC (cI .i64)) (aOne (pC (cI .i64)))))) (rTup (cCons (cI .i64) (cOne (cI .i64)))) (fun a => f78 (a.1) (a.2.1) (a.2.2.1) (a.2.2.2)))] []) gl := ctx_of tyOk moOk (show SpecL Tryd.prog gG gl [(78, conF (aCons (pC (cI .i64)) (aCons (pC (cI .i64)) (aCons (pC (cI .i64)) (aOne (pC (cI .i64)))))) (rTup (cCons (cI .i64) (cOne (cI .i64)))) (fun a => f78 (a.1) (a.2.1) (a.2.2.1) (a.2.2.2)))] from ⟨sp78, trivial⟩) (show FnL Tryd.prog [] from trivial) (fnLp_nil _) joinOk
noncomputable def f61 (a : Nat → Int) (b : Nat → Int) (c : Nat → Int) (d : Int) : Option (Bool) :=
 cond (decide (IntKind.i64.wrap (IntKind.i64.wrap (IntKind.i64.wrap (a 0 - b 0) * IntKind.i64.wrap (c 0 - b 0)) + IntKind.i64.wrap (IntKind.i64.wrap (a 1 - b 1) * IntKind.i64.wrap (c 1 - b 1))) ≤ 0)) (
 some (decide (IntKind.i64.wrap (IntKind.i64.wrap (IntKind.i64.wrap (a 0 - b 0) * IntKind.i64.wrap (a 0 - b 0)) + IntKind.i64.wrap (IntKind.i64.wrap (a 1 - b 1) * IntKind.i64.wrap (a 1 - b 1))) ≤ IntKind.i64.wrap (d * d)))) (
 cond (decide (IntKind.i64.wrap (IntKind.i64.wrap (IntKind.i64.wrap (c 0 - b 0) * IntKind.i64.wrap (c 0 - b 0)) + IntKind.i64.wrap (IntKind.i64.wrap (c 1 - b 1) * IntKind.i64.wrap (c 1 - b 1))) ≤ IntKind.i64.wrap (IntKind.i64.wrap (IntKind.i64.wrap (a 0 - b 0) * IntKind.i64.wrap (c 0 - b 0)) + IntKind.i64.wrap (IntKind.i64.wrap (a 1 - b 1) * IntKind.i64.wrap (c 1 - b 1))))) (
 some (decide (IntKind.i64.wrap (IntKind.i64.wrap (IntKind.i64.wrap (a 0 - c 0) * IntKind.i64.wrap (a 0 - c 0)) + IntKind.i64.wrap (IntKind.i64.wrap (a 1 - c 1) * IntKind.i64.wrap (a 1 - c 1))) ≤ IntKind.i64.wrap (d * d)))) (
 Option.bind (f78 (IntKind.i64.wrap (IntKind.i64.wrap (IntKind.i64.wrap (c 0 - b 0) * IntKind.i64.wrap (a 1 - b 1)) - IntKind.i64.wrap (IntKind.i64.wrap (c 1 - b 1) * IntKind.i64.wrap (a 0 - b 0)))) (IntKind.i64.wrap (IntKind.i64.wrap (IntKind.i64.wrap (c 0 - b 0) * IntKind.i64.wrap (a 1 - b 1)) - IntKind.i64.wrap (IntKind.i64.wrap (c 1 - b 1) * IntKind.i64.wrap (a 0 - b 0)))) (IntKind.i64.wrap (d * d)) (IntKind.i64.wrap (IntKind.i64.wrap (IntKind.i64.wrap (c 0 - b 0) * IntKind.i64.wrap (c 0 - b 0)) + IntKind.i64.wrap (IntKind.i64.wrap (c 1 - b 1) * IntKind.i64.wrap (c 1 - b 1))))) (fun r4 =>
 cond (decide (r4.snd = 0)) (
 some (decide (r4.fst ≤ 0))) (
 some (false)))))
theorem evg61 (f78 : (Int) → (Int) → (Int) → (Int) → Option (Int × Int))  (xx : (aCons (pC (cA .i64 2)) (aCons (pC (cA .i64 3)) (aCons (pC (cA .i64 3)) (aOne (pC (cI .i64)))))).T) : evF (R := (rOne (cB)).T) (cx [] [(78, conF (aCons (pC (cI .i64)) (aCons (pC (cI .i64)) (aCons (pC (cI .i64)) (aOne (pC (cI .i64)))))) (rTup (cCons (cI .i64) (cOne (cI .i64)))) (fun a => f78 (a.1) (a.2.1) (a.2.2.1) (a.2.2.2)))] []) 1000 Tryd.f61 ((aCons (pC (cA .i64 2)) (aCons (pC (cA .i64 3)) (aCons (pC (cA .i64 3)) (aOne (pC (cI .i64)))))).enc gG xx) (glMem gl) 2 (rOne (cB)).dec =
 (fun (a : Nat → Int) (b : Nat → Int) (c : Nat → Int) (d : Int) =>
 (( cond (decide (IntKind.i64.wrap (IntKind.i64.wrap (IntKind.i64.wrap (a 0 - b 0) * IntKind.i64.wrap (c 0 - b 0)) + IntKind.i64.wrap (IntKind.i64.wrap (a 1 - b 1) * IntKind.i64.wrap (c 1 - b 1))) ≤ 0)) (
 some (decide (IntKind.i64.wrap (IntKind.i64.wrap (IntKind.i64.wrap (a 0 - b 0) * IntKind.i64.wrap (a 0 - b 0)) + IntKind.i64.wrap (IntKind.i64.wrap (a 1 - b 1) * IntKind.i64.wrap (a 1 - b 1))) ≤ IntKind.i64.wrap (d * d)))) (
 cond (decide (IntKind.i64.wrap (IntKind.i64.wrap (IntKind.i64.wrap (c 0 - b 0) * IntKind.i64.wrap (c 0 - b 0)) + IntKind.i64.wrap (IntKind.i64.wrap (c 1 - b 1) * IntKind.i64.wrap (c 1 - b 1))) ≤ IntKind.i64.wrap (IntKind.i64.wrap (IntKind.i64.wrap (a 0 - b 0) * IntKind.i64.wrap (c 0 - b 0)) + IntKind.i64.wrap (IntKind.i64.wrap (a 1 - b 1) * IntKind.i64.wrap (c 1 - b 1))))) (
 some (decide (IntKind.i64.wrap (IntKind.i64.wrap (IntKind.i64.wrap (a 0 - c 0) * IntKind.i64.wrap (a 0 - c 0)) + IntKind.i64.wrap (IntKind.i64.wrap (a 1 - c 1) * IntKind.i64.wrap (a 1 - c 1))) ≤ IntKind.i64.wrap (d * d)))) (
 Option.bind (f78 (IntKind.i64.wrap (IntKind.i64.wrap (IntKind.i64.wrap (c 0 - b 0) * IntKind.i64.wrap (a 1 - b 1)) - IntKind.i64.wrap (IntKind.i64.wrap (c 1 - b 1) * IntKind.i64.wrap (a 0 - b 0)))) (IntKind.i64.wrap (IntKind.i64.wrap (IntKind.i64.wrap (c 0 - b 0) * IntKind.i64.wrap (a 1 - b 1)) - IntKind.i64.wrap (IntKind.i64.wrap (c 1 - b 1) * IntKind.i64.wrap (a 0 - b 0)))) (IntKind.i64.wrap (d * d)) (IntKind.i64.wrap (IntKind.i64.wrap (IntKind.i64.wrap (c 0 - b 0) * IntKind.i64.wrap (c 0 - b 0)) + IntKind.i64.wrap (IntKind.i64.wrap (c 1 - b 1) * IntKind.i64.wrap (c 1 - b 1))))) (fun r4 =>
 cond (decide (r4.snd = 0)) (
 some (decide (r4.fst ≤ 0))) (
 some (false)))))) : Option (Bool))) xx.1 xx.2.1 xx.2.2.1 xx.2.2.2 := by kernel_rfl
theorem ev61 (a : (aCons (pC (cA .i64 2)) (aCons (pC (cA .i64 3)) (aCons (pC (cA .i64 3)) (aOne (pC (cI .i64)))))).T) : evF (R := (rOne (cB)).T) (cx [] [(78, conF (aCons (pC (cI .i64)) (aCons (pC (cI .i64)) (aCons (pC (cI .i64)) (aOne (pC (cI .i64)))))) (rTup (cCons (cI .i64) (cOne (cI .i64)))) (fun a => f78 (a.1) (a.2.1) (a.2.2.1) (a.2.2.2)))] []) 1000 Tryd.f61 ((aCons (pC (cA .i64 2)) (aCons (pC (cA .i64 3)) (aCons (pC (cA .i64 3)) (aOne (pC (cI .i64)))))).enc gG a) (glMem gl) 2 (rOne (cB)).dec = f61 a.1 a.2.1 a.2.2.1 a.2.2.2 := evg61 f78  a
theorem sp61 : VE.Spec Tryd.prog gG gl 61 (conF (aCons (pC (cA .i64 2)) (aCons (pC (cA .i64 3)) (aCons (pC (cA .i64 3)) (aOne (pC (cI .i64)))))) (rOne (cB)) (fun a => f61 a.1 a.2.1 a.2.2.1 a.2.2.2)) := spec_of ok61 Tryd.func61 Tryd.call61 (lpAll_nil rfl) 1000 (aCons_ok (pC_ok (cA_ok _ _)) (aCons_ok (pC_ok (cA_ok _ _)) (aCons_ok (pC_ok (cA_ok _ _)) (aOne_ok (pC_ok (cI_ok _)))))) (rOne_ok (cB_ok)) ev61

/-- balance.above -/
theorem ok33 : CtxOK Tryd.prog (cx [] [(25, conF (aCons (pC (cA .i64 15)) (aOne (pC (cA .i64 33)))) (rOne (cA .i64 2)) (fun a => f25 (a.1) (a.2))), (61, conF (aCons (pC (cA .i64 2)) (aCons (pC (cA .i64 3)) (aCons (pC (cA .i64 3)) (aOne (pC (cI .i64)))))) (rOne (cB)) (fun a => f61 (a.1) (a.2.1) (a.2.2.1) (a.2.2.2)))] []) gl := ctx_of tyOk moOk (show SpecL Tryd.prog gG gl [(25, conF (aCons (pC (cA .i64 15)) (aOne (pC (cA .i64 33)))) (rOne (cA .i64 2)) (fun a => f25 (a.1) (a.2))), (61, conF (aCons (pC (cA .i64 2)) (aCons (pC (cA .i64 3)) (aCons (pC (cA .i64 3)) (aOne (pC (cI .i64)))))) (rOne (cB)) (fun a => f61 (a.1) (a.2.1) (a.2.2.1) (a.2.2.2)))] from ⟨sp25, sp61, trivial⟩) (show FnL Tryd.prog [] from trivial) (fnLp_nil _) joinOk
noncomputable def f33 (a : Nat → Int) (b : Nat → Int) (c : Int) (d : Int) : Option (Bool) :=
 Option.bind (f25 a b) (fun r4 =>
 cond (decide (c = 1)) (
 Option.bind (f61 r4 (nthI [b 27, b 28, b 29]) (nthI [b 27, b 28, b 29]) d) (fun r5 =>
 some (r5))) (
 cond (decide (c = 2)) (
 Option.bind (f61 r4 (nthI [b 30, b 31, b 32]) (nthI [b 30, b 31, b 32]) d) (fun r5 =>
 some (r5))) (
 Option.bind (f61 r4 (nthI [b 27, b 28, b 29]) (nthI [b 30, b 31, b 32]) d) (fun r5 =>
 some (r5)))))
theorem evg33 (f25 : (Nat → Int) → (Nat → Int) → Option ((Nat → Int))) (f61 : (Nat → Int) → (Nat → Int) → (Nat → Int) → (Int) → Option (Bool))  (xx : (aCons (pC (cA .i64 15)) (aCons (pC (cA .i64 33)) (aCons (pC (cI .i64)) (aOne (pC (cI .i64)))))).T) : evF (R := (rOne (cB)).T) (cx [] [(25, conF (aCons (pC (cA .i64 15)) (aOne (pC (cA .i64 33)))) (rOne (cA .i64 2)) (fun a => f25 (a.1) (a.2))), (61, conF (aCons (pC (cA .i64 2)) (aCons (pC (cA .i64 3)) (aCons (pC (cA .i64 3)) (aOne (pC (cI .i64)))))) (rOne (cB)) (fun a => f61 (a.1) (a.2.1) (a.2.2.1) (a.2.2.2)))] []) 1000 Tryd.f33 ((aCons (pC (cA .i64 15)) (aCons (pC (cA .i64 33)) (aCons (pC (cI .i64)) (aOne (pC (cI .i64)))))).enc gG xx) (glMem gl) 2 (rOne (cB)).dec =
 (fun (a : Nat → Int) (b : Nat → Int) (c : Int) (d : Int) =>
 (( Option.bind (f25 (nthI [a 0, a 1, a 2, a 3, a 4, a 5, a 6, a 7, a 8, a 9, a 10, a 11, a 12, a 13, a 14]) (nthI [b 0, b 1, b 2, b 3, b 4, b 5, b 6, b 7, b 8, b 9, b 10, b 11, b 12, b 13, b 14, b 15, b 16, b 17, b 18, b 19, b 20, b 21, b 22, b 23, b 24, b 25, b 26, b 27, b 28, b 29, b 30, b 31, b 32])) (fun r4 =>
 cond (decide (c = 1)) (
 Option.bind (f61 (nthI [r4 0, r4 1]) (nthI [b 27, b 28, b 29]) (nthI [b 27, b 28, b 29]) d) (fun r5 =>
 some (r5))) (
 cond (decide (c = 2)) (
 Option.bind (f61 (nthI [r4 0, r4 1]) (nthI [b 30, b 31, b 32]) (nthI [b 30, b 31, b 32]) d) (fun r5 =>
 some (r5))) (
 Option.bind (f61 (nthI [r4 0, r4 1]) (nthI [b 27, b 28, b 29]) (nthI [b 30, b 31, b 32]) d) (fun r5 =>
 some (r5)))))) : Option (Bool))) xx.1 xx.2.1 xx.2.2.1 xx.2.2.2 := by kernel_rfl
noncomputable def g33 (a : Nat → Int) (b : Nat → Int) (c : Int) (d : Int) : Option (Bool) :=
 Option.bind (f25 (nthI [a 0, a 1, a 2, a 3, a 4, a 5, a 6, a 7, a 8, a 9, a 10, a 11, a 12, a 13, a 14]) (nthI [b 0, b 1, b 2, b 3, b 4, b 5, b 6, b 7, b 8, b 9, b 10, b 11, b 12, b 13, b 14, b 15, b 16, b 17, b 18, b 19, b 20, b 21, b 22, b 23, b 24, b 25, b 26, b 27, b 28, b 29, b 30, b 31, b 32])) (fun r4 =>
 cond (decide (c = 1)) (
 Option.bind (f61 (nthI [r4 0, r4 1]) (nthI [b 27, b 28, b 29]) (nthI [b 27, b 28, b 29]) d) (fun r5 =>
 some (r5))) (
 cond (decide (c = 2)) (
 Option.bind (f61 (nthI [r4 0, r4 1]) (nthI [b 30, b 31, b 32]) (nthI [b 30, b 31, b 32]) d) (fun r5 =>
 some (r5))) (
 Option.bind (f61 (nthI [r4 0, r4 1]) (nthI [b 27, b 28, b 29]) (nthI [b 30, b 31, b 32]) d) (fun r5 =>
 some (r5)))))
theorem fg33 (a : Nat → Int) (b : Nat → Int) (c : Int) (d : Int) : g33 a b c d = f33 a b c d := by kernel_rfl
theorem ev33 (a : (aCons (pC (cA .i64 15)) (aCons (pC (cA .i64 33)) (aCons (pC (cI .i64)) (aOne (pC (cI .i64)))))).T) : evF (R := (rOne (cB)).T) (cx [] [(25, conF (aCons (pC (cA .i64 15)) (aOne (pC (cA .i64 33)))) (rOne (cA .i64 2)) (fun a => f25 (a.1) (a.2))), (61, conF (aCons (pC (cA .i64 2)) (aCons (pC (cA .i64 3)) (aCons (pC (cA .i64 3)) (aOne (pC (cI .i64)))))) (rOne (cB)) (fun a => f61 (a.1) (a.2.1) (a.2.2.1) (a.2.2.2)))] []) 1000 Tryd.f33 ((aCons (pC (cA .i64 15)) (aCons (pC (cA .i64 33)) (aCons (pC (cI .i64)) (aOne (pC (cI .i64)))))).enc gG a) (glMem gl) 2 (rOne (cB)).dec = f33 a.1 a.2.1 a.2.2.1 a.2.2.2 := (show evF (R := (rOne (cB)).T) (cx [] [(25, conF (aCons (pC (cA .i64 15)) (aOne (pC (cA .i64 33)))) (rOne (cA .i64 2)) (fun a => f25 (a.1) (a.2))), (61, conF (aCons (pC (cA .i64 2)) (aCons (pC (cA .i64 3)) (aCons (pC (cA .i64 3)) (aOne (pC (cI .i64)))))) (rOne (cB)) (fun a => f61 (a.1) (a.2.1) (a.2.2.1) (a.2.2.2)))] []) 1000 Tryd.f33 ((aCons (pC (cA .i64 15)) (aCons (pC (cA .i64 33)) (aCons (pC (cI .i64)) (aOne (pC (cI .i64)))))).enc gG a) (glMem gl) 2 (rOne (cB)).dec = g33 a.1 a.2.1 a.2.2.1 a.2.2.2 from evg33 f25 f61  a).trans (fg33 a.1 a.2.1 a.2.2.1 a.2.2.2)
theorem sp33 : VE.Spec Tryd.prog gG gl 33 (conF (aCons (pC (cA .i64 15)) (aCons (pC (cA .i64 33)) (aCons (pC (cI .i64)) (aOne (pC (cI .i64)))))) (rOne (cB)) (fun a => f33 a.1 a.2.1 a.2.2.1 a.2.2.2)) := spec_of ok33 Tryd.func33 Tryd.call33 (lpAll_nil rfl) 1000 (aCons_ok (pC_ok (cA_ok _ _)) (aCons_ok (pC_ok (cA_ok _ _)) (aCons_ok (pC_ok (cI_ok _)) (aOne_ok (pC_ok (cI_ok _)))))) (rOne_ok (cB_ok)) ev33

/-- balance.Stable -/
theorem ok13 : CtxOK Tryd.prog (cx [] [(24, conF (aCons (pC (cA .i64 15)) (aCons (pC (cA .i64 22)) (aOne (pC (cI .i64))))) (rTup (cCons (cA .i64 33) (cOne (cI .i64)))) (fun a => f24 (a.1) (a.2.1) (a.2.2))), (33, conF (aCons (pC (cA .i64 15)) (aCons (pC (cA .i64 33)) (aCons (pC (cI .i64)) (aOne (pC (cI .i64)))))) (rOne (cB)) (fun a => f33 (a.1) (a.2.1) (a.2.2.1) (a.2.2.2)))] []) gl := ctx_of tyOk moOk (show SpecL Tryd.prog gG gl [(24, conF (aCons (pC (cA .i64 15)) (aCons (pC (cA .i64 22)) (aOne (pC (cI .i64))))) (rTup (cCons (cA .i64 33) (cOne (cI .i64)))) (fun a => f24 (a.1) (a.2.1) (a.2.2))), (33, conF (aCons (pC (cA .i64 15)) (aCons (pC (cA .i64 33)) (aCons (pC (cI .i64)) (aOne (pC (cI .i64)))))) (rOne (cB)) (fun a => f33 (a.1) (a.2.1) (a.2.2.1) (a.2.2.2)))] from ⟨sp24, sp33, trivial⟩) (show FnL Tryd.prog [] from trivial) (fnLp_nil _) joinOk
noncomputable def f13 (a : Nat → Int) (b : Nat → Int) (c : Int) : Option (Bool × Int) :=
 Option.bind (f24 a b c) (fun r3 =>
 cond (!decide (r3.snd = 0)) (
 some ((false, r3.snd))) (
 cond (decide (c = 0)) (
 some ((true, 0))) (
 Option.bind (f33 a r3.fst c (a 9)) (fun r4 =>
 some ((r4, 0))))))
theorem evg13 (f24 : (Nat → Int) → (Nat → Int) → (Int) → Option ((Nat → Int) × Int)) (f33 : (Nat → Int) → (Nat → Int) → (Int) → (Int) → Option (Bool))  (xx : (aCons (pC (cA .i64 15)) (aCons (pC (cA .i64 22)) (aOne (pC (cI .i64))))).T) : evF (R := (rTup (cCons (cB) (cOne (cI .i64)))).T) (cx [] [(24, conF (aCons (pC (cA .i64 15)) (aCons (pC (cA .i64 22)) (aOne (pC (cI .i64))))) (rTup (cCons (cA .i64 33) (cOne (cI .i64)))) (fun a => f24 (a.1) (a.2.1) (a.2.2))), (33, conF (aCons (pC (cA .i64 15)) (aCons (pC (cA .i64 33)) (aCons (pC (cI .i64)) (aOne (pC (cI .i64)))))) (rOne (cB)) (fun a => f33 (a.1) (a.2.1) (a.2.2.1) (a.2.2.2)))] []) 1000 Tryd.f13 ((aCons (pC (cA .i64 15)) (aCons (pC (cA .i64 22)) (aOne (pC (cI .i64))))).enc gG xx) (glMem gl) 2 (rTup (cCons (cB) (cOne (cI .i64)))).dec =
 (fun (a : Nat → Int) (b : Nat → Int) (c : Int) =>
 (( Option.bind (f24 (nthI [a 0, a 1, a 2, a 3, a 4, a 5, a 6, a 7, a 8, a 9, a 10, a 11, a 12, a 13, a 14]) (nthI [b 0, b 1, b 2, b 3, b 4, b 5, b 6, b 7, b 8, b 9, b 10, b 11, b 12, b 13, b 14, b 15, b 16, b 17, b 18, b 19, b 20, b 21]) c) (fun r3 =>
 cond (!decide (r3.snd = 0)) (
 some ((false, r3.snd))) (
 cond (decide (c = 0)) (
 some ((true, 0))) (
 Option.bind (f33 (nthI [a 0, a 1, a 2, a 3, a 4, a 5, a 6, a 7, a 8, a 9, a 10, a 11, a 12, a 13, a 14]) (nthI [r3.fst 0, r3.fst 1, r3.fst 2, r3.fst 3, r3.fst 4, r3.fst 5, r3.fst 6, r3.fst 7, r3.fst 8, r3.fst 9, r3.fst 10, r3.fst 11, r3.fst 12, r3.fst 13, r3.fst 14, r3.fst 15, r3.fst 16, r3.fst 17, r3.fst 18, r3.fst 19, r3.fst 20, r3.fst 21, r3.fst 22, r3.fst 23, r3.fst 24, r3.fst 25, r3.fst 26, r3.fst 27, r3.fst 28, r3.fst 29, r3.fst 30, r3.fst 31, r3.fst 32]) c (a 9)) (fun r4 =>
 some ((r4, 0))))))) : Option (Bool × Int))) xx.1 xx.2.1 xx.2.2 := by kernel_rfl
noncomputable def g13 (a : Nat → Int) (b : Nat → Int) (c : Int) : Option (Bool × Int) :=
 Option.bind (f24 (nthI [a 0, a 1, a 2, a 3, a 4, a 5, a 6, a 7, a 8, a 9, a 10, a 11, a 12, a 13, a 14]) (nthI [b 0, b 1, b 2, b 3, b 4, b 5, b 6, b 7, b 8, b 9, b 10, b 11, b 12, b 13, b 14, b 15, b 16, b 17, b 18, b 19, b 20, b 21]) c) (fun r3 =>
 cond (!decide (r3.snd = 0)) (
 some ((false, r3.snd))) (
 cond (decide (c = 0)) (
 some ((true, 0))) (
 Option.bind (f33 (nthI [a 0, a 1, a 2, a 3, a 4, a 5, a 6, a 7, a 8, a 9, a 10, a 11, a 12, a 13, a 14]) (nthI [r3.fst 0, r3.fst 1, r3.fst 2, r3.fst 3, r3.fst 4, r3.fst 5, r3.fst 6, r3.fst 7, r3.fst 8, r3.fst 9, r3.fst 10, r3.fst 11, r3.fst 12, r3.fst 13, r3.fst 14, r3.fst 15, r3.fst 16, r3.fst 17, r3.fst 18, r3.fst 19, r3.fst 20, r3.fst 21, r3.fst 22, r3.fst 23, r3.fst 24, r3.fst 25, r3.fst 26, r3.fst 27, r3.fst 28, r3.fst 29, r3.fst 30, r3.fst 31, r3.fst 32]) c (a 9)) (fun r4 =>
 some ((r4, 0))))))
theorem fg13 (a : Nat → Int) (b : Nat → Int) (c : Int) : g13 a b c = f13 a b c := by kernel_rfl
theorem ev13 (a : (aCons (pC (cA .i64 15)) (aCons (pC (cA .i64 22)) (aOne (pC (cI .i64))))).T) : evF (R := (rTup (cCons (cB) (cOne (cI .i64)))).T) (cx [] [(24, conF (aCons (pC (cA .i64 15)) (aCons (pC (cA .i64 22)) (aOne (pC (cI .i64))))) (rTup (cCons (cA .i64 33) (cOne (cI .i64)))) (fun a => f24 (a.1) (a.2.1) (a.2.2))), (33, conF (aCons (pC (cA .i64 15)) (aCons (pC (cA .i64 33)) (aCons (pC (cI .i64)) (aOne (pC (cI .i64)))))) (rOne (cB)) (fun a => f33 (a.1) (a.2.1) (a.2.2.1) (a.2.2.2)))] []) 1000 Tryd.f13 ((aCons (pC (cA .i64 15)) (aCons (pC (cA .i64 22)) (aOne (pC (cI .i64))))).enc gG a) (glMem gl) 2 (rTup (cCons (cB) (cOne (cI .i64)))).dec = f13 a.1 a.2.1 a.2.2 := (show evF (R := (rTup (cCons (cB) (cOne (cI .i64)))).T) (cx [] [(24, conF (aCons (pC (cA .i64 15)) (aCons (pC (cA .i64 22)) (aOne (pC (cI .i64))))) (rTup (cCons (cA .i64 33) (cOne (cI .i64)))) (fun a => f24 (a.1) (a.2.1) (a.2.2))), (33, conF (aCons (pC (cA .i64 15)) (aCons (pC (cA .i64 33)) (aCons (pC (cI .i64)) (aOne (pC (cI .i64)))))) (rOne (cB)) (fun a => f33 (a.1) (a.2.1) (a.2.2.1) (a.2.2.2)))] []) 1000 Tryd.f13 ((aCons (pC (cA .i64 15)) (aCons (pC (cA .i64 22)) (aOne (pC (cI .i64))))).enc gG a) (glMem gl) 2 (rTup (cCons (cB) (cOne (cI .i64)))).dec = g13 a.1 a.2.1 a.2.2 from evg13 f24 f33  a).trans (fg13 a.1 a.2.1 a.2.2)
theorem sp13 : VE.Spec Tryd.prog gG gl 13 (conF (aCons (pC (cA .i64 15)) (aCons (pC (cA .i64 22)) (aOne (pC (cI .i64))))) (rTup (cCons (cB) (cOne (cI .i64)))) (fun a => f13 a.1 a.2.1 a.2.2)) := spec_of ok13 Tryd.func13 Tryd.call13 (lpAll_nil rfl) 1000 (aCons_ok (pC_ok (cA_ok _ _)) (aCons_ok (pC_ok (cA_ok _ _)) (aOne_ok (pC_ok (cI_ok _))))) (rTup_ok (cCons_ok (cB_ok) (cOne_ok (cI_ok _)))) ev13

/-- balance.First: by hand -/
def hand17 : Unit := ()
section
open Go.RowKit
/-! ### First by hand: numbers as values -/
def valsI (p : Nat → Int) : Nat → Nat → List Value
  | 0, _ => []
  | n + 1, i => .int .i64 (p i) :: valsI p n (i + 1)
theorem valsI_len (p : Nat → Int) : ∀ n i, (valsI p n i).length = n
  | 0, _ => rfl
  | n + 1, i => by simp [valsI, valsI_len p n]
theorem valsI_get (p : Nat → Int) : ∀ n i j v, (valsI p n i)[j]? = some v → j < n ∧ v = .int .i64 (p (i + j))
  | 0, _, _, _, h => by simp [valsI] at h
  | n + 1, i, 0, v, h => by
    simp [valsI] at h
    exact ⟨by omega, h.symm⟩
  | n + 1, i, j + 1, v, h => by
    simp only [valsI, List.getElem?_cons_succ] at h
    obtain ⟨h1, h2⟩ := valsI_get p n (i + 1) j v h
    exact ⟨by omega, by rw [h2, show i + 1 + j = i + (j + 1) by omega]⟩
theorem valsI_one (p : Nat → Int) : ∀ n i, ∀ u ∈ valsI p n i, u.oneCell' = true
  | 0, _, u, h => by simp [valsI] at h
  | n + 1, i, u, h => by
    rcases List.mem_cons.1 h with rfl | h
    · rfl
    · exact valsI_one p n (i + 1) u h
theorem valsI_VRs (σ : Sg) (p : Nat → Int) : ∀ n i, VRs σ (cellsI .i64 p n i) (valsI p n i)
  | 0, _ => rfl
  | n + 1, i => ⟨_, _, rfl, rfl, valsI_VRs σ p n (i + 1)⟩
theorem VRs_valsI (σ : Sg) (p : Nat → Int) : ∀ n i l, VRs σ (cellsI .i64 p n i) l → l = valsI p n i
  | 0, _, l, h => h
  | n + 1, i, l, h => by
    obtain ⟨v, vs, rfl, h1, h2⟩ := h
    rw [VRs_valsI σ p n (i + 1) vs h2, show v = _ from h1]
    rfl
theorem cellsX_get (p : Nat → Int) : ∀ n i j, j < n → (cellsX p (List.replicate n (some .i64)) i)[j]? = some (.int .i64 (p (i + j)))
  | 0, _, _, h => by omega
  | n + 1, i, 0, _ => rfl
  | n + 1, i, j + 1, h => by
    show (cellsX p (List.replicate n (some .i64)) (i + 1))[j]? = _
    rw [cellsX_get p n (i + 1) j (by omega), show i + 1 + j = i + (j + 1) by omega]

/-! ### What it computes -/
def tick17 (b : Sl × Sl) (k : Nat) : Int := b.2.2 (min k (b.2.1 - 1)) 0
noncomputable def g17 (a : Nat → Int) (b : Sl × Sl) : Nat → Nat → Int → Option (Int × Int)
  | 0, _, s => some (s, 0)
  | n + 1, k, s => Option.bind (f13 a (b.1.2 k) (tick17 b k)) (fun r => cond (!decide (r.2 = 0)) (some (0, r.2)) (g17 a b n (k + 1) (cond r.1 s (cond (decide (s < 0)) (Int.ofNat k) s))))
noncomputable def all17 (a : Nat → Int) (b : Sl × Sl) : Nat → Bool
  | 0 => true
  | k + 1 => (f13 a (b.1.2 k) (tick17 b k)).isSome && all17 a b k
noncomputable def f17 (a : Nat → Int) (b : Sl × Sl) : Option (Int × Int) :=
  cond (decide (Int.ofNat b.2.1 < 1)) (some (0, 2)) (
  cond (!decide (Int.ofNat b.1.1 = IntKind.i64.wrap (Int.ofNat b.2.1 + 1))) (some (0, 2)) (
  cond (decide (Int.ofNat b.2.1 < 9223372036854775807)) (cond (all17 a b b.1.1) (g17 a b b.1.1 0 (-1)) none) none))

theorem all17_get {a : Nat → Int} {b : Sl × Sl} : ∀ {n}, all17 a b n = true → ∀ k, k < n → ∃ r, f13 a (b.1.2 k) (tick17 b k) = some r
  | 0, _, k, h => by omega
  | n + 1, h, k, hk => by
    simp only [all17, Bool.and_eq_true] at h
    by_cases e : k = n
    · subst e
      exact Option.isSome_iff_exists.1 h.1
    · exact all17_get h.2 k (by omega)
theorem g17_well {a : Nat → Int} {b : Sl × Sl} {R : Nat → Bool × Int} : ∀ n k s, (∀ j, k ≤ j → j < k + n → f13 a (b.1.2 j) (tick17 b j) = some (R j)) → (∀ j, k ≤ j → j < k + n → (R j).2 = 0) → s = fstN (fun j => (R j).1) k →
    g17 a b n k s = some (fstN (fun j => (R j).1) (k + n), 0)
  | 0, k, s, _, _, h => by rw [h]; rfl
  | n + 1, k, s, h1, h2, h => by
    rw [g17, h1 k (Nat.le_refl _) (by omega)]
    simp only [Option.bind_some, h2 k (Nat.le_refl _) (by omega), decide_true, Bool.not_true, cond_false]
    rw [g17_well n (k + 1) _ (fun j h3 h4 => h1 j (by omega) (by omega)) (fun j h3 h4 => h2 j (by omega) (by omega)) (by rw [h]; rfl), show k + 1 + n = k + (n + 1) by omega]
theorem g17_ill {a : Nat → Int} {b : Sl × Sl} {R : Nat → Bool × Int} : ∀ n k s i, (∀ j, k ≤ j → j ≤ i → f13 a (b.1.2 j) (tick17 b j) = some (R j)) → k ≤ i → i < k + n → (R i).2 ≠ 0 → (∀ j, k ≤ j → j < i → (R j).2 = 0) →
    g17 a b n k s = some (0, (R i).2)
  | 0, k, s, i, _, h1, h2, _, _ => by omega
  | n + 1, k, s, i, h, h1, h2, h3, h4 => by
    rw [g17, h k (Nat.le_refl _) h1]
    by_cases e : k = i
    · subst e
      simp only [Option.bind_some, h3, decide_false, Bool.not_false, cond_true]
    · simp only [Option.bind_some, h4 k (Nat.le_refl _) (by omega), decide_true, Bool.not_true, cond_false]
      exact g17_ill n (k + 1) _ i (fun j h5 h6 => h j (by omega) h6) (by omega) (by omega) h3 (fun j h5 h6 => h4 j (by omega) h6)

theorem con13 (a p : Nat → Int) (t : Int) : conF (aCons (pC (cA .i64 15)) (aCons (pC (cA .i64 22)) (aOne (pC (cI .i64))))) (rTup (cCons (cB) (cOne (cI .i64)))) (fun a => f13 a.1 a.2.1 a.2.2) [.agg (cellsI .i64 a 15 0), .agg (cellsI .i64 p 22 0), .int .i64 t] = some ⟨Bool × Int, f13 a p t, (rTup (cCons cB (cOne (cI .i64)))).enc⟩ := by kernel_rfl
theorem core17 (a : Nat → Int) (b : Sl × Sl) (v : Int × Int) (pb po cp tb to' ct : Nat) (w : World) (hG : GOK gG gl w) (hpb : pb < w.heap.size) (htb : tb < w.heap.size) (hM0 : 0 < b.2.1) (hN : b.1.1 = b.2.1 + 1) (hMx : (b.2.1 : Int) < 9223372036854775807)
    (hp : ∀ k, k < b.1.1 → ∀ j, j < 22 → w.cell? ⟨pb, po + (k * 22 + j), none⟩ = some (.int .i64 (b.1.2 k j))) (ht : ∀ k, k < b.2.1 → w.cell? ⟨tb, to' + k, none⟩ = some (.int .i64 (b.2.2 k 0))) (hall : all17 a b b.1.1 = true) (hv : g17 a b b.1.1 0 (-1) = some v) :
    Calls Tryd.prog 17 #[.agg (valsI a 15 0).toArray, .agg #[.slice (some ⟨pb, po, none⟩) b.1.1 cp, .slice (some ⟨tb, to', none⟩) b.2.1 ct]] w (fun e W' => e = .returned (.tuple #[.int .i64 v.1, .int .i64 v.2]) ∧ Below w.heap.size w W') := by
  obtain ⟨R, hR⟩ : ∃ R : Nat → Bool × Int, ∀ k, k < b.1.1 → f13 a (b.1.2 k) (tick17 b k) = some (R k) := ⟨fun k => (f13 a (b.1.2 k) (tick17 b k)).getD (false, 0), fun k hk => by
    obtain ⟨r, hr⟩ := all17_get hall k hk
    show f13 a (b.1.2 k) (tick17 b k) = some ((f13 a (b.1.2 k) (tick17 b k)).getD (false, 0))
    rw [hr]
    rfl⟩
  have hcall : ∀ k, k < b.2.1 + 1 → ∀ W, Below w.heap.size w W → Calls Tryd.prog 13 #[.agg (valsI a 15 0).toArray, .agg (valsI (b.1.2 k) 22 0).toArray, .int .i64 (b.2.2 (min k (b.2.1 - 1)) 0)] W fun e W' => e = .returned (.tuple #[.bool (R k).1, .int .i64 (R k).2]) ∧ Below W.heap.size W W' := by
    intro k hk W hW
    have hk2 : k < b.1.1 := by omega
    have := sp13.calls [.agg (cellsI .i64 a 15 0), .agg (cellsI .i64 (b.1.2 k) 22 0), .int .i64 (b.2.2 (min k (b.2.1 - 1)) 0)] ⟨_, f13 a (b.1.2 k) (tick17 b k), (rTup (cCons cB (cOne (cI .i64)))).enc⟩ (con13 _ _ _) (R k) (hR k hk2) (fun _ => none)
      #[.agg (valsI a 15 0).toArray, .agg (valsI (b.1.2 k) 22 0).toArray, .int .i64 (b.2.2 (min k (b.2.1 - 1)) 0)] W ⟨_, _, rfl, ⟨_, rfl, valsI_VRs _ _ _ _⟩, _, _, rfl, ⟨_, rfl, valsI_VRs _ _ _ _⟩, _, _, rfl, rfl, rfl⟩ (hG.later hW) (fun i x r h => by cases h)
    refine this.mono ?_
    rintro e w' ⟨rv, rfl, hr, hb⟩
    obtain ⟨vs, rfl, x1, l1, h1, e1, x2, l2, h2, e2, e3⟩ := hr
    refine ⟨?_, hb⟩
    have hx1 : x1 = .bool (R k).1 := e1
    have hx2 : x2 = .int .i64 (R k).2 := e2
    have hl2 : l2 = [] := e3
    subst hx1 hx2 hl2
    rw [h2] at h1
    have : vs = #[.bool (R k).1, .int .i64 (R k).2] := by rw [← Array.toArray_toList (xs := vs), h1]
    rw [this]
  have D : D17 pb po tb to' b.2.1 (valsI a 15 0).toArray w (fun k => (valsI (b.1.2 k) 22 0).toArray) (fun k => b.2.2 k 0) (fun k => (R k).1) (fun k => (R k).2) :=
    { hpb := hpb
      htb := htb
      hvb := by simp [valsI_len]
      hps := fun k => by simp [valsI_len]
      hpo := fun k u hu => valsI_one _ _ _ u hu
      hp := fun k hk => ⟨rfl, by simp [valsI_len], fun j v hj => by
        obtain ⟨h1, rfl⟩ := valsI_get (b.1.2 k) 22 0 j v (by simpa using hj)
        have := hp k (by omega) j h1
        rw [Nat.zero_add]
        rw [← this]
        show w.cell? ⟨pb, po + k * 22 + j, none⟩ = _
        rw [Nat.add_assoc]⟩
      ht := ht
      hS := hcall }
  refine (callsIn_wide.1 (loop17 6 (by omega) pb po cp tb to' b.2.1 ct b.1.1 (by omega) hN hM0 (valsI a 15 0).toArray w _ _ _ _ D)).mono ?_
  rintro e W' ⟨r1, r2, rfl, hb, h⟩
  refine ⟨?_, hb⟩
  suffices hh : v = (r1, r2) by rw [hh]
  rcases h with ⟨i, h1, h2, h3, rfl, rfl⟩ | ⟨h1, rfl, rfl⟩
  · have := g17_ill (a := a) (b := b) (R := R) b.1.1 0 (-1) i (fun j _ h5 => hR j (by omega)) (Nat.zero_le _) (by omega) h2 (fun j _ h5 => h3 j h5)
    rw [hv] at this
    exact Option.some.inj this
  · have := g17_well (a := a) (b := b) (R := R) b.1.1 0 (-1) (fun j _ h5 => hR j (by omega)) (fun j _ h5 => h1 j (by omega)) rfl
    rw [hv] at this
    rw [Option.some.inj this, Nat.zero_add, hN]

theorem early17w (a b : Nat → Int) (p1 p2 : Option Addr) (N cp M ct : Nat) (w : World) (h : (M : Int) < 1 ∨ (¬ (M : Int) < 1) ∧ ¬ ((N : Int) = wrap64 ((M : Int) + 1))) :
    Calls Tryd.prog 17 #[.agg (valsI a 15 0).toArray, .agg #[.slice p1 N cp, .slice p2 M ct]] w fun e W' => e = .returned (.tuple #[.int .i64 0, .int .i64 2]) ∧ Below w.heap.size w W' :=
  callsIn_wide.1 (early17 6 _ p1 p2 N cp M ct w h)

/- Both, for what is in the slices' rows. -/
theorem all17w (a : Nat → Int) (b : Sl × Sl) (v : Int × Int) (hv : f17 a b = some v) (p1 p2 : Option Addr) (cp ct : Nat) (w : World) (hG : GOK gG gl w)
    (h1 : 0 < b.1.1 → ∃ pb po, p1 = some ⟨pb, po, none⟩ ∧ pb < w.heap.size ∧ ∀ k, k < b.1.1 → ∀ j, j < 22 → w.cell? ⟨pb, po + (k * 22 + j), none⟩ = some (.int .i64 (b.1.2 k j)))
    (h2 : 0 < b.2.1 → ∃ tb to', p2 = some ⟨tb, to', none⟩ ∧ tb < w.heap.size ∧ ∀ k, k < b.2.1 → w.cell? ⟨tb, to' + k, none⟩ = some (.int .i64 (b.2.2 k 0))) :
    Calls Tryd.prog 17 #[.agg (valsI a 15 0).toArray, .agg #[.slice p1 b.1.1 cp, .slice p2 b.2.1 ct]] w (fun e W' => e = .returned (.tuple #[.int .i64 v.1, .int .i64 v.2]) ∧ Below w.heap.size w W') := by
  unfold f17 at hv
  have hw : IntKind.i64.wrap (Int.ofNat b.2.1 + 1) = wrap64 ((b.2.1 : Int) + 1) := by
    show IntKind.i64.wrap ((b.2.1 : Int) + 1) = _
    rw [IntKind.wrap_i64]
    try simp only [wrap64]
    try omega
  by_cases hM : (b.2.1 : Int) < 1
  · rw [show decide (Int.ofNat b.2.1 < 1) = true from decide_eq_true hM, cond_true] at hv
    cases hv
    exact early17w _ (fun _ => 0) _ _ _ _ _ _ _ (.inl hM)
  · rw [show decide (Int.ofNat b.2.1 < 1) = false from decide_eq_false hM, cond_false] at hv
    by_cases hN : (b.1.1 : Int) = wrap64 ((b.2.1 : Int) + 1)
    · rw [show decide (Int.ofNat b.1.1 = IntKind.i64.wrap (Int.ofNat b.2.1 + 1)) = true from decide_eq_true (by rw [hw]; exact hN), Bool.not_true, cond_false] at hv
      by_cases hMx : (b.2.1 : Int) < 9223372036854775807
      · rw [show decide (Int.ofNat b.2.1 < 9223372036854775807) = true from decide_eq_true hMx, cond_true] at hv
        cases hall : all17 a b b.1.1 with
        | false => rw [hall] at hv; cases hv
        | true =>
          rw [hall, cond_true] at hv
          have hN' : b.1.1 = b.2.1 + 1 := by simp only [wrap64] at hN; omega
          obtain ⟨pb, po, rfl, hpb, hp⟩ := h1 (by omega)
          obtain ⟨tb, to', rfl, htb, ht⟩ := h2 (by omega)
          exact core17 a b v pb po cp tb to' ct w hG hpb htb (by omega) hN' hMx hp ht hall hv
      · rw [show decide (Int.ofNat b.2.1 < 9223372036854775807) = false from decide_eq_false hMx, cond_false] at hv
        cases hv
    · rw [show decide (Int.ofNat b.1.1 = IntKind.i64.wrap (Int.ofNat b.2.1 + 1)) = false from decide_eq_false (by rw [hw]; exact hN), Bool.not_false, cond_true] at hv
      cases hv
      exact early17w _ (fun _ => 0) _ _ _ _ _ _ _ (.inr ⟨hM, hN⟩)

theorem res17 (σ : Sg) (v : Int × Int) : VR σ ((rTup (cCons (cI .i64) (cOne (cI .i64)))).enc v) (.tuple #[.int .i64 v.1, .int .i64 v.2]) := ⟨_, rfl, _, _, rfl, rfl, _, _, rfl, rfl, rfl⟩

/- What an incoming slice's rows hold. -/
theorem xs17 {τ : Sg} {w : World} {i len n : Nat} {p : Nat → Nat → Int} {s : Value} (hs : VR τ (.xslice i len (List.replicate n (some .i64)) p) s) (hR : RowsOK τ w) :
    ∃ q c, s = .slice q len c ∧ (0 < len → ∃ pb po, q = some ⟨pb, po, none⟩ ∧ pb < w.heap.size ∧ ∀ k, k < len → ∀ j, j < n → w.cell? ⟨pb, po + (k * n + j), none⟩ = some (.int .i64 (p k j))) := by
  rcases hs with ⟨x, c, hx, rfl, h1, h2, h3⟩ | ⟨rfl, rfl⟩
  · refine ⟨_, _, rfl, fun _ => ⟨_, _, rfl, (hR _ _ _ hx h3).1, fun k hk j hj => ?_⟩⟩
    obtain ⟨v, h4, h5⟩ := (hR _ _ _ hx h3).2 k (by omega) j _ (cellsX_get (p k) n 0 j hj)
    have := h5 (fun _ => none)
    rw [show v = _ from this] at h4
    simpa using h4
  · exact ⟨_, _, rfl, fun h => absurd h (Nat.lt_irrefl _)⟩

theorem sp17 : VE.Spec Tryd.prog gG gl 17 (conF (aCons (pC (cA .i64 15)) (aOne (pSS kx31 kx3))) (rTup (cCons (cI .i64) (cOne (cI .i64)))) (fun a => f17 a.1 a.2)) := by
  refine ⟨Tryd.call17, fun args cr hF v hv σ vals w hvals hG hR => ?_⟩
  unfold conF at hF
  cases hd : (aCons (pC (cA .i64 15)) (aOne (pSS kx31 kx3))).dec args with
  | none => simp [hd] at hF
  | some t =>
    simp [hd] at hF
    subst hF
    obtain ⟨τ, h1, h2⟩ := (aCons_ok (pC_ok (cA_ok _ _)) (aOne_ok (pSS_ok _ _))).back args t hd 0 σ _ hvals
    have hR' : RowsOK τ w := fun i x r hi hr => by
      obtain ⟨h3, i', r', h4, h5⟩ := h1 i x hi
      exact hR i' x r h4 hr
    have hv' := h2 τ (fun j x hj => by rw [Nat.zero_add]; exact hj)
    obtain ⟨a, b⟩ := t
    obtain ⟨s0, l0, h3, ⟨va, rfl, h4⟩, s1, l1, h5, ⟨vb, rfl, h6⟩, h7⟩ := hv'
    obtain ⟨t1, m1, h8, h9, t2, m2, h10, h11, h12⟩ := h6
    have e1 := VRs_valsI _ _ _ _ _ h4
    obtain ⟨q1, c1, rfl, h13⟩ := xs17 (n := 22) h9 hR'
    obtain ⟨q2, c2, rfl, h14⟩ := xs17 (n := 1) h11 hR'
    have hm2 : m2 = [] := h12
    have hl1 : l1 = [] := h7
    subst hm2 hl1
    rw [h10] at h8
    rw [h5] at h3
    have e2 : va = (valsI a 15 0).toArray := by rw [← Array.toArray_toList (xs := va), e1]
    have e3 : vb = #[.slice q1 b.1.1 c1, .slice q2 b.2.1 c2] := by rw [← Array.toArray_toList (xs := vb), h8]
    have e4 : vals = #[.agg va, .agg vb] := by rw [← Array.toArray_toList (xs := vals), h3]
    rw [e4, e3, e2]
    refine (all17w a b v hv q1 q2 c1 c2 w hG h13 (fun h => ?_)).mono ?_
    · obtain ⟨tb, to', h15, h16, h17⟩ := h14 h
      exact ⟨tb, to', h15, h16, fun k hk => by simpa using h17 k hk 0 (by omega)⟩
    · rintro e w' ⟨rfl, hb⟩
      exact ⟨_, rfl, res17 _ _, hb⟩
/-! ### First, told memory: slices of the caller's own -/
def rowsC (cells : List AV) (off n st : Nat) : Option Sl := match intsOf .i64 cells.length cells with
  | some l => bif Nat.ble (Nat.add off (Nat.mul n st)) cells.length then some (n, fun j k => nthI l (Nat.add off (Nat.add (Nat.mul j st) k))) else none
  | none => none
def rowsM (mem : List (Nat × Blk)) (st : Nat) : AV → Option Sl
  | .nils => some (0, fun _ _ => 0)
  | .slice i off n => match lkM mem i with
    | some (.own cells _) => rowsC cells off n st
    | some (.pre cells _ _) => rowsC cells off n st
    | _ => none
  | _ => none
noncomputable def F17M (args : List AV) (mem : List (Nat × Blk)) : Option ConR := match args with
  | [a, .agg [x, y]] => match (cA .i64 15).dec a with
    | some a => match rowsM mem 22 x with
      | some p => match rowsM mem 1 y with
        | some q => some ⟨Int × Int, f17 a (p, q), (rTup (cCons (cI .i64) (cOne (cI .i64)))).enc⟩
        | none => none
      | none => none
    | none => none
  | _ => none
theorem valsI_at (p : Nat → Int) : ∀ n i j, j < n → (valsI p n i)[j]? = some (.int .i64 (p (i + j)))
  | 0, _, _, h => by omega
  | n + 1, i, 0, _ => rfl
  | n + 1, i, j + 1, h => by
    show (valsI p n (i + 1))[j]? = _
    rw [valsI_at p n (i + 1) j (by omega), show i + 1 + j = i + (j + 1) by omega]
theorem rowsC_ok {σ : Sg} {w : World} {cells : List AV} {off n st : Nat} {sl : Sl} (h : rowsC cells off n st = some sl) {blk cap : Nat} (hb : blk < w.heap.size) {vs : Array Value} {el : TypeId} (hh : w.heap[blk]? = some (.cells vs el (0, 0))) (hv : VRs σ cells (vs.toList.take cells.length)) :
    ∃ q c, Value.slice (some ⟨blk, 0 + off, none⟩) n cap = .slice q sl.1 c ∧ (0 < sl.1 → ∃ pb po, q = some ⟨pb, po, none⟩ ∧ pb < w.heap.size ∧ ∀ k, k < sl.1 → ∀ j, j < st → w.cell? ⟨pb, po + (k * st + j), none⟩ = some (.int .i64 (sl.2 k j))) := by
  unfold rowsC at h
  cases hi : intsOf .i64 cells.length cells with
  | none => rw [hi] at h; cases h
  | some l =>
    rw [hi] at h
    simp only [] at h
    obtain ⟨h1, h2⟩ := bif_some h
    obtain rfl := Option.some.inj h2
    refine ⟨_, _, rfl, fun _ => ⟨_, _, rfl, hb, fun k hk j hj => ?_⟩⟩
    have hle := Nat.le_of_ble_eq_true h1
    have hcells := intsOf_cells hi
    rw [hcells] at hv
    have hv2 := VRs_valsI _ _ _ _ _ hv
    simp only [] at hk ⊢
    have hb1 : off + (k * st + j) < cells.length := by
      have h3 : k * st + st ≤ n * st := by
        have := Nat.mul_le_mul_right st (Nat.succ_le_of_lt hk)
        rwa [Nat.succ_mul] at this
      have h4 : Nat.add off (Nat.mul n st) = off + n * st := rfl
      omega
    rw [show 0 + off + (k * st + j) = off + (k * st + j) by omega, cell_of_row _ _ _ _ _ _ hh]
    have h5 := valsI_at (nthI l) cells.length 0 (off + (k * st + j)) hb1
    rw [← hv2] at h5
    have h6 : (vs.toList.take (cellsI .i64 (nthI l) cells.length 0).length)[off + (k * st + j)]? = vs.toList[off + (k * st + j)]? := by
      rw [List.getElem?_take, if_pos (by rw [← hcells]; exact hb1)]
    rw [h6, Nat.zero_add] at h5
    simpa using h5
theorem rowsM_ok {w0 : World} {U : Nat → Prop} {σ : Sg} {mem : List (Nat × Blk)} {w : World} (hM : RepM w0 gG U σ (lkM mem) w) {st : Nat} {av : AV} {sl : Sl} {s : Value} (h : rowsM mem st av = some sl) (hs : VR σ av s) :
    ∃ q c, s = .slice q sl.1 c ∧ (0 < sl.1 → ∃ pb po, q = some ⟨pb, po, none⟩ ∧ pb < w.heap.size ∧ ∀ k, k < sl.1 → ∀ j, j < st → w.cell? ⟨pb, po + (k * st + j), none⟩ = some (.int .i64 (sl.2 k j))) := by
  cases av <;> simp only [rowsM] at h <;> try (cases h; done)
  · rename_i i off n
    cases hl : lkM mem i with
    | none => simp [hl] at h
    | some blk =>
      rw [hl] at h
      obtain ⟨x, hx, rfl⟩ := hs
      obtain ⟨y, hy, hb⟩ := hM.blk i blk hl
      obtain rfl := Option.some.inj (hx.symm.trans hy)
      cases blk with
      | ro _ => cases h
      | own cells el =>
        obtain ⟨h0, vs, h1, h2⟩ := hb
        rw [h0]
        have h3 : cells.length = vs.toList.length := h2.length.symm
        exact rowsC_ok h (hM.lt i x hx) h1 (by rw [h3, List.take_length]; exact h2)
      | pre cells el sz =>
        obtain ⟨h0, _, _, vs, h1, _, h2⟩ := hb
        rw [h0]
        exact rowsC_ok h (hM.lt i x hx) h1 h2
  · cases h
    have hs' : s = .slice none 0 0 := hs
    subst hs'
    exact ⟨_, _, rfl, fun h => absurd h (Nat.lt_irrefl _)⟩
theorem sm17 : SpecM Tryd.prog gG gl 17 F17M := by
  refine ⟨Tryd.call17, fun args mem cr hF v hv w0 U σ vals w hM hvals hG => ?_⟩
  unfold F17M at hF
  split at hF
  · rename_i a x y
    cases ha : (cA .i64 15).dec a with
    | none => simp [ha] at hF
    | some a' =>
      cases hx : rowsM mem 22 x with
      | none => simp [ha, hx] at hF
      | some p =>
        cases hy : rowsM mem 1 y with
        | none => simp [ha, hx, hy] at hF
        | some q =>
          simp [ha, hx, hy] at hF
          subst hF
          obtain ⟨rfl, _⟩ := (cA_ok .i64 15).back a a' ha
          obtain ⟨s0, l0, h3, ⟨va, rfl, h4⟩, s1, l1, h5, ⟨vb, rfl, h6⟩, h7⟩ := hvals
          obtain ⟨t1, m1, h8, h9, t2, m2, h10, h11, h12⟩ := h6
          have e1 := VRs_valsI _ _ _ _ _ h4
          obtain ⟨q1, c1, rfl, h13⟩ := rowsM_ok hM hx h9
          obtain ⟨q2, c2, rfl, h14⟩ := rowsM_ok hM hy h11
          have hm2 : m2 = [] := h12
          have hl1 : l1 = [] := h7
          subst hm2 hl1
          rw [h10] at h8
          rw [h5] at h3
          have e2 : va = (valsI a' 15 0).toArray := by rw [← Array.toArray_toList (xs := va), e1]
          have e3 : vb = #[.slice q1 p.1 c1, .slice q2 q.1 c2] := by rw [← Array.toArray_toList (xs := vb), h8]
          have e4 : vals = #[.agg va, .agg vb] := by rw [← Array.toArray_toList (xs := vals), h3]
          rw [e4, e3, e2]
          refine (all17w a' (p, q) v hv q1 q2 c1 c2 w hG h13 (fun h => ?_)).mono ?_
          · obtain ⟨tb, to', h15, h16, h17⟩ := h14 h
            exact ⟨tb, to', h15, h16, fun k hk => by simpa using h17 k hk 0 (by omega)⟩
          · rintro e w' ⟨rfl, hb⟩
            exact ⟨_, rfl, res17 _ _, hb⟩
  · cases hF
end

/-- dancestudiolaw21.upright -/
theorem ok30 : CtxOK Tryd.prog (cx [] [] []) gl := ctx_of tyOk moOk (show SpecL Tryd.prog gG gl [] from trivial) (show FnL Tryd.prog [] from trivial) (fnLp_nil _) joinOk
noncomputable def f30  : Option ((Nat → Int)) :=
 some (nthI tab1)
theorem evg30   (xx : (aNil).T) : evF (R := (rOne (cA .i64 22)).T) (cx [] [] []) 1000 Tryd.f30 ((aNil).enc gG xx) (glMem gl) 2 (rOne (cA .i64 22)).dec =
 (( some (nthI tab1)) : Option ((Nat → Int))) := by kernel_rfl
theorem ev30 (a : (aNil).T) : evF (R := (rOne (cA .i64 22)).T) (cx [] [] []) 1000 Tryd.f30 ((aNil).enc gG a) (glMem gl) 2 (rOne (cA .i64 22)).dec = f30 := evg30   a
theorem sp30 : VE.Spec Tryd.prog gG gl 30 (conF (aNil) (rOne (cA .i64 22)) (fun a => f30)) := spec_of ok30 Tryd.func30 Tryd.call30 (lpAll_nil rfl) 1000 (aNil_ok) (rOne_ok (cA_ok _ _)) ev30

/-- balance.Margin -/
theorem okl15 : CtxOK Tryd.prog (cx [] [(24, conF (aCons (pC (cA .i64 15)) (aCons (pC (cA .i64 22)) (aOne (pC (cI .i64))))) (rTup (cCons (cA .i64 33) (cOne (cI .i64)))) (fun a => f24 (a.1) (a.2.1) (a.2.2))), (33, conF (aCons (pC (cA .i64 15)) (aCons (pC (cA .i64 33)) (aCons (pC (cI .i64)) (aOne (pC (cI .i64)))))) (rOne (cB)) (fun a => f33 (a.1) (a.2.1) (a.2.2.1) (a.2.2.2)))] []) gl := ctx_of tyOk moOk (show SpecL Tryd.prog gG gl [(24, conF (aCons (pC (cA .i64 15)) (aCons (pC (cA .i64 22)) (aOne (pC (cI .i64))))) (rTup (cCons (cA .i64 33) (cOne (cI .i64)))) (fun a => f24 (a.1) (a.2.1) (a.2.2))), (33, conF (aCons (pC (cA .i64 15)) (aCons (pC (cA .i64 33)) (aCons (pC (cI .i64)) (aOne (pC (cI .i64)))))) (rOne (cB)) (fun a => f33 (a.1) (a.2.1) (a.2.2.1) (a.2.2.2)))] from ⟨sp24, sp33, trivial⟩) (show FnL Tryd.prog [] from trivial) (fnLp_nil _) joinOk
def T15_0 : ST := ⟨[(2, .s (.i .i64)), (3, .s (.ptr 2 0)), (8, .s (.ptr 13 0)), (25, .s (.i .i64)), (26, .s (.i .i64))], [(2, .own [.i .i64, .i .i64, .i .i64, .i .i64, .i .i64, .i .i64, .i .i64, .i .i64, .i .i64, .i .i64, .i .i64, .i .i64, .i .i64, .i .i64, .i .i64] 24), (13, .own [.i .i64, .i .i64, .i .i64, .i .i64, .i .i64, .i .i64, .i .i64, .i .i64, .i .i64, .i .i64, .i .i64, .i .i64, .i .i64, .i .i64, .i .i64, .i .i64, .i .i64, .i .i64, .i .i64, .i .i64, .i .i64, .i .i64, .i .i64, .i .i64, .i .i64, .i .i64, .i .i64, .i .i64, .i .i64, .i .i64, .i .i64, .i .i64, .i .i64] 59)], 24⟩
def outs15_0 : List (AExit × ST) := [(.exit 0, ⟨[], [], 25⟩), (.ret, ⟨[(6, .s (.i .i64)), (7, .s (.i .i64))], [], 38⟩)]
noncomputable def s15_0 (rec : (Nat → Int) → (Nat → Sl) → Option LR) (x : Nat → Int) (y : Nat → Sl) : Option LR :=
 cond (decide (x 2 < x 1)) (
 Option.bind (f33 (nthI [x 3, x 4, x 5, x 6, x 7, x 8, x 9, x 10, x 11, x 12, x 13, x 14, x 15, x 16, x 17]) (nthI [x 18, x 19, x 20, x 21, x 22, x 23, x 24, x 25, x 26, x 27, x 28, x 29, x 30, x 31, x 32, x 33, x 34, x 35, x 36, x 37, x 38, x 39, x 40, x 41, x 42, x 43, x 44, x 45, x 46, x 47, x 48, x 49, x 50]) (x 0) (x 2)) (fun r3 =>
 cond (r3) (
 some ((1, nthI [IntKind.i64.wrap (x 12 - x 2), 0], nthS []))) (
 rec (nthI [x 0, x 1, IntKind.i64.wrap (x 2 + 1), x 3, x 4, x 5, x 6, x 7, x 8, x 9, x 10, x 11, x 12, x 13, x 14, x 15, x 16, x 17, x 18, x 19, x 20, x 21, x 22, x 23, x 24, x 25, x 26, x 27, x 28, x 29, x 30, x 31, x 32, x 33, x 34, x 35, x 36, x 37, x 38, x 39, x 40, x 41, x 42, x 43, x 44, x 45, x 46, x 47, x 48, x 49, x 50]) (nthS [])))) (
 some ((0, nthI [], nthS [])))
theorem se15_0 (f33 : (Nat → Int) → (Nat → Int) → (Int) → (Int) → Option (Bool)) (rec : (Nat → Int) → (Nat → Sl) → Option LR) (x : Nat → Int) (y : Nat → Sl) : evR (cx [] [(24, conF (aCons (pC (cA .i64 15)) (aCons (pC (cA .i64 22)) (aOne (pC (cI .i64))))) (rTup (cCons (cA .i64 33) (cOne (cI .i64)))) (fun a => f24 (a.1) (a.2.1) (a.2.2))), (33, conF (aCons (pC (cA .i64 15)) (aCons (pC (cA .i64 33)) (aCons (pC (cI .i64)) (aOne (pC (cI .i64)))))) (rOne (cB)) (fun a => f33 (a.1) (a.2.1) (a.2.2.1) (a.2.2.2)))] []) 1000 LR 39 (loopAt Tryd.f15 0) (encT x y T15_0) (roundK T15_0 outs15_0 rec) =
 (( cond (decide (x 2 < x 1)) (
 Option.bind (f33 (nthI [x 3, x 4, x 5, x 6, x 7, x 8, x 9, x 10, x 11, x 12, x 13, x 14, x 15, x 16, x 17]) (nthI [x 18, x 19, x 20, x 21, x 22, x 23, x 24, x 25, x 26, x 27, x 28, x 29, x 30, x 31, x 32, x 33, x 34, x 35, x 36, x 37, x 38, x 39, x 40, x 41, x 42, x 43, x 44, x 45, x 46, x 47, x 48, x 49, x 50]) (x 0) (x 2)) (fun r3 =>
 cond (r3) (
 some ((1, nthI [IntKind.i64.wrap (x 12 - x 2), 0], nthS []))) (
 rec (nthI [x 0, x 1, IntKind.i64.wrap (x 2 + 1), x 3, x 4, x 5, x 6, x 7, x 8, x 9, x 10, x 11, x 12, x 13, x 14, x 15, x 16, x 17, x 18, x 19, x 20, x 21, x 22, x 23, x 24, x 25, x 26, x 27, x 28, x 29, x 30, x 31, x 32, x 33, x 34, x 35, x 36, x 37, x 38, x 39, x 40, x 41, x 42, x 43, x 44, x 45, x 46, x 47, x 48, x 49, x 50]) (nthS [])))) (
 some ((0, nthI [], nthS [])))) : Option LR) := by kernel_rfl
noncomputable def l15_0 (x : Nat → Int) (y : Nat → Sl) : Option LR := iterL s15_0 ((x 1).toNat + 1) x y
theorem ls15_0 : LoopSpec Tryd.prog gG gl 39 ⟨T15_0, outs15_0, l15_0⟩ (loopAt Tryd.f15 0) := loop_ok (step := s15_0) (fu := fun x y => (x 1).toNat + 1) okl15 1000 (lpNone rfl) (by kernel_rfl) (by kernel_rfl) (fun rec x y => se15_0 f33 rec x y) (fun _ _ => rfl)
theorem ok15 : CtxOK Tryd.prog (cx [] [(24, conF (aCons (pC (cA .i64 15)) (aCons (pC (cA .i64 22)) (aOne (pC (cI .i64))))) (rTup (cCons (cA .i64 33) (cOne (cI .i64)))) (fun a => f24 (a.1) (a.2.1) (a.2.2))), (33, conF (aCons (pC (cA .i64 15)) (aCons (pC (cA .i64 33)) (aCons (pC (cI .i64)) (aOne (pC (cI .i64)))))) (rOne (cB)) (fun a => f33 (a.1) (a.2.1) (a.2.2.1) (a.2.2.2)))] [(39007, ⟨T15_0, outs15_0, l15_0⟩)]) gl := ctx_of tyOk moOk (show SpecL Tryd.prog gG gl [(24, conF (aCons (pC (cA .i64 15)) (aCons (pC (cA .i64 22)) (aOne (pC (cI .i64))))) (rTup (cCons (cA .i64 33) (cOne (cI .i64)))) (fun a => f24 (a.1) (a.2.1) (a.2.2))), (33, conF (aCons (pC (cA .i64 15)) (aCons (pC (cA .i64 33)) (aCons (pC (cI .i64)) (aOne (pC (cI .i64)))))) (rOne (cB)) (fun a => f33 (a.1) (a.2.1) (a.2.2.1) (a.2.2.2)))] from ⟨sp24, sp33, trivial⟩) (show FnL Tryd.prog [] from trivial) (show FnLp Tryd.prog gG gl [(39007, ⟨T15_0, outs15_0, l15_0⟩)] [] from trivial) joinOk
theorem la15 : LpAll Tryd.prog (cx [] [(24, conF (aCons (pC (cA .i64 15)) (aCons (pC (cA .i64 22)) (aOne (pC (cI .i64))))) (rTup (cCons (cA .i64 33) (cOne (cI .i64)))) (fun a => f24 (a.1) (a.2.1) (a.2.2))), (33, conF (aCons (pC (cA .i64 15)) (aCons (pC (cA .i64 33)) (aCons (pC (cI .i64)) (aOne (pC (cI .i64)))))) (rOne (cB)) (fun a => f33 (a.1) (a.2.1) (a.2.2.1) (a.2.2.2)))] [(39007, ⟨T15_0, outs15_0, l15_0⟩)]) gl Tryd.f15 := lpAll_of (lps := [(39007, ⟨T15_0, outs15_0, l15_0⟩)]) rfl (ks := [39007]) (by kernel_rfl) (show LpS Tryd.prog gG gl Tryd.f15 [(39007, ⟨T15_0, outs15_0, l15_0⟩)] [39007] 0 from ⟨fun L h => (by cases h; exact ls15_0), trivial⟩)
noncomputable def f15 (a : Nat → Int) (b : Nat → Int) (c : Int) : Option (Int × Int) :=
 Option.bind (f24 a b c) (fun r3 =>
 cond (!decide (r3.snd = 0)) (
 some ((0, r3.snd))) (
 cond (decide (c = 0)) (
 some ((0, 28))) (
 Option.bind (l15_0 (nthI [c, IntKind.i64.wrap (a 9 + 1), 0, a 0, a 1, a 2, a 3, a 4, a 5, a 6, a 7, a 8, a 9, a 10, a 11, a 12, a 13, a 14, r3.fst 0, r3.fst 1, r3.fst 2, r3.fst 3, r3.fst 4, r3.fst 5, r3.fst 6, r3.fst 7, r3.fst 8, r3.fst 9, r3.fst 10, r3.fst 11, r3.fst 12, r3.fst 13, r3.fst 14, r3.fst 15, r3.fst 16, r3.fst 17, r3.fst 18, r3.fst 19, r3.fst 20, r3.fst 21, r3.fst 22, r3.fst 23, r3.fst 24, r3.fst 25, r3.fst 26, r3.fst 27, r3.fst 28, r3.fst 29, r3.fst 30, r3.fst 31, r3.fst 32]) (nthS [])) (fun r4 =>
 cond (decide (r4.fst = 0)) (
 some ((0, 27))) (
 some ((r4.snd.fst 0, r4.snd.fst 1)))))))
theorem evg15 (f24 : (Nat → Int) → (Nat → Int) → (Int) → Option ((Nat → Int) × Int)) (l15_0 : (Nat → Int) → (Nat → Sl) → Option LR) (xx : (aCons (pC (cA .i64 15)) (aCons (pC (cA .i64 22)) (aOne (pC (cI .i64))))).T) : evF (R := (rTup (cCons (cI .i64) (cOne (cI .i64)))).T) (cx [] [(24, conF (aCons (pC (cA .i64 15)) (aCons (pC (cA .i64 22)) (aOne (pC (cI .i64))))) (rTup (cCons (cA .i64 33) (cOne (cI .i64)))) (fun a => f24 (a.1) (a.2.1) (a.2.2))), (33, conF (aCons (pC (cA .i64 15)) (aCons (pC (cA .i64 33)) (aCons (pC (cI .i64)) (aOne (pC (cI .i64)))))) (rOne (cB)) (fun a => f33 (a.1) (a.2.1) (a.2.2.1) (a.2.2.2)))] [(39007, ⟨T15_0, outs15_0, l15_0⟩)]) 1000 Tryd.f15 ((aCons (pC (cA .i64 15)) (aCons (pC (cA .i64 22)) (aOne (pC (cI .i64))))).enc gG xx) (glMem gl) 2 (rTup (cCons (cI .i64) (cOne (cI .i64)))).dec =
 (fun (a : Nat → Int) (b : Nat → Int) (c : Int) =>
 (( Option.bind (f24 (nthI [a 0, a 1, a 2, a 3, a 4, a 5, a 6, a 7, a 8, a 9, a 10, a 11, a 12, a 13, a 14]) (nthI [b 0, b 1, b 2, b 3, b 4, b 5, b 6, b 7, b 8, b 9, b 10, b 11, b 12, b 13, b 14, b 15, b 16, b 17, b 18, b 19, b 20, b 21]) c) (fun r3 =>
 cond (!decide (r3.snd = 0)) (
 some ((0, r3.snd))) (
 cond (decide (c = 0)) (
 some ((0, 28))) (
 Option.bind (l15_0 (nthI [c, IntKind.i64.wrap (a 9 + 1), 0, a 0, a 1, a 2, a 3, a 4, a 5, a 6, a 7, a 8, a 9, a 10, a 11, a 12, a 13, a 14, r3.fst 0, r3.fst 1, r3.fst 2, r3.fst 3, r3.fst 4, r3.fst 5, r3.fst 6, r3.fst 7, r3.fst 8, r3.fst 9, r3.fst 10, r3.fst 11, r3.fst 12, r3.fst 13, r3.fst 14, r3.fst 15, r3.fst 16, r3.fst 17, r3.fst 18, r3.fst 19, r3.fst 20, r3.fst 21, r3.fst 22, r3.fst 23, r3.fst 24, r3.fst 25, r3.fst 26, r3.fst 27, r3.fst 28, r3.fst 29, r3.fst 30, r3.fst 31, r3.fst 32]) (nthS [])) (fun r4 =>
 cond (decide (r4.fst = 0)) (
 some ((0, 27))) (
 some ((r4.snd.fst 0, r4.snd.fst 1)))))))) : Option (Int × Int))) xx.1 xx.2.1 xx.2.2 := by kernel_rfl
noncomputable def g15 (a : Nat → Int) (b : Nat → Int) (c : Int) : Option (Int × Int) :=
 Option.bind (f24 (nthI [a 0, a 1, a 2, a 3, a 4, a 5, a 6, a 7, a 8, a 9, a 10, a 11, a 12, a 13, a 14]) (nthI [b 0, b 1, b 2, b 3, b 4, b 5, b 6, b 7, b 8, b 9, b 10, b 11, b 12, b 13, b 14, b 15, b 16, b 17, b 18, b 19, b 20, b 21]) c) (fun r3 =>
 cond (!decide (r3.snd = 0)) (
 some ((0, r3.snd))) (
 cond (decide (c = 0)) (
 some ((0, 28))) (
 Option.bind (l15_0 (nthI [c, IntKind.i64.wrap (a 9 + 1), 0, a 0, a 1, a 2, a 3, a 4, a 5, a 6, a 7, a 8, a 9, a 10, a 11, a 12, a 13, a 14, r3.fst 0, r3.fst 1, r3.fst 2, r3.fst 3, r3.fst 4, r3.fst 5, r3.fst 6, r3.fst 7, r3.fst 8, r3.fst 9, r3.fst 10, r3.fst 11, r3.fst 12, r3.fst 13, r3.fst 14, r3.fst 15, r3.fst 16, r3.fst 17, r3.fst 18, r3.fst 19, r3.fst 20, r3.fst 21, r3.fst 22, r3.fst 23, r3.fst 24, r3.fst 25, r3.fst 26, r3.fst 27, r3.fst 28, r3.fst 29, r3.fst 30, r3.fst 31, r3.fst 32]) (nthS [])) (fun r4 =>
 cond (decide (r4.fst = 0)) (
 some ((0, 27))) (
 some ((r4.snd.fst 0, r4.snd.fst 1)))))))
theorem fg15 (a : Nat → Int) (b : Nat → Int) (c : Int) : g15 a b c = f15 a b c := by kernel_rfl
theorem ev15 (a : (aCons (pC (cA .i64 15)) (aCons (pC (cA .i64 22)) (aOne (pC (cI .i64))))).T) : evF (R := (rTup (cCons (cI .i64) (cOne (cI .i64)))).T) (cx [] [(24, conF (aCons (pC (cA .i64 15)) (aCons (pC (cA .i64 22)) (aOne (pC (cI .i64))))) (rTup (cCons (cA .i64 33) (cOne (cI .i64)))) (fun a => f24 (a.1) (a.2.1) (a.2.2))), (33, conF (aCons (pC (cA .i64 15)) (aCons (pC (cA .i64 33)) (aCons (pC (cI .i64)) (aOne (pC (cI .i64)))))) (rOne (cB)) (fun a => f33 (a.1) (a.2.1) (a.2.2.1) (a.2.2.2)))] [(39007, ⟨T15_0, outs15_0, l15_0⟩)]) 1000 Tryd.f15 ((aCons (pC (cA .i64 15)) (aCons (pC (cA .i64 22)) (aOne (pC (cI .i64))))).enc gG a) (glMem gl) 2 (rTup (cCons (cI .i64) (cOne (cI .i64)))).dec = f15 a.1 a.2.1 a.2.2 := (show evF (R := (rTup (cCons (cI .i64) (cOne (cI .i64)))).T) (cx [] [(24, conF (aCons (pC (cA .i64 15)) (aCons (pC (cA .i64 22)) (aOne (pC (cI .i64))))) (rTup (cCons (cA .i64 33) (cOne (cI .i64)))) (fun a => f24 (a.1) (a.2.1) (a.2.2))), (33, conF (aCons (pC (cA .i64 15)) (aCons (pC (cA .i64 33)) (aCons (pC (cI .i64)) (aOne (pC (cI .i64)))))) (rOne (cB)) (fun a => f33 (a.1) (a.2.1) (a.2.2.1) (a.2.2.2)))] [(39007, ⟨T15_0, outs15_0, l15_0⟩)]) 1000 Tryd.f15 ((aCons (pC (cA .i64 15)) (aCons (pC (cA .i64 22)) (aOne (pC (cI .i64))))).enc gG a) (glMem gl) 2 (rTup (cCons (cI .i64) (cOne (cI .i64)))).dec = g15 a.1 a.2.1 a.2.2 from evg15 f24 l15_0 a).trans (fg15 a.1 a.2.1 a.2.2)
theorem sp15 : VE.Spec Tryd.prog gG gl 15 (conF (aCons (pC (cA .i64 15)) (aCons (pC (cA .i64 22)) (aOne (pC (cI .i64))))) (rTup (cCons (cI .i64) (cOne (cI .i64)))) (fun a => f15 a.1 a.2.1 a.2.2)) := spec_of ok15 Tryd.func15 Tryd.call15 la15 1000 (aCons_ok (pC_ok (cA_ok _ _)) (aCons_ok (pC_ok (cA_ok _ _)) (aOne_ok (pC_ok (cI_ok _))))) (rTup_ok (cCons_ok (cI_ok _) (cOne_ok (cI_ok _)))) ev15

/-- dancestudiolaw21.body -/
theorem ok32 : CtxOK Tryd.prog (cx [] [] []) gl := ctx_of tyOk moOk (show SpecL Tryd.prog gG gl [] from trivial) (show FnL Tryd.prog [] from trivial) (fnLp_nil _) joinOk
noncomputable def f32  : Option ((Nat → Int)) :=
 some (nthI tab2)
theorem evg32   (xx : (aNil).T) : evF (R := (rOne (cA .i64 15)).T) (cx [] [] []) 1000 Tryd.f32 ((aNil).enc gG xx) (glMem gl) 2 (rOne (cA .i64 15)).dec =
 (( some (nthI tab2)) : Option ((Nat → Int))) := by kernel_rfl
theorem ev32 (a : (aNil).T) : evF (R := (rOne (cA .i64 15)).T) (cx [] [] []) 1000 Tryd.f32 ((aNil).enc gG a) (glMem gl) 2 (rOne (cA .i64 15)).dec = f32 := evg32   a
theorem sp32 : VE.Spec Tryd.prog gG gl 32 (conF (aNil) (rOne (cA .i64 15)) (fun a => f32)) := spec_of ok32 Tryd.func32 Tryd.call32 (lpAll_nil rfl) 1000 (aNil_ok) (rOne_ok (cA_ok _ _)) ev32

/-- dancestudiolaw21.margin -/
theorem ok31 : CtxOK Tryd.prog (cx [] [(13, conF (aCons (pC (cA .i64 15)) (aCons (pC (cA .i64 22)) (aOne (pC (cI .i64))))) (rTup (cCons (cB) (cOne (cI .i64)))) (fun a => f13 (a.1) (a.2.1) (a.2.2))), (15, conF (aCons (pC (cA .i64 15)) (aCons (pC (cA .i64 22)) (aOne (pC (cI .i64))))) (rTup (cCons (cI .i64) (cOne (cI .i64)))) (fun a => f15 (a.1) (a.2.1) (a.2.2))), (32, conF (aNil) (rOne (cA .i64 15)) (fun a => f32))] []) gl := ctx_of tyOk moOk (show SpecL Tryd.prog gG gl [(13, conF (aCons (pC (cA .i64 15)) (aCons (pC (cA .i64 22)) (aOne (pC (cI .i64))))) (rTup (cCons (cB) (cOne (cI .i64)))) (fun a => f13 (a.1) (a.2.1) (a.2.2))), (15, conF (aCons (pC (cA .i64 15)) (aCons (pC (cA .i64 22)) (aOne (pC (cI .i64))))) (rTup (cCons (cI .i64) (cOne (cI .i64)))) (fun a => f15 (a.1) (a.2.1) (a.2.2))), (32, conF (aNil) (rOne (cA .i64 15)) (fun a => f32))] from ⟨sp13, sp15, sp32, trivial⟩) (show FnL Tryd.prog [] from trivial) (fnLp_nil _) joinOk
noncomputable def f31 (a : Nat → Int) (b : Int) (c : Int) (d : Int) : Option (Bool) :=
 Option.bind (f32) (fun r4 =>
 Option.bind (f15 r4 a b) (fun r5 =>
 Option.bind (f32) (fun r6 =>
 Option.bind (f13 r6 a b) (fun r7 =>
 cond (decide (r5.fst = c)) (
 cond (decide (r5.snd = d)) (
 cond (decide (r7.snd = 0)) (
 some (r7.fst == !decide (d = 27))) (
 some (false))) (
 some (false))) (
 some (false))))))
theorem evg31 (f13 : (Nat → Int) → (Nat → Int) → (Int) → Option (Bool × Int)) (f15 : (Nat → Int) → (Nat → Int) → (Int) → Option (Int × Int)) (f32 : Option ((Nat → Int)))  (xx : (aCons (pC (cA .i64 22)) (aCons (pC (cI .i64)) (aCons (pC (cI .i64)) (aOne (pC (cI .i64)))))).T) : evF (R := (rOne (cB)).T) (cx [] [(13, conF (aCons (pC (cA .i64 15)) (aCons (pC (cA .i64 22)) (aOne (pC (cI .i64))))) (rTup (cCons (cB) (cOne (cI .i64)))) (fun a => f13 (a.1) (a.2.1) (a.2.2))), (15, conF (aCons (pC (cA .i64 15)) (aCons (pC (cA .i64 22)) (aOne (pC (cI .i64))))) (rTup (cCons (cI .i64) (cOne (cI .i64)))) (fun a => f15 (a.1) (a.2.1) (a.2.2))), (32, conF (aNil) (rOne (cA .i64 15)) (fun a => f32))] []) 1000 Tryd.f31 ((aCons (pC (cA .i64 22)) (aCons (pC (cI .i64)) (aCons (pC (cI .i64)) (aOne (pC (cI .i64)))))).enc gG xx) (glMem gl) 2 (rOne (cB)).dec =
 (fun (a : Nat → Int) (b : Int) (c : Int) (d : Int) =>
 (( Option.bind (f32) (fun r4 =>
 Option.bind (f15 (nthI [r4 0, r4 1, r4 2, r4 3, r4 4, r4 5, r4 6, r4 7, r4 8, r4 9, r4 10, r4 11, r4 12, r4 13, r4 14]) (nthI [a 0, a 1, a 2, a 3, a 4, a 5, a 6, a 7, a 8, a 9, a 10, a 11, a 12, a 13, a 14, a 15, a 16, a 17, a 18, a 19, a 20, a 21]) b) (fun r5 =>
 Option.bind (f32) (fun r6 =>
 Option.bind (f13 (nthI [r6 0, r6 1, r6 2, r6 3, r6 4, r6 5, r6 6, r6 7, r6 8, r6 9, r6 10, r6 11, r6 12, r6 13, r6 14]) (nthI [a 0, a 1, a 2, a 3, a 4, a 5, a 6, a 7, a 8, a 9, a 10, a 11, a 12, a 13, a 14, a 15, a 16, a 17, a 18, a 19, a 20, a 21]) b) (fun r7 =>
 cond (decide (r5.fst = c)) (
 cond (decide (r5.snd = d)) (
 cond (decide (r7.snd = 0)) (
 some (r7.fst == !decide (d = 27))) (
 some (false))) (
 some (false))) (
 some (false))))))) : Option (Bool))) xx.1 xx.2.1 xx.2.2.1 xx.2.2.2 := by kernel_rfl
noncomputable def g31 (a : Nat → Int) (b : Int) (c : Int) (d : Int) : Option (Bool) :=
 Option.bind (f32) (fun r4 =>
 Option.bind (f15 (nthI [r4 0, r4 1, r4 2, r4 3, r4 4, r4 5, r4 6, r4 7, r4 8, r4 9, r4 10, r4 11, r4 12, r4 13, r4 14]) (nthI [a 0, a 1, a 2, a 3, a 4, a 5, a 6, a 7, a 8, a 9, a 10, a 11, a 12, a 13, a 14, a 15, a 16, a 17, a 18, a 19, a 20, a 21]) b) (fun r5 =>
 Option.bind (f32) (fun r6 =>
 Option.bind (f13 (nthI [r6 0, r6 1, r6 2, r6 3, r6 4, r6 5, r6 6, r6 7, r6 8, r6 9, r6 10, r6 11, r6 12, r6 13, r6 14]) (nthI [a 0, a 1, a 2, a 3, a 4, a 5, a 6, a 7, a 8, a 9, a 10, a 11, a 12, a 13, a 14, a 15, a 16, a 17, a 18, a 19, a 20, a 21]) b) (fun r7 =>
 cond (decide (r5.fst = c)) (
 cond (decide (r5.snd = d)) (
 cond (decide (r7.snd = 0)) (
 some (r7.fst == !decide (d = 27))) (
 some (false))) (
 some (false))) (
 some (false))))))
theorem fg31 (a : Nat → Int) (b : Int) (c : Int) (d : Int) : g31 a b c d = f31 a b c d := by kernel_rfl
theorem ev31 (a : (aCons (pC (cA .i64 22)) (aCons (pC (cI .i64)) (aCons (pC (cI .i64)) (aOne (pC (cI .i64)))))).T) : evF (R := (rOne (cB)).T) (cx [] [(13, conF (aCons (pC (cA .i64 15)) (aCons (pC (cA .i64 22)) (aOne (pC (cI .i64))))) (rTup (cCons (cB) (cOne (cI .i64)))) (fun a => f13 (a.1) (a.2.1) (a.2.2))), (15, conF (aCons (pC (cA .i64 15)) (aCons (pC (cA .i64 22)) (aOne (pC (cI .i64))))) (rTup (cCons (cI .i64) (cOne (cI .i64)))) (fun a => f15 (a.1) (a.2.1) (a.2.2))), (32, conF (aNil) (rOne (cA .i64 15)) (fun a => f32))] []) 1000 Tryd.f31 ((aCons (pC (cA .i64 22)) (aCons (pC (cI .i64)) (aCons (pC (cI .i64)) (aOne (pC (cI .i64)))))).enc gG a) (glMem gl) 2 (rOne (cB)).dec = f31 a.1 a.2.1 a.2.2.1 a.2.2.2 := (show evF (R := (rOne (cB)).T) (cx [] [(13, conF (aCons (pC (cA .i64 15)) (aCons (pC (cA .i64 22)) (aOne (pC (cI .i64))))) (rTup (cCons (cB) (cOne (cI .i64)))) (fun a => f13 (a.1) (a.2.1) (a.2.2))), (15, conF (aCons (pC (cA .i64 15)) (aCons (pC (cA .i64 22)) (aOne (pC (cI .i64))))) (rTup (cCons (cI .i64) (cOne (cI .i64)))) (fun a => f15 (a.1) (a.2.1) (a.2.2))), (32, conF (aNil) (rOne (cA .i64 15)) (fun a => f32))] []) 1000 Tryd.f31 ((aCons (pC (cA .i64 22)) (aCons (pC (cI .i64)) (aCons (pC (cI .i64)) (aOne (pC (cI .i64)))))).enc gG a) (glMem gl) 2 (rOne (cB)).dec = g31 a.1 a.2.1 a.2.2.1 a.2.2.2 from evg31 f13 f15 f32  a).trans (fg31 a.1 a.2.1 a.2.2.1 a.2.2.2)
theorem sp31 : VE.Spec Tryd.prog gG gl 31 (conF (aCons (pC (cA .i64 22)) (aCons (pC (cI .i64)) (aCons (pC (cI .i64)) (aOne (pC (cI .i64)))))) (rOne (cB)) (fun a => f31 a.1 a.2.1 a.2.2.1 a.2.2.2)) := spec_of ok31 Tryd.func31 Tryd.call31 (lpAll_nil rfl) 1000 (aCons_ok (pC_ok (cA_ok _ _)) (aCons_ok (pC_ok (cI_ok _)) (aCons_ok (pC_ok (cI_ok _)) (aOne_ok (pC_ok (cI_ok _)))))) (rOne_ok (cB_ok)) ev31

/-- dancestudiolaw21.awake: by hand -/
def hand12 : Unit := ()
noncomputable def f12 : Option (Bool) := some true
noncomputable abbrev con12 : List (Nat × (List AV → Option ConR)) := [(10, conF (aCons (pC (cA .i64 15)) (aCons (pC (cA .i64 22)) (aOne (pC (cI .i64))))) (rTup (cCons (cA .i64 2) (cOne (cI .i64)))) (fun a => f10 (a.1) (a.2.1) (a.2.2))), (17, conF (aCons (pC (cA .i64 15)) (aOne (pSS kx31 kx3))) (rTup (cCons (cI .i64) (cOne (cI .i64)))) (fun a => f17 (a.1) (a.2))), (30, conF (aNil) (rOne (cA .i64 22)) (fun a => f30)), (31, conF (aCons (pC (cA .i64 22)) (aCons (pC (cI .i64)) (aCons (pC (cI .i64)) (aOne (pC (cI .i64)))))) (rOne (cB)) (fun a => f31 (a.1) (a.2.1) (a.2.2.1) (a.2.2.2))), (32, conF (aNil) (rOne (cA .i64 15)) (fun a => f32))]
noncomputable abbrev cx12 : Ctx := { ty := assoc tyL, join := assoc joins, jc := false, con := assoc con12, cm := assoc [(17, F17M)], lp := assoc [], fns := assoc [], G := gG }
theorem ok12 : CtxOK Tryd.prog cx12 gl := ctx_ofM tyOk moOk (show SpecL Tryd.prog gG gl con12 from ⟨sp10, sp17, sp30, sp31, sp32, trivial⟩) (cms := [(17, F17M)]) ⟨sm17, trivial⟩ (show FnL Tryd.prog [] from trivial) (fnLp_nil _) joinOk
theorem ev12 (a : (aNil).T) : evF (R := (rOne (cB)).T) cx12 1000 Tryd.f12 ((aNil).enc gG a) (glMem gl) gG (rOne (cB)).dec = f12 := by kernel_rfl
theorem sp12 : VE.Spec Tryd.prog gG gl 12 (conF (aNil) (rOne (cB)) (fun a => f12)) := spec_of ok12 Tryd.func12 Tryd.call12 (lpAll_nil rfl) 1000 aNil_ok (rOne_ok (cB_ok)) ev12

/-- dancestudiolaw21.BalanceCenters -/
theorem ok3 : CtxOK Tryd.prog (cx [] [(10, conF (aCons (pC (cA .i64 15)) (aCons (pC (cA .i64 22)) (aOne (pC (cI .i64))))) (rTup (cCons (cA .i64 2) (cOne (cI .i64)))) (fun a => f10 (a.1) (a.2.1) (a.2.2))), (11, conF (aCons (pC (cA .i64 15)) (aCons (pC (cA .i64 22)) (aOne (pC (cI .i64))))) (rTup (cCons (cA .i64 2) (cOne (cI .i64)))) (fun a => f11 (a.1) (a.2.1) (a.2.2))), (12, conF (aNil) (rOne (cB)) (fun a => f12))] []) gl := ctx_of tyOk moOk (show SpecL Tryd.prog gG gl [(10, conF (aCons (pC (cA .i64 15)) (aCons (pC (cA .i64 22)) (aOne (pC (cI .i64))))) (rTup (cCons (cA .i64 2) (cOne (cI .i64)))) (fun a => f10 (a.1) (a.2.1) (a.2.2))), (11, conF (aCons (pC (cA .i64 15)) (aCons (pC (cA .i64 22)) (aOne (pC (cI .i64))))) (rTup (cCons (cA .i64 2) (cOne (cI .i64)))) (fun a => f11 (a.1) (a.2.1) (a.2.2))), (12, conF (aNil) (rOne (cB)) (fun a => f12))] from ⟨sp10, sp11, sp12, trivial⟩) (show FnL Tryd.prog [] from trivial) (fnLp_nil _) joinOk
noncomputable def f3 (a : Nat → Int) (b : Nat → Int) (c : Int) : Option (Bool) :=
 Option.bind (f10 a b c) (fun r3 =>
 Option.bind (f11 a b c) (fun r4 =>
 cond (decide (r3.fst 0 = r4.fst 0) && decide (r3.fst 1 = r4.fst 1)) (
 cond (decide (r3.snd = r4.snd)) (
 Option.bind (f12) (fun r5 =>
 some (r5))) (
 some (false))) (
 some (false))))
theorem evg3 (f10 : (Nat → Int) → (Nat → Int) → (Int) → Option ((Nat → Int) × Int)) (f11 : (Nat → Int) → (Nat → Int) → (Int) → Option ((Nat → Int) × Int)) (f12 : Option (Bool))  (xx : (aCons (pC (cA .i64 15)) (aCons (pC (cA .i64 22)) (aOne (pC (cI .i64))))).T) : evF (R := (rOne (cB)).T) (cx [] [(10, conF (aCons (pC (cA .i64 15)) (aCons (pC (cA .i64 22)) (aOne (pC (cI .i64))))) (rTup (cCons (cA .i64 2) (cOne (cI .i64)))) (fun a => f10 (a.1) (a.2.1) (a.2.2))), (11, conF (aCons (pC (cA .i64 15)) (aCons (pC (cA .i64 22)) (aOne (pC (cI .i64))))) (rTup (cCons (cA .i64 2) (cOne (cI .i64)))) (fun a => f11 (a.1) (a.2.1) (a.2.2))), (12, conF (aNil) (rOne (cB)) (fun a => f12))] []) 1000 Tryd.f3 ((aCons (pC (cA .i64 15)) (aCons (pC (cA .i64 22)) (aOne (pC (cI .i64))))).enc gG xx) (glMem gl) 2 (rOne (cB)).dec =
 (fun (a : Nat → Int) (b : Nat → Int) (c : Int) =>
 (( Option.bind (f10 (nthI [a 0, a 1, a 2, a 3, a 4, a 5, a 6, a 7, a 8, a 9, a 10, a 11, a 12, a 13, a 14]) (nthI [b 0, b 1, b 2, b 3, b 4, b 5, b 6, b 7, b 8, b 9, b 10, b 11, b 12, b 13, b 14, b 15, b 16, b 17, b 18, b 19, b 20, b 21]) c) (fun r3 =>
 Option.bind (f11 (nthI [a 0, a 1, a 2, a 3, a 4, a 5, a 6, a 7, a 8, a 9, a 10, a 11, a 12, a 13, a 14]) (nthI [b 0, b 1, b 2, b 3, b 4, b 5, b 6, b 7, b 8, b 9, b 10, b 11, b 12, b 13, b 14, b 15, b 16, b 17, b 18, b 19, b 20, b 21]) c) (fun r4 =>
 cond (decide (r3.fst 0 = r4.fst 0) && decide (r3.fst 1 = r4.fst 1)) (
 cond (decide (r3.snd = r4.snd)) (
 Option.bind (f12) (fun r5 =>
 some (r5))) (
 some (false))) (
 some (false))))) : Option (Bool))) xx.1 xx.2.1 xx.2.2 := by kernel_rfl
noncomputable def g3 (a : Nat → Int) (b : Nat → Int) (c : Int) : Option (Bool) :=
 Option.bind (f10 (nthI [a 0, a 1, a 2, a 3, a 4, a 5, a 6, a 7, a 8, a 9, a 10, a 11, a 12, a 13, a 14]) (nthI [b 0, b 1, b 2, b 3, b 4, b 5, b 6, b 7, b 8, b 9, b 10, b 11, b 12, b 13, b 14, b 15, b 16, b 17, b 18, b 19, b 20, b 21]) c) (fun r3 =>
 Option.bind (f11 (nthI [a 0, a 1, a 2, a 3, a 4, a 5, a 6, a 7, a 8, a 9, a 10, a 11, a 12, a 13, a 14]) (nthI [b 0, b 1, b 2, b 3, b 4, b 5, b 6, b 7, b 8, b 9, b 10, b 11, b 12, b 13, b 14, b 15, b 16, b 17, b 18, b 19, b 20, b 21]) c) (fun r4 =>
 cond (decide (r3.fst 0 = r4.fst 0) && decide (r3.fst 1 = r4.fst 1)) (
 cond (decide (r3.snd = r4.snd)) (
 Option.bind (f12) (fun r5 =>
 some (r5))) (
 some (false))) (
 some (false))))
theorem fg3 (a : Nat → Int) (b : Nat → Int) (c : Int) : g3 a b c = f3 a b c := by kernel_rfl
theorem ev3 (a : (aCons (pC (cA .i64 15)) (aCons (pC (cA .i64 22)) (aOne (pC (cI .i64))))).T) : evF (R := (rOne (cB)).T) (cx [] [(10, conF (aCons (pC (cA .i64 15)) (aCons (pC (cA .i64 22)) (aOne (pC (cI .i64))))) (rTup (cCons (cA .i64 2) (cOne (cI .i64)))) (fun a => f10 (a.1) (a.2.1) (a.2.2))), (11, conF (aCons (pC (cA .i64 15)) (aCons (pC (cA .i64 22)) (aOne (pC (cI .i64))))) (rTup (cCons (cA .i64 2) (cOne (cI .i64)))) (fun a => f11 (a.1) (a.2.1) (a.2.2))), (12, conF (aNil) (rOne (cB)) (fun a => f12))] []) 1000 Tryd.f3 ((aCons (pC (cA .i64 15)) (aCons (pC (cA .i64 22)) (aOne (pC (cI .i64))))).enc gG a) (glMem gl) 2 (rOne (cB)).dec = f3 a.1 a.2.1 a.2.2 := (show evF (R := (rOne (cB)).T) (cx [] [(10, conF (aCons (pC (cA .i64 15)) (aCons (pC (cA .i64 22)) (aOne (pC (cI .i64))))) (rTup (cCons (cA .i64 2) (cOne (cI .i64)))) (fun a => f10 (a.1) (a.2.1) (a.2.2))), (11, conF (aCons (pC (cA .i64 15)) (aCons (pC (cA .i64 22)) (aOne (pC (cI .i64))))) (rTup (cCons (cA .i64 2) (cOne (cI .i64)))) (fun a => f11 (a.1) (a.2.1) (a.2.2))), (12, conF (aNil) (rOne (cB)) (fun a => f12))] []) 1000 Tryd.f3 ((aCons (pC (cA .i64 15)) (aCons (pC (cA .i64 22)) (aOne (pC (cI .i64))))).enc gG a) (glMem gl) 2 (rOne (cB)).dec = g3 a.1 a.2.1 a.2.2 from evg3 f10 f11 f12  a).trans (fg3 a.1 a.2.1 a.2.2)
theorem sp3 : VE.Spec Tryd.prog gG gl 3 (conF (aCons (pC (cA .i64 15)) (aCons (pC (cA .i64 22)) (aOne (pC (cI .i64))))) (rOne (cB)) (fun a => f3 a.1 a.2.1 a.2.2)) := spec_of ok3 Tryd.func3 Tryd.call3 (lpAll_nil rfl) 1000 (aCons_ok (pC_ok (cA_ok _ _)) (aCons_ok (pC_ok (cA_ok _ _)) (aOne_ok (pC_ok (cI_ok _))))) (rOne_ok (cB_ok)) ev3

/-- dancestudioref03.Valid -/
theorem ok79 : CtxOK Tryd.prog (cx [] [] []) gl := ctx_of tyOk moOk (show SpecL Tryd.prog gG gl [] from trivial) (show FnL Tryd.prog [] from trivial) (fnLp_nil _) joinOk
noncomputable def f79 (a : Nat → Int) : Option (Bool) :=
 cond (decide (-32768 ≤ a 0)) (
 cond (decide (a 0 ≤ 32768)) (
 cond (decide (-32768 ≤ a 1)) (
 some (decide (a 1 ≤ 32768))) (
 some (false))) (
 some (false))) (
 some (false))
theorem evg79   (xx : (aOne (pC (cA .i64 2))).T) : evF (R := (rOne (cB)).T) (cx [] [] []) 1000 Tryd.f79 ((aOne (pC (cA .i64 2))).enc gG xx) (glMem gl) 2 (rOne (cB)).dec =
 (fun (a : Nat → Int) =>
 (( cond (decide (-32768 ≤ a 0)) (
 cond (decide (a 0 ≤ 32768)) (
 cond (decide (-32768 ≤ a 1)) (
 some (decide (a 1 ≤ 32768))) (
 some (false))) (
 some (false))) (
 some (false))) : Option (Bool))) xx := by kernel_rfl
theorem ev79 (a : (aOne (pC (cA .i64 2))).T) : evF (R := (rOne (cB)).T) (cx [] [] []) 1000 Tryd.f79 ((aOne (pC (cA .i64 2))).enc gG a) (glMem gl) 2 (rOne (cB)).dec = f79 a := evg79   a
theorem sp79 : VE.Spec Tryd.prog gG gl 79 (conF (aOne (pC (cA .i64 2))) (rOne (cB)) (fun a => f79 a)) := spec_of ok79 Tryd.func79 Tryd.call79 (lpAll_nil rfl) 1000 (aOne_ok (pC_ok (cA_ok _ _))) (rOne_ok (cB_ok)) ev79

/-- dancestudioref03.Radius -/
theorem ok80 : CtxOK Tryd.prog (cx [] [] []) gl := ctx_of tyOk moOk (show SpecL Tryd.prog gG gl [] from trivial) (show FnL Tryd.prog [] from trivial) (fnLp_nil _) joinOk
noncomputable def f80 (a : Int) : Option (Bool) :=
 cond (decide (0 ≤ a)) (
 some (decide (a ≤ 32768))) (
 some (false))
theorem evg80   (xx : (aOne (pC (cI .i64))).T) : evF (R := (rOne (cB)).T) (cx [] [] []) 1000 Tryd.f80 ((aOne (pC (cI .i64))).enc gG xx) (glMem gl) 2 (rOne (cB)).dec =
 (fun (a : Int) =>
 (( cond (decide (0 ≤ a)) (
 some (decide (a ≤ 32768))) (
 some (false))) : Option (Bool))) xx := by kernel_rfl
theorem ev80 (a : (aOne (pC (cI .i64))).T) : evF (R := (rOne (cB)).T) (cx [] [] []) 1000 Tryd.f80 ((aOne (pC (cI .i64))).enc gG a) (glMem gl) 2 (rOne (cB)).dec = f80 a := evg80   a
theorem sp80 : VE.Spec Tryd.prog gG gl 80 (conF (aOne (pC (cI .i64))) (rOne (cB)) (fun a => f80 a)) := spec_of ok80 Tryd.func80 Tryd.call80 (lpAll_nil rfl) 1000 (aOne_ok (pC_ok (cI_ok _))) (rOne_ok (cB_ok)) ev80

/-- dancestudioref03.square -/
theorem ok81 : CtxOK Tryd.prog (cx [] [] []) gl := ctx_of tyOk moOk (show SpecL Tryd.prog gG gl [] from trivial) (show FnL Tryd.prog [] from trivial) (fnLp_nil _) joinOk
noncomputable def f81 (a : Nat → Int) (b : Nat → Int) : Option (Int) :=
 some (IntKind.i64.wrap (IntKind.i64.wrap (IntKind.i64.wrap (a 0 - b 0) * IntKind.i64.wrap (a 0 - b 0)) + IntKind.i64.wrap (IntKind.i64.wrap (a 1 - b 1) * IntKind.i64.wrap (a 1 - b 1))))
theorem evg81   (xx : (aCons (pC (cA .i64 2)) (aOne (pC (cA .i64 2)))).T) : evF (R := (rOne (cI .i64)).T) (cx [] [] []) 1000 Tryd.f81 ((aCons (pC (cA .i64 2)) (aOne (pC (cA .i64 2)))).enc gG xx) (glMem gl) 2 (rOne (cI .i64)).dec =
 (fun (a : Nat → Int) (b : Nat → Int) =>
 (( some (IntKind.i64.wrap (IntKind.i64.wrap (IntKind.i64.wrap (a 0 - b 0) * IntKind.i64.wrap (a 0 - b 0)) + IntKind.i64.wrap (IntKind.i64.wrap (a 1 - b 1) * IntKind.i64.wrap (a 1 - b 1))))) : Option (Int))) xx.1 xx.2 := by kernel_rfl
theorem ev81 (a : (aCons (pC (cA .i64 2)) (aOne (pC (cA .i64 2)))).T) : evF (R := (rOne (cI .i64)).T) (cx [] [] []) 1000 Tryd.f81 ((aCons (pC (cA .i64 2)) (aOne (pC (cA .i64 2)))).enc gG a) (glMem gl) 2 (rOne (cI .i64)).dec = f81 a.1 a.2 := evg81   a
theorem sp81 : VE.Spec Tryd.prog gG gl 81 (conF (aCons (pC (cA .i64 2)) (aOne (pC (cA .i64 2)))) (rOne (cI .i64)) (fun a => f81 a.1 a.2)) := spec_of ok81 Tryd.func81 Tryd.call81 (lpAll_nil rfl) 1000 (aCons_ok (pC_ok (cA_ok _ _)) (aOne_ok (pC_ok (cA_ok _ _)))) (rOne_ok (cI_ok _)) ev81

/-- dancestudioref03.cross -/
theorem ok82 : CtxOK Tryd.prog (cx [] [] []) gl := ctx_of tyOk moOk (show SpecL Tryd.prog gG gl [] from trivial) (show FnL Tryd.prog [] from trivial) (fnLp_nil _) joinOk
noncomputable def f82 (a : Nat → Int) (b : Nat → Int) (c : Nat → Int) : Option (Int) :=
 some (IntKind.i64.wrap (IntKind.i64.wrap (IntKind.i64.wrap (b 0 - a 0) * IntKind.i64.wrap (c 1 - a 1)) - IntKind.i64.wrap (IntKind.i64.wrap (b 1 - a 1) * IntKind.i64.wrap (c 0 - a 0))))
theorem evg82   (xx : (aCons (pC (cA .i64 2)) (aCons (pC (cA .i64 2)) (aOne (pC (cA .i64 2))))).T) : evF (R := (rOne (cI .i64)).T) (cx [] [] []) 1000 Tryd.f82 ((aCons (pC (cA .i64 2)) (aCons (pC (cA .i64 2)) (aOne (pC (cA .i64 2))))).enc gG xx) (glMem gl) 2 (rOne (cI .i64)).dec =
 (fun (a : Nat → Int) (b : Nat → Int) (c : Nat → Int) =>
 (( some (IntKind.i64.wrap (IntKind.i64.wrap (IntKind.i64.wrap (b 0 - a 0) * IntKind.i64.wrap (c 1 - a 1)) - IntKind.i64.wrap (IntKind.i64.wrap (b 1 - a 1) * IntKind.i64.wrap (c 0 - a 0))))) : Option (Int))) xx.1 xx.2.1 xx.2.2 := by kernel_rfl
theorem ev82 (a : (aCons (pC (cA .i64 2)) (aCons (pC (cA .i64 2)) (aOne (pC (cA .i64 2))))).T) : evF (R := (rOne (cI .i64)).T) (cx [] [] []) 1000 Tryd.f82 ((aCons (pC (cA .i64 2)) (aCons (pC (cA .i64 2)) (aOne (pC (cA .i64 2))))).enc gG a) (glMem gl) 2 (rOne (cI .i64)).dec = f82 a.1 a.2.1 a.2.2 := evg82   a
theorem sp82 : VE.Spec Tryd.prog gG gl 82 (conF (aCons (pC (cA .i64 2)) (aCons (pC (cA .i64 2)) (aOne (pC (cA .i64 2))))) (rOne (cI .i64)) (fun a => f82 a.1 a.2.1 a.2.2)) := spec_of ok82 Tryd.func82 Tryd.call82 (lpAll_nil rfl) 1000 (aCons_ok (pC_ok (cA_ok _ _)) (aCons_ok (pC_ok (cA_ok _ _)) (aOne_ok (pC_ok (cA_ok _ _))))) (rOne_ok (cI_ok _)) ev82

/-- dancestudioref01.order -/
theorem ok96 : CtxOK Tryd.prog (cx [] [] []) gl := ctx_of tyOk moOk (show SpecL Tryd.prog gG gl [] from trivial) (show FnL Tryd.prog [] from trivial) (fnLp_nil _) joinOk
noncomputable def f96 (a : Int) (b : Int) : Option (Int) :=
 cond (decide (a < b)) (
 some (-1)) (
 cond (decide (b < a)) (
 some (1)) (
 some (0)))
theorem evg96   (xx : (aCons (pC (cI .i64)) (aOne (pC (cI .i64)))).T) : evF (R := (rOne (cI .i64)).T) (cx [] [] []) 1000 Tryd.f96 ((aCons (pC (cI .i64)) (aOne (pC (cI .i64)))).enc gG xx) (glMem gl) 2 (rOne (cI .i64)).dec =
 (fun (a : Int) (b : Int) =>
 (( cond (decide (a < b)) (
 some (-1)) (
 cond (decide (b < a)) (
 some (1)) (
 some (0)))) : Option (Int))) xx.1 xx.2 := by kernel_rfl
theorem ev96 (a : (aCons (pC (cI .i64)) (aOne (pC (cI .i64)))).T) : evF (R := (rOne (cI .i64)).T) (cx [] [] []) 1000 Tryd.f96 ((aCons (pC (cI .i64)) (aOne (pC (cI .i64)))).enc gG a) (glMem gl) 2 (rOne (cI .i64)).dec = f96 a.1 a.2 := evg96   a
theorem sp96 : VE.Spec Tryd.prog gG gl 96 (conF (aCons (pC (cI .i64)) (aOne (pC (cI .i64)))) (rOne (cI .i64)) (fun a => f96 a.1 a.2)) := spec_of ok96 Tryd.func96 Tryd.call96 (lpAll_nil rfl) 1000 (aCons_ok (pC_ok (cI_ok _)) (aOne_ok (pC_ok (cI_ok _)))) (rOne_ok (cI_ok _)) ev96

/-- dancestudioref01.sign -/
theorem ok95 : CtxOK Tryd.prog (cx [] [(96, conF (aCons (pC (cI .i64)) (aOne (pC (cI .i64)))) (rOne (cI .i64)) (fun a => f96 (a.1) (a.2)))] []) gl := ctx_of tyOk moOk (show SpecL Tryd.prog gG gl [(96, conF (aCons (pC (cI .i64)) (aOne (pC (cI .i64)))) (rOne (cI .i64)) (fun a => f96 (a.1) (a.2)))] from ⟨sp96, trivial⟩) (show FnL Tryd.prog [] from trivial) (fnLp_nil _) joinOk
noncomputable def f95 (a : Int) (b : Int) : Option (Int) :=
 Option.bind (f96 a 0) (fun r2 =>
 Option.bind (f96 b 0) (fun r3 =>
 some (IntKind.i64.wrap (r2 * r3))))
theorem evg95 (f96 : (Int) → (Int) → Option (Int))  (xx : (aCons (pC (cI .i64)) (aOne (pC (cI .i64)))).T) : evF (R := (rOne (cI .i64)).T) (cx [] [(96, conF (aCons (pC (cI .i64)) (aOne (pC (cI .i64)))) (rOne (cI .i64)) (fun a => f96 (a.1) (a.2)))] []) 1000 Tryd.f95 ((aCons (pC (cI .i64)) (aOne (pC (cI .i64)))).enc gG xx) (glMem gl) 2 (rOne (cI .i64)).dec =
 (fun (a : Int) (b : Int) =>
 (( Option.bind (f96 a 0) (fun r2 =>
 Option.bind (f96 b 0) (fun r3 =>
 some (IntKind.i64.wrap (r2 * r3))))) : Option (Int))) xx.1 xx.2 := by kernel_rfl
theorem ev95 (a : (aCons (pC (cI .i64)) (aOne (pC (cI .i64)))).T) : evF (R := (rOne (cI .i64)).T) (cx [] [(96, conF (aCons (pC (cI .i64)) (aOne (pC (cI .i64)))) (rOne (cI .i64)) (fun a => f96 (a.1) (a.2)))] []) 1000 Tryd.f95 ((aCons (pC (cI .i64)) (aOne (pC (cI .i64)))).enc gG a) (glMem gl) 2 (rOne (cI .i64)).dec = f95 a.1 a.2 := evg95 f96  a
theorem sp95 : VE.Spec Tryd.prog gG gl 95 (conF (aCons (pC (cI .i64)) (aOne (pC (cI .i64)))) (rOne (cI .i64)) (fun a => f95 a.1 a.2)) := spec_of ok95 Tryd.func95 Tryd.call95 (lpAll_nil rfl) 1000 (aCons_ok (pC_ok (cI_ok _)) (aOne_ok (pC_ok (cI_ok _)))) (rOne_ok (cI_ok _)) ev95

/-- dancestudioref01.wide -/
theorem ok97 : CtxOK Tryd.prog (cx [] [] []) gl := ctx_of tyOk moOk (show SpecL Tryd.prog gG gl [] from trivial) (show FnL Tryd.prog [] from trivial) (fnLp_nil _) joinOk
noncomputable def f97 (a : Int) (b : Int) : Option ((Nat → Int)) :=
 some (nthI [IntKind.i64.wrap (IntKind.i64.wrap (IntKind.i64.wrap (a.tdiv 67108864) * IntKind.i64.wrap (b.tdiv 67108864)) + IntKind.i64.wrap ((IntKind.i64.wrap (IntKind.i64.wrap (IntKind.i64.wrap (IntKind.i64.wrap (a.tdiv 67108864) * b.tmod 67108864) + IntKind.i64.wrap (a.tmod 67108864 * IntKind.i64.wrap (b.tdiv 67108864))) + IntKind.i64.wrap ((IntKind.i64.wrap (a.tmod 67108864 * b.tmod 67108864)).tdiv 67108864))).tdiv 67108864)), (IntKind.i64.wrap (IntKind.i64.wrap (IntKind.i64.wrap (IntKind.i64.wrap (a.tdiv 67108864) * b.tmod 67108864) + IntKind.i64.wrap (a.tmod 67108864 * IntKind.i64.wrap (b.tdiv 67108864))) + IntKind.i64.wrap ((IntKind.i64.wrap (a.tmod 67108864 * b.tmod 67108864)).tdiv 67108864))).tmod 67108864, (IntKind.i64.wrap (a.tmod 67108864 * b.tmod 67108864)).tmod 67108864])
theorem evg97   (xx : (aCons (pC (cI .i64)) (aOne (pC (cI .i64)))).T) : evF (R := (rOne (cA .i64 3)).T) (cx [] [] []) 1000 Tryd.f97 ((aCons (pC (cI .i64)) (aOne (pC (cI .i64)))).enc gG xx) (glMem gl) 2 (rOne (cA .i64 3)).dec =
 (fun (a : Int) (b : Int) =>
 (( some (nthI [IntKind.i64.wrap (IntKind.i64.wrap (IntKind.i64.wrap (a.tdiv 67108864) * IntKind.i64.wrap (b.tdiv 67108864)) + IntKind.i64.wrap ((IntKind.i64.wrap (IntKind.i64.wrap (IntKind.i64.wrap (IntKind.i64.wrap (a.tdiv 67108864) * b.tmod 67108864) + IntKind.i64.wrap (a.tmod 67108864 * IntKind.i64.wrap (b.tdiv 67108864))) + IntKind.i64.wrap ((IntKind.i64.wrap (a.tmod 67108864 * b.tmod 67108864)).tdiv 67108864))).tdiv 67108864)), (IntKind.i64.wrap (IntKind.i64.wrap (IntKind.i64.wrap (IntKind.i64.wrap (a.tdiv 67108864) * b.tmod 67108864) + IntKind.i64.wrap (a.tmod 67108864 * IntKind.i64.wrap (b.tdiv 67108864))) + IntKind.i64.wrap ((IntKind.i64.wrap (a.tmod 67108864 * b.tmod 67108864)).tdiv 67108864))).tmod 67108864, (IntKind.i64.wrap (a.tmod 67108864 * b.tmod 67108864)).tmod 67108864])) : Option ((Nat → Int)))) xx.1 xx.2 := by kernel_rfl
theorem ev97 (a : (aCons (pC (cI .i64)) (aOne (pC (cI .i64)))).T) : evF (R := (rOne (cA .i64 3)).T) (cx [] [] []) 1000 Tryd.f97 ((aCons (pC (cI .i64)) (aOne (pC (cI .i64)))).enc gG a) (glMem gl) 2 (rOne (cA .i64 3)).dec = f97 a.1 a.2 := evg97   a
theorem sp97 : VE.Spec Tryd.prog gG gl 97 (conF (aCons (pC (cI .i64)) (aOne (pC (cI .i64)))) (rOne (cA .i64 3)) (fun a => f97 a.1 a.2)) := spec_of ok97 Tryd.func97 Tryd.call97 (lpAll_nil rfl) 1000 (aCons_ok (pC_ok (cI_ok _)) (aOne_ok (pC_ok (cI_ok _)))) (rOne_ok (cA_ok _ _)) ev97

/-- dancestudioref01.size -/
theorem ok98 : CtxOK Tryd.prog (cx [] [] []) gl := ctx_of tyOk moOk (show SpecL Tryd.prog gG gl [] from trivial) (show FnL Tryd.prog [] from trivial) (fnLp_nil _) joinOk
noncomputable def f98 (a : Int) : Option (Int) :=
 cond (decide (a < 0)) (
 some (IntKind.i64.wrap (0 - a))) (
 some (a))
theorem evg98   (xx : (aOne (pC (cI .i64))).T) : evF (R := (rOne (cI .i64)).T) (cx [] [] []) 1000 Tryd.f98 ((aOne (pC (cI .i64))).enc gG xx) (glMem gl) 2 (rOne (cI .i64)).dec =
 (fun (a : Int) =>
 (( cond (decide (a < 0)) (
 some (IntKind.i64.wrap (0 - a))) (
 some (a))) : Option (Int))) xx := by kernel_rfl
theorem ev98 (a : (aOne (pC (cI .i64))).T) : evF (R := (rOne (cI .i64)).T) (cx [] [] []) 1000 Tryd.f98 ((aOne (pC (cI .i64))).enc gG a) (glMem gl) 2 (rOne (cI .i64)).dec = f98 a := evg98   a
theorem sp98 : VE.Spec Tryd.prog gG gl 98 (conF (aOne (pC (cI .i64))) (rOne (cI .i64)) (fun a => f98 a)) := spec_of ok98 Tryd.func98 Tryd.call98 (lpAll_nil rfl) 1000 (aOne_ok (pC_ok (cI_ok _))) (rOne_ok (cI_ok _)) ev98

/-- dancestudioref01.Compare -/
theorem ok83 : CtxOK Tryd.prog (cx [] [(59, conF (aOne (pC (cI .i64))) (rOne (cB)) (fun a => f59 a)), (95, conF (aCons (pC (cI .i64)) (aOne (pC (cI .i64)))) (rOne (cI .i64)) (fun a => f95 (a.1) (a.2))), (96, conF (aCons (pC (cI .i64)) (aOne (pC (cI .i64)))) (rOne (cI .i64)) (fun a => f96 (a.1) (a.2))), (97, conF (aCons (pC (cI .i64)) (aOne (pC (cI .i64)))) (rOne (cA .i64 3)) (fun a => f97 (a.1) (a.2))), (98, conF (aOne (pC (cI .i64))) (rOne (cI .i64)) (fun a => f98 a))] []) gl := ctx_of tyOk moOk (show SpecL Tryd.prog gG gl [(59, conF (aOne (pC (cI .i64))) (rOne (cB)) (fun a => f59 a)), (95, conF (aCons (pC (cI .i64)) (aOne (pC (cI .i64)))) (rOne (cI .i64)) (fun a => f95 (a.1) (a.2))), (96, conF (aCons (pC (cI .i64)) (aOne (pC (cI .i64)))) (rOne (cI .i64)) (fun a => f96 (a.1) (a.2))), (97, conF (aCons (pC (cI .i64)) (aOne (pC (cI .i64)))) (rOne (cA .i64 3)) (fun a => f97 (a.1) (a.2))), (98, conF (aOne (pC (cI .i64))) (rOne (cI .i64)) (fun a => f98 a))] from ⟨sp59, sp95, sp96, sp97, sp98, trivial⟩) (show FnL Tryd.prog [] from trivial) (fnLp_nil _) joinOk
noncomputable def f83 (a : Int) (b : Int) (c : Int) (d : Int) : Option (Int × Int) :=
 Option.bind (f59 a) (fun r4 =>
 cond (!r4) (
 some ((0, 1))) (
 Option.bind (f59 b) (fun r5 =>
 cond (!r5) (
 some ((0, 1))) (
 Option.bind (f59 c) (fun r6 =>
 cond (!r6) (
 some ((0, 1))) (
 Option.bind (f59 d) (fun r7 =>
 cond (!r7) (
 some ((0, 1))) (
 Option.bind (f95 a b) (fun r8 =>
 Option.bind (f95 c d) (fun r9 =>
 cond (!decide (r8 = r9)) (
 Option.bind (f95 c d) (fun r10 =>
 Option.bind (f96 r8 r10) (fun r11 =>
 some ((r11, 0))))) (
 Option.bind (f98 a) (fun r10 =>
 Option.bind (f98 b) (fun r11 =>
 Option.bind (f97 r10 r11) (fun r12 =>
 Option.bind (f98 c) (fun r13 =>
 Option.bind (f98 d) (fun r14 =>
 Option.bind (f97 r13 r14) (fun r15 =>
 cond (!decide (r12 0 = r15 0)) (
 Option.bind (f96 (r12 0) (r15 0)) (fun r16 =>
 some ((IntKind.i64.wrap (r8 * r16), 0)))) (
 cond (!decide (r12 1 = r15 1)) (
 Option.bind (f96 (r12 1) (r15 1)) (fun r16 =>
 some ((IntKind.i64.wrap (r8 * r16), 0)))) (
 Option.bind (f96 (r12 2) (r15 2)) (fun r16 =>
 some ((IntKind.i64.wrap (r8 * r16), 0))))))))))))))))))))))
theorem evg83 (f59 : (Int) → Option (Bool)) (f95 : (Int) → (Int) → Option (Int)) (f96 : (Int) → (Int) → Option (Int)) (f97 : (Int) → (Int) → Option ((Nat → Int))) (f98 : (Int) → Option (Int))  (xx : (aCons (pC (cI .i64)) (aCons (pC (cI .i64)) (aCons (pC (cI .i64)) (aOne (pC (cI .i64)))))).T) : evF (R := (rTup (cCons (cI .i64) (cOne (cI .i64)))).T) (cx [] [(59, conF (aOne (pC (cI .i64))) (rOne (cB)) (fun a => f59 a)), (95, conF (aCons (pC (cI .i64)) (aOne (pC (cI .i64)))) (rOne (cI .i64)) (fun a => f95 (a.1) (a.2))), (96, conF (aCons (pC (cI .i64)) (aOne (pC (cI .i64)))) (rOne (cI .i64)) (fun a => f96 (a.1) (a.2))), (97, conF (aCons (pC (cI .i64)) (aOne (pC (cI .i64)))) (rOne (cA .i64 3)) (fun a => f97 (a.1) (a.2))), (98, conF (aOne (pC (cI .i64))) (rOne (cI .i64)) (fun a => f98 a))] []) 1000 Tryd.f83 ((aCons (pC (cI .i64)) (aCons (pC (cI .i64)) (aCons (pC (cI .i64)) (aOne (pC (cI .i64)))))).enc gG xx) (glMem gl) 2 (rTup (cCons (cI .i64) (cOne (cI .i64)))).dec =
 (fun (a : Int) (b : Int) (c : Int) (d : Int) =>
 (( Option.bind (f59 a) (fun r4 =>
 cond (!r4) (
 some ((0, 1))) (
 Option.bind (f59 b) (fun r5 =>
 cond (!r5) (
 some ((0, 1))) (
 Option.bind (f59 c) (fun r6 =>
 cond (!r6) (
 some ((0, 1))) (
 Option.bind (f59 d) (fun r7 =>
 cond (!r7) (
 some ((0, 1))) (
 Option.bind (f95 a b) (fun r8 =>
 Option.bind (f95 c d) (fun r9 =>
 cond (!decide (r8 = r9)) (
 Option.bind (f95 c d) (fun r10 =>
 Option.bind (f96 r8 r10) (fun r11 =>
 some ((r11, 0))))) (
 Option.bind (f98 a) (fun r10 =>
 Option.bind (f98 b) (fun r11 =>
 Option.bind (f97 r10 r11) (fun r12 =>
 Option.bind (f98 c) (fun r13 =>
 Option.bind (f98 d) (fun r14 =>
 Option.bind (f97 r13 r14) (fun r15 =>
 cond (!decide (r12 0 = r15 0)) (
 Option.bind (f96 (r12 0) (r15 0)) (fun r16 =>
 some ((IntKind.i64.wrap (r8 * r16), 0)))) (
 cond (!decide (r12 1 = r15 1)) (
 Option.bind (f96 (r12 1) (r15 1)) (fun r16 =>
 some ((IntKind.i64.wrap (r8 * r16), 0)))) (
 Option.bind (f96 (r12 2) (r15 2)) (fun r16 =>
 some ((IntKind.i64.wrap (r8 * r16), 0))))))))))))))))))))))) : Option (Int × Int))) xx.1 xx.2.1 xx.2.2.1 xx.2.2.2 := by kernel_rfl
theorem ev83 (a : (aCons (pC (cI .i64)) (aCons (pC (cI .i64)) (aCons (pC (cI .i64)) (aOne (pC (cI .i64)))))).T) : evF (R := (rTup (cCons (cI .i64) (cOne (cI .i64)))).T) (cx [] [(59, conF (aOne (pC (cI .i64))) (rOne (cB)) (fun a => f59 a)), (95, conF (aCons (pC (cI .i64)) (aOne (pC (cI .i64)))) (rOne (cI .i64)) (fun a => f95 (a.1) (a.2))), (96, conF (aCons (pC (cI .i64)) (aOne (pC (cI .i64)))) (rOne (cI .i64)) (fun a => f96 (a.1) (a.2))), (97, conF (aCons (pC (cI .i64)) (aOne (pC (cI .i64)))) (rOne (cA .i64 3)) (fun a => f97 (a.1) (a.2))), (98, conF (aOne (pC (cI .i64))) (rOne (cI .i64)) (fun a => f98 a))] []) 1000 Tryd.f83 ((aCons (pC (cI .i64)) (aCons (pC (cI .i64)) (aCons (pC (cI .i64)) (aOne (pC (cI .i64)))))).enc gG a) (glMem gl) 2 (rTup (cCons (cI .i64) (cOne (cI .i64)))).dec = f83 a.1 a.2.1 a.2.2.1 a.2.2.2 := evg83 f59 f95 f96 f97 f98  a
theorem sp83 : VE.Spec Tryd.prog gG gl 83 (conF (aCons (pC (cI .i64)) (aCons (pC (cI .i64)) (aCons (pC (cI .i64)) (aOne (pC (cI .i64)))))) (rTup (cCons (cI .i64) (cOne (cI .i64)))) (fun a => f83 a.1 a.2.1 a.2.2.1 a.2.2.2)) := spec_of ok83 Tryd.func83 Tryd.call83 (lpAll_nil rfl) 1000 (aCons_ok (pC_ok (cI_ok _)) (aCons_ok (pC_ok (cI_ok _)) (aCons_ok (pC_ok (cI_ok _)) (aOne_ok (pC_ok (cI_ok _)))))) (rTup_ok (cCons_ok (cI_ok _) (cOne_ok (cI_ok _)))) ev83

/-- dancestudioref03.Near -/
theorem ok62 : CtxOK Tryd.prog (cx [] [(79, conF (aOne (pC (cA .i64 2))) (rOne (cB)) (fun a => f79 a)), (80, conF (aOne (pC (cI .i64))) (rOne (cB)) (fun a => f80 a)), (81, conF (aCons (pC (cA .i64 2)) (aOne (pC (cA .i64 2)))) (rOne (cI .i64)) (fun a => f81 (a.1) (a.2))), (82, conF (aCons (pC (cA .i64 2)) (aCons (pC (cA .i64 2)) (aOne (pC (cA .i64 2))))) (rOne (cI .i64)) (fun a => f82 (a.1) (a.2.1) (a.2.2))), (83, conF (aCons (pC (cI .i64)) (aCons (pC (cI .i64)) (aCons (pC (cI .i64)) (aOne (pC (cI .i64)))))) (rTup (cCons (cI .i64) (cOne (cI .i64)))) (fun a => f83 (a.1) (a.2.1) (a.2.2.1) (a.2.2.2)))] []) gl := ctx_of tyOk moOk (show SpecL Tryd.prog gG gl [(79, conF (aOne (pC (cA .i64 2))) (rOne (cB)) (fun a => f79 a)), (80, conF (aOne (pC (cI .i64))) (rOne (cB)) (fun a => f80 a)), (81, conF (aCons (pC (cA .i64 2)) (aOne (pC (cA .i64 2)))) (rOne (cI .i64)) (fun a => f81 (a.1) (a.2))), (82, conF (aCons (pC (cA .i64 2)) (aCons (pC (cA .i64 2)) (aOne (pC (cA .i64 2))))) (rOne (cI .i64)) (fun a => f82 (a.1) (a.2.1) (a.2.2))), (83, conF (aCons (pC (cI .i64)) (aCons (pC (cI .i64)) (aCons (pC (cI .i64)) (aOne (pC (cI .i64)))))) (rTup (cCons (cI .i64) (cOne (cI .i64)))) (fun a => f83 (a.1) (a.2.1) (a.2.2.1) (a.2.2.2)))] from ⟨sp79, sp80, sp81, sp82, sp83, trivial⟩) (show FnL Tryd.prog [] from trivial) (fnLp_nil _) joinOk
noncomputable def f62 (a : Nat → Int) (b : Nat → Int) (c : Nat → Int) (d : Int) : Option (Bool × Int) :=
 Option.bind (f79 a) (fun r4 =>
 cond (!r4) (
 some ((false, 1))) (
 Option.bind (f79 b) (fun r5 =>
 cond (!r5) (
 some ((false, 1))) (
 Option.bind (f79 c) (fun r6 =>
 cond (!r6) (
 some ((false, 1))) (
 Option.bind (f80 d) (fun r7 =>
 cond (!r7) (
 some ((false, 1))) (
 cond (decide (IntKind.i64.wrap (IntKind.i64.wrap (IntKind.i64.wrap (a 0 - b 0) * IntKind.i64.wrap (c 0 - b 0)) + IntKind.i64.wrap (IntKind.i64.wrap (a 1 - b 1) * IntKind.i64.wrap (c 1 - b 1))) ≤ 0)) (
 Option.bind (f81 a b) (fun r8 =>
 some ((decide (r8 ≤ IntKind.i64.wrap (d * d)), 0)))) (
 Option.bind (f81 b c) (fun r8 =>
 cond (decide (r8 ≤ IntKind.i64.wrap (IntKind.i64.wrap (IntKind.i64.wrap (a 0 - b 0) * IntKind.i64.wrap (c 0 - b 0)) + IntKind.i64.wrap (IntKind.i64.wrap (a 1 - b 1) * IntKind.i64.wrap (c 1 - b 1))))) (
 Option.bind (f81 a c) (fun r9 =>
 some ((decide (r9 ≤ IntKind.i64.wrap (d * d)), 0)))) (
 Option.bind (f82 b c a) (fun r9 =>
 Option.bind (f81 b c) (fun r10 =>
 Option.bind (f83 r9 r9 (IntKind.i64.wrap (d * d)) r10) (fun r11 =>
 some ((decide (r11.fst ≤ 0), 0))))))))))))))))
theorem evg62 (f79 : (Nat → Int) → Option (Bool)) (f80 : (Int) → Option (Bool)) (f81 : (Nat → Int) → (Nat → Int) → Option (Int)) (f82 : (Nat → Int) → (Nat → Int) → (Nat → Int) → Option (Int)) (f83 : (Int) → (Int) → (Int) → (Int) → Option (Int × Int))  (xx : (aCons (pC (cA .i64 2)) (aCons (pC (cA .i64 2)) (aCons (pC (cA .i64 2)) (aOne (pC (cI .i64)))))).T) : evF (R := (rTup (cCons (cB) (cOne (cI .i64)))).T) (cx [] [(79, conF (aOne (pC (cA .i64 2))) (rOne (cB)) (fun a => f79 a)), (80, conF (aOne (pC (cI .i64))) (rOne (cB)) (fun a => f80 a)), (81, conF (aCons (pC (cA .i64 2)) (aOne (pC (cA .i64 2)))) (rOne (cI .i64)) (fun a => f81 (a.1) (a.2))), (82, conF (aCons (pC (cA .i64 2)) (aCons (pC (cA .i64 2)) (aOne (pC (cA .i64 2))))) (rOne (cI .i64)) (fun a => f82 (a.1) (a.2.1) (a.2.2))), (83, conF (aCons (pC (cI .i64)) (aCons (pC (cI .i64)) (aCons (pC (cI .i64)) (aOne (pC (cI .i64)))))) (rTup (cCons (cI .i64) (cOne (cI .i64)))) (fun a => f83 (a.1) (a.2.1) (a.2.2.1) (a.2.2.2)))] []) 1000 Tryd.f62 ((aCons (pC (cA .i64 2)) (aCons (pC (cA .i64 2)) (aCons (pC (cA .i64 2)) (aOne (pC (cI .i64)))))).enc gG xx) (glMem gl) 2 (rTup (cCons (cB) (cOne (cI .i64)))).dec =
 (fun (a : Nat → Int) (b : Nat → Int) (c : Nat → Int) (d : Int) =>
 (( Option.bind (f79 (nthI [a 0, a 1])) (fun r4 =>
 cond (!r4) (
 some ((false, 1))) (
 Option.bind (f79 (nthI [b 0, b 1])) (fun r5 =>
 cond (!r5) (
 some ((false, 1))) (
 Option.bind (f79 (nthI [c 0, c 1])) (fun r6 =>
 cond (!r6) (
 some ((false, 1))) (
 Option.bind (f80 d) (fun r7 =>
 cond (!r7) (
 some ((false, 1))) (
 cond (decide (IntKind.i64.wrap (IntKind.i64.wrap (IntKind.i64.wrap (a 0 - b 0) * IntKind.i64.wrap (c 0 - b 0)) + IntKind.i64.wrap (IntKind.i64.wrap (a 1 - b 1) * IntKind.i64.wrap (c 1 - b 1))) ≤ 0)) (
 Option.bind (f81 (nthI [a 0, a 1]) (nthI [b 0, b 1])) (fun r8 =>
 some ((decide (r8 ≤ IntKind.i64.wrap (d * d)), 0)))) (
 Option.bind (f81 (nthI [b 0, b 1]) (nthI [c 0, c 1])) (fun r8 =>
 cond (decide (r8 ≤ IntKind.i64.wrap (IntKind.i64.wrap (IntKind.i64.wrap (a 0 - b 0) * IntKind.i64.wrap (c 0 - b 0)) + IntKind.i64.wrap (IntKind.i64.wrap (a 1 - b 1) * IntKind.i64.wrap (c 1 - b 1))))) (
 Option.bind (f81 (nthI [a 0, a 1]) (nthI [c 0, c 1])) (fun r9 =>
 some ((decide (r9 ≤ IntKind.i64.wrap (d * d)), 0)))) (
 Option.bind (f82 (nthI [b 0, b 1]) (nthI [c 0, c 1]) (nthI [a 0, a 1])) (fun r9 =>
 Option.bind (f81 (nthI [b 0, b 1]) (nthI [c 0, c 1])) (fun r10 =>
 Option.bind (f83 r9 r9 (IntKind.i64.wrap (d * d)) r10) (fun r11 =>
 some ((decide (r11.fst ≤ 0), 0))))))))))))))))) : Option (Bool × Int))) xx.1 xx.2.1 xx.2.2.1 xx.2.2.2 := by kernel_rfl
noncomputable def g62 (a : Nat → Int) (b : Nat → Int) (c : Nat → Int) (d : Int) : Option (Bool × Int) :=
 Option.bind (f79 (nthI [a 0, a 1])) (fun r4 =>
 cond (!r4) (
 some ((false, 1))) (
 Option.bind (f79 (nthI [b 0, b 1])) (fun r5 =>
 cond (!r5) (
 some ((false, 1))) (
 Option.bind (f79 (nthI [c 0, c 1])) (fun r6 =>
 cond (!r6) (
 some ((false, 1))) (
 Option.bind (f80 d) (fun r7 =>
 cond (!r7) (
 some ((false, 1))) (
 cond (decide (IntKind.i64.wrap (IntKind.i64.wrap (IntKind.i64.wrap (a 0 - b 0) * IntKind.i64.wrap (c 0 - b 0)) + IntKind.i64.wrap (IntKind.i64.wrap (a 1 - b 1) * IntKind.i64.wrap (c 1 - b 1))) ≤ 0)) (
 Option.bind (f81 (nthI [a 0, a 1]) (nthI [b 0, b 1])) (fun r8 =>
 some ((decide (r8 ≤ IntKind.i64.wrap (d * d)), 0)))) (
 Option.bind (f81 (nthI [b 0, b 1]) (nthI [c 0, c 1])) (fun r8 =>
 cond (decide (r8 ≤ IntKind.i64.wrap (IntKind.i64.wrap (IntKind.i64.wrap (a 0 - b 0) * IntKind.i64.wrap (c 0 - b 0)) + IntKind.i64.wrap (IntKind.i64.wrap (a 1 - b 1) * IntKind.i64.wrap (c 1 - b 1))))) (
 Option.bind (f81 (nthI [a 0, a 1]) (nthI [c 0, c 1])) (fun r9 =>
 some ((decide (r9 ≤ IntKind.i64.wrap (d * d)), 0)))) (
 Option.bind (f82 (nthI [b 0, b 1]) (nthI [c 0, c 1]) (nthI [a 0, a 1])) (fun r9 =>
 Option.bind (f81 (nthI [b 0, b 1]) (nthI [c 0, c 1])) (fun r10 =>
 Option.bind (f83 r9 r9 (IntKind.i64.wrap (d * d)) r10) (fun r11 =>
 some ((decide (r11.fst ≤ 0), 0))))))))))))))))
theorem fg62 (a : Nat → Int) (b : Nat → Int) (c : Nat → Int) (d : Int) : g62 a b c d = f62 a b c d := by kernel_rfl
theorem ev62 (a : (aCons (pC (cA .i64 2)) (aCons (pC (cA .i64 2)) (aCons (pC (cA .i64 2)) (aOne (pC (cI .i64)))))).T) : evF (R := (rTup (cCons (cB) (cOne (cI .i64)))).T) (cx [] [(79, conF (aOne (pC (cA .i64 2))) (rOne (cB)) (fun a => f79 a)), (80, conF (aOne (pC (cI .i64))) (rOne (cB)) (fun a => f80 a)), (81, conF (aCons (pC (cA .i64 2)) (aOne (pC (cA .i64 2)))) (rOne (cI .i64)) (fun a => f81 (a.1) (a.2))), (82, conF (aCons (pC (cA .i64 2)) (aCons (pC (cA .i64 2)) (aOne (pC (cA .i64 2))))) (rOne (cI .i64)) (fun a => f82 (a.1) (a.2.1) (a.2.2))), (83, conF (aCons (pC (cI .i64)) (aCons (pC (cI .i64)) (aCons (pC (cI .i64)) (aOne (pC (cI .i64)))))) (rTup (cCons (cI .i64) (cOne (cI .i64)))) (fun a => f83 (a.1) (a.2.1) (a.2.2.1) (a.2.2.2)))] []) 1000 Tryd.f62 ((aCons (pC (cA .i64 2)) (aCons (pC (cA .i64 2)) (aCons (pC (cA .i64 2)) (aOne (pC (cI .i64)))))).enc gG a) (glMem gl) 2 (rTup (cCons (cB) (cOne (cI .i64)))).dec = f62 a.1 a.2.1 a.2.2.1 a.2.2.2 := (show evF (R := (rTup (cCons (cB) (cOne (cI .i64)))).T) (cx [] [(79, conF (aOne (pC (cA .i64 2))) (rOne (cB)) (fun a => f79 a)), (80, conF (aOne (pC (cI .i64))) (rOne (cB)) (fun a => f80 a)), (81, conF (aCons (pC (cA .i64 2)) (aOne (pC (cA .i64 2)))) (rOne (cI .i64)) (fun a => f81 (a.1) (a.2))), (82, conF (aCons (pC (cA .i64 2)) (aCons (pC (cA .i64 2)) (aOne (pC (cA .i64 2))))) (rOne (cI .i64)) (fun a => f82 (a.1) (a.2.1) (a.2.2))), (83, conF (aCons (pC (cI .i64)) (aCons (pC (cI .i64)) (aCons (pC (cI .i64)) (aOne (pC (cI .i64)))))) (rTup (cCons (cI .i64) (cOne (cI .i64)))) (fun a => f83 (a.1) (a.2.1) (a.2.2.1) (a.2.2.2)))] []) 1000 Tryd.f62 ((aCons (pC (cA .i64 2)) (aCons (pC (cA .i64 2)) (aCons (pC (cA .i64 2)) (aOne (pC (cI .i64)))))).enc gG a) (glMem gl) 2 (rTup (cCons (cB) (cOne (cI .i64)))).dec = g62 a.1 a.2.1 a.2.2.1 a.2.2.2 from evg62 f79 f80 f81 f82 f83  a).trans (fg62 a.1 a.2.1 a.2.2.1 a.2.2.2)
theorem sp62 : VE.Spec Tryd.prog gG gl 62 (conF (aCons (pC (cA .i64 2)) (aCons (pC (cA .i64 2)) (aCons (pC (cA .i64 2)) (aOne (pC (cI .i64)))))) (rTup (cCons (cB) (cOne (cI .i64)))) (fun a => f62 a.1 a.2.1 a.2.2.1 a.2.2.2)) := spec_of ok62 Tryd.func62 Tryd.call62 (lpAll_nil rfl) 1000 (aCons_ok (pC_ok (cA_ok _ _)) (aCons_ok (pC_ok (cA_ok _ _)) (aCons_ok (pC_ok (cA_ok _ _)) (aOne_ok (pC_ok (cI_ok _)))))) (rTup_ok (cCons_ok (cB_ok) (cOne_ok (cI_ok _)))) ev62

/-- dancestudioref21.above -/
theorem ok34 : CtxOK Tryd.prog (cx [] [(11, conF (aCons (pC (cA .i64 15)) (aCons (pC (cA .i64 22)) (aOne (pC (cI .i64))))) (rTup (cCons (cA .i64 2) (cOne (cI .i64)))) (fun a => f11 (a.1) (a.2.1) (a.2.2))), (26, conF (aCons (pC (cA .i64 15)) (aCons (pC (cA .i64 22)) (aOne (pC (cI .i64))))) (rTup (cCons (cA .i64 33) (cOne (cI .i64)))) (fun a => f26 (a.1) (a.2.1) (a.2.2))), (62, conF (aCons (pC (cA .i64 2)) (aCons (pC (cA .i64 2)) (aCons (pC (cA .i64 2)) (aOne (pC (cI .i64)))))) (rTup (cCons (cB) (cOne (cI .i64)))) (fun a => f62 (a.1) (a.2.1) (a.2.2.1) (a.2.2.2)))] []) gl := ctx_of tyOk moOk (show SpecL Tryd.prog gG gl [(11, conF (aCons (pC (cA .i64 15)) (aCons (pC (cA .i64 22)) (aOne (pC (cI .i64))))) (rTup (cCons (cA .i64 2) (cOne (cI .i64)))) (fun a => f11 (a.1) (a.2.1) (a.2.2))), (26, conF (aCons (pC (cA .i64 15)) (aCons (pC (cA .i64 22)) (aOne (pC (cI .i64))))) (rTup (cCons (cA .i64 33) (cOne (cI .i64)))) (fun a => f26 (a.1) (a.2.1) (a.2.2))), (62, conF (aCons (pC (cA .i64 2)) (aCons (pC (cA .i64 2)) (aCons (pC (cA .i64 2)) (aOne (pC (cI .i64)))))) (rTup (cCons (cB) (cOne (cI .i64)))) (fun a => f62 (a.1) (a.2.1) (a.2.2.1) (a.2.2.2)))] from ⟨sp11, sp26, sp62, trivial⟩) (show FnL Tryd.prog [] from trivial) (fnLp_nil _) joinOk
noncomputable def f34 (a : Nat → Int) (b : Nat → Int) (c : Int) (d : Int) : Option (Bool) :=
 Option.bind (f26 a b c) (fun r4 =>
 Option.bind (f11 a b c) (fun r5 =>
 cond (decide (c = 1)) (
 cond (decide (c = 2)) (
 Option.bind (f62 (nthI [IntKind.i64.wrap (r5.fst 0 - b 0), IntKind.i64.wrap (r5.fst 1 - b 1)]) (nthI [IntKind.i64.wrap (r4.fst 27 - b 0), IntKind.i64.wrap (r4.fst 28 - b 1)]) (nthI [IntKind.i64.wrap (r4.fst 27 - b 0), IntKind.i64.wrap (r4.fst 28 - b 1)]) d) (fun r6 =>
 some (r6.fst))) (
 Option.bind (f62 (nthI [IntKind.i64.wrap (r5.fst 0 - b 0), IntKind.i64.wrap (r5.fst 1 - b 1)]) (nthI [IntKind.i64.wrap (r4.fst 27 - b 0), IntKind.i64.wrap (r4.fst 28 - b 1)]) (nthI [IntKind.i64.wrap (r4.fst 27 - b 0), IntKind.i64.wrap (r4.fst 28 - b 1)]) d) (fun r6 =>
 some (r6.fst)))) (
 cond (decide (c = 2)) (
 Option.bind (f62 (nthI [IntKind.i64.wrap (r5.fst 0 - b 0), IntKind.i64.wrap (r5.fst 1 - b 1)]) (nthI [IntKind.i64.wrap (r4.fst 30 - b 0), IntKind.i64.wrap (r4.fst 31 - b 1)]) (nthI [IntKind.i64.wrap (r4.fst 30 - b 0), IntKind.i64.wrap (r4.fst 31 - b 1)]) d) (fun r6 =>
 some (r6.fst))) (
 Option.bind (f62 (nthI [IntKind.i64.wrap (r5.fst 0 - b 0), IntKind.i64.wrap (r5.fst 1 - b 1)]) (nthI [IntKind.i64.wrap (r4.fst 27 - b 0), IntKind.i64.wrap (r4.fst 28 - b 1)]) (nthI [IntKind.i64.wrap (r4.fst 30 - b 0), IntKind.i64.wrap (r4.fst 31 - b 1)]) d) (fun r6 =>
 some (r6.fst))))))
theorem evg34 (f11 : (Nat → Int) → (Nat → Int) → (Int) → Option ((Nat → Int) × Int)) (f26 : (Nat → Int) → (Nat → Int) → (Int) → Option ((Nat → Int) × Int)) (f62 : (Nat → Int) → (Nat → Int) → (Nat → Int) → (Int) → Option (Bool × Int))  (xx : (aCons (pC (cA .i64 15)) (aCons (pC (cA .i64 22)) (aCons (pC (cI .i64)) (aOne (pC (cI .i64)))))).T) : evF (R := (rOne (cB)).T) (cx [] [(11, conF (aCons (pC (cA .i64 15)) (aCons (pC (cA .i64 22)) (aOne (pC (cI .i64))))) (rTup (cCons (cA .i64 2) (cOne (cI .i64)))) (fun a => f11 (a.1) (a.2.1) (a.2.2))), (26, conF (aCons (pC (cA .i64 15)) (aCons (pC (cA .i64 22)) (aOne (pC (cI .i64))))) (rTup (cCons (cA .i64 33) (cOne (cI .i64)))) (fun a => f26 (a.1) (a.2.1) (a.2.2))), (62, conF (aCons (pC (cA .i64 2)) (aCons (pC (cA .i64 2)) (aCons (pC (cA .i64 2)) (aOne (pC (cI .i64)))))) (rTup (cCons (cB) (cOne (cI .i64)))) (fun a => f62 (a.1) (a.2.1) (a.2.2.1) (a.2.2.2)))] []) 1000 Tryd.f34 ((aCons (pC (cA .i64 15)) (aCons (pC (cA .i64 22)) (aCons (pC (cI .i64)) (aOne (pC (cI .i64)))))).enc gG xx) (glMem gl) 2 (rOne (cB)).dec =
 (fun (a : Nat → Int) (b : Nat → Int) (c : Int) (d : Int) =>
 (( Option.bind (f26 (nthI [a 0, a 1, a 2, a 3, a 4, a 5, a 6, a 7, a 8, a 9, a 10, a 11, a 12, a 13, a 14]) (nthI [b 0, b 1, b 2, b 3, b 4, b 5, b 6, b 7, b 8, b 9, b 10, b 11, b 12, b 13, b 14, b 15, b 16, b 17, b 18, b 19, b 20, b 21]) c) (fun r4 =>
 Option.bind (f11 (nthI [a 0, a 1, a 2, a 3, a 4, a 5, a 6, a 7, a 8, a 9, a 10, a 11, a 12, a 13, a 14]) (nthI [b 0, b 1, b 2, b 3, b 4, b 5, b 6, b 7, b 8, b 9, b 10, b 11, b 12, b 13, b 14, b 15, b 16, b 17, b 18, b 19, b 20, b 21]) c) (fun r5 =>
 cond (decide (c = 1)) (
 cond (decide (c = 2)) (
 Option.bind (f62 (nthI [IntKind.i64.wrap (r5.fst 0 - b 0), IntKind.i64.wrap (r5.fst 1 - b 1)]) (nthI [IntKind.i64.wrap (r4.fst 27 - b 0), IntKind.i64.wrap (r4.fst 28 - b 1)]) (nthI [IntKind.i64.wrap (r4.fst 27 - b 0), IntKind.i64.wrap (r4.fst 28 - b 1)]) d) (fun r6 =>
 some (r6.fst))) (
 Option.bind (f62 (nthI [IntKind.i64.wrap (r5.fst 0 - b 0), IntKind.i64.wrap (r5.fst 1 - b 1)]) (nthI [IntKind.i64.wrap (r4.fst 27 - b 0), IntKind.i64.wrap (r4.fst 28 - b 1)]) (nthI [IntKind.i64.wrap (r4.fst 27 - b 0), IntKind.i64.wrap (r4.fst 28 - b 1)]) d) (fun r6 =>
 some (r6.fst)))) (
 cond (decide (c = 2)) (
 Option.bind (f62 (nthI [IntKind.i64.wrap (r5.fst 0 - b 0), IntKind.i64.wrap (r5.fst 1 - b 1)]) (nthI [IntKind.i64.wrap (r4.fst 30 - b 0), IntKind.i64.wrap (r4.fst 31 - b 1)]) (nthI [IntKind.i64.wrap (r4.fst 30 - b 0), IntKind.i64.wrap (r4.fst 31 - b 1)]) d) (fun r6 =>
 some (r6.fst))) (
 Option.bind (f62 (nthI [IntKind.i64.wrap (r5.fst 0 - b 0), IntKind.i64.wrap (r5.fst 1 - b 1)]) (nthI [IntKind.i64.wrap (r4.fst 27 - b 0), IntKind.i64.wrap (r4.fst 28 - b 1)]) (nthI [IntKind.i64.wrap (r4.fst 30 - b 0), IntKind.i64.wrap (r4.fst 31 - b 1)]) d) (fun r6 =>
 some (r6.fst))))))) : Option (Bool))) xx.1 xx.2.1 xx.2.2.1 xx.2.2.2 := by kernel_rfl
noncomputable def g34 (a : Nat → Int) (b : Nat → Int) (c : Int) (d : Int) : Option (Bool) :=
 Option.bind (f26 (nthI [a 0, a 1, a 2, a 3, a 4, a 5, a 6, a 7, a 8, a 9, a 10, a 11, a 12, a 13, a 14]) (nthI [b 0, b 1, b 2, b 3, b 4, b 5, b 6, b 7, b 8, b 9, b 10, b 11, b 12, b 13, b 14, b 15, b 16, b 17, b 18, b 19, b 20, b 21]) c) (fun r4 =>
 Option.bind (f11 (nthI [a 0, a 1, a 2, a 3, a 4, a 5, a 6, a 7, a 8, a 9, a 10, a 11, a 12, a 13, a 14]) (nthI [b 0, b 1, b 2, b 3, b 4, b 5, b 6, b 7, b 8, b 9, b 10, b 11, b 12, b 13, b 14, b 15, b 16, b 17, b 18, b 19, b 20, b 21]) c) (fun r5 =>
 cond (decide (c = 1)) (
 cond (decide (c = 2)) (
 Option.bind (f62 (nthI [IntKind.i64.wrap (r5.fst 0 - b 0), IntKind.i64.wrap (r5.fst 1 - b 1)]) (nthI [IntKind.i64.wrap (r4.fst 27 - b 0), IntKind.i64.wrap (r4.fst 28 - b 1)]) (nthI [IntKind.i64.wrap (r4.fst 27 - b 0), IntKind.i64.wrap (r4.fst 28 - b 1)]) d) (fun r6 =>
 some (r6.fst))) (
 Option.bind (f62 (nthI [IntKind.i64.wrap (r5.fst 0 - b 0), IntKind.i64.wrap (r5.fst 1 - b 1)]) (nthI [IntKind.i64.wrap (r4.fst 27 - b 0), IntKind.i64.wrap (r4.fst 28 - b 1)]) (nthI [IntKind.i64.wrap (r4.fst 27 - b 0), IntKind.i64.wrap (r4.fst 28 - b 1)]) d) (fun r6 =>
 some (r6.fst)))) (
 cond (decide (c = 2)) (
 Option.bind (f62 (nthI [IntKind.i64.wrap (r5.fst 0 - b 0), IntKind.i64.wrap (r5.fst 1 - b 1)]) (nthI [IntKind.i64.wrap (r4.fst 30 - b 0), IntKind.i64.wrap (r4.fst 31 - b 1)]) (nthI [IntKind.i64.wrap (r4.fst 30 - b 0), IntKind.i64.wrap (r4.fst 31 - b 1)]) d) (fun r6 =>
 some (r6.fst))) (
 Option.bind (f62 (nthI [IntKind.i64.wrap (r5.fst 0 - b 0), IntKind.i64.wrap (r5.fst 1 - b 1)]) (nthI [IntKind.i64.wrap (r4.fst 27 - b 0), IntKind.i64.wrap (r4.fst 28 - b 1)]) (nthI [IntKind.i64.wrap (r4.fst 30 - b 0), IntKind.i64.wrap (r4.fst 31 - b 1)]) d) (fun r6 =>
 some (r6.fst))))))
theorem fg34 (a : Nat → Int) (b : Nat → Int) (c : Int) (d : Int) : g34 a b c d = f34 a b c d := by kernel_rfl
theorem ev34 (a : (aCons (pC (cA .i64 15)) (aCons (pC (cA .i64 22)) (aCons (pC (cI .i64)) (aOne (pC (cI .i64)))))).T) : evF (R := (rOne (cB)).T) (cx [] [(11, conF (aCons (pC (cA .i64 15)) (aCons (pC (cA .i64 22)) (aOne (pC (cI .i64))))) (rTup (cCons (cA .i64 2) (cOne (cI .i64)))) (fun a => f11 (a.1) (a.2.1) (a.2.2))), (26, conF (aCons (pC (cA .i64 15)) (aCons (pC (cA .i64 22)) (aOne (pC (cI .i64))))) (rTup (cCons (cA .i64 33) (cOne (cI .i64)))) (fun a => f26 (a.1) (a.2.1) (a.2.2))), (62, conF (aCons (pC (cA .i64 2)) (aCons (pC (cA .i64 2)) (aCons (pC (cA .i64 2)) (aOne (pC (cI .i64)))))) (rTup (cCons (cB) (cOne (cI .i64)))) (fun a => f62 (a.1) (a.2.1) (a.2.2.1) (a.2.2.2)))] []) 1000 Tryd.f34 ((aCons (pC (cA .i64 15)) (aCons (pC (cA .i64 22)) (aCons (pC (cI .i64)) (aOne (pC (cI .i64)))))).enc gG a) (glMem gl) 2 (rOne (cB)).dec = f34 a.1 a.2.1 a.2.2.1 a.2.2.2 := (show evF (R := (rOne (cB)).T) (cx [] [(11, conF (aCons (pC (cA .i64 15)) (aCons (pC (cA .i64 22)) (aOne (pC (cI .i64))))) (rTup (cCons (cA .i64 2) (cOne (cI .i64)))) (fun a => f11 (a.1) (a.2.1) (a.2.2))), (26, conF (aCons (pC (cA .i64 15)) (aCons (pC (cA .i64 22)) (aOne (pC (cI .i64))))) (rTup (cCons (cA .i64 33) (cOne (cI .i64)))) (fun a => f26 (a.1) (a.2.1) (a.2.2))), (62, conF (aCons (pC (cA .i64 2)) (aCons (pC (cA .i64 2)) (aCons (pC (cA .i64 2)) (aOne (pC (cI .i64)))))) (rTup (cCons (cB) (cOne (cI .i64)))) (fun a => f62 (a.1) (a.2.1) (a.2.2.1) (a.2.2.2)))] []) 1000 Tryd.f34 ((aCons (pC (cA .i64 15)) (aCons (pC (cA .i64 22)) (aCons (pC (cI .i64)) (aOne (pC (cI .i64)))))).enc gG a) (glMem gl) 2 (rOne (cB)).dec = g34 a.1 a.2.1 a.2.2.1 a.2.2.2 from evg34 f11 f26 f62  a).trans (fg34 a.1 a.2.1 a.2.2.1 a.2.2.2)
theorem sp34 : VE.Spec Tryd.prog gG gl 34 (conF (aCons (pC (cA .i64 15)) (aCons (pC (cA .i64 22)) (aCons (pC (cI .i64)) (aOne (pC (cI .i64)))))) (rOne (cB)) (fun a => f34 a.1 a.2.1 a.2.2.1 a.2.2.2)) := spec_of ok34 Tryd.func34 Tryd.call34 (lpAll_nil rfl) 1000 (aCons_ok (pC_ok (cA_ok _ _)) (aCons_ok (pC_ok (cA_ok _ _)) (aCons_ok (pC_ok (cI_ok _)) (aOne_ok (pC_ok (cI_ok _)))))) (rOne_ok (cB_ok)) ev34

/-- dancestudioref21.Stable -/
theorem ok14 : CtxOK Tryd.prog (cx [] [(26, conF (aCons (pC (cA .i64 15)) (aCons (pC (cA .i64 22)) (aOne (pC (cI .i64))))) (rTup (cCons (cA .i64 33) (cOne (cI .i64)))) (fun a => f26 (a.1) (a.2.1) (a.2.2))), (34, conF (aCons (pC (cA .i64 15)) (aCons (pC (cA .i64 22)) (aCons (pC (cI .i64)) (aOne (pC (cI .i64)))))) (rOne (cB)) (fun a => f34 (a.1) (a.2.1) (a.2.2.1) (a.2.2.2)))] []) gl := ctx_of tyOk moOk (show SpecL Tryd.prog gG gl [(26, conF (aCons (pC (cA .i64 15)) (aCons (pC (cA .i64 22)) (aOne (pC (cI .i64))))) (rTup (cCons (cA .i64 33) (cOne (cI .i64)))) (fun a => f26 (a.1) (a.2.1) (a.2.2))), (34, conF (aCons (pC (cA .i64 15)) (aCons (pC (cA .i64 22)) (aCons (pC (cI .i64)) (aOne (pC (cI .i64)))))) (rOne (cB)) (fun a => f34 (a.1) (a.2.1) (a.2.2.1) (a.2.2.2)))] from ⟨sp26, sp34, trivial⟩) (show FnL Tryd.prog [] from trivial) (fnLp_nil _) joinOk
noncomputable def f14 (a : Nat → Int) (b : Nat → Int) (c : Int) : Option (Bool × Int) :=
 Option.bind (f26 a b c) (fun r3 =>
 cond (!decide (r3.snd = 0)) (
 some ((false, r3.snd))) (
 cond (decide (c = 0)) (
 some ((true, 0))) (
 Option.bind (f34 a b c (a 9)) (fun r4 =>
 some ((r4, 0))))))
theorem evg14 (f26 : (Nat → Int) → (Nat → Int) → (Int) → Option ((Nat → Int) × Int)) (f34 : (Nat → Int) → (Nat → Int) → (Int) → (Int) → Option (Bool))  (xx : (aCons (pC (cA .i64 15)) (aCons (pC (cA .i64 22)) (aOne (pC (cI .i64))))).T) : evF (R := (rTup (cCons (cB) (cOne (cI .i64)))).T) (cx [] [(26, conF (aCons (pC (cA .i64 15)) (aCons (pC (cA .i64 22)) (aOne (pC (cI .i64))))) (rTup (cCons (cA .i64 33) (cOne (cI .i64)))) (fun a => f26 (a.1) (a.2.1) (a.2.2))), (34, conF (aCons (pC (cA .i64 15)) (aCons (pC (cA .i64 22)) (aCons (pC (cI .i64)) (aOne (pC (cI .i64)))))) (rOne (cB)) (fun a => f34 (a.1) (a.2.1) (a.2.2.1) (a.2.2.2)))] []) 1000 Tryd.f14 ((aCons (pC (cA .i64 15)) (aCons (pC (cA .i64 22)) (aOne (pC (cI .i64))))).enc gG xx) (glMem gl) 2 (rTup (cCons (cB) (cOne (cI .i64)))).dec =
 (fun (a : Nat → Int) (b : Nat → Int) (c : Int) =>
 (( Option.bind (f26 (nthI [a 0, a 1, a 2, a 3, a 4, a 5, a 6, a 7, a 8, a 9, a 10, a 11, a 12, a 13, a 14]) (nthI [b 0, b 1, b 2, b 3, b 4, b 5, b 6, b 7, b 8, b 9, b 10, b 11, b 12, b 13, b 14, b 15, b 16, b 17, b 18, b 19, b 20, b 21]) c) (fun r3 =>
 cond (!decide (r3.snd = 0)) (
 some ((false, r3.snd))) (
 cond (decide (c = 0)) (
 some ((true, 0))) (
 Option.bind (f34 (nthI [a 0, a 1, a 2, a 3, a 4, a 5, a 6, a 7, a 8, a 9, a 10, a 11, a 12, a 13, a 14]) (nthI [b 0, b 1, b 2, b 3, b 4, b 5, b 6, b 7, b 8, b 9, b 10, b 11, b 12, b 13, b 14, b 15, b 16, b 17, b 18, b 19, b 20, b 21]) c (a 9)) (fun r4 =>
 some ((r4, 0))))))) : Option (Bool × Int))) xx.1 xx.2.1 xx.2.2 := by kernel_rfl
noncomputable def g14 (a : Nat → Int) (b : Nat → Int) (c : Int) : Option (Bool × Int) :=
 Option.bind (f26 (nthI [a 0, a 1, a 2, a 3, a 4, a 5, a 6, a 7, a 8, a 9, a 10, a 11, a 12, a 13, a 14]) (nthI [b 0, b 1, b 2, b 3, b 4, b 5, b 6, b 7, b 8, b 9, b 10, b 11, b 12, b 13, b 14, b 15, b 16, b 17, b 18, b 19, b 20, b 21]) c) (fun r3 =>
 cond (!decide (r3.snd = 0)) (
 some ((false, r3.snd))) (
 cond (decide (c = 0)) (
 some ((true, 0))) (
 Option.bind (f34 (nthI [a 0, a 1, a 2, a 3, a 4, a 5, a 6, a 7, a 8, a 9, a 10, a 11, a 12, a 13, a 14]) (nthI [b 0, b 1, b 2, b 3, b 4, b 5, b 6, b 7, b 8, b 9, b 10, b 11, b 12, b 13, b 14, b 15, b 16, b 17, b 18, b 19, b 20, b 21]) c (a 9)) (fun r4 =>
 some ((r4, 0))))))
theorem fg14 (a : Nat → Int) (b : Nat → Int) (c : Int) : g14 a b c = f14 a b c := by kernel_rfl
theorem ev14 (a : (aCons (pC (cA .i64 15)) (aCons (pC (cA .i64 22)) (aOne (pC (cI .i64))))).T) : evF (R := (rTup (cCons (cB) (cOne (cI .i64)))).T) (cx [] [(26, conF (aCons (pC (cA .i64 15)) (aCons (pC (cA .i64 22)) (aOne (pC (cI .i64))))) (rTup (cCons (cA .i64 33) (cOne (cI .i64)))) (fun a => f26 (a.1) (a.2.1) (a.2.2))), (34, conF (aCons (pC (cA .i64 15)) (aCons (pC (cA .i64 22)) (aCons (pC (cI .i64)) (aOne (pC (cI .i64)))))) (rOne (cB)) (fun a => f34 (a.1) (a.2.1) (a.2.2.1) (a.2.2.2)))] []) 1000 Tryd.f14 ((aCons (pC (cA .i64 15)) (aCons (pC (cA .i64 22)) (aOne (pC (cI .i64))))).enc gG a) (glMem gl) 2 (rTup (cCons (cB) (cOne (cI .i64)))).dec = f14 a.1 a.2.1 a.2.2 := (show evF (R := (rTup (cCons (cB) (cOne (cI .i64)))).T) (cx [] [(26, conF (aCons (pC (cA .i64 15)) (aCons (pC (cA .i64 22)) (aOne (pC (cI .i64))))) (rTup (cCons (cA .i64 33) (cOne (cI .i64)))) (fun a => f26 (a.1) (a.2.1) (a.2.2))), (34, conF (aCons (pC (cA .i64 15)) (aCons (pC (cA .i64 22)) (aCons (pC (cI .i64)) (aOne (pC (cI .i64)))))) (rOne (cB)) (fun a => f34 (a.1) (a.2.1) (a.2.2.1) (a.2.2.2)))] []) 1000 Tryd.f14 ((aCons (pC (cA .i64 15)) (aCons (pC (cA .i64 22)) (aOne (pC (cI .i64))))).enc gG a) (glMem gl) 2 (rTup (cCons (cB) (cOne (cI .i64)))).dec = g14 a.1 a.2.1 a.2.2 from evg14 f26 f34  a).trans (fg14 a.1 a.2.1 a.2.2)
theorem sp14 : VE.Spec Tryd.prog gG gl 14 (conF (aCons (pC (cA .i64 15)) (aCons (pC (cA .i64 22)) (aOne (pC (cI .i64))))) (rTup (cCons (cB) (cOne (cI .i64)))) (fun a => f14 a.1 a.2.1 a.2.2)) := spec_of ok14 Tryd.func14 Tryd.call14 (lpAll_nil rfl) 1000 (aCons_ok (pC_ok (cA_ok _ _)) (aCons_ok (pC_ok (cA_ok _ _)) (aOne_ok (pC_ok (cI_ok _))))) (rTup_ok (cCons_ok (cB_ok) (cOne_ok (cI_ok _)))) ev14

/-- dancestudioref21.Margin -/
theorem okl16 : CtxOK Tryd.prog (cx [] [(14, conF (aCons (pC (cA .i64 15)) (aCons (pC (cA .i64 22)) (aOne (pC (cI .i64))))) (rTup (cCons (cB) (cOne (cI .i64)))) (fun a => f14 (a.1) (a.2.1) (a.2.2))), (34, conF (aCons (pC (cA .i64 15)) (aCons (pC (cA .i64 22)) (aCons (pC (cI .i64)) (aOne (pC (cI .i64)))))) (rOne (cB)) (fun a => f34 (a.1) (a.2.1) (a.2.2.1) (a.2.2.2)))] []) gl := ctx_of tyOk moOk (show SpecL Tryd.prog gG gl [(14, conF (aCons (pC (cA .i64 15)) (aCons (pC (cA .i64 22)) (aOne (pC (cI .i64))))) (rTup (cCons (cB) (cOne (cI .i64)))) (fun a => f14 (a.1) (a.2.1) (a.2.2))), (34, conF (aCons (pC (cA .i64 15)) (aCons (pC (cA .i64 22)) (aCons (pC (cI .i64)) (aOne (pC (cI .i64)))))) (rOne (cB)) (fun a => f34 (a.1) (a.2.1) (a.2.2.1) (a.2.2.2)))] from ⟨sp14, sp34, trivial⟩) (show FnL Tryd.prog [] from trivial) (fnLp_nil _) joinOk
def T16_0 : ST := ⟨[(2, .s (.i .i64)), (3, .s (.ptr 2 0)), (4, .s (.ptr 3 0)), (10, .s (.i .i64))], [(2, .own [.i .i64, .i .i64, .i .i64, .i .i64, .i .i64, .i .i64, .i .i64, .i .i64, .i .i64, .i .i64, .i .i64, .i .i64, .i .i64, .i .i64, .i .i64] 24), (3, .own [.i .i64, .i .i64, .i .i64, .i .i64, .i .i64, .i .i64, .i .i64, .i .i64, .i .i64, .i .i64, .i .i64, .i .i64, .i .i64, .i .i64, .i .i64, .i .i64, .i .i64, .i .i64, .i .i64, .i .i64, .i .i64, .i .i64] 31)], 24⟩
def outs16_0 : List (AExit × ST) := [(.exit 0, ⟨[(10, .s (.i .i64))], [], 33⟩)]
noncomputable def s16_0 (rec : (Nat → Int) → (Nat → Sl) → Option LR) (x : Nat → Int) (y : Nat → Sl) : Option LR :=
 Option.bind (f34 (nthI [x 2, x 3, x 4, x 5, x 6, x 7, x 8, x 9, x 10, x 11, x 12, x 13, x 14, x 15, x 16]) (nthI [x 17, x 18, x 19, x 20, x 21, x 22, x 23, x 24, x 25, x 26, x 27, x 28, x 29, x 30, x 31, x 32, x 33, x 34, x 35, x 36, x 37, x 38]) (x 0) (IntKind.i64.wrap (x 11 - x 1))) (fun r3 =>
 cond (!r3) (
 rec (nthI [x 0, IntKind.i64.wrap (x 1 - 1), x 2, x 3, x 4, x 5, x 6, x 7, x 8, x 9, x 10, x 11, x 12, x 13, x 14, x 15, x 16, x 17, x 18, x 19, x 20, x 21, x 22, x 23, x 24, x 25, x 26, x 27, x 28, x 29, x 30, x 31, x 32, x 33, x 34, x 35, x 36, x 37, x 38]) (nthS [])) (
 some ((0, nthI [x 1], nthS []))))
theorem se16_0 (f34 : (Nat → Int) → (Nat → Int) → (Int) → (Int) → Option (Bool)) (rec : (Nat → Int) → (Nat → Sl) → Option LR) (x : Nat → Int) (y : Nat → Sl) : evR (cx [] [(14, conF (aCons (pC (cA .i64 15)) (aCons (pC (cA .i64 22)) (aOne (pC (cI .i64))))) (rTup (cCons (cB) (cOne (cI .i64)))) (fun a => f14 (a.1) (a.2.1) (a.2.2))), (34, conF (aCons (pC (cA .i64 15)) (aCons (pC (cA .i64 22)) (aCons (pC (cI .i64)) (aOne (pC (cI .i64)))))) (rOne (cB)) (fun a => f34 (a.1) (a.2.1) (a.2.2.1) (a.2.2.2)))] []) 1000 LR 39 (loopAt Tryd.f16 0) (encT x y T16_0) (roundK T16_0 outs16_0 rec) =
 (( Option.bind (f34 (nthI [x 2, x 3, x 4, x 5, x 6, x 7, x 8, x 9, x 10, x 11, x 12, x 13, x 14, x 15, x 16]) (nthI [x 17, x 18, x 19, x 20, x 21, x 22, x 23, x 24, x 25, x 26, x 27, x 28, x 29, x 30, x 31, x 32, x 33, x 34, x 35, x 36, x 37, x 38]) (x 0) (IntKind.i64.wrap (x 11 - x 1))) (fun r3 =>
 cond (!r3) (
 rec (nthI [x 0, IntKind.i64.wrap (x 1 - 1), x 2, x 3, x 4, x 5, x 6, x 7, x 8, x 9, x 10, x 11, x 12, x 13, x 14, x 15, x 16, x 17, x 18, x 19, x 20, x 21, x 22, x 23, x 24, x 25, x 26, x 27, x 28, x 29, x 30, x 31, x 32, x 33, x 34, x 35, x 36, x 37, x 38]) (nthS [])) (
 some ((0, nthI [x 1], nthS []))))) : Option LR) := by kernel_rfl
noncomputable def l16_0 (x : Nat → Int) (y : Nat → Sl) : Option LR := iterL s16_0 ((x 11).toNat + 1) x y
theorem ls16_0 : LoopSpec Tryd.prog gG gl 39 ⟨T16_0, outs16_0, l16_0⟩ (loopAt Tryd.f16 0) := loop_ok (step := s16_0) (fu := fun x y => (x 11).toNat + 1) okl16 1000 (lpNone rfl) (by kernel_rfl) (by kernel_rfl) (fun rec x y => se16_0 f34 rec x y) (fun _ _ => rfl)
theorem ok16 : CtxOK Tryd.prog (cx [] [(14, conF (aCons (pC (cA .i64 15)) (aCons (pC (cA .i64 22)) (aOne (pC (cI .i64))))) (rTup (cCons (cB) (cOne (cI .i64)))) (fun a => f14 (a.1) (a.2.1) (a.2.2))), (34, conF (aCons (pC (cA .i64 15)) (aCons (pC (cA .i64 22)) (aCons (pC (cI .i64)) (aOne (pC (cI .i64)))))) (rOne (cB)) (fun a => f34 (a.1) (a.2.1) (a.2.2.1) (a.2.2.2)))] [(39009, ⟨T16_0, outs16_0, l16_0⟩)]) gl := ctx_of tyOk moOk (show SpecL Tryd.prog gG gl [(14, conF (aCons (pC (cA .i64 15)) (aCons (pC (cA .i64 22)) (aOne (pC (cI .i64))))) (rTup (cCons (cB) (cOne (cI .i64)))) (fun a => f14 (a.1) (a.2.1) (a.2.2))), (34, conF (aCons (pC (cA .i64 15)) (aCons (pC (cA .i64 22)) (aCons (pC (cI .i64)) (aOne (pC (cI .i64)))))) (rOne (cB)) (fun a => f34 (a.1) (a.2.1) (a.2.2.1) (a.2.2.2)))] from ⟨sp14, sp34, trivial⟩) (show FnL Tryd.prog [] from trivial) (show FnLp Tryd.prog gG gl [(39009, ⟨T16_0, outs16_0, l16_0⟩)] [] from trivial) joinOk
theorem la16 : LpAll Tryd.prog (cx [] [(14, conF (aCons (pC (cA .i64 15)) (aCons (pC (cA .i64 22)) (aOne (pC (cI .i64))))) (rTup (cCons (cB) (cOne (cI .i64)))) (fun a => f14 (a.1) (a.2.1) (a.2.2))), (34, conF (aCons (pC (cA .i64 15)) (aCons (pC (cA .i64 22)) (aCons (pC (cI .i64)) (aOne (pC (cI .i64)))))) (rOne (cB)) (fun a => f34 (a.1) (a.2.1) (a.2.2.1) (a.2.2.2)))] [(39009, ⟨T16_0, outs16_0, l16_0⟩)]) gl Tryd.f16 := lpAll_of (lps := [(39009, ⟨T16_0, outs16_0, l16_0⟩)]) rfl (ks := [39009]) (by kernel_rfl) (show LpS Tryd.prog gG gl Tryd.f16 [(39009, ⟨T16_0, outs16_0, l16_0⟩)] [39009] 0 from ⟨fun L h => (by cases h; exact ls16_0), trivial⟩)
noncomputable def f16 (a : Nat → Int) (b : Nat → Int) (c : Int) : Option (Int × Int) :=
 Option.bind (f14 a b c) (fun r3 =>
 cond (!decide (r3.snd = 0)) (
 some ((0, r3.snd))) (
 cond (decide (c = 0)) (
 some ((0, 28))) (
 cond (!r3.fst) (
 some ((0, 27))) (
 Option.bind (l16_0 (nthI [c, a 9, a 0, a 1, a 2, a 3, a 4, a 5, a 6, a 7, a 8, a 9, a 10, a 11, a 12, a 13, a 14, b 0, b 1, b 2, b 3, b 4, b 5, b 6, b 7, b 8, b 9, b 10, b 11, b 12, b 13, b 14, b 15, b 16, b 17, b 18, b 19, b 20, b 21]) (nthS [])) (fun r4 =>
 some ((r4.snd.fst 0, 0)))))))
theorem evg16 (f14 : (Nat → Int) → (Nat → Int) → (Int) → Option (Bool × Int)) (l16_0 : (Nat → Int) → (Nat → Sl) → Option LR) (xx : (aCons (pC (cA .i64 15)) (aCons (pC (cA .i64 22)) (aOne (pC (cI .i64))))).T) : evF (R := (rTup (cCons (cI .i64) (cOne (cI .i64)))).T) (cx [] [(14, conF (aCons (pC (cA .i64 15)) (aCons (pC (cA .i64 22)) (aOne (pC (cI .i64))))) (rTup (cCons (cB) (cOne (cI .i64)))) (fun a => f14 (a.1) (a.2.1) (a.2.2))), (34, conF (aCons (pC (cA .i64 15)) (aCons (pC (cA .i64 22)) (aCons (pC (cI .i64)) (aOne (pC (cI .i64)))))) (rOne (cB)) (fun a => f34 (a.1) (a.2.1) (a.2.2.1) (a.2.2.2)))] [(39009, ⟨T16_0, outs16_0, l16_0⟩)]) 1000 Tryd.f16 ((aCons (pC (cA .i64 15)) (aCons (pC (cA .i64 22)) (aOne (pC (cI .i64))))).enc gG xx) (glMem gl) 2 (rTup (cCons (cI .i64) (cOne (cI .i64)))).dec =
 (fun (a : Nat → Int) (b : Nat → Int) (c : Int) =>
 (( Option.bind (f14 (nthI [a 0, a 1, a 2, a 3, a 4, a 5, a 6, a 7, a 8, a 9, a 10, a 11, a 12, a 13, a 14]) (nthI [b 0, b 1, b 2, b 3, b 4, b 5, b 6, b 7, b 8, b 9, b 10, b 11, b 12, b 13, b 14, b 15, b 16, b 17, b 18, b 19, b 20, b 21]) c) (fun r3 =>
 cond (!decide (r3.snd = 0)) (
 some ((0, r3.snd))) (
 cond (decide (c = 0)) (
 some ((0, 28))) (
 cond (!r3.fst) (
 some ((0, 27))) (
 Option.bind (l16_0 (nthI [c, a 9, a 0, a 1, a 2, a 3, a 4, a 5, a 6, a 7, a 8, a 9, a 10, a 11, a 12, a 13, a 14, b 0, b 1, b 2, b 3, b 4, b 5, b 6, b 7, b 8, b 9, b 10, b 11, b 12, b 13, b 14, b 15, b 16, b 17, b 18, b 19, b 20, b 21]) (nthS [])) (fun r4 =>
 some ((r4.snd.fst 0, 0)))))))) : Option (Int × Int))) xx.1 xx.2.1 xx.2.2 := by kernel_rfl
noncomputable def g16 (a : Nat → Int) (b : Nat → Int) (c : Int) : Option (Int × Int) :=
 Option.bind (f14 (nthI [a 0, a 1, a 2, a 3, a 4, a 5, a 6, a 7, a 8, a 9, a 10, a 11, a 12, a 13, a 14]) (nthI [b 0, b 1, b 2, b 3, b 4, b 5, b 6, b 7, b 8, b 9, b 10, b 11, b 12, b 13, b 14, b 15, b 16, b 17, b 18, b 19, b 20, b 21]) c) (fun r3 =>
 cond (!decide (r3.snd = 0)) (
 some ((0, r3.snd))) (
 cond (decide (c = 0)) (
 some ((0, 28))) (
 cond (!r3.fst) (
 some ((0, 27))) (
 Option.bind (l16_0 (nthI [c, a 9, a 0, a 1, a 2, a 3, a 4, a 5, a 6, a 7, a 8, a 9, a 10, a 11, a 12, a 13, a 14, b 0, b 1, b 2, b 3, b 4, b 5, b 6, b 7, b 8, b 9, b 10, b 11, b 12, b 13, b 14, b 15, b 16, b 17, b 18, b 19, b 20, b 21]) (nthS [])) (fun r4 =>
 some ((r4.snd.fst 0, 0)))))))
theorem fg16 (a : Nat → Int) (b : Nat → Int) (c : Int) : g16 a b c = f16 a b c := by kernel_rfl
theorem ev16 (a : (aCons (pC (cA .i64 15)) (aCons (pC (cA .i64 22)) (aOne (pC (cI .i64))))).T) : evF (R := (rTup (cCons (cI .i64) (cOne (cI .i64)))).T) (cx [] [(14, conF (aCons (pC (cA .i64 15)) (aCons (pC (cA .i64 22)) (aOne (pC (cI .i64))))) (rTup (cCons (cB) (cOne (cI .i64)))) (fun a => f14 (a.1) (a.2.1) (a.2.2))), (34, conF (aCons (pC (cA .i64 15)) (aCons (pC (cA .i64 22)) (aCons (pC (cI .i64)) (aOne (pC (cI .i64)))))) (rOne (cB)) (fun a => f34 (a.1) (a.2.1) (a.2.2.1) (a.2.2.2)))] [(39009, ⟨T16_0, outs16_0, l16_0⟩)]) 1000 Tryd.f16 ((aCons (pC (cA .i64 15)) (aCons (pC (cA .i64 22)) (aOne (pC (cI .i64))))).enc gG a) (glMem gl) 2 (rTup (cCons (cI .i64) (cOne (cI .i64)))).dec = f16 a.1 a.2.1 a.2.2 := (show evF (R := (rTup (cCons (cI .i64) (cOne (cI .i64)))).T) (cx [] [(14, conF (aCons (pC (cA .i64 15)) (aCons (pC (cA .i64 22)) (aOne (pC (cI .i64))))) (rTup (cCons (cB) (cOne (cI .i64)))) (fun a => f14 (a.1) (a.2.1) (a.2.2))), (34, conF (aCons (pC (cA .i64 15)) (aCons (pC (cA .i64 22)) (aCons (pC (cI .i64)) (aOne (pC (cI .i64)))))) (rOne (cB)) (fun a => f34 (a.1) (a.2.1) (a.2.2.1) (a.2.2.2)))] [(39009, ⟨T16_0, outs16_0, l16_0⟩)]) 1000 Tryd.f16 ((aCons (pC (cA .i64 15)) (aCons (pC (cA .i64 22)) (aOne (pC (cI .i64))))).enc gG a) (glMem gl) 2 (rTup (cCons (cI .i64) (cOne (cI .i64)))).dec = g16 a.1 a.2.1 a.2.2 from evg16 f14 l16_0 a).trans (fg16 a.1 a.2.1 a.2.2)
theorem sp16 : VE.Spec Tryd.prog gG gl 16 (conF (aCons (pC (cA .i64 15)) (aCons (pC (cA .i64 22)) (aOne (pC (cI .i64))))) (rTup (cCons (cI .i64) (cOne (cI .i64)))) (fun a => f16 a.1 a.2.1 a.2.2)) := spec_of ok16 Tryd.func16 Tryd.call16 la16 1000 (aCons_ok (pC_ok (cA_ok _ _)) (aCons_ok (pC_ok (cA_ok _ _)) (aOne_ok (pC_ok (cI_ok _))))) (rTup_ok (cCons_ok (cI_ok _) (cOne_ok (cI_ok _)))) ev16

/-- dancestudiolaw21.BalanceStable -/
theorem ok4 : CtxOK Tryd.prog (cx [] [(12, conF (aNil) (rOne (cB)) (fun a => f12)), (13, conF (aCons (pC (cA .i64 15)) (aCons (pC (cA .i64 22)) (aOne (pC (cI .i64))))) (rTup (cCons (cB) (cOne (cI .i64)))) (fun a => f13 (a.1) (a.2.1) (a.2.2))), (14, conF (aCons (pC (cA .i64 15)) (aCons (pC (cA .i64 22)) (aOne (pC (cI .i64))))) (rTup (cCons (cB) (cOne (cI .i64)))) (fun a => f14 (a.1) (a.2.1) (a.2.2))), (15, conF (aCons (pC (cA .i64 15)) (aCons (pC (cA .i64 22)) (aOne (pC (cI .i64))))) (rTup (cCons (cI .i64) (cOne (cI .i64)))) (fun a => f15 (a.1) (a.2.1) (a.2.2))), (16, conF (aCons (pC (cA .i64 15)) (aCons (pC (cA .i64 22)) (aOne (pC (cI .i64))))) (rTup (cCons (cI .i64) (cOne (cI .i64)))) (fun a => f16 (a.1) (a.2.1) (a.2.2)))] []) gl := ctx_of tyOk moOk (show SpecL Tryd.prog gG gl [(12, conF (aNil) (rOne (cB)) (fun a => f12)), (13, conF (aCons (pC (cA .i64 15)) (aCons (pC (cA .i64 22)) (aOne (pC (cI .i64))))) (rTup (cCons (cB) (cOne (cI .i64)))) (fun a => f13 (a.1) (a.2.1) (a.2.2))), (14, conF (aCons (pC (cA .i64 15)) (aCons (pC (cA .i64 22)) (aOne (pC (cI .i64))))) (rTup (cCons (cB) (cOne (cI .i64)))) (fun a => f14 (a.1) (a.2.1) (a.2.2))), (15, conF (aCons (pC (cA .i64 15)) (aCons (pC (cA .i64 22)) (aOne (pC (cI .i64))))) (rTup (cCons (cI .i64) (cOne (cI .i64)))) (fun a => f15 (a.1) (a.2.1) (a.2.2))), (16, conF (aCons (pC (cA .i64 15)) (aCons (pC (cA .i64 22)) (aOne (pC (cI .i64))))) (rTup (cCons (cI .i64) (cOne (cI .i64)))) (fun a => f16 (a.1) (a.2.1) (a.2.2)))] from ⟨sp12, sp13, sp14, sp15, sp16, trivial⟩) (show FnL Tryd.prog [] from trivial) (fnLp_nil _) joinOk
noncomputable def f4 (a : Nat → Int) (b : Nat → Int) (c : Int) : Option (Bool) :=
 Option.bind (f13 a b c) (fun r3 =>
 Option.bind (f14 a b c) (fun r4 =>
 Option.bind (f15 a b c) (fun r5 =>
 Option.bind (f16 a b c) (fun r6 =>
 cond (r3.fst == r4.fst) (
 cond (decide (r3.snd = r4.snd)) (
 cond (decide (r5.fst = r6.fst)) (
 cond (decide (r5.snd = r6.snd)) (
 Option.bind (f12) (fun r7 =>
 some (r7))) (
 some (false))) (
 some (false))) (
 some (false))) (
 some (false))))))
theorem evg4 (f12 : Option (Bool)) (f13 : (Nat → Int) → (Nat → Int) → (Int) → Option (Bool × Int)) (f14 : (Nat → Int) → (Nat → Int) → (Int) → Option (Bool × Int)) (f15 : (Nat → Int) → (Nat → Int) → (Int) → Option (Int × Int)) (f16 : (Nat → Int) → (Nat → Int) → (Int) → Option (Int × Int))  (xx : (aCons (pC (cA .i64 15)) (aCons (pC (cA .i64 22)) (aOne (pC (cI .i64))))).T) : evF (R := (rOne (cB)).T) (cx [] [(12, conF (aNil) (rOne (cB)) (fun a => f12)), (13, conF (aCons (pC (cA .i64 15)) (aCons (pC (cA .i64 22)) (aOne (pC (cI .i64))))) (rTup (cCons (cB) (cOne (cI .i64)))) (fun a => f13 (a.1) (a.2.1) (a.2.2))), (14, conF (aCons (pC (cA .i64 15)) (aCons (pC (cA .i64 22)) (aOne (pC (cI .i64))))) (rTup (cCons (cB) (cOne (cI .i64)))) (fun a => f14 (a.1) (a.2.1) (a.2.2))), (15, conF (aCons (pC (cA .i64 15)) (aCons (pC (cA .i64 22)) (aOne (pC (cI .i64))))) (rTup (cCons (cI .i64) (cOne (cI .i64)))) (fun a => f15 (a.1) (a.2.1) (a.2.2))), (16, conF (aCons (pC (cA .i64 15)) (aCons (pC (cA .i64 22)) (aOne (pC (cI .i64))))) (rTup (cCons (cI .i64) (cOne (cI .i64)))) (fun a => f16 (a.1) (a.2.1) (a.2.2)))] []) 1000 Tryd.f4 ((aCons (pC (cA .i64 15)) (aCons (pC (cA .i64 22)) (aOne (pC (cI .i64))))).enc gG xx) (glMem gl) 2 (rOne (cB)).dec =
 (fun (a : Nat → Int) (b : Nat → Int) (c : Int) =>
 (( Option.bind (f13 (nthI [a 0, a 1, a 2, a 3, a 4, a 5, a 6, a 7, a 8, a 9, a 10, a 11, a 12, a 13, a 14]) (nthI [b 0, b 1, b 2, b 3, b 4, b 5, b 6, b 7, b 8, b 9, b 10, b 11, b 12, b 13, b 14, b 15, b 16, b 17, b 18, b 19, b 20, b 21]) c) (fun r3 =>
 Option.bind (f14 (nthI [a 0, a 1, a 2, a 3, a 4, a 5, a 6, a 7, a 8, a 9, a 10, a 11, a 12, a 13, a 14]) (nthI [b 0, b 1, b 2, b 3, b 4, b 5, b 6, b 7, b 8, b 9, b 10, b 11, b 12, b 13, b 14, b 15, b 16, b 17, b 18, b 19, b 20, b 21]) c) (fun r4 =>
 Option.bind (f15 (nthI [a 0, a 1, a 2, a 3, a 4, a 5, a 6, a 7, a 8, a 9, a 10, a 11, a 12, a 13, a 14]) (nthI [b 0, b 1, b 2, b 3, b 4, b 5, b 6, b 7, b 8, b 9, b 10, b 11, b 12, b 13, b 14, b 15, b 16, b 17, b 18, b 19, b 20, b 21]) c) (fun r5 =>
 Option.bind (f16 (nthI [a 0, a 1, a 2, a 3, a 4, a 5, a 6, a 7, a 8, a 9, a 10, a 11, a 12, a 13, a 14]) (nthI [b 0, b 1, b 2, b 3, b 4, b 5, b 6, b 7, b 8, b 9, b 10, b 11, b 12, b 13, b 14, b 15, b 16, b 17, b 18, b 19, b 20, b 21]) c) (fun r6 =>
 cond (r3.fst == r4.fst) (
 cond (decide (r3.snd = r4.snd)) (
 cond (decide (r5.fst = r6.fst)) (
 cond (decide (r5.snd = r6.snd)) (
 Option.bind (f12) (fun r7 =>
 some (r7))) (
 some (false))) (
 some (false))) (
 some (false))) (
 some (false))))))) : Option (Bool))) xx.1 xx.2.1 xx.2.2 := by kernel_rfl
noncomputable def g4 (a : Nat → Int) (b : Nat → Int) (c : Int) : Option (Bool) :=
 Option.bind (f13 (nthI [a 0, a 1, a 2, a 3, a 4, a 5, a 6, a 7, a 8, a 9, a 10, a 11, a 12, a 13, a 14]) (nthI [b 0, b 1, b 2, b 3, b 4, b 5, b 6, b 7, b 8, b 9, b 10, b 11, b 12, b 13, b 14, b 15, b 16, b 17, b 18, b 19, b 20, b 21]) c) (fun r3 =>
 Option.bind (f14 (nthI [a 0, a 1, a 2, a 3, a 4, a 5, a 6, a 7, a 8, a 9, a 10, a 11, a 12, a 13, a 14]) (nthI [b 0, b 1, b 2, b 3, b 4, b 5, b 6, b 7, b 8, b 9, b 10, b 11, b 12, b 13, b 14, b 15, b 16, b 17, b 18, b 19, b 20, b 21]) c) (fun r4 =>
 Option.bind (f15 (nthI [a 0, a 1, a 2, a 3, a 4, a 5, a 6, a 7, a 8, a 9, a 10, a 11, a 12, a 13, a 14]) (nthI [b 0, b 1, b 2, b 3, b 4, b 5, b 6, b 7, b 8, b 9, b 10, b 11, b 12, b 13, b 14, b 15, b 16, b 17, b 18, b 19, b 20, b 21]) c) (fun r5 =>
 Option.bind (f16 (nthI [a 0, a 1, a 2, a 3, a 4, a 5, a 6, a 7, a 8, a 9, a 10, a 11, a 12, a 13, a 14]) (nthI [b 0, b 1, b 2, b 3, b 4, b 5, b 6, b 7, b 8, b 9, b 10, b 11, b 12, b 13, b 14, b 15, b 16, b 17, b 18, b 19, b 20, b 21]) c) (fun r6 =>
 cond (r3.fst == r4.fst) (
 cond (decide (r3.snd = r4.snd)) (
 cond (decide (r5.fst = r6.fst)) (
 cond (decide (r5.snd = r6.snd)) (
 Option.bind (f12) (fun r7 =>
 some (r7))) (
 some (false))) (
 some (false))) (
 some (false))) (
 some (false))))))
theorem fg4 (a : Nat → Int) (b : Nat → Int) (c : Int) : g4 a b c = f4 a b c := by kernel_rfl
theorem ev4 (a : (aCons (pC (cA .i64 15)) (aCons (pC (cA .i64 22)) (aOne (pC (cI .i64))))).T) : evF (R := (rOne (cB)).T) (cx [] [(12, conF (aNil) (rOne (cB)) (fun a => f12)), (13, conF (aCons (pC (cA .i64 15)) (aCons (pC (cA .i64 22)) (aOne (pC (cI .i64))))) (rTup (cCons (cB) (cOne (cI .i64)))) (fun a => f13 (a.1) (a.2.1) (a.2.2))), (14, conF (aCons (pC (cA .i64 15)) (aCons (pC (cA .i64 22)) (aOne (pC (cI .i64))))) (rTup (cCons (cB) (cOne (cI .i64)))) (fun a => f14 (a.1) (a.2.1) (a.2.2))), (15, conF (aCons (pC (cA .i64 15)) (aCons (pC (cA .i64 22)) (aOne (pC (cI .i64))))) (rTup (cCons (cI .i64) (cOne (cI .i64)))) (fun a => f15 (a.1) (a.2.1) (a.2.2))), (16, conF (aCons (pC (cA .i64 15)) (aCons (pC (cA .i64 22)) (aOne (pC (cI .i64))))) (rTup (cCons (cI .i64) (cOne (cI .i64)))) (fun a => f16 (a.1) (a.2.1) (a.2.2)))] []) 1000 Tryd.f4 ((aCons (pC (cA .i64 15)) (aCons (pC (cA .i64 22)) (aOne (pC (cI .i64))))).enc gG a) (glMem gl) 2 (rOne (cB)).dec = f4 a.1 a.2.1 a.2.2 := (show evF (R := (rOne (cB)).T) (cx [] [(12, conF (aNil) (rOne (cB)) (fun a => f12)), (13, conF (aCons (pC (cA .i64 15)) (aCons (pC (cA .i64 22)) (aOne (pC (cI .i64))))) (rTup (cCons (cB) (cOne (cI .i64)))) (fun a => f13 (a.1) (a.2.1) (a.2.2))), (14, conF (aCons (pC (cA .i64 15)) (aCons (pC (cA .i64 22)) (aOne (pC (cI .i64))))) (rTup (cCons (cB) (cOne (cI .i64)))) (fun a => f14 (a.1) (a.2.1) (a.2.2))), (15, conF (aCons (pC (cA .i64 15)) (aCons (pC (cA .i64 22)) (aOne (pC (cI .i64))))) (rTup (cCons (cI .i64) (cOne (cI .i64)))) (fun a => f15 (a.1) (a.2.1) (a.2.2))), (16, conF (aCons (pC (cA .i64 15)) (aCons (pC (cA .i64 22)) (aOne (pC (cI .i64))))) (rTup (cCons (cI .i64) (cOne (cI .i64)))) (fun a => f16 (a.1) (a.2.1) (a.2.2)))] []) 1000 Tryd.f4 ((aCons (pC (cA .i64 15)) (aCons (pC (cA .i64 22)) (aOne (pC (cI .i64))))).enc gG a) (glMem gl) 2 (rOne (cB)).dec = g4 a.1 a.2.1 a.2.2 from evg4 f12 f13 f14 f15 f16  a).trans (fg4 a.1 a.2.1 a.2.2)
theorem sp4 : VE.Spec Tryd.prog gG gl 4 (conF (aCons (pC (cA .i64 15)) (aCons (pC (cA .i64 22)) (aOne (pC (cI .i64))))) (rOne (cB)) (fun a => f4 a.1 a.2.1 a.2.2)) := spec_of ok4 Tryd.func4 Tryd.call4 (lpAll_nil rfl) 1000 (aCons_ok (pC_ok (cA_ok _ _)) (aCons_ok (pC_ok (cA_ok _ _)) (aOne_ok (pC_ok (cI_ok _))))) (rOne_ok (cB_ok)) ev4

/-- dancestudioref21.First -/
theorem okl18 : CtxOK Tryd.prog (cx [] [(14, conF (aCons (pC (cA .i64 15)) (aCons (pC (cA .i64 22)) (aOne (pC (cI .i64))))) (rTup (cCons (cB) (cOne (cI .i64)))) (fun a => f14 (a.1) (a.2.1) (a.2.2)))] []) gl := ctx_of tyOk moOk (show SpecL Tryd.prog gG gl [(14, conF (aCons (pC (cA .i64 15)) (aCons (pC (cA .i64 22)) (aOne (pC (cI .i64))))) (rTup (cCons (cB) (cOne (cI .i64)))) (fun a => f14 (a.1) (a.2.1) (a.2.2)))] from ⟨sp14, trivial⟩) (show FnL Tryd.prog [] from trivial) (fnLp_nil _) joinOk
def T18_0 : ST := ⟨[(2, .s (.ptr 4 0)), (3, .s (.ptr 5 0)), (6, .s (.i .i64)), (7, .s (.i .i64))], [(4, .own [.i .i64, .i .i64, .i .i64, .i .i64, .i .i64, .i .i64, .i .i64, .i .i64, .i .i64, .i .i64, .i .i64, .i .i64, .i .i64, .i .i64, .i .i64] 24), (5, .own [.xs 2 [some .i64, some .i64, some .i64, some .i64, some .i64, some .i64, some .i64, some .i64, some .i64, some .i64, some .i64, some .i64, some .i64, some .i64, some .i64, some .i64, some .i64, some .i64, some .i64, some .i64, some .i64, some .i64], .xs 3 [some .i64]] 44)], 24⟩
def outs18_0 : List (AExit × ST) := [(.exit 0, ⟨[(6, .s (.i .i64))], [], 29⟩), (.ret, ⟨[(4, .s (.i .i64)), (5, .s (.i .i64))], [], 56⟩)]
noncomputable def s18_0 (rec : (Nat → Int) → (Nat → Sl) → Option LR) (x : Nat → Int) (y : Nat → Sl) : Option LR :=
 cond (decide (x 1 < Int.ofNat (y 0).fst)) (
 cond (decide (0 ≤ x 1)) (
 cond (decide (x 1 < Int.ofNat (y 0).fst)) (
 cond (decide (0 ≤ minI (x 1) (IntKind.i64.wrap (Int.ofNat (y 1).fst - 1)))) (
 cond (decide (minI (x 1) (IntKind.i64.wrap (Int.ofNat (y 1).fst - 1)) < Int.ofNat (y 1).fst)) (
 Option.bind (f14 (nthI [x 2, x 3, x 4, x 5, x 6, x 7, x 8, x 9, x 10, x 11, x 12, x 13, x 14, x 15, x 16]) (nthI [(y 0).snd (x 1).toNat 0, (y 0).snd (x 1).toNat 1, (y 0).snd (x 1).toNat 2, (y 0).snd (x 1).toNat 3, (y 0).snd (x 1).toNat 4, (y 0).snd (x 1).toNat 5, (y 0).snd (x 1).toNat 6, (y 0).snd (x 1).toNat 7, (y 0).snd (x 1).toNat 8, (y 0).snd (x 1).toNat 9, (y 0).snd (x 1).toNat 10, (y 0).snd (x 1).toNat 11, (y 0).snd (x 1).toNat 12, (y 0).snd (x 1).toNat 13, (y 0).snd (x 1).toNat 14, (y 0).snd (x 1).toNat 15, (y 0).snd (x 1).toNat 16, (y 0).snd (x 1).toNat 17, (y 0).snd (x 1).toNat 18, (y 0).snd (x 1).toNat 19, (y 0).snd (x 1).toNat 20, (y 0).snd (x 1).toNat 21]) ((y 1).snd (minI (x 1) (IntKind.i64.wrap (Int.ofNat (y 1).fst - 1))).toNat 0)) (fun r3 =>
 cond (!decide (r3.snd = 0)) (
 some ((1, nthI [0, r3.snd], nthS []))) (
 cond (!r3.fst) (
 cond (decide (x 0 < 0)) (
 rec (nthI [x 1, IntKind.i64.wrap (x 1 + 1), x 2, x 3, x 4, x 5, x 6, x 7, x 8, x 9, x 10, x 11, x 12, x 13, x 14, x 15, x 16]) (nthS [y 0, y 1])) (
 rec (nthI [x 0, IntKind.i64.wrap (x 1 + 1), x 2, x 3, x 4, x 5, x 6, x 7, x 8, x 9, x 10, x 11, x 12, x 13, x 14, x 15, x 16]) (nthS [y 0, y 1]))) (
 rec (nthI [x 0, IntKind.i64.wrap (x 1 + 1), x 2, x 3, x 4, x 5, x 6, x 7, x 8, x 9, x 10, x 11, x 12, x 13, x 14, x 15, x 16]) (nthS [y 0, y 1]))))) none) none) none) none) (
 some ((0, nthI [x 0], nthS [])))
theorem se18_0 (f14 : (Nat → Int) → (Nat → Int) → (Int) → Option (Bool × Int)) (rec : (Nat → Int) → (Nat → Sl) → Option LR) (x : Nat → Int) (y : Nat → Sl) : evR (cx [] [(14, conF (aCons (pC (cA .i64 15)) (aCons (pC (cA .i64 22)) (aOne (pC (cI .i64))))) (rTup (cCons (cB) (cOne (cI .i64)))) (fun a => f14 (a.1) (a.2.1) (a.2.2)))] []) 1000 LR 62 (loopAt Tryd.f18 0) (encT x y T18_0) (roundK T18_0 outs18_0 rec) =
 (( cond (decide (x 1 < Int.ofNat (y 0).fst)) (
 cond (decide (0 ≤ x 1)) (
 cond (decide (x 1 < Int.ofNat (y 0).fst)) (
 cond (decide (0 ≤ minI (x 1) (IntKind.i64.wrap (Int.ofNat (y 1).fst - 1)))) (
 cond (decide (minI (x 1) (IntKind.i64.wrap (Int.ofNat (y 1).fst - 1)) < Int.ofNat (y 1).fst)) (
 Option.bind (f14 (nthI [x 2, x 3, x 4, x 5, x 6, x 7, x 8, x 9, x 10, x 11, x 12, x 13, x 14, x 15, x 16]) (nthI [(y 0).snd (x 1).toNat 0, (y 0).snd (x 1).toNat 1, (y 0).snd (x 1).toNat 2, (y 0).snd (x 1).toNat 3, (y 0).snd (x 1).toNat 4, (y 0).snd (x 1).toNat 5, (y 0).snd (x 1).toNat 6, (y 0).snd (x 1).toNat 7, (y 0).snd (x 1).toNat 8, (y 0).snd (x 1).toNat 9, (y 0).snd (x 1).toNat 10, (y 0).snd (x 1).toNat 11, (y 0).snd (x 1).toNat 12, (y 0).snd (x 1).toNat 13, (y 0).snd (x 1).toNat 14, (y 0).snd (x 1).toNat 15, (y 0).snd (x 1).toNat 16, (y 0).snd (x 1).toNat 17, (y 0).snd (x 1).toNat 18, (y 0).snd (x 1).toNat 19, (y 0).snd (x 1).toNat 20, (y 0).snd (x 1).toNat 21]) ((y 1).snd (minI (x 1) (IntKind.i64.wrap (Int.ofNat (y 1).fst - 1))).toNat 0)) (fun r3 =>
 cond (!decide (r3.snd = 0)) (
 some ((1, nthI [0, r3.snd], nthS []))) (
 cond (!r3.fst) (
 cond (decide (x 0 < 0)) (
 rec (nthI [x 1, IntKind.i64.wrap (x 1 + 1), x 2, x 3, x 4, x 5, x 6, x 7, x 8, x 9, x 10, x 11, x 12, x 13, x 14, x 15, x 16]) (nthS [y 0, y 1])) (
 rec (nthI [x 0, IntKind.i64.wrap (x 1 + 1), x 2, x 3, x 4, x 5, x 6, x 7, x 8, x 9, x 10, x 11, x 12, x 13, x 14, x 15, x 16]) (nthS [y 0, y 1]))) (
 rec (nthI [x 0, IntKind.i64.wrap (x 1 + 1), x 2, x 3, x 4, x 5, x 6, x 7, x 8, x 9, x 10, x 11, x 12, x 13, x 14, x 15, x 16]) (nthS [y 0, y 1]))))) none) none) none) none) (
 some ((0, nthI [x 0], nthS [])))) : Option LR) := by kernel_rfl
noncomputable def l18_0 (x : Nat → Int) (y : Nat → Sl) : Option LR := iterL s18_0 ((y 0).1 + 1) x y
theorem ls18_0 : LoopSpec Tryd.prog gG gl 62 ⟨T18_0, outs18_0, l18_0⟩ (loopAt Tryd.f18 0) := loop_ok (step := s18_0) (fu := fun x y => (y 0).1 + 1) okl18 1000 (lpNone rfl) (by kernel_rfl) (by kernel_rfl) (fun rec x y => se18_0 f14 rec x y) (fun _ _ => rfl)
theorem ok18 : CtxOK Tryd.prog (cx [] [(14, conF (aCons (pC (cA .i64 15)) (aCons (pC (cA .i64 22)) (aOne (pC (cI .i64))))) (rTup (cCons (cB) (cOne (cI .i64)))) (fun a => f14 (a.1) (a.2.1) (a.2.2)))] [(62005, ⟨T18_0, outs18_0, l18_0⟩)]) gl := ctx_of tyOk moOk (show SpecL Tryd.prog gG gl [(14, conF (aCons (pC (cA .i64 15)) (aCons (pC (cA .i64 22)) (aOne (pC (cI .i64))))) (rTup (cCons (cB) (cOne (cI .i64)))) (fun a => f14 (a.1) (a.2.1) (a.2.2)))] from ⟨sp14, trivial⟩) (show FnL Tryd.prog [] from trivial) (show FnLp Tryd.prog gG gl [(62005, ⟨T18_0, outs18_0, l18_0⟩)] [] from trivial) joinOk
theorem la18 : LpAll Tryd.prog (cx [] [(14, conF (aCons (pC (cA .i64 15)) (aCons (pC (cA .i64 22)) (aOne (pC (cI .i64))))) (rTup (cCons (cB) (cOne (cI .i64)))) (fun a => f14 (a.1) (a.2.1) (a.2.2)))] [(62005, ⟨T18_0, outs18_0, l18_0⟩)]) gl Tryd.f18 := lpAll_of (lps := [(62005, ⟨T18_0, outs18_0, l18_0⟩)]) rfl (ks := [62005]) (by kernel_rfl) (show LpS Tryd.prog gG gl Tryd.f18 [(62005, ⟨T18_0, outs18_0, l18_0⟩)] [62005] 0 from ⟨fun L h => (by cases h; exact ls18_0), trivial⟩)
noncomputable def f18 (a : Nat → Int) (b : Sl × Sl) : Option (Int × Int) :=
 cond (decide (Int.ofNat b.snd.fst < 1)) (
 some ((0, 2))) (
 cond (!decide (Int.ofNat b.fst.fst = IntKind.i64.wrap (Int.ofNat b.snd.fst + 1))) (
 some ((0, 2))) (
 Option.bind (l18_0 (nthI [-1, 0, a 0, a 1, a 2, a 3, a 4, a 5, a 6, a 7, a 8, a 9, a 10, a 11, a 12, a 13, a 14]) (nthS [b.fst, b.snd])) (fun r2 =>
 cond (decide (r2.fst = 0)) (
 some ((r2.snd.fst 0, 0))) (
 some ((r2.snd.fst 0, r2.snd.fst 1))))))
theorem evg18  (l18_0 : (Nat → Int) → (Nat → Sl) → Option LR) (xx : (aCons (pC (cA .i64 15)) (aOne (pSS kx31 kx3))).T) : evF (R := (rTup (cCons (cI .i64) (cOne (cI .i64)))).T) (cx [] [(14, conF (aCons (pC (cA .i64 15)) (aCons (pC (cA .i64 22)) (aOne (pC (cI .i64))))) (rTup (cCons (cB) (cOne (cI .i64)))) (fun a => f14 (a.1) (a.2.1) (a.2.2)))] [(62005, ⟨T18_0, outs18_0, l18_0⟩)]) 1000 Tryd.f18 ((aCons (pC (cA .i64 15)) (aOne (pSS kx31 kx3))).enc gG xx) (glMem gl) 4 (rTup (cCons (cI .i64) (cOne (cI .i64)))).dec =
 (fun (a : Nat → Int) (b : Sl × Sl) =>
 (( cond (decide (Int.ofNat b.snd.fst < 1)) (
 some ((0, 2))) (
 cond (!decide (Int.ofNat b.fst.fst = IntKind.i64.wrap (Int.ofNat b.snd.fst + 1))) (
 some ((0, 2))) (
 Option.bind (l18_0 (nthI [-1, 0, a 0, a 1, a 2, a 3, a 4, a 5, a 6, a 7, a 8, a 9, a 10, a 11, a 12, a 13, a 14]) (nthS [b.fst, b.snd])) (fun r2 =>
 cond (decide (r2.fst = 0)) (
 some ((r2.snd.fst 0, 0))) (
 some ((r2.snd.fst 0, r2.snd.fst 1))))))) : Option (Int × Int))) xx.1 xx.2 := by kernel_rfl
theorem ev18 (a : (aCons (pC (cA .i64 15)) (aOne (pSS kx31 kx3))).T) : evF (R := (rTup (cCons (cI .i64) (cOne (cI .i64)))).T) (cx [] [(14, conF (aCons (pC (cA .i64 15)) (aCons (pC (cA .i64 22)) (aOne (pC (cI .i64))))) (rTup (cCons (cB) (cOne (cI .i64)))) (fun a => f14 (a.1) (a.2.1) (a.2.2)))] [(62005, ⟨T18_0, outs18_0, l18_0⟩)]) 1000 Tryd.f18 ((aCons (pC (cA .i64 15)) (aOne (pSS kx31 kx3))).enc gG a) (glMem gl) 4 (rTup (cCons (cI .i64) (cOne (cI .i64)))).dec = f18 a.1 a.2 := evg18  l18_0 a
theorem sp18 : VE.Spec Tryd.prog gG gl 18 (conF (aCons (pC (cA .i64 15)) (aOne (pSS kx31 kx3))) (rTup (cCons (cI .i64) (cOne (cI .i64)))) (fun a => f18 a.1 a.2)) := spec_of ok18 Tryd.func18 Tryd.call18 la18 1000 (aCons_ok (pC_ok (cA_ok _ _)) (aOne_ok (pSS_ok _ _))) (rTup_ok (cCons_ok (cI_ok _) (cOne_ok (cI_ok _)))) ev18

/-- dancestudiolaw21.BalanceFirst -/
theorem ok5 : CtxOK Tryd.prog (cx [] [(12, conF (aNil) (rOne (cB)) (fun a => f12)), (17, conF (aCons (pC (cA .i64 15)) (aOne (pSS kx31 kx3))) (rTup (cCons (cI .i64) (cOne (cI .i64)))) (fun a => f17 (a.1) (a.2))), (18, conF (aCons (pC (cA .i64 15)) (aOne (pSS kx31 kx3))) (rTup (cCons (cI .i64) (cOne (cI .i64)))) (fun a => f18 (a.1) (a.2)))] []) gl := ctx_of tyOk moOk (show SpecL Tryd.prog gG gl [(12, conF (aNil) (rOne (cB)) (fun a => f12)), (17, conF (aCons (pC (cA .i64 15)) (aOne (pSS kx31 kx3))) (rTup (cCons (cI .i64) (cOne (cI .i64)))) (fun a => f17 (a.1) (a.2))), (18, conF (aCons (pC (cA .i64 15)) (aOne (pSS kx31 kx3))) (rTup (cCons (cI .i64) (cOne (cI .i64)))) (fun a => f18 (a.1) (a.2)))] from ⟨sp12, sp17, sp18, trivial⟩) (show FnL Tryd.prog [] from trivial) (fnLp_nil _) joinOk
noncomputable def f5 (a : Nat → Int) (b : Sl × Sl) : Option (Bool) :=
 cond (decide (20 < Int.ofNat b.fst.fst)) (
 Option.bind (f12) (fun r2 =>
 some (r2))) (
 cond (decide (20 < Int.ofNat b.snd.fst)) (
 Option.bind (f12) (fun r2 =>
 some (r2))) (
 Option.bind (f17 a b) (fun r2 =>
 Option.bind (f18 a b) (fun r3 =>
 cond (decide (r2.fst = r3.fst)) (
 cond (decide (r2.snd = r3.snd)) (
 Option.bind (f12) (fun r4 =>
 some (r4))) (
 some (false))) (
 some (false))))))
theorem evg5 (f12 : Option (Bool)) (f17 : (Nat → Int) → (Sl × Sl) → Option (Int × Int)) (f18 : (Nat → Int) → (Sl × Sl) → Option (Int × Int))  (xx : (aCons (pC (cA .i64 15)) (aOne (pSS kx31 kx3))).T) : evF (R := (rOne (cB)).T) (cx [] [(12, conF (aNil) (rOne (cB)) (fun a => f12)), (17, conF (aCons (pC (cA .i64 15)) (aOne (pSS kx31 kx3))) (rTup (cCons (cI .i64) (cOne (cI .i64)))) (fun a => f17 (a.1) (a.2))), (18, conF (aCons (pC (cA .i64 15)) (aOne (pSS kx31 kx3))) (rTup (cCons (cI .i64) (cOne (cI .i64)))) (fun a => f18 (a.1) (a.2)))] []) 1000 Tryd.f5 ((aCons (pC (cA .i64 15)) (aOne (pSS kx31 kx3))).enc gG xx) (glMem gl) 4 (rOne (cB)).dec =
 (fun (a : Nat → Int) (b : Sl × Sl) =>
 (( cond (decide (20 < Int.ofNat b.fst.fst)) (
 Option.bind (f12) (fun r2 =>
 some (r2))) (
 cond (decide (20 < Int.ofNat b.snd.fst)) (
 Option.bind (f12) (fun r2 =>
 some (r2))) (
 Option.bind (f17 (nthI [a 0, a 1, a 2, a 3, a 4, a 5, a 6, a 7, a 8, a 9, a 10, a 11, a 12, a 13, a 14]) b) (fun r2 =>
 Option.bind (f18 (nthI [a 0, a 1, a 2, a 3, a 4, a 5, a 6, a 7, a 8, a 9, a 10, a 11, a 12, a 13, a 14]) b) (fun r3 =>
 cond (decide (r2.fst = r3.fst)) (
 cond (decide (r2.snd = r3.snd)) (
 Option.bind (f12) (fun r4 =>
 some (r4))) (
 some (false))) (
 some (false))))))) : Option (Bool))) xx.1 xx.2 := by kernel_rfl
noncomputable def g5 (a : Nat → Int) (b : Sl × Sl) : Option (Bool) :=
 cond (decide (20 < Int.ofNat b.fst.fst)) (
 Option.bind (f12) (fun r2 =>
 some (r2))) (
 cond (decide (20 < Int.ofNat b.snd.fst)) (
 Option.bind (f12) (fun r2 =>
 some (r2))) (
 Option.bind (f17 (nthI [a 0, a 1, a 2, a 3, a 4, a 5, a 6, a 7, a 8, a 9, a 10, a 11, a 12, a 13, a 14]) b) (fun r2 =>
 Option.bind (f18 (nthI [a 0, a 1, a 2, a 3, a 4, a 5, a 6, a 7, a 8, a 9, a 10, a 11, a 12, a 13, a 14]) b) (fun r3 =>
 cond (decide (r2.fst = r3.fst)) (
 cond (decide (r2.snd = r3.snd)) (
 Option.bind (f12) (fun r4 =>
 some (r4))) (
 some (false))) (
 some (false))))))
theorem fg5 (a : Nat → Int) (b : Sl × Sl) : g5 a b = f5 a b := by kernel_rfl
theorem ev5 (a : (aCons (pC (cA .i64 15)) (aOne (pSS kx31 kx3))).T) : evF (R := (rOne (cB)).T) (cx [] [(12, conF (aNil) (rOne (cB)) (fun a => f12)), (17, conF (aCons (pC (cA .i64 15)) (aOne (pSS kx31 kx3))) (rTup (cCons (cI .i64) (cOne (cI .i64)))) (fun a => f17 (a.1) (a.2))), (18, conF (aCons (pC (cA .i64 15)) (aOne (pSS kx31 kx3))) (rTup (cCons (cI .i64) (cOne (cI .i64)))) (fun a => f18 (a.1) (a.2)))] []) 1000 Tryd.f5 ((aCons (pC (cA .i64 15)) (aOne (pSS kx31 kx3))).enc gG a) (glMem gl) 4 (rOne (cB)).dec = f5 a.1 a.2 := (show evF (R := (rOne (cB)).T) (cx [] [(12, conF (aNil) (rOne (cB)) (fun a => f12)), (17, conF (aCons (pC (cA .i64 15)) (aOne (pSS kx31 kx3))) (rTup (cCons (cI .i64) (cOne (cI .i64)))) (fun a => f17 (a.1) (a.2))), (18, conF (aCons (pC (cA .i64 15)) (aOne (pSS kx31 kx3))) (rTup (cCons (cI .i64) (cOne (cI .i64)))) (fun a => f18 (a.1) (a.2)))] []) 1000 Tryd.f5 ((aCons (pC (cA .i64 15)) (aOne (pSS kx31 kx3))).enc gG a) (glMem gl) 4 (rOne (cB)).dec = g5 a.1 a.2 from evg5 f12 f17 f18  a).trans (fg5 a.1 a.2)
theorem sp5 : VE.Spec Tryd.prog gG gl 5 (conF (aCons (pC (cA .i64 15)) (aOne (pSS kx31 kx3))) (rOne (cB)) (fun a => f5 a.1 a.2)) := spec_of ok5 Tryd.func5 Tryd.call5 (lpAll_nil rfl) 1000 (aCons_ok (pC_ok (cA_ok _ _)) (aOne_ok (pSS_ok _ _))) (rOne_ok (cB_ok)) ev5

/-- dancestudiolaw21.BalanceMoves -/
theorem ok6 : CtxOK Tryd.prog (cx [] [(10, conF (aCons (pC (cA .i64 15)) (aCons (pC (cA .i64 22)) (aOne (pC (cI .i64))))) (rTup (cCons (cA .i64 2) (cOne (cI .i64)))) (fun a => f10 (a.1) (a.2.1) (a.2.2))), (12, conF (aNil) (rOne (cB)) (fun a => f12)), (13, conF (aCons (pC (cA .i64 15)) (aCons (pC (cA .i64 22)) (aOne (pC (cI .i64))))) (rTup (cCons (cB) (cOne (cI .i64)))) (fun a => f13 (a.1) (a.2.1) (a.2.2))), (15, conF (aCons (pC (cA .i64 15)) (aCons (pC (cA .i64 22)) (aOne (pC (cI .i64))))) (rTup (cCons (cI .i64) (cOne (cI .i64)))) (fun a => f15 (a.1) (a.2.1) (a.2.2))), (19, conF (aOne (pC (cA .i64 22))) (rOne (cI .i64)) (fun a => f19 a))] []) gl := ctx_of tyOk moOk (show SpecL Tryd.prog gG gl [(10, conF (aCons (pC (cA .i64 15)) (aCons (pC (cA .i64 22)) (aOne (pC (cI .i64))))) (rTup (cCons (cA .i64 2) (cOne (cI .i64)))) (fun a => f10 (a.1) (a.2.1) (a.2.2))), (12, conF (aNil) (rOne (cB)) (fun a => f12)), (13, conF (aCons (pC (cA .i64 15)) (aCons (pC (cA .i64 22)) (aOne (pC (cI .i64))))) (rTup (cCons (cB) (cOne (cI .i64)))) (fun a => f13 (a.1) (a.2.1) (a.2.2))), (15, conF (aCons (pC (cA .i64 15)) (aCons (pC (cA .i64 22)) (aOne (pC (cI .i64))))) (rTup (cCons (cI .i64) (cOne (cI .i64)))) (fun a => f15 (a.1) (a.2.1) (a.2.2))), (19, conF (aOne (pC (cA .i64 22))) (rOne (cI .i64)) (fun a => f19 a))] from ⟨sp10, sp12, sp13, sp15, sp19, trivial⟩) (show FnL Tryd.prog [] from trivial) (fnLp_nil _) joinOk
noncomputable def f6 (a : Nat → Int) (b : Nat → Int) (c : Nat → Int) : Option (Bool) :=
 cond (decide (c 1 < -32768)) (
 Option.bind (f12) (fun r3 =>
 some (r3))) (
 cond (decide (32768 < c 1)) (
 Option.bind (f12) (fun r3 =>
 some (r3))) (
 cond (decide (c 2 < -32768)) (
 Option.bind (f12) (fun r3 =>
 some (r3))) (
 cond (decide (32768 < c 2)) (
 Option.bind (f12) (fun r3 =>
 some (r3))) (
 Option.bind (f19 b) (fun r3 =>
 cond (!decide (r3 = 0)) (
 Option.bind (f12) (fun r4 =>
 some (r4))) (
 Option.bind (f19 (nthI [IntKind.i64.wrap (b 0 + IntKind.i64.wrap (2 * c 1)), IntKind.i64.wrap (b 1 + IntKind.i64.wrap (2 * c 2)), b 2, b 3, b 4, b 5, b 6, b 7, b 8, b 9, b 10, b 11, b 12, b 13, b 14, b 15, b 16, b 17, b 18, b 19, b 20, b 21])) (fun r4 =>
 cond (!decide (r4 = 0)) (
 Option.bind (f12) (fun r5 =>
 some (r5))) (
 Option.bind (f10 a b (c 0)) (fun r5 =>
 Option.bind (f10 a (nthI [IntKind.i64.wrap (b 0 + IntKind.i64.wrap (2 * c 1)), IntKind.i64.wrap (b 1 + IntKind.i64.wrap (2 * c 2)), b 2, b 3, b 4, b 5, b 6, b 7, b 8, b 9, b 10, b 11, b 12, b 13, b 14, b 15, b 16, b 17, b 18, b 19, b 20, b 21]) (c 0)) (fun r6 =>
 Option.bind (f13 a b (c 0)) (fun r7 =>
 Option.bind (f13 a (nthI [IntKind.i64.wrap (b 0 + IntKind.i64.wrap (2 * c 1)), IntKind.i64.wrap (b 1 + IntKind.i64.wrap (2 * c 2)), b 2, b 3, b 4, b 5, b 6, b 7, b 8, b 9, b 10, b 11, b 12, b 13, b 14, b 15, b 16, b 17, b 18, b 19, b 20, b 21]) (c 0)) (fun r8 =>
 Option.bind (f15 a b (c 0)) (fun r9 =>
 Option.bind (f15 a (nthI [IntKind.i64.wrap (b 0 + IntKind.i64.wrap (2 * c 1)), IntKind.i64.wrap (b 1 + IntKind.i64.wrap (2 * c 2)), b 2, b 3, b 4, b 5, b 6, b 7, b 8, b 9, b 10, b 11, b 12, b 13, b 14, b 15, b 16, b 17, b 18, b 19, b 20, b 21]) (c 0)) (fun r10 =>
 cond (!decide (r5.snd = r6.snd)) (
 some (false)) (
 cond (!decide (r7.snd = r8.snd)) (
 some (false)) (
 cond (!decide (r9.snd = r10.snd)) (
 some (false)) (
 cond (!r7.fst == r8.fst) (
 some (false)) (
 cond (!decide (r9.fst = r10.fst)) (
 some (false)) (
 cond (!decide (r5.snd = 0)) (
 cond (decide (r5.fst 0 = r6.fst 0) && decide (r5.fst 1 = r6.fst 1)) (
 Option.bind (f12) (fun r11 =>
 some (r11))) (
 cond (decide (r5.snd = 0)) (
 cond (decide (r6.fst 0 = IntKind.i64.wrap (r5.fst 0 + IntKind.i64.wrap (2 * c 1))) && decide (r6.fst 1 = IntKind.i64.wrap (r5.fst 1 + IntKind.i64.wrap (2 * c 2)))) (
 Option.bind (f12) (fun r11 =>
 some (r11))) (
 some (false))) (
 some (false)))) (
 cond (decide (r5.snd = 0)) (
 cond (decide (r6.fst 0 = IntKind.i64.wrap (r5.fst 0 + IntKind.i64.wrap (2 * c 1))) && decide (r6.fst 1 = IntKind.i64.wrap (r5.fst 1 + IntKind.i64.wrap (2 * c 2)))) (
 Option.bind (f12) (fun r11 =>
 some (r11))) (
 some (false))) (
 some (false))))))))))))))))))))))
theorem evg6 (f10 : (Nat → Int) → (Nat → Int) → (Int) → Option ((Nat → Int) × Int)) (f12 : Option (Bool)) (f13 : (Nat → Int) → (Nat → Int) → (Int) → Option (Bool × Int)) (f15 : (Nat → Int) → (Nat → Int) → (Int) → Option (Int × Int)) (f19 : (Nat → Int) → Option (Int))  (xx : (aCons (pC (cA .i64 15)) (aCons (pC (cA .i64 22)) (aOne (pC (cA .i64 3))))).T) : evF (R := (rOne (cB)).T) (cx [] [(10, conF (aCons (pC (cA .i64 15)) (aCons (pC (cA .i64 22)) (aOne (pC (cI .i64))))) (rTup (cCons (cA .i64 2) (cOne (cI .i64)))) (fun a => f10 (a.1) (a.2.1) (a.2.2))), (12, conF (aNil) (rOne (cB)) (fun a => f12)), (13, conF (aCons (pC (cA .i64 15)) (aCons (pC (cA .i64 22)) (aOne (pC (cI .i64))))) (rTup (cCons (cB) (cOne (cI .i64)))) (fun a => f13 (a.1) (a.2.1) (a.2.2))), (15, conF (aCons (pC (cA .i64 15)) (aCons (pC (cA .i64 22)) (aOne (pC (cI .i64))))) (rTup (cCons (cI .i64) (cOne (cI .i64)))) (fun a => f15 (a.1) (a.2.1) (a.2.2))), (19, conF (aOne (pC (cA .i64 22))) (rOne (cI .i64)) (fun a => f19 a))] []) 1000 Tryd.f6 ((aCons (pC (cA .i64 15)) (aCons (pC (cA .i64 22)) (aOne (pC (cA .i64 3))))).enc gG xx) (glMem gl) 2 (rOne (cB)).dec =
 (fun (a : Nat → Int) (b : Nat → Int) (c : Nat → Int) =>
 (( cond (decide (c 1 < -32768)) (
 Option.bind (f12) (fun r3 =>
 some (r3))) (
 cond (decide (32768 < c 1)) (
 Option.bind (f12) (fun r3 =>
 some (r3))) (
 cond (decide (c 2 < -32768)) (
 Option.bind (f12) (fun r3 =>
 some (r3))) (
 cond (decide (32768 < c 2)) (
 Option.bind (f12) (fun r3 =>
 some (r3))) (
 Option.bind (f19 (nthI [b 0, b 1, b 2, b 3, b 4, b 5, b 6, b 7, b 8, b 9, b 10, b 11, b 12, b 13, b 14, b 15, b 16, b 17, b 18, b 19, b 20, b 21])) (fun r3 =>
 cond (!decide (r3 = 0)) (
 Option.bind (f12) (fun r4 =>
 some (r4))) (
 Option.bind (f19 (nthI [IntKind.i64.wrap (b 0 + IntKind.i64.wrap (2 * c 1)), IntKind.i64.wrap (b 1 + IntKind.i64.wrap (2 * c 2)), b 2, b 3, b 4, b 5, b 6, b 7, b 8, b 9, b 10, b 11, b 12, b 13, b 14, b 15, b 16, b 17, b 18, b 19, b 20, b 21])) (fun r4 =>
 cond (!decide (r4 = 0)) (
 Option.bind (f12) (fun r5 =>
 some (r5))) (
 Option.bind (f10 (nthI [a 0, a 1, a 2, a 3, a 4, a 5, a 6, a 7, a 8, a 9, a 10, a 11, a 12, a 13, a 14]) (nthI [b 0, b 1, b 2, b 3, b 4, b 5, b 6, b 7, b 8, b 9, b 10, b 11, b 12, b 13, b 14, b 15, b 16, b 17, b 18, b 19, b 20, b 21]) (c 0)) (fun r5 =>
 Option.bind (f10 (nthI [a 0, a 1, a 2, a 3, a 4, a 5, a 6, a 7, a 8, a 9, a 10, a 11, a 12, a 13, a 14]) (nthI [IntKind.i64.wrap (b 0 + IntKind.i64.wrap (2 * c 1)), IntKind.i64.wrap (b 1 + IntKind.i64.wrap (2 * c 2)), b 2, b 3, b 4, b 5, b 6, b 7, b 8, b 9, b 10, b 11, b 12, b 13, b 14, b 15, b 16, b 17, b 18, b 19, b 20, b 21]) (c 0)) (fun r6 =>
 Option.bind (f13 (nthI [a 0, a 1, a 2, a 3, a 4, a 5, a 6, a 7, a 8, a 9, a 10, a 11, a 12, a 13, a 14]) (nthI [b 0, b 1, b 2, b 3, b 4, b 5, b 6, b 7, b 8, b 9, b 10, b 11, b 12, b 13, b 14, b 15, b 16, b 17, b 18, b 19, b 20, b 21]) (c 0)) (fun r7 =>
 Option.bind (f13 (nthI [a 0, a 1, a 2, a 3, a 4, a 5, a 6, a 7, a 8, a 9, a 10, a 11, a 12, a 13, a 14]) (nthI [IntKind.i64.wrap (b 0 + IntKind.i64.wrap (2 * c 1)), IntKind.i64.wrap (b 1 + IntKind.i64.wrap (2 * c 2)), b 2, b 3, b 4, b 5, b 6, b 7, b 8, b 9, b 10, b 11, b 12, b 13, b 14, b 15, b 16, b 17, b 18, b 19, b 20, b 21]) (c 0)) (fun r8 =>
 Option.bind (f15 (nthI [a 0, a 1, a 2, a 3, a 4, a 5, a 6, a 7, a 8, a 9, a 10, a 11, a 12, a 13, a 14]) (nthI [b 0, b 1, b 2, b 3, b 4, b 5, b 6, b 7, b 8, b 9, b 10, b 11, b 12, b 13, b 14, b 15, b 16, b 17, b 18, b 19, b 20, b 21]) (c 0)) (fun r9 =>
 Option.bind (f15 (nthI [a 0, a 1, a 2, a 3, a 4, a 5, a 6, a 7, a 8, a 9, a 10, a 11, a 12, a 13, a 14]) (nthI [IntKind.i64.wrap (b 0 + IntKind.i64.wrap (2 * c 1)), IntKind.i64.wrap (b 1 + IntKind.i64.wrap (2 * c 2)), b 2, b 3, b 4, b 5, b 6, b 7, b 8, b 9, b 10, b 11, b 12, b 13, b 14, b 15, b 16, b 17, b 18, b 19, b 20, b 21]) (c 0)) (fun r10 =>
 cond (!decide (r5.snd = r6.snd)) (
 some (false)) (
 cond (!decide (r7.snd = r8.snd)) (
 some (false)) (
 cond (!decide (r9.snd = r10.snd)) (
 some (false)) (
 cond (!r7.fst == r8.fst) (
 some (false)) (
 cond (!decide (r9.fst = r10.fst)) (
 some (false)) (
 cond (!decide (r5.snd = 0)) (
 cond (decide (r5.fst 0 = r6.fst 0) && decide (r5.fst 1 = r6.fst 1)) (
 Option.bind (f12) (fun r11 =>
 some (r11))) (
 cond (decide (r5.snd = 0)) (
 cond (decide (r6.fst 0 = IntKind.i64.wrap (r5.fst 0 + IntKind.i64.wrap (2 * c 1))) && decide (r6.fst 1 = IntKind.i64.wrap (r5.fst 1 + IntKind.i64.wrap (2 * c 2)))) (
 Option.bind (f12) (fun r11 =>
 some (r11))) (
 some (false))) (
 some (false)))) (
 cond (decide (r5.snd = 0)) (
 cond (decide (r6.fst 0 = IntKind.i64.wrap (r5.fst 0 + IntKind.i64.wrap (2 * c 1))) && decide (r6.fst 1 = IntKind.i64.wrap (r5.fst 1 + IntKind.i64.wrap (2 * c 2)))) (
 Option.bind (f12) (fun r11 =>
 some (r11))) (
 some (false))) (
 some (false))))))))))))))))))))))) : Option (Bool))) xx.1 xx.2.1 xx.2.2 := by kernel_rfl
noncomputable def g6 (a : Nat → Int) (b : Nat → Int) (c : Nat → Int) : Option (Bool) :=
 cond (decide (c 1 < -32768)) (
 Option.bind (f12) (fun r3 =>
 some (r3))) (
 cond (decide (32768 < c 1)) (
 Option.bind (f12) (fun r3 =>
 some (r3))) (
 cond (decide (c 2 < -32768)) (
 Option.bind (f12) (fun r3 =>
 some (r3))) (
 cond (decide (32768 < c 2)) (
 Option.bind (f12) (fun r3 =>
 some (r3))) (
 Option.bind (f19 (nthI [b 0, b 1, b 2, b 3, b 4, b 5, b 6, b 7, b 8, b 9, b 10, b 11, b 12, b 13, b 14, b 15, b 16, b 17, b 18, b 19, b 20, b 21])) (fun r3 =>
 cond (!decide (r3 = 0)) (
 Option.bind (f12) (fun r4 =>
 some (r4))) (
 Option.bind (f19 (nthI [IntKind.i64.wrap (b 0 + IntKind.i64.wrap (2 * c 1)), IntKind.i64.wrap (b 1 + IntKind.i64.wrap (2 * c 2)), b 2, b 3, b 4, b 5, b 6, b 7, b 8, b 9, b 10, b 11, b 12, b 13, b 14, b 15, b 16, b 17, b 18, b 19, b 20, b 21])) (fun r4 =>
 cond (!decide (r4 = 0)) (
 Option.bind (f12) (fun r5 =>
 some (r5))) (
 Option.bind (f10 (nthI [a 0, a 1, a 2, a 3, a 4, a 5, a 6, a 7, a 8, a 9, a 10, a 11, a 12, a 13, a 14]) (nthI [b 0, b 1, b 2, b 3, b 4, b 5, b 6, b 7, b 8, b 9, b 10, b 11, b 12, b 13, b 14, b 15, b 16, b 17, b 18, b 19, b 20, b 21]) (c 0)) (fun r5 =>
 Option.bind (f10 (nthI [a 0, a 1, a 2, a 3, a 4, a 5, a 6, a 7, a 8, a 9, a 10, a 11, a 12, a 13, a 14]) (nthI [IntKind.i64.wrap (b 0 + IntKind.i64.wrap (2 * c 1)), IntKind.i64.wrap (b 1 + IntKind.i64.wrap (2 * c 2)), b 2, b 3, b 4, b 5, b 6, b 7, b 8, b 9, b 10, b 11, b 12, b 13, b 14, b 15, b 16, b 17, b 18, b 19, b 20, b 21]) (c 0)) (fun r6 =>
 Option.bind (f13 (nthI [a 0, a 1, a 2, a 3, a 4, a 5, a 6, a 7, a 8, a 9, a 10, a 11, a 12, a 13, a 14]) (nthI [b 0, b 1, b 2, b 3, b 4, b 5, b 6, b 7, b 8, b 9, b 10, b 11, b 12, b 13, b 14, b 15, b 16, b 17, b 18, b 19, b 20, b 21]) (c 0)) (fun r7 =>
 Option.bind (f13 (nthI [a 0, a 1, a 2, a 3, a 4, a 5, a 6, a 7, a 8, a 9, a 10, a 11, a 12, a 13, a 14]) (nthI [IntKind.i64.wrap (b 0 + IntKind.i64.wrap (2 * c 1)), IntKind.i64.wrap (b 1 + IntKind.i64.wrap (2 * c 2)), b 2, b 3, b 4, b 5, b 6, b 7, b 8, b 9, b 10, b 11, b 12, b 13, b 14, b 15, b 16, b 17, b 18, b 19, b 20, b 21]) (c 0)) (fun r8 =>
 Option.bind (f15 (nthI [a 0, a 1, a 2, a 3, a 4, a 5, a 6, a 7, a 8, a 9, a 10, a 11, a 12, a 13, a 14]) (nthI [b 0, b 1, b 2, b 3, b 4, b 5, b 6, b 7, b 8, b 9, b 10, b 11, b 12, b 13, b 14, b 15, b 16, b 17, b 18, b 19, b 20, b 21]) (c 0)) (fun r9 =>
 Option.bind (f15 (nthI [a 0, a 1, a 2, a 3, a 4, a 5, a 6, a 7, a 8, a 9, a 10, a 11, a 12, a 13, a 14]) (nthI [IntKind.i64.wrap (b 0 + IntKind.i64.wrap (2 * c 1)), IntKind.i64.wrap (b 1 + IntKind.i64.wrap (2 * c 2)), b 2, b 3, b 4, b 5, b 6, b 7, b 8, b 9, b 10, b 11, b 12, b 13, b 14, b 15, b 16, b 17, b 18, b 19, b 20, b 21]) (c 0)) (fun r10 =>
 cond (!decide (r5.snd = r6.snd)) (
 some (false)) (
 cond (!decide (r7.snd = r8.snd)) (
 some (false)) (
 cond (!decide (r9.snd = r10.snd)) (
 some (false)) (
 cond (!r7.fst == r8.fst) (
 some (false)) (
 cond (!decide (r9.fst = r10.fst)) (
 some (false)) (
 cond (!decide (r5.snd = 0)) (
 cond (decide (r5.fst 0 = r6.fst 0) && decide (r5.fst 1 = r6.fst 1)) (
 Option.bind (f12) (fun r11 =>
 some (r11))) (
 cond (decide (r5.snd = 0)) (
 cond (decide (r6.fst 0 = IntKind.i64.wrap (r5.fst 0 + IntKind.i64.wrap (2 * c 1))) && decide (r6.fst 1 = IntKind.i64.wrap (r5.fst 1 + IntKind.i64.wrap (2 * c 2)))) (
 Option.bind (f12) (fun r11 =>
 some (r11))) (
 some (false))) (
 some (false)))) (
 cond (decide (r5.snd = 0)) (
 cond (decide (r6.fst 0 = IntKind.i64.wrap (r5.fst 0 + IntKind.i64.wrap (2 * c 1))) && decide (r6.fst 1 = IntKind.i64.wrap (r5.fst 1 + IntKind.i64.wrap (2 * c 2)))) (
 Option.bind (f12) (fun r11 =>
 some (r11))) (
 some (false))) (
 some (false))))))))))))))))))))))
theorem fg6 (a : Nat → Int) (b : Nat → Int) (c : Nat → Int) : g6 a b c = f6 a b c := by kernel_rfl
theorem ev6 (a : (aCons (pC (cA .i64 15)) (aCons (pC (cA .i64 22)) (aOne (pC (cA .i64 3))))).T) : evF (R := (rOne (cB)).T) (cx [] [(10, conF (aCons (pC (cA .i64 15)) (aCons (pC (cA .i64 22)) (aOne (pC (cI .i64))))) (rTup (cCons (cA .i64 2) (cOne (cI .i64)))) (fun a => f10 (a.1) (a.2.1) (a.2.2))), (12, conF (aNil) (rOne (cB)) (fun a => f12)), (13, conF (aCons (pC (cA .i64 15)) (aCons (pC (cA .i64 22)) (aOne (pC (cI .i64))))) (rTup (cCons (cB) (cOne (cI .i64)))) (fun a => f13 (a.1) (a.2.1) (a.2.2))), (15, conF (aCons (pC (cA .i64 15)) (aCons (pC (cA .i64 22)) (aOne (pC (cI .i64))))) (rTup (cCons (cI .i64) (cOne (cI .i64)))) (fun a => f15 (a.1) (a.2.1) (a.2.2))), (19, conF (aOne (pC (cA .i64 22))) (rOne (cI .i64)) (fun a => f19 a))] []) 1000 Tryd.f6 ((aCons (pC (cA .i64 15)) (aCons (pC (cA .i64 22)) (aOne (pC (cA .i64 3))))).enc gG a) (glMem gl) 2 (rOne (cB)).dec = f6 a.1 a.2.1 a.2.2 := (show evF (R := (rOne (cB)).T) (cx [] [(10, conF (aCons (pC (cA .i64 15)) (aCons (pC (cA .i64 22)) (aOne (pC (cI .i64))))) (rTup (cCons (cA .i64 2) (cOne (cI .i64)))) (fun a => f10 (a.1) (a.2.1) (a.2.2))), (12, conF (aNil) (rOne (cB)) (fun a => f12)), (13, conF (aCons (pC (cA .i64 15)) (aCons (pC (cA .i64 22)) (aOne (pC (cI .i64))))) (rTup (cCons (cB) (cOne (cI .i64)))) (fun a => f13 (a.1) (a.2.1) (a.2.2))), (15, conF (aCons (pC (cA .i64 15)) (aCons (pC (cA .i64 22)) (aOne (pC (cI .i64))))) (rTup (cCons (cI .i64) (cOne (cI .i64)))) (fun a => f15 (a.1) (a.2.1) (a.2.2))), (19, conF (aOne (pC (cA .i64 22))) (rOne (cI .i64)) (fun a => f19 a))] []) 1000 Tryd.f6 ((aCons (pC (cA .i64 15)) (aCons (pC (cA .i64 22)) (aOne (pC (cA .i64 3))))).enc gG a) (glMem gl) 2 (rOne (cB)).dec = g6 a.1 a.2.1 a.2.2 from evg6 f10 f12 f13 f15 f19  a).trans (fg6 a.1 a.2.1 a.2.2)
theorem sp6 : VE.Spec Tryd.prog gG gl 6 (conF (aCons (pC (cA .i64 15)) (aCons (pC (cA .i64 22)) (aOne (pC (cA .i64 3))))) (rOne (cB)) (fun a => f6 a.1 a.2.1 a.2.2)) := spec_of ok6 Tryd.func6 Tryd.call6 (lpAll_nil rfl) 1000 (aCons_ok (pC_ok (cA_ok _ _)) (aCons_ok (pC_ok (cA_ok _ _)) (aOne_ok (pC_ok (cA_ok _ _))))) (rOne_ok (cB_ok)) ev6

/-- dancestudiolaw21.BalanceFeet -/
theorem ok7 : CtxOK Tryd.prog (cx [] [(12, conF (aNil) (rOne (cB)) (fun a => f12)), (13, conF (aCons (pC (cA .i64 15)) (aCons (pC (cA .i64 22)) (aOne (pC (cI .i64))))) (rTup (cCons (cB) (cOne (cI .i64)))) (fun a => f13 (a.1) (a.2.1) (a.2.2))), (15, conF (aCons (pC (cA .i64 15)) (aCons (pC (cA .i64 22)) (aOne (pC (cI .i64))))) (rTup (cCons (cI .i64) (cOne (cI .i64)))) (fun a => f15 (a.1) (a.2.1) (a.2.2))), (20, conF (aOne (pC (cA .i64 15))) (rOne (cI .i64)) (fun a => f20 a))] []) gl := ctx_of tyOk moOk (show SpecL Tryd.prog gG gl [(12, conF (aNil) (rOne (cB)) (fun a => f12)), (13, conF (aCons (pC (cA .i64 15)) (aCons (pC (cA .i64 22)) (aOne (pC (cI .i64))))) (rTup (cCons (cB) (cOne (cI .i64)))) (fun a => f13 (a.1) (a.2.1) (a.2.2))), (15, conF (aCons (pC (cA .i64 15)) (aCons (pC (cA .i64 22)) (aOne (pC (cI .i64))))) (rTup (cCons (cI .i64) (cOne (cI .i64)))) (fun a => f15 (a.1) (a.2.1) (a.2.2))), (20, conF (aOne (pC (cA .i64 15))) (rOne (cI .i64)) (fun a => f20 a))] from ⟨sp12, sp13, sp15, sp20, trivial⟩) (show FnL Tryd.prog [] from trivial) (fnLp_nil _) joinOk
noncomputable def f7 (a : Nat → Int) (b : Nat → Int) (c : Int) : Option (Bool) :=
 Option.bind (f15 a b c) (fun r3 =>
 cond (!decide (r3.snd = 0)) (
 cond (decide (r3.fst = 0)) (
 Option.bind (f12) (fun r4 =>
 some (r4))) (
 some (false))) (
 cond (decide (r3.fst < 0)) (
 some (false)) (
 cond (decide (a 9 < r3.fst)) (
 some (false)) (
 Option.bind (f13 (nthI [a 0, a 1, a 2, a 3, a 4, a 5, a 6, a 7, a 8, IntKind.i64.wrap (a 9 + 1), a 10, a 11, a 12, a 13, a 14]) b c) (fun r4 =>
 Option.bind (f20 (nthI [a 0, a 1, a 2, a 3, a 4, a 5, a 6, a 7, a 8, IntKind.i64.wrap (a 9 + 1), a 10, a 11, a 12, a 13, a 14])) (fun r5 =>
 cond (decide (r5 = 0)) (
 cond (!r4.fst) (
 some (false)) (
 cond (!decide (r4.snd = 0)) (
 some (false)) (
 Option.bind (f13 (nthI [a 0, a 1, a 2, a 3, a 4, a 5, a 6, a 7, a 8, IntKind.i64.wrap (a 9 - r3.fst), a 10, a 11, a 12, a 13, a 14]) b c) (fun r6 =>
 Option.bind (f20 (nthI [a 0, a 1, a 2, a 3, a 4, a 5, a 6, a 7, a 8, IntKind.i64.wrap (a 9 - r3.fst), a 10, a 11, a 12, a 13, a 14])) (fun r7 =>
 cond (decide (r7 = 0)) (
 cond (!r6.fst) (
 some (false)) (
 cond (!decide (r6.snd = 0)) (
 some (false)) (
 Option.bind (f13 (nthI [a 0, a 1, a 2, a 3, a 4, a 5, a 6, a 7, a 8, IntKind.i64.wrap (IntKind.i64.wrap (a 9 - r3.fst) - 1), a 10, a 11, a 12, a 13, a 14]) b c) (fun r8 =>
 Option.bind (f20 (nthI [a 0, a 1, a 2, a 3, a 4, a 5, a 6, a 7, a 8, IntKind.i64.wrap (IntKind.i64.wrap (a 9 - r3.fst) - 1), a 10, a 11, a 12, a 13, a 14])) (fun r9 =>
 cond (!decide (r9 = 0)) (
 Option.bind (f12) (fun r10 =>
 some (r10))) (
 cond (!r8.fst) (
 cond (decide (r8.snd = 0)) (
 Option.bind (f12) (fun r10 =>
 some (r10))) (
 some (false))) (
 some (false)))))))) (
 Option.bind (f13 (nthI [a 0, a 1, a 2, a 3, a 4, a 5, a 6, a 7, a 8, IntKind.i64.wrap (IntKind.i64.wrap (a 9 - r3.fst) - 1), a 10, a 11, a 12, a 13, a 14]) b c) (fun r8 =>
 Option.bind (f20 (nthI [a 0, a 1, a 2, a 3, a 4, a 5, a 6, a 7, a 8, IntKind.i64.wrap (IntKind.i64.wrap (a 9 - r3.fst) - 1), a 10, a 11, a 12, a 13, a 14])) (fun r9 =>
 cond (!decide (r9 = 0)) (
 Option.bind (f12) (fun r10 =>
 some (r10))) (
 cond (!r8.fst) (
 cond (decide (r8.snd = 0)) (
 Option.bind (f12) (fun r10 =>
 some (r10))) (
 some (false))) (
 some (false))))))))))) (
 Option.bind (f13 (nthI [a 0, a 1, a 2, a 3, a 4, a 5, a 6, a 7, a 8, IntKind.i64.wrap (a 9 - r3.fst), a 10, a 11, a 12, a 13, a 14]) b c) (fun r6 =>
 Option.bind (f20 (nthI [a 0, a 1, a 2, a 3, a 4, a 5, a 6, a 7, a 8, IntKind.i64.wrap (a 9 - r3.fst), a 10, a 11, a 12, a 13, a 14])) (fun r7 =>
 cond (decide (r7 = 0)) (
 cond (!r6.fst) (
 some (false)) (
 cond (!decide (r6.snd = 0)) (
 some (false)) (
 Option.bind (f13 (nthI [a 0, a 1, a 2, a 3, a 4, a 5, a 6, a 7, a 8, IntKind.i64.wrap (IntKind.i64.wrap (a 9 - r3.fst) - 1), a 10, a 11, a 12, a 13, a 14]) b c) (fun r8 =>
 Option.bind (f20 (nthI [a 0, a 1, a 2, a 3, a 4, a 5, a 6, a 7, a 8, IntKind.i64.wrap (IntKind.i64.wrap (a 9 - r3.fst) - 1), a 10, a 11, a 12, a 13, a 14])) (fun r9 =>
 cond (!decide (r9 = 0)) (
 Option.bind (f12) (fun r10 =>
 some (r10))) (
 cond (!r8.fst) (
 cond (decide (r8.snd = 0)) (
 Option.bind (f12) (fun r10 =>
 some (r10))) (
 some (false))) (
 some (false)))))))) (
 Option.bind (f13 (nthI [a 0, a 1, a 2, a 3, a 4, a 5, a 6, a 7, a 8, IntKind.i64.wrap (IntKind.i64.wrap (a 9 - r3.fst) - 1), a 10, a 11, a 12, a 13, a 14]) b c) (fun r8 =>
 Option.bind (f20 (nthI [a 0, a 1, a 2, a 3, a 4, a 5, a 6, a 7, a 8, IntKind.i64.wrap (IntKind.i64.wrap (a 9 - r3.fst) - 1), a 10, a 11, a 12, a 13, a 14])) (fun r9 =>
 cond (!decide (r9 = 0)) (
 Option.bind (f12) (fun r10 =>
 some (r10))) (
 cond (!r8.fst) (
 cond (decide (r8.snd = 0)) (
 Option.bind (f12) (fun r10 =>
 some (r10))) (
 some (false))) (
 some (false)))))))))))))))
theorem evg7 (f12 : Option (Bool)) (f13 : (Nat → Int) → (Nat → Int) → (Int) → Option (Bool × Int)) (f15 : (Nat → Int) → (Nat → Int) → (Int) → Option (Int × Int)) (f20 : (Nat → Int) → Option (Int))  (xx : (aCons (pC (cA .i64 15)) (aCons (pC (cA .i64 22)) (aOne (pC (cI .i64))))).T) : evF (R := (rOne (cB)).T) (cx [] [(12, conF (aNil) (rOne (cB)) (fun a => f12)), (13, conF (aCons (pC (cA .i64 15)) (aCons (pC (cA .i64 22)) (aOne (pC (cI .i64))))) (rTup (cCons (cB) (cOne (cI .i64)))) (fun a => f13 (a.1) (a.2.1) (a.2.2))), (15, conF (aCons (pC (cA .i64 15)) (aCons (pC (cA .i64 22)) (aOne (pC (cI .i64))))) (rTup (cCons (cI .i64) (cOne (cI .i64)))) (fun a => f15 (a.1) (a.2.1) (a.2.2))), (20, conF (aOne (pC (cA .i64 15))) (rOne (cI .i64)) (fun a => f20 a))] []) 1000 Tryd.f7 ((aCons (pC (cA .i64 15)) (aCons (pC (cA .i64 22)) (aOne (pC (cI .i64))))).enc gG xx) (glMem gl) 2 (rOne (cB)).dec =
 (fun (a : Nat → Int) (b : Nat → Int) (c : Int) =>
 (( Option.bind (f15 (nthI [a 0, a 1, a 2, a 3, a 4, a 5, a 6, a 7, a 8, a 9, a 10, a 11, a 12, a 13, a 14]) (nthI [b 0, b 1, b 2, b 3, b 4, b 5, b 6, b 7, b 8, b 9, b 10, b 11, b 12, b 13, b 14, b 15, b 16, b 17, b 18, b 19, b 20, b 21]) c) (fun r3 =>
 cond (!decide (r3.snd = 0)) (
 cond (decide (r3.fst = 0)) (
 Option.bind (f12) (fun r4 =>
 some (r4))) (
 some (false))) (
 cond (decide (r3.fst < 0)) (
 some (false)) (
 cond (decide (a 9 < r3.fst)) (
 some (false)) (
 Option.bind (f13 (nthI [a 0, a 1, a 2, a 3, a 4, a 5, a 6, a 7, a 8, IntKind.i64.wrap (a 9 + 1), a 10, a 11, a 12, a 13, a 14]) (nthI [b 0, b 1, b 2, b 3, b 4, b 5, b 6, b 7, b 8, b 9, b 10, b 11, b 12, b 13, b 14, b 15, b 16, b 17, b 18, b 19, b 20, b 21]) c) (fun r4 =>
 Option.bind (f20 (nthI [a 0, a 1, a 2, a 3, a 4, a 5, a 6, a 7, a 8, IntKind.i64.wrap (a 9 + 1), a 10, a 11, a 12, a 13, a 14])) (fun r5 =>
 cond (decide (r5 = 0)) (
 cond (!r4.fst) (
 some (false)) (
 cond (!decide (r4.snd = 0)) (
 some (false)) (
 Option.bind (f13 (nthI [a 0, a 1, a 2, a 3, a 4, a 5, a 6, a 7, a 8, IntKind.i64.wrap (a 9 - r3.fst), a 10, a 11, a 12, a 13, a 14]) (nthI [b 0, b 1, b 2, b 3, b 4, b 5, b 6, b 7, b 8, b 9, b 10, b 11, b 12, b 13, b 14, b 15, b 16, b 17, b 18, b 19, b 20, b 21]) c) (fun r6 =>
 Option.bind (f20 (nthI [a 0, a 1, a 2, a 3, a 4, a 5, a 6, a 7, a 8, IntKind.i64.wrap (a 9 - r3.fst), a 10, a 11, a 12, a 13, a 14])) (fun r7 =>
 cond (decide (r7 = 0)) (
 cond (!r6.fst) (
 some (false)) (
 cond (!decide (r6.snd = 0)) (
 some (false)) (
 Option.bind (f13 (nthI [a 0, a 1, a 2, a 3, a 4, a 5, a 6, a 7, a 8, IntKind.i64.wrap (IntKind.i64.wrap (a 9 - r3.fst) - 1), a 10, a 11, a 12, a 13, a 14]) (nthI [b 0, b 1, b 2, b 3, b 4, b 5, b 6, b 7, b 8, b 9, b 10, b 11, b 12, b 13, b 14, b 15, b 16, b 17, b 18, b 19, b 20, b 21]) c) (fun r8 =>
 Option.bind (f20 (nthI [a 0, a 1, a 2, a 3, a 4, a 5, a 6, a 7, a 8, IntKind.i64.wrap (IntKind.i64.wrap (a 9 - r3.fst) - 1), a 10, a 11, a 12, a 13, a 14])) (fun r9 =>
 cond (!decide (r9 = 0)) (
 Option.bind (f12) (fun r10 =>
 some (r10))) (
 cond (!r8.fst) (
 cond (decide (r8.snd = 0)) (
 Option.bind (f12) (fun r10 =>
 some (r10))) (
 some (false))) (
 some (false)))))))) (
 Option.bind (f13 (nthI [a 0, a 1, a 2, a 3, a 4, a 5, a 6, a 7, a 8, IntKind.i64.wrap (IntKind.i64.wrap (a 9 - r3.fst) - 1), a 10, a 11, a 12, a 13, a 14]) (nthI [b 0, b 1, b 2, b 3, b 4, b 5, b 6, b 7, b 8, b 9, b 10, b 11, b 12, b 13, b 14, b 15, b 16, b 17, b 18, b 19, b 20, b 21]) c) (fun r8 =>
 Option.bind (f20 (nthI [a 0, a 1, a 2, a 3, a 4, a 5, a 6, a 7, a 8, IntKind.i64.wrap (IntKind.i64.wrap (a 9 - r3.fst) - 1), a 10, a 11, a 12, a 13, a 14])) (fun r9 =>
 cond (!decide (r9 = 0)) (
 Option.bind (f12) (fun r10 =>
 some (r10))) (
 cond (!r8.fst) (
 cond (decide (r8.snd = 0)) (
 Option.bind (f12) (fun r10 =>
 some (r10))) (
 some (false))) (
 some (false))))))))))) (
 Option.bind (f13 (nthI [a 0, a 1, a 2, a 3, a 4, a 5, a 6, a 7, a 8, IntKind.i64.wrap (a 9 - r3.fst), a 10, a 11, a 12, a 13, a 14]) (nthI [b 0, b 1, b 2, b 3, b 4, b 5, b 6, b 7, b 8, b 9, b 10, b 11, b 12, b 13, b 14, b 15, b 16, b 17, b 18, b 19, b 20, b 21]) c) (fun r6 =>
 Option.bind (f20 (nthI [a 0, a 1, a 2, a 3, a 4, a 5, a 6, a 7, a 8, IntKind.i64.wrap (a 9 - r3.fst), a 10, a 11, a 12, a 13, a 14])) (fun r7 =>
 cond (decide (r7 = 0)) (
 cond (!r6.fst) (
 some (false)) (
 cond (!decide (r6.snd = 0)) (
 some (false)) (
 Option.bind (f13 (nthI [a 0, a 1, a 2, a 3, a 4, a 5, a 6, a 7, a 8, IntKind.i64.wrap (IntKind.i64.wrap (a 9 - r3.fst) - 1), a 10, a 11, a 12, a 13, a 14]) (nthI [b 0, b 1, b 2, b 3, b 4, b 5, b 6, b 7, b 8, b 9, b 10, b 11, b 12, b 13, b 14, b 15, b 16, b 17, b 18, b 19, b 20, b 21]) c) (fun r8 =>
 Option.bind (f20 (nthI [a 0, a 1, a 2, a 3, a 4, a 5, a 6, a 7, a 8, IntKind.i64.wrap (IntKind.i64.wrap (a 9 - r3.fst) - 1), a 10, a 11, a 12, a 13, a 14])) (fun r9 =>
 cond (!decide (r9 = 0)) (
 Option.bind (f12) (fun r10 =>
 some (r10))) (
 cond (!r8.fst) (
 cond (decide (r8.snd = 0)) (
 Option.bind (f12) (fun r10 =>
 some (r10))) (
 some (false))) (
 some (false)))))))) (
 Option.bind (f13 (nthI [a 0, a 1, a 2, a 3, a 4, a 5, a 6, a 7, a 8, IntKind.i64.wrap (IntKind.i64.wrap (a 9 - r3.fst) - 1), a 10, a 11, a 12, a 13, a 14]) (nthI [b 0, b 1, b 2, b 3, b 4, b 5, b 6, b 7, b 8, b 9, b 10, b 11, b 12, b 13, b 14, b 15, b 16, b 17, b 18, b 19, b 20, b 21]) c) (fun r8 =>
 Option.bind (f20 (nthI [a 0, a 1, a 2, a 3, a 4, a 5, a 6, a 7, a 8, IntKind.i64.wrap (IntKind.i64.wrap (a 9 - r3.fst) - 1), a 10, a 11, a 12, a 13, a 14])) (fun r9 =>
 cond (!decide (r9 = 0)) (
 Option.bind (f12) (fun r10 =>
 some (r10))) (
 cond (!r8.fst) (
 cond (decide (r8.snd = 0)) (
 Option.bind (f12) (fun r10 =>
 some (r10))) (
 some (false))) (
 some (false)))))))))))))))) : Option (Bool))) xx.1 xx.2.1 xx.2.2 := by kernel_rfl
noncomputable def g7 (a : Nat → Int) (b : Nat → Int) (c : Int) : Option (Bool) :=
 Option.bind (f15 (nthI [a 0, a 1, a 2, a 3, a 4, a 5, a 6, a 7, a 8, a 9, a 10, a 11, a 12, a 13, a 14]) (nthI [b 0, b 1, b 2, b 3, b 4, b 5, b 6, b 7, b 8, b 9, b 10, b 11, b 12, b 13, b 14, b 15, b 16, b 17, b 18, b 19, b 20, b 21]) c) (fun r3 =>
 cond (!decide (r3.snd = 0)) (
 cond (decide (r3.fst = 0)) (
 Option.bind (f12) (fun r4 =>
 some (r4))) (
 some (false))) (
 cond (decide (r3.fst < 0)) (
 some (false)) (
 cond (decide (a 9 < r3.fst)) (
 some (false)) (
 Option.bind (f13 (nthI [a 0, a 1, a 2, a 3, a 4, a 5, a 6, a 7, a 8, IntKind.i64.wrap (a 9 + 1), a 10, a 11, a 12, a 13, a 14]) (nthI [b 0, b 1, b 2, b 3, b 4, b 5, b 6, b 7, b 8, b 9, b 10, b 11, b 12, b 13, b 14, b 15, b 16, b 17, b 18, b 19, b 20, b 21]) c) (fun r4 =>
 Option.bind (f20 (nthI [a 0, a 1, a 2, a 3, a 4, a 5, a 6, a 7, a 8, IntKind.i64.wrap (a 9 + 1), a 10, a 11, a 12, a 13, a 14])) (fun r5 =>
 cond (decide (r5 = 0)) (
 cond (!r4.fst) (
 some (false)) (
 cond (!decide (r4.snd = 0)) (
 some (false)) (
 Option.bind (f13 (nthI [a 0, a 1, a 2, a 3, a 4, a 5, a 6, a 7, a 8, IntKind.i64.wrap (a 9 - r3.fst), a 10, a 11, a 12, a 13, a 14]) (nthI [b 0, b 1, b 2, b 3, b 4, b 5, b 6, b 7, b 8, b 9, b 10, b 11, b 12, b 13, b 14, b 15, b 16, b 17, b 18, b 19, b 20, b 21]) c) (fun r6 =>
 Option.bind (f20 (nthI [a 0, a 1, a 2, a 3, a 4, a 5, a 6, a 7, a 8, IntKind.i64.wrap (a 9 - r3.fst), a 10, a 11, a 12, a 13, a 14])) (fun r7 =>
 cond (decide (r7 = 0)) (
 cond (!r6.fst) (
 some (false)) (
 cond (!decide (r6.snd = 0)) (
 some (false)) (
 Option.bind (f13 (nthI [a 0, a 1, a 2, a 3, a 4, a 5, a 6, a 7, a 8, IntKind.i64.wrap (IntKind.i64.wrap (a 9 - r3.fst) - 1), a 10, a 11, a 12, a 13, a 14]) (nthI [b 0, b 1, b 2, b 3, b 4, b 5, b 6, b 7, b 8, b 9, b 10, b 11, b 12, b 13, b 14, b 15, b 16, b 17, b 18, b 19, b 20, b 21]) c) (fun r8 =>
 Option.bind (f20 (nthI [a 0, a 1, a 2, a 3, a 4, a 5, a 6, a 7, a 8, IntKind.i64.wrap (IntKind.i64.wrap (a 9 - r3.fst) - 1), a 10, a 11, a 12, a 13, a 14])) (fun r9 =>
 cond (!decide (r9 = 0)) (
 Option.bind (f12) (fun r10 =>
 some (r10))) (
 cond (!r8.fst) (
 cond (decide (r8.snd = 0)) (
 Option.bind (f12) (fun r10 =>
 some (r10))) (
 some (false))) (
 some (false)))))))) (
 Option.bind (f13 (nthI [a 0, a 1, a 2, a 3, a 4, a 5, a 6, a 7, a 8, IntKind.i64.wrap (IntKind.i64.wrap (a 9 - r3.fst) - 1), a 10, a 11, a 12, a 13, a 14]) (nthI [b 0, b 1, b 2, b 3, b 4, b 5, b 6, b 7, b 8, b 9, b 10, b 11, b 12, b 13, b 14, b 15, b 16, b 17, b 18, b 19, b 20, b 21]) c) (fun r8 =>
 Option.bind (f20 (nthI [a 0, a 1, a 2, a 3, a 4, a 5, a 6, a 7, a 8, IntKind.i64.wrap (IntKind.i64.wrap (a 9 - r3.fst) - 1), a 10, a 11, a 12, a 13, a 14])) (fun r9 =>
 cond (!decide (r9 = 0)) (
 Option.bind (f12) (fun r10 =>
 some (r10))) (
 cond (!r8.fst) (
 cond (decide (r8.snd = 0)) (
 Option.bind (f12) (fun r10 =>
 some (r10))) (
 some (false))) (
 some (false))))))))))) (
 Option.bind (f13 (nthI [a 0, a 1, a 2, a 3, a 4, a 5, a 6, a 7, a 8, IntKind.i64.wrap (a 9 - r3.fst), a 10, a 11, a 12, a 13, a 14]) (nthI [b 0, b 1, b 2, b 3, b 4, b 5, b 6, b 7, b 8, b 9, b 10, b 11, b 12, b 13, b 14, b 15, b 16, b 17, b 18, b 19, b 20, b 21]) c) (fun r6 =>
 Option.bind (f20 (nthI [a 0, a 1, a 2, a 3, a 4, a 5, a 6, a 7, a 8, IntKind.i64.wrap (a 9 - r3.fst), a 10, a 11, a 12, a 13, a 14])) (fun r7 =>
 cond (decide (r7 = 0)) (
 cond (!r6.fst) (
 some (false)) (
 cond (!decide (r6.snd = 0)) (
 some (false)) (
 Option.bind (f13 (nthI [a 0, a 1, a 2, a 3, a 4, a 5, a 6, a 7, a 8, IntKind.i64.wrap (IntKind.i64.wrap (a 9 - r3.fst) - 1), a 10, a 11, a 12, a 13, a 14]) (nthI [b 0, b 1, b 2, b 3, b 4, b 5, b 6, b 7, b 8, b 9, b 10, b 11, b 12, b 13, b 14, b 15, b 16, b 17, b 18, b 19, b 20, b 21]) c) (fun r8 =>
 Option.bind (f20 (nthI [a 0, a 1, a 2, a 3, a 4, a 5, a 6, a 7, a 8, IntKind.i64.wrap (IntKind.i64.wrap (a 9 - r3.fst) - 1), a 10, a 11, a 12, a 13, a 14])) (fun r9 =>
 cond (!decide (r9 = 0)) (
 Option.bind (f12) (fun r10 =>
 some (r10))) (
 cond (!r8.fst) (
 cond (decide (r8.snd = 0)) (
 Option.bind (f12) (fun r10 =>
 some (r10))) (
 some (false))) (
 some (false)))))))) (
 Option.bind (f13 (nthI [a 0, a 1, a 2, a 3, a 4, a 5, a 6, a 7, a 8, IntKind.i64.wrap (IntKind.i64.wrap (a 9 - r3.fst) - 1), a 10, a 11, a 12, a 13, a 14]) (nthI [b 0, b 1, b 2, b 3, b 4, b 5, b 6, b 7, b 8, b 9, b 10, b 11, b 12, b 13, b 14, b 15, b 16, b 17, b 18, b 19, b 20, b 21]) c) (fun r8 =>
 Option.bind (f20 (nthI [a 0, a 1, a 2, a 3, a 4, a 5, a 6, a 7, a 8, IntKind.i64.wrap (IntKind.i64.wrap (a 9 - r3.fst) - 1), a 10, a 11, a 12, a 13, a 14])) (fun r9 =>
 cond (!decide (r9 = 0)) (
 Option.bind (f12) (fun r10 =>
 some (r10))) (
 cond (!r8.fst) (
 cond (decide (r8.snd = 0)) (
 Option.bind (f12) (fun r10 =>
 some (r10))) (
 some (false))) (
 some (false)))))))))))))))
theorem fg7 (a : Nat → Int) (b : Nat → Int) (c : Int) : g7 a b c = f7 a b c := by kernel_rfl
theorem ev7 (a : (aCons (pC (cA .i64 15)) (aCons (pC (cA .i64 22)) (aOne (pC (cI .i64))))).T) : evF (R := (rOne (cB)).T) (cx [] [(12, conF (aNil) (rOne (cB)) (fun a => f12)), (13, conF (aCons (pC (cA .i64 15)) (aCons (pC (cA .i64 22)) (aOne (pC (cI .i64))))) (rTup (cCons (cB) (cOne (cI .i64)))) (fun a => f13 (a.1) (a.2.1) (a.2.2))), (15, conF (aCons (pC (cA .i64 15)) (aCons (pC (cA .i64 22)) (aOne (pC (cI .i64))))) (rTup (cCons (cI .i64) (cOne (cI .i64)))) (fun a => f15 (a.1) (a.2.1) (a.2.2))), (20, conF (aOne (pC (cA .i64 15))) (rOne (cI .i64)) (fun a => f20 a))] []) 1000 Tryd.f7 ((aCons (pC (cA .i64 15)) (aCons (pC (cA .i64 22)) (aOne (pC (cI .i64))))).enc gG a) (glMem gl) 2 (rOne (cB)).dec = f7 a.1 a.2.1 a.2.2 := (show evF (R := (rOne (cB)).T) (cx [] [(12, conF (aNil) (rOne (cB)) (fun a => f12)), (13, conF (aCons (pC (cA .i64 15)) (aCons (pC (cA .i64 22)) (aOne (pC (cI .i64))))) (rTup (cCons (cB) (cOne (cI .i64)))) (fun a => f13 (a.1) (a.2.1) (a.2.2))), (15, conF (aCons (pC (cA .i64 15)) (aCons (pC (cA .i64 22)) (aOne (pC (cI .i64))))) (rTup (cCons (cI .i64) (cOne (cI .i64)))) (fun a => f15 (a.1) (a.2.1) (a.2.2))), (20, conF (aOne (pC (cA .i64 15))) (rOne (cI .i64)) (fun a => f20 a))] []) 1000 Tryd.f7 ((aCons (pC (cA .i64 15)) (aCons (pC (cA .i64 22)) (aOne (pC (cI .i64))))).enc gG a) (glMem gl) 2 (rOne (cB)).dec = g7 a.1 a.2.1 a.2.2 from evg7 f12 f13 f15 f20  a).trans (fg7 a.1 a.2.1 a.2.2)
theorem sp7 : VE.Spec Tryd.prog gG gl 7 (conF (aCons (pC (cA .i64 15)) (aCons (pC (cA .i64 22)) (aOne (pC (cI .i64))))) (rOne (cB)) (fun a => f7 a.1 a.2.1 a.2.2)) := spec_of ok7 Tryd.func7 Tryd.call7 (lpAll_nil rfl) 1000 (aCons_ok (pC_ok (cA_ok _ _)) (aCons_ok (pC_ok (cA_ok _ _)) (aOne_ok (pC_ok (cI_ok _))))) (rOne_ok (cB_ok)) ev7

/-- dancestudiolaw21.BalanceTicks -/
theorem okl8 : CtxOK Tryd.prog (cx [] [(12, conF (aNil) (rOne (cB)) (fun a => f12)), (13, conF (aCons (pC (cA .i64 15)) (aCons (pC (cA .i64 22)) (aOne (pC (cI .i64))))) (rTup (cCons (cB) (cOne (cI .i64)))) (fun a => f13 (a.1) (a.2.1) (a.2.2))), (17, conF (aCons (pC (cA .i64 15)) (aOne (pSS kx31 kx3))) (rTup (cCons (cI .i64) (cOne (cI .i64)))) (fun a => f17 (a.1) (a.2)))] []) gl := ctx_of tyOk moOk (show SpecL Tryd.prog gG gl [(12, conF (aNil) (rOne (cB)) (fun a => f12)), (13, conF (aCons (pC (cA .i64 15)) (aCons (pC (cA .i64 22)) (aOne (pC (cI .i64))))) (rTup (cCons (cB) (cOne (cI .i64)))) (fun a => f13 (a.1) (a.2.1) (a.2.2))), (17, conF (aCons (pC (cA .i64 15)) (aOne (pSS kx31 kx3))) (rTup (cCons (cI .i64) (cOne (cI .i64)))) (fun a => f17 (a.1) (a.2)))] from ⟨sp12, sp13, sp17, trivial⟩) (show FnL Tryd.prog [] from trivial) (fnLp_nil _) joinOk
def T8_0 : ST := ⟨[(2, .s (.ptr 4 0)), (3, .s (.ptr 5 0)), (5, .s (.i .i64)), (7, .s (.i .i64))], [(4, .own [.i .i64, .i .i64, .i .i64, .i .i64, .i .i64, .i .i64, .i .i64, .i .i64, .i .i64, .i .i64, .i .i64, .i .i64, .i .i64, .i .i64, .i .i64] 24), (5, .own [.xs 2 [some .i64, some .i64, some .i64, some .i64, some .i64, some .i64, some .i64, some .i64, some .i64, some .i64, some .i64, some .i64, some .i64, some .i64, some .i64, some .i64, some .i64, some .i64, some .i64, some .i64, some .i64, some .i64], .xs 3 [some .i64]] 44)], 43⟩
def outs8_0 : List (AExit × ST) := [(.exit 0, ⟨[], [], 48⟩), (.ret, ⟨[(4, .s (.b))], [], 94⟩)]
noncomputable def s8_0 (rec : (Nat → Int) → (Nat → Sl) → Option LR) (x : Nat → Int) (y : Nat → Sl) : Option LR :=
 cond (decide (x 1 < Int.ofNat (y 0).fst)) (
 cond (decide (0 ≤ x 1)) (
 cond (decide (x 1 < Int.ofNat (y 0).fst)) (
 cond (decide (0 ≤ minI (x 1) (IntKind.i64.wrap (Int.ofNat (y 1).fst - 1)))) (
 cond (decide (minI (x 1) (IntKind.i64.wrap (Int.ofNat (y 1).fst - 1)) < Int.ofNat (y 1).fst)) (
 Option.bind (f13 (nthI [x 2, x 3, x 4, x 5, x 6, x 7, x 8, x 9, x 10, x 11, x 12, x 13, x 14, x 15, x 16]) (nthI [(y 0).snd (x 1).toNat 0, (y 0).snd (x 1).toNat 1, (y 0).snd (x 1).toNat 2, (y 0).snd (x 1).toNat 3, (y 0).snd (x 1).toNat 4, (y 0).snd (x 1).toNat 5, (y 0).snd (x 1).toNat 6, (y 0).snd (x 1).toNat 7, (y 0).snd (x 1).toNat 8, (y 0).snd (x 1).toNat 9, (y 0).snd (x 1).toNat 10, (y 0).snd (x 1).toNat 11, (y 0).snd (x 1).toNat 12, (y 0).snd (x 1).toNat 13, (y 0).snd (x 1).toNat 14, (y 0).snd (x 1).toNat 15, (y 0).snd (x 1).toNat 16, (y 0).snd (x 1).toNat 17, (y 0).snd (x 1).toNat 18, (y 0).snd (x 1).toNat 19, (y 0).snd (x 1).toNat 20, (y 0).snd (x 1).toNat 21]) ((y 1).snd (minI (x 1) (IntKind.i64.wrap (Int.ofNat (y 1).fst - 1))).toNat 0)) (fun r3 =>
 cond (!decide (r3.snd = 0)) (
 some ((1, nthI [0], nthS []))) (
 cond (decide (x 1 = x 0)) (
 cond (r3.fst) (
 some ((1, nthI [0], nthS []))) (
 cond (decide (x 0 < 0)) (
 cond (!r3.fst) (
 some ((1, nthI [0], nthS []))) (
 rec (nthI [x 0, IntKind.i64.wrap (x 1 + 1), x 2, x 3, x 4, x 5, x 6, x 7, x 8, x 9, x 10, x 11, x 12, x 13, x 14, x 15, x 16]) (nthS [y 0, y 1]))) (
 cond (decide (x 1 < x 0)) (
 cond (!r3.fst) (
 some ((1, nthI [0], nthS []))) (
 rec (nthI [x 0, IntKind.i64.wrap (x 1 + 1), x 2, x 3, x 4, x 5, x 6, x 7, x 8, x 9, x 10, x 11, x 12, x 13, x 14, x 15, x 16]) (nthS [y 0, y 1]))) (
 rec (nthI [x 0, IntKind.i64.wrap (x 1 + 1), x 2, x 3, x 4, x 5, x 6, x 7, x 8, x 9, x 10, x 11, x 12, x 13, x 14, x 15, x 16]) (nthS [y 0, y 1]))))) (
 cond (decide (x 0 < 0)) (
 cond (!r3.fst) (
 some ((1, nthI [0], nthS []))) (
 rec (nthI [x 0, IntKind.i64.wrap (x 1 + 1), x 2, x 3, x 4, x 5, x 6, x 7, x 8, x 9, x 10, x 11, x 12, x 13, x 14, x 15, x 16]) (nthS [y 0, y 1]))) (
 cond (decide (x 1 < x 0)) (
 cond (!r3.fst) (
 some ((1, nthI [0], nthS []))) (
 rec (nthI [x 0, IntKind.i64.wrap (x 1 + 1), x 2, x 3, x 4, x 5, x 6, x 7, x 8, x 9, x 10, x 11, x 12, x 13, x 14, x 15, x 16]) (nthS [y 0, y 1]))) (
 rec (nthI [x 0, IntKind.i64.wrap (x 1 + 1), x 2, x 3, x 4, x 5, x 6, x 7, x 8, x 9, x 10, x 11, x 12, x 13, x 14, x 15, x 16]) (nthS [y 0, y 1]))))))) none) none) none) none) (
 some ((0, nthI [], nthS [])))
theorem se8_0 (f13 : (Nat → Int) → (Nat → Int) → (Int) → Option (Bool × Int)) (rec : (Nat → Int) → (Nat → Sl) → Option LR) (x : Nat → Int) (y : Nat → Sl) : evR (cx [] [(12, conF (aNil) (rOne (cB)) (fun a => f12)), (13, conF (aCons (pC (cA .i64 15)) (aCons (pC (cA .i64 22)) (aOne (pC (cI .i64))))) (rTup (cCons (cB) (cOne (cI .i64)))) (fun a => f13 (a.1) (a.2.1) (a.2.2))), (17, conF (aCons (pC (cA .i64 15)) (aOne (pSS kx31 kx3))) (rTup (cCons (cI .i64) (cOne (cI .i64)))) (fun a => f17 (a.1) (a.2)))] []) 1000 LR 100 (loopAt Tryd.f8 0) (encT x y T8_0) (roundK T8_0 outs8_0 rec) =
 (( cond (decide (x 1 < Int.ofNat (y 0).fst)) (
 cond (decide (0 ≤ x 1)) (
 cond (decide (x 1 < Int.ofNat (y 0).fst)) (
 cond (decide (0 ≤ minI (x 1) (IntKind.i64.wrap (Int.ofNat (y 1).fst - 1)))) (
 cond (decide (minI (x 1) (IntKind.i64.wrap (Int.ofNat (y 1).fst - 1)) < Int.ofNat (y 1).fst)) (
 Option.bind (f13 (nthI [x 2, x 3, x 4, x 5, x 6, x 7, x 8, x 9, x 10, x 11, x 12, x 13, x 14, x 15, x 16]) (nthI [(y 0).snd (x 1).toNat 0, (y 0).snd (x 1).toNat 1, (y 0).snd (x 1).toNat 2, (y 0).snd (x 1).toNat 3, (y 0).snd (x 1).toNat 4, (y 0).snd (x 1).toNat 5, (y 0).snd (x 1).toNat 6, (y 0).snd (x 1).toNat 7, (y 0).snd (x 1).toNat 8, (y 0).snd (x 1).toNat 9, (y 0).snd (x 1).toNat 10, (y 0).snd (x 1).toNat 11, (y 0).snd (x 1).toNat 12, (y 0).snd (x 1).toNat 13, (y 0).snd (x 1).toNat 14, (y 0).snd (x 1).toNat 15, (y 0).snd (x 1).toNat 16, (y 0).snd (x 1).toNat 17, (y 0).snd (x 1).toNat 18, (y 0).snd (x 1).toNat 19, (y 0).snd (x 1).toNat 20, (y 0).snd (x 1).toNat 21]) ((y 1).snd (minI (x 1) (IntKind.i64.wrap (Int.ofNat (y 1).fst - 1))).toNat 0)) (fun r3 =>
 cond (!decide (r3.snd = 0)) (
 some ((1, nthI [0], nthS []))) (
 cond (decide (x 1 = x 0)) (
 cond (r3.fst) (
 some ((1, nthI [0], nthS []))) (
 cond (decide (x 0 < 0)) (
 cond (!r3.fst) (
 some ((1, nthI [0], nthS []))) (
 rec (nthI [x 0, IntKind.i64.wrap (x 1 + 1), x 2, x 3, x 4, x 5, x 6, x 7, x 8, x 9, x 10, x 11, x 12, x 13, x 14, x 15, x 16]) (nthS [y 0, y 1]))) (
 cond (decide (x 1 < x 0)) (
 cond (!r3.fst) (
 some ((1, nthI [0], nthS []))) (
 rec (nthI [x 0, IntKind.i64.wrap (x 1 + 1), x 2, x 3, x 4, x 5, x 6, x 7, x 8, x 9, x 10, x 11, x 12, x 13, x 14, x 15, x 16]) (nthS [y 0, y 1]))) (
 rec (nthI [x 0, IntKind.i64.wrap (x 1 + 1), x 2, x 3, x 4, x 5, x 6, x 7, x 8, x 9, x 10, x 11, x 12, x 13, x 14, x 15, x 16]) (nthS [y 0, y 1]))))) (
 cond (decide (x 0 < 0)) (
 cond (!r3.fst) (
 some ((1, nthI [0], nthS []))) (
 rec (nthI [x 0, IntKind.i64.wrap (x 1 + 1), x 2, x 3, x 4, x 5, x 6, x 7, x 8, x 9, x 10, x 11, x 12, x 13, x 14, x 15, x 16]) (nthS [y 0, y 1]))) (
 cond (decide (x 1 < x 0)) (
 cond (!r3.fst) (
 some ((1, nthI [0], nthS []))) (
 rec (nthI [x 0, IntKind.i64.wrap (x 1 + 1), x 2, x 3, x 4, x 5, x 6, x 7, x 8, x 9, x 10, x 11, x 12, x 13, x 14, x 15, x 16]) (nthS [y 0, y 1]))) (
 rec (nthI [x 0, IntKind.i64.wrap (x 1 + 1), x 2, x 3, x 4, x 5, x 6, x 7, x 8, x 9, x 10, x 11, x 12, x 13, x 14, x 15, x 16]) (nthS [y 0, y 1]))))))) none) none) none) none) (
 some ((0, nthI [], nthS [])))) : Option LR) := by kernel_rfl
noncomputable def l8_0 (x : Nat → Int) (y : Nat → Sl) : Option LR := iterL s8_0 ((y 0).1 + 1) x y
theorem ls8_0 : LoopSpec Tryd.prog gG gl 100 ⟨T8_0, outs8_0, l8_0⟩ (loopAt Tryd.f8 0) := loop_ok (step := s8_0) (fu := fun x y => (y 0).1 + 1) okl8 1000 (lpNone rfl) (by kernel_rfl) (by kernel_rfl) (fun rec x y => se8_0 f13 rec x y) (fun _ _ => rfl)
theorem ok8 : CtxOK Tryd.prog (cx [] [(12, conF (aNil) (rOne (cB)) (fun a => f12)), (13, conF (aCons (pC (cA .i64 15)) (aCons (pC (cA .i64 22)) (aOne (pC (cI .i64))))) (rTup (cCons (cB) (cOne (cI .i64)))) (fun a => f13 (a.1) (a.2.1) (a.2.2))), (17, conF (aCons (pC (cA .i64 15)) (aOne (pSS kx31 kx3))) (rTup (cCons (cI .i64) (cOne (cI .i64)))) (fun a => f17 (a.1) (a.2)))] [(100009, ⟨T8_0, outs8_0, l8_0⟩)]) gl := ctx_of tyOk moOk (show SpecL Tryd.prog gG gl [(12, conF (aNil) (rOne (cB)) (fun a => f12)), (13, conF (aCons (pC (cA .i64 15)) (aCons (pC (cA .i64 22)) (aOne (pC (cI .i64))))) (rTup (cCons (cB) (cOne (cI .i64)))) (fun a => f13 (a.1) (a.2.1) (a.2.2))), (17, conF (aCons (pC (cA .i64 15)) (aOne (pSS kx31 kx3))) (rTup (cCons (cI .i64) (cOne (cI .i64)))) (fun a => f17 (a.1) (a.2)))] from ⟨sp12, sp13, sp17, trivial⟩) (show FnL Tryd.prog [] from trivial) (show FnLp Tryd.prog gG gl [(100009, ⟨T8_0, outs8_0, l8_0⟩)] [] from trivial) joinOk
theorem la8 : LpAll Tryd.prog (cx [] [(12, conF (aNil) (rOne (cB)) (fun a => f12)), (13, conF (aCons (pC (cA .i64 15)) (aCons (pC (cA .i64 22)) (aOne (pC (cI .i64))))) (rTup (cCons (cB) (cOne (cI .i64)))) (fun a => f13 (a.1) (a.2.1) (a.2.2))), (17, conF (aCons (pC (cA .i64 15)) (aOne (pSS kx31 kx3))) (rTup (cCons (cI .i64) (cOne (cI .i64)))) (fun a => f17 (a.1) (a.2)))] [(100009, ⟨T8_0, outs8_0, l8_0⟩)]) gl Tryd.f8 := lpAll_of (lps := [(100009, ⟨T8_0, outs8_0, l8_0⟩)]) rfl (ks := [100009]) (by kernel_rfl) (show LpS Tryd.prog gG gl Tryd.f8 [(100009, ⟨T8_0, outs8_0, l8_0⟩)] [100009] 0 from ⟨fun L h => (by cases h; exact ls8_0), trivial⟩)
noncomputable def f8 (a : Nat → Int) (b : Sl × Sl) : Option (Bool) :=
 cond (decide (20 < Int.ofNat b.fst.fst)) (
 Option.bind (f12) (fun r2 =>
 some (r2))) (
 cond (decide (20 < Int.ofNat b.snd.fst)) (
 Option.bind (f12) (fun r2 =>
 some (r2))) (
 Option.bind (f17 a b) (fun r2 =>
 cond (!decide (r2.snd = 0)) (
 cond (decide (r2.fst = 0)) (
 Option.bind (f12) (fun r3 =>
 some (r3))) (
 some (false))) (
 cond (decide (r2.fst < -1)) (
 some (false)) (
 cond (decide (Int.ofNat b.fst.fst ≤ r2.fst)) (
 some (false)) (
 cond (decide (Int.ofNat b.snd.fst < 1)) (
 some (false)) (
 Option.bind (l8_0 (nthI [r2.fst, 0, a 0, a 1, a 2, a 3, a 4, a 5, a 6, a 7, a 8, a 9, a 10, a 11, a 12, a 13, a 14]) (nthS [b.fst, b.snd])) (fun r3 =>
 cond (decide (r3.fst = 0)) (
 Option.bind (f12) (fun r4 =>
 some (r4))) (
 some (!decide (r3.snd.fst 0 = 0)))))))))))
theorem evg8 (f12 : Option (Bool)) (f17 : (Nat → Int) → (Sl × Sl) → Option (Int × Int)) (l8_0 : (Nat → Int) → (Nat → Sl) → Option LR) (xx : (aCons (pC (cA .i64 15)) (aOne (pSS kx31 kx3))).T) : evF (R := (rOne (cB)).T) (cx [] [(12, conF (aNil) (rOne (cB)) (fun a => f12)), (13, conF (aCons (pC (cA .i64 15)) (aCons (pC (cA .i64 22)) (aOne (pC (cI .i64))))) (rTup (cCons (cB) (cOne (cI .i64)))) (fun a => f13 (a.1) (a.2.1) (a.2.2))), (17, conF (aCons (pC (cA .i64 15)) (aOne (pSS kx31 kx3))) (rTup (cCons (cI .i64) (cOne (cI .i64)))) (fun a => f17 (a.1) (a.2)))] [(100009, ⟨T8_0, outs8_0, l8_0⟩)]) 1000 Tryd.f8 ((aCons (pC (cA .i64 15)) (aOne (pSS kx31 kx3))).enc gG xx) (glMem gl) 4 (rOne (cB)).dec =
 (fun (a : Nat → Int) (b : Sl × Sl) =>
 (( cond (decide (20 < Int.ofNat b.fst.fst)) (
 Option.bind (f12) (fun r2 =>
 some (r2))) (
 cond (decide (20 < Int.ofNat b.snd.fst)) (
 Option.bind (f12) (fun r2 =>
 some (r2))) (
 Option.bind (f17 (nthI [a 0, a 1, a 2, a 3, a 4, a 5, a 6, a 7, a 8, a 9, a 10, a 11, a 12, a 13, a 14]) b) (fun r2 =>
 cond (!decide (r2.snd = 0)) (
 cond (decide (r2.fst = 0)) (
 Option.bind (f12) (fun r3 =>
 some (r3))) (
 some (false))) (
 cond (decide (r2.fst < -1)) (
 some (false)) (
 cond (decide (Int.ofNat b.fst.fst ≤ r2.fst)) (
 some (false)) (
 cond (decide (Int.ofNat b.snd.fst < 1)) (
 some (false)) (
 Option.bind (l8_0 (nthI [r2.fst, 0, a 0, a 1, a 2, a 3, a 4, a 5, a 6, a 7, a 8, a 9, a 10, a 11, a 12, a 13, a 14]) (nthS [b.fst, b.snd])) (fun r3 =>
 cond (decide (r3.fst = 0)) (
 Option.bind (f12) (fun r4 =>
 some (r4))) (
 some (!decide (r3.snd.fst 0 = 0)))))))))))) : Option (Bool))) xx.1 xx.2 := by kernel_rfl
noncomputable def g8 (a : Nat → Int) (b : Sl × Sl) : Option (Bool) :=
 cond (decide (20 < Int.ofNat b.fst.fst)) (
 Option.bind (f12) (fun r2 =>
 some (r2))) (
 cond (decide (20 < Int.ofNat b.snd.fst)) (
 Option.bind (f12) (fun r2 =>
 some (r2))) (
 Option.bind (f17 (nthI [a 0, a 1, a 2, a 3, a 4, a 5, a 6, a 7, a 8, a 9, a 10, a 11, a 12, a 13, a 14]) b) (fun r2 =>
 cond (!decide (r2.snd = 0)) (
 cond (decide (r2.fst = 0)) (
 Option.bind (f12) (fun r3 =>
 some (r3))) (
 some (false))) (
 cond (decide (r2.fst < -1)) (
 some (false)) (
 cond (decide (Int.ofNat b.fst.fst ≤ r2.fst)) (
 some (false)) (
 cond (decide (Int.ofNat b.snd.fst < 1)) (
 some (false)) (
 Option.bind (l8_0 (nthI [r2.fst, 0, a 0, a 1, a 2, a 3, a 4, a 5, a 6, a 7, a 8, a 9, a 10, a 11, a 12, a 13, a 14]) (nthS [b.fst, b.snd])) (fun r3 =>
 cond (decide (r3.fst = 0)) (
 Option.bind (f12) (fun r4 =>
 some (r4))) (
 some (!decide (r3.snd.fst 0 = 0)))))))))))
theorem fg8 (a : Nat → Int) (b : Sl × Sl) : g8 a b = f8 a b := by kernel_rfl
theorem ev8 (a : (aCons (pC (cA .i64 15)) (aOne (pSS kx31 kx3))).T) : evF (R := (rOne (cB)).T) (cx [] [(12, conF (aNil) (rOne (cB)) (fun a => f12)), (13, conF (aCons (pC (cA .i64 15)) (aCons (pC (cA .i64 22)) (aOne (pC (cI .i64))))) (rTup (cCons (cB) (cOne (cI .i64)))) (fun a => f13 (a.1) (a.2.1) (a.2.2))), (17, conF (aCons (pC (cA .i64 15)) (aOne (pSS kx31 kx3))) (rTup (cCons (cI .i64) (cOne (cI .i64)))) (fun a => f17 (a.1) (a.2)))] [(100009, ⟨T8_0, outs8_0, l8_0⟩)]) 1000 Tryd.f8 ((aCons (pC (cA .i64 15)) (aOne (pSS kx31 kx3))).enc gG a) (glMem gl) 4 (rOne (cB)).dec = f8 a.1 a.2 := (show evF (R := (rOne (cB)).T) (cx [] [(12, conF (aNil) (rOne (cB)) (fun a => f12)), (13, conF (aCons (pC (cA .i64 15)) (aCons (pC (cA .i64 22)) (aOne (pC (cI .i64))))) (rTup (cCons (cB) (cOne (cI .i64)))) (fun a => f13 (a.1) (a.2.1) (a.2.2))), (17, conF (aCons (pC (cA .i64 15)) (aOne (pSS kx31 kx3))) (rTup (cCons (cI .i64) (cOne (cI .i64)))) (fun a => f17 (a.1) (a.2)))] [(100009, ⟨T8_0, outs8_0, l8_0⟩)]) 1000 Tryd.f8 ((aCons (pC (cA .i64 15)) (aOne (pSS kx31 kx3))).enc gG a) (glMem gl) 4 (rOne (cB)).dec = g8 a.1 a.2 from evg8 f12 f17 l8_0 a).trans (fg8 a.1 a.2)
theorem sp8 : VE.Spec Tryd.prog gG gl 8 (conF (aCons (pC (cA .i64 15)) (aOne (pSS kx31 kx3))) (rOne (cB)) (fun a => f8 a.1 a.2)) := spec_of ok8 Tryd.func8 Tryd.call8 la8 1000 (aCons_ok (pC_ok (cA_ok _ _)) (aOne_ok (pSS_ok _ _))) (rOne_ok (cB_ok)) ev8

/-- angle.Mirror -/
theorem ok39 : CtxOK Tryd.prog (cx [] [(66, conF (aOne (pC (cI .i64))) (rOne (cI .i64)) (fun a => f66 a))] []) gl := ctx_of tyOk moOk (show SpecL Tryd.prog gG gl [(66, conF (aOne (pC (cI .i64))) (rOne (cI .i64)) (fun a => f66 a))] from ⟨sp66, trivial⟩) (show FnL Tryd.prog [] from trivial) (fnLp_nil _) joinOk
noncomputable def f39 (a : Int) : Option (Int) :=
 Option.bind (f66 a) (fun r1 =>
 Option.bind (f66 (IntKind.i64.wrap (0 - r1))) (fun r2 =>
 some (r2)))
theorem evg39 (f66 : (Int) → Option (Int))  (xx : (aOne (pC (cI .i64))).T) : evF (R := (rOne (cI .i64)).T) (cx [] [(66, conF (aOne (pC (cI .i64))) (rOne (cI .i64)) (fun a => f66 a))] []) 1000 Tryd.f39 ((aOne (pC (cI .i64))).enc gG xx) (glMem gl) 2 (rOne (cI .i64)).dec =
 (fun (a : Int) =>
 (( Option.bind (f66 a) (fun r1 =>
 Option.bind (f66 (IntKind.i64.wrap (0 - r1))) (fun r2 =>
 some (r2)))) : Option (Int))) xx := by kernel_rfl
theorem ev39 (a : (aOne (pC (cI .i64))).T) : evF (R := (rOne (cI .i64)).T) (cx [] [(66, conF (aOne (pC (cI .i64))) (rOne (cI .i64)) (fun a => f66 a))] []) 1000 Tryd.f39 ((aOne (pC (cI .i64))).enc gG a) (glMem gl) 2 (rOne (cI .i64)).dec = f39 a := evg39 f66  a
theorem sp39 : VE.Spec Tryd.prog gG gl 39 (conF (aOne (pC (cI .i64))) (rOne (cI .i64)) (fun a => f39 a)) := spec_of ok39 Tryd.func39 Tryd.call39 (lpAll_nil rfl) 1000 (aOne_ok (pC_ok (cI_ok _))) (rOne_ok (cI_ok _)) ev39

/-- aim.Mirror -/
theorem ok41 : CtxOK Tryd.prog (cx [] [(37, conF (aCons (pC (cI .i64)) (aOne (pC (cA .i64 3)))) (rOne (cI .i64)) (fun a => f37 (a.1) (a.2))), (39, conF (aOne (pC (cI .i64))) (rOne (cI .i64)) (fun a => f39 a))] []) gl := ctx_of tyOk moOk (show SpecL Tryd.prog gG gl [(37, conF (aCons (pC (cI .i64)) (aOne (pC (cA .i64 3)))) (rOne (cI .i64)) (fun a => f37 (a.1) (a.2))), (39, conF (aOne (pC (cI .i64))) (rOne (cI .i64)) (fun a => f39 a))] from ⟨sp37, sp39, trivial⟩) (show FnL Tryd.prog [] from trivial) (fnLp_nil _) joinOk
noncomputable def f41 (a : Int) (b : Nat → Int) : Option ((Nat → Int) × Int) :=
 Option.bind (f37 a b) (fun r2 =>
 cond (!decide (r2 = 0)) (
 some ((nthI [0, 0, 0], r2))) (
 Option.bind (f39 (b 0)) (fun r3 =>
 some ((nthI [r3, b 1, b 2], 0)))))
theorem evg41 (f37 : (Int) → (Nat → Int) → Option (Int)) (f39 : (Int) → Option (Int))  (xx : (aCons (pC (cI .i64)) (aOne (pC (cA .i64 3)))).T) : evF (R := (rTup (cCons (cA .i64 3) (cOne (cI .i64)))).T) (cx [] [(37, conF (aCons (pC (cI .i64)) (aOne (pC (cA .i64 3)))) (rOne (cI .i64)) (fun a => f37 (a.1) (a.2))), (39, conF (aOne (pC (cI .i64))) (rOne (cI .i64)) (fun a => f39 a))] []) 1000 Tryd.f41 ((aCons (pC (cI .i64)) (aOne (pC (cA .i64 3)))).enc gG xx) (glMem gl) 2 (rTup (cCons (cA .i64 3) (cOne (cI .i64)))).dec =
 (fun (a : Int) (b : Nat → Int) =>
 (( Option.bind (f37 a (nthI [b 0, b 1, b 2])) (fun r2 =>
 cond (!decide (r2 = 0)) (
 some ((nthI [0, 0, 0], r2))) (
 Option.bind (f39 (b 0)) (fun r3 =>
 some ((nthI [r3, b 1, b 2], 0)))))) : Option ((Nat → Int) × Int))) xx.1 xx.2 := by kernel_rfl
noncomputable def g41 (a : Int) (b : Nat → Int) : Option ((Nat → Int) × Int) :=
 Option.bind (f37 a (nthI [b 0, b 1, b 2])) (fun r2 =>
 cond (!decide (r2 = 0)) (
 some ((nthI [0, 0, 0], r2))) (
 Option.bind (f39 (b 0)) (fun r3 =>
 some ((nthI [r3, b 1, b 2], 0)))))
theorem fg41 (a : Int) (b : Nat → Int) : g41 a b = f41 a b := by kernel_rfl
theorem ev41 (a : (aCons (pC (cI .i64)) (aOne (pC (cA .i64 3)))).T) : evF (R := (rTup (cCons (cA .i64 3) (cOne (cI .i64)))).T) (cx [] [(37, conF (aCons (pC (cI .i64)) (aOne (pC (cA .i64 3)))) (rOne (cI .i64)) (fun a => f37 (a.1) (a.2))), (39, conF (aOne (pC (cI .i64))) (rOne (cI .i64)) (fun a => f39 a))] []) 1000 Tryd.f41 ((aCons (pC (cI .i64)) (aOne (pC (cA .i64 3)))).enc gG a) (glMem gl) 2 (rTup (cCons (cA .i64 3) (cOne (cI .i64)))).dec = f41 a.1 a.2 := (show evF (R := (rTup (cCons (cA .i64 3) (cOne (cI .i64)))).T) (cx [] [(37, conF (aCons (pC (cI .i64)) (aOne (pC (cA .i64 3)))) (rOne (cI .i64)) (fun a => f37 (a.1) (a.2))), (39, conF (aOne (pC (cI .i64))) (rOne (cI .i64)) (fun a => f39 a))] []) 1000 Tryd.f41 ((aCons (pC (cI .i64)) (aOne (pC (cA .i64 3)))).enc gG a) (glMem gl) 2 (rTup (cCons (cA .i64 3) (cOne (cI .i64)))).dec = g41 a.1 a.2 from evg41 f37 f39  a).trans (fg41 a.1 a.2)
theorem sp41 : VE.Spec Tryd.prog gG gl 41 (conF (aCons (pC (cI .i64)) (aOne (pC (cA .i64 3)))) (rTup (cCons (cA .i64 3) (cOne (cI .i64)))) (fun a => f41 a.1 a.2)) := spec_of ok41 Tryd.func41 Tryd.call41 (lpAll_nil rfl) 1000 (aCons_ok (pC_ok (cI_ok _)) (aOne_ok (pC_ok (cA_ok _ _)))) (rTup_ok (cCons_ok (cA_ok _ _) (cOne_ok (cI_ok _)))) ev41

/-- posture.MirrorPose -/
theorem ok21 : CtxOK Tryd.prog (cx [(40, Tryd.f40)] [(19, conF (aOne (pC (cA .i64 22))) (rOne (cI .i64)) (fun a => f19 a)), (39, conF (aOne (pC (cI .i64))) (rOne (cI .i64)) (fun a => f39 a)), (41, conF (aCons (pC (cI .i64)) (aOne (pC (cA .i64 3)))) (rTup (cCons (cA .i64 3) (cOne (cI .i64)))) (fun a => f41 (a.1) (a.2)))] []) gl := ctx_of tyOk moOk (show SpecL Tryd.prog gG gl [(19, conF (aOne (pC (cA .i64 22))) (rOne (cI .i64)) (fun a => f19 a)), (39, conF (aOne (pC (cI .i64))) (rOne (cI .i64)) (fun a => f39 a)), (41, conF (aCons (pC (cI .i64)) (aOne (pC (cA .i64 3)))) (rTup (cCons (cA .i64 3) (cOne (cI .i64)))) (fun a => f41 (a.1) (a.2)))] from ⟨sp19, sp39, sp41, trivial⟩) (show FnL Tryd.prog [(40, Tryd.f40)] from ⟨⟨Tryd.func40, Tryd.call40⟩, trivial⟩) (fnLp_nil _) joinOk
noncomputable def f21 (a : Nat → Int) : Option ((Nat → Int) × Int) :=
 Option.bind (f19 a) (fun r1 =>
 cond (!decide (r1 = 0)) (
 some ((nthI [0, 0, 0, 0, 0, 0, 0, 0, 0, 0, 0, 0, 0, 0, 0, 0, 0, 0, 0, 0, 0, 0], r1))) (
 Option.bind (f39 (a 2)) (fun r2 =>
 Option.bind (f41 0 (nthI [a 4, a 5, a 6])) (fun r3 =>
 Option.bind (f41 1 (nthI [a 7, a 8, a 9])) (fun r4 =>
 Option.bind (f41 2 (nthI [a 10, a 11, a 12])) (fun r5 =>
 Option.bind (f41 3 (nthI [a 13, a 14, a 15])) (fun r6 =>
 Option.bind (f41 4 (nthI [a 16, a 17, a 18])) (fun r7 =>
 Option.bind (f41 5 (nthI [a 19, a 20, a 21])) (fun r8 =>
 some ((nthI [IntKind.i64.wrap (0 - a 0), a 1, r2, a 3, r4.fst 0, r4.fst 1, r4.fst 2, r3.fst 0, r3.fst 1, r3.fst 2, r5.fst 0, r5.fst 1, r5.fst 2, r7.fst 0, r7.fst 1, r7.fst 2, r6.fst 0, r6.fst 1, r6.fst 2, r8.fst 0, r8.fst 1, r8.fst 2], 0)))))))))))
theorem evg21 (f19 : (Nat → Int) → Option (Int)) (f39 : (Int) → Option (Int)) (f41 : (Int) → (Nat → Int) → Option ((Nat → Int) × Int))  (xx : (aOne (pC (cA .i64 22))).T) : evF (R := (rTup (cCons (cA .i64 22) (cOne (cI .i64)))).T) (cx [(40, Tryd.f40)] [(19, conF (aOne (pC (cA .i64 22))) (rOne (cI .i64)) (fun a => f19 a)), (39, conF (aOne (pC (cI .i64))) (rOne (cI .i64)) (fun a => f39 a)), (41, conF (aCons (pC (cI .i64)) (aOne (pC (cA .i64 3)))) (rTup (cCons (cA .i64 3) (cOne (cI .i64)))) (fun a => f41 (a.1) (a.2)))] []) 1000 Tryd.f21 ((aOne (pC (cA .i64 22))).enc gG xx) (glMem gl) 2 (rTup (cCons (cA .i64 22) (cOne (cI .i64)))).dec =
 (fun (a : Nat → Int) =>
 (( Option.bind (f19 (nthI [a 0, a 1, a 2, a 3, a 4, a 5, a 6, a 7, a 8, a 9, a 10, a 11, a 12, a 13, a 14, a 15, a 16, a 17, a 18, a 19, a 20, a 21])) (fun r1 =>
 cond (!decide (r1 = 0)) (
 some ((nthI [0, 0, 0, 0, 0, 0, 0, 0, 0, 0, 0, 0, 0, 0, 0, 0, 0, 0, 0, 0, 0, 0], r1))) (
 Option.bind (f39 (a 2)) (fun r2 =>
 Option.bind (f41 0 (nthI [a 4, a 5, a 6])) (fun r3 =>
 Option.bind (f41 1 (nthI [a 7, a 8, a 9])) (fun r4 =>
 Option.bind (f41 2 (nthI [a 10, a 11, a 12])) (fun r5 =>
 Option.bind (f41 3 (nthI [a 13, a 14, a 15])) (fun r6 =>
 Option.bind (f41 4 (nthI [a 16, a 17, a 18])) (fun r7 =>
 Option.bind (f41 5 (nthI [a 19, a 20, a 21])) (fun r8 =>
 some ((nthI [IntKind.i64.wrap (0 - a 0), a 1, r2, a 3, r4.fst 0, r4.fst 1, r4.fst 2, r3.fst 0, r3.fst 1, r3.fst 2, r5.fst 0, r5.fst 1, r5.fst 2, r7.fst 0, r7.fst 1, r7.fst 2, r6.fst 0, r6.fst 1, r6.fst 2, r8.fst 0, r8.fst 1, r8.fst 2], 0)))))))))))) : Option ((Nat → Int) × Int))) xx := by kernel_rfl
noncomputable def g21 (a : Nat → Int) : Option ((Nat → Int) × Int) :=
 Option.bind (f19 (nthI [a 0, a 1, a 2, a 3, a 4, a 5, a 6, a 7, a 8, a 9, a 10, a 11, a 12, a 13, a 14, a 15, a 16, a 17, a 18, a 19, a 20, a 21])) (fun r1 =>
 cond (!decide (r1 = 0)) (
 some ((nthI [0, 0, 0, 0, 0, 0, 0, 0, 0, 0, 0, 0, 0, 0, 0, 0, 0, 0, 0, 0, 0, 0], r1))) (
 Option.bind (f39 (a 2)) (fun r2 =>
 Option.bind (f41 0 (nthI [a 4, a 5, a 6])) (fun r3 =>
 Option.bind (f41 1 (nthI [a 7, a 8, a 9])) (fun r4 =>
 Option.bind (f41 2 (nthI [a 10, a 11, a 12])) (fun r5 =>
 Option.bind (f41 3 (nthI [a 13, a 14, a 15])) (fun r6 =>
 Option.bind (f41 4 (nthI [a 16, a 17, a 18])) (fun r7 =>
 Option.bind (f41 5 (nthI [a 19, a 20, a 21])) (fun r8 =>
 some ((nthI [IntKind.i64.wrap (0 - a 0), a 1, r2, a 3, r4.fst 0, r4.fst 1, r4.fst 2, r3.fst 0, r3.fst 1, r3.fst 2, r5.fst 0, r5.fst 1, r5.fst 2, r7.fst 0, r7.fst 1, r7.fst 2, r6.fst 0, r6.fst 1, r6.fst 2, r8.fst 0, r8.fst 1, r8.fst 2], 0)))))))))))
theorem fg21 (a : Nat → Int) : g21 a = f21 a := by kernel_rfl
theorem ev21 (a : (aOne (pC (cA .i64 22))).T) : evF (R := (rTup (cCons (cA .i64 22) (cOne (cI .i64)))).T) (cx [(40, Tryd.f40)] [(19, conF (aOne (pC (cA .i64 22))) (rOne (cI .i64)) (fun a => f19 a)), (39, conF (aOne (pC (cI .i64))) (rOne (cI .i64)) (fun a => f39 a)), (41, conF (aCons (pC (cI .i64)) (aOne (pC (cA .i64 3)))) (rTup (cCons (cA .i64 3) (cOne (cI .i64)))) (fun a => f41 (a.1) (a.2)))] []) 1000 Tryd.f21 ((aOne (pC (cA .i64 22))).enc gG a) (glMem gl) 2 (rTup (cCons (cA .i64 22) (cOne (cI .i64)))).dec = f21 a := (show evF (R := (rTup (cCons (cA .i64 22) (cOne (cI .i64)))).T) (cx [(40, Tryd.f40)] [(19, conF (aOne (pC (cA .i64 22))) (rOne (cI .i64)) (fun a => f19 a)), (39, conF (aOne (pC (cI .i64))) (rOne (cI .i64)) (fun a => f39 a)), (41, conF (aCons (pC (cI .i64)) (aOne (pC (cA .i64 3)))) (rTup (cCons (cA .i64 3) (cOne (cI .i64)))) (fun a => f41 (a.1) (a.2)))] []) 1000 Tryd.f21 ((aOne (pC (cA .i64 22))).enc gG a) (glMem gl) 2 (rTup (cCons (cA .i64 22) (cOne (cI .i64)))).dec = g21 a from evg21 f19 f39 f41  a).trans (fg21 a)
theorem sp21 : VE.Spec Tryd.prog gG gl 21 (conF (aOne (pC (cA .i64 22))) (rTup (cCons (cA .i64 22) (cOne (cI .i64)))) (fun a => f21 a)) := spec_of ok21 Tryd.func21 Tryd.call21 (lpAll_nil rfl) 1000 (aOne_ok (pC_ok (cA_ok _ _))) (rTup_ok (cCons_ok (cA_ok _ _) (cOne_ok (cI_ok _)))) ev21
end Go.Proofs.YtggiamcgkiaicaaDoor
