/-
  THE CONTRACTS, continued.
-/
import Derived.Test.YtggiamcgkiaicaaDoorFb
open Go Go.VE Go.Proofs
set_option maxRecDepth 1000000
set_option maxHeartbeats 0
set_option linter.unusedVariables false
namespace Go.Proofs.YtggiamcgkiaicaaDoor


/-- posture.turned -/
theorem ok42 : CtxOK Tryd.prog (cx [] [] []) gl := ctx_of tyOk moOk (show SpecL Tryd.prog gG gl [] from trivial) (show FnL Tryd.prog [] from trivial) (fnLp_nil _) joinOk
noncomputable def f42 (a : Nat → Int) (b : Int) : Option ((Nat → Int) × Int) :=
 cond (decide (0 < (IntKind.i64.wrap (b.tmod 4 + 4)).tmod 4)) (
 cond (decide (1 < (IntKind.i64.wrap (b.tmod 4 + 4)).tmod 4)) (
 cond (decide (2 < (IntKind.i64.wrap (b.tmod 4 + 4)).tmod 4)) (
 cond (decide (3 < (IntKind.i64.wrap (b.tmod 4 + 4)).tmod 4)) (
 cond (decide (4 < (IntKind.i64.wrap (b.tmod 4 + 4)).tmod 4)) (
 cond (decide (5 < (IntKind.i64.wrap (b.tmod 4 + 4)).tmod 4)) (
 cond (decide (6 < (IntKind.i64.wrap (b.tmod 4 + 4)).tmod 4)) none (
 some ((nthI [IntKind.i64.wrap (0 - IntKind.i64.wrap (0 - IntKind.i64.wrap (0 - a 0))), IntKind.i64.wrap (0 - IntKind.i64.wrap (0 - IntKind.i64.wrap (0 - a 1)))], (IntKind.i64.wrap (b.tmod 4 + 4)).tmod 4)))) (
 some ((nthI [IntKind.i64.wrap (0 - IntKind.i64.wrap (0 - a 1)), IntKind.i64.wrap (0 - IntKind.i64.wrap (0 - IntKind.i64.wrap (0 - a 0)))], (IntKind.i64.wrap (b.tmod 4 + 4)).tmod 4)))) (
 some ((nthI [IntKind.i64.wrap (0 - IntKind.i64.wrap (0 - a 0)), IntKind.i64.wrap (0 - IntKind.i64.wrap (0 - a 1))], (IntKind.i64.wrap (b.tmod 4 + 4)).tmod 4)))) (
 some ((nthI [IntKind.i64.wrap (0 - a 1), IntKind.i64.wrap (0 - IntKind.i64.wrap (0 - a 0))], (IntKind.i64.wrap (b.tmod 4 + 4)).tmod 4)))) (
 some ((nthI [IntKind.i64.wrap (0 - a 0), IntKind.i64.wrap (0 - a 1)], (IntKind.i64.wrap (b.tmod 4 + 4)).tmod 4)))) (
 some ((nthI [a 1, IntKind.i64.wrap (0 - a 0)], (IntKind.i64.wrap (b.tmod 4 + 4)).tmod 4)))) (
 some ((nthI [a 0, a 1], (IntKind.i64.wrap (b.tmod 4 + 4)).tmod 4)))
theorem evg42   (xx : (aCons (pC (cA .i64 2)) (aOne (pC (cI .i64)))).T) : evF (R := (rTup (cCons (cA .i64 2) (cOne (cI .i64)))).T) (cx [] [] []) 16 Tryd.f42 ((aCons (pC (cA .i64 2)) (aOne (pC (cI .i64)))).enc gG xx) (glMem gl) 2 (rTup (cCons (cA .i64 2) (cOne (cI .i64)))).dec =
 (fun (a : Nat → Int) (b : Int) =>
 (( cond (decide (0 < (IntKind.i64.wrap (b.tmod 4 + 4)).tmod 4)) (
 cond (decide (1 < (IntKind.i64.wrap (b.tmod 4 + 4)).tmod 4)) (
 cond (decide (2 < (IntKind.i64.wrap (b.tmod 4 + 4)).tmod 4)) (
 cond (decide (3 < (IntKind.i64.wrap (b.tmod 4 + 4)).tmod 4)) (
 cond (decide (4 < (IntKind.i64.wrap (b.tmod 4 + 4)).tmod 4)) (
 cond (decide (5 < (IntKind.i64.wrap (b.tmod 4 + 4)).tmod 4)) (
 cond (decide (6 < (IntKind.i64.wrap (b.tmod 4 + 4)).tmod 4)) none (
 some ((nthI [IntKind.i64.wrap (0 - IntKind.i64.wrap (0 - IntKind.i64.wrap (0 - a 0))), IntKind.i64.wrap (0 - IntKind.i64.wrap (0 - IntKind.i64.wrap (0 - a 1)))], (IntKind.i64.wrap (b.tmod 4 + 4)).tmod 4)))) (
 some ((nthI [IntKind.i64.wrap (0 - IntKind.i64.wrap (0 - a 1)), IntKind.i64.wrap (0 - IntKind.i64.wrap (0 - IntKind.i64.wrap (0 - a 0)))], (IntKind.i64.wrap (b.tmod 4 + 4)).tmod 4)))) (
 some ((nthI [IntKind.i64.wrap (0 - IntKind.i64.wrap (0 - a 0)), IntKind.i64.wrap (0 - IntKind.i64.wrap (0 - a 1))], (IntKind.i64.wrap (b.tmod 4 + 4)).tmod 4)))) (
 some ((nthI [IntKind.i64.wrap (0 - a 1), IntKind.i64.wrap (0 - IntKind.i64.wrap (0 - a 0))], (IntKind.i64.wrap (b.tmod 4 + 4)).tmod 4)))) (
 some ((nthI [IntKind.i64.wrap (0 - a 0), IntKind.i64.wrap (0 - a 1)], (IntKind.i64.wrap (b.tmod 4 + 4)).tmod 4)))) (
 some ((nthI [a 1, IntKind.i64.wrap (0 - a 0)], (IntKind.i64.wrap (b.tmod 4 + 4)).tmod 4)))) (
 some ((nthI [a 0, a 1], (IntKind.i64.wrap (b.tmod 4 + 4)).tmod 4)))) : Option ((Nat → Int) × Int))) xx.1 xx.2 := by kernel_rfl
theorem ev42 (a : (aCons (pC (cA .i64 2)) (aOne (pC (cI .i64)))).T) : evF (R := (rTup (cCons (cA .i64 2) (cOne (cI .i64)))).T) (cx [] [] []) 16 Tryd.f42 ((aCons (pC (cA .i64 2)) (aOne (pC (cI .i64)))).enc gG a) (glMem gl) 2 (rTup (cCons (cA .i64 2) (cOne (cI .i64)))).dec = f42 a.1 a.2 := evg42   a
theorem sp42 : VE.Spec Tryd.prog gG gl 42 (conF (aCons (pC (cA .i64 2)) (aOne (pC (cI .i64)))) (rTup (cCons (cA .i64 2) (cOne (cI .i64)))) (fun a => f42 a.1 a.2)) := spec_of ok42 Tryd.func42 Tryd.call42 (lpAll_nil rfl) 16 (aCons_ok (pC_ok (cA_ok _ _)) (aOne_ok (pC_ok (cI_ok _)))) (rTup_ok (cCons_ok (cA_ok _ _) (cOne_ok (cI_ok _)))) ev42

/-- posture.RotatePose -/
theorem ok22 : CtxOK Tryd.prog (cx [] [(19, conF (aOne (pC (cA .i64 22))) (rOne (cI .i64)) (fun a => f19 a)), (42, conF (aCons (pC (cA .i64 2)) (aOne (pC (cI .i64)))) (rTup (cCons (cA .i64 2) (cOne (cI .i64)))) (fun a => f42 (a.1) (a.2)))] []) gl := ctx_of tyOk moOk (show SpecL Tryd.prog gG gl [(19, conF (aOne (pC (cA .i64 22))) (rOne (cI .i64)) (fun a => f19 a)), (42, conF (aCons (pC (cA .i64 2)) (aOne (pC (cI .i64)))) (rTup (cCons (cA .i64 2) (cOne (cI .i64)))) (fun a => f42 (a.1) (a.2)))] from ⟨sp19, sp42, trivial⟩) (show FnL Tryd.prog [] from trivial) (fnLp_nil _) joinOk
noncomputable def f22 (a : Nat → Int) (b : Int) : Option ((Nat → Int) × Int) :=
 Option.bind (f19 a) (fun r2 =>
 cond (!decide (r2 = 0)) (
 some ((nthI [0, 0, 0, 0, 0, 0, 0, 0, 0, 0, 0, 0, 0, 0, 0, 0, 0, 0, 0, 0, 0, 0], r2))) (
 Option.bind (f42 a b) (fun r3 =>
 some ((nthI [r3.fst 0, r3.fst 1, (IntKind.i64.wrap (a 2 + IntKind.i64.wrap (64 * r3.snd))).tmod 256, a 3, a 4, a 5, a 6, a 7, a 8, a 9, a 10, a 11, a 12, a 13, a 14, a 15, a 16, a 17, a 18, a 19, a 20, a 21], 0)))))
theorem evg22 (f19 : (Nat → Int) → Option (Int)) (f42 : (Nat → Int) → (Int) → Option ((Nat → Int) × Int))  (xx : (aCons (pC (cA .i64 22)) (aOne (pC (cI .i64)))).T) : evF (R := (rTup (cCons (cA .i64 22) (cOne (cI .i64)))).T) (cx [] [(19, conF (aOne (pC (cA .i64 22))) (rOne (cI .i64)) (fun a => f19 a)), (42, conF (aCons (pC (cA .i64 2)) (aOne (pC (cI .i64)))) (rTup (cCons (cA .i64 2) (cOne (cI .i64)))) (fun a => f42 (a.1) (a.2)))] []) 1000 Tryd.f22 ((aCons (pC (cA .i64 22)) (aOne (pC (cI .i64)))).enc gG xx) (glMem gl) 2 (rTup (cCons (cA .i64 22) (cOne (cI .i64)))).dec =
 (fun (a : Nat → Int) (b : Int) =>
 (( Option.bind (f19 (nthI [a 0, a 1, a 2, a 3, a 4, a 5, a 6, a 7, a 8, a 9, a 10, a 11, a 12, a 13, a 14, a 15, a 16, a 17, a 18, a 19, a 20, a 21])) (fun r2 =>
 cond (!decide (r2 = 0)) (
 some ((nthI [0, 0, 0, 0, 0, 0, 0, 0, 0, 0, 0, 0, 0, 0, 0, 0, 0, 0, 0, 0, 0, 0], r2))) (
 Option.bind (f42 (nthI [a 0, a 1]) b) (fun r3 =>
 some ((nthI [r3.fst 0, r3.fst 1, (IntKind.i64.wrap (a 2 + IntKind.i64.wrap (64 * r3.snd))).tmod 256, a 3, a 4, a 5, a 6, a 7, a 8, a 9, a 10, a 11, a 12, a 13, a 14, a 15, a 16, a 17, a 18, a 19, a 20, a 21], 0)))))) : Option ((Nat → Int) × Int))) xx.1 xx.2 := by kernel_rfl
noncomputable def g22 (a : Nat → Int) (b : Int) : Option ((Nat → Int) × Int) :=
 Option.bind (f19 (nthI [a 0, a 1, a 2, a 3, a 4, a 5, a 6, a 7, a 8, a 9, a 10, a 11, a 12, a 13, a 14, a 15, a 16, a 17, a 18, a 19, a 20, a 21])) (fun r2 =>
 cond (!decide (r2 = 0)) (
 some ((nthI [0, 0, 0, 0, 0, 0, 0, 0, 0, 0, 0, 0, 0, 0, 0, 0, 0, 0, 0, 0, 0, 0], r2))) (
 Option.bind (f42 (nthI [a 0, a 1]) b) (fun r3 =>
 some ((nthI [r3.fst 0, r3.fst 1, (IntKind.i64.wrap (a 2 + IntKind.i64.wrap (64 * r3.snd))).tmod 256, a 3, a 4, a 5, a 6, a 7, a 8, a 9, a 10, a 11, a 12, a 13, a 14, a 15, a 16, a 17, a 18, a 19, a 20, a 21], 0)))))
theorem fg22 (a : Nat → Int) (b : Int) : g22 a b = f22 a b := by kernel_rfl
theorem ev22 (a : (aCons (pC (cA .i64 22)) (aOne (pC (cI .i64)))).T) : evF (R := (rTup (cCons (cA .i64 22) (cOne (cI .i64)))).T) (cx [] [(19, conF (aOne (pC (cA .i64 22))) (rOne (cI .i64)) (fun a => f19 a)), (42, conF (aCons (pC (cA .i64 2)) (aOne (pC (cI .i64)))) (rTup (cCons (cA .i64 2) (cOne (cI .i64)))) (fun a => f42 (a.1) (a.2)))] []) 1000 Tryd.f22 ((aCons (pC (cA .i64 22)) (aOne (pC (cI .i64)))).enc gG a) (glMem gl) 2 (rTup (cCons (cA .i64 22) (cOne (cI .i64)))).dec = f22 a.1 a.2 := (show evF (R := (rTup (cCons (cA .i64 22) (cOne (cI .i64)))).T) (cx [] [(19, conF (aOne (pC (cA .i64 22))) (rOne (cI .i64)) (fun a => f19 a)), (42, conF (aCons (pC (cA .i64 2)) (aOne (pC (cI .i64)))) (rTup (cCons (cA .i64 2) (cOne (cI .i64)))) (fun a => f42 (a.1) (a.2)))] []) 1000 Tryd.f22 ((aCons (pC (cA .i64 22)) (aOne (pC (cI .i64)))).enc gG a) (glMem gl) 2 (rTup (cCons (cA .i64 22) (cOne (cI .i64)))).dec = g22 a.1 a.2 from evg22 f19 f42  a).trans (fg22 a.1 a.2)
theorem sp22 : VE.Spec Tryd.prog gG gl 22 (conF (aCons (pC (cA .i64 22)) (aOne (pC (cI .i64)))) (rTup (cCons (cA .i64 22) (cOne (cI .i64)))) (fun a => f22 a.1 a.2)) := spec_of ok22 Tryd.func22 Tryd.call22 (lpAll_nil rfl) 1000 (aCons_ok (pC_ok (cA_ok _ _)) (aOne_ok (pC_ok (cI_ok _)))) (rTup_ok (cCons_ok (cA_ok _ _) (cOne_ok (cI_ok _)))) ev22

/-- dancestudiolaw21.swapped -/
theorem ok23 : CtxOK Tryd.prog (cx [] [] []) gl := ctx_of tyOk moOk (show SpecL Tryd.prog gG gl [] from trivial) (show FnL Tryd.prog [] from trivial) (fnLp_nil _) joinOk
noncomputable def f23 (a : Int) : Option (Int) :=
 some (bitsI BinOp.or IntKind.i64 (shlI IntKind.i64 (bitsI BinOp.and IntKind.i64 a 1) 1) (bitsI BinOp.and IntKind.i64 (shrI IntKind.i64 a 1) 1))
theorem evg23   (xx : (aOne (pC (cI .i64))).T) : evF (R := (rOne (cI .i64)).T) (cx [] [] []) 1000 Tryd.f23 ((aOne (pC (cI .i64))).enc gG xx) (glMem gl) 2 (rOne (cI .i64)).dec =
 (fun (a : Int) =>
 (( some (bitsI BinOp.or IntKind.i64 (shlI IntKind.i64 (bitsI BinOp.and IntKind.i64 a 1) 1) (bitsI BinOp.and IntKind.i64 (shrI IntKind.i64 a 1) 1))) : Option (Int))) xx := by kernel_rfl
theorem ev23 (a : (aOne (pC (cI .i64))).T) : evF (R := (rOne (cI .i64)).T) (cx [] [] []) 1000 Tryd.f23 ((aOne (pC (cI .i64))).enc gG a) (glMem gl) 2 (rOne (cI .i64)).dec = f23 a := evg23   a
theorem sp23 : VE.Spec Tryd.prog gG gl 23 (conF (aOne (pC (cI .i64))) (rOne (cI .i64)) (fun a => f23 a)) := spec_of ok23 Tryd.func23 Tryd.call23 (lpAll_nil rfl) 1000 (aOne_ok (pC_ok (cI_ok _))) (rOne_ok (cI_ok _)) ev23

/-- dancestudiolaw21.BalanceMirror -/
theorem ok9 : CtxOK Tryd.prog (cx [] [(10, conF (aCons (pC (cA .i64 15)) (aCons (pC (cA .i64 22)) (aOne (pC (cI .i64))))) (rTup (cCons (cA .i64 2) (cOne (cI .i64)))) (fun a => f10 (a.1) (a.2.1) (a.2.2))), (12, conF (aNil) (rOne (cB)) (fun a => f12)), (13, conF (aCons (pC (cA .i64 15)) (aCons (pC (cA .i64 22)) (aOne (pC (cI .i64))))) (rTup (cCons (cB) (cOne (cI .i64)))) (fun a => f13 (a.1) (a.2.1) (a.2.2))), (15, conF (aCons (pC (cA .i64 15)) (aCons (pC (cA .i64 22)) (aOne (pC (cI .i64))))) (rTup (cCons (cI .i64) (cOne (cI .i64)))) (fun a => f15 (a.1) (a.2.1) (a.2.2))), (21, conF (aOne (pC (cA .i64 22))) (rTup (cCons (cA .i64 22) (cOne (cI .i64)))) (fun a => f21 a)), (22, conF (aCons (pC (cA .i64 22)) (aOne (pC (cI .i64)))) (rTup (cCons (cA .i64 22) (cOne (cI .i64)))) (fun a => f22 (a.1) (a.2))), (23, conF (aOne (pC (cI .i64))) (rOne (cI .i64)) (fun a => f23 a))] []) gl := ctx_of tyOk moOk (show SpecL Tryd.prog gG gl [(10, conF (aCons (pC (cA .i64 15)) (aCons (pC (cA .i64 22)) (aOne (pC (cI .i64))))) (rTup (cCons (cA .i64 2) (cOne (cI .i64)))) (fun a => f10 (a.1) (a.2.1) (a.2.2))), (12, conF (aNil) (rOne (cB)) (fun a => f12)), (13, conF (aCons (pC (cA .i64 15)) (aCons (pC (cA .i64 22)) (aOne (pC (cI .i64))))) (rTup (cCons (cB) (cOne (cI .i64)))) (fun a => f13 (a.1) (a.2.1) (a.2.2))), (15, conF (aCons (pC (cA .i64 15)) (aCons (pC (cA .i64 22)) (aOne (pC (cI .i64))))) (rTup (cCons (cI .i64) (cOne (cI .i64)))) (fun a => f15 (a.1) (a.2.1) (a.2.2))), (21, conF (aOne (pC (cA .i64 22))) (rTup (cCons (cA .i64 22) (cOne (cI .i64)))) (fun a => f21 a)), (22, conF (aCons (pC (cA .i64 22)) (aOne (pC (cI .i64)))) (rTup (cCons (cA .i64 22) (cOne (cI .i64)))) (fun a => f22 (a.1) (a.2))), (23, conF (aOne (pC (cI .i64))) (rOne (cI .i64)) (fun a => f23 a))] from ⟨sp10, sp12, sp13, sp15, sp21, sp22, sp23, trivial⟩) (show FnL Tryd.prog [] from trivial) (fnLp_nil _) joinOk
noncomputable def f9 (a : Nat → Int) (b : Nat → Int) (c : Int) : Option (Bool) :=
 Option.bind (f10 a b c) (fun r3 =>
 cond (!decide (r3.snd = 0)) (
 cond (decide (r3.fst 0 = 0) && decide (r3.fst 1 = 0)) (
 Option.bind (f12) (fun r4 =>
 some (r4))) (
 some (false))) (
 Option.bind (f21 b) (fun r4 =>
 Option.bind (f22 b 1) (fun r5 =>
 cond (!decide (r4.snd = 0)) (
 some (false)) (
 cond (!decide (r5.snd = 0)) (
 some (false)) (
 Option.bind (f23 c) (fun r6 =>
 Option.bind (f10 a r4.fst r6) (fun r7 =>
 Option.bind (f10 a r5.fst c) (fun r8 =>
 cond (!decide (r7.snd = 0)) (
 some (false)) (
 cond (!decide (r8.snd = 0)) (
 some (false)) (
 cond (!(decide (r7.fst 0 = IntKind.i64.wrap (0 - r3.fst 0)) && decide (r7.fst 1 = r3.fst 1))) (
 some (false)) (
 cond (!(decide (r8.fst 0 = r3.fst 1) && decide (r8.fst 1 = IntKind.i64.wrap (0 - r3.fst 0)))) (
 some (false)) (
 Option.bind (f13 a b c) (fun r9 =>
 Option.bind (f23 c) (fun r10 =>
 Option.bind (f13 a r4.fst r10) (fun r11 =>
 Option.bind (f13 a r5.fst c) (fun r12 =>
 cond (!decide (r9.snd = 0)) (
 some (false)) (
 cond (!decide (r11.snd = 0)) (
 some (false)) (
 cond (!decide (r12.snd = 0)) (
 some (false)) (
 cond (!r9.fst == r11.fst) (
 some (false)) (
 cond (!r9.fst == r12.fst) (
 some (false)) (
 Option.bind (f15 a b c) (fun r13 =>
 Option.bind (f23 c) (fun r14 =>
 Option.bind (f15 a r4.fst r14) (fun r15 =>
 Option.bind (f15 a r5.fst c) (fun r16 =>
 cond (decide (r13.fst = r15.fst)) (
 cond (decide (r13.fst = r16.fst)) (
 cond (decide (r13.snd = r15.snd)) (
 cond (decide (r13.snd = r16.snd)) (
 Option.bind (f12) (fun r17 =>
 some (r17))) (
 some (false))) (
 some (false))) (
 some (false))) (
 some (false))))))))))))))))))))))))))))
theorem evg9 (f10 : (Nat → Int) → (Nat → Int) → (Int) → Option ((Nat → Int) × Int)) (f12 : Option (Bool)) (f13 : (Nat → Int) → (Nat → Int) → (Int) → Option (Bool × Int)) (f15 : (Nat → Int) → (Nat → Int) → (Int) → Option (Int × Int)) (f21 : (Nat → Int) → Option ((Nat → Int) × Int)) (f22 : (Nat → Int) → (Int) → Option ((Nat → Int) × Int)) (f23 : (Int) → Option (Int))  (xx : (aCons (pC (cA .i64 15)) (aCons (pC (cA .i64 22)) (aOne (pC (cI .i64))))).T) : evF (R := (rOne (cB)).T) (cx [] [(10, conF (aCons (pC (cA .i64 15)) (aCons (pC (cA .i64 22)) (aOne (pC (cI .i64))))) (rTup (cCons (cA .i64 2) (cOne (cI .i64)))) (fun a => f10 (a.1) (a.2.1) (a.2.2))), (12, conF (aNil) (rOne (cB)) (fun a => f12)), (13, conF (aCons (pC (cA .i64 15)) (aCons (pC (cA .i64 22)) (aOne (pC (cI .i64))))) (rTup (cCons (cB) (cOne (cI .i64)))) (fun a => f13 (a.1) (a.2.1) (a.2.2))), (15, conF (aCons (pC (cA .i64 15)) (aCons (pC (cA .i64 22)) (aOne (pC (cI .i64))))) (rTup (cCons (cI .i64) (cOne (cI .i64)))) (fun a => f15 (a.1) (a.2.1) (a.2.2))), (21, conF (aOne (pC (cA .i64 22))) (rTup (cCons (cA .i64 22) (cOne (cI .i64)))) (fun a => f21 a)), (22, conF (aCons (pC (cA .i64 22)) (aOne (pC (cI .i64)))) (rTup (cCons (cA .i64 22) (cOne (cI .i64)))) (fun a => f22 (a.1) (a.2))), (23, conF (aOne (pC (cI .i64))) (rOne (cI .i64)) (fun a => f23 a))] []) 1000 Tryd.f9 ((aCons (pC (cA .i64 15)) (aCons (pC (cA .i64 22)) (aOne (pC (cI .i64))))).enc gG xx) (glMem gl) 2 (rOne (cB)).dec =
 (fun (a : Nat → Int) (b : Nat → Int) (c : Int) =>
 (( Option.bind (f10 (nthI [a 0, a 1, a 2, a 3, a 4, a 5, a 6, a 7, a 8, a 9, a 10, a 11, a 12, a 13, a 14]) (nthI [b 0, b 1, b 2, b 3, b 4, b 5, b 6, b 7, b 8, b 9, b 10, b 11, b 12, b 13, b 14, b 15, b 16, b 17, b 18, b 19, b 20, b 21]) c) (fun r3 =>
 cond (!decide (r3.snd = 0)) (
 cond (decide (r3.fst 0 = 0) && decide (r3.fst 1 = 0)) (
 Option.bind (f12) (fun r4 =>
 some (r4))) (
 some (false))) (
 Option.bind (f21 (nthI [b 0, b 1, b 2, b 3, b 4, b 5, b 6, b 7, b 8, b 9, b 10, b 11, b 12, b 13, b 14, b 15, b 16, b 17, b 18, b 19, b 20, b 21])) (fun r4 =>
 Option.bind (f22 (nthI [b 0, b 1, b 2, b 3, b 4, b 5, b 6, b 7, b 8, b 9, b 10, b 11, b 12, b 13, b 14, b 15, b 16, b 17, b 18, b 19, b 20, b 21]) 1) (fun r5 =>
 cond (!decide (r4.snd = 0)) (
 some (false)) (
 cond (!decide (r5.snd = 0)) (
 some (false)) (
 Option.bind (f23 c) (fun r6 =>
 Option.bind (f10 (nthI [a 0, a 1, a 2, a 3, a 4, a 5, a 6, a 7, a 8, a 9, a 10, a 11, a 12, a 13, a 14]) (nthI [r4.fst 0, r4.fst 1, r4.fst 2, r4.fst 3, r4.fst 4, r4.fst 5, r4.fst 6, r4.fst 7, r4.fst 8, r4.fst 9, r4.fst 10, r4.fst 11, r4.fst 12, r4.fst 13, r4.fst 14, r4.fst 15, r4.fst 16, r4.fst 17, r4.fst 18, r4.fst 19, r4.fst 20, r4.fst 21]) r6) (fun r7 =>
 Option.bind (f10 (nthI [a 0, a 1, a 2, a 3, a 4, a 5, a 6, a 7, a 8, a 9, a 10, a 11, a 12, a 13, a 14]) (nthI [r5.fst 0, r5.fst 1, r5.fst 2, r5.fst 3, r5.fst 4, r5.fst 5, r5.fst 6, r5.fst 7, r5.fst 8, r5.fst 9, r5.fst 10, r5.fst 11, r5.fst 12, r5.fst 13, r5.fst 14, r5.fst 15, r5.fst 16, r5.fst 17, r5.fst 18, r5.fst 19, r5.fst 20, r5.fst 21]) c) (fun r8 =>
 cond (!decide (r7.snd = 0)) (
 some (false)) (
 cond (!decide (r8.snd = 0)) (
 some (false)) (
 cond (!(decide (r7.fst 0 = IntKind.i64.wrap (0 - r3.fst 0)) && decide (r7.fst 1 = r3.fst 1))) (
 some (false)) (
 cond (!(decide (r8.fst 0 = r3.fst 1) && decide (r8.fst 1 = IntKind.i64.wrap (0 - r3.fst 0)))) (
 some (false)) (
 Option.bind (f13 (nthI [a 0, a 1, a 2, a 3, a 4, a 5, a 6, a 7, a 8, a 9, a 10, a 11, a 12, a 13, a 14]) (nthI [b 0, b 1, b 2, b 3, b 4, b 5, b 6, b 7, b 8, b 9, b 10, b 11, b 12, b 13, b 14, b 15, b 16, b 17, b 18, b 19, b 20, b 21]) c) (fun r9 =>
 Option.bind (f23 c) (fun r10 =>
 Option.bind (f13 (nthI [a 0, a 1, a 2, a 3, a 4, a 5, a 6, a 7, a 8, a 9, a 10, a 11, a 12, a 13, a 14]) (nthI [r4.fst 0, r4.fst 1, r4.fst 2, r4.fst 3, r4.fst 4, r4.fst 5, r4.fst 6, r4.fst 7, r4.fst 8, r4.fst 9, r4.fst 10, r4.fst 11, r4.fst 12, r4.fst 13, r4.fst 14, r4.fst 15, r4.fst 16, r4.fst 17, r4.fst 18, r4.fst 19, r4.fst 20, r4.fst 21]) r10) (fun r11 =>
 Option.bind (f13 (nthI [a 0, a 1, a 2, a 3, a 4, a 5, a 6, a 7, a 8, a 9, a 10, a 11, a 12, a 13, a 14]) (nthI [r5.fst 0, r5.fst 1, r5.fst 2, r5.fst 3, r5.fst 4, r5.fst 5, r5.fst 6, r5.fst 7, r5.fst 8, r5.fst 9, r5.fst 10, r5.fst 11, r5.fst 12, r5.fst 13, r5.fst 14, r5.fst 15, r5.fst 16, r5.fst 17, r5.fst 18, r5.fst 19, r5.fst 20, r5.fst 21]) c) (fun r12 =>
 cond (!decide (r9.snd = 0)) (
 some (false)) (
 cond (!decide (r11.snd = 0)) (
 some (false)) (
 cond (!decide (r12.snd = 0)) (
 some (false)) (
 cond (!r9.fst == r11.fst) (
 some (false)) (
 cond (!r9.fst == r12.fst) (
 some (false)) (
 Option.bind (f15 (nthI [a 0, a 1, a 2, a 3, a 4, a 5, a 6, a 7, a 8, a 9, a 10, a 11, a 12, a 13, a 14]) (nthI [b 0, b 1, b 2, b 3, b 4, b 5, b 6, b 7, b 8, b 9, b 10, b 11, b 12, b 13, b 14, b 15, b 16, b 17, b 18, b 19, b 20, b 21]) c) (fun r13 =>
 Option.bind (f23 c) (fun r14 =>
 Option.bind (f15 (nthI [a 0, a 1, a 2, a 3, a 4, a 5, a 6, a 7, a 8, a 9, a 10, a 11, a 12, a 13, a 14]) (nthI [r4.fst 0, r4.fst 1, r4.fst 2, r4.fst 3, r4.fst 4, r4.fst 5, r4.fst 6, r4.fst 7, r4.fst 8, r4.fst 9, r4.fst 10, r4.fst 11, r4.fst 12, r4.fst 13, r4.fst 14, r4.fst 15, r4.fst 16, r4.fst 17, r4.fst 18, r4.fst 19, r4.fst 20, r4.fst 21]) r14) (fun r15 =>
 Option.bind (f15 (nthI [a 0, a 1, a 2, a 3, a 4, a 5, a 6, a 7, a 8, a 9, a 10, a 11, a 12, a 13, a 14]) (nthI [r5.fst 0, r5.fst 1, r5.fst 2, r5.fst 3, r5.fst 4, r5.fst 5, r5.fst 6, r5.fst 7, r5.fst 8, r5.fst 9, r5.fst 10, r5.fst 11, r5.fst 12, r5.fst 13, r5.fst 14, r5.fst 15, r5.fst 16, r5.fst 17, r5.fst 18, r5.fst 19, r5.fst 20, r5.fst 21]) c) (fun r16 =>
 cond (decide (r13.fst = r15.fst)) (
 cond (decide (r13.fst = r16.fst)) (
 cond (decide (r13.snd = r15.snd)) (
 cond (decide (r13.snd = r16.snd)) (
 Option.bind (f12) (fun r17 =>
 some (r17))) (
 some (false))) (
 some (false))) (
 some (false))) (
 some (false))))))))))))))))))))))))))))) : Option (Bool))) xx.1 xx.2.1 xx.2.2 := by kernel_rfl
noncomputable def g9 (a : Nat → Int) (b : Nat → Int) (c : Int) : Option (Bool) :=
 Option.bind (f10 (nthI [a 0, a 1, a 2, a 3, a 4, a 5, a 6, a 7, a 8, a 9, a 10, a 11, a 12, a 13, a 14]) (nthI [b 0, b 1, b 2, b 3, b 4, b 5, b 6, b 7, b 8, b 9, b 10, b 11, b 12, b 13, b 14, b 15, b 16, b 17, b 18, b 19, b 20, b 21]) c) (fun r3 =>
 cond (!decide (r3.snd = 0)) (
 cond (decide (r3.fst 0 = 0) && decide (r3.fst 1 = 0)) (
 Option.bind (f12) (fun r4 =>
 some (r4))) (
 some (false))) (
 Option.bind (f21 (nthI [b 0, b 1, b 2, b 3, b 4, b 5, b 6, b 7, b 8, b 9, b 10, b 11, b 12, b 13, b 14, b 15, b 16, b 17, b 18, b 19, b 20, b 21])) (fun r4 =>
 Option.bind (f22 (nthI [b 0, b 1, b 2, b 3, b 4, b 5, b 6, b 7, b 8, b 9, b 10, b 11, b 12, b 13, b 14, b 15, b 16, b 17, b 18, b 19, b 20, b 21]) 1) (fun r5 =>
 cond (!decide (r4.snd = 0)) (
 some (false)) (
 cond (!decide (r5.snd = 0)) (
 some (false)) (
 Option.bind (f23 c) (fun r6 =>
 Option.bind (f10 (nthI [a 0, a 1, a 2, a 3, a 4, a 5, a 6, a 7, a 8, a 9, a 10, a 11, a 12, a 13, a 14]) (nthI [r4.fst 0, r4.fst 1, r4.fst 2, r4.fst 3, r4.fst 4, r4.fst 5, r4.fst 6, r4.fst 7, r4.fst 8, r4.fst 9, r4.fst 10, r4.fst 11, r4.fst 12, r4.fst 13, r4.fst 14, r4.fst 15, r4.fst 16, r4.fst 17, r4.fst 18, r4.fst 19, r4.fst 20, r4.fst 21]) r6) (fun r7 =>
 Option.bind (f10 (nthI [a 0, a 1, a 2, a 3, a 4, a 5, a 6, a 7, a 8, a 9, a 10, a 11, a 12, a 13, a 14]) (nthI [r5.fst 0, r5.fst 1, r5.fst 2, r5.fst 3, r5.fst 4, r5.fst 5, r5.fst 6, r5.fst 7, r5.fst 8, r5.fst 9, r5.fst 10, r5.fst 11, r5.fst 12, r5.fst 13, r5.fst 14, r5.fst 15, r5.fst 16, r5.fst 17, r5.fst 18, r5.fst 19, r5.fst 20, r5.fst 21]) c) (fun r8 =>
 cond (!decide (r7.snd = 0)) (
 some (false)) (
 cond (!decide (r8.snd = 0)) (
 some (false)) (
 cond (!(decide (r7.fst 0 = IntKind.i64.wrap (0 - r3.fst 0)) && decide (r7.fst 1 = r3.fst 1))) (
 some (false)) (
 cond (!(decide (r8.fst 0 = r3.fst 1) && decide (r8.fst 1 = IntKind.i64.wrap (0 - r3.fst 0)))) (
 some (false)) (
 Option.bind (f13 (nthI [a 0, a 1, a 2, a 3, a 4, a 5, a 6, a 7, a 8, a 9, a 10, a 11, a 12, a 13, a 14]) (nthI [b 0, b 1, b 2, b 3, b 4, b 5, b 6, b 7, b 8, b 9, b 10, b 11, b 12, b 13, b 14, b 15, b 16, b 17, b 18, b 19, b 20, b 21]) c) (fun r9 =>
 Option.bind (f23 c) (fun r10 =>
 Option.bind (f13 (nthI [a 0, a 1, a 2, a 3, a 4, a 5, a 6, a 7, a 8, a 9, a 10, a 11, a 12, a 13, a 14]) (nthI [r4.fst 0, r4.fst 1, r4.fst 2, r4.fst 3, r4.fst 4, r4.fst 5, r4.fst 6, r4.fst 7, r4.fst 8, r4.fst 9, r4.fst 10, r4.fst 11, r4.fst 12, r4.fst 13, r4.fst 14, r4.fst 15, r4.fst 16, r4.fst 17, r4.fst 18, r4.fst 19, r4.fst 20, r4.fst 21]) r10) (fun r11 =>
 Option.bind (f13 (nthI [a 0, a 1, a 2, a 3, a 4, a 5, a 6, a 7, a 8, a 9, a 10, a 11, a 12, a 13, a 14]) (nthI [r5.fst 0, r5.fst 1, r5.fst 2, r5.fst 3, r5.fst 4, r5.fst 5, r5.fst 6, r5.fst 7, r5.fst 8, r5.fst 9, r5.fst 10, r5.fst 11, r5.fst 12, r5.fst 13, r5.fst 14, r5.fst 15, r5.fst 16, r5.fst 17, r5.fst 18, r5.fst 19, r5.fst 20, r5.fst 21]) c) (fun r12 =>
 cond (!decide (r9.snd = 0)) (
 some (false)) (
 cond (!decide (r11.snd = 0)) (
 some (false)) (
 cond (!decide (r12.snd = 0)) (
 some (false)) (
 cond (!r9.fst == r11.fst) (
 some (false)) (
 cond (!r9.fst == r12.fst) (
 some (false)) (
 Option.bind (f15 (nthI [a 0, a 1, a 2, a 3, a 4, a 5, a 6, a 7, a 8, a 9, a 10, a 11, a 12, a 13, a 14]) (nthI [b 0, b 1, b 2, b 3, b 4, b 5, b 6, b 7, b 8, b 9, b 10, b 11, b 12, b 13, b 14, b 15, b 16, b 17, b 18, b 19, b 20, b 21]) c) (fun r13 =>
 Option.bind (f23 c) (fun r14 =>
 Option.bind (f15 (nthI [a 0, a 1, a 2, a 3, a 4, a 5, a 6, a 7, a 8, a 9, a 10, a 11, a 12, a 13, a 14]) (nthI [r4.fst 0, r4.fst 1, r4.fst 2, r4.fst 3, r4.fst 4, r4.fst 5, r4.fst 6, r4.fst 7, r4.fst 8, r4.fst 9, r4.fst 10, r4.fst 11, r4.fst 12, r4.fst 13, r4.fst 14, r4.fst 15, r4.fst 16, r4.fst 17, r4.fst 18, r4.fst 19, r4.fst 20, r4.fst 21]) r14) (fun r15 =>
 Option.bind (f15 (nthI [a 0, a 1, a 2, a 3, a 4, a 5, a 6, a 7, a 8, a 9, a 10, a 11, a 12, a 13, a 14]) (nthI [r5.fst 0, r5.fst 1, r5.fst 2, r5.fst 3, r5.fst 4, r5.fst 5, r5.fst 6, r5.fst 7, r5.fst 8, r5.fst 9, r5.fst 10, r5.fst 11, r5.fst 12, r5.fst 13, r5.fst 14, r5.fst 15, r5.fst 16, r5.fst 17, r5.fst 18, r5.fst 19, r5.fst 20, r5.fst 21]) c) (fun r16 =>
 cond (decide (r13.fst = r15.fst)) (
 cond (decide (r13.fst = r16.fst)) (
 cond (decide (r13.snd = r15.snd)) (
 cond (decide (r13.snd = r16.snd)) (
 Option.bind (f12) (fun r17 =>
 some (r17))) (
 some (false))) (
 some (false))) (
 some (false))) (
 some (false))))))))))))))))))))))))))))
theorem fg9 (a : Nat → Int) (b : Nat → Int) (c : Int) : g9 a b c = f9 a b c := by kernel_rfl
theorem ev9 (a : (aCons (pC (cA .i64 15)) (aCons (pC (cA .i64 22)) (aOne (pC (cI .i64))))).T) : evF (R := (rOne (cB)).T) (cx [] [(10, conF (aCons (pC (cA .i64 15)) (aCons (pC (cA .i64 22)) (aOne (pC (cI .i64))))) (rTup (cCons (cA .i64 2) (cOne (cI .i64)))) (fun a => f10 (a.1) (a.2.1) (a.2.2))), (12, conF (aNil) (rOne (cB)) (fun a => f12)), (13, conF (aCons (pC (cA .i64 15)) (aCons (pC (cA .i64 22)) (aOne (pC (cI .i64))))) (rTup (cCons (cB) (cOne (cI .i64)))) (fun a => f13 (a.1) (a.2.1) (a.2.2))), (15, conF (aCons (pC (cA .i64 15)) (aCons (pC (cA .i64 22)) (aOne (pC (cI .i64))))) (rTup (cCons (cI .i64) (cOne (cI .i64)))) (fun a => f15 (a.1) (a.2.1) (a.2.2))), (21, conF (aOne (pC (cA .i64 22))) (rTup (cCons (cA .i64 22) (cOne (cI .i64)))) (fun a => f21 a)), (22, conF (aCons (pC (cA .i64 22)) (aOne (pC (cI .i64)))) (rTup (cCons (cA .i64 22) (cOne (cI .i64)))) (fun a => f22 (a.1) (a.2))), (23, conF (aOne (pC (cI .i64))) (rOne (cI .i64)) (fun a => f23 a))] []) 1000 Tryd.f9 ((aCons (pC (cA .i64 15)) (aCons (pC (cA .i64 22)) (aOne (pC (cI .i64))))).enc gG a) (glMem gl) 2 (rOne (cB)).dec = f9 a.1 a.2.1 a.2.2 := (show evF (R := (rOne (cB)).T) (cx [] [(10, conF (aCons (pC (cA .i64 15)) (aCons (pC (cA .i64 22)) (aOne (pC (cI .i64))))) (rTup (cCons (cA .i64 2) (cOne (cI .i64)))) (fun a => f10 (a.1) (a.2.1) (a.2.2))), (12, conF (aNil) (rOne (cB)) (fun a => f12)), (13, conF (aCons (pC (cA .i64 15)) (aCons (pC (cA .i64 22)) (aOne (pC (cI .i64))))) (rTup (cCons (cB) (cOne (cI .i64)))) (fun a => f13 (a.1) (a.2.1) (a.2.2))), (15, conF (aCons (pC (cA .i64 15)) (aCons (pC (cA .i64 22)) (aOne (pC (cI .i64))))) (rTup (cCons (cI .i64) (cOne (cI .i64)))) (fun a => f15 (a.1) (a.2.1) (a.2.2))), (21, conF (aOne (pC (cA .i64 22))) (rTup (cCons (cA .i64 22) (cOne (cI .i64)))) (fun a => f21 a)), (22, conF (aCons (pC (cA .i64 22)) (aOne (pC (cI .i64)))) (rTup (cCons (cA .i64 22) (cOne (cI .i64)))) (fun a => f22 (a.1) (a.2))), (23, conF (aOne (pC (cI .i64))) (rOne (cI .i64)) (fun a => f23 a))] []) 1000 Tryd.f9 ((aCons (pC (cA .i64 15)) (aCons (pC (cA .i64 22)) (aOne (pC (cI .i64))))).enc gG a) (glMem gl) 2 (rOne (cB)).dec = g9 a.1 a.2.1 a.2.2 from evg9 f10 f12 f13 f15 f21 f22 f23  a).trans (fg9 a.1 a.2.1 a.2.2)
theorem sp9 : VE.Spec Tryd.prog gG gl 9 (conF (aCons (pC (cA .i64 15)) (aCons (pC (cA .i64 22)) (aOne (pC (cI .i64))))) (rOne (cB)) (fun a => f9 a.1 a.2.1 a.2.2)) := spec_of ok9 Tryd.func9 Tryd.call9 (lpAll_nil rfl) 1000 (aCons_ok (pC_ok (cA_ok _ _)) (aCons_ok (pC_ok (cA_ok _ _)) (aOne_ok (pC_ok (cI_ok _))))) (rOne_ok (cB_ok)) ev9

end Go.Proofs.YtggiamcgkiaicaaDoor
