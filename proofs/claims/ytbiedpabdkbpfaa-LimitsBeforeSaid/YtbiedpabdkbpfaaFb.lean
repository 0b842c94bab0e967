import Derived.Test.YtbiedpabdkbpfaaF
open Go Go.VE Go.Proofs
set_option maxRecDepth 1000000
set_option maxHeartbeats 0
set_option linter.unusedVariables false
namespace Go.Proofs.Ytbiedpabdkbpfaa


/-- dancestudiolaw22.LimitsNarrows -/
theorem ok5 : CtxOK Try.prog (cx [] [(16, conF (aNil) (rOne (cB)) (fun a => f16)), (19, conF (aCons (pC (cX kx26)) (aOne (pC (cX kx26)))) (rTup (cCons (cX kx26) (cOne (cI .i64)))) (fun a => f19 (a.1) (a.2))), (20, conF (aCons (pC (cX kx26)) (aOne (pC (cX kx26)))) (rTup (cCons (cX kx26) (cOne (cI .i64)))) (fun a => f20 (a.1) (a.2)))] []) gl := ctx_of tyOk moOk (show SpecL Try.prog gG gl [(16, conF (aNil) (rOne (cB)) (fun a => f16)), (19, conF (aCons (pC (cX kx26)) (aOne (pC (cX kx26)))) (rTup (cCons (cX kx26) (cOne (cI .i64)))) (fun a => f19 (a.1) (a.2))), (20, conF (aCons (pC (cX kx26)) (aOne (pC (cX kx26)))) (rTup (cCons (cX kx26) (cOne (cI .i64)))) (fun a => f20 (a.1) (a.2)))] from ⟨sp16, sp19, sp20, trivial⟩) (show FnL Try.prog [] from trivial) (fnLp_nil _) joinOk
noncomputable def f5 (a : Nat → Int) (b : Nat → Int) : Option (Bool) :=
 Option.bind (f19 (nthI [a 0, a 1, a 2, a 3, a 4, a 5, a 6, a 7, a 8, a 9, a 10, a 11, a 12, a 13, a 14, a 15, a 16, a 17, a 18, a 19, a 20, a 21, a 22, a 23, a 24, a 25, a 26, a 27, a 28, a 29, a 30, a 31, a 32, a 33, a 34, a 35, bif !decide (a 36 = 0) then 1 else 0, bif !decide (a 37 = 0) then 1 else 0, a 38, a 39]) (nthI [b 0, b 1, b 2, b 3, b 4, b 5, b 6, b 7, b 8, b 9, b 10, b 11, b 12, b 13, b 14, b 15, b 16, b 17, b 18, b 19, b 20, b 21, b 22, b 23, b 24, b 25, b 26, b 27, b 28, b 29, b 30, b 31, b 32, b 33, b 34, b 35, bif !decide (b 36 = 0) then 1 else 0, bif !decide (b 37 = 0) then 1 else 0, b 38, b 39])) (fun r2 =>
 Option.bind (f20 (nthI [a 0, a 1, a 2, a 3, a 4, a 5, a 6, a 7, a 8, a 9, a 10, a 11, a 12, a 13, a 14, a 15, a 16, a 17, a 18, a 19, a 20, a 21, a 22, a 23, a 24, a 25, a 26, a 27, a 28, a 29, a 30, a 31, a 32, a 33, a 34, a 35, bif !decide (a 36 = 0) then 1 else 0, bif !decide (a 37 = 0) then 1 else 0, a 38, a 39]) (nthI [b 0, b 1, b 2, b 3, b 4, b 5, b 6, b 7, b 8, b 9, b 10, b 11, b 12, b 13, b 14, b 15, b 16, b 17, b 18, b 19, b 20, b 21, b 22, b 23, b 24, b 25, b 26, b 27, b 28, b 29, b 30, b 31, b 32, b 33, b 34, b 35, bif !decide (b 36 = 0) then 1 else 0, bif !decide (b 37 = 0) then 1 else 0, b 38, b 39])) (fun r3 =>
 cond (decide (r2.fst 0 = r3.fst 0) && (decide (r2.fst 1 = r3.fst 1) && (decide (r2.fst 2 = r3.fst 2) && (decide (r2.fst 3 = r3.fst 3) && (decide (r2.fst 4 = r3.fst 4) && decide (r2.fst 5 = r3.fst 5))))) && (decide (r2.fst 6 = r3.fst 6) && (decide (r2.fst 7 = r3.fst 7) && (decide (r2.fst 8 = r3.fst 8) && (decide (r2.fst 9 = r3.fst 9) && (decide (r2.fst 10 = r3.fst 10) && decide (r2.fst 11 = r3.fst 11))))) && (decide (r2.fst 12 = r3.fst 12) && (decide (r2.fst 13 = r3.fst 13) && (decide (r2.fst 14 = r3.fst 14) && (decide (r2.fst 15 = r3.fst 15) && (decide (r2.fst 16 = r3.fst 16) && decide (r2.fst 17 = r3.fst 17))))) && (decide (r2.fst 18 = r3.fst 18) && (decide (r2.fst 19 = r3.fst 19) && (decide (r2.fst 20 = r3.fst 20) && (decide (r2.fst 21 = r3.fst 21) && (decide (r2.fst 22 = r3.fst 22) && decide (r2.fst 23 = r3.fst 23))))) && (decide (r2.fst 24 = r3.fst 24) && (decide (r2.fst 25 = r3.fst 25) && (decide (r2.fst 26 = r3.fst 26) && (decide (r2.fst 27 = r3.fst 27) && (decide (r2.fst 28 = r3.fst 28) && decide (r2.fst 29 = r3.fst 29))))) && (decide (r2.fst 30 = r3.fst 30) && (decide (r2.fst 31 = r3.fst 31) && (decide (r2.fst 32 = r3.fst 32) && (decide (r2.fst 33 = r3.fst 33) && (decide (r2.fst 34 = r3.fst 34) && decide (r2.fst 35 = r3.fst 35)))))))))) && ((!decide (r2.fst 36 = 0)) == !decide (r3.fst 36 = 0) && ((!decide (r2.fst 37 = 0)) == !decide (r3.fst 37 = 0) && (decide (r2.fst 38 = r3.fst 38) && decide (r2.fst 39 = r3.fst 39))))) (
 cond (decide (r2.snd = r3.snd)) (
 Option.bind (f16) (fun r4 =>
 some (r4))) (
 some (false))) (
 some (false))))
theorem evg5 (f16 : Option (Bool)) (f19 : (Nat → Int) → (Nat → Int) → Option ((Nat → Int) × Int)) (f20 : (Nat → Int) → (Nat → Int) → Option ((Nat → Int) × Int))  (xx : (aCons (pC (cX kx26)) (aOne (pC (cX kx26)))).T) : evF (R := (rOne (cB)).T) (cx [] [(16, conF (aNil) (rOne (cB)) (fun a => f16)), (19, conF (aCons (pC (cX kx26)) (aOne (pC (cX kx26)))) (rTup (cCons (cX kx26) (cOne (cI .i64)))) (fun a => f19 (a.1) (a.2))), (20, conF (aCons (pC (cX kx26)) (aOne (pC (cX kx26)))) (rTup (cCons (cX kx26) (cOne (cI .i64)))) (fun a => f20 (a.1) (a.2)))] []) 1000 Try.f5 ((aCons (pC (cX kx26)) (aOne (pC (cX kx26)))).enc gG xx) (glMem gl) 0 (rOne (cB)).dec =
 (fun (a : Nat → Int) (b : Nat → Int) =>
 (( Option.bind (f19 (nthI [a 0, a 1, a 2, a 3, a 4, a 5, a 6, a 7, a 8, a 9, a 10, a 11, a 12, a 13, a 14, a 15, a 16, a 17, a 18, a 19, a 20, a 21, a 22, a 23, a 24, a 25, a 26, a 27, a 28, a 29, a 30, a 31, a 32, a 33, a 34, a 35, bif !decide (a 36 = 0) then 1 else 0, bif !decide (a 37 = 0) then 1 else 0, a 38, a 39]) (nthI [b 0, b 1, b 2, b 3, b 4, b 5, b 6, b 7, b 8, b 9, b 10, b 11, b 12, b 13, b 14, b 15, b 16, b 17, b 18, b 19, b 20, b 21, b 22, b 23, b 24, b 25, b 26, b 27, b 28, b 29, b 30, b 31, b 32, b 33, b 34, b 35, bif !decide (b 36 = 0) then 1 else 0, bif !decide (b 37 = 0) then 1 else 0, b 38, b 39])) (fun r2 =>
 Option.bind (f20 (nthI [a 0, a 1, a 2, a 3, a 4, a 5, a 6, a 7, a 8, a 9, a 10, a 11, a 12, a 13, a 14, a 15, a 16, a 17, a 18, a 19, a 20, a 21, a 22, a 23, a 24, a 25, a 26, a 27, a 28, a 29, a 30, a 31, a 32, a 33, a 34, a 35, bif !decide (a 36 = 0) then 1 else 0, bif !decide (a 37 = 0) then 1 else 0, a 38, a 39]) (nthI [b 0, b 1, b 2, b 3, b 4, b 5, b 6, b 7, b 8, b 9, b 10, b 11, b 12, b 13, b 14, b 15, b 16, b 17, b 18, b 19, b 20, b 21, b 22, b 23, b 24, b 25, b 26, b 27, b 28, b 29, b 30, b 31, b 32, b 33, b 34, b 35, bif !decide (b 36 = 0) then 1 else 0, bif !decide (b 37 = 0) then 1 else 0, b 38, b 39])) (fun r3 =>
 cond (decide (r2.fst 0 = r3.fst 0) && (decide (r2.fst 1 = r3.fst 1) && (decide (r2.fst 2 = r3.fst 2) && (decide (r2.fst 3 = r3.fst 3) && (decide (r2.fst 4 = r3.fst 4) && decide (r2.fst 5 = r3.fst 5))))) && (decide (r2.fst 6 = r3.fst 6) && (decide (r2.fst 7 = r3.fst 7) && (decide (r2.fst 8 = r3.fst 8) && (decide (r2.fst 9 = r3.fst 9) && (decide (r2.fst 10 = r3.fst 10) && decide (r2.fst 11 = r3.fst 11))))) && (decide (r2.fst 12 = r3.fst 12) && (decide (r2.fst 13 = r3.fst 13) && (decide (r2.fst 14 = r3.fst 14) && (decide (r2.fst 15 = r3.fst 15) && (decide (r2.fst 16 = r3.fst 16) && decide (r2.fst 17 = r3.fst 17))))) && (decide (r2.fst 18 = r3.fst 18) && (decide (r2.fst 19 = r3.fst 19) && (decide (r2.fst 20 = r3.fst 20) && (decide (r2.fst 21 = r3.fst 21) && (decide (r2.fst 22 = r3.fst 22) && decide (r2.fst 23 = r3.fst 23))))) && (decide (r2.fst 24 = r3.fst 24) && (decide (r2.fst 25 = r3.fst 25) && (decide (r2.fst 26 = r3.fst 26) && (decide (r2.fst 27 = r3.fst 27) && (decide (r2.fst 28 = r3.fst 28) && decide (r2.fst 29 = r3.fst 29))))) && (decide (r2.fst 30 = r3.fst 30) && (decide (r2.fst 31 = r3.fst 31) && (decide (r2.fst 32 = r3.fst 32) && (decide (r2.fst 33 = r3.fst 33) && (decide (r2.fst 34 = r3.fst 34) && decide (r2.fst 35 = r3.fst 35)))))))))) && ((!decide (r2.fst 36 = 0)) == !decide (r3.fst 36 = 0) && ((!decide (r2.fst 37 = 0)) == !decide (r3.fst 37 = 0) && (decide (r2.fst 38 = r3.fst 38) && decide (r2.fst 39 = r3.fst 39))))) (
 cond (decide (r2.snd = r3.snd)) (
 Option.bind (f16) (fun r4 =>
 some (r4))) (
 some (false))) (
 some (false))))) : Option (Bool))) xx.1 xx.2 := by kernel_rfl
theorem ev5 (a : (aCons (pC (cX kx26)) (aOne (pC (cX kx26)))).T) : evF (R := (rOne (cB)).T) (cx [] [(16, conF (aNil) (rOne (cB)) (fun a => f16)), (19, conF (aCons (pC (cX kx26)) (aOne (pC (cX kx26)))) (rTup (cCons (cX kx26) (cOne (cI .i64)))) (fun a => f19 (a.1) (a.2))), (20, conF (aCons (pC (cX kx26)) (aOne (pC (cX kx26)))) (rTup (cCons (cX kx26) (cOne (cI .i64)))) (fun a => f20 (a.1) (a.2)))] []) 1000 Try.f5 ((aCons (pC (cX kx26)) (aOne (pC (cX kx26)))).enc gG a) (glMem gl) 0 (rOne (cB)).dec = f5 a.1 a.2 := evg5 f16 f19 f20  a
theorem sp5 : VE.Spec Try.prog gG gl 5 (conF (aCons (pC (cX kx26)) (aOne (pC (cX kx26)))) (rOne (cB)) (fun a => f5 a.1 a.2)) := spec_of ok5 Try.func5 Try.call5 (lpAll_nil rfl) 1000 (aCons_ok (pC_ok (cX_ok _)) (aOne_ok (pC_ok (cX_ok _)))) (rOne_ok (cB_ok)) ev5

/-- dancestudiolaw22.inside -/
theorem ok39 : CtxOK Try.prog (cx [] [] []) gl := ctx_of tyOk moOk (show SpecL Try.prog gG gl [] from trivial) (show FnL Try.prog [] from trivial) (fnLp_nil _) joinOk
noncomputable def f39 (a : Nat → Int) (b : Int) (c : Int) : Option (Bool) :=
 some (decide ((IntKind.i64.wrap ((IntKind.i64.wrap (IntKind.i64.wrap (b + c) - a 2)).tmod 256 + 256)).tmod 256 ≤ a 3))
theorem evg39   (xx : (aCons (pC (cA .i64 6)) (aCons (pC (cI .i64)) (aOne (pC (cI .i64))))).T) : evF (R := (rOne (cB)).T) (cx [] [] []) 1000 Try.f39 ((aCons (pC (cA .i64 6)) (aCons (pC (cI .i64)) (aOne (pC (cI .i64))))).enc gG xx) (glMem gl) 0 (rOne (cB)).dec =
 (fun (a : Nat → Int) (b : Int) (c : Int) =>
 (( some (decide ((IntKind.i64.wrap ((IntKind.i64.wrap (IntKind.i64.wrap (b + c) - a 2)).tmod 256 + 256)).tmod 256 ≤ a 3))) : Option (Bool))) xx.1 xx.2.1 xx.2.2 := by kernel_rfl
theorem ev39 (a : (aCons (pC (cA .i64 6)) (aCons (pC (cI .i64)) (aOne (pC (cI .i64))))).T) : evF (R := (rOne (cB)).T) (cx [] [] []) 1000 Try.f39 ((aCons (pC (cA .i64 6)) (aCons (pC (cI .i64)) (aOne (pC (cI .i64))))).enc gG a) (glMem gl) 0 (rOne (cB)).dec = f39 a.1 a.2.1 a.2.2 := evg39   a
theorem sp39 : VE.Spec Try.prog gG gl 39 (conF (aCons (pC (cA .i64 6)) (aCons (pC (cI .i64)) (aOne (pC (cI .i64))))) (rOne (cB)) (fun a => f39 a.1 a.2.1 a.2.2)) := spec_of ok39 Try.func39 Try.call39 (lpAll_nil rfl) 1000 (aCons_ok (pC_ok (cA_ok _ _)) (aCons_ok (pC_ok (cI_ok _)) (aOne_ok (pC_ok (cI_ok _))))) (rOne_ok (cB_ok)) ev39

/-- dancestudiolaw22.runs -/
theorem okl21 : CtxOK Try.prog (cx [] [(39, conF (aCons (pC (cA .i64 6)) (aCons (pC (cI .i64)) (aOne (pC (cI .i64))))) (rOne (cB)) (fun a => f39 (a.1) (a.2.1) (a.2.2)))] []) gl := ctx_of tyOk moOk (show SpecL Try.prog gG gl [(39, conF (aCons (pC (cA .i64 6)) (aCons (pC (cI .i64)) (aOne (pC (cI .i64))))) (rOne (cB)) (fun a => f39 (a.1) (a.2.1) (a.2.2)))] from ⟨sp39, trivial⟩) (show FnL Try.prog [] from trivial) (fnLp_nil _) joinOk
def T21_0 : ST := ⟨[(2, .s (.ptr 0 0)), (3, .s (.ptr 1 0)), (5, .s (.i .i64)), (6, .s (.i .i64))], [(0, .own [.i .i64, .i .i64, .i .i64, .i .i64, .i .i64, .i .i64] 23), (1, .own [.i .i64, .i .i64, .i .i64, .i .i64, .i .i64, .i .i64] 23)], 5⟩
def outs21_0 : List (AExit × ST) := [(.exit 0, ⟨[(5, .s (.i .i64))], [], 9⟩)]
noncomputable def s21_0 (rec : (Nat → Int) → (Nat → Sl) → Option LR) (x : Nat → Int) (y : Nat → Sl) : Option LR :=
 cond (decide (x 1 ≤ x 5)) (
 Option.bind (f39 (nthI [x 8, x 9, x 10, x 11, x 12, x 13]) (x 4) (x 1)) (fun r3 =>
 cond (r3) (
 cond (decide (x 1 = 0)) (
 rec (nthI [IntKind.i64.wrap (x 0 + 1), IntKind.i64.wrap (x 1 + 1), x 2, x 3, x 4, x 5, x 6, x 7, x 8, x 9, x 10, x 11, x 12, x 13]) (nthS [])) (
 Option.bind (f39 (nthI [x 8, x 9, x 10, x 11, x 12, x 13]) (x 4) (IntKind.i64.wrap (x 1 - 1))) (fun r4 =>
 cond (!r4) (
 rec (nthI [IntKind.i64.wrap (x 0 + 1), IntKind.i64.wrap (x 1 + 1), x 2, x 3, x 4, x 5, x 6, x 7, x 8, x 9, x 10, x 11, x 12, x 13]) (nthS [])) (
 rec (nthI [x 0, IntKind.i64.wrap (x 1 + 1), x 2, x 3, x 4, x 5, x 6, x 7, x 8, x 9, x 10, x 11, x 12, x 13]) (nthS []))))) (
 rec (nthI [x 0, IntKind.i64.wrap (x 1 + 1), x 2, x 3, x 4, x 5, x 6, x 7, x 8, x 9, x 10, x 11, x 12, x 13]) (nthS [])))) (
 some ((0, nthI [x 0], nthS [])))
theorem se21_0 (f39 : (Nat → Int) → (Int) → (Int) → Option (Bool)) (rec : (Nat → Int) → (Nat → Sl) → Option LR) (x : Nat → Int) (y : Nat → Sl) : evR (cx [] [(39, conF (aCons (pC (cA .i64 6)) (aCons (pC (cI .i64)) (aOne (pC (cI .i64))))) (rOne (cB)) (fun a => f39 (a.1) (a.2.1) (a.2.2)))] []) 1000 LR 34 (loopAt Try.f21 0) (encT x y T21_0) (roundK T21_0 outs21_0 rec) =
 (( cond (decide (x 1 ≤ x 5)) (
 Option.bind (f39 (nthI [x 8, x 9, x 10, x 11, x 12, x 13]) (x 4) (x 1)) (fun r3 =>
 cond (r3) (
 cond (decide (x 1 = 0)) (
 rec (nthI [IntKind.i64.wrap (x 0 + 1), IntKind.i64.wrap (x 1 + 1), x 2, x 3, x 4, x 5, x 6, x 7, x 8, x 9, x 10, x 11, x 12, x 13]) (nthS [])) (
 Option.bind (f39 (nthI [x 8, x 9, x 10, x 11, x 12, x 13]) (x 4) (IntKind.i64.wrap (x 1 - 1))) (fun r4 =>
 cond (!r4) (
 rec (nthI [IntKind.i64.wrap (x 0 + 1), IntKind.i64.wrap (x 1 + 1), x 2, x 3, x 4, x 5, x 6, x 7, x 8, x 9, x 10, x 11, x 12, x 13]) (nthS [])) (
 rec (nthI [x 0, IntKind.i64.wrap (x 1 + 1), x 2, x 3, x 4, x 5, x 6, x 7, x 8, x 9, x 10, x 11, x 12, x 13]) (nthS []))))) (
 rec (nthI [x 0, IntKind.i64.wrap (x 1 + 1), x 2, x 3, x 4, x 5, x 6, x 7, x 8, x 9, x 10, x 11, x 12, x 13]) (nthS [])))) (
 some ((0, nthI [x 0], nthS [])))) : Option LR) := by kernel_rfl
noncomputable def l21_0 (x : Nat → Int) (y : Nat → Sl) : Option LR := iterL s21_0 (400) x y
theorem ls21_0 : LoopSpec Try.prog gG gl 34 ⟨T21_0, outs21_0, l21_0⟩ (loopAt Try.f21 0) := loop_ok (step := s21_0) (fu := fun x y => 400) okl21 1000 (lpNone rfl) (by kernel_rfl) (by kernel_rfl) (fun rec x y => se21_0 f39 rec x y) (fun _ _ => rfl)
theorem ok21 : CtxOK Try.prog (cx [] [(39, conF (aCons (pC (cA .i64 6)) (aCons (pC (cI .i64)) (aOne (pC (cI .i64))))) (rOne (cB)) (fun a => f39 (a.1) (a.2.1) (a.2.2)))] [(34003, ⟨T21_0, outs21_0, l21_0⟩)]) gl := ctx_of tyOk moOk (show SpecL Try.prog gG gl [(39, conF (aCons (pC (cA .i64 6)) (aCons (pC (cI .i64)) (aOne (pC (cI .i64))))) (rOne (cB)) (fun a => f39 (a.1) (a.2.1) (a.2.2)))] from ⟨sp39, trivial⟩) (show FnL Try.prog [] from trivial) (show FnLp Try.prog gG gl [(34003, ⟨T21_0, outs21_0, l21_0⟩)] [] from trivial) joinOk
theorem la21 : LpAll Try.prog (cx [] [(39, conF (aCons (pC (cA .i64 6)) (aCons (pC (cI .i64)) (aOne (pC (cI .i64))))) (rOne (cB)) (fun a => f39 (a.1) (a.2.1) (a.2.2)))] [(34003, ⟨T21_0, outs21_0, l21_0⟩)]) gl Try.f21 := lpAll_of (lps := [(34003, ⟨T21_0, outs21_0, l21_0⟩)]) rfl (ks := [34003]) (by kernel_rfl) (show LpS Try.prog gG gl Try.f21 [(34003, ⟨T21_0, outs21_0, l21_0⟩)] [34003] 0 from ⟨fun L h => (by cases h; exact ls21_0), trivial⟩)
noncomputable def f21 (a : Nat → Int) (b : Nat → Int) : Option (Int) :=
 Option.bind (l21_0 (nthI [0, 0, a 0, a 1, a 2, a 3, a 4, a 5, b 0, b 1, b 2, b 3, b 4, b 5]) (nthS [])) (fun r2 =>
 some (r2.snd.fst 0))
theorem evg21  (l21_0 : (Nat → Int) → (Nat → Sl) → Option LR) (xx : (aCons (pC (cA .i64 6)) (aOne (pC (cA .i64 6)))).T) : evF (R := (rOne (cI .i64)).T) (cx [] [(39, conF (aCons (pC (cA .i64 6)) (aCons (pC (cI .i64)) (aOne (pC (cI .i64))))) (rOne (cB)) (fun a => f39 (a.1) (a.2.1) (a.2.2)))] [(34003, ⟨T21_0, outs21_0, l21_0⟩)]) 1000 Try.f21 ((aCons (pC (cA .i64 6)) (aOne (pC (cA .i64 6)))).enc gG xx) (glMem gl) 0 (rOne (cI .i64)).dec =
 (fun (a : Nat → Int) (b : Nat → Int) =>
 (( Option.bind (l21_0 (nthI [0, 0, a 0, a 1, a 2, a 3, a 4, a 5, b 0, b 1, b 2, b 3, b 4, b 5]) (nthS [])) (fun r2 =>
 some (r2.snd.fst 0))) : Option (Int))) xx.1 xx.2 := by kernel_rfl
theorem ev21 (a : (aCons (pC (cA .i64 6)) (aOne (pC (cA .i64 6)))).T) : evF (R := (rOne (cI .i64)).T) (cx [] [(39, conF (aCons (pC (cA .i64 6)) (aCons (pC (cI .i64)) (aOne (pC (cI .i64))))) (rOne (cB)) (fun a => f39 (a.1) (a.2.1) (a.2.2)))] [(34003, ⟨T21_0, outs21_0, l21_0⟩)]) 1000 Try.f21 ((aCons (pC (cA .i64 6)) (aOne (pC (cA .i64 6)))).enc gG a) (glMem gl) 0 (rOne (cI .i64)).dec = f21 a.1 a.2 := evg21  l21_0 a
theorem sp21 : VE.Spec Try.prog gG gl 21 (conF (aCons (pC (cA .i64 6)) (aOne (pC (cA .i64 6)))) (rOne (cI .i64)) (fun a => f21 a.1 a.2)) := spec_of ok21 Try.func21 Try.call21 la21 1000 (aCons_ok (pC_ok (cA_ok _ _)) (aOne_ok (pC_ok (cA_ok _ _)))) (rOne_ok (cI_ok _)) ev21

/-- dancestudiolaw22.LimitsNarrow -/
theorem ok6 : CtxOK Try.prog (cx [] [(14, conF (aOne (pC (cX kx26))) (rOne (cI .i64)) (fun a => f14 a)), (16, conF (aNil) (rOne (cB)) (fun a => f16)), (17, conF (aCons (pC (cX kx26)) (aCons (pC (cI .i64)) (aOne (pC (cA .i64 3))))) (rTup (cCons (cB) (cOne (cI .i64)))) (fun a => f17 (a.1) (a.2.1) (a.2.2))), (19, conF (aCons (pC (cX kx26)) (aOne (pC (cX kx26)))) (rTup (cCons (cX kx26) (cOne (cI .i64)))) (fun a => f19 (a.1) (a.2))), (21, conF (aCons (pC (cA .i64 6)) (aOne (pC (cA .i64 6)))) (rOne (cI .i64)) (fun a => f21 (a.1) (a.2)))] [] true) gl := ctx_of tyOk moOk (show SpecL Try.prog gG gl [(14, conF (aOne (pC (cX kx26))) (rOne (cI .i64)) (fun a => f14 a)), (16, conF (aNil) (rOne (cB)) (fun a => f16)), (17, conF (aCons (pC (cX kx26)) (aCons (pC (cI .i64)) (aOne (pC (cA .i64 3))))) (rTup (cCons (cB) (cOne (cI .i64)))) (fun a => f17 (a.1) (a.2.1) (a.2.2))), (19, conF (aCons (pC (cX kx26)) (aOne (pC (cX kx26)))) (rTup (cCons (cX kx26) (cOne (cI .i64)))) (fun a => f19 (a.1) (a.2))), (21, conF (aCons (pC (cA .i64 6)) (aOne (pC (cA .i64 6)))) (rOne (cI .i64)) (fun a => f21 (a.1) (a.2)))] from ⟨sp14, sp16, sp17, sp19, sp21, trivial⟩) (show FnL Try.prog [] from trivial) (fnLp_nil _) joinOk
noncomputable def f6 (a : Nat → Int) (b : Nat → Int) (c : Nat → Int) : Option (Bool) :=
 Option.bind (f19 (nthI [a 0, a 1, a 2, a 3, a 4, a 5, a 6, a 7, a 8, a 9, a 10, a 11, a 12, a 13, a 14, a 15, a 16, a 17, a 18, a 19, a 20, a 21, a 22, a 23, a 24, a 25, a 26, a 27, a 28, a 29, a 30, a 31, a 32, a 33, a 34, a 35, bif !decide (a 36 = 0) then 1 else 0, bif !decide (a 37 = 0) then 1 else 0, a 38, a 39]) (nthI [b 0, b 1, b 2, b 3, b 4, b 5, b 6, b 7, b 8, b 9, b 10, b 11, b 12, b 13, b 14, b 15, b 16, b 17, b 18, b 19, b 20, b 21, b 22, b 23, b 24, b 25, b 26, b 27, b 28, b 29, b 30, b 31, b 32, b 33, b 34, b 35, bif !decide (b 36 = 0) then 1 else 0, bif !decide (b 37 = 0) then 1 else 0, b 38, b 39])) (fun r3 =>
 cond (!decide (r3.snd = 0)) (
 cond (decide (r3.fst 0 = 0) && (decide (r3.fst 1 = 0) && (decide (r3.fst 2 = 0) && (decide (r3.fst 3 = 0) && (decide (r3.fst 4 = 0) && decide (r3.fst 5 = 0))))) && (decide (r3.fst 6 = 0) && (decide (r3.fst 7 = 0) && (decide (r3.fst 8 = 0) && (decide (r3.fst 9 = 0) && (decide (r3.fst 10 = 0) && decide (r3.fst 11 = 0))))) && (decide (r3.fst 12 = 0) && (decide (r3.fst 13 = 0) && (decide (r3.fst 14 = 0) && (decide (r3.fst 15 = 0) && (decide (r3.fst 16 = 0) && decide (r3.fst 17 = 0))))) && (decide (r3.fst 18 = 0) && (decide (r3.fst 19 = 0) && (decide (r3.fst 20 = 0) && (decide (r3.fst 21 = 0) && (decide (r3.fst 22 = 0) && decide (r3.fst 23 = 0))))) && (decide (r3.fst 24 = 0) && (decide (r3.fst 25 = 0) && (decide (r3.fst 26 = 0) && (decide (r3.fst 27 = 0) && (decide (r3.fst 28 = 0) && decide (r3.fst 29 = 0))))) && (decide (r3.fst 30 = 0) && (decide (r3.fst 31 = 0) && (decide (r3.fst 32 = 0) && (decide (r3.fst 33 = 0) && (decide (r3.fst 34 = 0) && decide (r3.fst 35 = 0)))))))))) && ((!decide (r3.fst 36 = 0)) == false && ((!decide (r3.fst 37 = 0)) == false && (decide (r3.fst 38 = 0) && decide (r3.fst 39 = 0))))) (
 Option.bind (f16) (fun r4 =>
 some (r4))) (
 some (false))) (
 Option.bind (Option.bind (f14 (nthI [a 0, a 1, a 2, a 3, a 4, a 5, a 6, a 7, a 8, a 9, a 10, a 11, a 12, a 13, a 14, a 15, a 16, a 17, a 18, a 19, a 20, a 21, a 22, a 23, a 24, a 25, a 26, a 27, a 28, a 29, a 30, a 31, a 32, a 33, a 34, a 35, bif !decide (a 36 = 0) then 1 else 0, bif !decide (a 37 = 0) then 1 else 0, a 38, a 39])) (fun r4 =>
 cond (!decide (r4 = 0)) (
 some (true)) (
 Option.bind (f14 (nthI [b 0, b 1, b 2, b 3, b 4, b 5, b 6, b 7, b 8, b 9, b 10, b 11, b 12, b 13, b 14, b 15, b 16, b 17, b 18, b 19, b 20, b 21, b 22, b 23, b 24, b 25, b 26, b 27, b 28, b 29, b 30, b 31, b 32, b 33, b 34, b 35, bif !decide (b 36 = 0) then 1 else 0, bif !decide (b 37 = 0) then 1 else 0, b 38, b 39])) (fun r5 =>
 cond (!decide (r5 = 0)) (
 some (true)) (
 Option.bind (f14 (nthI [r3.fst 0, r3.fst 1, r3.fst 2, r3.fst 3, r3.fst 4, r3.fst 5, r3.fst 6, r3.fst 7, r3.fst 8, r3.fst 9, r3.fst 10, r3.fst 11, r3.fst 12, r3.fst 13, r3.fst 14, r3.fst 15, r3.fst 16, r3.fst 17, r3.fst 18, r3.fst 19, r3.fst 20, r3.fst 21, r3.fst 22, r3.fst 23, r3.fst 24, r3.fst 25, r3.fst 26, r3.fst 27, r3.fst 28, r3.fst 29, r3.fst 30, r3.fst 31, r3.fst 32, r3.fst 33, r3.fst 34, r3.fst 35, bif !decide (r3.fst 36 = 0) then 1 else 0, bif !decide (r3.fst 37 = 0) then 1 else 0, r3.fst 38, r3.fst 39])) (fun r6 =>
 cond (!decide (r6 = 0)) (
 some (true)) (
 cond (decide (a 38 < r3.fst 38)) (
 some (true)) (
 cond (decide (b 38 < r3.fst 38)) (
 some (true)) (
 cond (decide (a 39 < r3.fst 39)) (
 some (true)) (
 some (decide (b 39 < r3.fst 39)))))))))))) (fun r4 =>
 cond (r4) (
 some (false)) (
 Option.bind (cond (!decide (a 36 = 0)) (
 cond (!(!decide (r3.fst 36 = 0)) == !decide (b 36 = 0)) (
 some (true)) (
 cond (!decide (a 37 = 0)) (
 some (!(!decide (r3.fst 37 = 0)) == !decide (b 37 = 0))) (
 some (!(!decide (r3.fst 37 = 0)) == false)))) (
 cond (!(!decide (r3.fst 36 = 0)) == false) (
 some (true)) (
 cond (!decide (a 37 = 0)) (
 some (!(!decide (r3.fst 37 = 0)) == !decide (b 37 = 0))) (
 some (!(!decide (r3.fst 37 = 0)) == false))))) (fun r5 =>
 cond (r5) (
 some (false)) (
 Option.bind (f17 (nthI [r3.fst 0, r3.fst 1, r3.fst 2, r3.fst 3, r3.fst 4, r3.fst 5, r3.fst 6, r3.fst 7, r3.fst 8, r3.fst 9, r3.fst 10, r3.fst 11, r3.fst 12, r3.fst 13, r3.fst 14, r3.fst 15, r3.fst 16, r3.fst 17, r3.fst 18, r3.fst 19, r3.fst 20, r3.fst 21, r3.fst 22, r3.fst 23, r3.fst 24, r3.fst 25, r3.fst 26, r3.fst 27, r3.fst 28, r3.fst 29, r3.fst 30, r3.fst 31, r3.fst 32, r3.fst 33, r3.fst 34, r3.fst 35, bif !decide (r3.fst 36 = 0) then 1 else 0, bif !decide (r3.fst 37 = 0) then 1 else 0, r3.fst 38, r3.fst 39]) (c 0) (nthI [c 1, c 2, c 3])) (fun r6 =>
 Option.bind (f17 (nthI [a 0, a 1, a 2, a 3, a 4, a 5, a 6, a 7, a 8, a 9, a 10, a 11, a 12, a 13, a 14, a 15, a 16, a 17, a 18, a 19, a 20, a 21, a 22, a 23, a 24, a 25, a 26, a 27, a 28, a 29, a 30, a 31, a 32, a 33, a 34, a 35, bif !decide (a 36 = 0) then 1 else 0, bif !decide (a 37 = 0) then 1 else 0, a 38, a 39]) (c 0) (nthI [c 1, c 2, c 3])) (fun r7 =>
 Option.bind (f17 (nthI [b 0, b 1, b 2, b 3, b 4, b 5, b 6, b 7, b 8, b 9, b 10, b 11, b 12, b 13, b 14, b 15, b 16, b 17, b 18, b 19, b 20, b 21, b 22, b 23, b 24, b 25, b 26, b 27, b 28, b 29, b 30, b 31, b 32, b 33, b 34, b 35, bif !decide (b 36 = 0) then 1 else 0, bif !decide (b 37 = 0) then 1 else 0, b 38, b 39]) (c 0) (nthI [c 1, c 2, c 3])) (fun r8 =>
 Option.bind (cond (!decide (r6.snd = r7.snd)) (
 some (true)) (
 cond (!decide (r6.snd = r8.snd)) (
 some (true)) (
 cond (r6.fst) (
 cond (!r7.fst) (
 some (true)) (
 some (!r8.fst))) (
 some (false))))) (fun r9 =>
 cond (r9) (
 some (false)) (
 Option.bind (cond (!decide (r6.snd = 0)) (
 some (true)) (
 cond (decide (c 0 < 0)) (
 some (true)) (
 cond (decide (6 ≤ c 0)) (
 some (true)) (
 cond (!r7.fst) (
 some (true)) (
 cond (!r8.fst) (
 some (true)) (
 cond (decide (0 ≤ c 0)) (
 cond (decide (c 0 < 6)) (
 cond (decide (0 ≤ c 0)) (
 cond (decide (c 0 < 6)) (
 Option.bind (f21 (nthI [[a 0, a 6, a 12, a 18, a 24, a 30].getD (c 0).toNat 0, [a 1, a 7, a 13, a 19, a 25, a 31].getD (c 0).toNat 0, [a 2, a 8, a 14, a 20, a 26, a 32].getD (c 0).toNat 0, [a 3, a 9, a 15, a 21, a 27, a 33].getD (c 0).toNat 0, [a 4, a 10, a 16, a 22, a 28, a 34].getD (c 0).toNat 0, [a 5, a 11, a 17, a 23, a 29, a 35].getD (c 0).toNat 0]) (nthI [[b 0, b 6, b 12, b 18, b 24, b 30].getD (c 0).toNat 0, [b 1, b 7, b 13, b 19, b 25, b 31].getD (c 0).toNat 0, [b 2, b 8, b 14, b 20, b 26, b 32].getD (c 0).toNat 0, [b 3, b 9, b 15, b 21, b 27, b 33].getD (c 0).toNat 0, [b 4, b 10, b 16, b 22, b 28, b 34].getD (c 0).toNat 0, [b 5, b 11, b 17, b 23, b 29, b 35].getD (c 0).toNat 0])) (fun r10 =>
 some (!decide (r10 = 1)))) none) none) none) none)))))) (fun r10 =>
 cond (r10) (
 Option.bind (f16) (fun r11 =>
 some (r11))) (
 cond (r6.fst) (
 Option.bind (f16) (fun r11 =>
 some (r11))) (
 some (false)))))))))))))))
theorem evg6 (f14 : (Nat → Int) → Option (Int)) (f16 : Option (Bool)) (f17 : (Nat → Int) → (Int) → (Nat → Int) → Option (Bool × Int)) (f19 : (Nat → Int) → (Nat → Int) → Option ((Nat → Int) × Int)) (f21 : (Nat → Int) → (Nat → Int) → Option (Int))  (xx : (aCons (pC (cX kx26)) (aCons (pC (cX kx26)) (aOne (pC (cA .i64 4))))).T) : evF (R := (rOne (cB)).T) (cx [] [(14, conF (aOne (pC (cX kx26))) (rOne (cI .i64)) (fun a => f14 a)), (16, conF (aNil) (rOne (cB)) (fun a => f16)), (17, conF (aCons (pC (cX kx26)) (aCons (pC (cI .i64)) (aOne (pC (cA .i64 3))))) (rTup (cCons (cB) (cOne (cI .i64)))) (fun a => f17 (a.1) (a.2.1) (a.2.2))), (19, conF (aCons (pC (cX kx26)) (aOne (pC (cX kx26)))) (rTup (cCons (cX kx26) (cOne (cI .i64)))) (fun a => f19 (a.1) (a.2))), (21, conF (aCons (pC (cA .i64 6)) (aOne (pC (cA .i64 6)))) (rOne (cI .i64)) (fun a => f21 (a.1) (a.2)))] [] true) 1000 Try.f6 ((aCons (pC (cX kx26)) (aCons (pC (cX kx26)) (aOne (pC (cA .i64 4))))).enc gG xx) (glMem gl) 0 (rOne (cB)).dec =
 (fun (a : Nat → Int) (b : Nat → Int) (c : Nat → Int) =>
 (( Option.bind (f19 (nthI [a 0, a 1, a 2, a 3, a 4, a 5, a 6, a 7, a 8, a 9, a 10, a 11, a 12, a 13, a 14, a 15, a 16, a 17, a 18, a 19, a 20, a 21, a 22, a 23, a 24, a 25, a 26, a 27, a 28, a 29, a 30, a 31, a 32, a 33, a 34, a 35, bif !decide (a 36 = 0) then 1 else 0, bif !decide (a 37 = 0) then 1 else 0, a 38, a 39]) (nthI [b 0, b 1, b 2, b 3, b 4, b 5, b 6, b 7, b 8, b 9, b 10, b 11, b 12, b 13, b 14, b 15, b 16, b 17, b 18, b 19, b 20, b 21, b 22, b 23, b 24, b 25, b 26, b 27, b 28, b 29, b 30, b 31, b 32, b 33, b 34, b 35, bif !decide (b 36 = 0) then 1 else 0, bif !decide (b 37 = 0) then 1 else 0, b 38, b 39])) (fun r3 =>
 cond (!decide (r3.snd = 0)) (
 cond (decide (r3.fst 0 = 0) && (decide (r3.fst 1 = 0) && (decide (r3.fst 2 = 0) && (decide (r3.fst 3 = 0) && (decide (r3.fst 4 = 0) && decide (r3.fst 5 = 0))))) && (decide (r3.fst 6 = 0) && (decide (r3.fst 7 = 0) && (decide (r3.fst 8 = 0) && (decide (r3.fst 9 = 0) && (decide (r3.fst 10 = 0) && decide (r3.fst 11 = 0))))) && (decide (r3.fst 12 = 0) && (decide (r3.fst 13 = 0) && (decide (r3.fst 14 = 0) && (decide (r3.fst 15 = 0) && (decide (r3.fst 16 = 0) && decide (r3.fst 17 = 0))))) && (decide (r3.fst 18 = 0) && (decide (r3.fst 19 = 0) && (decide (r3.fst 20 = 0) && (decide (r3.fst 21 = 0) && (decide (r3.fst 22 = 0) && decide (r3.fst 23 = 0))))) && (decide (r3.fst 24 = 0) && (decide (r3.fst 25 = 0) && (decide (r3.fst 26 = 0) && (decide (r3.fst 27 = 0) && (decide (r3.fst 28 = 0) && decide (r3.fst 29 = 0))))) && (decide (r3.fst 30 = 0) && (decide (r3.fst 31 = 0) && (decide (r3.fst 32 = 0) && (decide (r3.fst 33 = 0) && (decide (r3.fst 34 = 0) && decide (r3.fst 35 = 0)))))))))) && ((!decide (r3.fst 36 = 0)) == false && ((!decide (r3.fst 37 = 0)) == false && (decide (r3.fst 38 = 0) && decide (r3.fst 39 = 0))))) (
 Option.bind (f16) (fun r4 =>
 some (r4))) (
 some (false))) (
 Option.bind (Option.bind (f14 (nthI [a 0, a 1, a 2, a 3, a 4, a 5, a 6, a 7, a 8, a 9, a 10, a 11, a 12, a 13, a 14, a 15, a 16, a 17, a 18, a 19, a 20, a 21, a 22, a 23, a 24, a 25, a 26, a 27, a 28, a 29, a 30, a 31, a 32, a 33, a 34, a 35, bif !decide (a 36 = 0) then 1 else 0, bif !decide (a 37 = 0) then 1 else 0, a 38, a 39])) (fun r4 =>
 cond (!decide (r4 = 0)) (
 some (true)) (
 Option.bind (f14 (nthI [b 0, b 1, b 2, b 3, b 4, b 5, b 6, b 7, b 8, b 9, b 10, b 11, b 12, b 13, b 14, b 15, b 16, b 17, b 18, b 19, b 20, b 21, b 22, b 23, b 24, b 25, b 26, b 27, b 28, b 29, b 30, b 31, b 32, b 33, b 34, b 35, bif !decide (b 36 = 0) then 1 else 0, bif !decide (b 37 = 0) then 1 else 0, b 38, b 39])) (fun r5 =>
 cond (!decide (r5 = 0)) (
 some (true)) (
 Option.bind (f14 (nthI [r3.fst 0, r3.fst 1, r3.fst 2, r3.fst 3, r3.fst 4, r3.fst 5, r3.fst 6, r3.fst 7, r3.fst 8, r3.fst 9, r3.fst 10, r3.fst 11, r3.fst 12, r3.fst 13, r3.fst 14, r3.fst 15, r3.fst 16, r3.fst 17, r3.fst 18, r3.fst 19, r3.fst 20, r3.fst 21, r3.fst 22, r3.fst 23, r3.fst 24, r3.fst 25, r3.fst 26, r3.fst 27, r3.fst 28, r3.fst 29, r3.fst 30, r3.fst 31, r3.fst 32, r3.fst 33, r3.fst 34, r3.fst 35, bif !decide (r3.fst 36 = 0) then 1 else 0, bif !decide (r3.fst 37 = 0) then 1 else 0, r3.fst 38, r3.fst 39])) (fun r6 =>
 cond (!decide (r6 = 0)) (
 some (true)) (
 cond (decide (a 38 < r3.fst 38)) (
 some (true)) (
 cond (decide (b 38 < r3.fst 38)) (
 some (true)) (
 cond (decide (a 39 < r3.fst 39)) (
 some (true)) (
 some (decide (b 39 < r3.fst 39)))))))))))) (fun r4 =>
 cond (r4) (
 some (false)) (
 Option.bind (cond (!decide (a 36 = 0)) (
 cond (!(!decide (r3.fst 36 = 0)) == !decide (b 36 = 0)) (
 some (true)) (
 cond (!decide (a 37 = 0)) (
 some (!(!decide (r3.fst 37 = 0)) == !decide (b 37 = 0))) (
 some (!(!decide (r3.fst 37 = 0)) == false)))) (
 cond (!(!decide (r3.fst 36 = 0)) == false) (
 some (true)) (
 cond (!decide (a 37 = 0)) (
 some (!(!decide (r3.fst 37 = 0)) == !decide (b 37 = 0))) (
 some (!(!decide (r3.fst 37 = 0)) == false))))) (fun r5 =>
 cond (r5) (
 some (false)) (
 Option.bind (f17 (nthI [r3.fst 0, r3.fst 1, r3.fst 2, r3.fst 3, r3.fst 4, r3.fst 5, r3.fst 6, r3.fst 7, r3.fst 8, r3.fst 9, r3.fst 10, r3.fst 11, r3.fst 12, r3.fst 13, r3.fst 14, r3.fst 15, r3.fst 16, r3.fst 17, r3.fst 18, r3.fst 19, r3.fst 20, r3.fst 21, r3.fst 22, r3.fst 23, r3.fst 24, r3.fst 25, r3.fst 26, r3.fst 27, r3.fst 28, r3.fst 29, r3.fst 30, r3.fst 31, r3.fst 32, r3.fst 33, r3.fst 34, r3.fst 35, bif !decide (r3.fst 36 = 0) then 1 else 0, bif !decide (r3.fst 37 = 0) then 1 else 0, r3.fst 38, r3.fst 39]) (c 0) (nthI [c 1, c 2, c 3])) (fun r6 =>
 Option.bind (f17 (nthI [a 0, a 1, a 2, a 3, a 4, a 5, a 6, a 7, a 8, a 9, a 10, a 11, a 12, a 13, a 14, a 15, a 16, a 17, a 18, a 19, a 20, a 21, a 22, a 23, a 24, a 25, a 26, a 27, a 28, a 29, a 30, a 31, a 32, a 33, a 34, a 35, bif !decide (a 36 = 0) then 1 else 0, bif !decide (a 37 = 0) then 1 else 0, a 38, a 39]) (c 0) (nthI [c 1, c 2, c 3])) (fun r7 =>
 Option.bind (f17 (nthI [b 0, b 1, b 2, b 3, b 4, b 5, b 6, b 7, b 8, b 9, b 10, b 11, b 12, b 13, b 14, b 15, b 16, b 17, b 18, b 19, b 20, b 21, b 22, b 23, b 24, b 25, b 26, b 27, b 28, b 29, b 30, b 31, b 32, b 33, b 34, b 35, bif !decide (b 36 = 0) then 1 else 0, bif !decide (b 37 = 0) then 1 else 0, b 38, b 39]) (c 0) (nthI [c 1, c 2, c 3])) (fun r8 =>
 Option.bind (cond (!decide (r6.snd = r7.snd)) (
 some (true)) (
 cond (!decide (r6.snd = r8.snd)) (
 some (true)) (
 cond (r6.fst) (
 cond (!r7.fst) (
 some (true)) (
 some (!r8.fst))) (
 some (false))))) (fun r9 =>
 cond (r9) (
 some (false)) (
 Option.bind (cond (!decide (r6.snd = 0)) (
 some (true)) (
 cond (decide (c 0 < 0)) (
 some (true)) (
 cond (decide (6 ≤ c 0)) (
 some (true)) (
 cond (!r7.fst) (
 some (true)) (
 cond (!r8.fst) (
 some (true)) (
 cond (decide (0 ≤ c 0)) (
 cond (decide (c 0 < 6)) (
 cond (decide (0 ≤ c 0)) (
 cond (decide (c 0 < 6)) (
 Option.bind (f21 (nthI [[a 0, a 6, a 12, a 18, a 24, a 30].getD (c 0).toNat 0, [a 1, a 7, a 13, a 19, a 25, a 31].getD (c 0).toNat 0, [a 2, a 8, a 14, a 20, a 26, a 32].getD (c 0).toNat 0, [a 3, a 9, a 15, a 21, a 27, a 33].getD (c 0).toNat 0, [a 4, a 10, a 16, a 22, a 28, a 34].getD (c 0).toNat 0, [a 5, a 11, a 17, a 23, a 29, a 35].getD (c 0).toNat 0]) (nthI [[b 0, b 6, b 12, b 18, b 24, b 30].getD (c 0).toNat 0, [b 1, b 7, b 13, b 19, b 25, b 31].getD (c 0).toNat 0, [b 2, b 8, b 14, b 20, b 26, b 32].getD (c 0).toNat 0, [b 3, b 9, b 15, b 21, b 27, b 33].getD (c 0).toNat 0, [b 4, b 10, b 16, b 22, b 28, b 34].getD (c 0).toNat 0, [b 5, b 11, b 17, b 23, b 29, b 35].getD (c 0).toNat 0])) (fun r10 =>
 some (!decide (r10 = 1)))) none) none) none) none)))))) (fun r10 =>
 cond (r10) (
 Option.bind (f16) (fun r11 =>
 some (r11))) (
 cond (r6.fst) (
 Option.bind (f16) (fun r11 =>
 some (r11))) (
 some (false)))))))))))))))) : Option (Bool))) xx.1 xx.2.1 xx.2.2 := by kernel_rfl
theorem ev6 (a : (aCons (pC (cX kx26)) (aCons (pC (cX kx26)) (aOne (pC (cA .i64 4))))).T) : evF (R := (rOne (cB)).T) (cx [] [(14, conF (aOne (pC (cX kx26))) (rOne (cI .i64)) (fun a => f14 a)), (16, conF (aNil) (rOne (cB)) (fun a => f16)), (17, conF (aCons (pC (cX kx26)) (aCons (pC (cI .i64)) (aOne (pC (cA .i64 3))))) (rTup (cCons (cB) (cOne (cI .i64)))) (fun a => f17 (a.1) (a.2.1) (a.2.2))), (19, conF (aCons (pC (cX kx26)) (aOne (pC (cX kx26)))) (rTup (cCons (cX kx26) (cOne (cI .i64)))) (fun a => f19 (a.1) (a.2))), (21, conF (aCons (pC (cA .i64 6)) (aOne (pC (cA .i64 6)))) (rOne (cI .i64)) (fun a => f21 (a.1) (a.2)))] [] true) 1000 Try.f6 ((aCons (pC (cX kx26)) (aCons (pC (cX kx26)) (aOne (pC (cA .i64 4))))).enc gG a) (glMem gl) 0 (rOne (cB)).dec = f6 a.1 a.2.1 a.2.2 := evg6 f14 f16 f17 f19 f21  a
theorem sp6 : VE.Spec Try.prog gG gl 6 (conF (aCons (pC (cX kx26)) (aCons (pC (cX kx26)) (aOne (pC (cA .i64 4))))) (rOne (cB)) (fun a => f6 a.1 a.2.1 a.2.2)) := spec_of ok6 Try.func6 Try.call6 (lpAll_nil rfl) 1000 (aCons_ok (pC_ok (cX_ok _)) (aCons_ok (pC_ok (cX_ok _)) (aOne_ok (pC_ok (cA_ok _ _))))) (rOne_ok (cB_ok)) ev6

/-- dancestudiolaw22.LimitsSelf -/
theorem ok7 : CtxOK Try.prog (cx [] [(14, conF (aOne (pC (cX kx26))) (rOne (cI .i64)) (fun a => f14 a)), (16, conF (aNil) (rOne (cB)) (fun a => f16)), (19, conF (aCons (pC (cX kx26)) (aOne (pC (cX kx26)))) (rTup (cCons (cX kx26) (cOne (cI .i64)))) (fun a => f19 (a.1) (a.2))), (22, conF (aNil) (rOne (cX kx26)) (fun a => f22))] []) gl := ctx_of tyOk moOk (show SpecL Try.prog gG gl [(14, conF (aOne (pC (cX kx26))) (rOne (cI .i64)) (fun a => f14 a)), (16, conF (aNil) (rOne (cB)) (fun a => f16)), (19, conF (aCons (pC (cX kx26)) (aOne (pC (cX kx26)))) (rTup (cCons (cX kx26) (cOne (cI .i64)))) (fun a => f19 (a.1) (a.2))), (22, conF (aNil) (rOne (cX kx26)) (fun a => f22))] from ⟨sp14, sp16, sp19, sp22, trivial⟩) (show FnL Try.prog [] from trivial) (fnLp_nil _) joinOk
noncomputable def f7 (a : Nat → Int) : Option (Bool) :=
 Option.bind (f19 (nthI [a 0, a 1, a 2, a 3, a 4, a 5, a 6, a 7, a 8, a 9, a 10, a 11, a 12, a 13, a 14, a 15, a 16, a 17, a 18, a 19, a 20, a 21, a 22, a 23, a 24, a 25, a 26, a 27, a 28, a 29, a 30, a 31, a 32, a 33, a 34, a 35, bif !decide (a 36 = 0) then 1 else 0, bif !decide (a 37 = 0) then 1 else 0, a 38, a 39]) (nthI [a 0, a 1, a 2, a 3, a 4, a 5, a 6, a 7, a 8, a 9, a 10, a 11, a 12, a 13, a 14, a 15, a 16, a 17, a 18, a 19, a 20, a 21, a 22, a 23, a 24, a 25, a 26, a 27, a 28, a 29, a 30, a 31, a 32, a 33, a 34, a 35, bif !decide (a 36 = 0) then 1 else 0, bif !decide (a 37 = 0) then 1 else 0, a 38, a 39])) (fun r1 =>
 Option.bind (f22) (fun r2 =>
 Option.bind (f19 (nthI [a 0, a 1, a 2, a 3, a 4, a 5, a 6, a 7, a 8, a 9, a 10, a 11, a 12, a 13, a 14, a 15, a 16, a 17, a 18, a 19, a 20, a 21, a 22, a 23, a 24, a 25, a 26, a 27, a 28, a 29, a 30, a 31, a 32, a 33, a 34, a 35, bif !decide (a 36 = 0) then 1 else 0, bif !decide (a 37 = 0) then 1 else 0, a 38, a 39]) (nthI [r2 0, r2 1, r2 2, r2 3, r2 4, r2 5, r2 6, r2 7, r2 8, r2 9, r2 10, r2 11, r2 12, r2 13, r2 14, r2 15, r2 16, r2 17, r2 18, r2 19, r2 20, r2 21, r2 22, r2 23, r2 24, r2 25, r2 26, r2 27, r2 28, r2 29, r2 30, r2 31, r2 32, r2 33, r2 34, r2 35, bif !decide (r2 36 = 0) then 1 else 0, bif !decide (r2 37 = 0) then 1 else 0, r2 38, r2 39])) (fun r3 =>
 Option.bind (f14 (nthI [a 0, a 1, a 2, a 3, a 4, a 5, a 6, a 7, a 8, a 9, a 10, a 11, a 12, a 13, a 14, a 15, a 16, a 17, a 18, a 19, a 20, a 21, a 22, a 23, a 24, a 25, a 26, a 27, a 28, a 29, a 30, a 31, a 32, a 33, a 34, a 35, bif !decide (a 36 = 0) then 1 else 0, bif !decide (a 37 = 0) then 1 else 0, a 38, a 39])) (fun r4 =>
 cond (!decide (r4 = 0)) (
 cond (decide (r1.fst 0 = 0) && (decide (r1.fst 1 = 0) && (decide (r1.fst 2 = 0) && (decide (r1.fst 3 = 0) && (decide (r1.fst 4 = 0) && decide (r1.fst 5 = 0))))) && (decide (r1.fst 6 = 0) && (decide (r1.fst 7 = 0) && (decide (r1.fst 8 = 0) && (decide (r1.fst 9 = 0) && (decide (r1.fst 10 = 0) && decide (r1.fst 11 = 0))))) && (decide (r1.fst 12 = 0) && (decide (r1.fst 13 = 0) && (decide (r1.fst 14 = 0) && (decide (r1.fst 15 = 0) && (decide (r1.fst 16 = 0) && decide (r1.fst 17 = 0))))) && (decide (r1.fst 18 = 0) && (decide (r1.fst 19 = 0) && (decide (r1.fst 20 = 0) && (decide (r1.fst 21 = 0) && (decide (r1.fst 22 = 0) && decide (r1.fst 23 = 0))))) && (decide (r1.fst 24 = 0) && (decide (r1.fst 25 = 0) && (decide (r1.fst 26 = 0) && (decide (r1.fst 27 = 0) && (decide (r1.fst 28 = 0) && decide (r1.fst 29 = 0))))) && (decide (r1.fst 30 = 0) && (decide (r1.fst 31 = 0) && (decide (r1.fst 32 = 0) && (decide (r1.fst 33 = 0) && (decide (r1.fst 34 = 0) && decide (r1.fst 35 = 0)))))))))) && ((!decide (r1.fst 36 = 0)) == false && ((!decide (r1.fst 37 = 0)) == false && (decide (r1.fst 38 = 0) && decide (r1.fst 39 = 0))))) (
 cond (decide (r3.fst 0 = 0) && (decide (r3.fst 1 = 0) && (decide (r3.fst 2 = 0) && (decide (r3.fst 3 = 0) && (decide (r3.fst 4 = 0) && decide (r3.fst 5 = 0))))) && (decide (r3.fst 6 = 0) && (decide (r3.fst 7 = 0) && (decide (r3.fst 8 = 0) && (decide (r3.fst 9 = 0) && (decide (r3.fst 10 = 0) && decide (r3.fst 11 = 0))))) && (decide (r3.fst 12 = 0) && (decide (r3.fst 13 = 0) && (decide (r3.fst 14 = 0) && (decide (r3.fst 15 = 0) && (decide (r3.fst 16 = 0) && decide (r3.fst 17 = 0))))) && (decide (r3.fst 18 = 0) && (decide (r3.fst 19 = 0) && (decide (r3.fst 20 = 0) && (decide (r3.fst 21 = 0) && (decide (r3.fst 22 = 0) && decide (r3.fst 23 = 0))))) && (decide (r3.fst 24 = 0) && (decide (r3.fst 25 = 0) && (decide (r3.fst 26 = 0) && (decide (r3.fst 27 = 0) && (decide (r3.fst 28 = 0) && decide (r3.fst 29 = 0))))) && (decide (r3.fst 30 = 0) && (decide (r3.fst 31 = 0) && (decide (r3.fst 32 = 0) && (decide (r3.fst 33 = 0) && (decide (r3.fst 34 = 0) && decide (r3.fst 35 = 0)))))))))) && ((!decide (r3.fst 36 = 0)) == false && ((!decide (r3.fst 37 = 0)) == false && (decide (r3.fst 38 = 0) && decide (r3.fst 39 = 0))))) (
 cond (decide (r1.snd = r4)) (
 cond (decide (r3.snd = r4)) (
 Option.bind (f16) (fun r5 =>
 some (r5))) (
 some (false))) (
 some (false))) (
 some (false))) (
 some (false))) (
 cond (decide (r1.fst 0 = a 0) && (decide (r1.fst 1 = a 1) && (decide (r1.fst 2 = a 2) && (decide (r1.fst 3 = a 3) && (decide (r1.fst 4 = a 4) && decide (r1.fst 5 = a 5))))) && (decide (r1.fst 6 = a 6) && (decide (r1.fst 7 = a 7) && (decide (r1.fst 8 = a 8) && (decide (r1.fst 9 = a 9) && (decide (r1.fst 10 = a 10) && decide (r1.fst 11 = a 11))))) && (decide (r1.fst 12 = a 12) && (decide (r1.fst 13 = a 13) && (decide (r1.fst 14 = a 14) && (decide (r1.fst 15 = a 15) && (decide (r1.fst 16 = a 16) && decide (r1.fst 17 = a 17))))) && (decide (r1.fst 18 = a 18) && (decide (r1.fst 19 = a 19) && (decide (r1.fst 20 = a 20) && (decide (r1.fst 21 = a 21) && (decide (r1.fst 22 = a 22) && decide (r1.fst 23 = a 23))))) && (decide (r1.fst 24 = a 24) && (decide (r1.fst 25 = a 25) && (decide (r1.fst 26 = a 26) && (decide (r1.fst 27 = a 27) && (decide (r1.fst 28 = a 28) && decide (r1.fst 29 = a 29))))) && (decide (r1.fst 30 = a 30) && (decide (r1.fst 31 = a 31) && (decide (r1.fst 32 = a 32) && (decide (r1.fst 33 = a 33) && (decide (r1.fst 34 = a 34) && decide (r1.fst 35 = a 35)))))))))) && ((!decide (r1.fst 36 = 0)) == !decide (a 36 = 0) && ((!decide (r1.fst 37 = 0)) == !decide (a 37 = 0) && (decide (r1.fst 38 = a 38) && decide (r1.fst 39 = a 39))))) (
 cond (decide (r3.fst 0 = a 0) && (decide (r3.fst 1 = a 1) && (decide (r3.fst 2 = a 2) && (decide (r3.fst 3 = a 3) && (decide (r3.fst 4 = a 4) && decide (r3.fst 5 = a 5))))) && (decide (r3.fst 6 = a 6) && (decide (r3.fst 7 = a 7) && (decide (r3.fst 8 = a 8) && (decide (r3.fst 9 = a 9) && (decide (r3.fst 10 = a 10) && decide (r3.fst 11 = a 11))))) && (decide (r3.fst 12 = a 12) && (decide (r3.fst 13 = a 13) && (decide (r3.fst 14 = a 14) && (decide (r3.fst 15 = a 15) && (decide (r3.fst 16 = a 16) && decide (r3.fst 17 = a 17))))) && (decide (r3.fst 18 = a 18) && (decide (r3.fst 19 = a 19) && (decide (r3.fst 20 = a 20) && (decide (r3.fst 21 = a 21) && (decide (r3.fst 22 = a 22) && decide (r3.fst 23 = a 23))))) && (decide (r3.fst 24 = a 24) && (decide (r3.fst 25 = a 25) && (decide (r3.fst 26 = a 26) && (decide (r3.fst 27 = a 27) && (decide (r3.fst 28 = a 28) && decide (r3.fst 29 = a 29))))) && (decide (r3.fst 30 = a 30) && (decide (r3.fst 31 = a 31) && (decide (r3.fst 32 = a 32) && (decide (r3.fst 33 = a 33) && (decide (r3.fst 34 = a 34) && decide (r3.fst 35 = a 35)))))))))) && ((!decide (r3.fst 36 = 0)) == !decide (a 36 = 0) && ((!decide (r3.fst 37 = 0)) == !decide (a 37 = 0) && (decide (r3.fst 38 = a 38) && decide (r3.fst 39 = a 39))))) (
 cond (decide (r1.snd = 0)) (
 cond (decide (r3.snd = 0)) (
 Option.bind (f16) (fun r5 =>
 some (r5))) (
 some (false))) (
 some (false))) (
 some (false))) (
 some (false)))))))
theorem evg7 (f14 : (Nat → Int) → Option (Int)) (f16 : Option (Bool)) (f19 : (Nat → Int) → (Nat → Int) → Option ((Nat → Int) × Int)) (f22 : Option ((Nat → Int)))  (xx : (aOne (pC (cX kx26))).T) : evF (R := (rOne (cB)).T) (cx [] [(14, conF (aOne (pC (cX kx26))) (rOne (cI .i64)) (fun a => f14 a)), (16, conF (aNil) (rOne (cB)) (fun a => f16)), (19, conF (aCons (pC (cX kx26)) (aOne (pC (cX kx26)))) (rTup (cCons (cX kx26) (cOne (cI .i64)))) (fun a => f19 (a.1) (a.2))), (22, conF (aNil) (rOne (cX kx26)) (fun a => f22))] []) 1000 Try.f7 ((aOne (pC (cX kx26))).enc gG xx) (glMem gl) 0 (rOne (cB)).dec =
 (fun (a : Nat → Int) =>
 (( Option.bind (f19 (nthI [a 0, a 1, a 2, a 3, a 4, a 5, a 6, a 7, a 8, a 9, a 10, a 11, a 12, a 13, a 14, a 15, a 16, a 17, a 18, a 19, a 20, a 21, a 22, a 23, a 24, a 25, a 26, a 27, a 28, a 29, a 30, a 31, a 32, a 33, a 34, a 35, bif !decide (a 36 = 0) then 1 else 0, bif !decide (a 37 = 0) then 1 else 0, a 38, a 39]) (nthI [a 0, a 1, a 2, a 3, a 4, a 5, a 6, a 7, a 8, a 9, a 10, a 11, a 12, a 13, a 14, a 15, a 16, a 17, a 18, a 19, a 20, a 21, a 22, a 23, a 24, a 25, a 26, a 27, a 28, a 29, a 30, a 31, a 32, a 33, a 34, a 35, bif !decide (a 36 = 0) then 1 else 0, bif !decide (a 37 = 0) then 1 else 0, a 38, a 39])) (fun r1 =>
 Option.bind (f22) (fun r2 =>
 Option.bind (f19 (nthI [a 0, a 1, a 2, a 3, a 4, a 5, a 6, a 7, a 8, a 9, a 10, a 11, a 12, a 13, a 14, a 15, a 16, a 17, a 18, a 19, a 20, a 21, a 22, a 23, a 24, a 25, a 26, a 27, a 28, a 29, a 30, a 31, a 32, a 33, a 34, a 35, bif !decide (a 36 = 0) then 1 else 0, bif !decide (a 37 = 0) then 1 else 0, a 38, a 39]) (nthI [r2 0, r2 1, r2 2, r2 3, r2 4, r2 5, r2 6, r2 7, r2 8, r2 9, r2 10, r2 11, r2 12, r2 13, r2 14, r2 15, r2 16, r2 17, r2 18, r2 19, r2 20, r2 21, r2 22, r2 23, r2 24, r2 25, r2 26, r2 27, r2 28, r2 29, r2 30, r2 31, r2 32, r2 33, r2 34, r2 35, bif !decide (r2 36 = 0) then 1 else 0, bif !decide (r2 37 = 0) then 1 else 0, r2 38, r2 39])) (fun r3 =>
 Option.bind (f14 (nthI [a 0, a 1, a 2, a 3, a 4, a 5, a 6, a 7, a 8, a 9, a 10, a 11, a 12, a 13, a 14, a 15, a 16, a 17, a 18, a 19, a 20, a 21, a 22, a 23, a 24, a 25, a 26, a 27, a 28, a 29, a 30, a 31, a 32, a 33, a 34, a 35, bif !decide (a 36 = 0) then 1 else 0, bif !decide (a 37 = 0) then 1 else 0, a 38, a 39])) (fun r4 =>
 cond (!decide (r4 = 0)) (
 cond (decide (r1.fst 0 = 0) && (decide (r1.fst 1 = 0) && (decide (r1.fst 2 = 0) && (decide (r1.fst 3 = 0) && (decide (r1.fst 4 = 0) && decide (r1.fst 5 = 0))))) && (decide (r1.fst 6 = 0) && (decide (r1.fst 7 = 0) && (decide (r1.fst 8 = 0) && (decide (r1.fst 9 = 0) && (decide (r1.fst 10 = 0) && decide (r1.fst 11 = 0))))) && (decide (r1.fst 12 = 0) && (decide (r1.fst 13 = 0) && (decide (r1.fst 14 = 0) && (decide (r1.fst 15 = 0) && (decide (r1.fst 16 = 0) && decide (r1.fst 17 = 0))))) && (decide (r1.fst 18 = 0) && (decide (r1.fst 19 = 0) && (decide (r1.fst 20 = 0) && (decide (r1.fst 21 = 0) && (decide (r1.fst 22 = 0) && decide (r1.fst 23 = 0))))) && (decide (r1.fst 24 = 0) && (decide (r1.fst 25 = 0) && (decide (r1.fst 26 = 0) && (decide (r1.fst 27 = 0) && (decide (r1.fst 28 = 0) && decide (r1.fst 29 = 0))))) && (decide (r1.fst 30 = 0) && (decide (r1.fst 31 = 0) && (decide (r1.fst 32 = 0) && (decide (r1.fst 33 = 0) && (decide (r1.fst 34 = 0) && decide (r1.fst 35 = 0)))))))))) && ((!decide (r1.fst 36 = 0)) == false && ((!decide (r1.fst 37 = 0)) == false && (decide (r1.fst 38 = 0) && decide (r1.fst 39 = 0))))) (
 cond (decide (r3.fst 0 = 0) && (decide (r3.fst 1 = 0) && (decide (r3.fst 2 = 0) && (decide (r3.fst 3 = 0) && (decide (r3.fst 4 = 0) && decide (r3.fst 5 = 0))))) && (decide (r3.fst 6 = 0) && (decide (r3.fst 7 = 0) && (decide (r3.fst 8 = 0) && (decide (r3.fst 9 = 0) && (decide (r3.fst 10 = 0) && decide (r3.fst 11 = 0))))) && (decide (r3.fst 12 = 0) && (decide (r3.fst 13 = 0) && (decide (r3.fst 14 = 0) && (decide (r3.fst 15 = 0) && (decide (r3.fst 16 = 0) && decide (r3.fst 17 = 0))))) && (decide (r3.fst 18 = 0) && (decide (r3.fst 19 = 0) && (decide (r3.fst 20 = 0) && (decide (r3.fst 21 = 0) && (decide (r3.fst 22 = 0) && decide (r3.fst 23 = 0))))) && (decide (r3.fst 24 = 0) && (decide (r3.fst 25 = 0) && (decide (r3.fst 26 = 0) && (decide (r3.fst 27 = 0) && (decide (r3.fst 28 = 0) && decide (r3.fst 29 = 0))))) && (decide (r3.fst 30 = 0) && (decide (r3.fst 31 = 0) && (decide (r3.fst 32 = 0) && (decide (r3.fst 33 = 0) && (decide (r3.fst 34 = 0) && decide (r3.fst 35 = 0)))))))))) && ((!decide (r3.fst 36 = 0)) == false && ((!decide (r3.fst 37 = 0)) == false && (decide (r3.fst 38 = 0) && decide (r3.fst 39 = 0))))) (
 cond (decide (r1.snd = r4)) (
 cond (decide (r3.snd = r4)) (
 Option.bind (f16) (fun r5 =>
 some (r5))) (
 some (false))) (
 some (false))) (
 some (false))) (
 some (false))) (
 cond (decide (r1.fst 0 = a 0) && (decide (r1.fst 1 = a 1) && (decide (r1.fst 2 = a 2) && (decide (r1.fst 3 = a 3) && (decide (r1.fst 4 = a 4) && decide (r1.fst 5 = a 5))))) && (decide (r1.fst 6 = a 6) && (decide (r1.fst 7 = a 7) && (decide (r1.fst 8 = a 8) && (decide (r1.fst 9 = a 9) && (decide (r1.fst 10 = a 10) && decide (r1.fst 11 = a 11))))) && (decide (r1.fst 12 = a 12) && (decide (r1.fst 13 = a 13) && (decide (r1.fst 14 = a 14) && (decide (r1.fst 15 = a 15) && (decide (r1.fst 16 = a 16) && decide (r1.fst 17 = a 17))))) && (decide (r1.fst 18 = a 18) && (decide (r1.fst 19 = a 19) && (decide (r1.fst 20 = a 20) && (decide (r1.fst 21 = a 21) && (decide (r1.fst 22 = a 22) && decide (r1.fst 23 = a 23))))) && (decide (r1.fst 24 = a 24) && (decide (r1.fst 25 = a 25) && (decide (r1.fst 26 = a 26) && (decide (r1.fst 27 = a 27) && (decide (r1.fst 28 = a 28) && decide (r1.fst 29 = a 29))))) && (decide (r1.fst 30 = a 30) && (decide (r1.fst 31 = a 31) && (decide (r1.fst 32 = a 32) && (decide (r1.fst 33 = a 33) && (decide (r1.fst 34 = a 34) && decide (r1.fst 35 = a 35)))))))))) && ((!decide (r1.fst 36 = 0)) == !decide (a 36 = 0) && ((!decide (r1.fst 37 = 0)) == !decide (a 37 = 0) && (decide (r1.fst 38 = a 38) && decide (r1.fst 39 = a 39))))) (
 cond (decide (r3.fst 0 = a 0) && (decide (r3.fst 1 = a 1) && (decide (r3.fst 2 = a 2) && (decide (r3.fst 3 = a 3) && (decide (r3.fst 4 = a 4) && decide (r3.fst 5 = a 5))))) && (decide (r3.fst 6 = a 6) && (decide (r3.fst 7 = a 7) && (decide (r3.fst 8 = a 8) && (decide (r3.fst 9 = a 9) && (decide (r3.fst 10 = a 10) && decide (r3.fst 11 = a 11))))) && (decide (r3.fst 12 = a 12) && (decide (r3.fst 13 = a 13) && (decide (r3.fst 14 = a 14) && (decide (r3.fst 15 = a 15) && (decide (r3.fst 16 = a 16) && decide (r3.fst 17 = a 17))))) && (decide (r3.fst 18 = a 18) && (decide (r3.fst 19 = a 19) && (decide (r3.fst 20 = a 20) && (decide (r3.fst 21 = a 21) && (decide (r3.fst 22 = a 22) && decide (r3.fst 23 = a 23))))) && (decide (r3.fst 24 = a 24) && (decide (r3.fst 25 = a 25) && (decide (r3.fst 26 = a 26) && (decide (r3.fst 27 = a 27) && (decide (r3.fst 28 = a 28) && decide (r3.fst 29 = a 29))))) && (decide (r3.fst 30 = a 30) && (decide (r3.fst 31 = a 31) && (decide (r3.fst 32 = a 32) && (decide (r3.fst 33 = a 33) && (decide (r3.fst 34 = a 34) && decide (r3.fst 35 = a 35)))))))))) && ((!decide (r3.fst 36 = 0)) == !decide (a 36 = 0) && ((!decide (r3.fst 37 = 0)) == !decide (a 37 = 0) && (decide (r3.fst 38 = a 38) && decide (r3.fst 39 = a 39))))) (
 cond (decide (r1.snd = 0)) (
 cond (decide (r3.snd = 0)) (
 Option.bind (f16) (fun r5 =>
 some (r5))) (
 some (false))) (
 some (false))) (
 some (false))) (
 some (false)))))))) : Option (Bool))) xx := by kernel_rfl
theorem ev7 (a : (aOne (pC (cX kx26))).T) : evF (R := (rOne (cB)).T) (cx [] [(14, conF (aOne (pC (cX kx26))) (rOne (cI .i64)) (fun a => f14 a)), (16, conF (aNil) (rOne (cB)) (fun a => f16)), (19, conF (aCons (pC (cX kx26)) (aOne (pC (cX kx26)))) (rTup (cCons (cX kx26) (cOne (cI .i64)))) (fun a => f19 (a.1) (a.2))), (22, conF (aNil) (rOne (cX kx26)) (fun a => f22))] []) 1000 Try.f7 ((aOne (pC (cX kx26))).enc gG a) (glMem gl) 0 (rOne (cB)).dec = f7 a := evg7 f14 f16 f19 f22  a
theorem sp7 : VE.Spec Try.prog gG gl 7 (conF (aOne (pC (cX kx26))) (rOne (cB)) (fun a => f7 a)) := spec_of ok7 Try.func7 Try.call7 (lpAll_nil rfl) 1000 (aOne_ok (pC_ok (cX_ok _))) (rOne_ok (cB_ok)) ev7

/-- dancestudiolaw22.great -/
theorem ok23 : CtxOK Try.prog (cx [] [] []) gl := ctx_of tyOk moOk (show SpecL Try.prog gG gl [] from trivial) (show FnL Try.prog [] from trivial) (fnLp_nil _) joinOk
noncomputable def f23 (a : Sl × Sl) : Option (Bool) :=
 cond (decide (100 < Int.ofNat a.fst.fst)) (
 some (true)) (
 some (decide (100 < Int.ofNat a.snd.fst)))
theorem evg23   (xx : (aOne (pSS kx59 kx3)).T) : evF (R := (rOne (cB)).T) (cx [] [] []) 1000 Try.f23 ((aOne (pSS kx59 kx3)).enc gG xx) (glMem gl) 2 (rOne (cB)).dec =
 (fun (a : Sl × Sl) =>
 (( cond (decide (100 < Int.ofNat a.fst.fst)) (
 some (true)) (
 some (decide (100 < Int.ofNat a.snd.fst)))) : Option (Bool))) xx := by kernel_rfl
theorem ev23 (a : (aOne (pSS kx59 kx3)).T) : evF (R := (rOne (cB)).T) (cx [] [] []) 1000 Try.f23 ((aOne (pSS kx59 kx3)).enc gG a) (glMem gl) 2 (rOne (cB)).dec = f23 a := evg23   a
theorem sp23 : VE.Spec Try.prog gG gl 23 (conF (aOne (pSS kx59 kx3)) (rOne (cB)) (fun a => f23 a)) := spec_of ok23 Try.func23 Try.call23 (lpAll_nil rfl) 1000 (aOne_ok (pSS_ok _ _)) (rOne_ok (cB_ok)) ev23

/-- limits.limb -/
theorem ok41 : CtxOK Try.prog (cx [] [(34, conF (aCons (pC (cA .i64 6)) (aOne (pC (cA .i64 3)))) (rOne (cB)) (fun a => f34 (a.1) (a.2))), (49, conF (aOne (pC (cA .i64 3))) (rOne (cB)) (fun a => f49 a)), (55, conF (aCons (pC (cI .i64)) (aOne (pC (cI .i64)))) (rOne (cI .i64)) (fun a => f55 (a.1) (a.2)))] [] true) gl := ctx_of tyOk moOk (show SpecL Try.prog gG gl [(34, conF (aCons (pC (cA .i64 6)) (aOne (pC (cA .i64 3)))) (rOne (cB)) (fun a => f34 (a.1) (a.2))), (49, conF (aOne (pC (cA .i64 3))) (rOne (cB)) (fun a => f49 a)), (55, conF (aCons (pC (cI .i64)) (aOne (pC (cI .i64)))) (rOne (cI .i64)) (fun a => f55 (a.1) (a.2)))] from ⟨sp34, sp49, sp55, trivial⟩) (show FnL Try.prog [] from trivial) (fnLp_nil _) joinOk
noncomputable def f41 (a : Nat → Int) (b : Sl) (c : Int) (d : Int) : Option (Int) :=
 cond (decide (0 ≤ c)) (
 cond (decide (c < Int.ofNat b.fst)) (
 cond (decide (0 ≤ d)) (
 cond (decide (d < 6)) (
 Option.bind (f34 a (nthI [[b.snd c.toNat 4, b.snd c.toNat 7, b.snd c.toNat 10, b.snd c.toNat 13, b.snd c.toNat 16, b.snd c.toNat 19].getD d.toNat 0, [b.snd c.toNat 5, b.snd c.toNat 8, b.snd c.toNat 11, b.snd c.toNat 14, b.snd c.toNat 17, b.snd c.toNat 20].getD d.toNat 0, [b.snd c.toNat 6, b.snd c.toNat 9, b.snd c.toNat 12, b.snd c.toNat 15, b.snd c.toNat 18, b.snd c.toNat 21].getD d.toNat 0])) (fun r4 =>
 cond (!r4) (
 some (25)) (
 cond (decide (c = 0)) (
 some (0)) (
 cond (decide (0 ≤ IntKind.i64.wrap (c - 1))) (
 cond (decide (IntKind.i64.wrap (c - 1) < Int.ofNat b.fst)) (
 cond (decide (0 ≤ d)) (
 cond (decide (d < 6)) (
 Option.bind (cond (decide (a 5 < maxI (IntKind.i64.wrap ([b.snd c.toNat 5, b.snd c.toNat 8, b.snd c.toNat 11, b.snd c.toNat 14, b.snd c.toNat 17, b.snd c.toNat 20].getD d.toNat 0 - [b.snd (IntKind.i64.wrap (c - 1)).toNat 5, b.snd (IntKind.i64.wrap (c - 1)).toNat 8, b.snd (IntKind.i64.wrap (c - 1)).toNat 11, b.snd (IntKind.i64.wrap (c - 1)).toNat 14, b.snd (IntKind.i64.wrap (c - 1)).toNat 17, b.snd (IntKind.i64.wrap (c - 1)).toNat 20].getD d.toNat 0)) (IntKind.i64.wrap (0 - IntKind.i64.wrap ([b.snd c.toNat 5, b.snd c.toNat 8, b.snd c.toNat 11, b.snd c.toNat 14, b.snd c.toNat 17, b.snd c.toNat 20].getD d.toNat 0 - [b.snd (IntKind.i64.wrap (c - 1)).toNat 5, b.snd (IntKind.i64.wrap (c - 1)).toNat 8, b.snd (IntKind.i64.wrap (c - 1)).toNat 11, b.snd (IntKind.i64.wrap (c - 1)).toNat 14, b.snd (IntKind.i64.wrap (c - 1)).toNat 17, b.snd (IntKind.i64.wrap (c - 1)).toNat 20].getD d.toNat 0))))) (
 some (true)) (
 Option.bind (f49 (nthI [[b.snd c.toNat 4, b.snd c.toNat 7, b.snd c.toNat 10, b.snd c.toNat 13, b.snd c.toNat 16, b.snd c.toNat 19].getD d.toNat 0, [b.snd c.toNat 5, b.snd c.toNat 8, b.snd c.toNat 11, b.snd c.toNat 14, b.snd c.toNat 17, b.snd c.toNat 20].getD d.toNat 0, [b.snd c.toNat 6, b.snd c.toNat 9, b.snd c.toNat 12, b.snd c.toNat 15, b.snd c.toNat 18, b.snd c.toNat 21].getD d.toNat 0])) (fun r5 =>
 cond (!r5) (
 Option.bind (f49 (nthI [[b.snd (IntKind.i64.wrap (c - 1)).toNat 4, b.snd (IntKind.i64.wrap (c - 1)).toNat 7, b.snd (IntKind.i64.wrap (c - 1)).toNat 10, b.snd (IntKind.i64.wrap (c - 1)).toNat 13, b.snd (IntKind.i64.wrap (c - 1)).toNat 16, b.snd (IntKind.i64.wrap (c - 1)).toNat 19].getD d.toNat 0, [b.snd (IntKind.i64.wrap (c - 1)).toNat 5, b.snd (IntKind.i64.wrap (c - 1)).toNat 8, b.snd (IntKind.i64.wrap (c - 1)).toNat 11, b.snd (IntKind.i64.wrap (c - 1)).toNat 14, b.snd (IntKind.i64.wrap (c - 1)).toNat 17, b.snd (IntKind.i64.wrap (c - 1)).toNat 20].getD d.toNat 0, [b.snd (IntKind.i64.wrap (c - 1)).toNat 6, b.snd (IntKind.i64.wrap (c - 1)).toNat 9, b.snd (IntKind.i64.wrap (c - 1)).toNat 12, b.snd (IntKind.i64.wrap (c - 1)).toNat 15, b.snd (IntKind.i64.wrap (c - 1)).toNat 18, b.snd (IntKind.i64.wrap (c - 1)).toNat 21].getD d.toNat 0])) (fun r6 =>
 cond (!r6) (
 Option.bind (f55 ([b.snd (IntKind.i64.wrap (c - 1)).toNat 4, b.snd (IntKind.i64.wrap (c - 1)).toNat 7, b.snd (IntKind.i64.wrap (c - 1)).toNat 10, b.snd (IntKind.i64.wrap (c - 1)).toNat 13, b.snd (IntKind.i64.wrap (c - 1)).toNat 16, b.snd (IntKind.i64.wrap (c - 1)).toNat 19].getD d.toNat 0) ([b.snd c.toNat 4, b.snd c.toNat 7, b.snd c.toNat 10, b.snd c.toNat 13, b.snd c.toNat 16, b.snd c.toNat 19].getD d.toNat 0)) (fun r7 =>
 some (decide (a 5 < r7)))) (
 some (false)))) (
 some (false))))) (fun r5 =>
 cond (r5) (
 some (26)) (
 some (0)))) none) none) none) none)))) none) none) none) none
theorem evg41 (f34 : (Nat → Int) → (Nat → Int) → Option (Bool)) (f49 : (Nat → Int) → Option (Bool)) (f55 : (Int) → (Int) → Option (Int))  (xx : (aCons (pC (cA .i64 6)) (aCons (pS kx59) (aCons (pC (cI .i64)) (aOne (pC (cI .i64)))))).T) : evF (R := (rOne (cI .i64)).T) (cx [] [(34, conF (aCons (pC (cA .i64 6)) (aOne (pC (cA .i64 3)))) (rOne (cB)) (fun a => f34 (a.1) (a.2))), (49, conF (aOne (pC (cA .i64 3))) (rOne (cB)) (fun a => f49 a)), (55, conF (aCons (pC (cI .i64)) (aOne (pC (cI .i64)))) (rOne (cI .i64)) (fun a => f55 (a.1) (a.2)))] [] true) 1000 Try.f41 ((aCons (pC (cA .i64 6)) (aCons (pS kx59) (aCons (pC (cI .i64)) (aOne (pC (cI .i64)))))).enc gG xx) (glMem gl) 1 (rOne (cI .i64)).dec =
 (fun (a : Nat → Int) (b : Sl) (c : Int) (d : Int) =>
 (( cond (decide (0 ≤ c)) (
 cond (decide (c < Int.ofNat b.fst)) (
 cond (decide (0 ≤ d)) (
 cond (decide (d < 6)) (
 Option.bind (f34 (nthI [a 0, a 1, a 2, a 3, a 4, a 5]) (nthI [[b.snd c.toNat 4, b.snd c.toNat 7, b.snd c.toNat 10, b.snd c.toNat 13, b.snd c.toNat 16, b.snd c.toNat 19].getD d.toNat 0, [b.snd c.toNat 5, b.snd c.toNat 8, b.snd c.toNat 11, b.snd c.toNat 14, b.snd c.toNat 17, b.snd c.toNat 20].getD d.toNat 0, [b.snd c.toNat 6, b.snd c.toNat 9, b.snd c.toNat 12, b.snd c.toNat 15, b.snd c.toNat 18, b.snd c.toNat 21].getD d.toNat 0])) (fun r4 =>
 cond (!r4) (
 some (25)) (
 cond (decide (c = 0)) (
 some (0)) (
 cond (decide (0 ≤ IntKind.i64.wrap (c - 1))) (
 cond (decide (IntKind.i64.wrap (c - 1) < Int.ofNat b.fst)) (
 cond (decide (0 ≤ d)) (
 cond (decide (d < 6)) (
 Option.bind (cond (decide (a 5 < maxI (IntKind.i64.wrap ([b.snd c.toNat 5, b.snd c.toNat 8, b.snd c.toNat 11, b.snd c.toNat 14, b.snd c.toNat 17, b.snd c.toNat 20].getD d.toNat 0 - [b.snd (IntKind.i64.wrap (c - 1)).toNat 5, b.snd (IntKind.i64.wrap (c - 1)).toNat 8, b.snd (IntKind.i64.wrap (c - 1)).toNat 11, b.snd (IntKind.i64.wrap (c - 1)).toNat 14, b.snd (IntKind.i64.wrap (c - 1)).toNat 17, b.snd (IntKind.i64.wrap (c - 1)).toNat 20].getD d.toNat 0)) (IntKind.i64.wrap (0 - IntKind.i64.wrap ([b.snd c.toNat 5, b.snd c.toNat 8, b.snd c.toNat 11, b.snd c.toNat 14, b.snd c.toNat 17, b.snd c.toNat 20].getD d.toNat 0 - [b.snd (IntKind.i64.wrap (c - 1)).toNat 5, b.snd (IntKind.i64.wrap (c - 1)).toNat 8, b.snd (IntKind.i64.wrap (c - 1)).toNat 11, b.snd (IntKind.i64.wrap (c - 1)).toNat 14, b.snd (IntKind.i64.wrap (c - 1)).toNat 17, b.snd (IntKind.i64.wrap (c - 1)).toNat 20].getD d.toNat 0))))) (
 some (true)) (
 Option.bind (f49 (nthI [[b.snd c.toNat 4, b.snd c.toNat 7, b.snd c.toNat 10, b.snd c.toNat 13, b.snd c.toNat 16, b.snd c.toNat 19].getD d.toNat 0, [b.snd c.toNat 5, b.snd c.toNat 8, b.snd c.toNat 11, b.snd c.toNat 14, b.snd c.toNat 17, b.snd c.toNat 20].getD d.toNat 0, [b.snd c.toNat 6, b.snd c.toNat 9, b.snd c.toNat 12, b.snd c.toNat 15, b.snd c.toNat 18, b.snd c.toNat 21].getD d.toNat 0])) (fun r5 =>
 cond (!r5) (
 Option.bind (f49 (nthI [[b.snd (IntKind.i64.wrap (c - 1)).toNat 4, b.snd (IntKind.i64.wrap (c - 1)).toNat 7, b.snd (IntKind.i64.wrap (c - 1)).toNat 10, b.snd (IntKind.i64.wrap (c - 1)).toNat 13, b.snd (IntKind.i64.wrap (c - 1)).toNat 16, b.snd (IntKind.i64.wrap (c - 1)).toNat 19].getD d.toNat 0, [b.snd (IntKind.i64.wrap (c - 1)).toNat 5, b.snd (IntKind.i64.wrap (c - 1)).toNat 8, b.snd (IntKind.i64.wrap (c - 1)).toNat 11, b.snd (IntKind.i64.wrap (c - 1)).toNat 14, b.snd (IntKind.i64.wrap (c - 1)).toNat 17, b.snd (IntKind.i64.wrap (c - 1)).toNat 20].getD d.toNat 0, [b.snd (IntKind.i64.wrap (c - 1)).toNat 6, b.snd (IntKind.i64.wrap (c - 1)).toNat 9, b.snd (IntKind.i64.wrap (c - 1)).toNat 12, b.snd (IntKind.i64.wrap (c - 1)).toNat 15, b.snd (IntKind.i64.wrap (c - 1)).toNat 18, b.snd (IntKind.i64.wrap (c - 1)).toNat 21].getD d.toNat 0])) (fun r6 =>
 cond (!r6) (
 Option.bind (f55 ([b.snd (IntKind.i64.wrap (c - 1)).toNat 4, b.snd (IntKind.i64.wrap (c - 1)).toNat 7, b.snd (IntKind.i64.wrap (c - 1)).toNat 10, b.snd (IntKind.i64.wrap (c - 1)).toNat 13, b.snd (IntKind.i64.wrap (c - 1)).toNat 16, b.snd (IntKind.i64.wrap (c - 1)).toNat 19].getD d.toNat 0) ([b.snd c.toNat 4, b.snd c.toNat 7, b.snd c.toNat 10, b.snd c.toNat 13, b.snd c.toNat 16, b.snd c.toNat 19].getD d.toNat 0)) (fun r7 =>
 some (decide (a 5 < r7)))) (
 some (false)))) (
 some (false))))) (fun r5 =>
 cond (r5) (
 some (26)) (
 some (0)))) none) none) none) none)))) none) none) none) none) : Option (Int))) xx.1 xx.2.1 xx.2.2.1 xx.2.2.2 := by kernel_rfl
noncomputable def g41 (a : Nat → Int) (b : Sl) (c : Int) (d : Int) : Option (Int) :=
 cond (decide (0 ≤ c)) (
 cond (decide (c < Int.ofNat b.fst)) (
 cond (decide (0 ≤ d)) (
 cond (decide (d < 6)) (
 Option.bind (f34 (nthI [a 0, a 1, a 2, a 3, a 4, a 5]) (nthI [[b.snd c.toNat 4, b.snd c.toNat 7, b.snd c.toNat 10, b.snd c.toNat 13, b.snd c.toNat 16, b.snd c.toNat 19].getD d.toNat 0, [b.snd c.toNat 5, b.snd c.toNat 8, b.snd c.toNat 11, b.snd c.toNat 14, b.snd c.toNat 17, b.snd c.toNat 20].getD d.toNat 0, [b.snd c.toNat 6, b.snd c.toNat 9, b.snd c.toNat 12, b.snd c.toNat 15, b.snd c.toNat 18, b.snd c.toNat 21].getD d.toNat 0])) (fun r4 =>
 cond (!r4) (
 some (25)) (
 cond (decide (c = 0)) (
 some (0)) (
 cond (decide (0 ≤ IntKind.i64.wrap (c - 1))) (
 cond (decide (IntKind.i64.wrap (c - 1) < Int.ofNat b.fst)) (
 cond (decide (0 ≤ d)) (
 cond (decide (d < 6)) (
 Option.bind (cond (decide (a 5 < maxI (IntKind.i64.wrap ([b.snd c.toNat 5, b.snd c.toNat 8, b.snd c.toNat 11, b.snd c.toNat 14, b.snd c.toNat 17, b.snd c.toNat 20].getD d.toNat 0 - [b.snd (IntKind.i64.wrap (c - 1)).toNat 5, b.snd (IntKind.i64.wrap (c - 1)).toNat 8, b.snd (IntKind.i64.wrap (c - 1)).toNat 11, b.snd (IntKind.i64.wrap (c - 1)).toNat 14, b.snd (IntKind.i64.wrap (c - 1)).toNat 17, b.snd (IntKind.i64.wrap (c - 1)).toNat 20].getD d.toNat 0)) (IntKind.i64.wrap (0 - IntKind.i64.wrap ([b.snd c.toNat 5, b.snd c.toNat 8, b.snd c.toNat 11, b.snd c.toNat 14, b.snd c.toNat 17, b.snd c.toNat 20].getD d.toNat 0 - [b.snd (IntKind.i64.wrap (c - 1)).toNat 5, b.snd (IntKind.i64.wrap (c - 1)).toNat 8, b.snd (IntKind.i64.wrap (c - 1)).toNat 11, b.snd (IntKind.i64.wrap (c - 1)).toNat 14, b.snd (IntKind.i64.wrap (c - 1)).toNat 17, b.snd (IntKind.i64.wrap (c - 1)).toNat 20].getD d.toNat 0))))) (
 some (true)) (
 Option.bind (f49 (nthI [[b.snd c.toNat 4, b.snd c.toNat 7, b.snd c.toNat 10, b.snd c.toNat 13, b.snd c.toNat 16, b.snd c.toNat 19].getD d.toNat 0, [b.snd c.toNat 5, b.snd c.toNat 8, b.snd c.toNat 11, b.snd c.toNat 14, b.snd c.toNat 17, b.snd c.toNat 20].getD d.toNat 0, [b.snd c.toNat 6, b.snd c.toNat 9, b.snd c.toNat 12, b.snd c.toNat 15, b.snd c.toNat 18, b.snd c.toNat 21].getD d.toNat 0])) (fun r5 =>
 cond (!r5) (
 Option.bind (f49 (nthI [[b.snd (IntKind.i64.wrap (c - 1)).toNat 4, b.snd (IntKind.i64.wrap (c - 1)).toNat 7, b.snd (IntKind.i64.wrap (c - 1)).toNat 10, b.snd (IntKind.i64.wrap (c - 1)).toNat 13, b.snd (IntKind.i64.wrap (c - 1)).toNat 16, b.snd (IntKind.i64.wrap (c - 1)).toNat 19].getD d.toNat 0, [b.snd (IntKind.i64.wrap (c - 1)).toNat 5, b.snd (IntKind.i64.wrap (c - 1)).toNat 8, b.snd (IntKind.i64.wrap (c - 1)).toNat 11, b.snd (IntKind.i64.wrap (c - 1)).toNat 14, b.snd (IntKind.i64.wrap (c - 1)).toNat 17, b.snd (IntKind.i64.wrap (c - 1)).toNat 20].getD d.toNat 0, [b.snd (IntKind.i64.wrap (c - 1)).toNat 6, b.snd (IntKind.i64.wrap (c - 1)).toNat 9, b.snd (IntKind.i64.wrap (c - 1)).toNat 12, b.snd (IntKind.i64.wrap (c - 1)).toNat 15, b.snd (IntKind.i64.wrap (c - 1)).toNat 18, b.snd (IntKind.i64.wrap (c - 1)).toNat 21].getD d.toNat 0])) (fun r6 =>
 cond (!r6) (
 Option.bind (f55 ([b.snd (IntKind.i64.wrap (c - 1)).toNat 4, b.snd (IntKind.i64.wrap (c - 1)).toNat 7, b.snd (IntKind.i64.wrap (c - 1)).toNat 10, b.snd (IntKind.i64.wrap (c - 1)).toNat 13, b.snd (IntKind.i64.wrap (c - 1)).toNat 16, b.snd (IntKind.i64.wrap (c - 1)).toNat 19].getD d.toNat 0) ([b.snd c.toNat 4, b.snd c.toNat 7, b.snd c.toNat 10, b.snd c.toNat 13, b.snd c.toNat 16, b.snd c.toNat 19].getD d.toNat 0)) (fun r7 =>
 some (decide (a 5 < r7)))) (
 some (false)))) (
 some (false))))) (fun r5 =>
 cond (r5) (
 some (26)) (
 some (0)))) none) none) none) none)))) none) none) none) none
theorem fg41 (a : Nat → Int) (b : Sl) (c : Int) (d : Int) : g41 a b c d = f41 a b c d := by kernel_rfl
theorem ev41 (a : (aCons (pC (cA .i64 6)) (aCons (pS kx59) (aCons (pC (cI .i64)) (aOne (pC (cI .i64)))))).T) : evF (R := (rOne (cI .i64)).T) (cx [] [(34, conF (aCons (pC (cA .i64 6)) (aOne (pC (cA .i64 3)))) (rOne (cB)) (fun a => f34 (a.1) (a.2))), (49, conF (aOne (pC (cA .i64 3))) (rOne (cB)) (fun a => f49 a)), (55, conF (aCons (pC (cI .i64)) (aOne (pC (cI .i64)))) (rOne (cI .i64)) (fun a => f55 (a.1) (a.2)))] [] true) 1000 Try.f41 ((aCons (pC (cA .i64 6)) (aCons (pS kx59) (aCons (pC (cI .i64)) (aOne (pC (cI .i64)))))).enc gG a) (glMem gl) 1 (rOne (cI .i64)).dec = f41 a.1 a.2.1 a.2.2.1 a.2.2.2 := (show evF (R := (rOne (cI .i64)).T) (cx [] [(34, conF (aCons (pC (cA .i64 6)) (aOne (pC (cA .i64 3)))) (rOne (cB)) (fun a => f34 (a.1) (a.2))), (49, conF (aOne (pC (cA .i64 3))) (rOne (cB)) (fun a => f49 a)), (55, conF (aCons (pC (cI .i64)) (aOne (pC (cI .i64)))) (rOne (cI .i64)) (fun a => f55 (a.1) (a.2)))] [] true) 1000 Try.f41 ((aCons (pC (cA .i64 6)) (aCons (pS kx59) (aCons (pC (cI .i64)) (aOne (pC (cI .i64)))))).enc gG a) (glMem gl) 1 (rOne (cI .i64)).dec = g41 a.1 a.2.1 a.2.2.1 a.2.2.2 from evg41 f34 f49 f55  a).trans (fg41 a.1 a.2.1 a.2.2.1 a.2.2.2)
theorem sp41 : VE.Spec Try.prog gG gl 41 (conF (aCons (pC (cA .i64 6)) (aCons (pS kx59) (aCons (pC (cI .i64)) (aOne (pC (cI .i64)))))) (rOne (cI .i64)) (fun a => f41 a.1 a.2.1 a.2.2.1 a.2.2.2)) := spec_of ok41 Try.func41 Try.call41 (lpAll_nil rfl) 1000 (aCons_ok (pC_ok (cA_ok _ _)) (aCons_ok (pS_ok _) (aCons_ok (pC_ok (cI_ok _)) (aOne_ok (pC_ok (cI_ok _)))))) (rOne_ok (cI_ok _)) ev41

/-- limits.body -/
theorem ok42 : CtxOK Try.prog (cx [] [(55, conF (aCons (pC (cI .i64)) (aOne (pC (cI .i64)))) (rOne (cI .i64)) (fun a => f55 (a.1) (a.2)))] []) gl := ctx_of tyOk moOk (show SpecL Try.prog gG gl [(55, conF (aCons (pC (cI .i64)) (aOne (pC (cI .i64)))) (rOne (cI .i64)) (fun a => f55 (a.1) (a.2)))] from ⟨sp55, trivial⟩) (show FnL Try.prog [] from trivial) (fnLp_nil _) joinOk
noncomputable def f42 (a : Nat → Int) (b : Sl) (c : Int) : Option (Int) :=
 cond (decide (0 ≤ c)) (
 cond (decide (c < Int.ofNat b.fst)) (
 cond (decide (b.snd c.toNat 3 < 0)) (
 cond (!!decide (a 36 = 0)) (
 some (25)) (
 cond (decide (0 < b.snd c.toNat 3)) (
 cond (!!decide (a 37 = 0)) (
 some (25)) (
 cond (decide (0 < c)) (
 cond (decide (0 ≤ IntKind.i64.wrap (c - 1))) (
 cond (decide (IntKind.i64.wrap (c - 1) < Int.ofNat b.fst)) (
 Option.bind (f55 (b.snd (IntKind.i64.wrap (c - 1)).toNat 2) (b.snd c.toNat 2)) (fun r3 =>
 cond (decide (a 39 < r3)) (
 some (26)) (
 some (0)))) none) none) (
 some (0)))) (
 cond (decide (0 < c)) (
 cond (decide (0 ≤ IntKind.i64.wrap (c - 1))) (
 cond (decide (IntKind.i64.wrap (c - 1) < Int.ofNat b.fst)) (
 Option.bind (f55 (b.snd (IntKind.i64.wrap (c - 1)).toNat 2) (b.snd c.toNat 2)) (fun r3 =>
 cond (decide (a 39 < r3)) (
 some (26)) (
 some (0)))) none) none) (
 some (0))))) (
 cond (decide (0 < b.snd c.toNat 3)) (
 cond (!!decide (a 37 = 0)) (
 some (25)) (
 cond (decide (0 < c)) (
 cond (decide (0 ≤ IntKind.i64.wrap (c - 1))) (
 cond (decide (IntKind.i64.wrap (c - 1) < Int.ofNat b.fst)) (
 Option.bind (f55 (b.snd (IntKind.i64.wrap (c - 1)).toNat 2) (b.snd c.toNat 2)) (fun r3 =>
 cond (decide (a 39 < r3)) (
 some (26)) (
 some (0)))) none) none) (
 some (0)))) (
 cond (decide (0 < c)) (
 cond (decide (0 ≤ IntKind.i64.wrap (c - 1))) (
 cond (decide (IntKind.i64.wrap (c - 1) < Int.ofNat b.fst)) (
 Option.bind (f55 (b.snd (IntKind.i64.wrap (c - 1)).toNat 2) (b.snd c.toNat 2)) (fun r3 =>
 cond (decide (a 39 < r3)) (
 some (26)) (
 some (0)))) none) none) (
 some (0))))) none) none
theorem evg42 (f55 : (Int) → (Int) → Option (Int))  (xx : (aCons (pC (cX kx26)) (aCons (pS kx59) (aOne (pC (cI .i64))))).T) : evF (R := (rOne (cI .i64)).T) (cx [] [(55, conF (aCons (pC (cI .i64)) (aOne (pC (cI .i64)))) (rOne (cI .i64)) (fun a => f55 (a.1) (a.2)))] []) 1000 Try.f42 ((aCons (pC (cX kx26)) (aCons (pS kx59) (aOne (pC (cI .i64))))).enc gG xx) (glMem gl) 1 (rOne (cI .i64)).dec =
 (fun (a : Nat → Int) (b : Sl) (c : Int) =>
 (( cond (decide (0 ≤ c)) (
 cond (decide (c < Int.ofNat b.fst)) (
 cond (decide (b.snd c.toNat 3 < 0)) (
 cond (!!decide (a 36 = 0)) (
 some (25)) (
 cond (decide (0 < b.snd c.toNat 3)) (
 cond (!!decide (a 37 = 0)) (
 some (25)) (
 cond (decide (0 < c)) (
 cond (decide (0 ≤ IntKind.i64.wrap (c - 1))) (
 cond (decide (IntKind.i64.wrap (c - 1) < Int.ofNat b.fst)) (
 Option.bind (f55 (b.snd (IntKind.i64.wrap (c - 1)).toNat 2) (b.snd c.toNat 2)) (fun r3 =>
 cond (decide (a 39 < r3)) (
 some (26)) (
 some (0)))) none) none) (
 some (0)))) (
 cond (decide (0 < c)) (
 cond (decide (0 ≤ IntKind.i64.wrap (c - 1))) (
 cond (decide (IntKind.i64.wrap (c - 1) < Int.ofNat b.fst)) (
 Option.bind (f55 (b.snd (IntKind.i64.wrap (c - 1)).toNat 2) (b.snd c.toNat 2)) (fun r3 =>
 cond (decide (a 39 < r3)) (
 some (26)) (
 some (0)))) none) none) (
 some (0))))) (
 cond (decide (0 < b.snd c.toNat 3)) (
 cond (!!decide (a 37 = 0)) (
 some (25)) (
 cond (decide (0 < c)) (
 cond (decide (0 ≤ IntKind.i64.wrap (c - 1))) (
 cond (decide (IntKind.i64.wrap (c - 1) < Int.ofNat b.fst)) (
 Option.bind (f55 (b.snd (IntKind.i64.wrap (c - 1)).toNat 2) (b.snd c.toNat 2)) (fun r3 =>
 cond (decide (a 39 < r3)) (
 some (26)) (
 some (0)))) none) none) (
 some (0)))) (
 cond (decide (0 < c)) (
 cond (decide (0 ≤ IntKind.i64.wrap (c - 1))) (
 cond (decide (IntKind.i64.wrap (c - 1) < Int.ofNat b.fst)) (
 Option.bind (f55 (b.snd (IntKind.i64.wrap (c - 1)).toNat 2) (b.snd c.toNat 2)) (fun r3 =>
 cond (decide (a 39 < r3)) (
 some (26)) (
 some (0)))) none) none) (
 some (0))))) none) none) : Option (Int))) xx.1 xx.2.1 xx.2.2 := by kernel_rfl
theorem ev42 (a : (aCons (pC (cX kx26)) (aCons (pS kx59) (aOne (pC (cI .i64))))).T) : evF (R := (rOne (cI .i64)).T) (cx [] [(55, conF (aCons (pC (cI .i64)) (aOne (pC (cI .i64)))) (rOne (cI .i64)) (fun a => f55 (a.1) (a.2)))] []) 1000 Try.f42 ((aCons (pC (cX kx26)) (aCons (pS kx59) (aOne (pC (cI .i64))))).enc gG a) (glMem gl) 1 (rOne (cI .i64)).dec = f42 a.1 a.2.1 a.2.2 := evg42 f55  a
theorem sp42 : VE.Spec Try.prog gG gl 42 (conF (aCons (pC (cX kx26)) (aCons (pS kx59) (aOne (pC (cI .i64))))) (rOne (cI .i64)) (fun a => f42 a.1 a.2.1 a.2.2)) := spec_of ok42 Try.func42 Try.call42 (lpAll_nil rfl) 1000 (aCons_ok (pC_ok (cX_ok _)) (aCons_ok (pS_ok _) (aOne_ok (pC_ok (cI_ok _))))) (rOne_ok (cI_ok _)) ev42

/-- limits.First -/
theorem okl24 : CtxOK Try.prog (cx [] [(14, conF (aOne (pC (cX kx26))) (rOne (cI .i64)) (fun a => f14 a)), (40, conF (aOne (pC (cA .i64 22))) (rOne (cI .i64)) (fun a => f40 a)), (41, conF (aCons (pC (cA .i64 6)) (aCons (pS kx59) (aCons (pC (cI .i64)) (aOne (pC (cI .i64)))))) (rOne (cI .i64)) (fun a => f41 (a.1) (a.2.1) (a.2.2.1) (a.2.2.2))), (42, conF (aCons (pC (cX kx26)) (aCons (pS kx59) (aOne (pC (cI .i64))))) (rOne (cI .i64)) (fun a => f42 (a.1) (a.2.1) (a.2.2)))] [] true) gl := ctx_of tyOk moOk (show SpecL Try.prog gG gl [(14, conF (aOne (pC (cX kx26))) (rOne (cI .i64)) (fun a => f14 a)), (40, conF (aOne (pC (cA .i64 22))) (rOne (cI .i64)) (fun a => f40 a)), (41, conF (aCons (pC (cA .i64 6)) (aCons (pS kx59) (aCons (pC (cI .i64)) (aOne (pC (cI .i64)))))) (rOne (cI .i64)) (fun a => f41 (a.1) (a.2.1) (a.2.2.1) (a.2.2.2))), (42, conF (aCons (pC (cX kx26)) (aCons (pS kx59) (aOne (pC (cI .i64))))) (rOne (cI .i64)) (fun a => f42 (a.1) (a.2.1) (a.2.2)))] from ⟨sp14, sp40, sp41, sp42, trivial⟩) (show FnL Try.prog [] from trivial) (fnLp_nil _) joinOk
def T24_0 : ST := ⟨[(2, .s (.ptr 2 0)), (3, .s (.ptr 3 0)), (4, .s (.ptr 4 0)), (38, .s (.xs 0 [some .i64, some .i64, some .i64, some .i64, some .i64, some .i64, some .i64, some .i64, some .i64, some .i64, some .i64, some .i64, some .i64, some .i64, some .i64, some .i64, some .i64, some .i64, some .i64, some .i64, some .i64, some .i64])), (39, .s (.i .i64)), (40, .s (.i .i64))], [(2, .own [.i .i64, .i .i64, .i .i64, .i .i64, .i .i64, .i .i64, .i .i64, .i .i64, .i .i64, .i .i64, .i .i64, .i .i64, .i .i64, .i .i64, .i .i64, .i .i64, .i .i64, .i .i64, .i .i64, .i .i64, .i .i64, .i .i64, .i .i64, .i .i64, .i .i64, .i .i64, .i .i64, .i .i64, .i .i64, .i .i64, .i .i64, .i .i64, .i .i64, .i .i64, .i .i64, .i .i64, .b, .b, .i .i64, .i .i64] 26), (3, .own [.xs 0 [some .i64, some .i64, some .i64, some .i64, some .i64, some .i64, some .i64, some .i64, some .i64, some .i64, some .i64, some .i64, some .i64, some .i64, some .i64, some .i64, some .i64, some .i64, some .i64, some .i64, some .i64, some .i64], .xs 1 [some .i64]] 48), (4, .own [.i .i64, .i .i64, .i .i64] 51)], 15⟩
def outs24_0 : List (AExit × ST) := [(.exit 0, ⟨[(2, .s (.ptr 2 0)), (3, .s (.ptr 3 0)), (4, .s (.ptr 4 0))], [(2, .own [.i .i64, .i .i64, .i .i64, .i .i64, .i .i64, .i .i64, .i .i64, .i .i64, .i .i64, .i .i64, .i .i64, .i .i64, .i .i64, .i .i64, .i .i64, .i .i64, .i .i64, .i .i64, .i .i64, .i .i64, .i .i64, .i .i64, .i .i64, .i .i64, .i .i64, .i .i64, .i .i64, .i .i64, .i .i64, .i .i64, .i .i64, .i .i64, .i .i64, .i .i64, .i .i64, .i .i64, .b, .b, .i .i64, .i .i64] 26), (3, .own [.xs 0 [some .i64, some .i64, some .i64, some .i64, some .i64, some .i64, some .i64, some .i64, some .i64, some .i64, some .i64, some .i64, some .i64, some .i64, some .i64, some .i64, some .i64, some .i64, some .i64, some .i64, some .i64, some .i64], .xs 1 [some .i64]] 48), (4, .own [.i .i64, .i .i64, .i .i64] 51)], 16⟩), (.ret, ⟨[(4, .s (.ptr 4 0)), (5, .s (.i .i64))], [(4, .own [.i .i64, .i .i64, .i .i64] 51)], 29⟩)]
noncomputable def s24_0 (rec : (Nat → Int) → (Nat → Sl) → Option LR) (x : Nat → Int) (y : Nat → Sl) : Option LR :=
 cond (decide (x 1 < x 0)) (
 cond (decide (0 ≤ x 1)) (
 cond (decide (x 1 < Int.ofNat (y 0).fst)) (
 Option.bind (f40 (nthI [(y 0).snd (x 1).toNat 0, (y 0).snd (x 1).toNat 1, (y 0).snd (x 1).toNat 2, (y 0).snd (x 1).toNat 3, (y 0).snd (x 1).toNat 4, (y 0).snd (x 1).toNat 5, (y 0).snd (x 1).toNat 6, (y 0).snd (x 1).toNat 7, (y 0).snd (x 1).toNat 8, (y 0).snd (x 1).toNat 9, (y 0).snd (x 1).toNat 10, (y 0).snd (x 1).toNat 11, (y 0).snd (x 1).toNat 12, (y 0).snd (x 1).toNat 13, (y 0).snd (x 1).toNat 14, (y 0).snd (x 1).toNat 15, (y 0).snd (x 1).toNat 16, (y 0).snd (x 1).toNat 17, (y 0).snd (x 1).toNat 18, (y 0).snd (x 1).toNat 19, (y 0).snd (x 1).toNat 20, (y 0).snd (x 1).toNat 21])) (fun r3 =>
 cond (!decide (r3 = 0)) (
 some ((1, nthI [r3, 0, 0, 0], nthS []))) (
 rec (nthI [x 0, IntKind.i64.wrap (x 1 + 1), x 2, x 3, x 4, x 5, x 6, x 7, x 8, x 9, x 10, x 11, x 12, x 13, x 14, x 15, x 16, x 17, x 18, x 19, x 20, x 21, x 22, x 23, x 24, x 25, x 26, x 27, x 28, x 29, x 30, x 31, x 32, x 33, x 34, x 35, x 36, x 37, bif !decide (x 38 = 0) then 1 else 0, bif !decide (x 39 = 0) then 1 else 0, x 40, x 41, x 42, x 43, x 44]) (nthS [y 0, y 1, y 2])))) none) none) (
 some ((0, nthI [x 2, x 3, x 4, x 5, x 6, x 7, x 8, x 9, x 10, x 11, x 12, x 13, x 14, x 15, x 16, x 17, x 18, x 19, x 20, x 21, x 22, x 23, x 24, x 25, x 26, x 27, x 28, x 29, x 30, x 31, x 32, x 33, x 34, x 35, x 36, x 37, bif !decide (x 38 = 0) then 1 else 0, bif !decide (x 39 = 0) then 1 else 0, x 40, x 41, x 42, x 43, x 44], nthS [y 1, y 2])))
theorem se24_0 (f40 : (Nat → Int) → Option (Int)) (rec : (Nat → Int) → (Nat → Sl) → Option LR) (x : Nat → Int) (y : Nat → Sl) : evR (cx [] [(14, conF (aOne (pC (cX kx26))) (rOne (cI .i64)) (fun a => f14 a)), (40, conF (aOne (pC (cA .i64 22))) (rOne (cI .i64)) (fun a => f40 a)), (41, conF (aCons (pC (cA .i64 6)) (aCons (pS kx59) (aCons (pC (cI .i64)) (aOne (pC (cI .i64)))))) (rOne (cI .i64)) (fun a => f41 (a.1) (a.2.1) (a.2.2.1) (a.2.2.2))), (42, conF (aCons (pC (cX kx26)) (aCons (pS kx59) (aOne (pC (cI .i64))))) (rOne (cI .i64)) (fun a => f42 (a.1) (a.2.1) (a.2.2)))] [] true) 1000 LR 107 (loopAt Try.f24 0) (encT x y T24_0) (roundK T24_0 outs24_0 rec) =
 (( cond (decide (x 1 < x 0)) (
 cond (decide (0 ≤ x 1)) (
 cond (decide (x 1 < Int.ofNat (y 0).fst)) (
 Option.bind (f40 (nthI [(y 0).snd (x 1).toNat 0, (y 0).snd (x 1).toNat 1, (y 0).snd (x 1).toNat 2, (y 0).snd (x 1).toNat 3, (y 0).snd (x 1).toNat 4, (y 0).snd (x 1).toNat 5, (y 0).snd (x 1).toNat 6, (y 0).snd (x 1).toNat 7, (y 0).snd (x 1).toNat 8, (y 0).snd (x 1).toNat 9, (y 0).snd (x 1).toNat 10, (y 0).snd (x 1).toNat 11, (y 0).snd (x 1).toNat 12, (y 0).snd (x 1).toNat 13, (y 0).snd (x 1).toNat 14, (y 0).snd (x 1).toNat 15, (y 0).snd (x 1).toNat 16, (y 0).snd (x 1).toNat 17, (y 0).snd (x 1).toNat 18, (y 0).snd (x 1).toNat 19, (y 0).snd (x 1).toNat 20, (y 0).snd (x 1).toNat 21])) (fun r3 =>
 cond (!decide (r3 = 0)) (
 some ((1, nthI [r3, 0, 0, 0], nthS []))) (
 rec (nthI [x 0, IntKind.i64.wrap (x 1 + 1), x 2, x 3, x 4, x 5, x 6, x 7, x 8, x 9, x 10, x 11, x 12, x 13, x 14, x 15, x 16, x 17, x 18, x 19, x 20, x 21, x 22, x 23, x 24, x 25, x 26, x 27, x 28, x 29, x 30, x 31, x 32, x 33, x 34, x 35, x 36, x 37, bif !decide (x 38 = 0) then 1 else 0, bif !decide (x 39 = 0) then 1 else 0, x 40, x 41, x 42, x 43, x 44]) (nthS [y 0, y 1, y 2])))) none) none) (
 some ((0, nthI [x 2, x 3, x 4, x 5, x 6, x 7, x 8, x 9, x 10, x 11, x 12, x 13, x 14, x 15, x 16, x 17, x 18, x 19, x 20, x 21, x 22, x 23, x 24, x 25, x 26, x 27, x 28, x 29, x 30, x 31, x 32, x 33, x 34, x 35, x 36, x 37, bif !decide (x 38 = 0) then 1 else 0, bif !decide (x 39 = 0) then 1 else 0, x 40, x 41, x 42, x 43, x 44], nthS [y 1, y 2])))) : Option LR) := by kernel_rfl
noncomputable def l24_0 (x : Nat → Int) (y : Nat → Sl) : Option LR := iterL s24_0 ((y 0).1 + 1) x y
theorem ls24_0 : LoopSpec Try.prog gG gl 107 ⟨T24_0, outs24_0, l24_0⟩ (loopAt Try.f24 0) := loop_ok (step := s24_0) (fu := fun x y => (y 0).1 + 1) okl24 1000 (lpNone rfl) (by kernel_rfl) (by kernel_rfl) (fun rec x y => se24_0 f40 rec x y) (fun _ _ => rfl)
def T24_1 : ST := ⟨[(2, .s (.ptr 2 0)), (3, .s (.ptr 3 0)), (4, .s (.ptr 4 0)), (10, .s (.i .i64)), (53, .s (.i .i64)), (54, .s (.i .i64))], [(2, .own [.i .i64, .i .i64, .i .i64, .i .i64, .i .i64, .i .i64, .i .i64, .i .i64, .i .i64, .i .i64, .i .i64, .i .i64, .i .i64, .i .i64, .i .i64, .i .i64, .i .i64, .i .i64, .i .i64, .i .i64, .i .i64, .i .i64, .i .i64, .i .i64, .i .i64, .i .i64, .i .i64, .i .i64, .i .i64, .i .i64, .i .i64, .i .i64, .i .i64, .i .i64, .i .i64, .i .i64, .b, .b, .i .i64, .i .i64] 26), (3, .own [.xs 0 [some .i64, some .i64, some .i64, some .i64, some .i64, some .i64, some .i64, some .i64, some .i64, some .i64, some .i64, some .i64, some .i64, some .i64, some .i64, some .i64, some .i64, some .i64, some .i64, some .i64, some .i64, some .i64], .xs 1 [some .i64]] 48), (4, .own [.i .i64, .i .i64, .i .i64] 51)], 21⟩
def outs24_1 : List (AExit × ST) := [(.exit 2, ⟨[(4, .s (.ptr 4 0))], [(4, .own [.i .i64, .i .i64, .i .i64] 51)], 22⟩), (.ret, ⟨[(4, .s (.ptr 4 0)), (5, .s (.i .i64))], [(4, .own [.i .i64, .i .i64, .i .i64] 51)], 55⟩)]
noncomputable def s24_1 (rec : (Nat → Int) → (Nat → Sl) → Option LR) (x : Nat → Int) (y : Nat → Sl) : Option LR :=
 cond (decide (x 2 < x 1)) (
 Option.bind (f41 (nthI [x 3, x 4, x 5, x 6, x 7, x 8]) (y 0) (x 2) 0) (fun r3 =>
 cond (!decide (r3 = 0)) (
 some ((1, nthI [0, r3, x 2, 0], nthS []))) (
 Option.bind (f41 (nthI [x 9, x 10, x 11, x 12, x 13, x 14]) (y 0) (x 2) 1) (fun r4 =>
 cond (!decide (r4 = 0)) (
 some ((1, nthI [0, r4, x 2, 1], nthS []))) (
 Option.bind (f41 (nthI [x 15, x 16, x 17, x 18, x 19, x 20]) (y 0) (x 2) 2) (fun r5 =>
 cond (!decide (r5 = 0)) (
 some ((1, nthI [0, r5, x 2, 2], nthS []))) (
 Option.bind (f41 (nthI [x 21, x 22, x 23, x 24, x 25, x 26]) (y 0) (x 2) 3) (fun r6 =>
 cond (!decide (r6 = 0)) (
 some ((1, nthI [0, r6, x 2, 3], nthS []))) (
 Option.bind (f41 (nthI [x 27, x 28, x 29, x 30, x 31, x 32]) (y 0) (x 2) 4) (fun r7 =>
 cond (!decide (r7 = 0)) (
 some ((1, nthI [0, r7, x 2, 4], nthS []))) (
 Option.bind (f41 (nthI [x 33, x 34, x 35, x 36, x 37, x 38]) (y 0) (x 2) 5) (fun r8 =>
 cond (!decide (r8 = 0)) (
 some ((1, nthI [0, r8, x 2, 5], nthS []))) (
 Option.bind (f42 (nthI [x 3, x 4, x 5, x 6, x 7, x 8, x 9, x 10, x 11, x 12, x 13, x 14, x 15, x 16, x 17, x 18, x 19, x 20, x 21, x 22, x 23, x 24, x 25, x 26, x 27, x 28, x 29, x 30, x 31, x 32, x 33, x 34, x 35, x 36, x 37, x 38, bif !decide (x 39 = 0) then 1 else 0, bif !decide (x 40 = 0) then 1 else 0, x 41, x 42]) (y 0) (x 2)) (fun r9 =>
 cond (decide (0 < x 2)) (
 cond (decide (0 ≤ IntKind.i64.wrap (x 2 - 1))) (
 cond (decide (IntKind.i64.wrap (x 2 - 1) < Int.ofNat (y 1).fst)) (
 cond (!decide ((y 1).snd (IntKind.i64.wrap (x 2 - 1)).toNat 0 = 0)) (
 Option.bind (cond (decide (r9 = 0)) (
 some (decide (x 41 < 0))) (
 some (false))) (fun r10 =>
 cond (r10) (
 some ((1, nthI [0, 28, x 2, 6], nthS []))) (
 cond (!decide (r9 = 0)) (
 some ((1, nthI [0, r9, x 2, 6], nthS []))) (
 rec (nthI [0, x 1, IntKind.i64.wrap (x 2 + 1), x 3, x 4, x 5, x 6, x 7, x 8, x 9, x 10, x 11, x 12, x 13, x 14, x 15, x 16, x 17, x 18, x 19, x 20, x 21, x 22, x 23, x 24, x 25, x 26, x 27, x 28, x 29, x 30, x 31, x 32, x 33, x 34, x 35, x 36, x 37, x 38, bif !decide (x 39 = 0) then 1 else 0, bif !decide (x 40 = 0) then 1 else 0, x 41, x 42, x 43, x 44, x 45]) (nthS [y 0, y 1]))))) (
 Option.bind (cond (decide (r9 = 0)) (
 some (decide (x 41 < IntKind.i64.wrap (x 0 + 1)))) (
 some (false))) (fun r10 =>
 cond (r10) (
 some ((1, nthI [0, 28, x 2, 6], nthS []))) (
 cond (!decide (r9 = 0)) (
 some ((1, nthI [0, r9, x 2, 6], nthS []))) (
 rec (nthI [IntKind.i64.wrap (x 0 + 1), x 1, IntKind.i64.wrap (x 2 + 1), x 3, x 4, x 5, x 6, x 7, x 8, x 9, x 10, x 11, x 12, x 13, x 14, x 15, x 16, x 17, x 18, x 19, x 20, x 21, x 22, x 23, x 24, x 25, x 26, x 27, x 28, x 29, x 30, x 31, x 32, x 33, x 34, x 35, x 36, x 37, x 38, bif !decide (x 39 = 0) then 1 else 0, bif !decide (x 40 = 0) then 1 else 0, x 41, x 42, x 43, x 44, x 45]) (nthS [y 0, y 1])))))) none) none) (
 Option.bind (cond (decide (r9 = 0)) (
 some (decide (x 41 < x 0))) (
 some (false))) (fun r10 =>
 cond (r10) (
 some ((1, nthI [0, 28, x 2, 6], nthS []))) (
 cond (!decide (r9 = 0)) (
 some ((1, nthI [0, r9, x 2, 6], nthS []))) (
 rec (nthI [x 0, x 1, IntKind.i64.wrap (x 2 + 1), x 3, x 4, x 5, x 6, x 7, x 8, x 9, x 10, x 11, x 12, x 13, x 14, x 15, x 16, x 17, x 18, x 19, x 20, x 21, x 22, x 23, x 24, x 25, x 26, x 27, x 28, x 29, x 30, x 31, x 32, x 33, x 34, x 35, x 36, x 37, x 38, bif !decide (x 39 = 0) then 1 else 0, bif !decide (x 40 = 0) then 1 else 0, x 41, x 42, x 43, x 44, x 45]) (nthS [y 0, y 1]))))))))))))))))))) (
 some ((0, nthI [x 43, x 44, x 45], nthS [])))
theorem se24_1 (f41 : (Nat → Int) → (Sl) → (Int) → (Int) → Option (Int)) (f42 : (Nat → Int) → (Sl) → (Int) → Option (Int)) (rec : (Nat → Int) → (Nat → Sl) → Option LR) (x : Nat → Int) (y : Nat → Sl) : evR (cx [] [(14, conF (aOne (pC (cX kx26))) (rOne (cI .i64)) (fun a => f14 a)), (40, conF (aOne (pC (cA .i64 22))) (rOne (cI .i64)) (fun a => f40 a)), (41, conF (aCons (pC (cA .i64 6)) (aCons (pS kx59) (aCons (pC (cI .i64)) (aOne (pC (cI .i64)))))) (rOne (cI .i64)) (fun a => f41 (a.1) (a.2.1) (a.2.2.1) (a.2.2.2))), (42, conF (aCons (pC (cX kx26)) (aCons (pS kx59) (aOne (pC (cI .i64))))) (rOne (cI .i64)) (fun a => f42 (a.1) (a.2.1) (a.2.2)))] [] true) 1000 LR 107 (loopAt Try.f24 1) (encT x y T24_1) (roundK T24_1 outs24_1 rec) =
 (( cond (decide (x 2 < x 1)) (
 Option.bind (f41 (nthI [x 3, x 4, x 5, x 6, x 7, x 8]) (y 0) (x 2) 0) (fun r3 =>
 cond (!decide (r3 = 0)) (
 some ((1, nthI [0, r3, x 2, 0], nthS []))) (
 Option.bind (f41 (nthI [x 9, x 10, x 11, x 12, x 13, x 14]) (y 0) (x 2) 1) (fun r4 =>
 cond (!decide (r4 = 0)) (
 some ((1, nthI [0, r4, x 2, 1], nthS []))) (
 Option.bind (f41 (nthI [x 15, x 16, x 17, x 18, x 19, x 20]) (y 0) (x 2) 2) (fun r5 =>
 cond (!decide (r5 = 0)) (
 some ((1, nthI [0, r5, x 2, 2], nthS []))) (
 Option.bind (f41 (nthI [x 21, x 22, x 23, x 24, x 25, x 26]) (y 0) (x 2) 3) (fun r6 =>
 cond (!decide (r6 = 0)) (
 some ((1, nthI [0, r6, x 2, 3], nthS []))) (
 Option.bind (f41 (nthI [x 27, x 28, x 29, x 30, x 31, x 32]) (y 0) (x 2) 4) (fun r7 =>
 cond (!decide (r7 = 0)) (
 some ((1, nthI [0, r7, x 2, 4], nthS []))) (
 Option.bind (f41 (nthI [x 33, x 34, x 35, x 36, x 37, x 38]) (y 0) (x 2) 5) (fun r8 =>
 cond (!decide (r8 = 0)) (
 some ((1, nthI [0, r8, x 2, 5], nthS []))) (
 Option.bind (f42 (nthI [x 3, x 4, x 5, x 6, x 7, x 8, x 9, x 10, x 11, x 12, x 13, x 14, x 15, x 16, x 17, x 18, x 19, x 20, x 21, x 22, x 23, x 24, x 25, x 26, x 27, x 28, x 29, x 30, x 31, x 32, x 33, x 34, x 35, x 36, x 37, x 38, bif !decide (x 39 = 0) then 1 else 0, bif !decide (x 40 = 0) then 1 else 0, x 41, x 42]) (y 0) (x 2)) (fun r9 =>
 cond (decide (0 < x 2)) (
 cond (decide (0 ≤ IntKind.i64.wrap (x 2 - 1))) (
 cond (decide (IntKind.i64.wrap (x 2 - 1) < Int.ofNat (y 1).fst)) (
 cond (!decide ((y 1).snd (IntKind.i64.wrap (x 2 - 1)).toNat 0 = 0)) (
 Option.bind (cond (decide (r9 = 0)) (
 some (decide (x 41 < 0))) (
 some (false))) (fun r10 =>
 cond (r10) (
 some ((1, nthI [0, 28, x 2, 6], nthS []))) (
 cond (!decide (r9 = 0)) (
 some ((1, nthI [0, r9, x 2, 6], nthS []))) (
 rec (nthI [0, x 1, IntKind.i64.wrap (x 2 + 1), x 3, x 4, x 5, x 6, x 7, x 8, x 9, x 10, x 11, x 12, x 13, x 14, x 15, x 16, x 17, x 18, x 19, x 20, x 21, x 22, x 23, x 24, x 25, x 26, x 27, x 28, x 29, x 30, x 31, x 32, x 33, x 34, x 35, x 36, x 37, x 38, bif !decide (x 39 = 0) then 1 else 0, bif !decide (x 40 = 0) then 1 else 0, x 41, x 42, x 43, x 44, x 45]) (nthS [y 0, y 1]))))) (
 Option.bind (cond (decide (r9 = 0)) (
 some (decide (x 41 < IntKind.i64.wrap (x 0 + 1)))) (
 some (false))) (fun r10 =>
 cond (r10) (
 some ((1, nthI [0, 28, x 2, 6], nthS []))) (
 cond (!decide (r9 = 0)) (
 some ((1, nthI [0, r9, x 2, 6], nthS []))) (
 rec (nthI [IntKind.i64.wrap (x 0 + 1), x 1, IntKind.i64.wrap (x 2 + 1), x 3, x 4, x 5, x 6, x 7, x 8, x 9, x 10, x 11, x 12, x 13, x 14, x 15, x 16, x 17, x 18, x 19, x 20, x 21, x 22, x 23, x 24, x 25, x 26, x 27, x 28, x 29, x 30, x 31, x 32, x 33, x 34, x 35, x 36, x 37, x 38, bif !decide (x 39 = 0) then 1 else 0, bif !decide (x 40 = 0) then 1 else 0, x 41, x 42, x 43, x 44, x 45]) (nthS [y 0, y 1])))))) none) none) (
 Option.bind (cond (decide (r9 = 0)) (
 some (decide (x 41 < x 0))) (
 some (false))) (fun r10 =>
 cond (r10) (
 some ((1, nthI [0, 28, x 2, 6], nthS []))) (
 cond (!decide (r9 = 0)) (
 some ((1, nthI [0, r9, x 2, 6], nthS []))) (
 rec (nthI [x 0, x 1, IntKind.i64.wrap (x 2 + 1), x 3, x 4, x 5, x 6, x 7, x 8, x 9, x 10, x 11, x 12, x 13, x 14, x 15, x 16, x 17, x 18, x 19, x 20, x 21, x 22, x 23, x 24, x 25, x 26, x 27, x 28, x 29, x 30, x 31, x 32, x 33, x 34, x 35, x 36, x 37, x 38, bif !decide (x 39 = 0) then 1 else 0, bif !decide (x 40 = 0) then 1 else 0, x 41, x 42, x 43, x 44, x 45]) (nthS [y 0, y 1]))))))))))))))))))) (
 some ((0, nthI [x 43, x 44, x 45], nthS [])))) : Option LR) := by kernel_rfl
noncomputable def l24_1 (x : Nat → Int) (y : Nat → Sl) : Option LR := iterL s24_1 ((y 0).1 + 1) x y
theorem ls24_1 : LoopSpec Try.prog gG gl 107 ⟨T24_1, outs24_1, l24_1⟩ (loopAt Try.f24 1) := loop_ok (step := s24_1) (fu := fun x y => (y 0).1 + 1) okl24 1000 (lpNone rfl) (by kernel_rfl) (by kernel_rfl) (fun rec x y => se24_1 f41 f42 rec x y) (fun _ _ => rfl)
theorem ok24 : CtxOK Try.prog (cx [] [(14, conF (aOne (pC (cX kx26))) (rOne (cI .i64)) (fun a => f14 a)), (40, conF (aOne (pC (cA .i64 22))) (rOne (cI .i64)) (fun a => f40 a)), (41, conF (aCons (pC (cA .i64 6)) (aCons (pS kx59) (aCons (pC (cI .i64)) (aOne (pC (cI .i64)))))) (rOne (cI .i64)) (fun a => f41 (a.1) (a.2.1) (a.2.2.1) (a.2.2.2))), (42, conF (aCons (pC (cX kx26)) (aCons (pS kx59) (aOne (pC (cI .i64))))) (rOne (cI .i64)) (fun a => f42 (a.1) (a.2.1) (a.2.2)))] [(107007, ⟨T24_0, outs24_0, l24_0⟩), (107015, ⟨T24_1, outs24_1, l24_1⟩)] true) gl := ctx_of tyOk moOk (show SpecL Try.prog gG gl [(14, conF (aOne (pC (cX kx26))) (rOne (cI .i64)) (fun a => f14 a)), (40, conF (aOne (pC (cA .i64 22))) (rOne (cI .i64)) (fun a => f40 a)), (41, conF (aCons (pC (cA .i64 6)) (aCons (pS kx59) (aCons (pC (cI .i64)) (aOne (pC (cI .i64)))))) (rOne (cI .i64)) (fun a => f41 (a.1) (a.2.1) (a.2.2.1) (a.2.2.2))), (42, conF (aCons (pC (cX kx26)) (aCons (pS kx59) (aOne (pC (cI .i64))))) (rOne (cI .i64)) (fun a => f42 (a.1) (a.2.1) (a.2.2)))] from ⟨sp14, sp40, sp41, sp42, trivial⟩) (show FnL Try.prog [] from trivial) (show FnLp Try.prog gG gl [(107007, ⟨T24_0, outs24_0, l24_0⟩), (107015, ⟨T24_1, outs24_1, l24_1⟩)] [] from trivial) joinOk
theorem la24 : LpAll Try.prog (cx [] [(14, conF (aOne (pC (cX kx26))) (rOne (cI .i64)) (fun a => f14 a)), (40, conF (aOne (pC (cA .i64 22))) (rOne (cI .i64)) (fun a => f40 a)), (41, conF (aCons (pC (cA .i64 6)) (aCons (pS kx59) (aCons (pC (cI .i64)) (aOne (pC (cI .i64)))))) (rOne (cI .i64)) (fun a => f41 (a.1) (a.2.1) (a.2.2.1) (a.2.2.2))), (42, conF (aCons (pC (cX kx26)) (aCons (pS kx59) (aOne (pC (cI .i64))))) (rOne (cI .i64)) (fun a => f42 (a.1) (a.2.1) (a.2.2)))] [(107007, ⟨T24_0, outs24_0, l24_0⟩), (107015, ⟨T24_1, outs24_1, l24_1⟩)] true) gl Try.f24 := lpAll_of (lps := [(107007, ⟨T24_0, outs24_0, l24_0⟩), (107015, ⟨T24_1, outs24_1, l24_1⟩)]) rfl (ks := [107007, 107015, 107018]) (by kernel_rfl) (show LpS Try.prog gG gl Try.f24 [(107007, ⟨T24_0, outs24_0, l24_0⟩), (107015, ⟨T24_1, outs24_1, l24_1⟩)] [107007, 107015, 107018] 0 from ⟨fun L h => (by cases h; exact ls24_0), fun L h => (by cases h; exact ls24_1), fun L h => (by cases h), trivial⟩)
noncomputable def f24 (a : Nat → Int) (b : Sl × Sl) : Option ((Nat → Int) × Int) :=
 Option.bind (f14 (nthI [a 0, a 1, a 2, a 3, a 4, a 5, a 6, a 7, a 8, a 9, a 10, a 11, a 12, a 13, a 14, a 15, a 16, a 17, a 18, a 19, a 20, a 21, a 22, a 23, a 24, a 25, a 26, a 27, a 28, a 29, a 30, a 31, a 32, a 33, a 34, a 35, bif !decide (a 36 = 0) then 1 else 0, bif !decide (a 37 = 0) then 1 else 0, a 38, a 39])) (fun r2 =>
 cond (!decide (r2 = 0)) (
 some ((nthI [0, 0, 0], r2))) (
 Option.bind (cond (decide (Int.ofNat b.snd.fst < 1)) (
 some (true)) (
 some (!decide (Int.ofNat b.fst.fst = IntKind.i64.wrap (Int.ofNat b.snd.fst + 1))))) (fun r3 =>
 cond (r3) (
 some ((nthI [0, 0, 0], 2))) (
 Option.bind (l24_0 (nthI [Int.ofNat b.fst.fst, 0, a 0, a 1, a 2, a 3, a 4, a 5, a 6, a 7, a 8, a 9, a 10, a 11, a 12, a 13, a 14, a 15, a 16, a 17, a 18, a 19, a 20, a 21, a 22, a 23, a 24, a 25, a 26, a 27, a 28, a 29, a 30, a 31, a 32, a 33, a 34, a 35, bif !decide (a 36 = 0) then 1 else 0, bif !decide (a 37 = 0) then 1 else 0, a 38, a 39, 0, 0, 0]) (nthS [b.fst, b.fst, b.snd])) (fun r4 =>
 cond (decide (r4.fst = 0)) (
 Option.bind (l24_1 (nthI [0, Int.ofNat (r4.snd.snd 0).fst, 0, r4.snd.fst 0, r4.snd.fst 1, r4.snd.fst 2, r4.snd.fst 3, r4.snd.fst 4, r4.snd.fst 5, r4.snd.fst 6, r4.snd.fst 7, r4.snd.fst 8, r4.snd.fst 9, r4.snd.fst 10, r4.snd.fst 11, r4.snd.fst 12, r4.snd.fst 13, r4.snd.fst 14, r4.snd.fst 15, r4.snd.fst 16, r4.snd.fst 17, r4.snd.fst 18, r4.snd.fst 19, r4.snd.fst 20, r4.snd.fst 21, r4.snd.fst 22, r4.snd.fst 23, r4.snd.fst 24, r4.snd.fst 25, r4.snd.fst 26, r4.snd.fst 27, r4.snd.fst 28, r4.snd.fst 29, r4.snd.fst 30, r4.snd.fst 31, r4.snd.fst 32, r4.snd.fst 33, r4.snd.fst 34, r4.snd.fst 35, bif !decide (r4.snd.fst 36 = 0) then 1 else 0, bif !decide (r4.snd.fst 37 = 0) then 1 else 0, r4.snd.fst 38, r4.snd.fst 39, r4.snd.fst 40, r4.snd.fst 41, r4.snd.fst 42]) (nthS [r4.snd.snd 0, r4.snd.snd 1])) (fun r5 =>
 cond (decide (r5.fst = 0)) (
 some ((nthI [0, 0, 0], 0))) (
 some ((nthI [r5.snd.fst 1, r5.snd.fst 2, r5.snd.fst 3], r5.snd.fst 0))))) (
 some ((nthI [r4.snd.fst 1, r4.snd.fst 2, r4.snd.fst 3], r4.snd.fst 0))))))))
theorem evg24 (f14 : (Nat → Int) → Option (Int)) (l24_0 : (Nat → Int) → (Nat → Sl) → Option LR) (l24_1 : (Nat → Int) → (Nat → Sl) → Option LR) (xx : (aCons (pC (cX kx26)) (aOne (pSS kx59 kx3))).T) : evF (R := (rTup (cCons (cA .i64 3) (cOne (cI .i64)))).T) (cx [] [(14, conF (aOne (pC (cX kx26))) (rOne (cI .i64)) (fun a => f14 a)), (40, conF (aOne (pC (cA .i64 22))) (rOne (cI .i64)) (fun a => f40 a)), (41, conF (aCons (pC (cA .i64 6)) (aCons (pS kx59) (aCons (pC (cI .i64)) (aOne (pC (cI .i64)))))) (rOne (cI .i64)) (fun a => f41 (a.1) (a.2.1) (a.2.2.1) (a.2.2.2))), (42, conF (aCons (pC (cX kx26)) (aCons (pS kx59) (aOne (pC (cI .i64))))) (rOne (cI .i64)) (fun a => f42 (a.1) (a.2.1) (a.2.2)))] [(107007, ⟨T24_0, outs24_0, l24_0⟩), (107015, ⟨T24_1, outs24_1, l24_1⟩)] true) 1000 Try.f24 ((aCons (pC (cX kx26)) (aOne (pSS kx59 kx3))).enc gG xx) (glMem gl) 2 (rTup (cCons (cA .i64 3) (cOne (cI .i64)))).dec =
 (fun (a : Nat → Int) (b : Sl × Sl) =>
 (( Option.bind (f14 (nthI [a 0, a 1, a 2, a 3, a 4, a 5, a 6, a 7, a 8, a 9, a 10, a 11, a 12, a 13, a 14, a 15, a 16, a 17, a 18, a 19, a 20, a 21, a 22, a 23, a 24, a 25, a 26, a 27, a 28, a 29, a 30, a 31, a 32, a 33, a 34, a 35, bif !decide (a 36 = 0) then 1 else 0, bif !decide (a 37 = 0) then 1 else 0, a 38, a 39])) (fun r2 =>
 cond (!decide (r2 = 0)) (
 some ((nthI [0, 0, 0], r2))) (
 Option.bind (cond (decide (Int.ofNat b.snd.fst < 1)) (
 some (true)) (
 some (!decide (Int.ofNat b.fst.fst = IntKind.i64.wrap (Int.ofNat b.snd.fst + 1))))) (fun r3 =>
 cond (r3) (
 some ((nthI [0, 0, 0], 2))) (
 Option.bind (l24_0 (nthI [Int.ofNat b.fst.fst, 0, a 0, a 1, a 2, a 3, a 4, a 5, a 6, a 7, a 8, a 9, a 10, a 11, a 12, a 13, a 14, a 15, a 16, a 17, a 18, a 19, a 20, a 21, a 22, a 23, a 24, a 25, a 26, a 27, a 28, a 29, a 30, a 31, a 32, a 33, a 34, a 35, bif !decide (a 36 = 0) then 1 else 0, bif !decide (a 37 = 0) then 1 else 0, a 38, a 39, 0, 0, 0]) (nthS [b.fst, b.fst, b.snd])) (fun r4 =>
 cond (decide (r4.fst = 0)) (
 Option.bind (l24_1 (nthI [0, Int.ofNat (r4.snd.snd 0).fst, 0, r4.snd.fst 0, r4.snd.fst 1, r4.snd.fst 2, r4.snd.fst 3, r4.snd.fst 4, r4.snd.fst 5, r4.snd.fst 6, r4.snd.fst 7, r4.snd.fst 8, r4.snd.fst 9, r4.snd.fst 10, r4.snd.fst 11, r4.snd.fst 12, r4.snd.fst 13, r4.snd.fst 14, r4.snd.fst 15, r4.snd.fst 16, r4.snd.fst 17, r4.snd.fst 18, r4.snd.fst 19, r4.snd.fst 20, r4.snd.fst 21, r4.snd.fst 22, r4.snd.fst 23, r4.snd.fst 24, r4.snd.fst 25, r4.snd.fst 26, r4.snd.fst 27, r4.snd.fst 28, r4.snd.fst 29, r4.snd.fst 30, r4.snd.fst 31, r4.snd.fst 32, r4.snd.fst 33, r4.snd.fst 34, r4.snd.fst 35, bif !decide (r4.snd.fst 36 = 0) then 1 else 0, bif !decide (r4.snd.fst 37 = 0) then 1 else 0, r4.snd.fst 38, r4.snd.fst 39, r4.snd.fst 40, r4.snd.fst 41, r4.snd.fst 42]) (nthS [r4.snd.snd 0, r4.snd.snd 1])) (fun r5 =>
 cond (decide (r5.fst = 0)) (
 some ((nthI [0, 0, 0], 0))) (
 some ((nthI [r5.snd.fst 1, r5.snd.fst 2, r5.snd.fst 3], r5.snd.fst 0))))) (
 some ((nthI [r4.snd.fst 1, r4.snd.fst 2, r4.snd.fst 3], r4.snd.fst 0))))))))) : Option ((Nat → Int) × Int))) xx.1 xx.2 := by kernel_rfl
theorem ev24 (a : (aCons (pC (cX kx26)) (aOne (pSS kx59 kx3))).T) : evF (R := (rTup (cCons (cA .i64 3) (cOne (cI .i64)))).T) (cx [] [(14, conF (aOne (pC (cX kx26))) (rOne (cI .i64)) (fun a => f14 a)), (40, conF (aOne (pC (cA .i64 22))) (rOne (cI .i64)) (fun a => f40 a)), (41, conF (aCons (pC (cA .i64 6)) (aCons (pS kx59) (aCons (pC (cI .i64)) (aOne (pC (cI .i64)))))) (rOne (cI .i64)) (fun a => f41 (a.1) (a.2.1) (a.2.2.1) (a.2.2.2))), (42, conF (aCons (pC (cX kx26)) (aCons (pS kx59) (aOne (pC (cI .i64))))) (rOne (cI .i64)) (fun a => f42 (a.1) (a.2.1) (a.2.2)))] [(107007, ⟨T24_0, outs24_0, l24_0⟩), (107015, ⟨T24_1, outs24_1, l24_1⟩)] true) 1000 Try.f24 ((aCons (pC (cX kx26)) (aOne (pSS kx59 kx3))).enc gG a) (glMem gl) 2 (rTup (cCons (cA .i64 3) (cOne (cI .i64)))).dec = f24 a.1 a.2 := evg24 f14 l24_0 l24_1 a
theorem sp24 : VE.Spec Try.prog gG gl 24 (conF (aCons (pC (cX kx26)) (aOne (pSS kx59 kx3))) (rTup (cCons (cA .i64 3) (cOne (cI .i64)))) (fun a => f24 a.1 a.2)) := spec_of ok24 Try.func24 Try.call24 la24 1000 (aCons_ok (pC_ok (cX_ok _)) (aOne_ok (pSS_ok _ _))) (rTup_ok (cCons_ok (cA_ok _ _) (cOne_ok (cI_ok _)))) ev24

/-- dancestudioref19.On -/
theorem ok56 : CtxOK Try.prog (cx [] [] []) gl := ctx_of tyOk moOk (show SpecL Try.prog gG gl [] from trivial) (show FnL Try.prog [] from trivial) (fnLp_nil _) joinOk
noncomputable def f56 (a : Int) : Option (Bool) :=
 cond (decide (-32768 ≤ a)) (
 some (decide (a ≤ 32768))) (
 some (false))
theorem evg56   (xx : (aOne (pC (cI .i64))).T) : evF (R := (rOne (cB)).T) (cx [] [] []) 1000 Try.f56 ((aOne (pC (cI .i64))).enc gG xx) (glMem gl) 0 (rOne (cB)).dec =
 (fun (a : Int) =>
 (( cond (decide (-32768 ≤ a)) (
 some (decide (a ≤ 32768))) (
 some (false))) : Option (Bool))) xx := by kernel_rfl
theorem ev56 (a : (aOne (pC (cI .i64))).T) : evF (R := (rOne (cB)).T) (cx [] [] []) 1000 Try.f56 ((aOne (pC (cI .i64))).enc gG a) (glMem gl) 0 (rOne (cB)).dec = f56 a := evg56   a
theorem sp56 : VE.Spec Try.prog gG gl 56 (conF (aOne (pC (cI .i64))) (rOne (cB)) (fun a => f56 a)) := spec_of ok56 Try.func56 Try.call56 (lpAll_nil rfl) 1000 (aOne_ok (pC_ok (cI_ok _))) (rOne_ok (cB_ok)) ev56

/-- dancestudioref19.Valid -/
theorem ok43 : CtxOK Try.prog (cx [] [(35, conF (aCons (pC (cI .i64)) (aOne (pC (cA .i64 3)))) (rOne (cI .i64)) (fun a => f35 (a.1) (a.2))), (56, conF (aOne (pC (cI .i64))) (rOne (cB)) (fun a => f56 a))] []) gl := ctx_of tyOk moOk (show SpecL Try.prog gG gl [(35, conF (aCons (pC (cI .i64)) (aOne (pC (cA .i64 3)))) (rOne (cI .i64)) (fun a => f35 (a.1) (a.2))), (56, conF (aOne (pC (cI .i64))) (rOne (cB)) (fun a => f56 a))] from ⟨sp35, sp56, trivial⟩) (show FnL Try.prog [] from trivial) (fnLp_nil _) joinOk
noncomputable def f43 (a : Nat → Int) : Option (Int) :=
 Option.bind (f56 (a 0)) (fun r1 =>
 cond (!r1) (
 some (1)) (
 Option.bind (f56 (a 1)) (fun r2 =>
 cond (!r2) (
 some (1)) (
 cond (decide (a 2 < 0)) (
 some (1)) (
 cond (decide (255 < a 2)) (
 some (1)) (
 cond (decide (a 3 < -8)) (
 some (1)) (
 cond (decide (8 < a 3)) (
 some (1)) (
 Option.bind (f35 0 (nthI [a 4, a 5, a 6])) (fun r3 =>
 cond (!decide (r3 = 0)) (
 some (r3)) (
 Option.bind (f35 1 (nthI [a 7, a 8, a 9])) (fun r4 =>
 cond (!decide (r4 = 0)) (
 some (r4)) (
 Option.bind (f35 2 (nthI [a 10, a 11, a 12])) (fun r5 =>
 cond (!decide (r5 = 0)) (
 some (r5)) (
 Option.bind (f35 3 (nthI [a 13, a 14, a 15])) (fun r6 =>
 cond (!decide (r6 = 0)) (
 some (r6)) (
 Option.bind (f35 4 (nthI [a 16, a 17, a 18])) (fun r7 =>
 cond (!decide (r7 = 0)) (
 some (r7)) (
 Option.bind (f35 5 (nthI [a 19, a 20, a 21])) (fun r8 =>
 cond (!decide (r8 = 0)) (
 some (r8)) (
 some (0)))))))))))))))))))))
theorem evg43 (f35 : (Int) → (Nat → Int) → Option (Int)) (f56 : (Int) → Option (Bool))  (xx : (aOne (pC (cA .i64 22))).T) : evF (R := (rOne (cI .i64)).T) (cx [] [(35, conF (aCons (pC (cI .i64)) (aOne (pC (cA .i64 3)))) (rOne (cI .i64)) (fun a => f35 (a.1) (a.2))), (56, conF (aOne (pC (cI .i64))) (rOne (cB)) (fun a => f56 a))] []) 1000 Try.f43 ((aOne (pC (cA .i64 22))).enc gG xx) (glMem gl) 0 (rOne (cI .i64)).dec =
 (fun (a : Nat → Int) =>
 (( Option.bind (f56 (a 0)) (fun r1 =>
 cond (!r1) (
 some (1)) (
 Option.bind (f56 (a 1)) (fun r2 =>
 cond (!r2) (
 some (1)) (
 cond (decide (a 2 < 0)) (
 some (1)) (
 cond (decide (255 < a 2)) (
 some (1)) (
 cond (decide (a 3 < -8)) (
 some (1)) (
 cond (decide (8 < a 3)) (
 some (1)) (
 Option.bind (f35 0 (nthI [a 4, a 5, a 6])) (fun r3 =>
 cond (!decide (r3 = 0)) (
 some (r3)) (
 Option.bind (f35 1 (nthI [a 7, a 8, a 9])) (fun r4 =>
 cond (!decide (r4 = 0)) (
 some (r4)) (
 Option.bind (f35 2 (nthI [a 10, a 11, a 12])) (fun r5 =>
 cond (!decide (r5 = 0)) (
 some (r5)) (
 Option.bind (f35 3 (nthI [a 13, a 14, a 15])) (fun r6 =>
 cond (!decide (r6 = 0)) (
 some (r6)) (
 Option.bind (f35 4 (nthI [a 16, a 17, a 18])) (fun r7 =>
 cond (!decide (r7 = 0)) (
 some (r7)) (
 Option.bind (f35 5 (nthI [a 19, a 20, a 21])) (fun r8 =>
 cond (!decide (r8 = 0)) (
 some (r8)) (
 some (0)))))))))))))))))))))) : Option (Int))) xx := by kernel_rfl
theorem ev43 (a : (aOne (pC (cA .i64 22))).T) : evF (R := (rOne (cI .i64)).T) (cx [] [(35, conF (aCons (pC (cI .i64)) (aOne (pC (cA .i64 3)))) (rOne (cI .i64)) (fun a => f35 (a.1) (a.2))), (56, conF (aOne (pC (cI .i64))) (rOne (cB)) (fun a => f56 a))] []) 1000 Try.f43 ((aOne (pC (cA .i64 22))).enc gG a) (glMem gl) 0 (rOne (cI .i64)).dec = f43 a := evg43 f35 f56  a
theorem sp43 : VE.Spec Try.prog gG gl 43 (conF (aOne (pC (cA .i64 22))) (rOne (cI .i64)) (fun a => f43 a)) := spec_of ok43 Try.func43 Try.call43 (lpAll_nil rfl) 1000 (aOne_ok (pC_ok (cA_ok _ _))) (rOne_ok (cI_ok _)) ev43

/-- dancestudioref02.through -/
theorem ok64 : CtxOK Try.prog (cx [] [(30, conF (aOne (pC (cI .i64))) (rOne (cI .i64)) (fun a => f30 a))] []) gl := ctx_of tyOk moOk (show SpecL Try.prog gG gl [(30, conF (aOne (pC (cI .i64))) (rOne (cI .i64)) (fun a => f30 a))] from ⟨sp30, trivial⟩) (show FnL Try.prog [] from trivial) (fnLp_nil _) joinOk
noncomputable def f64 (a : Int) (b : Int) : Option (Bool) :=
 Option.bind (f30 (IntKind.i64.wrap (b - a))) (fun r2 =>
 cond (decide (1 ≤ r2)) (
 some (decide (r2 ≤ 127))) (
 some (false)))
theorem evg64 (f30 : (Int) → Option (Int))  (xx : (aCons (pC (cI .i64)) (aOne (pC (cI .i64)))).T) : evF (R := (rOne (cB)).T) (cx [] [(30, conF (aOne (pC (cI .i64))) (rOne (cI .i64)) (fun a => f30 a))] []) 1000 Try.f64 ((aCons (pC (cI .i64)) (aOne (pC (cI .i64)))).enc gG xx) (glMem gl) 0 (rOne (cB)).dec =
 (fun (a : Int) (b : Int) =>
 (( Option.bind (f30 (IntKind.i64.wrap (b - a))) (fun r2 =>
 cond (decide (1 ≤ r2)) (
 some (decide (r2 ≤ 127))) (
 some (false)))) : Option (Bool))) xx.1 xx.2 := by kernel_rfl
theorem ev64 (a : (aCons (pC (cI .i64)) (aOne (pC (cI .i64)))).T) : evF (R := (rOne (cB)).T) (cx [] [(30, conF (aOne (pC (cI .i64))) (rOne (cI .i64)) (fun a => f30 a))] []) 1000 Try.f64 ((aCons (pC (cI .i64)) (aOne (pC (cI .i64)))).enc gG a) (glMem gl) 0 (rOne (cB)).dec = f64 a.1 a.2 := evg64 f30  a
theorem sp64 : VE.Spec Try.prog gG gl 64 (conF (aCons (pC (cI .i64)) (aOne (pC (cI .i64)))) (rOne (cB)) (fun a => f64 a.1 a.2)) := spec_of ok64 Try.func64 Try.call64 (lpAll_nil rfl) 1000 (aCons_ok (pC_ok (cI_ok _)) (aOne_ok (pC_ok (cI_ok _)))) (rOne_ok (cB_ok)) ev64

/-- dancestudioref02.Between -/
theorem ok62 : CtxOK Try.prog (cx [] [(30, conF (aOne (pC (cI .i64))) (rOne (cI .i64)) (fun a => f30 a)), (64, conF (aCons (pC (cI .i64)) (aOne (pC (cI .i64)))) (rOne (cB)) (fun a => f64 (a.1) (a.2)))] []) gl := ctx_of tyOk moOk (show SpecL Try.prog gG gl [(30, conF (aOne (pC (cI .i64))) (rOne (cI .i64)) (fun a => f30 a)), (64, conF (aCons (pC (cI .i64)) (aOne (pC (cI .i64)))) (rOne (cB)) (fun a => f64 (a.1) (a.2)))] from ⟨sp30, sp64, trivial⟩) (show FnL Try.prog [] from trivial) (fnLp_nil _) joinOk
noncomputable def f62 (a : Int) (b : Int) (c : Int) : Option (Int × Int) :=
 cond (decide (a < 0)) (
 some ((0, 1))) (
 cond (decide (255 < a)) (
 some ((0, 1))) (
 cond (decide (b < 0)) (
 some ((0, 1))) (
 cond (decide (255 < b)) (
 some ((0, 1))) (
 cond (!decide (c = 64)) (
 cond (!decide (c = 192)) (
 some ((0, 9))) (
 Option.bind (f30 (IntKind.i64.wrap (b - a))) (fun r3 =>
 cond (decide (r3 < 128)) (
 some ((r3, 0))) (
 cond (decide (128 < r3)) (
 some ((IntKind.i64.wrap (r3 - 256), 0))) (
 cond (decide (a = c)) (
 Option.bind (f64 a 0) (fun r4 =>
 cond (r4) (
 some ((128, 0))) (
 some ((-128, 0))))) (
 cond (decide (b = c)) (
 Option.bind (f64 a 0) (fun r4 =>
 cond (r4) (
 some ((128, 0))) (
 some ((-128, 0))))) (
 Option.bind (f64 a c) (fun r4 =>
 cond (r4) (
 some ((128, 0))) (
 some ((-128, 0))))))))))) (
 Option.bind (f30 (IntKind.i64.wrap (b - a))) (fun r3 =>
 cond (decide (r3 < 128)) (
 some ((r3, 0))) (
 cond (decide (128 < r3)) (
 some ((IntKind.i64.wrap (r3 - 256), 0))) (
 cond (decide (a = c)) (
 Option.bind (f64 a 0) (fun r4 =>
 cond (r4) (
 some ((128, 0))) (
 some ((-128, 0))))) (
 cond (decide (b = c)) (
 Option.bind (f64 a 0) (fun r4 =>
 cond (r4) (
 some ((128, 0))) (
 some ((-128, 0))))) (
 Option.bind (f64 a c) (fun r4 =>
 cond (r4) (
 some ((128, 0))) (
 some ((-128, 0))))))))))))))
theorem evg62 (f30 : (Int) → Option (Int)) (f64 : (Int) → (Int) → Option (Bool))  (xx : (aCons (pC (cI .i64)) (aCons (pC (cI .i64)) (aOne (pC (cI .i64))))).T) : evF (R := (rTup (cCons (cI .i64) (cOne (cI .i64)))).T) (cx [] [(30, conF (aOne (pC (cI .i64))) (rOne (cI .i64)) (fun a => f30 a)), (64, conF (aCons (pC (cI .i64)) (aOne (pC (cI .i64)))) (rOne (cB)) (fun a => f64 (a.1) (a.2)))] []) 1000 Try.f62 ((aCons (pC (cI .i64)) (aCons (pC (cI .i64)) (aOne (pC (cI .i64))))).enc gG xx) (glMem gl) 0 (rTup (cCons (cI .i64) (cOne (cI .i64)))).dec =
 (fun (a : Int) (b : Int) (c : Int) =>
 (( cond (decide (a < 0)) (
 some ((0, 1))) (
 cond (decide (255 < a)) (
 some ((0, 1))) (
 cond (decide (b < 0)) (
 some ((0, 1))) (
 cond (decide (255 < b)) (
 some ((0, 1))) (
 cond (!decide (c = 64)) (
 cond (!decide (c = 192)) (
 some ((0, 9))) (
 Option.bind (f30 (IntKind.i64.wrap (b - a))) (fun r3 =>
 cond (decide (r3 < 128)) (
 some ((r3, 0))) (
 cond (decide (128 < r3)) (
 some ((IntKind.i64.wrap (r3 - 256), 0))) (
 cond (decide (a = c)) (
 Option.bind (f64 a 0) (fun r4 =>
 cond (r4) (
 some ((128, 0))) (
 some ((-128, 0))))) (
 cond (decide (b = c)) (
 Option.bind (f64 a 0) (fun r4 =>
 cond (r4) (
 some ((128, 0))) (
 some ((-128, 0))))) (
 Option.bind (f64 a c) (fun r4 =>
 cond (r4) (
 some ((128, 0))) (
 some ((-128, 0))))))))))) (
 Option.bind (f30 (IntKind.i64.wrap (b - a))) (fun r3 =>
 cond (decide (r3 < 128)) (
 some ((r3, 0))) (
 cond (decide (128 < r3)) (
 some ((IntKind.i64.wrap (r3 - 256), 0))) (
 cond (decide (a = c)) (
 Option.bind (f64 a 0) (fun r4 =>
 cond (r4) (
 some ((128, 0))) (
 some ((-128, 0))))) (
 cond (decide (b = c)) (
 Option.bind (f64 a 0) (fun r4 =>
 cond (r4) (
 some ((128, 0))) (
 some ((-128, 0))))) (
 Option.bind (f64 a c) (fun r4 =>
 cond (r4) (
 some ((128, 0))) (
 some ((-128, 0))))))))))))))) : Option (Int × Int))) xx.1 xx.2.1 xx.2.2 := by kernel_rfl
theorem ev62 (a : (aCons (pC (cI .i64)) (aCons (pC (cI .i64)) (aOne (pC (cI .i64))))).T) : evF (R := (rTup (cCons (cI .i64) (cOne (cI .i64)))).T) (cx [] [(30, conF (aOne (pC (cI .i64))) (rOne (cI .i64)) (fun a => f30 a)), (64, conF (aCons (pC (cI .i64)) (aOne (pC (cI .i64)))) (rOne (cB)) (fun a => f64 (a.1) (a.2)))] []) 1000 Try.f62 ((aCons (pC (cI .i64)) (aCons (pC (cI .i64)) (aOne (pC (cI .i64))))).enc gG a) (glMem gl) 0 (rTup (cCons (cI .i64) (cOne (cI .i64)))).dec = f62 a.1 a.2.1 a.2.2 := evg62 f30 f64  a
theorem sp62 : VE.Spec Try.prog gG gl 62 (conF (aCons (pC (cI .i64)) (aCons (pC (cI .i64)) (aOne (pC (cI .i64))))) (rTup (cCons (cI .i64) (cOne (cI .i64)))) (fun a => f62 a.1 a.2.1 a.2.2)) := spec_of ok62 Try.func62 Try.call62 (lpAll_nil rfl) 1000 (aCons_ok (pC_ok (cI_ok _)) (aCons_ok (pC_ok (cI_ok _)) (aOne_ok (pC_ok (cI_ok _))))) (rTup_ok (cCons_ok (cI_ok _) (cOne_ok (cI_ok _)))) ev62

/-- dancestudioref22.change -/
theorem ok58 : CtxOK Try.prog (cx [] [(62, conF (aCons (pC (cI .i64)) (aCons (pC (cI .i64)) (aOne (pC (cI .i64))))) (rTup (cCons (cI .i64) (cOne (cI .i64)))) (fun a => f62 (a.1) (a.2.1) (a.2.2)))] []) gl := ctx_of tyOk moOk (show SpecL Try.prog gG gl [(62, conF (aCons (pC (cI .i64)) (aCons (pC (cI .i64)) (aOne (pC (cI .i64))))) (rTup (cCons (cI .i64) (cOne (cI .i64)))) (fun a => f62 (a.1) (a.2.1) (a.2.2)))] from ⟨sp62, trivial⟩) (show FnL Try.prog [] from trivial) (fnLp_nil _) joinOk
noncomputable def f58 (a : Int) (b : Int) : Option (Int) :=
 Option.bind (f62 a b 64) (fun r2 =>
 some (maxI r2.fst (IntKind.i64.wrap (0 - r2.fst))))
theorem evg58 (f62 : (Int) → (Int) → (Int) → Option (Int × Int))  (xx : (aCons (pC (cI .i64)) (aOne (pC (cI .i64)))).T) : evF (R := (rOne (cI .i64)).T) (cx [] [(62, conF (aCons (pC (cI .i64)) (aCons (pC (cI .i64)) (aOne (pC (cI .i64))))) (rTup (cCons (cI .i64) (cOne (cI .i64)))) (fun a => f62 (a.1) (a.2.1) (a.2.2)))] []) 1000 Try.f58 ((aCons (pC (cI .i64)) (aOne (pC (cI .i64)))).enc gG xx) (glMem gl) 0 (rOne (cI .i64)).dec =
 (fun (a : Int) (b : Int) =>
 (( Option.bind (f62 a b 64) (fun r2 =>
 some (maxI r2.fst (IntKind.i64.wrap (0 - r2.fst))))) : Option (Int))) xx.1 xx.2 := by kernel_rfl
theorem ev58 (a : (aCons (pC (cI .i64)) (aOne (pC (cI .i64)))).T) : evF (R := (rOne (cI .i64)).T) (cx [] [(62, conF (aCons (pC (cI .i64)) (aCons (pC (cI .i64)) (aOne (pC (cI .i64))))) (rTup (cCons (cI .i64) (cOne (cI .i64)))) (fun a => f62 (a.1) (a.2.1) (a.2.2)))] []) 1000 Try.f58 ((aCons (pC (cI .i64)) (aOne (pC (cI .i64)))).enc gG a) (glMem gl) 0 (rOne (cI .i64)).dec = f58 a.1 a.2 := evg58 f62  a
theorem sp58 : VE.Spec Try.prog gG gl 58 (conF (aCons (pC (cI .i64)) (aOne (pC (cI .i64)))) (rOne (cI .i64)) (fun a => f58 a.1 a.2)) := spec_of ok58 Try.func58 Try.call58 (lpAll_nil rfl) 1000 (aCons_ok (pC_ok (cI_ok _)) (aOne_ok (pC_ok (cI_ok _)))) (rOne_ok (cI_ok _)) ev58

/-- dancestudioref22.fast -/
theorem ok61 : CtxOK Try.prog (cx [] [(52, conF (aOne (pC (cA .i64 3))) (rOne (cB)) (fun a => f52 a)), (58, conF (aCons (pC (cI .i64)) (aOne (pC (cI .i64)))) (rOne (cI .i64)) (fun a => f58 (a.1) (a.2)))] []) gl := ctx_of tyOk moOk (show SpecL Try.prog gG gl [(52, conF (aOne (pC (cA .i64 3))) (rOne (cB)) (fun a => f52 a)), (58, conF (aCons (pC (cI .i64)) (aOne (pC (cI .i64)))) (rOne (cI .i64)) (fun a => f58 (a.1) (a.2)))] from ⟨sp52, sp58, trivial⟩) (show FnL Try.prog [] from trivial) (fnLp_nil _) joinOk
noncomputable def f61 (a : Nat → Int) (b : Nat → Int) (c : Nat → Int) : Option (Bool) :=
 cond (decide (a 5 < IntKind.i64.wrap (c 1 - b 1))) (
 some (true)) (
 cond (decide (a 5 < IntKind.i64.wrap (0 - IntKind.i64.wrap (c 1 - b 1)))) (
 some (true)) (
 Option.bind (f52 b) (fun r3 =>
 cond (!r3) (
 Option.bind (f52 c) (fun r4 =>
 cond (!r4) (
 Option.bind (f58 (b 0) (c 0)) (fun r5 =>
 some (decide (a 5 < r5)))) (
 some (false)))) (
 some (false)))))
theorem evg61 (f52 : (Nat → Int) → Option (Bool)) (f58 : (Int) → (Int) → Option (Int))  (xx : (aCons (pC (cA .i64 6)) (aCons (pC (cA .i64 3)) (aOne (pC (cA .i64 3))))).T) : evF (R := (rOne (cB)).T) (cx [] [(52, conF (aOne (pC (cA .i64 3))) (rOne (cB)) (fun a => f52 a)), (58, conF (aCons (pC (cI .i64)) (aOne (pC (cI .i64)))) (rOne (cI .i64)) (fun a => f58 (a.1) (a.2)))] []) 1000 Try.f61 ((aCons (pC (cA .i64 6)) (aCons (pC (cA .i64 3)) (aOne (pC (cA .i64 3))))).enc gG xx) (glMem gl) 0 (rOne (cB)).dec =
 (fun (a : Nat → Int) (b : Nat → Int) (c : Nat → Int) =>
 (( cond (decide (a 5 < IntKind.i64.wrap (c 1 - b 1))) (
 some (true)) (
 cond (decide (a 5 < IntKind.i64.wrap (0 - IntKind.i64.wrap (c 1 - b 1)))) (
 some (true)) (
 Option.bind (f52 (nthI [b 0, b 1, b 2])) (fun r3 =>
 cond (!r3) (
 Option.bind (f52 (nthI [c 0, c 1, c 2])) (fun r4 =>
 cond (!r4) (
 Option.bind (f58 (b 0) (c 0)) (fun r5 =>
 some (decide (a 5 < r5)))) (
 some (false)))) (
 some (false)))))) : Option (Bool))) xx.1 xx.2.1 xx.2.2 := by kernel_rfl
noncomputable def g61 (a : Nat → Int) (b : Nat → Int) (c : Nat → Int) : Option (Bool) :=
 cond (decide (a 5 < IntKind.i64.wrap (c 1 - b 1))) (
 some (true)) (
 cond (decide (a 5 < IntKind.i64.wrap (0 - IntKind.i64.wrap (c 1 - b 1)))) (
 some (true)) (
 Option.bind (f52 (nthI [b 0, b 1, b 2])) (fun r3 =>
 cond (!r3) (
 Option.bind (f52 (nthI [c 0, c 1, c 2])) (fun r4 =>
 cond (!r4) (
 Option.bind (f58 (b 0) (c 0)) (fun r5 =>
 some (decide (a 5 < r5)))) (
 some (false)))) (
 some (false)))))
theorem fg61 (a : Nat → Int) (b : Nat → Int) (c : Nat → Int) : g61 a b c = f61 a b c := by kernel_rfl
theorem ev61 (a : (aCons (pC (cA .i64 6)) (aCons (pC (cA .i64 3)) (aOne (pC (cA .i64 3))))).T) : evF (R := (rOne (cB)).T) (cx [] [(52, conF (aOne (pC (cA .i64 3))) (rOne (cB)) (fun a => f52 a)), (58, conF (aCons (pC (cI .i64)) (aOne (pC (cI .i64)))) (rOne (cI .i64)) (fun a => f58 (a.1) (a.2)))] []) 1000 Try.f61 ((aCons (pC (cA .i64 6)) (aCons (pC (cA .i64 3)) (aOne (pC (cA .i64 3))))).enc gG a) (glMem gl) 0 (rOne (cB)).dec = f61 a.1 a.2.1 a.2.2 := (show evF (R := (rOne (cB)).T) (cx [] [(52, conF (aOne (pC (cA .i64 3))) (rOne (cB)) (fun a => f52 a)), (58, conF (aCons (pC (cI .i64)) (aOne (pC (cI .i64)))) (rOne (cI .i64)) (fun a => f58 (a.1) (a.2)))] []) 1000 Try.f61 ((aCons (pC (cA .i64 6)) (aCons (pC (cA .i64 3)) (aOne (pC (cA .i64 3))))).enc gG a) (glMem gl) 0 (rOne (cB)).dec = g61 a.1 a.2.1 a.2.2 from evg61 f52 f58  a).trans (fg61 a.1 a.2.1 a.2.2)
theorem sp61 : VE.Spec Try.prog gG gl 61 (conF (aCons (pC (cA .i64 6)) (aCons (pC (cA .i64 3)) (aOne (pC (cA .i64 3))))) (rOne (cB)) (fun a => f61 a.1 a.2.1 a.2.2)) := spec_of ok61 Try.func61 Try.call61 (lpAll_nil rfl) 1000 (aCons_ok (pC_ok (cA_ok _ _)) (aCons_ok (pC_ok (cA_ok _ _)) (aOne_ok (pC_ok (cA_ok _ _))))) (rOne_ok (cB_ok)) ev61

/-- dancestudioref22.limbs -/
theorem ok57 : CtxOK Try.prog (cx [] [(36, conF (aCons (pC (cA .i64 6)) (aOne (pC (cA .i64 3)))) (rOne (cB)) (fun a => f36 (a.1) (a.2))), (61, conF (aCons (pC (cA .i64 6)) (aCons (pC (cA .i64 3)) (aOne (pC (cA .i64 3))))) (rOne (cB)) (fun a => f61 (a.1) (a.2.1) (a.2.2)))] [] true) gl := ctx_of tyOk moOk (show SpecL Try.prog gG gl [(36, conF (aCons (pC (cA .i64 6)) (aOne (pC (cA .i64 3)))) (rOne (cB)) (fun a => f36 (a.1) (a.2))), (61, conF (aCons (pC (cA .i64 6)) (aCons (pC (cA .i64 3)) (aOne (pC (cA .i64 3))))) (rOne (cB)) (fun a => f61 (a.1) (a.2.1) (a.2.2)))] from ⟨sp36, sp61, trivial⟩) (show FnL Try.prog [] from trivial) (fnLp_nil _) joinOk
noncomputable def f57 (a : Nat → Int) (b : Sl × Sl) (c : Int) : Option ((Nat → Int)) :=
 cond (decide (0 ≤ c)) (
 cond (decide (c < Int.ofNat b.fst.fst)) (
 Option.bind (f36 a (nthI [b.fst.snd c.toNat 4, b.fst.snd c.toNat 5, b.fst.snd c.toNat 6])) (fun r3 =>
 cond (!r3) (
 some (nthI [25, c, 0])) (
 Option.bind (cond (decide (0 < c)) (
 cond (decide (0 ≤ IntKind.i64.wrap (c - 1))) (
 cond (decide (IntKind.i64.wrap (c - 1) < Int.ofNat b.fst.fst)) (
 cond (decide (0 ≤ c)) (
 cond (decide (c < Int.ofNat b.fst.fst)) (
 Option.bind (f61 a (nthI [b.fst.snd (IntKind.i64.wrap (c - 1)).toNat 4, b.fst.snd (IntKind.i64.wrap (c - 1)).toNat 5, b.fst.snd (IntKind.i64.wrap (c - 1)).toNat 6]) (nthI [b.fst.snd c.toNat 4, b.fst.snd c.toNat 5, b.fst.snd c.toNat 6])) (fun r4 =>
 some (r4))) none) none) none) none) (
 some (false))) (fun r4 =>
 cond (r4) (
 some (nthI [26, c, 0])) (
 cond (decide (0 ≤ c)) (
 cond (decide (c < Int.ofNat b.fst.fst)) (
 Option.bind (f36 (nthI [a 6, a 7, a 8, a 9, a 10, a 11]) (nthI [b.fst.snd c.toNat 7, b.fst.snd c.toNat 8, b.fst.snd c.toNat 9])) (fun r5 =>
 cond (!r5) (
 some (nthI [25, c, 1])) (
 Option.bind (cond (decide (0 < c)) (
 cond (decide (0 ≤ IntKind.i64.wrap (c - 1))) (
 cond (decide (IntKind.i64.wrap (c - 1) < Int.ofNat b.fst.fst)) (
 cond (decide (0 ≤ c)) (
 cond (decide (c < Int.ofNat b.fst.fst)) (
 Option.bind (f61 (nthI [a 6, a 7, a 8, a 9, a 10, a 11]) (nthI [b.fst.snd (IntKind.i64.wrap (c - 1)).toNat 7, b.fst.snd (IntKind.i64.wrap (c - 1)).toNat 8, b.fst.snd (IntKind.i64.wrap (c - 1)).toNat 9]) (nthI [b.fst.snd c.toNat 7, b.fst.snd c.toNat 8, b.fst.snd c.toNat 9])) (fun r6 =>
 some (r6))) none) none) none) none) (
 some (false))) (fun r6 =>
 cond (r6) (
 some (nthI [26, c, 1])) (
 cond (decide (0 ≤ c)) (
 cond (decide (c < Int.ofNat b.fst.fst)) (
 Option.bind (f36 (nthI [a 12, a 13, a 14, a 15, a 16, a 17]) (nthI [b.fst.snd c.toNat 10, b.fst.snd c.toNat 11, b.fst.snd c.toNat 12])) (fun r7 =>
 cond (!r7) (
 some (nthI [25, c, 2])) (
 Option.bind (cond (decide (0 < c)) (
 cond (decide (0 ≤ IntKind.i64.wrap (c - 1))) (
 cond (decide (IntKind.i64.wrap (c - 1) < Int.ofNat b.fst.fst)) (
 cond (decide (0 ≤ c)) (
 cond (decide (c < Int.ofNat b.fst.fst)) (
 Option.bind (f61 (nthI [a 12, a 13, a 14, a 15, a 16, a 17]) (nthI [b.fst.snd (IntKind.i64.wrap (c - 1)).toNat 10, b.fst.snd (IntKind.i64.wrap (c - 1)).toNat 11, b.fst.snd (IntKind.i64.wrap (c - 1)).toNat 12]) (nthI [b.fst.snd c.toNat 10, b.fst.snd c.toNat 11, b.fst.snd c.toNat 12])) (fun r8 =>
 some (r8))) none) none) none) none) (
 some (false))) (fun r8 =>
 cond (r8) (
 some (nthI [26, c, 2])) (
 cond (decide (0 ≤ c)) (
 cond (decide (c < Int.ofNat b.fst.fst)) (
 Option.bind (f36 (nthI [a 18, a 19, a 20, a 21, a 22, a 23]) (nthI [b.fst.snd c.toNat 13, b.fst.snd c.toNat 14, b.fst.snd c.toNat 15])) (fun r9 =>
 cond (!r9) (
 some (nthI [25, c, 3])) (
 Option.bind (cond (decide (0 < c)) (
 cond (decide (0 ≤ IntKind.i64.wrap (c - 1))) (
 cond (decide (IntKind.i64.wrap (c - 1) < Int.ofNat b.fst.fst)) (
 cond (decide (0 ≤ c)) (
 cond (decide (c < Int.ofNat b.fst.fst)) (
 Option.bind (f61 (nthI [a 18, a 19, a 20, a 21, a 22, a 23]) (nthI [b.fst.snd (IntKind.i64.wrap (c - 1)).toNat 13, b.fst.snd (IntKind.i64.wrap (c - 1)).toNat 14, b.fst.snd (IntKind.i64.wrap (c - 1)).toNat 15]) (nthI [b.fst.snd c.toNat 13, b.fst.snd c.toNat 14, b.fst.snd c.toNat 15])) (fun r10 =>
 some (r10))) none) none) none) none) (
 some (false))) (fun r10 =>
 cond (r10) (
 some (nthI [26, c, 3])) (
 cond (decide (0 ≤ c)) (
 cond (decide (c < Int.ofNat b.fst.fst)) (
 Option.bind (f36 (nthI [a 24, a 25, a 26, a 27, a 28, a 29]) (nthI [b.fst.snd c.toNat 16, b.fst.snd c.toNat 17, b.fst.snd c.toNat 18])) (fun r11 =>
 cond (!r11) (
 some (nthI [25, c, 4])) (
 Option.bind (cond (decide (0 < c)) (
 cond (decide (0 ≤ IntKind.i64.wrap (c - 1))) (
 cond (decide (IntKind.i64.wrap (c - 1) < Int.ofNat b.fst.fst)) (
 cond (decide (0 ≤ c)) (
 cond (decide (c < Int.ofNat b.fst.fst)) (
 Option.bind (f61 (nthI [a 24, a 25, a 26, a 27, a 28, a 29]) (nthI [b.fst.snd (IntKind.i64.wrap (c - 1)).toNat 16, b.fst.snd (IntKind.i64.wrap (c - 1)).toNat 17, b.fst.snd (IntKind.i64.wrap (c - 1)).toNat 18]) (nthI [b.fst.snd c.toNat 16, b.fst.snd c.toNat 17, b.fst.snd c.toNat 18])) (fun r12 =>
 some (r12))) none) none) none) none) (
 some (false))) (fun r12 =>
 cond (r12) (
 some (nthI [26, c, 4])) (
 cond (decide (0 ≤ c)) (
 cond (decide (c < Int.ofNat b.fst.fst)) (
 Option.bind (f36 (nthI [a 30, a 31, a 32, a 33, a 34, a 35]) (nthI [b.fst.snd c.toNat 19, b.fst.snd c.toNat 20, b.fst.snd c.toNat 21])) (fun r13 =>
 cond (!r13) (
 some (nthI [25, c, 5])) (
 Option.bind (cond (decide (0 < c)) (
 cond (decide (0 ≤ IntKind.i64.wrap (c - 1))) (
 cond (decide (IntKind.i64.wrap (c - 1) < Int.ofNat b.fst.fst)) (
 cond (decide (0 ≤ c)) (
 cond (decide (c < Int.ofNat b.fst.fst)) (
 Option.bind (f61 (nthI [a 30, a 31, a 32, a 33, a 34, a 35]) (nthI [b.fst.snd (IntKind.i64.wrap (c - 1)).toNat 19, b.fst.snd (IntKind.i64.wrap (c - 1)).toNat 20, b.fst.snd (IntKind.i64.wrap (c - 1)).toNat 21]) (nthI [b.fst.snd c.toNat 19, b.fst.snd c.toNat 20, b.fst.snd c.toNat 21])) (fun r14 =>
 some (r14))) none) none) none) none) (
 some (false))) (fun r14 =>
 cond (r14) (
 some (nthI [26, c, 5])) (
 some (nthI [0, 0, 0])))))) none) none))))) none) none))))) none) none))))) none) none))))) none) none))))) none) none
theorem evg57 (f36 : (Nat → Int) → (Nat → Int) → Option (Bool)) (f61 : (Nat → Int) → (Nat → Int) → (Nat → Int) → Option (Bool))  (xx : (aCons (pC (cX kx26)) (aCons (pSS kx59 kx3) (aOne (pC (cI .i64))))).T) : evF (R := (rOne (cA .i64 3)).T) (cx [] [(36, conF (aCons (pC (cA .i64 6)) (aOne (pC (cA .i64 3)))) (rOne (cB)) (fun a => f36 (a.1) (a.2))), (61, conF (aCons (pC (cA .i64 6)) (aCons (pC (cA .i64 3)) (aOne (pC (cA .i64 3))))) (rOne (cB)) (fun a => f61 (a.1) (a.2.1) (a.2.2)))] [] true) 1000 Try.f57 ((aCons (pC (cX kx26)) (aCons (pSS kx59 kx3) (aOne (pC (cI .i64))))).enc gG xx) (glMem gl) 2 (rOne (cA .i64 3)).dec =
 (fun (a : Nat → Int) (b : Sl × Sl) (c : Int) =>
 (( cond (decide (0 ≤ c)) (
 cond (decide (c < Int.ofNat b.fst.fst)) (
 Option.bind (f36 (nthI [a 0, a 1, a 2, a 3, a 4, a 5]) (nthI [b.fst.snd c.toNat 4, b.fst.snd c.toNat 5, b.fst.snd c.toNat 6])) (fun r3 =>
 cond (!r3) (
 some (nthI [25, c, 0])) (
 Option.bind (cond (decide (0 < c)) (
 cond (decide (0 ≤ IntKind.i64.wrap (c - 1))) (
 cond (decide (IntKind.i64.wrap (c - 1) < Int.ofNat b.fst.fst)) (
 cond (decide (0 ≤ c)) (
 cond (decide (c < Int.ofNat b.fst.fst)) (
 Option.bind (f61 (nthI [a 0, a 1, a 2, a 3, a 4, a 5]) (nthI [b.fst.snd (IntKind.i64.wrap (c - 1)).toNat 4, b.fst.snd (IntKind.i64.wrap (c - 1)).toNat 5, b.fst.snd (IntKind.i64.wrap (c - 1)).toNat 6]) (nthI [b.fst.snd c.toNat 4, b.fst.snd c.toNat 5, b.fst.snd c.toNat 6])) (fun r4 =>
 some (r4))) none) none) none) none) (
 some (false))) (fun r4 =>
 cond (r4) (
 some (nthI [26, c, 0])) (
 cond (decide (0 ≤ c)) (
 cond (decide (c < Int.ofNat b.fst.fst)) (
 Option.bind (f36 (nthI [a 6, a 7, a 8, a 9, a 10, a 11]) (nthI [b.fst.snd c.toNat 7, b.fst.snd c.toNat 8, b.fst.snd c.toNat 9])) (fun r5 =>
 cond (!r5) (
 some (nthI [25, c, 1])) (
 Option.bind (cond (decide (0 < c)) (
 cond (decide (0 ≤ IntKind.i64.wrap (c - 1))) (
 cond (decide (IntKind.i64.wrap (c - 1) < Int.ofNat b.fst.fst)) (
 cond (decide (0 ≤ c)) (
 cond (decide (c < Int.ofNat b.fst.fst)) (
 Option.bind (f61 (nthI [a 6, a 7, a 8, a 9, a 10, a 11]) (nthI [b.fst.snd (IntKind.i64.wrap (c - 1)).toNat 7, b.fst.snd (IntKind.i64.wrap (c - 1)).toNat 8, b.fst.snd (IntKind.i64.wrap (c - 1)).toNat 9]) (nthI [b.fst.snd c.toNat 7, b.fst.snd c.toNat 8, b.fst.snd c.toNat 9])) (fun r6 =>
 some (r6))) none) none) none) none) (
 some (false))) (fun r6 =>
 cond (r6) (
 some (nthI [26, c, 1])) (
 cond (decide (0 ≤ c)) (
 cond (decide (c < Int.ofNat b.fst.fst)) (
 Option.bind (f36 (nthI [a 12, a 13, a 14, a 15, a 16, a 17]) (nthI [b.fst.snd c.toNat 10, b.fst.snd c.toNat 11, b.fst.snd c.toNat 12])) (fun r7 =>
 cond (!r7) (
 some (nthI [25, c, 2])) (
 Option.bind (cond (decide (0 < c)) (
 cond (decide (0 ≤ IntKind.i64.wrap (c - 1))) (
 cond (decide (IntKind.i64.wrap (c - 1) < Int.ofNat b.fst.fst)) (
 cond (decide (0 ≤ c)) (
 cond (decide (c < Int.ofNat b.fst.fst)) (
 Option.bind (f61 (nthI [a 12, a 13, a 14, a 15, a 16, a 17]) (nthI [b.fst.snd (IntKind.i64.wrap (c - 1)).toNat 10, b.fst.snd (IntKind.i64.wrap (c - 1)).toNat 11, b.fst.snd (IntKind.i64.wrap (c - 1)).toNat 12]) (nthI [b.fst.snd c.toNat 10, b.fst.snd c.toNat 11, b.fst.snd c.toNat 12])) (fun r8 =>
 some (r8))) none) none) none) none) (
 some (false))) (fun r8 =>
 cond (r8) (
 some (nthI [26, c, 2])) (
 cond (decide (0 ≤ c)) (
 cond (decide (c < Int.ofNat b.fst.fst)) (
 Option.bind (f36 (nthI [a 18, a 19, a 20, a 21, a 22, a 23]) (nthI [b.fst.snd c.toNat 13, b.fst.snd c.toNat 14, b.fst.snd c.toNat 15])) (fun r9 =>
 cond (!r9) (
 some (nthI [25, c, 3])) (
 Option.bind (cond (decide (0 < c)) (
 cond (decide (0 ≤ IntKind.i64.wrap (c - 1))) (
 cond (decide (IntKind.i64.wrap (c - 1) < Int.ofNat b.fst.fst)) (
 cond (decide (0 ≤ c)) (
 cond (decide (c < Int.ofNat b.fst.fst)) (
 Option.bind (f61 (nthI [a 18, a 19, a 20, a 21, a 22, a 23]) (nthI [b.fst.snd (IntKind.i64.wrap (c - 1)).toNat 13, b.fst.snd (IntKind.i64.wrap (c - 1)).toNat 14, b.fst.snd (IntKind.i64.wrap (c - 1)).toNat 15]) (nthI [b.fst.snd c.toNat 13, b.fst.snd c.toNat 14, b.fst.snd c.toNat 15])) (fun r10 =>
 some (r10))) none) none) none) none) (
 some (false))) (fun r10 =>
 cond (r10) (
 some (nthI [26, c, 3])) (
 cond (decide (0 ≤ c)) (
 cond (decide (c < Int.ofNat b.fst.fst)) (
 Option.bind (f36 (nthI [a 24, a 25, a 26, a 27, a 28, a 29]) (nthI [b.fst.snd c.toNat 16, b.fst.snd c.toNat 17, b.fst.snd c.toNat 18])) (fun r11 =>
 cond (!r11) (
 some (nthI [25, c, 4])) (
 Option.bind (cond (decide (0 < c)) (
 cond (decide (0 ≤ IntKind.i64.wrap (c - 1))) (
 cond (decide (IntKind.i64.wrap (c - 1) < Int.ofNat b.fst.fst)) (
 cond (decide (0 ≤ c)) (
 cond (decide (c < Int.ofNat b.fst.fst)) (
 Option.bind (f61 (nthI [a 24, a 25, a 26, a 27, a 28, a 29]) (nthI [b.fst.snd (IntKind.i64.wrap (c - 1)).toNat 16, b.fst.snd (IntKind.i64.wrap (c - 1)).toNat 17, b.fst.snd (IntKind.i64.wrap (c - 1)).toNat 18]) (nthI [b.fst.snd c.toNat 16, b.fst.snd c.toNat 17, b.fst.snd c.toNat 18])) (fun r12 =>
 some (r12))) none) none) none) none) (
 some (false))) (fun r12 =>
 cond (r12) (
 some (nthI [26, c, 4])) (
 cond (decide (0 ≤ c)) (
 cond (decide (c < Int.ofNat b.fst.fst)) (
 Option.bind (f36 (nthI [a 30, a 31, a 32, a 33, a 34, a 35]) (nthI [b.fst.snd c.toNat 19, b.fst.snd c.toNat 20, b.fst.snd c.toNat 21])) (fun r13 =>
 cond (!r13) (
 some (nthI [25, c, 5])) (
 Option.bind (cond (decide (0 < c)) (
 cond (decide (0 ≤ IntKind.i64.wrap (c - 1))) (
 cond (decide (IntKind.i64.wrap (c - 1) < Int.ofNat b.fst.fst)) (
 cond (decide (0 ≤ c)) (
 cond (decide (c < Int.ofNat b.fst.fst)) (
 Option.bind (f61 (nthI [a 30, a 31, a 32, a 33, a 34, a 35]) (nthI [b.fst.snd (IntKind.i64.wrap (c - 1)).toNat 19, b.fst.snd (IntKind.i64.wrap (c - 1)).toNat 20, b.fst.snd (IntKind.i64.wrap (c - 1)).toNat 21]) (nthI [b.fst.snd c.toNat 19, b.fst.snd c.toNat 20, b.fst.snd c.toNat 21])) (fun r14 =>
 some (r14))) none) none) none) none) (
 some (false))) (fun r14 =>
 cond (r14) (
 some (nthI [26, c, 5])) (
 some (nthI [0, 0, 0])))))) none) none))))) none) none))))) none) none))))) none) none))))) none) none))))) none) none) : Option ((Nat → Int)))) xx.1 xx.2.1 xx.2.2 := by kernel_rfl
noncomputable def g57 (a : Nat → Int) (b : Sl × Sl) (c : Int) : Option ((Nat → Int)) :=
 cond (decide (0 ≤ c)) (
 cond (decide (c < Int.ofNat b.fst.fst)) (
 Option.bind (f36 (nthI [a 0, a 1, a 2, a 3, a 4, a 5]) (nthI [b.fst.snd c.toNat 4, b.fst.snd c.toNat 5, b.fst.snd c.toNat 6])) (fun r3 =>
 cond (!r3) (
 some (nthI [25, c, 0])) (
 Option.bind (cond (decide (0 < c)) (
 cond (decide (0 ≤ IntKind.i64.wrap (c - 1))) (
 cond (decide (IntKind.i64.wrap (c - 1) < Int.ofNat b.fst.fst)) (
 cond (decide (0 ≤ c)) (
 cond (decide (c < Int.ofNat b.fst.fst)) (
 Option.bind (f61 (nthI [a 0, a 1, a 2, a 3, a 4, a 5]) (nthI [b.fst.snd (IntKind.i64.wrap (c - 1)).toNat 4, b.fst.snd (IntKind.i64.wrap (c - 1)).toNat 5, b.fst.snd (IntKind.i64.wrap (c - 1)).toNat 6]) (nthI [b.fst.snd c.toNat 4, b.fst.snd c.toNat 5, b.fst.snd c.toNat 6])) (fun r4 =>
 some (r4))) none) none) none) none) (
 some (false))) (fun r4 =>
 cond (r4) (
 some (nthI [26, c, 0])) (
 cond (decide (0 ≤ c)) (
 cond (decide (c < Int.ofNat b.fst.fst)) (
 Option.bind (f36 (nthI [a 6, a 7, a 8, a 9, a 10, a 11]) (nthI [b.fst.snd c.toNat 7, b.fst.snd c.toNat 8, b.fst.snd c.toNat 9])) (fun r5 =>
 cond (!r5) (
 some (nthI [25, c, 1])) (
 Option.bind (cond (decide (0 < c)) (
 cond (decide (0 ≤ IntKind.i64.wrap (c - 1))) (
 cond (decide (IntKind.i64.wrap (c - 1) < Int.ofNat b.fst.fst)) (
 cond (decide (0 ≤ c)) (
 cond (decide (c < Int.ofNat b.fst.fst)) (
 Option.bind (f61 (nthI [a 6, a 7, a 8, a 9, a 10, a 11]) (nthI [b.fst.snd (IntKind.i64.wrap (c - 1)).toNat 7, b.fst.snd (IntKind.i64.wrap (c - 1)).toNat 8, b.fst.snd (IntKind.i64.wrap (c - 1)).toNat 9]) (nthI [b.fst.snd c.toNat 7, b.fst.snd c.toNat 8, b.fst.snd c.toNat 9])) (fun r6 =>
 some (r6))) none) none) none) none) (
 some (false))) (fun r6 =>
 cond (r6) (
 some (nthI [26, c, 1])) (
 cond (decide (0 ≤ c)) (
 cond (decide (c < Int.ofNat b.fst.fst)) (
 Option.bind (f36 (nthI [a 12, a 13, a 14, a 15, a 16, a 17]) (nthI [b.fst.snd c.toNat 10, b.fst.snd c.toNat 11, b.fst.snd c.toNat 12])) (fun r7 =>
 cond (!r7) (
 some (nthI [25, c, 2])) (
 Option.bind (cond (decide (0 < c)) (
 cond (decide (0 ≤ IntKind.i64.wrap (c - 1))) (
 cond (decide (IntKind.i64.wrap (c - 1) < Int.ofNat b.fst.fst)) (
 cond (decide (0 ≤ c)) (
 cond (decide (c < Int.ofNat b.fst.fst)) (
 Option.bind (f61 (nthI [a 12, a 13, a 14, a 15, a 16, a 17]) (nthI [b.fst.snd (IntKind.i64.wrap (c - 1)).toNat 10, b.fst.snd (IntKind.i64.wrap (c - 1)).toNat 11, b.fst.snd (IntKind.i64.wrap (c - 1)).toNat 12]) (nthI [b.fst.snd c.toNat 10, b.fst.snd c.toNat 11, b.fst.snd c.toNat 12])) (fun r8 =>
 some (r8))) none) none) none) none) (
 some (false))) (fun r8 =>
 cond (r8) (
 some (nthI [26, c, 2])) (
 cond (decide (0 ≤ c)) (
 cond (decide (c < Int.ofNat b.fst.fst)) (
 Option.bind (f36 (nthI [a 18, a 19, a 20, a 21, a 22, a 23]) (nthI [b.fst.snd c.toNat 13, b.fst.snd c.toNat 14, b.fst.snd c.toNat 15])) (fun r9 =>
 cond (!r9) (
 some (nthI [25, c, 3])) (
 Option.bind (cond (decide (0 < c)) (
 cond (decide (0 ≤ IntKind.i64.wrap (c - 1))) (
 cond (decide (IntKind.i64.wrap (c - 1) < Int.ofNat b.fst.fst)) (
 cond (decide (0 ≤ c)) (
 cond (decide (c < Int.ofNat b.fst.fst)) (
 Option.bind (f61 (nthI [a 18, a 19, a 20, a 21, a 22, a 23]) (nthI [b.fst.snd (IntKind.i64.wrap (c - 1)).toNat 13, b.fst.snd (IntKind.i64.wrap (c - 1)).toNat 14, b.fst.snd (IntKind.i64.wrap (c - 1)).toNat 15]) (nthI [b.fst.snd c.toNat 13, b.fst.snd c.toNat 14, b.fst.snd c.toNat 15])) (fun r10 =>
 some (r10))) none) none) none) none) (
 some (false))) (fun r10 =>
 cond (r10) (
 some (nthI [26, c, 3])) (
 cond (decide (0 ≤ c)) (
 cond (decide (c < Int.ofNat b.fst.fst)) (
 Option.bind (f36 (nthI [a 24, a 25, a 26, a 27, a 28, a 29]) (nthI [b.fst.snd c.toNat 16, b.fst.snd c.toNat 17, b.fst.snd c.toNat 18])) (fun r11 =>
 cond (!r11) (
 some (nthI [25, c, 4])) (
 Option.bind (cond (decide (0 < c)) (
 cond (decide (0 ≤ IntKind.i64.wrap (c - 1))) (
 cond (decide (IntKind.i64.wrap (c - 1) < Int.ofNat b.fst.fst)) (
 cond (decide (0 ≤ c)) (
 cond (decide (c < Int.ofNat b.fst.fst)) (
 Option.bind (f61 (nthI [a 24, a 25, a 26, a 27, a 28, a 29]) (nthI [b.fst.snd (IntKind.i64.wrap (c - 1)).toNat 16, b.fst.snd (IntKind.i64.wrap (c - 1)).toNat 17, b.fst.snd (IntKind.i64.wrap (c - 1)).toNat 18]) (nthI [b.fst.snd c.toNat 16, b.fst.snd c.toNat 17, b.fst.snd c.toNat 18])) (fun r12 =>
 some (r12))) none) none) none) none) (
 some (false))) (fun r12 =>
 cond (r12) (
 some (nthI [26, c, 4])) (
 cond (decide (0 ≤ c)) (
 cond (decide (c < Int.ofNat b.fst.fst)) (
 Option.bind (f36 (nthI [a 30, a 31, a 32, a 33, a 34, a 35]) (nthI [b.fst.snd c.toNat 19, b.fst.snd c.toNat 20, b.fst.snd c.toNat 21])) (fun r13 =>
 cond (!r13) (
 some (nthI [25, c, 5])) (
 Option.bind (cond (decide (0 < c)) (
 cond (decide (0 ≤ IntKind.i64.wrap (c - 1))) (
 cond (decide (IntKind.i64.wrap (c - 1) < Int.ofNat b.fst.fst)) (
 cond (decide (0 ≤ c)) (
 cond (decide (c < Int.ofNat b.fst.fst)) (
 Option.bind (f61 (nthI [a 30, a 31, a 32, a 33, a 34, a 35]) (nthI [b.fst.snd (IntKind.i64.wrap (c - 1)).toNat 19, b.fst.snd (IntKind.i64.wrap (c - 1)).toNat 20, b.fst.snd (IntKind.i64.wrap (c - 1)).toNat 21]) (nthI [b.fst.snd c.toNat 19, b.fst.snd c.toNat 20, b.fst.snd c.toNat 21])) (fun r14 =>
 some (r14))) none) none) none) none) (
 some (false))) (fun r14 =>
 cond (r14) (
 some (nthI [26, c, 5])) (
 some (nthI [0, 0, 0])))))) none) none))))) none) none))))) none) none))))) none) none))))) none) none))))) none) none
theorem fg57 (a : Nat → Int) (b : Sl × Sl) (c : Int) : g57 a b c = f57 a b c := by kernel_rfl
theorem ev57 (a : (aCons (pC (cX kx26)) (aCons (pSS kx59 kx3) (aOne (pC (cI .i64))))).T) : evF (R := (rOne (cA .i64 3)).T) (cx [] [(36, conF (aCons (pC (cA .i64 6)) (aOne (pC (cA .i64 3)))) (rOne (cB)) (fun a => f36 (a.1) (a.2))), (61, conF (aCons (pC (cA .i64 6)) (aCons (pC (cA .i64 3)) (aOne (pC (cA .i64 3))))) (rOne (cB)) (fun a => f61 (a.1) (a.2.1) (a.2.2)))] [] true) 1000 Try.f57 ((aCons (pC (cX kx26)) (aCons (pSS kx59 kx3) (aOne (pC (cI .i64))))).enc gG a) (glMem gl) 2 (rOne (cA .i64 3)).dec = f57 a.1 a.2.1 a.2.2 := (show evF (R := (rOne (cA .i64 3)).T) (cx [] [(36, conF (aCons (pC (cA .i64 6)) (aOne (pC (cA .i64 3)))) (rOne (cB)) (fun a => f36 (a.1) (a.2))), (61, conF (aCons (pC (cA .i64 6)) (aCons (pC (cA .i64 3)) (aOne (pC (cA .i64 3))))) (rOne (cB)) (fun a => f61 (a.1) (a.2.1) (a.2.2)))] [] true) 1000 Try.f57 ((aCons (pC (cX kx26)) (aCons (pSS kx59 kx3) (aOne (pC (cI .i64))))).enc gG a) (glMem gl) 2 (rOne (cA .i64 3)).dec = g57 a.1 a.2.1 a.2.2 from evg57 f36 f61  a).trans (fg57 a.1 a.2.1 a.2.2)
theorem sp57 : VE.Spec Try.prog gG gl 57 (conF (aCons (pC (cX kx26)) (aCons (pSS kx59 kx3) (aOne (pC (cI .i64))))) (rOne (cA .i64 3)) (fun a => f57 a.1 a.2.1 a.2.2)) := spec_of ok57 Try.func57 Try.call57 (lpAll_nil rfl) 1000 (aCons_ok (pC_ok (cX_ok _)) (aCons_ok (pSS_ok _ _) (aOne_ok (pC_ok (cI_ok _))))) (rOne_ok (cA_ok _ _)) ev57

/-- dancestudioref22.air -/
theorem okl59 : CtxOK Try.prog (cx [] [] []) gl := ctx_of tyOk moOk (show SpecL Try.prog gG gl [] from trivial) (show FnL Try.prog [] from trivial) (fnLp_nil _) joinOk
def T59_0 : ST := ⟨[(2, .s (.i .i64)), (4, .s (.ptr 3 0)), (7, .s (.i .i64))], [(3, .own [.xs 0 [some .i64, some .i64, some .i64, some .i64, some .i64, some .i64, some .i64, some .i64, some .i64, some .i64, some .i64, some .i64, some .i64, some .i64, some .i64, some .i64, some .i64, some .i64, some .i64, some .i64, some .i64, some .i64], .xs 1 [some .i64]] 48)], 15⟩
def outs59_0 : List (AExit × ST) := [(.exit 0, ⟨[], [], 18⟩), (.ret, ⟨[(6, .s (.b))], [], 25⟩)]
noncomputable def s59_0 (rec : (Nat → Int) → (Nat → Sl) → Option LR) (x : Nat → Int) (y : Nat → Sl) : Option LR :=
 cond (decide (x 1 < x 0)) (
 cond (decide (0 ≤ x 1)) (
 cond (decide (x 1 < Int.ofNat (y 1).fst)) (
 cond (!decide ((y 1).snd (x 1).toNat 0 = 0)) (
 some ((1, nthI [0], nthS []))) (
 rec (nthI [x 0, IntKind.i64.wrap (x 1 + 1)]) (nthS [y 0, y 1]))) none) none) (
 some ((0, nthI [], nthS [])))
theorem se59_0  (rec : (Nat → Int) → (Nat → Sl) → Option LR) (x : Nat → Int) (y : Nat → Sl) : evR (cx [] [] []) 1000 LR 28 (loopAt Try.f59 0) (encT x y T59_0) (roundK T59_0 outs59_0 rec) =
 (( cond (decide (x 1 < x 0)) (
 cond (decide (0 ≤ x 1)) (
 cond (decide (x 1 < Int.ofNat (y 1).fst)) (
 cond (!decide ((y 1).snd (x 1).toNat 0 = 0)) (
 some ((1, nthI [0], nthS []))) (
 rec (nthI [x 0, IntKind.i64.wrap (x 1 + 1)]) (nthS [y 0, y 1]))) none) none) (
 some ((0, nthI [], nthS [])))) : Option LR) := by kernel_rfl
noncomputable def l59_0 (x : Nat → Int) (y : Nat → Sl) : Option LR := iterL s59_0 ((y 1).1 + 2) x y
theorem ls59_0 : LoopSpec Try.prog gG gl 28 ⟨T59_0, outs59_0, l59_0⟩ (loopAt Try.f59 0) := loop_ok (step := s59_0) (fu := fun x y => (y 1).1 + 2) okl59 1000 (lpNone rfl) (by kernel_rfl) (by kernel_rfl) (fun rec x y => se59_0  rec x y) (fun _ _ => rfl)
theorem ok59 : CtxOK Try.prog (cx [] [] [(28004, ⟨T59_0, outs59_0, l59_0⟩)]) gl := ctx_of tyOk moOk (show SpecL Try.prog gG gl [] from trivial) (show FnL Try.prog [] from trivial) (show FnLp Try.prog gG gl [(28004, ⟨T59_0, outs59_0, l59_0⟩)] [] from trivial) joinOk
theorem la59 : LpAll Try.prog (cx [] [] [(28004, ⟨T59_0, outs59_0, l59_0⟩)]) gl Try.f59 := lpAll_of (lps := [(28004, ⟨T59_0, outs59_0, l59_0⟩)]) rfl (ks := [28004]) (by kernel_rfl) (show LpS Try.prog gG gl Try.f59 [(28004, ⟨T59_0, outs59_0, l59_0⟩)] [28004] 0 from ⟨fun L h => (by cases h; exact ls59_0), trivial⟩)
noncomputable def f59 (a : Nat → Int) (b : Sl × Sl) (c : Int) : Option (Bool) :=
 cond (decide (c ≤ a 38)) (
 some (false)) (
 Option.bind (l59_0 (nthI [c, IntKind.i64.wrap (IntKind.i64.wrap (c - a 38) - 1)]) (nthS [b.fst, b.snd])) (fun r3 =>
 cond (decide (r3.fst = 0)) (
 some (true)) (
 some (!decide (r3.snd.fst 0 = 0)))))
theorem evg59  (l59_0 : (Nat → Int) → (Nat → Sl) → Option LR) (xx : (aCons (pC (cX kx26)) (aCons (pSS kx59 kx3) (aOne (pC (cI .i64))))).T) : evF (R := (rOne (cB)).T) (cx [] [] [(28004, ⟨T59_0, outs59_0, l59_0⟩)]) 1000 Try.f59 ((aCons (pC (cX kx26)) (aCons (pSS kx59 kx3) (aOne (pC (cI .i64))))).enc gG xx) (glMem gl) 2 (rOne (cB)).dec =
 (fun (a : Nat → Int) (b : Sl × Sl) (c : Int) =>
 (( cond (decide (c ≤ a 38)) (
 some (false)) (
 Option.bind (l59_0 (nthI [c, IntKind.i64.wrap (IntKind.i64.wrap (c - a 38) - 1)]) (nthS [b.fst, b.snd])) (fun r3 =>
 cond (decide (r3.fst = 0)) (
 some (true)) (
 some (!decide (r3.snd.fst 0 = 0)))))) : Option (Bool))) xx.1 xx.2.1 xx.2.2 := by kernel_rfl
theorem ev59 (a : (aCons (pC (cX kx26)) (aCons (pSS kx59 kx3) (aOne (pC (cI .i64))))).T) : evF (R := (rOne (cB)).T) (cx [] [] [(28004, ⟨T59_0, outs59_0, l59_0⟩)]) 1000 Try.f59 ((aCons (pC (cX kx26)) (aCons (pSS kx59 kx3) (aOne (pC (cI .i64))))).enc gG a) (glMem gl) 2 (rOne (cB)).dec = f59 a.1 a.2.1 a.2.2 := evg59  l59_0 a
theorem sp59 : VE.Spec Try.prog gG gl 59 (conF (aCons (pC (cX kx26)) (aCons (pSS kx59 kx3) (aOne (pC (cI .i64))))) (rOne (cB)) (fun a => f59 a.1 a.2.1 a.2.2)) := spec_of ok59 Try.func59 Try.call59 la59 1000 (aCons_ok (pC_ok (cX_ok _)) (aCons_ok (pSS_ok _ _) (aOne_ok (pC_ok (cI_ok _))))) (rOne_ok (cB_ok)) ev59

/-- dancestudioref22.at -/
theorem ok44 : CtxOK Try.prog (cx [] [(57, conF (aCons (pC (cX kx26)) (aCons (pSS kx59 kx3) (aOne (pC (cI .i64))))) (rOne (cA .i64 3)) (fun a => f57 (a.1) (a.2.1) (a.2.2))), (58, conF (aCons (pC (cI .i64)) (aOne (pC (cI .i64)))) (rOne (cI .i64)) (fun a => f58 (a.1) (a.2))), (59, conF (aCons (pC (cX kx26)) (aCons (pSS kx59 kx3) (aOne (pC (cI .i64))))) (rOne (cB)) (fun a => f59 (a.1) (a.2.1) (a.2.2)))] [] true) gl := ctx_of tyOk moOk (show SpecL Try.prog gG gl [(57, conF (aCons (pC (cX kx26)) (aCons (pSS kx59 kx3) (aOne (pC (cI .i64))))) (rOne (cA .i64 3)) (fun a => f57 (a.1) (a.2.1) (a.2.2))), (58, conF (aCons (pC (cI .i64)) (aOne (pC (cI .i64)))) (rOne (cI .i64)) (fun a => f58 (a.1) (a.2))), (59, conF (aCons (pC (cX kx26)) (aCons (pSS kx59 kx3) (aOne (pC (cI .i64))))) (rOne (cB)) (fun a => f59 (a.1) (a.2.1) (a.2.2)))] from ⟨sp57, sp58, sp59, trivial⟩) (show FnL Try.prog [] from trivial) (fnLp_nil _) joinOk
noncomputable def f44 (a : Nat → Int) (b : Sl × Sl) (c : Int) : Option ((Nat → Int)) :=
 Option.bind (f57 (nthI [a 0, a 1, a 2, a 3, a 4, a 5, a 6, a 7, a 8, a 9, a 10, a 11, a 12, a 13, a 14, a 15, a 16, a 17, a 18, a 19, a 20, a 21, a 22, a 23, a 24, a 25, a 26, a 27, a 28, a 29, a 30, a 31, a 32, a 33, a 34, a 35, bif !decide (a 36 = 0) then 1 else 0, bif !decide (a 37 = 0) then 1 else 0, a 38, a 39]) b c) (fun r3 =>
 cond (!decide (r3 0 = 0)) (
 some (nthI [r3 0, r3 1, r3 2])) (
 cond (decide (0 ≤ c)) (
 cond (decide (c < Int.ofNat b.fst.fst)) (
 Option.bind (cond (decide (b.fst.snd c.toNat 3 < 0)) (
 cond (!!decide (a 36 = 0)) (
 some (true)) (
 cond (decide (0 < b.fst.snd c.toNat 3)) (
 some (!!decide (a 37 = 0))) (
 some (false)))) (
 cond (decide (0 < b.fst.snd c.toNat 3)) (
 some (!!decide (a 37 = 0))) (
 some (false)))) (fun r4 =>
 cond (r4) (
 some (nthI [25, c, 6])) (
 Option.bind (cond (decide (0 < c)) (
 cond (decide (0 ≤ IntKind.i64.wrap (c - 1))) (
 cond (decide (IntKind.i64.wrap (c - 1) < Int.ofNat b.fst.fst)) (
 Option.bind (f58 (b.fst.snd (IntKind.i64.wrap (c - 1)).toNat 2) (b.fst.snd c.toNat 2)) (fun r5 =>
 some (decide (a 39 < r5)))) none) none) (
 some (false))) (fun r5 =>
 cond (r5) (
 some (nthI [26, c, 6])) (
 Option.bind (f59 (nthI [a 0, a 1, a 2, a 3, a 4, a 5, a 6, a 7, a 8, a 9, a 10, a 11, a 12, a 13, a 14, a 15, a 16, a 17, a 18, a 19, a 20, a 21, a 22, a 23, a 24, a 25, a 26, a 27, a 28, a 29, a 30, a 31, a 32, a 33, a 34, a 35, bif !decide (a 36 = 0) then 1 else 0, bif !decide (a 37 = 0) then 1 else 0, a 38, a 39]) b c) (fun r6 =>
 cond (r6) (
 some (nthI [28, c, 6])) (
 some (nthI [0, 0, 0])))))))) none) none))
theorem evg44 (f57 : (Nat → Int) → (Sl × Sl) → (Int) → Option ((Nat → Int))) (f58 : (Int) → (Int) → Option (Int)) (f59 : (Nat → Int) → (Sl × Sl) → (Int) → Option (Bool))  (xx : (aCons (pC (cX kx26)) (aCons (pSS kx59 kx3) (aOne (pC (cI .i64))))).T) : evF (R := (rOne (cA .i64 3)).T) (cx [] [(57, conF (aCons (pC (cX kx26)) (aCons (pSS kx59 kx3) (aOne (pC (cI .i64))))) (rOne (cA .i64 3)) (fun a => f57 (a.1) (a.2.1) (a.2.2))), (58, conF (aCons (pC (cI .i64)) (aOne (pC (cI .i64)))) (rOne (cI .i64)) (fun a => f58 (a.1) (a.2))), (59, conF (aCons (pC (cX kx26)) (aCons (pSS kx59 kx3) (aOne (pC (cI .i64))))) (rOne (cB)) (fun a => f59 (a.1) (a.2.1) (a.2.2)))] [] true) 1000 Try.f44 ((aCons (pC (cX kx26)) (aCons (pSS kx59 kx3) (aOne (pC (cI .i64))))).enc gG xx) (glMem gl) 2 (rOne (cA .i64 3)).dec =
 (fun (a : Nat → Int) (b : Sl × Sl) (c : Int) =>
 (( Option.bind (f57 (nthI [a 0, a 1, a 2, a 3, a 4, a 5, a 6, a 7, a 8, a 9, a 10, a 11, a 12, a 13, a 14, a 15, a 16, a 17, a 18, a 19, a 20, a 21, a 22, a 23, a 24, a 25, a 26, a 27, a 28, a 29, a 30, a 31, a 32, a 33, a 34, a 35, bif !decide (a 36 = 0) then 1 else 0, bif !decide (a 37 = 0) then 1 else 0, a 38, a 39]) b c) (fun r3 =>
 cond (!decide (r3 0 = 0)) (
 some (nthI [r3 0, r3 1, r3 2])) (
 cond (decide (0 ≤ c)) (
 cond (decide (c < Int.ofNat b.fst.fst)) (
 Option.bind (cond (decide (b.fst.snd c.toNat 3 < 0)) (
 cond (!!decide (a 36 = 0)) (
 some (true)) (
 cond (decide (0 < b.fst.snd c.toNat 3)) (
 some (!!decide (a 37 = 0))) (
 some (false)))) (
 cond (decide (0 < b.fst.snd c.toNat 3)) (
 some (!!decide (a 37 = 0))) (
 some (false)))) (fun r4 =>
 cond (r4) (
 some (nthI [25, c, 6])) (
 Option.bind (cond (decide (0 < c)) (
 cond (decide (0 ≤ IntKind.i64.wrap (c - 1))) (
 cond (decide (IntKind.i64.wrap (c - 1) < Int.ofNat b.fst.fst)) (
 Option.bind (f58 (b.fst.snd (IntKind.i64.wrap (c - 1)).toNat 2) (b.fst.snd c.toNat 2)) (fun r5 =>
 some (decide (a 39 < r5)))) none) none) (
 some (false))) (fun r5 =>
 cond (r5) (
 some (nthI [26, c, 6])) (
 Option.bind (f59 (nthI [a 0, a 1, a 2, a 3, a 4, a 5, a 6, a 7, a 8, a 9, a 10, a 11, a 12, a 13, a 14, a 15, a 16, a 17, a 18, a 19, a 20, a 21, a 22, a 23, a 24, a 25, a 26, a 27, a 28, a 29, a 30, a 31, a 32, a 33, a 34, a 35, bif !decide (a 36 = 0) then 1 else 0, bif !decide (a 37 = 0) then 1 else 0, a 38, a 39]) b c) (fun r6 =>
 cond (r6) (
 some (nthI [28, c, 6])) (
 some (nthI [0, 0, 0])))))))) none) none))) : Option ((Nat → Int)))) xx.1 xx.2.1 xx.2.2 := by kernel_rfl
theorem ev44 (a : (aCons (pC (cX kx26)) (aCons (pSS kx59 kx3) (aOne (pC (cI .i64))))).T) : evF (R := (rOne (cA .i64 3)).T) (cx [] [(57, conF (aCons (pC (cX kx26)) (aCons (pSS kx59 kx3) (aOne (pC (cI .i64))))) (rOne (cA .i64 3)) (fun a => f57 (a.1) (a.2.1) (a.2.2))), (58, conF (aCons (pC (cI .i64)) (aOne (pC (cI .i64)))) (rOne (cI .i64)) (fun a => f58 (a.1) (a.2))), (59, conF (aCons (pC (cX kx26)) (aCons (pSS kx59 kx3) (aOne (pC (cI .i64))))) (rOne (cB)) (fun a => f59 (a.1) (a.2.1) (a.2.2)))] [] true) 1000 Try.f44 ((aCons (pC (cX kx26)) (aCons (pSS kx59 kx3) (aOne (pC (cI .i64))))).enc gG a) (glMem gl) 2 (rOne (cA .i64 3)).dec = f44 a.1 a.2.1 a.2.2 := evg44 f57 f58 f59  a
theorem sp44 : VE.Spec Try.prog gG gl 44 (conF (aCons (pC (cX kx26)) (aCons (pSS kx59 kx3) (aOne (pC (cI .i64))))) (rOne (cA .i64 3)) (fun a => f44 a.1 a.2.1 a.2.2)) := spec_of ok44 Try.func44 Try.call44 (lpAll_nil rfl) 1000 (aCons_ok (pC_ok (cX_ok _)) (aCons_ok (pSS_ok _ _) (aOne_ok (pC_ok (cI_ok _))))) (rOne_ok (cA_ok _ _)) ev44

/-- dancestudioref22.First -/
theorem okl25 : CtxOK Try.prog (cx [] [(15, conF (aOne (pC (cX kx26))) (rOne (cI .i64)) (fun a => f15 a)), (43, conF (aOne (pC (cA .i64 22))) (rOne (cI .i64)) (fun a => f43 a)), (44, conF (aCons (pC (cX kx26)) (aCons (pSS kx59 kx3) (aOne (pC (cI .i64))))) (rOne (cA .i64 3)) (fun a => f44 (a.1) (a.2.1) (a.2.2)))] [] true) gl := ctx_of tyOk moOk (show SpecL Try.prog gG gl [(15, conF (aOne (pC (cX kx26))) (rOne (cI .i64)) (fun a => f15 a)), (43, conF (aOne (pC (cA .i64 22))) (rOne (cI .i64)) (fun a => f43 a)), (44, conF (aCons (pC (cX kx26)) (aCons (pSS kx59 kx3) (aOne (pC (cI .i64))))) (rOne (cA .i64 3)) (fun a => f44 (a.1) (a.2.1) (a.2.2)))] from ⟨sp15, sp43, sp44, trivial⟩) (show FnL Try.prog [] from trivial) (fnLp_nil _) joinOk
def T25_0 : ST := ⟨[(2, .s (.ptr 2 0)), (3, .s (.ptr 3 0)), (4, .s (.ptr 4 0)), (7, .s (.i .i64))], [(2, .own [.i .i64, .i .i64, .i .i64, .i .i64, .i .i64, .i .i64, .i .i64, .i .i64, .i .i64, .i .i64, .i .i64, .i .i64, .i .i64, .i .i64, .i .i64, .i .i64, .i .i64, .i .i64, .i .i64, .i .i64, .i .i64, .i .i64, .i .i64, .i .i64, .i .i64, .i .i64, .i .i64, .i .i64, .i .i64, .i .i64, .i .i64, .i .i64, .i .i64, .i .i64, .i .i64, .i .i64, .b, .b, .i .i64, .i .i64] 26), (3, .own [.xs 0 [some .i64, some .i64, some .i64, some .i64, some .i64, some .i64, some .i64, some .i64, some .i64, some .i64, some .i64, some .i64, some .i64, some .i64, some .i64, some .i64, some .i64, some .i64, some .i64, some .i64, some .i64, some .i64], .xs 1 [some .i64]] 48), (4, .own [.i .i64, .i .i64, .i .i64] 51)], 12⟩
def outs25_0 : List (AExit × ST) := [(.exit 0, ⟨[(2, .s (.ptr 2 0)), (3, .s (.ptr 3 0)), (4, .s (.ptr 4 0))], [(2, .own [.i .i64, .i .i64, .i .i64, .i .i64, .i .i64, .i .i64, .i .i64, .i .i64, .i .i64, .i .i64, .i .i64, .i .i64, .i .i64, .i .i64, .i .i64, .i .i64, .i .i64, .i .i64, .i .i64, .i .i64, .i .i64, .i .i64, .i .i64, .i .i64, .i .i64, .i .i64, .i .i64, .i .i64, .i .i64, .i .i64, .i .i64, .i .i64, .i .i64, .i .i64, .i .i64, .i .i64, .b, .b, .i .i64, .i .i64] 26), (3, .own [.xs 0 [some .i64, some .i64, some .i64, some .i64, some .i64, some .i64, some .i64, some .i64, some .i64, some .i64, some .i64, some .i64, some .i64, some .i64, some .i64, some .i64, some .i64, some .i64, some .i64, some .i64, some .i64, some .i64], .xs 1 [some .i64]] 48), (4, .own [.i .i64, .i .i64, .i .i64] 51)], 17⟩), (.ret, ⟨[(4, .s (.ptr 4 0)), (5, .s (.i .i64))], [(4, .own [.i .i64, .i .i64, .i .i64] 51)], 30⟩)]
noncomputable def s25_0 (rec : (Nat → Int) → (Nat → Sl) → Option LR) (x : Nat → Int) (y : Nat → Sl) : Option LR :=
 cond (decide (x 0 < Int.ofNat (y 0).fst)) (
 cond (decide (0 ≤ x 0)) (
 cond (decide (x 0 < Int.ofNat (y 0).fst)) (
 Option.bind (f43 (nthI [(y 0).snd (x 0).toNat 0, (y 0).snd (x 0).toNat 1, (y 0).snd (x 0).toNat 2, (y 0).snd (x 0).toNat 3, (y 0).snd (x 0).toNat 4, (y 0).snd (x 0).toNat 5, (y 0).snd (x 0).toNat 6, (y 0).snd (x 0).toNat 7, (y 0).snd (x 0).toNat 8, (y 0).snd (x 0).toNat 9, (y 0).snd (x 0).toNat 10, (y 0).snd (x 0).toNat 11, (y 0).snd (x 0).toNat 12, (y 0).snd (x 0).toNat 13, (y 0).snd (x 0).toNat 14, (y 0).snd (x 0).toNat 15, (y 0).snd (x 0).toNat 16, (y 0).snd (x 0).toNat 17, (y 0).snd (x 0).toNat 18, (y 0).snd (x 0).toNat 19, (y 0).snd (x 0).toNat 20, (y 0).snd (x 0).toNat 21])) (fun r3 =>
 cond (!decide (r3 = 0)) (
 some ((1, nthI [r3, 0, 0, 0], nthS []))) (
 rec (nthI [IntKind.i64.wrap (x 0 + 1), x 1, x 2, x 3, x 4, x 5, x 6, x 7, x 8, x 9, x 10, x 11, x 12, x 13, x 14, x 15, x 16, x 17, x 18, x 19, x 20, x 21, x 22, x 23, x 24, x 25, x 26, x 27, x 28, x 29, x 30, x 31, x 32, x 33, x 34, x 35, x 36, bif !decide (x 37 = 0) then 1 else 0, bif !decide (x 38 = 0) then 1 else 0, x 39, x 40, x 41, x 42, x 43]) (nthS [y 0, y 1])))) none) none) (
 some ((0, nthI [x 1, x 2, x 3, x 4, x 5, x 6, x 7, x 8, x 9, x 10, x 11, x 12, x 13, x 14, x 15, x 16, x 17, x 18, x 19, x 20, x 21, x 22, x 23, x 24, x 25, x 26, x 27, x 28, x 29, x 30, x 31, x 32, x 33, x 34, x 35, x 36, bif !decide (x 37 = 0) then 1 else 0, bif !decide (x 38 = 0) then 1 else 0, x 39, x 40, x 41, x 42, x 43], nthS [y 0, y 1])))
theorem se25_0 (f43 : (Nat → Int) → Option (Int)) (rec : (Nat → Int) → (Nat → Sl) → Option LR) (x : Nat → Int) (y : Nat → Sl) : evR (cx [] [(15, conF (aOne (pC (cX kx26))) (rOne (cI .i64)) (fun a => f15 a)), (43, conF (aOne (pC (cA .i64 22))) (rOne (cI .i64)) (fun a => f43 a)), (44, conF (aCons (pC (cX kx26)) (aCons (pSS kx59 kx3) (aOne (pC (cI .i64))))) (rOne (cA .i64 3)) (fun a => f44 (a.1) (a.2.1) (a.2.2)))] [] true) 1000 LR 65 (loopAt Try.f25 0) (encT x y T25_0) (roundK T25_0 outs25_0 rec) =
 (( cond (decide (x 0 < Int.ofNat (y 0).fst)) (
 cond (decide (0 ≤ x 0)) (
 cond (decide (x 0 < Int.ofNat (y 0).fst)) (
 Option.bind (f43 (nthI [(y 0).snd (x 0).toNat 0, (y 0).snd (x 0).toNat 1, (y 0).snd (x 0).toNat 2, (y 0).snd (x 0).toNat 3, (y 0).snd (x 0).toNat 4, (y 0).snd (x 0).toNat 5, (y 0).snd (x 0).toNat 6, (y 0).snd (x 0).toNat 7, (y 0).snd (x 0).toNat 8, (y 0).snd (x 0).toNat 9, (y 0).snd (x 0).toNat 10, (y 0).snd (x 0).toNat 11, (y 0).snd (x 0).toNat 12, (y 0).snd (x 0).toNat 13, (y 0).snd (x 0).toNat 14, (y 0).snd (x 0).toNat 15, (y 0).snd (x 0).toNat 16, (y 0).snd (x 0).toNat 17, (y 0).snd (x 0).toNat 18, (y 0).snd (x 0).toNat 19, (y 0).snd (x 0).toNat 20, (y 0).snd (x 0).toNat 21])) (fun r3 =>
 cond (!decide (r3 = 0)) (
 some ((1, nthI [r3, 0, 0, 0], nthS []))) (
 rec (nthI [IntKind.i64.wrap (x 0 + 1), x 1, x 2, x 3, x 4, x 5, x 6, x 7, x 8, x 9, x 10, x 11, x 12, x 13, x 14, x 15, x 16, x 17, x 18, x 19, x 20, x 21, x 22, x 23, x 24, x 25, x 26, x 27, x 28, x 29, x 30, x 31, x 32, x 33, x 34, x 35, x 36, bif !decide (x 37 = 0) then 1 else 0, bif !decide (x 38 = 0) then 1 else 0, x 39, x 40, x 41, x 42, x 43]) (nthS [y 0, y 1])))) none) none) (
 some ((0, nthI [x 1, x 2, x 3, x 4, x 5, x 6, x 7, x 8, x 9, x 10, x 11, x 12, x 13, x 14, x 15, x 16, x 17, x 18, x 19, x 20, x 21, x 22, x 23, x 24, x 25, x 26, x 27, x 28, x 29, x 30, x 31, x 32, x 33, x 34, x 35, x 36, bif !decide (x 37 = 0) then 1 else 0, bif !decide (x 38 = 0) then 1 else 0, x 39, x 40, x 41, x 42, x 43], nthS [y 0, y 1])))) : Option LR) := by kernel_rfl
noncomputable def l25_0 (x : Nat → Int) (y : Nat → Sl) : Option LR := iterL s25_0 ((y 0).1 + 1) x y
theorem ls25_0 : LoopSpec Try.prog gG gl 65 ⟨T25_0, outs25_0, l25_0⟩ (loopAt Try.f25 0) := loop_ok (step := s25_0) (fu := fun x y => (y 0).1 + 1) okl25 1000 (lpNone rfl) (by kernel_rfl) (by kernel_rfl) (fun rec x y => se25_0 f43 rec x y) (fun _ _ => rfl)
def T25_1 : ST := ⟨[(2, .s (.ptr 2 0)), (3, .s (.ptr 3 0)), (4, .s (.ptr 4 0)), (9, .s (.i .i64))], [(2, .own [.i .i64, .i .i64, .i .i64, .i .i64, .i .i64, .i .i64, .i .i64, .i .i64, .i .i64, .i .i64, .i .i64, .i .i64, .i .i64, .i .i64, .i .i64, .i .i64, .i .i64, .i .i64, .i .i64, .i .i64, .i .i64, .i .i64, .i .i64, .i .i64, .i .i64, .i .i64, .i .i64, .i .i64, .i .i64, .i .i64, .i .i64, .i .i64, .i .i64, .i .i64, .i .i64, .i .i64, .b, .b, .i .i64, .i .i64] 26), (3, .own [.xs 0 [some .i64, some .i64, some .i64, some .i64, some .i64, some .i64, some .i64, some .i64, some .i64, some .i64, some .i64, some .i64, some .i64, some .i64, some .i64, some .i64, some .i64, some .i64, some .i64, some .i64, some .i64, some .i64], .xs 1 [some .i64]] 48), (4, .own [.i .i64, .i .i64, .i .i64] 51)], 18⟩
def outs25_1 : List (AExit × ST) := [(.exit 2, ⟨[(4, .s (.ptr 4 0))], [(4, .own [.i .i64, .i .i64, .i .i64] 51)], 23⟩), (.ret, ⟨[(4, .s (.ptr 4 0)), (5, .s (.i .i64))], [(4, .own [.i .i64, .i .i64, .i .i64] 51)], 35⟩)]
noncomputable def s25_1 (rec : (Nat → Int) → (Nat → Sl) → Option LR) (x : Nat → Int) (y : Nat → Sl) : Option LR :=
 cond (decide (x 0 < Int.ofNat (y 0).fst)) (
 Option.bind (f44 (nthI [x 1, x 2, x 3, x 4, x 5, x 6, x 7, x 8, x 9, x 10, x 11, x 12, x 13, x 14, x 15, x 16, x 17, x 18, x 19, x 20, x 21, x 22, x 23, x 24, x 25, x 26, x 27, x 28, x 29, x 30, x 31, x 32, x 33, x 34, x 35, x 36, bif !decide (x 37 = 0) then 1 else 0, bif !decide (x 38 = 0) then 1 else 0, x 39, x 40]) (y 0, y 1) (x 0)) (fun r3 =>
 cond (!decide (r3 0 = 0)) (
 some ((1, nthI [0, r3 0, r3 1, r3 2], nthS []))) (
 rec (nthI [IntKind.i64.wrap (x 0 + 1), x 1, x 2, x 3, x 4, x 5, x 6, x 7, x 8, x 9, x 10, x 11, x 12, x 13, x 14, x 15, x 16, x 17, x 18, x 19, x 20, x 21, x 22, x 23, x 24, x 25, x 26, x 27, x 28, x 29, x 30, x 31, x 32, x 33, x 34, x 35, x 36, bif !decide (x 37 = 0) then 1 else 0, bif !decide (x 38 = 0) then 1 else 0, x 39, x 40, x 41, x 42, x 43]) (nthS [y 0, y 1])))) (
 some ((0, nthI [x 41, x 42, x 43], nthS [])))
theorem se25_1 (f44 : (Nat → Int) → (Sl × Sl) → (Int) → Option ((Nat → Int))) (rec : (Nat → Int) → (Nat → Sl) → Option LR) (x : Nat → Int) (y : Nat → Sl) : evR (cx [] [(15, conF (aOne (pC (cX kx26))) (rOne (cI .i64)) (fun a => f15 a)), (43, conF (aOne (pC (cA .i64 22))) (rOne (cI .i64)) (fun a => f43 a)), (44, conF (aCons (pC (cX kx26)) (aCons (pSS kx59 kx3) (aOne (pC (cI .i64))))) (rOne (cA .i64 3)) (fun a => f44 (a.1) (a.2.1) (a.2.2)))] [] true) 1000 LR 65 (loopAt Try.f25 1) (encT x y T25_1) (roundK T25_1 outs25_1 rec) =
 (( cond (decide (x 0 < Int.ofNat (y 0).fst)) (
 Option.bind (f44 (nthI [x 1, x 2, x 3, x 4, x 5, x 6, x 7, x 8, x 9, x 10, x 11, x 12, x 13, x 14, x 15, x 16, x 17, x 18, x 19, x 20, x 21, x 22, x 23, x 24, x 25, x 26, x 27, x 28, x 29, x 30, x 31, x 32, x 33, x 34, x 35, x 36, bif !decide (x 37 = 0) then 1 else 0, bif !decide (x 38 = 0) then 1 else 0, x 39, x 40]) (y 0, y 1) (x 0)) (fun r3 =>
 cond (!decide (r3 0 = 0)) (
 some ((1, nthI [0, r3 0, r3 1, r3 2], nthS []))) (
 rec (nthI [IntKind.i64.wrap (x 0 + 1), x 1, x 2, x 3, x 4, x 5, x 6, x 7, x 8, x 9, x 10, x 11, x 12, x 13, x 14, x 15, x 16, x 17, x 18, x 19, x 20, x 21, x 22, x 23, x 24, x 25, x 26, x 27, x 28, x 29, x 30, x 31, x 32, x 33, x 34, x 35, x 36, bif !decide (x 37 = 0) then 1 else 0, bif !decide (x 38 = 0) then 1 else 0, x 39, x 40, x 41, x 42, x 43]) (nthS [y 0, y 1])))) (
 some ((0, nthI [x 41, x 42, x 43], nthS [])))) : Option LR) := by kernel_rfl
noncomputable def l25_1 (x : Nat → Int) (y : Nat → Sl) : Option LR := iterL s25_1 ((y 0).1 + 1) x y
theorem ls25_1 : LoopSpec Try.prog gG gl 65 ⟨T25_1, outs25_1, l25_1⟩ (loopAt Try.f25 1) := loop_ok (step := s25_1) (fu := fun x y => (y 0).1 + 1) okl25 1000 (lpNone rfl) (by kernel_rfl) (by kernel_rfl) (fun rec x y => se25_1 f44 rec x y) (fun _ _ => rfl)
theorem ok25 : CtxOK Try.prog (cx [] [(15, conF (aOne (pC (cX kx26))) (rOne (cI .i64)) (fun a => f15 a)), (43, conF (aOne (pC (cA .i64 22))) (rOne (cI .i64)) (fun a => f43 a)), (44, conF (aCons (pC (cX kx26)) (aCons (pSS kx59 kx3) (aOne (pC (cI .i64))))) (rOne (cA .i64 3)) (fun a => f44 (a.1) (a.2.1) (a.2.2)))] [(65007, ⟨T25_0, outs25_0, l25_0⟩), (65013, ⟨T25_1, outs25_1, l25_1⟩)] true) gl := ctx_of tyOk moOk (show SpecL Try.prog gG gl [(15, conF (aOne (pC (cX kx26))) (rOne (cI .i64)) (fun a => f15 a)), (43, conF (aOne (pC (cA .i64 22))) (rOne (cI .i64)) (fun a => f43 a)), (44, conF (aCons (pC (cX kx26)) (aCons (pSS kx59 kx3) (aOne (pC (cI .i64))))) (rOne (cA .i64 3)) (fun a => f44 (a.1) (a.2.1) (a.2.2)))] from ⟨sp15, sp43, sp44, trivial⟩) (show FnL Try.prog [] from trivial) (show FnLp Try.prog gG gl [(65007, ⟨T25_0, outs25_0, l25_0⟩), (65013, ⟨T25_1, outs25_1, l25_1⟩)] [] from trivial) joinOk
theorem la25 : LpAll Try.prog (cx [] [(15, conF (aOne (pC (cX kx26))) (rOne (cI .i64)) (fun a => f15 a)), (43, conF (aOne (pC (cA .i64 22))) (rOne (cI .i64)) (fun a => f43 a)), (44, conF (aCons (pC (cX kx26)) (aCons (pSS kx59 kx3) (aOne (pC (cI .i64))))) (rOne (cA .i64 3)) (fun a => f44 (a.1) (a.2.1) (a.2.2)))] [(65007, ⟨T25_0, outs25_0, l25_0⟩), (65013, ⟨T25_1, outs25_1, l25_1⟩)] true) gl Try.f25 := lpAll_of (lps := [(65007, ⟨T25_0, outs25_0, l25_0⟩), (65013, ⟨T25_1, outs25_1, l25_1⟩)]) rfl (ks := [65007, 65013]) (by kernel_rfl) (show LpS Try.prog gG gl Try.f25 [(65007, ⟨T25_0, outs25_0, l25_0⟩), (65013, ⟨T25_1, outs25_1, l25_1⟩)] [65007, 65013] 0 from ⟨fun L h => (by cases h; exact ls25_0), fun L h => (by cases h; exact ls25_1), trivial⟩)
noncomputable def f25 (a : Nat → Int) (b : Sl × Sl) : Option ((Nat → Int) × Int) :=
 Option.bind (f15 (nthI [a 0, a 1, a 2, a 3, a 4, a 5, a 6, a 7, a 8, a 9, a 10, a 11, a 12, a 13, a 14, a 15, a 16, a 17, a 18, a 19, a 20, a 21, a 22, a 23, a 24, a 25, a 26, a 27, a 28, a 29, a 30, a 31, a 32, a 33, a 34, a 35, bif !decide (a 36 = 0) then 1 else 0, bif !decide (a 37 = 0) then 1 else 0, a 38, a 39])) (fun r2 =>
 cond (!decide (r2 = 0)) (
 some ((nthI [0, 0, 0], r2))) (
 Option.bind (cond (decide (Int.ofNat b.snd.fst < 1)) (
 some (true)) (
 some (!decide (Int.ofNat b.fst.fst = IntKind.i64.wrap (Int.ofNat b.snd.fst + 1))))) (fun r3 =>
 cond (r3) (
 some ((nthI [0, 0, 0], 2))) (
 Option.bind (l25_0 (nthI [0, a 0, a 1, a 2, a 3, a 4, a 5, a 6, a 7, a 8, a 9, a 10, a 11, a 12, a 13, a 14, a 15, a 16, a 17, a 18, a 19, a 20, a 21, a 22, a 23, a 24, a 25, a 26, a 27, a 28, a 29, a 30, a 31, a 32, a 33, a 34, a 35, bif !decide (a 36 = 0) then 1 else 0, bif !decide (a 37 = 0) then 1 else 0, a 38, a 39, 0, 0, 0]) (nthS [b.fst, b.snd])) (fun r4 =>
 cond (decide (r4.fst = 0)) (
 Option.bind (l25_1 (nthI [0, r4.snd.fst 0, r4.snd.fst 1, r4.snd.fst 2, r4.snd.fst 3, r4.snd.fst 4, r4.snd.fst 5, r4.snd.fst 6, r4.snd.fst 7, r4.snd.fst 8, r4.snd.fst 9, r4.snd.fst 10, r4.snd.fst 11, r4.snd.fst 12, r4.snd.fst 13, r4.snd.fst 14, r4.snd.fst 15, r4.snd.fst 16, r4.snd.fst 17, r4.snd.fst 18, r4.snd.fst 19, r4.snd.fst 20, r4.snd.fst 21, r4.snd.fst 22, r4.snd.fst 23, r4.snd.fst 24, r4.snd.fst 25, r4.snd.fst 26, r4.snd.fst 27, r4.snd.fst 28, r4.snd.fst 29, r4.snd.fst 30, r4.snd.fst 31, r4.snd.fst 32, r4.snd.fst 33, r4.snd.fst 34, r4.snd.fst 35, bif !decide (r4.snd.fst 36 = 0) then 1 else 0, bif !decide (r4.snd.fst 37 = 0) then 1 else 0, r4.snd.fst 38, r4.snd.fst 39, r4.snd.fst 40, r4.snd.fst 41, r4.snd.fst 42]) (nthS [r4.snd.snd 0, r4.snd.snd 1])) (fun r5 =>
 cond (decide (r5.fst = 0)) (
 some ((nthI [0, 0, 0], 0))) (
 some ((nthI [r5.snd.fst 1, r5.snd.fst 2, r5.snd.fst 3], r5.snd.fst 0))))) (
 some ((nthI [r4.snd.fst 1, r4.snd.fst 2, r4.snd.fst 3], r4.snd.fst 0))))))))
theorem evg25 (f15 : (Nat → Int) → Option (Int)) (l25_0 : (Nat → Int) → (Nat → Sl) → Option LR) (l25_1 : (Nat → Int) → (Nat → Sl) → Option LR) (xx : (aCons (pC (cX kx26)) (aOne (pSS kx59 kx3))).T) : evF (R := (rTup (cCons (cA .i64 3) (cOne (cI .i64)))).T) (cx [] [(15, conF (aOne (pC (cX kx26))) (rOne (cI .i64)) (fun a => f15 a)), (43, conF (aOne (pC (cA .i64 22))) (rOne (cI .i64)) (fun a => f43 a)), (44, conF (aCons (pC (cX kx26)) (aCons (pSS kx59 kx3) (aOne (pC (cI .i64))))) (rOne (cA .i64 3)) (fun a => f44 (a.1) (a.2.1) (a.2.2)))] [(65007, ⟨T25_0, outs25_0, l25_0⟩), (65013, ⟨T25_1, outs25_1, l25_1⟩)] true) 1000 Try.f25 ((aCons (pC (cX kx26)) (aOne (pSS kx59 kx3))).enc gG xx) (glMem gl) 2 (rTup (cCons (cA .i64 3) (cOne (cI .i64)))).dec =
 (fun (a : Nat → Int) (b : Sl × Sl) =>
 (( Option.bind (f15 (nthI [a 0, a 1, a 2, a 3, a 4, a 5, a 6, a 7, a 8, a 9, a 10, a 11, a 12, a 13, a 14, a 15, a 16, a 17, a 18, a 19, a 20, a 21, a 22, a 23, a 24, a 25, a 26, a 27, a 28, a 29, a 30, a 31, a 32, a 33, a 34, a 35, bif !decide (a 36 = 0) then 1 else 0, bif !decide (a 37 = 0) then 1 else 0, a 38, a 39])) (fun r2 =>
 cond (!decide (r2 = 0)) (
 some ((nthI [0, 0, 0], r2))) (
 Option.bind (cond (decide (Int.ofNat b.snd.fst < 1)) (
 some (true)) (
 some (!decide (Int.ofNat b.fst.fst = IntKind.i64.wrap (Int.ofNat b.snd.fst + 1))))) (fun r3 =>
 cond (r3) (
 some ((nthI [0, 0, 0], 2))) (
 Option.bind (l25_0 (nthI [0, a 0, a 1, a 2, a 3, a 4, a 5, a 6, a 7, a 8, a 9, a 10, a 11, a 12, a 13, a 14, a 15, a 16, a 17, a 18, a 19, a 20, a 21, a 22, a 23, a 24, a 25, a 26, a 27, a 28, a 29, a 30, a 31, a 32, a 33, a 34, a 35, bif !decide (a 36 = 0) then 1 else 0, bif !decide (a 37 = 0) then 1 else 0, a 38, a 39, 0, 0, 0]) (nthS [b.fst, b.snd])) (fun r4 =>
 cond (decide (r4.fst = 0)) (
 Option.bind (l25_1 (nthI [0, r4.snd.fst 0, r4.snd.fst 1, r4.snd.fst 2, r4.snd.fst 3, r4.snd.fst 4, r4.snd.fst 5, r4.snd.fst 6, r4.snd.fst 7, r4.snd.fst 8, r4.snd.fst 9, r4.snd.fst 10, r4.snd.fst 11, r4.snd.fst 12, r4.snd.fst 13, r4.snd.fst 14, r4.snd.fst 15, r4.snd.fst 16, r4.snd.fst 17, r4.snd.fst 18, r4.snd.fst 19, r4.snd.fst 20, r4.snd.fst 21, r4.snd.fst 22, r4.snd.fst 23, r4.snd.fst 24, r4.snd.fst 25, r4.snd.fst 26, r4.snd.fst 27, r4.snd.fst 28, r4.snd.fst 29, r4.snd.fst 30, r4.snd.fst 31, r4.snd.fst 32, r4.snd.fst 33, r4.snd.fst 34, r4.snd.fst 35, bif !decide (r4.snd.fst 36 = 0) then 1 else 0, bif !decide (r4.snd.fst 37 = 0) then 1 else 0, r4.snd.fst 38, r4.snd.fst 39, r4.snd.fst 40, r4.snd.fst 41, r4.snd.fst 42]) (nthS [r4.snd.snd 0, r4.snd.snd 1])) (fun r5 =>
 cond (decide (r5.fst = 0)) (
 some ((nthI [0, 0, 0], 0))) (
 some ((nthI [r5.snd.fst 1, r5.snd.fst 2, r5.snd.fst 3], r5.snd.fst 0))))) (
 some ((nthI [r4.snd.fst 1, r4.snd.fst 2, r4.snd.fst 3], r4.snd.fst 0))))))))) : Option ((Nat → Int) × Int))) xx.1 xx.2 := by kernel_rfl
theorem ev25 (a : (aCons (pC (cX kx26)) (aOne (pSS kx59 kx3))).T) : evF (R := (rTup (cCons (cA .i64 3) (cOne (cI .i64)))).T) (cx [] [(15, conF (aOne (pC (cX kx26))) (rOne (cI .i64)) (fun a => f15 a)), (43, conF (aOne (pC (cA .i64 22))) (rOne (cI .i64)) (fun a => f43 a)), (44, conF (aCons (pC (cX kx26)) (aCons (pSS kx59 kx3) (aOne (pC (cI .i64))))) (rOne (cA .i64 3)) (fun a => f44 (a.1) (a.2.1) (a.2.2)))] [(65007, ⟨T25_0, outs25_0, l25_0⟩), (65013, ⟨T25_1, outs25_1, l25_1⟩)] true) 1000 Try.f25 ((aCons (pC (cX kx26)) (aOne (pSS kx59 kx3))).enc gG a) (glMem gl) 2 (rTup (cCons (cA .i64 3) (cOne (cI .i64)))).dec = f25 a.1 a.2 := evg25 f15 l25_0 l25_1 a
theorem sp25 : VE.Spec Try.prog gG gl 25 (conF (aCons (pC (cX kx26)) (aOne (pSS kx59 kx3))) (rTup (cCons (cA .i64 3) (cOne (cI .i64)))) (fun a => f25 a.1 a.2)) := spec_of ok25 Try.func25 Try.call25 la25 1000 (aCons_ok (pC_ok (cX_ok _)) (aOne_ok (pSS_ok _ _))) (rTup_ok (cCons_ok (cA_ok _ _) (cOne_ok (cI_ok _)))) ev25

/-- dancestudiolaw22.LimitsFirst -/
theorem ok8 : CtxOK Try.prog (cx [] [(16, conF (aNil) (rOne (cB)) (fun a => f16)), (23, conF (aOne (pSS kx59 kx3)) (rOne (cB)) (fun a => f23 a)), (24, conF (aCons (pC (cX kx26)) (aOne (pSS kx59 kx3))) (rTup (cCons (cA .i64 3) (cOne (cI .i64)))) (fun a => f24 (a.1) (a.2))), (25, conF (aCons (pC (cX kx26)) (aOne (pSS kx59 kx3))) (rTup (cCons (cA .i64 3) (cOne (cI .i64)))) (fun a => f25 (a.1) (a.2)))] []) gl := ctx_of tyOk moOk (show SpecL Try.prog gG gl [(16, conF (aNil) (rOne (cB)) (fun a => f16)), (23, conF (aOne (pSS kx59 kx3)) (rOne (cB)) (fun a => f23 a)), (24, conF (aCons (pC (cX kx26)) (aOne (pSS kx59 kx3))) (rTup (cCons (cA .i64 3) (cOne (cI .i64)))) (fun a => f24 (a.1) (a.2))), (25, conF (aCons (pC (cX kx26)) (aOne (pSS kx59 kx3))) (rTup (cCons (cA .i64 3) (cOne (cI .i64)))) (fun a => f25 (a.1) (a.2)))] from ⟨sp16, sp23, sp24, sp25, trivial⟩) (show FnL Try.prog [] from trivial) (fnLp_nil _) joinOk
noncomputable def f8 (a : Nat → Int) (b : Sl × Sl) : Option (Bool) :=
 Option.bind (f23 b) (fun r2 =>
 cond (r2) (
 Option.bind (f16) (fun r3 =>
 some (r3))) (
 Option.bind (f24 (nthI [a 0, a 1, a 2, a 3, a 4, a 5, a 6, a 7, a 8, a 9, a 10, a 11, a 12, a 13, a 14, a 15, a 16, a 17, a 18, a 19, a 20, a 21, a 22, a 23, a 24, a 25, a 26, a 27, a 28, a 29, a 30, a 31, a 32, a 33, a 34, a 35, bif !decide (a 36 = 0) then 1 else 0, bif !decide (a 37 = 0) then 1 else 0, a 38, a 39]) b) (fun r3 =>
 Option.bind (f25 (nthI [a 0, a 1, a 2, a 3, a 4, a 5, a 6, a 7, a 8, a 9, a 10, a 11, a 12, a 13, a 14, a 15, a 16, a 17, a 18, a 19, a 20, a 21, a 22, a 23, a 24, a 25, a 26, a 27, a 28, a 29, a 30, a 31, a 32, a 33, a 34, a 35, bif !decide (a 36 = 0) then 1 else 0, bif !decide (a 37 = 0) then 1 else 0, a 38, a 39]) b) (fun r4 =>
 cond (decide (r3.fst 0 = r4.fst 0) && (decide (r3.fst 1 = r4.fst 1) && decide (r3.fst 2 = r4.fst 2))) (
 cond (decide (r3.snd = r4.snd)) (
 Option.bind (f16) (fun r5 =>
 some (r5))) (
 some (false))) (
 some (false))))))
theorem evg8 (f16 : Option (Bool)) (f23 : (Sl × Sl) → Option (Bool)) (f24 : (Nat → Int) → (Sl × Sl) → Option ((Nat → Int) × Int)) (f25 : (Nat → Int) → (Sl × Sl) → Option ((Nat → Int) × Int))  (xx : (aCons (pC (cX kx26)) (aOne (pSS kx59 kx3))).T) : evF (R := (rOne (cB)).T) (cx [] [(16, conF (aNil) (rOne (cB)) (fun a => f16)), (23, conF (aOne (pSS kx59 kx3)) (rOne (cB)) (fun a => f23 a)), (24, conF (aCons (pC (cX kx26)) (aOne (pSS kx59 kx3))) (rTup (cCons (cA .i64 3) (cOne (cI .i64)))) (fun a => f24 (a.1) (a.2))), (25, conF (aCons (pC (cX kx26)) (aOne (pSS kx59 kx3))) (rTup (cCons (cA .i64 3) (cOne (cI .i64)))) (fun a => f25 (a.1) (a.2)))] []) 1000 Try.f8 ((aCons (pC (cX kx26)) (aOne (pSS kx59 kx3))).enc gG xx) (glMem gl) 2 (rOne (cB)).dec =
 (fun (a : Nat → Int) (b : Sl × Sl) =>
 (( Option.bind (f23 b) (fun r2 =>
 cond (r2) (
 Option.bind (f16) (fun r3 =>
 some (r3))) (
 Option.bind (f24 (nthI [a 0, a 1, a 2, a 3, a 4, a 5, a 6, a 7, a 8, a 9, a 10, a 11, a 12, a 13, a 14, a 15, a 16, a 17, a 18, a 19, a 20, a 21, a 22, a 23, a 24, a 25, a 26, a 27, a 28, a 29, a 30, a 31, a 32, a 33, a 34, a 35, bif !decide (a 36 = 0) then 1 else 0, bif !decide (a 37 = 0) then 1 else 0, a 38, a 39]) b) (fun r3 =>
 Option.bind (f25 (nthI [a 0, a 1, a 2, a 3, a 4, a 5, a 6, a 7, a 8, a 9, a 10, a 11, a 12, a 13, a 14, a 15, a 16, a 17, a 18, a 19, a 20, a 21, a 22, a 23, a 24, a 25, a 26, a 27, a 28, a 29, a 30, a 31, a 32, a 33, a 34, a 35, bif !decide (a 36 = 0) then 1 else 0, bif !decide (a 37 = 0) then 1 else 0, a 38, a 39]) b) (fun r4 =>
 cond (decide (r3.fst 0 = r4.fst 0) && (decide (r3.fst 1 = r4.fst 1) && decide (r3.fst 2 = r4.fst 2))) (
 cond (decide (r3.snd = r4.snd)) (
 Option.bind (f16) (fun r5 =>
 some (r5))) (
 some (false))) (
 some (false))))))) : Option (Bool))) xx.1 xx.2 := by kernel_rfl
theorem ev8 (a : (aCons (pC (cX kx26)) (aOne (pSS kx59 kx3))).T) : evF (R := (rOne (cB)).T) (cx [] [(16, conF (aNil) (rOne (cB)) (fun a => f16)), (23, conF (aOne (pSS kx59 kx3)) (rOne (cB)) (fun a => f23 a)), (24, conF (aCons (pC (cX kx26)) (aOne (pSS kx59 kx3))) (rTup (cCons (cA .i64 3) (cOne (cI .i64)))) (fun a => f24 (a.1) (a.2))), (25, conF (aCons (pC (cX kx26)) (aOne (pSS kx59 kx3))) (rTup (cCons (cA .i64 3) (cOne (cI .i64)))) (fun a => f25 (a.1) (a.2)))] []) 1000 Try.f8 ((aCons (pC (cX kx26)) (aOne (pSS kx59 kx3))).enc gG a) (glMem gl) 2 (rOne (cB)).dec = f8 a.1 a.2 := evg8 f16 f23 f24 f25  a
theorem sp8 : VE.Spec Try.prog gG gl 8 (conF (aCons (pC (cX kx26)) (aOne (pSS kx59 kx3))) (rOne (cB)) (fun a => f8 a.1 a.2)) := spec_of ok8 Try.func8 Try.call8 (lpAll_nil rfl) 1000 (aCons_ok (pC_ok (cX_ok _)) (aOne_ok (pSS_ok _ _))) (rOne_ok (cB_ok)) ev8

/-- dancestudiolaw22.LimitsHold -/
theorem okl9 : CtxOK Try.prog (cx [] [(16, conF (aNil) (rOne (cB)) (fun a => f16)), (17, conF (aCons (pC (cX kx26)) (aCons (pC (cI .i64)) (aOne (pC (cA .i64 3))))) (rTup (cCons (cB) (cOne (cI .i64)))) (fun a => f17 (a.1) (a.2.1) (a.2.2))), (23, conF (aOne (pSS kx59 kx3)) (rOne (cB)) (fun a => f23 a)), (24, conF (aCons (pC (cX kx26)) (aOne (pSS kx59 kx3))) (rTup (cCons (cA .i64 3) (cOne (cI .i64)))) (fun a => f24 (a.1) (a.2)))] [] true) gl := ctx_of tyOk moOk (show SpecL Try.prog gG gl [(16, conF (aNil) (rOne (cB)) (fun a => f16)), (17, conF (aCons (pC (cX kx26)) (aCons (pC (cI .i64)) (aOne (pC (cA .i64 3))))) (rTup (cCons (cB) (cOne (cI .i64)))) (fun a => f17 (a.1) (a.2.1) (a.2.2))), (23, conF (aOne (pSS kx59 kx3)) (rOne (cB)) (fun a => f23 a)), (24, conF (aCons (pC (cX kx26)) (aOne (pSS kx59 kx3))) (rTup (cCons (cA .i64 3) (cOne (cI .i64)))) (fun a => f24 (a.1) (a.2)))] from ⟨sp16, sp17, sp23, sp24, trivial⟩) (show FnL Try.prog [] from trivial) (fnLp_nil _) joinOk
def T9_0 : ST := ⟨[(3, .s (.ptr 2 0)), (4, .s (.ptr 3 0)), (5, .s (.ptr 4 0)), (9, .s (.i .i64))], [(2, .own [.i .i64, .i .i64, .i .i64, .i .i64, .i .i64, .i .i64, .i .i64, .i .i64, .i .i64, .i .i64, .i .i64, .i .i64, .i .i64, .i .i64, .i .i64, .i .i64, .i .i64, .i .i64, .i .i64, .i .i64, .i .i64, .i .i64, .i .i64, .i .i64, .i .i64, .i .i64, .i .i64, .i .i64, .i .i64, .i .i64, .i .i64, .i .i64, .i .i64, .i .i64, .i .i64, .i .i64, .b, .b, .i .i64, .i .i64] 26), (3, .own [.xs 0 [some .i64, some .i64, some .i64, some .i64, some .i64, some .i64, some .i64, some .i64, some .i64, some .i64, some .i64, some .i64, some .i64, some .i64, some .i64, some .i64, some .i64, some .i64, some .i64, some .i64, some .i64, some .i64], .xs 1 [some .i64]] 48), (4, .own [.i .i64, .i .i64, .i .i64, .i .i64] 41)], 26⟩
def outs9_0 : List (AExit × ST) := [(.exit 0, ⟨[], [], 31⟩), (.ret, ⟨[(6, .s (.b))], [], 70⟩)]
noncomputable def s9_0 (rec : (Nat → Int) → (Nat → Sl) → Option LR) (x : Nat → Int) (y : Nat → Sl) : Option LR :=
 cond (decide (x 0 < Int.ofNat (y 0).fst)) (
 cond (decide (0 ≤ x 0)) (
 cond (decide (x 0 < Int.ofNat (y 0).fst)) (
 cond (decide (0 ≤ x 41)) (
 cond (decide (x 41 < 6)) (
 Option.bind (f17 (nthI [x 1, x 2, x 3, x 4, x 5, x 6, x 7, x 8, x 9, x 10, x 11, x 12, x 13, x 14, x 15, x 16, x 17, x 18, x 19, x 20, x 21, x 22, x 23, x 24, x 25, x 26, x 27, x 28, x 29, x 30, x 31, x 32, x 33, x 34, x 35, x 36, bif !decide (x 37 = 0) then 1 else 0, bif !decide (x 38 = 0) then 1 else 0, x 39, x 40]) (x 41) (nthI [[(y 0).snd (x 0).toNat 4, (y 0).snd (x 0).toNat 7, (y 0).snd (x 0).toNat 10, (y 0).snd (x 0).toNat 13, (y 0).snd (x 0).toNat 16, (y 0).snd (x 0).toNat 19].getD (x 41).toNat 0, [(y 0).snd (x 0).toNat 5, (y 0).snd (x 0).toNat 8, (y 0).snd (x 0).toNat 11, (y 0).snd (x 0).toNat 14, (y 0).snd (x 0).toNat 17, (y 0).snd (x 0).toNat 20].getD (x 41).toNat 0, [(y 0).snd (x 0).toNat 6, (y 0).snd (x 0).toNat 9, (y 0).snd (x 0).toNat 12, (y 0).snd (x 0).toNat 15, (y 0).snd (x 0).toNat 18, (y 0).snd (x 0).toNat 21].getD (x 41).toNat 0])) (fun r3 =>
 Option.bind (cond (!r3.fst) (
 some (true)) (
 cond (!decide (r3.snd = 0)) (
 some (true)) (
 cond (decide (0 ≤ x 0)) (
 cond (decide (x 0 < Int.ofNat (y 0).fst)) (
 cond (decide ((y 0).snd (x 0).toNat 3 < 0)) (
 cond (!!decide (x 37 = 0)) (
 some (true)) (
 cond (decide (0 ≤ x 0)) (
 cond (decide (x 0 < Int.ofNat (y 0).fst)) (
 cond (decide (0 < (y 0).snd (x 0).toNat 3)) (
 some (!!decide (x 38 = 0))) (
 some (false))) none) none)) (
 cond (decide (0 ≤ x 0)) (
 cond (decide (x 0 < Int.ofNat (y 0).fst)) (
 cond (decide (0 < (y 0).snd (x 0).toNat 3)) (
 some (!!decide (x 38 = 0))) (
 some (false))) none) none)) none) none))) (fun r4 =>
 cond (r4) (
 some ((1, nthI [0], nthS []))) (
 cond (decide (x 0 = 0)) (
 rec (nthI [IntKind.i64.wrap (x 0 + 1), x 1, x 2, x 3, x 4, x 5, x 6, x 7, x 8, x 9, x 10, x 11, x 12, x 13, x 14, x 15, x 16, x 17, x 18, x 19, x 20, x 21, x 22, x 23, x 24, x 25, x 26, x 27, x 28, x 29, x 30, x 31, x 32, x 33, x 34, x 35, x 36, bif !decide (x 37 = 0) then 1 else 0, bif !decide (x 38 = 0) then 1 else 0, x 39, x 40, x 41, x 42, x 43, x 44]) (nthS [y 0, y 1])) (
 cond (decide (0 ≤ IntKind.i64.wrap (x 0 - 1))) (
 cond (decide (IntKind.i64.wrap (x 0 - 1) < Int.ofNat (y 0).fst)) (
 cond (decide (0 ≤ x 41)) (
 cond (decide (x 41 < 6)) (
 Option.bind (cond (decide (0 ≤ x 41)) (
 cond (decide (x 41 < 6)) (
 cond (decide ([x 6, x 12, x 18, x 24, x 30, x 36].getD (x 41).toNat 0 < IntKind.i64.wrap ([(y 0).snd (x 0).toNat 5, (y 0).snd (x 0).toNat 8, (y 0).snd (x 0).toNat 11, (y 0).snd (x 0).toNat 14, (y 0).snd (x 0).toNat 17, (y 0).snd (x 0).toNat 20].getD (x 41).toNat 0 - [(y 0).snd (IntKind.i64.wrap (x 0 - 1)).toNat 5, (y 0).snd (IntKind.i64.wrap (x 0 - 1)).toNat 8, (y 0).snd (IntKind.i64.wrap (x 0 - 1)).toNat 11, (y 0).snd (IntKind.i64.wrap (x 0 - 1)).toNat 14, (y 0).snd (IntKind.i64.wrap (x 0 - 1)).toNat 17, (y 0).snd (IntKind.i64.wrap (x 0 - 1)).toNat 20].getD (x 41).toNat 0))) (
 some (true)) (
 cond (decide (0 ≤ x 41)) (
 cond (decide (x 41 < 6)) (
 cond (decide ([x 6, x 12, x 18, x 24, x 30, x 36].getD (x 41).toNat 0 < IntKind.i64.wrap (0 - IntKind.i64.wrap ([(y 0).snd (x 0).toNat 5, (y 0).snd (x 0).toNat 8, (y 0).snd (x 0).toNat 11, (y 0).snd (x 0).toNat 14, (y 0).snd (x 0).toNat 17, (y 0).snd (x 0).toNat 20].getD (x 41).toNat 0 - [(y 0).snd (IntKind.i64.wrap (x 0 - 1)).toNat 5, (y 0).snd (IntKind.i64.wrap (x 0 - 1)).toNat 8, (y 0).snd (IntKind.i64.wrap (x 0 - 1)).toNat 11, (y 0).snd (IntKind.i64.wrap (x 0 - 1)).toNat 14, (y 0).snd (IntKind.i64.wrap (x 0 - 1)).toNat 17, (y 0).snd (IntKind.i64.wrap (x 0 - 1)).toNat 20].getD (x 41).toNat 0)))) (
 some (true)) (
 cond (decide (x 39 = 0)) (
 cond (decide (0 ≤ IntKind.i64.wrap (x 0 - 1))) (
 cond (decide (IntKind.i64.wrap (x 0 - 1) < Int.ofNat (y 1).fst)) (
 some (decide ((y 1).snd (IntKind.i64.wrap (x 0 - 1)).toNat 0 = 0))) none) none) (
 some (false)))) none) none)) none) none) (fun r5 =>
 cond (r5) (
 some ((1, nthI [0], nthS []))) (
 rec (nthI [IntKind.i64.wrap (x 0 + 1), x 1, x 2, x 3, x 4, x 5, x 6, x 7, x 8, x 9, x 10, x 11, x 12, x 13, x 14, x 15, x 16, x 17, x 18, x 19, x 20, x 21, x 22, x 23, x 24, x 25, x 26, x 27, x 28, x 29, x 30, x 31, x 32, x 33, x 34, x 35, x 36, bif !decide (x 37 = 0) then 1 else 0, bif !decide (x 38 = 0) then 1 else 0, x 39, x 40, x 41, x 42, x 43, x 44]) (nthS [y 0, y 1])))) none) none) none) none))))) none) none) none) none) (
 some ((0, nthI [], nthS [])))
theorem se9_0 (f17 : (Nat → Int) → (Int) → (Nat → Int) → Option (Bool × Int)) (rec : (Nat → Int) → (Nat → Sl) → Option LR) (x : Nat → Int) (y : Nat → Sl) : evR (cx [] [(16, conF (aNil) (rOne (cB)) (fun a => f16)), (17, conF (aCons (pC (cX kx26)) (aCons (pC (cI .i64)) (aOne (pC (cA .i64 3))))) (rTup (cCons (cB) (cOne (cI .i64)))) (fun a => f17 (a.1) (a.2.1) (a.2.2))), (23, conF (aOne (pSS kx59 kx3)) (rOne (cB)) (fun a => f23 a)), (24, conF (aCons (pC (cX kx26)) (aOne (pSS kx59 kx3))) (rTup (cCons (cA .i64 3) (cOne (cI .i64)))) (fun a => f24 (a.1) (a.2)))] [] true) 1000 LR 166 (loopAt Try.f9 0) (encT x y T9_0) (roundK T9_0 outs9_0 rec) =
 (( cond (decide (x 0 < Int.ofNat (y 0).fst)) (
 cond (decide (0 ≤ x 0)) (
 cond (decide (x 0 < Int.ofNat (y 0).fst)) (
 cond (decide (0 ≤ x 41)) (
 cond (decide (x 41 < 6)) (
 Option.bind (f17 (nthI [x 1, x 2, x 3, x 4, x 5, x 6, x 7, x 8, x 9, x 10, x 11, x 12, x 13, x 14, x 15, x 16, x 17, x 18, x 19, x 20, x 21, x 22, x 23, x 24, x 25, x 26, x 27, x 28, x 29, x 30, x 31, x 32, x 33, x 34, x 35, x 36, bif !decide (x 37 = 0) then 1 else 0, bif !decide (x 38 = 0) then 1 else 0, x 39, x 40]) (x 41) (nthI [[(y 0).snd (x 0).toNat 4, (y 0).snd (x 0).toNat 7, (y 0).snd (x 0).toNat 10, (y 0).snd (x 0).toNat 13, (y 0).snd (x 0).toNat 16, (y 0).snd (x 0).toNat 19].getD (x 41).toNat 0, [(y 0).snd (x 0).toNat 5, (y 0).snd (x 0).toNat 8, (y 0).snd (x 0).toNat 11, (y 0).snd (x 0).toNat 14, (y 0).snd (x 0).toNat 17, (y 0).snd (x 0).toNat 20].getD (x 41).toNat 0, [(y 0).snd (x 0).toNat 6, (y 0).snd (x 0).toNat 9, (y 0).snd (x 0).toNat 12, (y 0).snd (x 0).toNat 15, (y 0).snd (x 0).toNat 18, (y 0).snd (x 0).toNat 21].getD (x 41).toNat 0])) (fun r3 =>
 Option.bind (cond (!r3.fst) (
 some (true)) (
 cond (!decide (r3.snd = 0)) (
 some (true)) (
 cond (decide (0 ≤ x 0)) (
 cond (decide (x 0 < Int.ofNat (y 0).fst)) (
 cond (decide ((y 0).snd (x 0).toNat 3 < 0)) (
 cond (!!decide (x 37 = 0)) (
 some (true)) (
 cond (decide (0 ≤ x 0)) (
 cond (decide (x 0 < Int.ofNat (y 0).fst)) (
 cond (decide (0 < (y 0).snd (x 0).toNat 3)) (
 some (!!decide (x 38 = 0))) (
 some (false))) none) none)) (
 cond (decide (0 ≤ x 0)) (
 cond (decide (x 0 < Int.ofNat (y 0).fst)) (
 cond (decide (0 < (y 0).snd (x 0).toNat 3)) (
 some (!!decide (x 38 = 0))) (
 some (false))) none) none)) none) none))) (fun r4 =>
 cond (r4) (
 some ((1, nthI [0], nthS []))) (
 cond (decide (x 0 = 0)) (
 rec (nthI [IntKind.i64.wrap (x 0 + 1), x 1, x 2, x 3, x 4, x 5, x 6, x 7, x 8, x 9, x 10, x 11, x 12, x 13, x 14, x 15, x 16, x 17, x 18, x 19, x 20, x 21, x 22, x 23, x 24, x 25, x 26, x 27, x 28, x 29, x 30, x 31, x 32, x 33, x 34, x 35, x 36, bif !decide (x 37 = 0) then 1 else 0, bif !decide (x 38 = 0) then 1 else 0, x 39, x 40, x 41, x 42, x 43, x 44]) (nthS [y 0, y 1])) (
 cond (decide (0 ≤ IntKind.i64.wrap (x 0 - 1))) (
 cond (decide (IntKind.i64.wrap (x 0 - 1) < Int.ofNat (y 0).fst)) (
 cond (decide (0 ≤ x 41)) (
 cond (decide (x 41 < 6)) (
 Option.bind (cond (decide (0 ≤ x 41)) (
 cond (decide (x 41 < 6)) (
 cond (decide ([x 6, x 12, x 18, x 24, x 30, x 36].getD (x 41).toNat 0 < IntKind.i64.wrap ([(y 0).snd (x 0).toNat 5, (y 0).snd (x 0).toNat 8, (y 0).snd (x 0).toNat 11, (y 0).snd (x 0).toNat 14, (y 0).snd (x 0).toNat 17, (y 0).snd (x 0).toNat 20].getD (x 41).toNat 0 - [(y 0).snd (IntKind.i64.wrap (x 0 - 1)).toNat 5, (y 0).snd (IntKind.i64.wrap (x 0 - 1)).toNat 8, (y 0).snd (IntKind.i64.wrap (x 0 - 1)).toNat 11, (y 0).snd (IntKind.i64.wrap (x 0 - 1)).toNat 14, (y 0).snd (IntKind.i64.wrap (x 0 - 1)).toNat 17, (y 0).snd (IntKind.i64.wrap (x 0 - 1)).toNat 20].getD (x 41).toNat 0))) (
 some (true)) (
 cond (decide (0 ≤ x 41)) (
 cond (decide (x 41 < 6)) (
 cond (decide ([x 6, x 12, x 18, x 24, x 30, x 36].getD (x 41).toNat 0 < IntKind.i64.wrap (0 - IntKind.i64.wrap ([(y 0).snd (x 0).toNat 5, (y 0).snd (x 0).toNat 8, (y 0).snd (x 0).toNat 11, (y 0).snd (x 0).toNat 14, (y 0).snd (x 0).toNat 17, (y 0).snd (x 0).toNat 20].getD (x 41).toNat 0 - [(y 0).snd (IntKind.i64.wrap (x 0 - 1)).toNat 5, (y 0).snd (IntKind.i64.wrap (x 0 - 1)).toNat 8, (y 0).snd (IntKind.i64.wrap (x 0 - 1)).toNat 11, (y 0).snd (IntKind.i64.wrap (x 0 - 1)).toNat 14, (y 0).snd (IntKind.i64.wrap (x 0 - 1)).toNat 17, (y 0).snd (IntKind.i64.wrap (x 0 - 1)).toNat 20].getD (x 41).toNat 0)))) (
 some (true)) (
 cond (decide (x 39 = 0)) (
 cond (decide (0 ≤ IntKind.i64.wrap (x 0 - 1))) (
 cond (decide (IntKind.i64.wrap (x 0 - 1) < Int.ofNat (y 1).fst)) (
 some (decide ((y 1).snd (IntKind.i64.wrap (x 0 - 1)).toNat 0 = 0))) none) none) (
 some (false)))) none) none)) none) none) (fun r5 =>
 cond (r5) (
 some ((1, nthI [0], nthS []))) (
 rec (nthI [IntKind.i64.wrap (x 0 + 1), x 1, x 2, x 3, x 4, x 5, x 6, x 7, x 8, x 9, x 10, x 11, x 12, x 13, x 14, x 15, x 16, x 17, x 18, x 19, x 20, x 21, x 22, x 23, x 24, x 25, x 26, x 27, x 28, x 29, x 30, x 31, x 32, x 33, x 34, x 35, x 36, bif !decide (x 37 = 0) then 1 else 0, bif !decide (x 38 = 0) then 1 else 0, x 39, x 40, x 41, x 42, x 43, x 44]) (nthS [y 0, y 1])))) none) none) none) none))))) none) none) none) none) (
 some ((0, nthI [], nthS [])))) : Option LR) := by kernel_rfl
noncomputable def l9_0 (x : Nat → Int) (y : Nat → Sl) : Option LR := iterL s9_0 ((y 0).1 + 1) x y
theorem ls9_0 : LoopSpec Try.prog gG gl 166 ⟨T9_0, outs9_0, l9_0⟩ (loopAt Try.f9 0) := loop_ok (step := s9_0) (fu := fun x y => (y 0).1 + 1) okl9 1000 (lpNone rfl) (by kernel_rfl) (by kernel_rfl) (fun rec x y => se9_0 f17 rec x y) (fun _ _ => rfl)
theorem ok9 : CtxOK Try.prog (cx [] [(16, conF (aNil) (rOne (cB)) (fun a => f16)), (17, conF (aCons (pC (cX kx26)) (aCons (pC (cI .i64)) (aOne (pC (cA .i64 3))))) (rTup (cCons (cB) (cOne (cI .i64)))) (fun a => f17 (a.1) (a.2.1) (a.2.2))), (23, conF (aOne (pSS kx59 kx3)) (rOne (cB)) (fun a => f23 a)), (24, conF (aCons (pC (cX kx26)) (aOne (pSS kx59 kx3))) (rTup (cCons (cA .i64 3) (cOne (cI .i64)))) (fun a => f24 (a.1) (a.2)))] [(166009, ⟨T9_0, outs9_0, l9_0⟩)] true) gl := ctx_of tyOk moOk (show SpecL Try.prog gG gl [(16, conF (aNil) (rOne (cB)) (fun a => f16)), (17, conF (aCons (pC (cX kx26)) (aCons (pC (cI .i64)) (aOne (pC (cA .i64 3))))) (rTup (cCons (cB) (cOne (cI .i64)))) (fun a => f17 (a.1) (a.2.1) (a.2.2))), (23, conF (aOne (pSS kx59 kx3)) (rOne (cB)) (fun a => f23 a)), (24, conF (aCons (pC (cX kx26)) (aOne (pSS kx59 kx3))) (rTup (cCons (cA .i64 3) (cOne (cI .i64)))) (fun a => f24 (a.1) (a.2)))] from ⟨sp16, sp17, sp23, sp24, trivial⟩) (show FnL Try.prog [] from trivial) (show FnLp Try.prog gG gl [(166009, ⟨T9_0, outs9_0, l9_0⟩)] [] from trivial) joinOk
theorem la9 : LpAll Try.prog (cx [] [(16, conF (aNil) (rOne (cB)) (fun a => f16)), (17, conF (aCons (pC (cX kx26)) (aCons (pC (cI .i64)) (aOne (pC (cA .i64 3))))) (rTup (cCons (cB) (cOne (cI .i64)))) (fun a => f17 (a.1) (a.2.1) (a.2.2))), (23, conF (aOne (pSS kx59 kx3)) (rOne (cB)) (fun a => f23 a)), (24, conF (aCons (pC (cX kx26)) (aOne (pSS kx59 kx3))) (rTup (cCons (cA .i64 3) (cOne (cI .i64)))) (fun a => f24 (a.1) (a.2)))] [(166009, ⟨T9_0, outs9_0, l9_0⟩)] true) gl Try.f9 := lpAll_of (lps := [(166009, ⟨T9_0, outs9_0, l9_0⟩)]) rfl (ks := [166009]) (by kernel_rfl) (show LpS Try.prog gG gl Try.f9 [(166009, ⟨T9_0, outs9_0, l9_0⟩)] [166009] 0 from ⟨fun L h => (by cases h; exact ls9_0), trivial⟩)
noncomputable def f9 (a : Nat → Int) (b : Sl × Sl) (c : Nat → Int) : Option (Bool) :=
 Option.bind (f23 b) (fun r3 =>
 cond (r3) (
 Option.bind (f16) (fun r4 =>
 some (r4))) (
 Option.bind (f24 (nthI [a 0, a 1, a 2, a 3, a 4, a 5, a 6, a 7, a 8, a 9, a 10, a 11, a 12, a 13, a 14, a 15, a 16, a 17, a 18, a 19, a 20, a 21, a 22, a 23, a 24, a 25, a 26, a 27, a 28, a 29, a 30, a 31, a 32, a 33, a 34, a 35, bif !decide (a 36 = 0) then 1 else 0, bif !decide (a 37 = 0) then 1 else 0, a 38, a 39]) b) (fun r4 =>
 Option.bind (cond (!decide (r4.snd = 0)) (
 some (true)) (
 cond (!decide (r4.fst 0 = 0)) (
 some (true)) (
 cond (decide (c 0 < 0)) (
 some (true)) (
 some (decide (6 ≤ c 0)))))) (fun r5 =>
 cond (r5) (
 cond (decide (r4.snd = 0)) (
 Option.bind (f16) (fun r6 =>
 some (r6))) (
 cond (decide (r4.fst 0 = 0) && (decide (r4.fst 1 = 0) && decide (r4.fst 2 = 0))) (
 Option.bind (f16) (fun r6 =>
 some (r6))) (
 some (false)))) (
 cond (!decide (Int.ofNat b.fst.fst = IntKind.i64.wrap (Int.ofNat b.snd.fst + 1))) (
 some (false)) (
 Option.bind (l9_0 (nthI [0, a 0, a 1, a 2, a 3, a 4, a 5, a 6, a 7, a 8, a 9, a 10, a 11, a 12, a 13, a 14, a 15, a 16, a 17, a 18, a 19, a 20, a 21, a 22, a 23, a 24, a 25, a 26, a 27, a 28, a 29, a 30, a 31, a 32, a 33, a 34, a 35, bif !decide (a 36 = 0) then 1 else 0, bif !decide (a 37 = 0) then 1 else 0, a 38, a 39, c 0, c 1, c 2, c 3]) (nthS [b.fst, b.snd])) (fun r6 =>
 cond (decide (r6.fst = 0)) (
 Option.bind (f16) (fun r7 =>
 some (r7))) (
 some (!decide (r6.snd.fst 0 = 0))))))))))
theorem evg9 (f16 : Option (Bool)) (f23 : (Sl × Sl) → Option (Bool)) (f24 : (Nat → Int) → (Sl × Sl) → Option ((Nat → Int) × Int)) (l9_0 : (Nat → Int) → (Nat → Sl) → Option LR) (xx : (aCons (pC (cX kx26)) (aCons (pSS kx59 kx3) (aOne (pC (cA .i64 4))))).T) : evF (R := (rOne (cB)).T) (cx [] [(16, conF (aNil) (rOne (cB)) (fun a => f16)), (17, conF (aCons (pC (cX kx26)) (aCons (pC (cI .i64)) (aOne (pC (cA .i64 3))))) (rTup (cCons (cB) (cOne (cI .i64)))) (fun a => f17 (a.1) (a.2.1) (a.2.2))), (23, conF (aOne (pSS kx59 kx3)) (rOne (cB)) (fun a => f23 a)), (24, conF (aCons (pC (cX kx26)) (aOne (pSS kx59 kx3))) (rTup (cCons (cA .i64 3) (cOne (cI .i64)))) (fun a => f24 (a.1) (a.2)))] [(166009, ⟨T9_0, outs9_0, l9_0⟩)] true) 1000 Try.f9 ((aCons (pC (cX kx26)) (aCons (pSS kx59 kx3) (aOne (pC (cA .i64 4))))).enc gG xx) (glMem gl) 2 (rOne (cB)).dec =
 (fun (a : Nat → Int) (b : Sl × Sl) (c : Nat → Int) =>
 (( Option.bind (f23 b) (fun r3 =>
 cond (r3) (
 Option.bind (f16) (fun r4 =>
 some (r4))) (
 Option.bind (f24 (nthI [a 0, a 1, a 2, a 3, a 4, a 5, a 6, a 7, a 8, a 9, a 10, a 11, a 12, a 13, a 14, a 15, a 16, a 17, a 18, a 19, a 20, a 21, a 22, a 23, a 24, a 25, a 26, a 27, a 28, a 29, a 30, a 31, a 32, a 33, a 34, a 35, bif !decide (a 36 = 0) then 1 else 0, bif !decide (a 37 = 0) then 1 else 0, a 38, a 39]) b) (fun r4 =>
 Option.bind (cond (!decide (r4.snd = 0)) (
 some (true)) (
 cond (!decide (r4.fst 0 = 0)) (
 some (true)) (
 cond (decide (c 0 < 0)) (
 some (true)) (
 some (decide (6 ≤ c 0)))))) (fun r5 =>
 cond (r5) (
 cond (decide (r4.snd = 0)) (
 Option.bind (f16) (fun r6 =>
 some (r6))) (
 cond (decide (r4.fst 0 = 0) && (decide (r4.fst 1 = 0) && decide (r4.fst 2 = 0))) (
 Option.bind (f16) (fun r6 =>
 some (r6))) (
 some (false)))) (
 cond (!decide (Int.ofNat b.fst.fst = IntKind.i64.wrap (Int.ofNat b.snd.fst + 1))) (
 some (false)) (
 Option.bind (l9_0 (nthI [0, a 0, a 1, a 2, a 3, a 4, a 5, a 6, a 7, a 8, a 9, a 10, a 11, a 12, a 13, a 14, a 15, a 16, a 17, a 18, a 19, a 20, a 21, a 22, a 23, a 24, a 25, a 26, a 27, a 28, a 29, a 30, a 31, a 32, a 33, a 34, a 35, bif !decide (a 36 = 0) then 1 else 0, bif !decide (a 37 = 0) then 1 else 0, a 38, a 39, c 0, c 1, c 2, c 3]) (nthS [b.fst, b.snd])) (fun r6 =>
 cond (decide (r6.fst = 0)) (
 Option.bind (f16) (fun r7 =>
 some (r7))) (
 some (!decide (r6.snd.fst 0 = 0))))))))))) : Option (Bool))) xx.1 xx.2.1 xx.2.2 := by kernel_rfl
theorem ev9 (a : (aCons (pC (cX kx26)) (aCons (pSS kx59 kx3) (aOne (pC (cA .i64 4))))).T) : evF (R := (rOne (cB)).T) (cx [] [(16, conF (aNil) (rOne (cB)) (fun a => f16)), (17, conF (aCons (pC (cX kx26)) (aCons (pC (cI .i64)) (aOne (pC (cA .i64 3))))) (rTup (cCons (cB) (cOne (cI .i64)))) (fun a => f17 (a.1) (a.2.1) (a.2.2))), (23, conF (aOne (pSS kx59 kx3)) (rOne (cB)) (fun a => f23 a)), (24, conF (aCons (pC (cX kx26)) (aOne (pSS kx59 kx3))) (rTup (cCons (cA .i64 3) (cOne (cI .i64)))) (fun a => f24 (a.1) (a.2)))] [(166009, ⟨T9_0, outs9_0, l9_0⟩)] true) 1000 Try.f9 ((aCons (pC (cX kx26)) (aCons (pSS kx59 kx3) (aOne (pC (cA .i64 4))))).enc gG a) (glMem gl) 2 (rOne (cB)).dec = f9 a.1 a.2.1 a.2.2 := evg9 f16 f23 f24 l9_0 a
theorem sp9 : VE.Spec Try.prog gG gl 9 (conF (aCons (pC (cX kx26)) (aCons (pSS kx59 kx3) (aOne (pC (cA .i64 4))))) (rOne (cB)) (fun a => f9 a.1 a.2.1 a.2.2)) := spec_of ok9 Try.func9 Try.call9 la9 1000 (aCons_ok (pC_ok (cX_ok _)) (aCons_ok (pSS_ok _ _) (aOne_ok (pC_ok (cA_ok _ _))))) (rOne_ok (cB_ok)) ev9

/-- dancestudiolaw22.LimitsBefore -/
theorem ok10 : CtxOK Try.prog (cx [] [(16, conF (aNil) (rOne (cB)) (fun a => f16)), (23, conF (aOne (pSS kx59 kx3)) (rOne (cB)) (fun a => f23 a)), (24, conF (aCons (pC (cX kx26)) (aOne (pSS kx59 kx3))) (rTup (cCons (cA .i64 3) (cOne (cI .i64)))) (fun a => f24 (a.1) (a.2)))] []) gl := ctx_of tyOk moOk (show SpecL Try.prog gG gl [(16, conF (aNil) (rOne (cB)) (fun a => f16)), (23, conF (aOne (pSS kx59 kx3)) (rOne (cB)) (fun a => f23 a)), (24, conF (aCons (pC (cX kx26)) (aOne (pSS kx59 kx3))) (rTup (cCons (cA .i64 3) (cOne (cI .i64)))) (fun a => f24 (a.1) (a.2)))] from ⟨sp16, sp23, sp24, trivial⟩) (show FnL Try.prog [] from trivial) (fnLp_nil _) joinOk
noncomputable def f10 (a : Nat → Int) (b : Sl × Sl) : Option (Bool) :=
 Option.bind (f23 b) (fun r2 =>
 cond (r2) (
 Option.bind (f16) (fun r3 =>
 some (r3))) (
 Option.bind (f24 (nthI [a 0, a 1, a 2, a 3, a 4, a 5, a 6, a 7, a 8, a 9, a 10, a 11, a 12, a 13, a 14, a 15, a 16, a 17, a 18, a 19, a 20, a 21, a 22, a 23, a 24, a 25, a 26, a 27, a 28, a 29, a 30, a 31, a 32, a 33, a 34, a 35, bif !decide (a 36 = 0) then 1 else 0, bif !decide (a 37 = 0) then 1 else 0, a 38, a 39]) b) (fun r3 =>
 cond (!decide (r3.snd = 0)) (
 cond (decide (r3.fst 0 = 0) && (decide (r3.fst 1 = 0) && decide (r3.fst 2 = 0))) (
 Option.bind (f16) (fun r4 =>
 some (r4))) (
 some (false))) (
 cond (decide (r3.fst 0 = 0)) (
 cond (decide (r3.fst 0 = 0) && (decide (r3.fst 1 = 0) && decide (r3.fst 2 = 0))) (
 Option.bind (f16) (fun r4 =>
 some (r4))) (
 some (false))) (
 cond (!decide (r3.fst 0 = 25)) (
 cond (!decide (r3.fst 0 = 26)) (
 cond (!decide (r3.fst 0 = 28)) (
 some (false)) (
 cond (decide (r3.fst 2 < 0)) (
 some (false)) (
 cond (decide (6 < r3.fst 2)) (
 some (false)) (
 cond (decide (r3.fst 1 < 0)) (
 some (false)) (
 cond (decide (Int.ofNat b.fst.fst ≤ r3.fst 1)) (
 some (false)) (
 cond (decide (Int.ofNat b.snd.fst < r3.fst 1)) (
 some (false)) (
 cond (decide (r3.fst 1 < 2)) (
 Option.bind (f16) (fun r4 =>
 some (r4))) (
 cond (decide (0 ≤ r3.fst 1)) (
 cond (decide (r3.fst 1 ≤ Int.ofNat b.fst.fst)) (
 cond (decide (0 ≤ IntKind.i64.wrap (r3.fst 1 - 1))) (
 cond (decide (IntKind.i64.wrap (r3.fst 1 - 1) ≤ Int.ofNat b.snd.fst)) (
 Option.bind (f24 (nthI [a 0, a 1, a 2, a 3, a 4, a 5, a 6, a 7, a 8, a 9, a 10, a 11, a 12, a 13, a 14, a 15, a 16, a 17, a 18, a 19, a 20, a 21, a 22, a 23, a 24, a 25, a 26, a 27, a 28, a 29, a 30, a 31, a 32, a 33, a 34, a 35, bif !decide (a 36 = 0) then 1 else 0, bif !decide (a 37 = 0) then 1 else 0, a 38, a 39]) (((r3.fst 1).toNat, b.fst.snd), (IntKind.i64.wrap (r3.fst 1 - 1)).toNat, b.snd.snd)) (fun r4 =>
 cond (decide (r4.fst 0 = 0) && (decide (r4.fst 1 = 0) && decide (r4.fst 2 = 0))) (
 cond (decide (r4.snd = 0)) (
 Option.bind (f16) (fun r5 =>
 some (r5))) (
 some (false))) (
 some (false)))) none) none) none) none)))))))) (
 cond (decide (r3.fst 2 < 0)) (
 some (false)) (
 cond (decide (6 < r3.fst 2)) (
 some (false)) (
 cond (decide (r3.fst 1 < 0)) (
 some (false)) (
 cond (decide (Int.ofNat b.fst.fst ≤ r3.fst 1)) (
 some (false)) (
 cond (decide (Int.ofNat b.snd.fst < r3.fst 1)) (
 some (false)) (
 cond (decide (r3.fst 1 < 2)) (
 Option.bind (f16) (fun r4 =>
 some (r4))) (
 cond (decide (0 ≤ r3.fst 1)) (
 cond (decide (r3.fst 1 ≤ Int.ofNat b.fst.fst)) (
 cond (decide (0 ≤ IntKind.i64.wrap (r3.fst 1 - 1))) (
 cond (decide (IntKind.i64.wrap (r3.fst 1 - 1) ≤ Int.ofNat b.snd.fst)) (
 Option.bind (f24 (nthI [a 0, a 1, a 2, a 3, a 4, a 5, a 6, a 7, a 8, a 9, a 10, a 11, a 12, a 13, a 14, a 15, a 16, a 17, a 18, a 19, a 20, a 21, a 22, a 23, a 24, a 25, a 26, a 27, a 28, a 29, a 30, a 31, a 32, a 33, a 34, a 35, bif !decide (a 36 = 0) then 1 else 0, bif !decide (a 37 = 0) then 1 else 0, a 38, a 39]) (((r3.fst 1).toNat, b.fst.snd), (IntKind.i64.wrap (r3.fst 1 - 1)).toNat, b.snd.snd)) (fun r4 =>
 cond (decide (r4.fst 0 = 0) && (decide (r4.fst 1 = 0) && decide (r4.fst 2 = 0))) (
 cond (decide (r4.snd = 0)) (
 Option.bind (f16) (fun r5 =>
 some (r5))) (
 some (false))) (
 some (false)))) none) none) none) none)))))))) (
 cond (decide (r3.fst 2 < 0)) (
 some (false)) (
 cond (decide (6 < r3.fst 2)) (
 some (false)) (
 cond (decide (r3.fst 1 < 0)) (
 some (false)) (
 cond (decide (Int.ofNat b.fst.fst ≤ r3.fst 1)) (
 some (false)) (
 cond (decide (Int.ofNat b.snd.fst < r3.fst 1)) (
 some (false)) (
 cond (decide (r3.fst 1 < 2)) (
 Option.bind (f16) (fun r4 =>
 some (r4))) (
 cond (decide (0 ≤ r3.fst 1)) (
 cond (decide (r3.fst 1 ≤ Int.ofNat b.fst.fst)) (
 cond (decide (0 ≤ IntKind.i64.wrap (r3.fst 1 - 1))) (
 cond (decide (IntKind.i64.wrap (r3.fst 1 - 1) ≤ Int.ofNat b.snd.fst)) (
 Option.bind (f24 (nthI [a 0, a 1, a 2, a 3, a 4, a 5, a 6, a 7, a 8, a 9, a 10, a 11, a 12, a 13, a 14, a 15, a 16, a 17, a 18, a 19, a 20, a 21, a 22, a 23, a 24, a 25, a 26, a 27, a 28, a 29, a 30, a 31, a 32, a 33, a 34, a 35, bif !decide (a 36 = 0) then 1 else 0, bif !decide (a 37 = 0) then 1 else 0, a 38, a 39]) (((r3.fst 1).toNat, b.fst.snd), (IntKind.i64.wrap (r3.fst 1 - 1)).toNat, b.snd.snd)) (fun r4 =>
 cond (decide (r4.fst 0 = 0) && (decide (r4.fst 1 = 0) && decide (r4.fst 2 = 0))) (
 cond (decide (r4.snd = 0)) (
 Option.bind (f16) (fun r5 =>
 some (r5))) (
 some (false))) (
 some (false)))) none) none) none) none))))))))))))
theorem evg10 (f16 : Option (Bool)) (f23 : (Sl × Sl) → Option (Bool)) (f24 : (Nat → Int) → (Sl × Sl) → Option ((Nat → Int) × Int))  (xx : (aCons (pC (cX kx26)) (aOne (pSS kx59 kx3))).T) : evF (R := (rOne (cB)).T) (cx [] [(16, conF (aNil) (rOne (cB)) (fun a => f16)), (23, conF (aOne (pSS kx59 kx3)) (rOne (cB)) (fun a => f23 a)), (24, conF (aCons (pC (cX kx26)) (aOne (pSS kx59 kx3))) (rTup (cCons (cA .i64 3) (cOne (cI .i64)))) (fun a => f24 (a.1) (a.2)))] []) 1000 Try.f10 ((aCons (pC (cX kx26)) (aOne (pSS kx59 kx3))).enc gG xx) (glMem gl) 2 (rOne (cB)).dec =
 (fun (a : Nat → Int) (b : Sl × Sl) =>
 (( Option.bind (f23 b) (fun r2 =>
 cond (r2) (
 Option.bind (f16) (fun r3 =>
 some (r3))) (
 Option.bind (f24 (nthI [a 0, a 1, a 2, a 3, a 4, a 5, a 6, a 7, a 8, a 9, a 10, a 11, a 12, a 13, a 14, a 15, a 16, a 17, a 18, a 19, a 20, a 21, a 22, a 23, a 24, a 25, a 26, a 27, a 28, a 29, a 30, a 31, a 32, a 33, a 34, a 35, bif !decide (a 36 = 0) then 1 else 0, bif !decide (a 37 = 0) then 1 else 0, a 38, a 39]) b) (fun r3 =>
 cond (!decide (r3.snd = 0)) (
 cond (decide (r3.fst 0 = 0) && (decide (r3.fst 1 = 0) && decide (r3.fst 2 = 0))) (
 Option.bind (f16) (fun r4 =>
 some (r4))) (
 some (false))) (
 cond (decide (r3.fst 0 = 0)) (
 cond (decide (r3.fst 0 = 0) && (decide (r3.fst 1 = 0) && decide (r3.fst 2 = 0))) (
 Option.bind (f16) (fun r4 =>
 some (r4))) (
 some (false))) (
 cond (!decide (r3.fst 0 = 25)) (
 cond (!decide (r3.fst 0 = 26)) (
 cond (!decide (r3.fst 0 = 28)) (
 some (false)) (
 cond (decide (r3.fst 2 < 0)) (
 some (false)) (
 cond (decide (6 < r3.fst 2)) (
 some (false)) (
 cond (decide (r3.fst 1 < 0)) (
 some (false)) (
 cond (decide (Int.ofNat b.fst.fst ≤ r3.fst 1)) (
 some (false)) (
 cond (decide (Int.ofNat b.snd.fst < r3.fst 1)) (
 some (false)) (
 cond (decide (r3.fst 1 < 2)) (
 Option.bind (f16) (fun r4 =>
 some (r4))) (
 cond (decide (0 ≤ r3.fst 1)) (
 cond (decide (r3.fst 1 ≤ Int.ofNat b.fst.fst)) (
 cond (decide (0 ≤ IntKind.i64.wrap (r3.fst 1 - 1))) (
 cond (decide (IntKind.i64.wrap (r3.fst 1 - 1) ≤ Int.ofNat b.snd.fst)) (
 Option.bind (f24 (nthI [a 0, a 1, a 2, a 3, a 4, a 5, a 6, a 7, a 8, a 9, a 10, a 11, a 12, a 13, a 14, a 15, a 16, a 17, a 18, a 19, a 20, a 21, a 22, a 23, a 24, a 25, a 26, a 27, a 28, a 29, a 30, a 31, a 32, a 33, a 34, a 35, bif !decide (a 36 = 0) then 1 else 0, bif !decide (a 37 = 0) then 1 else 0, a 38, a 39]) (((r3.fst 1).toNat, b.fst.snd), (IntKind.i64.wrap (r3.fst 1 - 1)).toNat, b.snd.snd)) (fun r4 =>
 cond (decide (r4.fst 0 = 0) && (decide (r4.fst 1 = 0) && decide (r4.fst 2 = 0))) (
 cond (decide (r4.snd = 0)) (
 Option.bind (f16) (fun r5 =>
 some (r5))) (
 some (false))) (
 some (false)))) none) none) none) none)))))))) (
 cond (decide (r3.fst 2 < 0)) (
 some (false)) (
 cond (decide (6 < r3.fst 2)) (
 some (false)) (
 cond (decide (r3.fst 1 < 0)) (
 some (false)) (
 cond (decide (Int.ofNat b.fst.fst ≤ r3.fst 1)) (
 some (false)) (
 cond (decide (Int.ofNat b.snd.fst < r3.fst 1)) (
 some (false)) (
 cond (decide (r3.fst 1 < 2)) (
 Option.bind (f16) (fun r4 =>
 some (r4))) (
 cond (decide (0 ≤ r3.fst 1)) (
 cond (decide (r3.fst 1 ≤ Int.ofNat b.fst.fst)) (
 cond (decide (0 ≤ IntKind.i64.wrap (r3.fst 1 - 1))) (
 cond (decide (IntKind.i64.wrap (r3.fst 1 - 1) ≤ Int.ofNat b.snd.fst)) (
 Option.bind (f24 (nthI [a 0, a 1, a 2, a 3, a 4, a 5, a 6, a 7, a 8, a 9, a 10, a 11, a 12, a 13, a 14, a 15, a 16, a 17, a 18, a 19, a 20, a 21, a 22, a 23, a 24, a 25, a 26, a 27, a 28, a 29, a 30, a 31, a 32, a 33, a 34, a 35, bif !decide (a 36 = 0) then 1 else 0, bif !decide (a 37 = 0) then 1 else 0, a 38, a 39]) (((r3.fst 1).toNat, b.fst.snd), (IntKind.i64.wrap (r3.fst 1 - 1)).toNat, b.snd.snd)) (fun r4 =>
 cond (decide (r4.fst 0 = 0) && (decide (r4.fst 1 = 0) && decide (r4.fst 2 = 0))) (
 cond (decide (r4.snd = 0)) (
 Option.bind (f16) (fun r5 =>
 some (r5))) (
 some (false))) (
 some (false)))) none) none) none) none)))))))) (
 cond (decide (r3.fst 2 < 0)) (
 some (false)) (
 cond (decide (6 < r3.fst 2)) (
 some (false)) (
 cond (decide (r3.fst 1 < 0)) (
 some (false)) (
 cond (decide (Int.ofNat b.fst.fst ≤ r3.fst 1)) (
 some (false)) (
 cond (decide (Int.ofNat b.snd.fst < r3.fst 1)) (
 some (false)) (
 cond (decide (r3.fst 1 < 2)) (
 Option.bind (f16) (fun r4 =>
 some (r4))) (
 cond (decide (0 ≤ r3.fst 1)) (
 cond (decide (r3.fst 1 ≤ Int.ofNat b.fst.fst)) (
 cond (decide (0 ≤ IntKind.i64.wrap (r3.fst 1 - 1))) (
 cond (decide (IntKind.i64.wrap (r3.fst 1 - 1) ≤ Int.ofNat b.snd.fst)) (
 Option.bind (f24 (nthI [a 0, a 1, a 2, a 3, a 4, a 5, a 6, a 7, a 8, a 9, a 10, a 11, a 12, a 13, a 14, a 15, a 16, a 17, a 18, a 19, a 20, a 21, a 22, a 23, a 24, a 25, a 26, a 27, a 28, a 29, a 30, a 31, a 32, a 33, a 34, a 35, bif !decide (a 36 = 0) then 1 else 0, bif !decide (a 37 = 0) then 1 else 0, a 38, a 39]) (((r3.fst 1).toNat, b.fst.snd), (IntKind.i64.wrap (r3.fst 1 - 1)).toNat, b.snd.snd)) (fun r4 =>
 cond (decide (r4.fst 0 = 0) && (decide (r4.fst 1 = 0) && decide (r4.fst 2 = 0))) (
 cond (decide (r4.snd = 0)) (
 Option.bind (f16) (fun r5 =>
 some (r5))) (
 some (false))) (
 some (false)))) none) none) none) none))))))))))))) : Option (Bool))) xx.1 xx.2 := by kernel_rfl
theorem ev10 (a : (aCons (pC (cX kx26)) (aOne (pSS kx59 kx3))).T) : evF (R := (rOne (cB)).T) (cx [] [(16, conF (aNil) (rOne (cB)) (fun a => f16)), (23, conF (aOne (pSS kx59 kx3)) (rOne (cB)) (fun a => f23 a)), (24, conF (aCons (pC (cX kx26)) (aOne (pSS kx59 kx3))) (rTup (cCons (cA .i64 3) (cOne (cI .i64)))) (fun a => f24 (a.1) (a.2)))] []) 1000 Try.f10 ((aCons (pC (cX kx26)) (aOne (pSS kx59 kx3))).enc gG a) (glMem gl) 2 (rOne (cB)).dec = f10 a.1 a.2 := evg10 f16 f23 f24  a
theorem sp10 : VE.Spec Try.prog gG gl 10 (conF (aCons (pC (cX kx26)) (aOne (pSS kx59 kx3))) (rOne (cB)) (fun a => f10 a.1 a.2)) := spec_of ok10 Try.func10 Try.call10 (lpAll_nil rfl) 1000 (aCons_ok (pC_ok (cX_ok _)) (aOne_ok (pSS_ok _ _))) (rOne_ok (cB_ok)) ev10

/-- aim.Swap -/
theorem ok26 : CtxOK Try.prog (cx [] [] []) gl := ctx_of tyOk moOk (show SpecL Try.prog gG gl [] from trivial) (show FnL Try.prog [] from trivial) (fnLp_nil _) joinOk
noncomputable def f26 (a : Int) : Option (Int × Int) :=
 cond (decide (a = 0)) (
 some ((1, 0))) (
 cond (decide (a = 1)) (
 some ((0, 0))) (
 cond (decide (a = 3)) (
 some ((4, 0))) (
 cond (decide (a = 4)) (
 some ((3, 0))) (
 cond (decide (a = 2)) (
 cond (decide (a = 2)) (
 some ((a, 0))) (
 some ((0, 9)))) (
 cond (decide (a = 5)) (
 some ((a, 0))) (
 some ((0, 9))))))))
theorem evg26   (xx : (aOne (pC (cI .i64))).T) : evF (R := (rTup (cCons (cI .i64) (cOne (cI .i64)))).T) (cx [] [] []) 1000 Try.f26 ((aOne (pC (cI .i64))).enc gG xx) (glMem gl) 0 (rTup (cCons (cI .i64) (cOne (cI .i64)))).dec =
 (fun (a : Int) =>
 (( cond (decide (a = 0)) (
 some ((1, 0))) (
 cond (decide (a = 1)) (
 some ((0, 0))) (
 cond (decide (a = 3)) (
 some ((4, 0))) (
 cond (decide (a = 4)) (
 some ((3, 0))) (
 cond (decide (a = 2)) (
 cond (decide (a = 2)) (
 some ((a, 0))) (
 some ((0, 9)))) (
 cond (decide (a = 5)) (
 some ((a, 0))) (
 some ((0, 9))))))))) : Option (Int × Int))) xx := by kernel_rfl
theorem ev26 (a : (aOne (pC (cI .i64))).T) : evF (R := (rTup (cCons (cI .i64) (cOne (cI .i64)))).T) (cx [] [] []) 1000 Try.f26 ((aOne (pC (cI .i64))).enc gG a) (glMem gl) 0 (rTup (cCons (cI .i64) (cOne (cI .i64)))).dec = f26 a := evg26   a
theorem sp26 : VE.Spec Try.prog gG gl 26 (conF (aOne (pC (cI .i64))) (rTup (cCons (cI .i64) (cOne (cI .i64)))) (fun a => f26 a)) := spec_of ok26 Try.func26 Try.call26 (lpAll_nil rfl) 1000 (aOne_ok (pC_ok (cI_ok _))) (rTup_ok (cCons_ok (cI_ok _) (cOne_ok (cI_ok _)))) ev26

/-- aim.Mirror -/
theorem ok27 : CtxOK Try.prog (cx [] [(28, conF (aOne (pC (cI .i64))) (rOne (cI .i64)) (fun a => f28 a)), (33, conF (aCons (pC (cI .i64)) (aOne (pC (cA .i64 3)))) (rOne (cI .i64)) (fun a => f33 (a.1) (a.2)))] []) gl := ctx_of tyOk moOk (show SpecL Try.prog gG gl [(28, conF (aOne (pC (cI .i64))) (rOne (cI .i64)) (fun a => f28 a)), (33, conF (aCons (pC (cI .i64)) (aOne (pC (cA .i64 3)))) (rOne (cI .i64)) (fun a => f33 (a.1) (a.2)))] from ⟨sp28, sp33, trivial⟩) (show FnL Try.prog [] from trivial) (fnLp_nil _) joinOk
noncomputable def f27 (a : Int) (b : Nat → Int) : Option ((Nat → Int) × Int) :=
 Option.bind (f33 a b) (fun r2 =>
 cond (!decide (r2 = 0)) (
 some ((nthI [0, 0, 0], r2))) (
 Option.bind (f28 (b 0)) (fun r3 =>
 some ((nthI [r3, b 1, b 2], 0)))))
theorem evg27 (f28 : (Int) → Option (Int)) (f33 : (Int) → (Nat → Int) → Option (Int))  (xx : (aCons (pC (cI .i64)) (aOne (pC (cA .i64 3)))).T) : evF (R := (rTup (cCons (cA .i64 3) (cOne (cI .i64)))).T) (cx [] [(28, conF (aOne (pC (cI .i64))) (rOne (cI .i64)) (fun a => f28 a)), (33, conF (aCons (pC (cI .i64)) (aOne (pC (cA .i64 3)))) (rOne (cI .i64)) (fun a => f33 (a.1) (a.2)))] []) 1000 Try.f27 ((aCons (pC (cI .i64)) (aOne (pC (cA .i64 3)))).enc gG xx) (glMem gl) 0 (rTup (cCons (cA .i64 3) (cOne (cI .i64)))).dec =
 (fun (a : Int) (b : Nat → Int) =>
 (( Option.bind (f33 a (nthI [b 0, b 1, b 2])) (fun r2 =>
 cond (!decide (r2 = 0)) (
 some ((nthI [0, 0, 0], r2))) (
 Option.bind (f28 (b 0)) (fun r3 =>
 some ((nthI [r3, b 1, b 2], 0)))))) : Option ((Nat → Int) × Int))) xx.1 xx.2 := by kernel_rfl
noncomputable def g27 (a : Int) (b : Nat → Int) : Option ((Nat → Int) × Int) :=
 Option.bind (f33 a (nthI [b 0, b 1, b 2])) (fun r2 =>
 cond (!decide (r2 = 0)) (
 some ((nthI [0, 0, 0], r2))) (
 Option.bind (f28 (b 0)) (fun r3 =>
 some ((nthI [r3, b 1, b 2], 0)))))
theorem fg27 (a : Int) (b : Nat → Int) : g27 a b = f27 a b := by kernel_rfl
theorem ev27 (a : (aCons (pC (cI .i64)) (aOne (pC (cA .i64 3)))).T) : evF (R := (rTup (cCons (cA .i64 3) (cOne (cI .i64)))).T) (cx [] [(28, conF (aOne (pC (cI .i64))) (rOne (cI .i64)) (fun a => f28 a)), (33, conF (aCons (pC (cI .i64)) (aOne (pC (cA .i64 3)))) (rOne (cI .i64)) (fun a => f33 (a.1) (a.2)))] []) 1000 Try.f27 ((aCons (pC (cI .i64)) (aOne (pC (cA .i64 3)))).enc gG a) (glMem gl) 0 (rTup (cCons (cA .i64 3) (cOne (cI .i64)))).dec = f27 a.1 a.2 := (show evF (R := (rTup (cCons (cA .i64 3) (cOne (cI .i64)))).T) (cx [] [(28, conF (aOne (pC (cI .i64))) (rOne (cI .i64)) (fun a => f28 a)), (33, conF (aCons (pC (cI .i64)) (aOne (pC (cA .i64 3)))) (rOne (cI .i64)) (fun a => f33 (a.1) (a.2)))] []) 1000 Try.f27 ((aCons (pC (cI .i64)) (aOne (pC (cA .i64 3)))).enc gG a) (glMem gl) 0 (rTup (cCons (cA .i64 3) (cOne (cI .i64)))).dec = g27 a.1 a.2 from evg27 f28 f33  a).trans (fg27 a.1 a.2)
theorem sp27 : VE.Spec Try.prog gG gl 27 (conF (aCons (pC (cI .i64)) (aOne (pC (cA .i64 3)))) (rTup (cCons (cA .i64 3) (cOne (cI .i64)))) (fun a => f27 a.1 a.2)) := spec_of ok27 Try.func27 Try.call27 (lpAll_nil rfl) 1000 (aCons_ok (pC_ok (cI_ok _)) (aOne_ok (pC_ok (cA_ok _ _)))) (rTup_ok (cCons_ok (cA_ok _ _) (cOne_ok (cI_ok _)))) ev27
end Go.Proofs.Ytbiedpabdkbpfaa
