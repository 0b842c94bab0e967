import Derived.Test.YtbiedpabdkbpfaaFb
open Go Go.VE Go.Proofs
set_option maxRecDepth 1000000
set_option maxHeartbeats 0
set_option linter.unusedVariables false
namespace Go.Proofs.Ytbiedpabdkbpfaa


/-- dancestudiolaw22.LimitsMirror -/
theorem ok11 : CtxOK Try.prog (cx [] [(12, conF (aOne (pC (cX kx26))) (rTup (cCons (cX kx26) (cOne (cI .i64)))) (fun a => f12 a)), (14, conF (aOne (pC (cX kx26))) (rOne (cI .i64)) (fun a => f14 a)), (16, conF (aNil) (rOne (cB)) (fun a => f16)), (17, conF (aCons (pC (cX kx26)) (aCons (pC (cI .i64)) (aOne (pC (cA .i64 3))))) (rTup (cCons (cB) (cOne (cI .i64)))) (fun a => f17 (a.1) (a.2.1) (a.2.2))), (26, conF (aOne (pC (cI .i64))) (rTup (cCons (cI .i64) (cOne (cI .i64)))) (fun a => f26 a)), (27, conF (aCons (pC (cI .i64)) (aOne (pC (cA .i64 3)))) (rTup (cCons (cA .i64 3) (cOne (cI .i64)))) (fun a => f27 (a.1) (a.2)))] []) gl := ctx_of tyOk moOk (show SpecL Try.prog gG gl [(12, conF (aOne (pC (cX kx26))) (rTup (cCons (cX kx26) (cOne (cI .i64)))) (fun a => f12 a)), (14, conF (aOne (pC (cX kx26))) (rOne (cI .i64)) (fun a => f14 a)), (16, conF (aNil) (rOne (cB)) (fun a => f16)), (17, conF (aCons (pC (cX kx26)) (aCons (pC (cI .i64)) (aOne (pC (cA .i64 3))))) (rTup (cCons (cB) (cOne (cI .i64)))) (fun a => f17 (a.1) (a.2.1) (a.2.2))), (26, conF (aOne (pC (cI .i64))) (rTup (cCons (cI .i64) (cOne (cI .i64)))) (fun a => f26 a)), (27, conF (aCons (pC (cI .i64)) (aOne (pC (cA .i64 3)))) (rTup (cCons (cA .i64 3) (cOne (cI .i64)))) (fun a => f27 (a.1) (a.2)))] from ⟨sp12, sp14, sp16, sp17, sp26, sp27, trivial⟩) (show FnL Try.prog [] from trivial) (fnLp_nil _) joinOk
noncomputable def f11 (a : Nat → Int) (b : Int) (c : Nat → Int) : Option (Bool) :=
 Option.bind (f12 (nthI [a 0, a 1, a 2, a 3, a 4, a 5, a 6, a 7, a 8, a 9, a 10, a 11, a 12, a 13, a 14, a 15, a 16, a 17, a 18, a 19, a 20, a 21, a 22, a 23, a 24, a 25, a 26, a 27, a 28, a 29, a 30, a 31, a 32, a 33, a 34, a 35, bif !decide (a 36 = 0) then 1 else 0, bif !decide (a 37 = 0) then 1 else 0, a 38, a 39])) (fun r3 =>
 cond (!decide (r3.snd = 0)) (
 cond (decide (r3.fst 0 = 0) && (decide (r3.fst 1 = 0) && (decide (r3.fst 2 = 0) && (decide (r3.fst 3 = 0) && (decide (r3.fst 4 = 0) && decide (r3.fst 5 = 0))))) && (decide (r3.fst 6 = 0) && (decide (r3.fst 7 = 0) && (decide (r3.fst 8 = 0) && (decide (r3.fst 9 = 0) && (decide (r3.fst 10 = 0) && decide (r3.fst 11 = 0))))) && (decide (r3.fst 12 = 0) && (decide (r3.fst 13 = 0) && (decide (r3.fst 14 = 0) && (decide (r3.fst 15 = 0) && (decide (r3.fst 16 = 0) && decide (r3.fst 17 = 0))))) && (decide (r3.fst 18 = 0) && (decide (r3.fst 19 = 0) && (decide (r3.fst 20 = 0) && (decide (r3.fst 21 = 0) && (decide (r3.fst 22 = 0) && decide (r3.fst 23 = 0))))) && (decide (r3.fst 24 = 0) && (decide (r3.fst 25 = 0) && (decide (r3.fst 26 = 0) && (decide (r3.fst 27 = 0) && (decide (r3.fst 28 = 0) && decide (r3.fst 29 = 0))))) && (decide (r3.fst 30 = 0) && (decide (r3.fst 31 = 0) && (decide (r3.fst 32 = 0) && (decide (r3.fst 33 = 0) && (decide (r3.fst 34 = 0) && decide (r3.fst 35 = 0)))))))))) && ((!decide (r3.fst 36 = 0)) == false && ((!decide (r3.fst 37 = 0)) == false && (decide (r3.fst 38 = 0) && decide (r3.fst 39 = 0))))) (
 Option.bind (f14 (nthI [a 0, a 1, a 2, a 3, a 4, a 5, a 6, a 7, a 8, a 9, a 10, a 11, a 12, a 13, a 14, a 15, a 16, a 17, a 18, a 19, a 20, a 21, a 22, a 23, a 24, a 25, a 26, a 27, a 28, a 29, a 30, a 31, a 32, a 33, a 34, a 35, bif !decide (a 36 = 0) then 1 else 0, bif !decide (a 37 = 0) then 1 else 0, a 38, a 39])) (fun r4 =>
 cond (decide (r3.snd = r4)) (
 Option.bind (f16) (fun r5 =>
 some (r5))) (
 some (false)))) (
 some (false))) (
 Option.bind (f12 (nthI [r3.fst 0, r3.fst 1, r3.fst 2, r3.fst 3, r3.fst 4, r3.fst 5, r3.fst 6, r3.fst 7, r3.fst 8, r3.fst 9, r3.fst 10, r3.fst 11, r3.fst 12, r3.fst 13, r3.fst 14, r3.fst 15, r3.fst 16, r3.fst 17, r3.fst 18, r3.fst 19, r3.fst 20, r3.fst 21, r3.fst 22, r3.fst 23, r3.fst 24, r3.fst 25, r3.fst 26, r3.fst 27, r3.fst 28, r3.fst 29, r3.fst 30, r3.fst 31, r3.fst 32, r3.fst 33, r3.fst 34, r3.fst 35, bif !decide (r3.fst 36 = 0) then 1 else 0, bif !decide (r3.fst 37 = 0) then 1 else 0, r3.fst 38, r3.fst 39])) (fun r4 =>
 cond (!(decide (r4.fst 0 = a 0) && (decide (r4.fst 1 = a 1) && (decide (r4.fst 2 = a 2) && (decide (r4.fst 3 = a 3) && (decide (r4.fst 4 = a 4) && decide (r4.fst 5 = a 5))))) && (decide (r4.fst 6 = a 6) && (decide (r4.fst 7 = a 7) && (decide (r4.fst 8 = a 8) && (decide (r4.fst 9 = a 9) && (decide (r4.fst 10 = a 10) && decide (r4.fst 11 = a 11))))) && (decide (r4.fst 12 = a 12) && (decide (r4.fst 13 = a 13) && (decide (r4.fst 14 = a 14) && (decide (r4.fst 15 = a 15) && (decide (r4.fst 16 = a 16) && decide (r4.fst 17 = a 17))))) && (decide (r4.fst 18 = a 18) && (decide (r4.fst 19 = a 19) && (decide (r4.fst 20 = a 20) && (decide (r4.fst 21 = a 21) && (decide (r4.fst 22 = a 22) && decide (r4.fst 23 = a 23))))) && (decide (r4.fst 24 = a 24) && (decide (r4.fst 25 = a 25) && (decide (r4.fst 26 = a 26) && (decide (r4.fst 27 = a 27) && (decide (r4.fst 28 = a 28) && decide (r4.fst 29 = a 29))))) && (decide (r4.fst 30 = a 30) && (decide (r4.fst 31 = a 31) && (decide (r4.fst 32 = a 32) && (decide (r4.fst 33 = a 33) && (decide (r4.fst 34 = a 34) && decide (r4.fst 35 = a 35)))))))))) && ((!decide (r4.fst 36 = 0)) == !decide (a 36 = 0) && ((!decide (r4.fst 37 = 0)) == !decide (a 37 = 0) && (decide (r4.fst 38 = a 38) && decide (r4.fst 39 = a 39)))))) (
 some (false)) (
 cond (!decide (r4.snd = 0)) (
 some (false)) (
 Option.bind (f14 (nthI [r3.fst 0, r3.fst 1, r3.fst 2, r3.fst 3, r3.fst 4, r3.fst 5, r3.fst 6, r3.fst 7, r3.fst 8, r3.fst 9, r3.fst 10, r3.fst 11, r3.fst 12, r3.fst 13, r3.fst 14, r3.fst 15, r3.fst 16, r3.fst 17, r3.fst 18, r3.fst 19, r3.fst 20, r3.fst 21, r3.fst 22, r3.fst 23, r3.fst 24, r3.fst 25, r3.fst 26, r3.fst 27, r3.fst 28, r3.fst 29, r3.fst 30, r3.fst 31, r3.fst 32, r3.fst 33, r3.fst 34, r3.fst 35, bif !decide (r3.fst 36 = 0) then 1 else 0, bif !decide (r3.fst 37 = 0) then 1 else 0, r3.fst 38, r3.fst 39])) (fun r5 =>
 cond (!decide (r5 = 0)) (
 some (false)) (
 Option.bind (f17 (nthI [a 0, a 1, a 2, a 3, a 4, a 5, a 6, a 7, a 8, a 9, a 10, a 11, a 12, a 13, a 14, a 15, a 16, a 17, a 18, a 19, a 20, a 21, a 22, a 23, a 24, a 25, a 26, a 27, a 28, a 29, a 30, a 31, a 32, a 33, a 34, a 35, bif !decide (a 36 = 0) then 1 else 0, bif !decide (a 37 = 0) then 1 else 0, a 38, a 39]) b c) (fun r6 =>
 cond (!decide (r6.snd = 0)) (
 cond (!r6.fst) (
 Option.bind (f16) (fun r7 =>
 some (r7))) (
 some (false))) (
 Option.bind (f26 b) (fun r7 =>
 Option.bind (f27 b c) (fun r8 =>
 cond (!decide (r7.snd = 0)) (
 some (false)) (
 cond (!decide (r8.snd = 0)) (
 some (false)) (
 Option.bind (f17 (nthI [r3.fst 0, r3.fst 1, r3.fst 2, r3.fst 3, r3.fst 4, r3.fst 5, r3.fst 6, r3.fst 7, r3.fst 8, r3.fst 9, r3.fst 10, r3.fst 11, r3.fst 12, r3.fst 13, r3.fst 14, r3.fst 15, r3.fst 16, r3.fst 17, r3.fst 18, r3.fst 19, r3.fst 20, r3.fst 21, r3.fst 22, r3.fst 23, r3.fst 24, r3.fst 25, r3.fst 26, r3.fst 27, r3.fst 28, r3.fst 29, r3.fst 30, r3.fst 31, r3.fst 32, r3.fst 33, r3.fst 34, r3.fst 35, bif !decide (r3.fst 36 = 0) then 1 else 0, bif !decide (r3.fst 37 = 0) then 1 else 0, r3.fst 38, r3.fst 39]) r7.fst r8.fst) (fun r9 =>
 cond (decide (r9.snd = 0)) (
 cond (r6.fst == r9.fst) (
 Option.bind (f16) (fun r10 =>
 some (r10))) (
 some (false))) (
 some (false))))))))))))))))
theorem evg11 (f12 : (Nat → Int) → Option ((Nat → Int) × Int)) (f14 : (Nat → Int) → Option (Int)) (f16 : Option (Bool)) (f17 : (Nat → Int) → (Int) → (Nat → Int) → Option (Bool × Int)) (f26 : (Int) → Option (Int × Int)) (f27 : (Int) → (Nat → Int) → Option ((Nat → Int) × Int))  (xx : (aCons (pC (cX kx26)) (aCons (pC (cI .i64)) (aOne (pC (cA .i64 3))))).T) : evF (R := (rOne (cB)).T) (cx [] [(12, conF (aOne (pC (cX kx26))) (rTup (cCons (cX kx26) (cOne (cI .i64)))) (fun a => f12 a)), (14, conF (aOne (pC (cX kx26))) (rOne (cI .i64)) (fun a => f14 a)), (16, conF (aNil) (rOne (cB)) (fun a => f16)), (17, conF (aCons (pC (cX kx26)) (aCons (pC (cI .i64)) (aOne (pC (cA .i64 3))))) (rTup (cCons (cB) (cOne (cI .i64)))) (fun a => f17 (a.1) (a.2.1) (a.2.2))), (26, conF (aOne (pC (cI .i64))) (rTup (cCons (cI .i64) (cOne (cI .i64)))) (fun a => f26 a)), (27, conF (aCons (pC (cI .i64)) (aOne (pC (cA .i64 3)))) (rTup (cCons (cA .i64 3) (cOne (cI .i64)))) (fun a => f27 (a.1) (a.2)))] []) 1000 Try.f11 ((aCons (pC (cX kx26)) (aCons (pC (cI .i64)) (aOne (pC (cA .i64 3))))).enc gG xx) (glMem gl) 0 (rOne (cB)).dec =
 (fun (a : Nat → Int) (b : Int) (c : Nat → Int) =>
 (( Option.bind (f12 (nthI [a 0, a 1, a 2, a 3, a 4, a 5, a 6, a 7, a 8, a 9, a 10, a 11, a 12, a 13, a 14, a 15, a 16, a 17, a 18, a 19, a 20, a 21, a 22, a 23, a 24, a 25, a 26, a 27, a 28, a 29, a 30, a 31, a 32, a 33, a 34, a 35, bif !decide (a 36 = 0) then 1 else 0, bif !decide (a 37 = 0) then 1 else 0, a 38, a 39])) (fun r3 =>
 cond (!decide (r3.snd = 0)) (
 cond (decide (r3.fst 0 = 0) && (decide (r3.fst 1 = 0) && (decide (r3.fst 2 = 0) && (decide (r3.fst 3 = 0) && (decide (r3.fst 4 = 0) && decide (r3.fst 5 = 0))))) && (decide (r3.fst 6 = 0) && (decide (r3.fst 7 = 0) && (decide (r3.fst 8 = 0) && (decide (r3.fst 9 = 0) && (decide (r3.fst 10 = 0) && decide (r3.fst 11 = 0))))) && (decide (r3.fst 12 = 0) && (decide (r3.fst 13 = 0) && (decide (r3.fst 14 = 0) && (decide (r3.fst 15 = 0) && (decide (r3.fst 16 = 0) && decide (r3.fst 17 = 0))))) && (decide (r3.fst 18 = 0) && (decide (r3.fst 19 = 0) && (decide (r3.fst 20 = 0) && (decide (r3.fst 21 = 0) && (decide (r3.fst 22 = 0) && decide (r3.fst 23 = 0))))) && (decide (r3.fst 24 = 0) && (decide (r3.fst 25 = 0) && (decide (r3.fst 26 = 0) && (decide (r3.fst 27 = 0) && (decide (r3.fst 28 = 0) && decide (r3.fst 29 = 0))))) && (decide (r3.fst 30 = 0) && (decide (r3.fst 31 = 0) && (decide (r3.fst 32 = 0) && (decide (r3.fst 33 = 0) && (decide (r3.fst 34 = 0) && decide (r3.fst 35 = 0)))))))))) && ((!decide (r3.fst 36 = 0)) == false && ((!decide (r3.fst 37 = 0)) == false && (decide (r3.fst 38 = 0) && decide (r3.fst 39 = 0))))) (
 Option.bind (f14 (nthI [a 0, a 1, a 2, a 3, a 4, a 5, a 6, a 7, a 8, a 9, a 10, a 11, a 12, a 13, a 14, a 15, a 16, a 17, a 18, a 19, a 20, a 21, a 22, a 23, a 24, a 25, a 26, a 27, a 28, a 29, a 30, a 31, a 32, a 33, a 34, a 35, bif !decide (a 36 = 0) then 1 else 0, bif !decide (a 37 = 0) then 1 else 0, a 38, a 39])) (fun r4 =>
 cond (decide (r3.snd = r4)) (
 Option.bind (f16) (fun r5 =>
 some (r5))) (
 some (false)))) (
 some (false))) (
 Option.bind (f12 (nthI [r3.fst 0, r3.fst 1, r3.fst 2, r3.fst 3, r3.fst 4, r3.fst 5, r3.fst 6, r3.fst 7, r3.fst 8, r3.fst 9, r3.fst 10, r3.fst 11, r3.fst 12, r3.fst 13, r3.fst 14, r3.fst 15, r3.fst 16, r3.fst 17, r3.fst 18, r3.fst 19, r3.fst 20, r3.fst 21, r3.fst 22, r3.fst 23, r3.fst 24, r3.fst 25, r3.fst 26, r3.fst 27, r3.fst 28, r3.fst 29, r3.fst 30, r3.fst 31, r3.fst 32, r3.fst 33, r3.fst 34, r3.fst 35, bif !decide (r3.fst 36 = 0) then 1 else 0, bif !decide (r3.fst 37 = 0) then 1 else 0, r3.fst 38, r3.fst 39])) (fun r4 =>
 cond (!(decide (r4.fst 0 = a 0) && (decide (r4.fst 1 = a 1) && (decide (r4.fst 2 = a 2) && (decide (r4.fst 3 = a 3) && (decide (r4.fst 4 = a 4) && decide (r4.fst 5 = a 5))))) && (decide (r4.fst 6 = a 6) && (decide (r4.fst 7 = a 7) && (decide (r4.fst 8 = a 8) && (decide (r4.fst 9 = a 9) && (decide (r4.fst 10 = a 10) && decide (r4.fst 11 = a 11))))) && (decide (r4.fst 12 = a 12) && (decide (r4.fst 13 = a 13) && (decide (r4.fst 14 = a 14) && (decide (r4.fst 15 = a 15) && (decide (r4.fst 16 = a 16) && decide (r4.fst 17 = a 17))))) && (decide (r4.fst 18 = a 18) && (decide (r4.fst 19 = a 19) && (decide (r4.fst 20 = a 20) && (decide (r4.fst 21 = a 21) && (decide (r4.fst 22 = a 22) && decide (r4.fst 23 = a 23))))) && (decide (r4.fst 24 = a 24) && (decide (r4.fst 25 = a 25) && (decide (r4.fst 26 = a 26) && (decide (r4.fst 27 = a 27) && (decide (r4.fst 28 = a 28) && decide (r4.fst 29 = a 29))))) && (decide (r4.fst 30 = a 30) && (decide (r4.fst 31 = a 31) && (decide (r4.fst 32 = a 32) && (decide (r4.fst 33 = a 33) && (decide (r4.fst 34 = a 34) && decide (r4.fst 35 = a 35)))))))))) && ((!decide (r4.fst 36 = 0)) == !decide (a 36 = 0) && ((!decide (r4.fst 37 = 0)) == !decide (a 37 = 0) && (decide (r4.fst 38 = a 38) && decide (r4.fst 39 = a 39)))))) (
 some (false)) (
 cond (!decide (r4.snd = 0)) (
 some (false)) (
 Option.bind (f14 (nthI [r3.fst 0, r3.fst 1, r3.fst 2, r3.fst 3, r3.fst 4, r3.fst 5, r3.fst 6, r3.fst 7, r3.fst 8, r3.fst 9, r3.fst 10, r3.fst 11, r3.fst 12, r3.fst 13, r3.fst 14, r3.fst 15, r3.fst 16, r3.fst 17, r3.fst 18, r3.fst 19, r3.fst 20, r3.fst 21, r3.fst 22, r3.fst 23, r3.fst 24, r3.fst 25, r3.fst 26, r3.fst 27, r3.fst 28, r3.fst 29, r3.fst 30, r3.fst 31, r3.fst 32, r3.fst 33, r3.fst 34, r3.fst 35, bif !decide (r3.fst 36 = 0) then 1 else 0, bif !decide (r3.fst 37 = 0) then 1 else 0, r3.fst 38, r3.fst 39])) (fun r5 =>
 cond (!decide (r5 = 0)) (
 some (false)) (
 Option.bind (f17 (nthI [a 0, a 1, a 2, a 3, a 4, a 5, a 6, a 7, a 8, a 9, a 10, a 11, a 12, a 13, a 14, a 15, a 16, a 17, a 18, a 19, a 20, a 21, a 22, a 23, a 24, a 25, a 26, a 27, a 28, a 29, a 30, a 31, a 32, a 33, a 34, a 35, bif !decide (a 36 = 0) then 1 else 0, bif !decide (a 37 = 0) then 1 else 0, a 38, a 39]) b (nthI [c 0, c 1, c 2])) (fun r6 =>
 cond (!decide (r6.snd = 0)) (
 cond (!r6.fst) (
 Option.bind (f16) (fun r7 =>
 some (r7))) (
 some (false))) (
 Option.bind (f26 b) (fun r7 =>
 Option.bind (f27 b (nthI [c 0, c 1, c 2])) (fun r8 =>
 cond (!decide (r7.snd = 0)) (
 some (false)) (
 cond (!decide (r8.snd = 0)) (
 some (false)) (
 Option.bind (f17 (nthI [r3.fst 0, r3.fst 1, r3.fst 2, r3.fst 3, r3.fst 4, r3.fst 5, r3.fst 6, r3.fst 7, r3.fst 8, r3.fst 9, r3.fst 10, r3.fst 11, r3.fst 12, r3.fst 13, r3.fst 14, r3.fst 15, r3.fst 16, r3.fst 17, r3.fst 18, r3.fst 19, r3.fst 20, r3.fst 21, r3.fst 22, r3.fst 23, r3.fst 24, r3.fst 25, r3.fst 26, r3.fst 27, r3.fst 28, r3.fst 29, r3.fst 30, r3.fst 31, r3.fst 32, r3.fst 33, r3.fst 34, r3.fst 35, bif !decide (r3.fst 36 = 0) then 1 else 0, bif !decide (r3.fst 37 = 0) then 1 else 0, r3.fst 38, r3.fst 39]) r7.fst (nthI [r8.fst 0, r8.fst 1, r8.fst 2])) (fun r9 =>
 cond (decide (r9.snd = 0)) (
 cond (r6.fst == r9.fst) (
 Option.bind (f16) (fun r10 =>
 some (r10))) (
 some (false))) (
 some (false))))))))))))))))) : Option (Bool))) xx.1 xx.2.1 xx.2.2 := by kernel_rfl
noncomputable def g11 (a : Nat → Int) (b : Int) (c : Nat → Int) : Option (Bool) :=
 Option.bind (f12 (nthI [a 0, a 1, a 2, a 3, a 4, a 5, a 6, a 7, a 8, a 9, a 10, a 11, a 12, a 13, a 14, a 15, a 16, a 17, a 18, a 19, a 20, a 21, a 22, a 23, a 24, a 25, a 26, a 27, a 28, a 29, a 30, a 31, a 32, a 33, a 34, a 35, bif !decide (a 36 = 0) then 1 else 0, bif !decide (a 37 = 0) then 1 else 0, a 38, a 39])) (fun r3 =>
 cond (!decide (r3.snd = 0)) (
 cond (decide (r3.fst 0 = 0) && (decide (r3.fst 1 = 0) && (decide (r3.fst 2 = 0) && (decide (r3.fst 3 = 0) && (decide (r3.fst 4 = 0) && decide (r3.fst 5 = 0))))) && (decide (r3.fst 6 = 0) && (decide (r3.fst 7 = 0) && (decide (r3.fst 8 = 0) && (decide (r3.fst 9 = 0) && (decide (r3.fst 10 = 0) && decide (r3.fst 11 = 0))))) && (decide (r3.fst 12 = 0) && (decide (r3.fst 13 = 0) && (decide (r3.fst 14 = 0) && (decide (r3.fst 15 = 0) && (decide (r3.fst 16 = 0) && decide (r3.fst 17 = 0))))) && (decide (r3.fst 18 = 0) && (decide (r3.fst 19 = 0) && (decide (r3.fst 20 = 0) && (decide (r3.fst 21 = 0) && (decide (r3.fst 22 = 0) && decide (r3.fst 23 = 0))))) && (decide (r3.fst 24 = 0) && (decide (r3.fst 25 = 0) && (decide (r3.fst 26 = 0) && (decide (r3.fst 27 = 0) && (decide (r3.fst 28 = 0) && decide (r3.fst 29 = 0))))) && (decide (r3.fst 30 = 0) && (decide (r3.fst 31 = 0) && (decide (r3.fst 32 = 0) && (decide (r3.fst 33 = 0) && (decide (r3.fst 34 = 0) && decide (r3.fst 35 = 0)))))))))) && ((!decide (r3.fst 36 = 0)) == false && ((!decide (r3.fst 37 = 0)) == false && (decide (r3.fst 38 = 0) && decide (r3.fst 39 = 0))))) (
 Option.bind (f14 (nthI [a 0, a 1, a 2, a 3, a 4, a 5, a 6, a 7, a 8, a 9, a 10, a 11, a 12, a 13, a 14, a 15, a 16, a 17, a 18, a 19, a 20, a 21, a 22, a 23, a 24, a 25, a 26, a 27, a 28, a 29, a 30, a 31, a 32, a 33, a 34, a 35, bif !decide (a 36 = 0) then 1 else 0, bif !decide (a 37 = 0) then 1 else 0, a 38, a 39])) (fun r4 =>
 cond (decide (r3.snd = r4)) (
 Option.bind (f16) (fun r5 =>
 some (r5))) (
 some (false)))) (
 some (false))) (
 Option.bind (f12 (nthI [r3.fst 0, r3.fst 1, r3.fst 2, r3.fst 3, r3.fst 4, r3.fst 5, r3.fst 6, r3.fst 7, r3.fst 8, r3.fst 9, r3.fst 10, r3.fst 11, r3.fst 12, r3.fst 13, r3.fst 14, r3.fst 15, r3.fst 16, r3.fst 17, r3.fst 18, r3.fst 19, r3.fst 20, r3.fst 21, r3.fst 22, r3.fst 23, r3.fst 24, r3.fst 25, r3.fst 26, r3.fst 27, r3.fst 28, r3.fst 29, r3.fst 30, r3.fst 31, r3.fst 32, r3.fst 33, r3.fst 34, r3.fst 35, bif !decide (r3.fst 36 = 0) then 1 else 0, bif !decide (r3.fst 37 = 0) then 1 else 0, r3.fst 38, r3.fst 39])) (fun r4 =>
 cond (!(decide (r4.fst 0 = a 0) && (decide (r4.fst 1 = a 1) && (decide (r4.fst 2 = a 2) && (decide (r4.fst 3 = a 3) && (decide (r4.fst 4 = a 4) && decide (r4.fst 5 = a 5))))) && (decide (r4.fst 6 = a 6) && (decide (r4.fst 7 = a 7) && (decide (r4.fst 8 = a 8) && (decide (r4.fst 9 = a 9) && (decide (r4.fst 10 = a 10) && decide (r4.fst 11 = a 11))))) && (decide (r4.fst 12 = a 12) && (decide (r4.fst 13 = a 13) && (decide (r4.fst 14 = a 14) && (decide (r4.fst 15 = a 15) && (decide (r4.fst 16 = a 16) && decide (r4.fst 17 = a 17))))) && (decide (r4.fst 18 = a 18) && (decide (r4.fst 19 = a 19) && (decide (r4.fst 20 = a 20) && (decide (r4.fst 21 = a 21) && (decide (r4.fst 22 = a 22) && decide (r4.fst 23 = a 23))))) && (decide (r4.fst 24 = a 24) && (decide (r4.fst 25 = a 25) && (decide (r4.fst 26 = a 26) && (decide (r4.fst 27 = a 27) && (decide (r4.fst 28 = a 28) && decide (r4.fst 29 = a 29))))) && (decide (r4.fst 30 = a 30) && (decide (r4.fst 31 = a 31) && (decide (r4.fst 32 = a 32) && (decide (r4.fst 33 = a 33) && (decide (r4.fst 34 = a 34) && decide (r4.fst 35 = a 35)))))))))) && ((!decide (r4.fst 36 = 0)) == !decide (a 36 = 0) && ((!decide (r4.fst 37 = 0)) == !decide (a 37 = 0) && (decide (r4.fst 38 = a 38) && decide (r4.fst 39 = a 39)))))) (
 some (false)) (
 cond (!decide (r4.snd = 0)) (
 some (false)) (
 Option.bind (f14 (nthI [r3.fst 0, r3.fst 1, r3.fst 2, r3.fst 3, r3.fst 4, r3.fst 5, r3.fst 6, r3.fst 7, r3.fst 8, r3.fst 9, r3.fst 10, r3.fst 11, r3.fst 12, r3.fst 13, r3.fst 14, r3.fst 15, r3.fst 16, r3.fst 17, r3.fst 18, r3.fst 19, r3.fst 20, r3.fst 21, r3.fst 22, r3.fst 23, r3.fst 24, r3.fst 25, r3.fst 26, r3.fst 27, r3.fst 28, r3.fst 29, r3.fst 30, r3.fst 31, r3.fst 32, r3.fst 33, r3.fst 34, r3.fst 35, bif !decide (r3.fst 36 = 0) then 1 else 0, bif !decide (r3.fst 37 = 0) then 1 else 0, r3.fst 38, r3.fst 39])) (fun r5 =>
 cond (!decide (r5 = 0)) (
 some (false)) (
 Option.bind (f17 (nthI [a 0, a 1, a 2, a 3, a 4, a 5, a 6, a 7, a 8, a 9, a 10, a 11, a 12, a 13, a 14, a 15, a 16, a 17, a 18, a 19, a 20, a 21, a 22, a 23, a 24, a 25, a 26, a 27, a 28, a 29, a 30, a 31, a 32, a 33, a 34, a 35, bif !decide (a 36 = 0) then 1 else 0, bif !decide (a 37 = 0) then 1 else 0, a 38, a 39]) b (nthI [c 0, c 1, c 2])) (fun r6 =>
 cond (!decide (r6.snd = 0)) (
 cond (!r6.fst) (
 Option.bind (f16) (fun r7 =>
 some (r7))) (
 some (false))) (
 Option.bind (f26 b) (fun r7 =>
 Option.bind (f27 b (nthI [c 0, c 1, c 2])) (fun r8 =>
 cond (!decide (r7.snd = 0)) (
 some (false)) (
 cond (!decide (r8.snd = 0)) (
 some (false)) (
 Option.bind (f17 (nthI [r3.fst 0, r3.fst 1, r3.fst 2, r3.fst 3, r3.fst 4, r3.fst 5, r3.fst 6, r3.fst 7, r3.fst 8, r3.fst 9, r3.fst 10, r3.fst 11, r3.fst 12, r3.fst 13, r3.fst 14, r3.fst 15, r3.fst 16, r3.fst 17, r3.fst 18, r3.fst 19, r3.fst 20, r3.fst 21, r3.fst 22, r3.fst 23, r3.fst 24, r3.fst 25, r3.fst 26, r3.fst 27, r3.fst 28, r3.fst 29, r3.fst 30, r3.fst 31, r3.fst 32, r3.fst 33, r3.fst 34, r3.fst 35, bif !decide (r3.fst 36 = 0) then 1 else 0, bif !decide (r3.fst 37 = 0) then 1 else 0, r3.fst 38, r3.fst 39]) r7.fst (nthI [r8.fst 0, r8.fst 1, r8.fst 2])) (fun r9 =>
 cond (decide (r9.snd = 0)) (
 cond (r6.fst == r9.fst) (
 Option.bind (f16) (fun r10 =>
 some (r10))) (
 some (false))) (
 some (false))))))))))))))))
theorem fg11 (a : Nat → Int) (b : Int) (c : Nat → Int) : g11 a b c = f11 a b c := by kernel_rfl
theorem ev11 (a : (aCons (pC (cX kx26)) (aCons (pC (cI .i64)) (aOne (pC (cA .i64 3))))).T) : evF (R := (rOne (cB)).T) (cx [] [(12, conF (aOne (pC (cX kx26))) (rTup (cCons (cX kx26) (cOne (cI .i64)))) (fun a => f12 a)), (14, conF (aOne (pC (cX kx26))) (rOne (cI .i64)) (fun a => f14 a)), (16, conF (aNil) (rOne (cB)) (fun a => f16)), (17, conF (aCons (pC (cX kx26)) (aCons (pC (cI .i64)) (aOne (pC (cA .i64 3))))) (rTup (cCons (cB) (cOne (cI .i64)))) (fun a => f17 (a.1) (a.2.1) (a.2.2))), (26, conF (aOne (pC (cI .i64))) (rTup (cCons (cI .i64) (cOne (cI .i64)))) (fun a => f26 a)), (27, conF (aCons (pC (cI .i64)) (aOne (pC (cA .i64 3)))) (rTup (cCons (cA .i64 3) (cOne (cI .i64)))) (fun a => f27 (a.1) (a.2)))] []) 1000 Try.f11 ((aCons (pC (cX kx26)) (aCons (pC (cI .i64)) (aOne (pC (cA .i64 3))))).enc gG a) (glMem gl) 0 (rOne (cB)).dec = f11 a.1 a.2.1 a.2.2 := (show evF (R := (rOne (cB)).T) (cx [] [(12, conF (aOne (pC (cX kx26))) (rTup (cCons (cX kx26) (cOne (cI .i64)))) (fun a => f12 a)), (14, conF (aOne (pC (cX kx26))) (rOne (cI .i64)) (fun a => f14 a)), (16, conF (aNil) (rOne (cB)) (fun a => f16)), (17, conF (aCons (pC (cX kx26)) (aCons (pC (cI .i64)) (aOne (pC (cA .i64 3))))) (rTup (cCons (cB) (cOne (cI .i64)))) (fun a => f17 (a.1) (a.2.1) (a.2.2))), (26, conF (aOne (pC (cI .i64))) (rTup (cCons (cI .i64) (cOne (cI .i64)))) (fun a => f26 a)), (27, conF (aCons (pC (cI .i64)) (aOne (pC (cA .i64 3)))) (rTup (cCons (cA .i64 3) (cOne (cI .i64)))) (fun a => f27 (a.1) (a.2)))] []) 1000 Try.f11 ((aCons (pC (cX kx26)) (aCons (pC (cI .i64)) (aOne (pC (cA .i64 3))))).enc gG a) (glMem gl) 0 (rOne (cB)).dec = g11 a.1 a.2.1 a.2.2 from evg11 f12 f14 f16 f17 f26 f27  a).trans (fg11 a.1 a.2.1 a.2.2)
theorem sp11 : VE.Spec Try.prog gG gl 11 (conF (aCons (pC (cX kx26)) (aCons (pC (cI .i64)) (aOne (pC (cA .i64 3))))) (rOne (cB)) (fun a => f11 a.1 a.2.1 a.2.2)) := spec_of ok11 Try.func11 Try.call11 (lpAll_nil rfl) 1000 (aCons_ok (pC_ok (cX_ok _)) (aCons_ok (pC_ok (cI_ok _)) (aOne_ok (pC_ok (cA_ok _ _))))) (rOne_ok (cB_ok)) ev11

end Go.Proofs.Ytbiedpabdkbpfaa
