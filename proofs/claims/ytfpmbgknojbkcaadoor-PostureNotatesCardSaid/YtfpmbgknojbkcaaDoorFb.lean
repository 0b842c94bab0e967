import Derived.Test.YtfpmbgknojbkcaaDoorF
open Go Go.VE Go.Proofs
set_option maxRecDepth 1000000
set_option maxHeartbeats 0
set_option linter.unusedVariables false
namespace Go.Proofs.YtfpmbgknojbkcaaDoor


/-- dancestudiolaw19.PostureBack -/
noncomputable def f6 (a : Nat → Int) (b : Int) : Option (Bool) :=
 Option.bind (f11 a) (fun r2 =>
 cond (!decide (r2.snd = 0)) (
 cond (decide (r2.fst 0 = 0) && decide (r2.fst 1 = 0) && (decide (r2.fst 2 = 0) && (decide (r2.fst 3 = 0) && (decide (r2.fst 4 = 0) && (decide (r2.fst 5 = 0) && decide (r2.fst 6 = 0)) && (decide (r2.fst 7 = 0) && (decide (r2.fst 8 = 0) && decide (r2.fst 9 = 0)) && (decide (r2.fst 10 = 0) && (decide (r2.fst 11 = 0) && decide (r2.fst 12 = 0)) && (decide (r2.fst 13 = 0) && (decide (r2.fst 14 = 0) && decide (r2.fst 15 = 0)) && (decide (r2.fst 16 = 0) && (decide (r2.fst 17 = 0) && decide (r2.fst 18 = 0)) && (decide (r2.fst 19 = 0) && (decide (r2.fst 20 = 0) && decide (r2.fst 21 = 0))))))))))) (
 Option.bind (f13 a) (fun r3 =>
 cond (decide (r2.snd = r3)) (
 some (true)) (
 some (false)))) (
 some (false))) (
 Option.bind (f13 a) (fun r3 =>
 cond (!decide (r3 = 0)) (
 some (false)) (
 Option.bind (f18 r2.fst) (fun r4 =>
 cond (!decide (r4 = 0)) (
 some (false)) (
 Option.bind (f16 r2.fst (a 4)) (fun r5 =>
 cond (!(decide (r5.fst 0 = a 0) && decide (r5.fst 1 = a 1) && (decide (r5.fst 2 = a 2) && (decide (r5.fst 3 = a 3) && (decide (r5.fst 4 = a 4) && (decide (r5.fst 5 = a 5) && (decide (r5.fst 6 = a 6) && decide (r5.fst 7 = a 7)) && (decide (r5.fst 8 = a 8) && (decide (r5.fst 9 = a 9) && decide (r5.fst 10 = a 10)) && (decide (r5.fst 11 = a 11) && (decide (r5.fst 12 = a 12) && decide (r5.fst 13 = a 13)) && (decide (r5.fst 14 = a 14) && (decide (r5.fst 15 = a 15) && decide (r5.fst 16 = a 16)) && (decide (r5.fst 17 = a 17) && (decide (r5.fst 18 = a 18) && decide (r5.fst 19 = a 19)) && (decide (r5.fst 20 = a 20) && (decide (r5.fst 21 = a 21) && decide (r5.fst 22 = a 22))))))))))))) (
 some (false)) (
 cond (!decide (r5.snd = 0)) (
 some (false)) (
 Option.bind (f24 a) (fun r6 =>
 Option.bind (f20 a b) (fun r7 =>
 cond (!decide (r6.snd = 0)) (
 some (false)) (
 cond (!decide (r7.snd = 0)) (
 some (false)) (
 Option.bind (f13 r6.fst) (fun r8 =>
 cond (!decide (r8 = 0)) (
 some (false)) (
 Option.bind (f13 r7.fst) (fun r9 =>
 cond (!decide (r9 = 0)) (
 some (false)) (
 Option.bind (f24 r6.fst) (fun r10 =>
 Option.bind (f20 r7.fst (IntKind.i64.wrap (0 - b.tmod 4))) (fun r11 =>
 cond (decide (r10.fst 0 = a 0) && decide (r10.fst 1 = a 1) && (decide (r10.fst 2 = a 2) && (decide (r10.fst 3 = a 3) && (decide (r10.fst 4 = a 4) && (decide (r10.fst 5 = a 5) && (decide (r10.fst 6 = a 6) && decide (r10.fst 7 = a 7)) && (decide (r10.fst 8 = a 8) && (decide (r10.fst 9 = a 9) && decide (r10.fst 10 = a 10)) && (decide (r10.fst 11 = a 11) && (decide (r10.fst 12 = a 12) && decide (r10.fst 13 = a 13)) && (decide (r10.fst 14 = a 14) && (decide (r10.fst 15 = a 15) && decide (r10.fst 16 = a 16)) && (decide (r10.fst 17 = a 17) && (decide (r10.fst 18 = a 18) && decide (r10.fst 19 = a 19)) && (decide (r10.fst 20 = a 20) && (decide (r10.fst 21 = a 21) && decide (r10.fst 22 = a 22)))))))))))) (
 cond (decide (r10.snd = 0)) (
 cond (decide (r11.fst 0 = a 0) && decide (r11.fst 1 = a 1) && (decide (r11.fst 2 = a 2) && (decide (r11.fst 3 = a 3) && (decide (r11.fst 4 = a 4) && (decide (r11.fst 5 = a 5) && (decide (r11.fst 6 = a 6) && decide (r11.fst 7 = a 7)) && (decide (r11.fst 8 = a 8) && (decide (r11.fst 9 = a 9) && decide (r11.fst 10 = a 10)) && (decide (r11.fst 11 = a 11) && (decide (r11.fst 12 = a 12) && decide (r11.fst 13 = a 13)) && (decide (r11.fst 14 = a 14) && (decide (r11.fst 15 = a 15) && decide (r11.fst 16 = a 16)) && (decide (r11.fst 17 = a 17) && (decide (r11.fst 18 = a 18) && decide (r11.fst 19 = a 19)) && (decide (r11.fst 20 = a 20) && (decide (r11.fst 21 = a 21) && decide (r11.fst 22 = a 22)))))))))))) (
 cond (decide (r11.snd = 0)) (
 some (true)) (
 some (false))) (
 some (false))) (
 some (false))) (
 some (false)))))))))))))))))))))
theorem evg6 (f11 : (Nat → Int) → Option ((Nat → Int) × Int)) (f13 : (Nat → Int) → Option (Int)) (f16 : (Nat → Int) → (Int) → Option ((Nat → Int) × Int)) (f18 : (Nat → Int) → Option (Int)) (f20 : (Nat → Int) → (Int) → Option ((Nat → Int) × Int)) (f24 : (Nat → Int) → Option ((Nat → Int) × Int)) (xx : (cCons (cA .i64 23) (cOne (cI .i64))).T) : evF (R := (rOne (cB)).T) (cx [(11, conF (cOne (cA .i64 23)) (rTup (cCons (cA .i64 22) (cOne (cI .i64)))) (fun a => f11 a)), (13, conF (cOne (cA .i64 23)) (rOne (cI .i64)) (fun a => f13 a)), (15, conF (cNil) (rOne (cB)) (fun a => f15)), (16, conF (cCons (cA .i64 22) (cOne (cI .i64))) (rTup (cCons (cA .i64 23) (cOne (cI .i64)))) (fun a => f16 a.1 a.2)), (18, conF (cOne (cA .i64 22)) (rOne (cI .i64)) (fun a => f18 a)), (20, conF (cCons (cA .i64 23) (cOne (cI .i64))) (rTup (cCons (cA .i64 23) (cOne (cI .i64)))) (fun a => f20 a.1 a.2)), (24, conF (cOne (cA .i64 23)) (rTup (cCons (cA .i64 23) (cOne (cI .i64)))) (fun a => f24 a))]) 1000 Tryd.f6 ((cCons (cA .i64 23) (cOne (cI .i64))).enc xx) (glMem gl) gG (rOne (cB)).dec =
 (fun (a : Nat → Int) (b : Int) =>
 (( Option.bind (f11 (nthI [a 0, a 1, a 2, a 3, a 4, a 5, a 6, a 7, a 8, a 9, a 10, a 11, a 12, a 13, a 14, a 15, a 16, a 17, a 18, a 19, a 20, a 21, a 22])) (fun r2 =>
 cond (!decide (r2.snd = 0)) (
 cond (decide (r2.fst 0 = 0) && decide (r2.fst 1 = 0) && (decide (r2.fst 2 = 0) && (decide (r2.fst 3 = 0) && (decide (r2.fst 4 = 0) && (decide (r2.fst 5 = 0) && decide (r2.fst 6 = 0)) && (decide (r2.fst 7 = 0) && (decide (r2.fst 8 = 0) && decide (r2.fst 9 = 0)) && (decide (r2.fst 10 = 0) && (decide (r2.fst 11 = 0) && decide (r2.fst 12 = 0)) && (decide (r2.fst 13 = 0) && (decide (r2.fst 14 = 0) && decide (r2.fst 15 = 0)) && (decide (r2.fst 16 = 0) && (decide (r2.fst 17 = 0) && decide (r2.fst 18 = 0)) && (decide (r2.fst 19 = 0) && (decide (r2.fst 20 = 0) && decide (r2.fst 21 = 0))))))))))) (
 Option.bind (f13 (nthI [a 0, a 1, a 2, a 3, a 4, a 5, a 6, a 7, a 8, a 9, a 10, a 11, a 12, a 13, a 14, a 15, a 16, a 17, a 18, a 19, a 20, a 21, a 22])) (fun r3 =>
 cond (decide (r2.snd = r3)) (
 some (true)) (
 some (false)))) (
 some (false))) (
 Option.bind (f13 (nthI [a 0, a 1, a 2, a 3, a 4, a 5, a 6, a 7, a 8, a 9, a 10, a 11, a 12, a 13, a 14, a 15, a 16, a 17, a 18, a 19, a 20, a 21, a 22])) (fun r3 =>
 cond (!decide (r3 = 0)) (
 some (false)) (
 Option.bind (f18 (nthI [r2.fst 0, r2.fst 1, r2.fst 2, r2.fst 3, r2.fst 4, r2.fst 5, r2.fst 6, r2.fst 7, r2.fst 8, r2.fst 9, r2.fst 10, r2.fst 11, r2.fst 12, r2.fst 13, r2.fst 14, r2.fst 15, r2.fst 16, r2.fst 17, r2.fst 18, r2.fst 19, r2.fst 20, r2.fst 21])) (fun r4 =>
 cond (!decide (r4 = 0)) (
 some (false)) (
 Option.bind (f16 (nthI [r2.fst 0, r2.fst 1, r2.fst 2, r2.fst 3, r2.fst 4, r2.fst 5, r2.fst 6, r2.fst 7, r2.fst 8, r2.fst 9, r2.fst 10, r2.fst 11, r2.fst 12, r2.fst 13, r2.fst 14, r2.fst 15, r2.fst 16, r2.fst 17, r2.fst 18, r2.fst 19, r2.fst 20, r2.fst 21]) (a 4)) (fun r5 =>
 cond (!(decide (r5.fst 0 = a 0) && decide (r5.fst 1 = a 1) && (decide (r5.fst 2 = a 2) && (decide (r5.fst 3 = a 3) && (decide (r5.fst 4 = a 4) && (decide (r5.fst 5 = a 5) && (decide (r5.fst 6 = a 6) && decide (r5.fst 7 = a 7)) && (decide (r5.fst 8 = a 8) && (decide (r5.fst 9 = a 9) && decide (r5.fst 10 = a 10)) && (decide (r5.fst 11 = a 11) && (decide (r5.fst 12 = a 12) && decide (r5.fst 13 = a 13)) && (decide (r5.fst 14 = a 14) && (decide (r5.fst 15 = a 15) && decide (r5.fst 16 = a 16)) && (decide (r5.fst 17 = a 17) && (decide (r5.fst 18 = a 18) && decide (r5.fst 19 = a 19)) && (decide (r5.fst 20 = a 20) && (decide (r5.fst 21 = a 21) && decide (r5.fst 22 = a 22))))))))))))) (
 some (false)) (
 cond (!decide (r5.snd = 0)) (
 some (false)) (
 Option.bind (f24 (nthI [a 0, a 1, a 2, a 3, a 4, a 5, a 6, a 7, a 8, a 9, a 10, a 11, a 12, a 13, a 14, a 15, a 16, a 17, a 18, a 19, a 20, a 21, a 22])) (fun r6 =>
 Option.bind (f20 (nthI [a 0, a 1, a 2, a 3, a 4, a 5, a 6, a 7, a 8, a 9, a 10, a 11, a 12, a 13, a 14, a 15, a 16, a 17, a 18, a 19, a 20, a 21, a 22]) b) (fun r7 =>
 cond (!decide (r6.snd = 0)) (
 some (false)) (
 cond (!decide (r7.snd = 0)) (
 some (false)) (
 Option.bind (f13 (nthI [r6.fst 0, r6.fst 1, r6.fst 2, r6.fst 3, r6.fst 4, r6.fst 5, r6.fst 6, r6.fst 7, r6.fst 8, r6.fst 9, r6.fst 10, r6.fst 11, r6.fst 12, r6.fst 13, r6.fst 14, r6.fst 15, r6.fst 16, r6.fst 17, r6.fst 18, r6.fst 19, r6.fst 20, r6.fst 21, r6.fst 22])) (fun r8 =>
 cond (!decide (r8 = 0)) (
 some (false)) (
 Option.bind (f13 (nthI [r7.fst 0, r7.fst 1, r7.fst 2, r7.fst 3, r7.fst 4, r7.fst 5, r7.fst 6, r7.fst 7, r7.fst 8, r7.fst 9, r7.fst 10, r7.fst 11, r7.fst 12, r7.fst 13, r7.fst 14, r7.fst 15, r7.fst 16, r7.fst 17, r7.fst 18, r7.fst 19, r7.fst 20, r7.fst 21, r7.fst 22])) (fun r9 =>
 cond (!decide (r9 = 0)) (
 some (false)) (
 Option.bind (f24 (nthI [r6.fst 0, r6.fst 1, r6.fst 2, r6.fst 3, r6.fst 4, r6.fst 5, r6.fst 6, r6.fst 7, r6.fst 8, r6.fst 9, r6.fst 10, r6.fst 11, r6.fst 12, r6.fst 13, r6.fst 14, r6.fst 15, r6.fst 16, r6.fst 17, r6.fst 18, r6.fst 19, r6.fst 20, r6.fst 21, r6.fst 22])) (fun r10 =>
 Option.bind (f20 (nthI [r7.fst 0, r7.fst 1, r7.fst 2, r7.fst 3, r7.fst 4, r7.fst 5, r7.fst 6, r7.fst 7, r7.fst 8, r7.fst 9, r7.fst 10, r7.fst 11, r7.fst 12, r7.fst 13, r7.fst 14, r7.fst 15, r7.fst 16, r7.fst 17, r7.fst 18, r7.fst 19, r7.fst 20, r7.fst 21, r7.fst 22]) (IntKind.i64.wrap (0 - b.tmod 4))) (fun r11 =>
 cond (decide (r10.fst 0 = a 0) && decide (r10.fst 1 = a 1) && (decide (r10.fst 2 = a 2) && (decide (r10.fst 3 = a 3) && (decide (r10.fst 4 = a 4) && (decide (r10.fst 5 = a 5) && (decide (r10.fst 6 = a 6) && decide (r10.fst 7 = a 7)) && (decide (r10.fst 8 = a 8) && (decide (r10.fst 9 = a 9) && decide (r10.fst 10 = a 10)) && (decide (r10.fst 11 = a 11) && (decide (r10.fst 12 = a 12) && decide (r10.fst 13 = a 13)) && (decide (r10.fst 14 = a 14) && (decide (r10.fst 15 = a 15) && decide (r10.fst 16 = a 16)) && (decide (r10.fst 17 = a 17) && (decide (r10.fst 18 = a 18) && decide (r10.fst 19 = a 19)) && (decide (r10.fst 20 = a 20) && (decide (r10.fst 21 = a 21) && decide (r10.fst 22 = a 22)))))))))))) (
 cond (decide (r10.snd = 0)) (
 cond (decide (r11.fst 0 = a 0) && decide (r11.fst 1 = a 1) && (decide (r11.fst 2 = a 2) && (decide (r11.fst 3 = a 3) && (decide (r11.fst 4 = a 4) && (decide (r11.fst 5 = a 5) && (decide (r11.fst 6 = a 6) && decide (r11.fst 7 = a 7)) && (decide (r11.fst 8 = a 8) && (decide (r11.fst 9 = a 9) && decide (r11.fst 10 = a 10)) && (decide (r11.fst 11 = a 11) && (decide (r11.fst 12 = a 12) && decide (r11.fst 13 = a 13)) && (decide (r11.fst 14 = a 14) && (decide (r11.fst 15 = a 15) && decide (r11.fst 16 = a 16)) && (decide (r11.fst 17 = a 17) && (decide (r11.fst 18 = a 18) && decide (r11.fst 19 = a 19)) && (decide (r11.fst 20 = a 20) && (decide (r11.fst 21 = a 21) && decide (r11.fst 22 = a 22)))))))))))) (
 cond (decide (r11.snd = 0)) (
 some (true)) (
 some (false))) (
 some (false))) (
 some (false))) (
 some (false)))))))))))))))))))))) : Option (Bool))) xx.1 xx.2 := by kernel_rfl
theorem ok6 : CtxOK Tryd.prog (cx [(11, conF (cOne (cA .i64 23)) (rTup (cCons (cA .i64 22) (cOne (cI .i64)))) (fun a => f11 a)), (13, conF (cOne (cA .i64 23)) (rOne (cI .i64)) (fun a => f13 a)), (15, conF (cNil) (rOne (cB)) (fun a => f15)), (16, conF (cCons (cA .i64 22) (cOne (cI .i64))) (rTup (cCons (cA .i64 23) (cOne (cI .i64)))) (fun a => f16 a.1 a.2)), (18, conF (cOne (cA .i64 22)) (rOne (cI .i64)) (fun a => f18 a)), (20, conF (cCons (cA .i64 23) (cOne (cI .i64))) (rTup (cCons (cA .i64 23) (cOne (cI .i64)))) (fun a => f20 a.1 a.2)), (24, conF (cOne (cA .i64 23)) (rTup (cCons (cA .i64 23) (cOne (cI .i64)))) (fun a => f24 a))]) gl := ctx_of tyOk moOk (show SpecL Tryd.prog gG gl [(11, conF (cOne (cA .i64 23)) (rTup (cCons (cA .i64 22) (cOne (cI .i64)))) (fun a => f11 a)), (13, conF (cOne (cA .i64 23)) (rOne (cI .i64)) (fun a => f13 a)), (15, conF (cNil) (rOne (cB)) (fun a => f15)), (16, conF (cCons (cA .i64 22) (cOne (cI .i64))) (rTup (cCons (cA .i64 23) (cOne (cI .i64)))) (fun a => f16 a.1 a.2)), (18, conF (cOne (cA .i64 22)) (rOne (cI .i64)) (fun a => f18 a)), (20, conF (cCons (cA .i64 23) (cOne (cI .i64))) (rTup (cCons (cA .i64 23) (cOne (cI .i64)))) (fun a => f20 a.1 a.2)), (24, conF (cOne (cA .i64 23)) (rTup (cCons (cA .i64 23) (cOne (cI .i64)))) (fun a => f24 a))] from ⟨sp11, sp13, sp15, sp16, sp18, sp20, sp24, trivial⟩) fnOk joinOk
noncomputable def g6 (a : Nat → Int) (b : Int) : Option (Bool) :=
 Option.bind (f11 (nthI [a 0, a 1, a 2, a 3, a 4, a 5, a 6, a 7, a 8, a 9, a 10, a 11, a 12, a 13, a 14, a 15, a 16, a 17, a 18, a 19, a 20, a 21, a 22])) (fun r2 =>
 cond (!decide (r2.snd = 0)) (
 cond (decide (r2.fst 0 = 0) && decide (r2.fst 1 = 0) && (decide (r2.fst 2 = 0) && (decide (r2.fst 3 = 0) && (decide (r2.fst 4 = 0) && (decide (r2.fst 5 = 0) && decide (r2.fst 6 = 0)) && (decide (r2.fst 7 = 0) && (decide (r2.fst 8 = 0) && decide (r2.fst 9 = 0)) && (decide (r2.fst 10 = 0) && (decide (r2.fst 11 = 0) && decide (r2.fst 12 = 0)) && (decide (r2.fst 13 = 0) && (decide (r2.fst 14 = 0) && decide (r2.fst 15 = 0)) && (decide (r2.fst 16 = 0) && (decide (r2.fst 17 = 0) && decide (r2.fst 18 = 0)) && (decide (r2.fst 19 = 0) && (decide (r2.fst 20 = 0) && decide (r2.fst 21 = 0))))))))))) (
 Option.bind (f13 (nthI [a 0, a 1, a 2, a 3, a 4, a 5, a 6, a 7, a 8, a 9, a 10, a 11, a 12, a 13, a 14, a 15, a 16, a 17, a 18, a 19, a 20, a 21, a 22])) (fun r3 =>
 cond (decide (r2.snd = r3)) (
 some (true)) (
 some (false)))) (
 some (false))) (
 Option.bind (f13 (nthI [a 0, a 1, a 2, a 3, a 4, a 5, a 6, a 7, a 8, a 9, a 10, a 11, a 12, a 13, a 14, a 15, a 16, a 17, a 18, a 19, a 20, a 21, a 22])) (fun r3 =>
 cond (!decide (r3 = 0)) (
 some (false)) (
 Option.bind (f18 (nthI [r2.fst 0, r2.fst 1, r2.fst 2, r2.fst 3, r2.fst 4, r2.fst 5, r2.fst 6, r2.fst 7, r2.fst 8, r2.fst 9, r2.fst 10, r2.fst 11, r2.fst 12, r2.fst 13, r2.fst 14, r2.fst 15, r2.fst 16, r2.fst 17, r2.fst 18, r2.fst 19, r2.fst 20, r2.fst 21])) (fun r4 =>
 cond (!decide (r4 = 0)) (
 some (false)) (
 Option.bind (f16 (nthI [r2.fst 0, r2.fst 1, r2.fst 2, r2.fst 3, r2.fst 4, r2.fst 5, r2.fst 6, r2.fst 7, r2.fst 8, r2.fst 9, r2.fst 10, r2.fst 11, r2.fst 12, r2.fst 13, r2.fst 14, r2.fst 15, r2.fst 16, r2.fst 17, r2.fst 18, r2.fst 19, r2.fst 20, r2.fst 21]) (a 4)) (fun r5 =>
 cond (!(decide (r5.fst 0 = a 0) && decide (r5.fst 1 = a 1) && (decide (r5.fst 2 = a 2) && (decide (r5.fst 3 = a 3) && (decide (r5.fst 4 = a 4) && (decide (r5.fst 5 = a 5) && (decide (r5.fst 6 = a 6) && decide (r5.fst 7 = a 7)) && (decide (r5.fst 8 = a 8) && (decide (r5.fst 9 = a 9) && decide (r5.fst 10 = a 10)) && (decide (r5.fst 11 = a 11) && (decide (r5.fst 12 = a 12) && decide (r5.fst 13 = a 13)) && (decide (r5.fst 14 = a 14) && (decide (r5.fst 15 = a 15) && decide (r5.fst 16 = a 16)) && (decide (r5.fst 17 = a 17) && (decide (r5.fst 18 = a 18) && decide (r5.fst 19 = a 19)) && (decide (r5.fst 20 = a 20) && (decide (r5.fst 21 = a 21) && decide (r5.fst 22 = a 22))))))))))))) (
 some (false)) (
 cond (!decide (r5.snd = 0)) (
 some (false)) (
 Option.bind (f24 (nthI [a 0, a 1, a 2, a 3, a 4, a 5, a 6, a 7, a 8, a 9, a 10, a 11, a 12, a 13, a 14, a 15, a 16, a 17, a 18, a 19, a 20, a 21, a 22])) (fun r6 =>
 Option.bind (f20 (nthI [a 0, a 1, a 2, a 3, a 4, a 5, a 6, a 7, a 8, a 9, a 10, a 11, a 12, a 13, a 14, a 15, a 16, a 17, a 18, a 19, a 20, a 21, a 22]) b) (fun r7 =>
 cond (!decide (r6.snd = 0)) (
 some (false)) (
 cond (!decide (r7.snd = 0)) (
 some (false)) (
 Option.bind (f13 (nthI [r6.fst 0, r6.fst 1, r6.fst 2, r6.fst 3, r6.fst 4, r6.fst 5, r6.fst 6, r6.fst 7, r6.fst 8, r6.fst 9, r6.fst 10, r6.fst 11, r6.fst 12, r6.fst 13, r6.fst 14, r6.fst 15, r6.fst 16, r6.fst 17, r6.fst 18, r6.fst 19, r6.fst 20, r6.fst 21, r6.fst 22])) (fun r8 =>
 cond (!decide (r8 = 0)) (
 some (false)) (
 Option.bind (f13 (nthI [r7.fst 0, r7.fst 1, r7.fst 2, r7.fst 3, r7.fst 4, r7.fst 5, r7.fst 6, r7.fst 7, r7.fst 8, r7.fst 9, r7.fst 10, r7.fst 11, r7.fst 12, r7.fst 13, r7.fst 14, r7.fst 15, r7.fst 16, r7.fst 17, r7.fst 18, r7.fst 19, r7.fst 20, r7.fst 21, r7.fst 22])) (fun r9 =>
 cond (!decide (r9 = 0)) (
 some (false)) (
 Option.bind (f24 (nthI [r6.fst 0, r6.fst 1, r6.fst 2, r6.fst 3, r6.fst 4, r6.fst 5, r6.fst 6, r6.fst 7, r6.fst 8, r6.fst 9, r6.fst 10, r6.fst 11, r6.fst 12, r6.fst 13, r6.fst 14, r6.fst 15, r6.fst 16, r6.fst 17, r6.fst 18, r6.fst 19, r6.fst 20, r6.fst 21, r6.fst 22])) (fun r10 =>
 Option.bind (f20 (nthI [r7.fst 0, r7.fst 1, r7.fst 2, r7.fst 3, r7.fst 4, r7.fst 5, r7.fst 6, r7.fst 7, r7.fst 8, r7.fst 9, r7.fst 10, r7.fst 11, r7.fst 12, r7.fst 13, r7.fst 14, r7.fst 15, r7.fst 16, r7.fst 17, r7.fst 18, r7.fst 19, r7.fst 20, r7.fst 21, r7.fst 22]) (IntKind.i64.wrap (0 - b.tmod 4))) (fun r11 =>
 cond (decide (r10.fst 0 = a 0) && decide (r10.fst 1 = a 1) && (decide (r10.fst 2 = a 2) && (decide (r10.fst 3 = a 3) && (decide (r10.fst 4 = a 4) && (decide (r10.fst 5 = a 5) && (decide (r10.fst 6 = a 6) && decide (r10.fst 7 = a 7)) && (decide (r10.fst 8 = a 8) && (decide (r10.fst 9 = a 9) && decide (r10.fst 10 = a 10)) && (decide (r10.fst 11 = a 11) && (decide (r10.fst 12 = a 12) && decide (r10.fst 13 = a 13)) && (decide (r10.fst 14 = a 14) && (decide (r10.fst 15 = a 15) && decide (r10.fst 16 = a 16)) && (decide (r10.fst 17 = a 17) && (decide (r10.fst 18 = a 18) && decide (r10.fst 19 = a 19)) && (decide (r10.fst 20 = a 20) && (decide (r10.fst 21 = a 21) && decide (r10.fst 22 = a 22)))))))))))) (
 cond (decide (r10.snd = 0)) (
 cond (decide (r11.fst 0 = a 0) && decide (r11.fst 1 = a 1) && (decide (r11.fst 2 = a 2) && (decide (r11.fst 3 = a 3) && (decide (r11.fst 4 = a 4) && (decide (r11.fst 5 = a 5) && (decide (r11.fst 6 = a 6) && decide (r11.fst 7 = a 7)) && (decide (r11.fst 8 = a 8) && (decide (r11.fst 9 = a 9) && decide (r11.fst 10 = a 10)) && (decide (r11.fst 11 = a 11) && (decide (r11.fst 12 = a 12) && decide (r11.fst 13 = a 13)) && (decide (r11.fst 14 = a 14) && (decide (r11.fst 15 = a 15) && decide (r11.fst 16 = a 16)) && (decide (r11.fst 17 = a 17) && (decide (r11.fst 18 = a 18) && decide (r11.fst 19 = a 19)) && (decide (r11.fst 20 = a 20) && (decide (r11.fst 21 = a 21) && decide (r11.fst 22 = a 22)))))))))))) (
 cond (decide (r11.snd = 0)) (
 some (true)) (
 some (false))) (
 some (false))) (
 some (false))) (
 some (false)))))))))))))))))))))
theorem fg6 (a : Nat → Int) (b : Int) : g6 a b = f6 a b := by kernel_rfl
theorem ev6 (a : (cCons (cA .i64 23) (cOne (cI .i64))).T) : evF (R := (rOne (cB)).T) (cx [(11, conF (cOne (cA .i64 23)) (rTup (cCons (cA .i64 22) (cOne (cI .i64)))) (fun a => f11 a)), (13, conF (cOne (cA .i64 23)) (rOne (cI .i64)) (fun a => f13 a)), (15, conF (cNil) (rOne (cB)) (fun a => f15)), (16, conF (cCons (cA .i64 22) (cOne (cI .i64))) (rTup (cCons (cA .i64 23) (cOne (cI .i64)))) (fun a => f16 a.1 a.2)), (18, conF (cOne (cA .i64 22)) (rOne (cI .i64)) (fun a => f18 a)), (20, conF (cCons (cA .i64 23) (cOne (cI .i64))) (rTup (cCons (cA .i64 23) (cOne (cI .i64)))) (fun a => f20 a.1 a.2)), (24, conF (cOne (cA .i64 23)) (rTup (cCons (cA .i64 23) (cOne (cI .i64)))) (fun a => f24 a))]) 1000 Tryd.f6 ((cCons (cA .i64 23) (cOne (cI .i64))).enc a) (glMem gl) gG (rOne (cB)).dec = f6 a.1 a.2 := (show evF (R := (rOne (cB)).T) (cx [(11, conF (cOne (cA .i64 23)) (rTup (cCons (cA .i64 22) (cOne (cI .i64)))) (fun a => f11 a)), (13, conF (cOne (cA .i64 23)) (rOne (cI .i64)) (fun a => f13 a)), (15, conF (cNil) (rOne (cB)) (fun a => f15)), (16, conF (cCons (cA .i64 22) (cOne (cI .i64))) (rTup (cCons (cA .i64 23) (cOne (cI .i64)))) (fun a => f16 a.1 a.2)), (18, conF (cOne (cA .i64 22)) (rOne (cI .i64)) (fun a => f18 a)), (20, conF (cCons (cA .i64 23) (cOne (cI .i64))) (rTup (cCons (cA .i64 23) (cOne (cI .i64)))) (fun a => f20 a.1 a.2)), (24, conF (cOne (cA .i64 23)) (rTup (cCons (cA .i64 23) (cOne (cI .i64)))) (fun a => f24 a))]) 1000 Tryd.f6 ((cCons (cA .i64 23) (cOne (cI .i64))).enc a) (glMem gl) gG (rOne (cB)).dec = g6 a.1 a.2 from evg6 f11 f13 f16 f18 f20 f24 a).trans (fg6 a.1 a.2)
theorem sp6 : VE.Spec Tryd.prog gG gl 6 (conF (cCons (cA .i64 23) (cOne (cI .i64))) (rOne (cB)) (fun a => f6 a.1 a.2)) := spec_of ok6 Tryd.func6 Tryd.call6 1000 (cCons_ok (cA_ok _ _) (cOne_ok (cI_ok _))) (rOne_ok (cB_ok)) ev6
noncomputable abbrev con6 : List (Nat × (List AV → Option ConR)) := [(11, conF (cOne (cA .i64 23)) (rTup (cCons (cA .i64 22) (cOne (cI .i64)))) (fun a => f11 a)), (13, conF (cOne (cA .i64 23)) (rOne (cI .i64)) (fun a => f13 a)), (15, conF (cNil) (rOne (cB)) (fun a => f15)), (16, conF (cCons (cA .i64 22) (cOne (cI .i64))) (rTup (cCons (cA .i64 23) (cOne (cI .i64)))) (fun a => f16 a.1 a.2)), (18, conF (cOne (cA .i64 22)) (rOne (cI .i64)) (fun a => f18 a)), (20, conF (cCons (cA .i64 23) (cOne (cI .i64))) (rTup (cCons (cA .i64 23) (cOne (cI .i64)))) (fun a => f20 a.1 a.2)), (24, conF (cOne (cA .i64 23)) (rTup (cCons (cA .i64 23) (cOne (cI .i64)))) (fun a => f24 a))]

/-- dancestudiolaw19.PostureNotated -/
noncomputable def f7 (a : Nat → Int) (b : Int) : Option (Bool) :=
 Option.bind (f16 a b) (fun r2 =>
 cond (!decide (r2.snd = 0)) (
 cond (decide (r2.fst 0 = 0) && decide (r2.fst 1 = 0) && (decide (r2.fst 2 = 0) && (decide (r2.fst 3 = 0) && (decide (r2.fst 4 = 0) && (decide (r2.fst 5 = 0) && (decide (r2.fst 6 = 0) && decide (r2.fst 7 = 0)) && (decide (r2.fst 8 = 0) && (decide (r2.fst 9 = 0) && decide (r2.fst 10 = 0)) && (decide (r2.fst 11 = 0) && (decide (r2.fst 12 = 0) && decide (r2.fst 13 = 0)) && (decide (r2.fst 14 = 0) && (decide (r2.fst 15 = 0) && decide (r2.fst 16 = 0)) && (decide (r2.fst 17 = 0) && (decide (r2.fst 18 = 0) && decide (r2.fst 19 = 0)) && (decide (r2.fst 20 = 0) && (decide (r2.fst 21 = 0) && decide (r2.fst 22 = 0)))))))))))) (
 some (true)) (
 some (false))) (
 Option.bind (f11 r2.fst) (fun r3 =>
 cond (decide (r3.fst 0 = a 0) && decide (r3.fst 1 = a 1) && (decide (r3.fst 2 = a 2) && (decide (r3.fst 3 = a 3) && (decide (r3.fst 4 = a 4) && (decide (r3.fst 5 = a 5) && decide (r3.fst 6 = a 6)) && (decide (r3.fst 7 = a 7) && (decide (r3.fst 8 = a 8) && decide (r3.fst 9 = a 9)) && (decide (r3.fst 10 = a 10) && (decide (r3.fst 11 = a 11) && decide (r3.fst 12 = a 12)) && (decide (r3.fst 13 = a 13) && (decide (r3.fst 14 = a 14) && decide (r3.fst 15 = a 15)) && (decide (r3.fst 16 = a 16) && (decide (r3.fst 17 = a 17) && decide (r3.fst 18 = a 18)) && (decide (r3.fst 19 = a 19) && (decide (r3.fst 20 = a 20) && decide (r3.fst 21 = a 21))))))))))) (
 cond (decide (r3.snd = 0)) (
 cond (decide (r2.fst 4 = b)) (
 Option.bind (f13 r2.fst) (fun r4 =>
 cond (decide (r4 = 0)) (
 some (true)) (
 some (false)))) (
 some (false))) (
 some (false))) (
 some (false)))))
theorem evg7 (f11 : (Nat → Int) → Option ((Nat → Int) × Int)) (f13 : (Nat → Int) → Option (Int)) (f16 : (Nat → Int) → (Int) → Option ((Nat → Int) × Int)) (xx : (cCons (cA .i64 22) (cOne (cI .i64))).T) : evF (R := (rOne (cB)).T) (cx [(11, conF (cOne (cA .i64 23)) (rTup (cCons (cA .i64 22) (cOne (cI .i64)))) (fun a => f11 a)), (13, conF (cOne (cA .i64 23)) (rOne (cI .i64)) (fun a => f13 a)), (15, conF (cNil) (rOne (cB)) (fun a => f15)), (16, conF (cCons (cA .i64 22) (cOne (cI .i64))) (rTup (cCons (cA .i64 23) (cOne (cI .i64)))) (fun a => f16 a.1 a.2))]) 1000 Tryd.f7 ((cCons (cA .i64 22) (cOne (cI .i64))).enc xx) (glMem gl) gG (rOne (cB)).dec =
 (fun (a : Nat → Int) (b : Int) =>
 (( Option.bind (f16 (nthI [a 0, a 1, a 2, a 3, a 4, a 5, a 6, a 7, a 8, a 9, a 10, a 11, a 12, a 13, a 14, a 15, a 16, a 17, a 18, a 19, a 20, a 21]) b) (fun r2 =>
 cond (!decide (r2.snd = 0)) (
 cond (decide (r2.fst 0 = 0) && decide (r2.fst 1 = 0) && (decide (r2.fst 2 = 0) && (decide (r2.fst 3 = 0) && (decide (r2.fst 4 = 0) && (decide (r2.fst 5 = 0) && (decide (r2.fst 6 = 0) && decide (r2.fst 7 = 0)) && (decide (r2.fst 8 = 0) && (decide (r2.fst 9 = 0) && decide (r2.fst 10 = 0)) && (decide (r2.fst 11 = 0) && (decide (r2.fst 12 = 0) && decide (r2.fst 13 = 0)) && (decide (r2.fst 14 = 0) && (decide (r2.fst 15 = 0) && decide (r2.fst 16 = 0)) && (decide (r2.fst 17 = 0) && (decide (r2.fst 18 = 0) && decide (r2.fst 19 = 0)) && (decide (r2.fst 20 = 0) && (decide (r2.fst 21 = 0) && decide (r2.fst 22 = 0)))))))))))) (
 some (true)) (
 some (false))) (
 Option.bind (f11 (nthI [r2.fst 0, r2.fst 1, r2.fst 2, r2.fst 3, r2.fst 4, r2.fst 5, r2.fst 6, r2.fst 7, r2.fst 8, r2.fst 9, r2.fst 10, r2.fst 11, r2.fst 12, r2.fst 13, r2.fst 14, r2.fst 15, r2.fst 16, r2.fst 17, r2.fst 18, r2.fst 19, r2.fst 20, r2.fst 21, r2.fst 22])) (fun r3 =>
 cond (decide (r3.fst 0 = a 0) && decide (r3.fst 1 = a 1) && (decide (r3.fst 2 = a 2) && (decide (r3.fst 3 = a 3) && (decide (r3.fst 4 = a 4) && (decide (r3.fst 5 = a 5) && decide (r3.fst 6 = a 6)) && (decide (r3.fst 7 = a 7) && (decide (r3.fst 8 = a 8) && decide (r3.fst 9 = a 9)) && (decide (r3.fst 10 = a 10) && (decide (r3.fst 11 = a 11) && decide (r3.fst 12 = a 12)) && (decide (r3.fst 13 = a 13) && (decide (r3.fst 14 = a 14) && decide (r3.fst 15 = a 15)) && (decide (r3.fst 16 = a 16) && (decide (r3.fst 17 = a 17) && decide (r3.fst 18 = a 18)) && (decide (r3.fst 19 = a 19) && (decide (r3.fst 20 = a 20) && decide (r3.fst 21 = a 21))))))))))) (
 cond (decide (r3.snd = 0)) (
 cond (decide (r2.fst 4 = b)) (
 Option.bind (f13 (nthI [r2.fst 0, r2.fst 1, r2.fst 2, r2.fst 3, r2.fst 4, r2.fst 5, r2.fst 6, r2.fst 7, r2.fst 8, r2.fst 9, r2.fst 10, r2.fst 11, r2.fst 12, r2.fst 13, r2.fst 14, r2.fst 15, r2.fst 16, r2.fst 17, r2.fst 18, r2.fst 19, r2.fst 20, r2.fst 21, r2.fst 22])) (fun r4 =>
 cond (decide (r4 = 0)) (
 some (true)) (
 some (false)))) (
 some (false))) (
 some (false))) (
 some (false)))))) : Option (Bool))) xx.1 xx.2 := by kernel_rfl
theorem ok7 : CtxOK Tryd.prog (cx [(11, conF (cOne (cA .i64 23)) (rTup (cCons (cA .i64 22) (cOne (cI .i64)))) (fun a => f11 a)), (13, conF (cOne (cA .i64 23)) (rOne (cI .i64)) (fun a => f13 a)), (15, conF (cNil) (rOne (cB)) (fun a => f15)), (16, conF (cCons (cA .i64 22) (cOne (cI .i64))) (rTup (cCons (cA .i64 23) (cOne (cI .i64)))) (fun a => f16 a.1 a.2))]) gl := ctx_of tyOk moOk (show SpecL Tryd.prog gG gl [(11, conF (cOne (cA .i64 23)) (rTup (cCons (cA .i64 22) (cOne (cI .i64)))) (fun a => f11 a)), (13, conF (cOne (cA .i64 23)) (rOne (cI .i64)) (fun a => f13 a)), (15, conF (cNil) (rOne (cB)) (fun a => f15)), (16, conF (cCons (cA .i64 22) (cOne (cI .i64))) (rTup (cCons (cA .i64 23) (cOne (cI .i64)))) (fun a => f16 a.1 a.2))] from ⟨sp11, sp13, sp15, sp16, trivial⟩) fnOk joinOk
noncomputable def g7 (a : Nat → Int) (b : Int) : Option (Bool) :=
 Option.bind (f16 (nthI [a 0, a 1, a 2, a 3, a 4, a 5, a 6, a 7, a 8, a 9, a 10, a 11, a 12, a 13, a 14, a 15, a 16, a 17, a 18, a 19, a 20, a 21]) b) (fun r2 =>
 cond (!decide (r2.snd = 0)) (
 cond (decide (r2.fst 0 = 0) && decide (r2.fst 1 = 0) && (decide (r2.fst 2 = 0) && (decide (r2.fst 3 = 0) && (decide (r2.fst 4 = 0) && (decide (r2.fst 5 = 0) && (decide (r2.fst 6 = 0) && decide (r2.fst 7 = 0)) && (decide (r2.fst 8 = 0) && (decide (r2.fst 9 = 0) && decide (r2.fst 10 = 0)) && (decide (r2.fst 11 = 0) && (decide (r2.fst 12 = 0) && decide (r2.fst 13 = 0)) && (decide (r2.fst 14 = 0) && (decide (r2.fst 15 = 0) && decide (r2.fst 16 = 0)) && (decide (r2.fst 17 = 0) && (decide (r2.fst 18 = 0) && decide (r2.fst 19 = 0)) && (decide (r2.fst 20 = 0) && (decide (r2.fst 21 = 0) && decide (r2.fst 22 = 0)))))))))))) (
 some (true)) (
 some (false))) (
 Option.bind (f11 (nthI [r2.fst 0, r2.fst 1, r2.fst 2, r2.fst 3, r2.fst 4, r2.fst 5, r2.fst 6, r2.fst 7, r2.fst 8, r2.fst 9, r2.fst 10, r2.fst 11, r2.fst 12, r2.fst 13, r2.fst 14, r2.fst 15, r2.fst 16, r2.fst 17, r2.fst 18, r2.fst 19, r2.fst 20, r2.fst 21, r2.fst 22])) (fun r3 =>
 cond (decide (r3.fst 0 = a 0) && decide (r3.fst 1 = a 1) && (decide (r3.fst 2 = a 2) && (decide (r3.fst 3 = a 3) && (decide (r3.fst 4 = a 4) && (decide (r3.fst 5 = a 5) && decide (r3.fst 6 = a 6)) && (decide (r3.fst 7 = a 7) && (decide (r3.fst 8 = a 8) && decide (r3.fst 9 = a 9)) && (decide (r3.fst 10 = a 10) && (decide (r3.fst 11 = a 11) && decide (r3.fst 12 = a 12)) && (decide (r3.fst 13 = a 13) && (decide (r3.fst 14 = a 14) && decide (r3.fst 15 = a 15)) && (decide (r3.fst 16 = a 16) && (decide (r3.fst 17 = a 17) && decide (r3.fst 18 = a 18)) && (decide (r3.fst 19 = a 19) && (decide (r3.fst 20 = a 20) && decide (r3.fst 21 = a 21))))))))))) (
 cond (decide (r3.snd = 0)) (
 cond (decide (r2.fst 4 = b)) (
 Option.bind (f13 (nthI [r2.fst 0, r2.fst 1, r2.fst 2, r2.fst 3, r2.fst 4, r2.fst 5, r2.fst 6, r2.fst 7, r2.fst 8, r2.fst 9, r2.fst 10, r2.fst 11, r2.fst 12, r2.fst 13, r2.fst 14, r2.fst 15, r2.fst 16, r2.fst 17, r2.fst 18, r2.fst 19, r2.fst 20, r2.fst 21, r2.fst 22])) (fun r4 =>
 cond (decide (r4 = 0)) (
 some (true)) (
 some (false)))) (
 some (false))) (
 some (false))) (
 some (false)))))
theorem fg7 (a : Nat → Int) (b : Int) : g7 a b = f7 a b := by kernel_rfl
theorem ev7 (a : (cCons (cA .i64 22) (cOne (cI .i64))).T) : evF (R := (rOne (cB)).T) (cx [(11, conF (cOne (cA .i64 23)) (rTup (cCons (cA .i64 22) (cOne (cI .i64)))) (fun a => f11 a)), (13, conF (cOne (cA .i64 23)) (rOne (cI .i64)) (fun a => f13 a)), (15, conF (cNil) (rOne (cB)) (fun a => f15)), (16, conF (cCons (cA .i64 22) (cOne (cI .i64))) (rTup (cCons (cA .i64 23) (cOne (cI .i64)))) (fun a => f16 a.1 a.2))]) 1000 Tryd.f7 ((cCons (cA .i64 22) (cOne (cI .i64))).enc a) (glMem gl) gG (rOne (cB)).dec = f7 a.1 a.2 := (show evF (R := (rOne (cB)).T) (cx [(11, conF (cOne (cA .i64 23)) (rTup (cCons (cA .i64 22) (cOne (cI .i64)))) (fun a => f11 a)), (13, conF (cOne (cA .i64 23)) (rOne (cI .i64)) (fun a => f13 a)), (15, conF (cNil) (rOne (cB)) (fun a => f15)), (16, conF (cCons (cA .i64 22) (cOne (cI .i64))) (rTup (cCons (cA .i64 23) (cOne (cI .i64)))) (fun a => f16 a.1 a.2))]) 1000 Tryd.f7 ((cCons (cA .i64 22) (cOne (cI .i64))).enc a) (glMem gl) gG (rOne (cB)).dec = g7 a.1 a.2 from evg7 f11 f13 f16 a).trans (fg7 a.1 a.2)
theorem sp7 : VE.Spec Tryd.prog gG gl 7 (conF (cCons (cA .i64 22) (cOne (cI .i64))) (rOne (cB)) (fun a => f7 a.1 a.2)) := spec_of ok7 Tryd.func7 Tryd.call7 1000 (cCons_ok (cA_ok _ _) (cOne_ok (cI_ok _))) (rOne_ok (cB_ok)) ev7
noncomputable abbrev con7 : List (Nat × (List AV → Option ConR)) := [(11, conF (cOne (cA .i64 23)) (rTup (cCons (cA .i64 22) (cOne (cI .i64)))) (fun a => f11 a)), (13, conF (cOne (cA .i64 23)) (rOne (cI .i64)) (fun a => f13 a)), (15, conF (cNil) (rOne (cB)) (fun a => f15)), (16, conF (cCons (cA .i64 22) (cOne (cI .i64))) (rTup (cCons (cA .i64 23) (cOne (cI .i64)))) (fun a => f16 a.1 a.2))]

/-- dancestudioref19.Exchange -/
noncomputable def f46 (a : Int) : Option (Int) :=
 some (IntKind.i64.wrap (IntKind.i64.wrap (a.tdiv 2) + IntKind.i64.wrap (2 * a.tmod 2)))
theorem evg46  (xx : (cOne (cI .i64)).T) : evF (R := (rOne (cI .i64)).T) (cx []) 1000 Tryd.f46 ((cOne (cI .i64)).enc xx) (glMem gl) gG (rOne (cI .i64)).dec =
 (fun (a : Int) =>
 (( some (IntKind.i64.wrap (IntKind.i64.wrap (a.tdiv 2) + IntKind.i64.wrap (2 * a.tmod 2)))) : Option (Int))) xx := by kernel_rfl
theorem ok46 : CtxOK Tryd.prog (cx []) gl := ctx_of tyOk moOk (show SpecL Tryd.prog gG gl [] from trivial) fnOk joinOk
theorem ev46 (a : (cOne (cI .i64)).T) : evF (R := (rOne (cI .i64)).T) (cx []) 1000 Tryd.f46 ((cOne (cI .i64)).enc a) (glMem gl) gG (rOne (cI .i64)).dec = f46 a := evg46  a
theorem sp46 : VE.Spec Tryd.prog gG gl 46 (conF (cOne (cI .i64)) (rOne (cI .i64)) (fun a => f46 a)) := spec_of ok46 Tryd.func46 Tryd.call46 1000 (cOne_ok (cI_ok _)) (rOne_ok (cI_ok _)) ev46
noncomputable abbrev con46 : List (Nat × (List AV → Option ConR)) := []

/-- dancestudioref18.Swap -/
noncomputable def f47 (a : Int) : Option (Int × Int) :=
 Option.bind (f56 a) (fun r1 =>
 cond (!r1) (
 some ((0, 9))) (
 cond (decide (a = 0)) (
 some ((1, 0))) (
 cond (decide (a = 1)) (
 some ((0, 0))) (
 cond (decide (a = 3)) (
 some ((4, 0))) (
 cond (decide (a = 4)) (
 some ((3, 0))) (
 some ((a, 0))))))))
theorem evg47 (f56 : (Int) → Option (Bool)) (xx : (cOne (cI .i64)).T) : evF (R := (rTup (cCons (cI .i64) (cOne (cI .i64)))).T) (cx [(56, conF (cOne (cI .i64)) (rOne (cB)) (fun a => f56 a))]) 1000 Tryd.f47 ((cOne (cI .i64)).enc xx) (glMem gl) gG (rTup (cCons (cI .i64) (cOne (cI .i64)))).dec =
 (fun (a : Int) =>
 (( Option.bind (f56 a) (fun r1 =>
 cond (!r1) (
 some ((0, 9))) (
 cond (decide (a = 0)) (
 some ((1, 0))) (
 cond (decide (a = 1)) (
 some ((0, 0))) (
 cond (decide (a = 3)) (
 some ((4, 0))) (
 cond (decide (a = 4)) (
 some ((3, 0))) (
 some ((a, 0))))))))) : Option (Int × Int))) xx := by kernel_rfl
theorem ok47 : CtxOK Tryd.prog (cx [(56, conF (cOne (cI .i64)) (rOne (cB)) (fun a => f56 a))]) gl := ctx_of tyOk moOk (show SpecL Tryd.prog gG gl [(56, conF (cOne (cI .i64)) (rOne (cB)) (fun a => f56 a))] from ⟨sp56, trivial⟩) fnOk joinOk
theorem ev47 (a : (cOne (cI .i64)).T) : evF (R := (rTup (cCons (cI .i64) (cOne (cI .i64)))).T) (cx [(56, conF (cOne (cI .i64)) (rOne (cB)) (fun a => f56 a))]) 1000 Tryd.f47 ((cOne (cI .i64)).enc a) (glMem gl) gG (rTup (cCons (cI .i64) (cOne (cI .i64)))).dec = f47 a := evg47 f56 a
theorem sp47 : VE.Spec Tryd.prog gG gl 47 (conF (cOne (cI .i64)) (rTup (cCons (cI .i64) (cOne (cI .i64)))) (fun a => f47 a)) := spec_of ok47 Tryd.func47 Tryd.call47 1000 (cOne_ok (cI_ok _)) (rTup_ok (cCons_ok (cI_ok _) (cOne_ok (cI_ok _)))) ev47
noncomputable abbrev con47 : List (Nat × (List AV → Option ConR)) := [(56, conF (cOne (cI .i64)) (rOne (cB)) (fun a => f56 a))]

/-- dancestudioref16.Mirror -/
noncomputable def f48 (a : Int) : Option (Int × Int) :=
 Option.bind (f63 a) (fun r1 =>
 cond (!r1) (
 some ((0, 1))) (
 cond (decide (a = 0)) (
 some ((a, 0))) (
 cond (decide (a = 1)) (
 some ((a, 0))) (
 some ((IntKind.i64.wrap (10 - a), 0))))))
theorem evg48 (f63 : (Int) → Option (Bool)) (xx : (cOne (cI .i64)).T) : evF (R := (rTup (cCons (cI .i64) (cOne (cI .i64)))).T) (cx [(63, conF (cOne (cI .i64)) (rOne (cB)) (fun a => f63 a))]) 1000 Tryd.f48 ((cOne (cI .i64)).enc xx) (glMem gl) gG (rTup (cCons (cI .i64) (cOne (cI .i64)))).dec =
 (fun (a : Int) =>
 (( Option.bind (f63 a) (fun r1 =>
 cond (!r1) (
 some ((0, 1))) (
 cond (decide (a = 0)) (
 some ((a, 0))) (
 cond (decide (a = 1)) (
 some ((a, 0))) (
 some ((IntKind.i64.wrap (10 - a), 0))))))) : Option (Int × Int))) xx := by kernel_rfl
theorem ok48 : CtxOK Tryd.prog (cx [(63, conF (cOne (cI .i64)) (rOne (cB)) (fun a => f63 a))]) gl := ctx_of tyOk moOk (show SpecL Tryd.prog gG gl [(63, conF (cOne (cI .i64)) (rOne (cB)) (fun a => f63 a))] from ⟨sp63, trivial⟩) fnOk joinOk
theorem ev48 (a : (cOne (cI .i64)).T) : evF (R := (rTup (cCons (cI .i64) (cOne (cI .i64)))).T) (cx [(63, conF (cOne (cI .i64)) (rOne (cB)) (fun a => f63 a))]) 1000 Tryd.f48 ((cOne (cI .i64)).enc a) (glMem gl) gG (rTup (cCons (cI .i64) (cOne (cI .i64)))).dec = f48 a := evg48 f63 a
theorem sp48 : VE.Spec Tryd.prog gG gl 48 (conF (cOne (cI .i64)) (rTup (cCons (cI .i64) (cOne (cI .i64)))) (fun a => f48 a)) := spec_of ok48 Tryd.func48 Tryd.call48 1000 (cOne_ok (cI_ok _)) (rTup_ok (cCons_ok (cI_ok _) (cOne_ok (cI_ok _)))) ev48
noncomputable abbrev con48 : List (Nat × (List AV → Option ConR)) := [(63, conF (cOne (cI .i64)) (rOne (cB)) (fun a => f63 a))]

/-- dancestudioref19.Mirror -/
noncomputable def f25 (a : Nat → Int) : Option ((Nat → Int) × Int) :=
 Option.bind (f14 a) (fun r1 =>
 cond (!decide (r1 = 0)) (
 some ((nthI tab1, r1))) (
 Option.bind (f46 (a 4)) (fun r2 =>
 Option.bind (f48 (a 8)) (fun r3 =>
 Option.bind (f48 (a 5)) (fun r4 =>
 Option.bind (f48 (a 11)) (fun r5 =>
 Option.bind (f48 (a 17)) (fun r6 =>
 Option.bind (f48 (a 14)) (fun r7 =>
 Option.bind (f48 (a 20)) (fun r8 =>
 some ((nthI [IntKind.i64.wrap (0 - a 0), a 1, (IntKind.i64.wrap (8 - a 2)).tmod 8, a 3, r2, r3.fst, a 9, a 10, r4.fst, a 6, a 7, r5.fst, a 12, a 13, r6.fst, a 18, a 19, r7.fst, a 15, a 16, r8.fst, a 21, a 22], 0)))))))))))
theorem evg25 (f14 : (Nat → Int) → Option (Int)) (f46 : (Int) → Option (Int)) (f48 : (Int) → Option (Int × Int)) (xx : (cOne (cA .i64 23)).T) : evF (R := (rTup (cCons (cA .i64 23) (cOne (cI .i64)))).T) (cx [(14, conF (cOne (cA .i64 23)) (rOne (cI .i64)) (fun a => f14 a)), (46, conF (cOne (cI .i64)) (rOne (cI .i64)) (fun a => f46 a)), (47, conF (cOne (cI .i64)) (rTup (cCons (cI .i64) (cOne (cI .i64)))) (fun a => f47 a)), (48, conF (cOne (cI .i64)) (rTup (cCons (cI .i64) (cOne (cI .i64)))) (fun a => f48 a))]) 1000 Tryd.f25 ((cOne (cA .i64 23)).enc xx) (glMem gl) gG (rTup (cCons (cA .i64 23) (cOne (cI .i64)))).dec =
 (fun (a : Nat → Int) =>
 (( Option.bind (f14 (nthI [a 0, a 1, a 2, a 3, a 4, a 5, a 6, a 7, a 8, a 9, a 10, a 11, a 12, a 13, a 14, a 15, a 16, a 17, a 18, a 19, a 20, a 21, a 22])) (fun r1 =>
 cond (!decide (r1 = 0)) (
 some ((nthI tab1, r1))) (
 Option.bind (f46 (a 4)) (fun r2 =>
 Option.bind (f48 (a 8)) (fun r3 =>
 Option.bind (f48 (a 5)) (fun r4 =>
 Option.bind (f48 (a 11)) (fun r5 =>
 Option.bind (f48 (a 17)) (fun r6 =>
 Option.bind (f48 (a 14)) (fun r7 =>
 Option.bind (f48 (a 20)) (fun r8 =>
 some ((nthI [IntKind.i64.wrap (0 - a 0), a 1, (IntKind.i64.wrap (8 - a 2)).tmod 8, a 3, r2, r3.fst, a 9, a 10, r4.fst, a 6, a 7, r5.fst, a 12, a 13, r6.fst, a 18, a 19, r7.fst, a 15, a 16, r8.fst, a 21, a 22], 0)))))))))))) : Option ((Nat → Int) × Int))) xx := by kernel_rfl
theorem ok25 : CtxOK Tryd.prog (cx [(14, conF (cOne (cA .i64 23)) (rOne (cI .i64)) (fun a => f14 a)), (46, conF (cOne (cI .i64)) (rOne (cI .i64)) (fun a => f46 a)), (47, conF (cOne (cI .i64)) (rTup (cCons (cI .i64) (cOne (cI .i64)))) (fun a => f47 a)), (48, conF (cOne (cI .i64)) (rTup (cCons (cI .i64) (cOne (cI .i64)))) (fun a => f48 a))]) gl := ctx_of tyOk moOk (show SpecL Tryd.prog gG gl [(14, conF (cOne (cA .i64 23)) (rOne (cI .i64)) (fun a => f14 a)), (46, conF (cOne (cI .i64)) (rOne (cI .i64)) (fun a => f46 a)), (47, conF (cOne (cI .i64)) (rTup (cCons (cI .i64) (cOne (cI .i64)))) (fun a => f47 a)), (48, conF (cOne (cI .i64)) (rTup (cCons (cI .i64) (cOne (cI .i64)))) (fun a => f48 a))] from ⟨sp14, sp46, sp47, sp48, trivial⟩) fnOk joinOk
noncomputable def g25 (a : Nat → Int) : Option ((Nat → Int) × Int) :=
 Option.bind (f14 (nthI [a 0, a 1, a 2, a 3, a 4, a 5, a 6, a 7, a 8, a 9, a 10, a 11, a 12, a 13, a 14, a 15, a 16, a 17, a 18, a 19, a 20, a 21, a 22])) (fun r1 =>
 cond (!decide (r1 = 0)) (
 some ((nthI tab1, r1))) (
 Option.bind (f46 (a 4)) (fun r2 =>
 Option.bind (f48 (a 8)) (fun r3 =>
 Option.bind (f48 (a 5)) (fun r4 =>
 Option.bind (f48 (a 11)) (fun r5 =>
 Option.bind (f48 (a 17)) (fun r6 =>
 Option.bind (f48 (a 14)) (fun r7 =>
 Option.bind (f48 (a 20)) (fun r8 =>
 some ((nthI [IntKind.i64.wrap (0 - a 0), a 1, (IntKind.i64.wrap (8 - a 2)).tmod 8, a 3, r2, r3.fst, a 9, a 10, r4.fst, a 6, a 7, r5.fst, a 12, a 13, r6.fst, a 18, a 19, r7.fst, a 15, a 16, r8.fst, a 21, a 22], 0)))))))))))
theorem fg25 (a : Nat → Int) : g25 a = f25 a := by kernel_rfl
theorem ev25 (a : (cOne (cA .i64 23)).T) : evF (R := (rTup (cCons (cA .i64 23) (cOne (cI .i64)))).T) (cx [(14, conF (cOne (cA .i64 23)) (rOne (cI .i64)) (fun a => f14 a)), (46, conF (cOne (cI .i64)) (rOne (cI .i64)) (fun a => f46 a)), (47, conF (cOne (cI .i64)) (rTup (cCons (cI .i64) (cOne (cI .i64)))) (fun a => f47 a)), (48, conF (cOne (cI .i64)) (rTup (cCons (cI .i64) (cOne (cI .i64)))) (fun a => f48 a))]) 1000 Tryd.f25 ((cOne (cA .i64 23)).enc a) (glMem gl) gG (rTup (cCons (cA .i64 23) (cOne (cI .i64)))).dec = f25 a := (show evF (R := (rTup (cCons (cA .i64 23) (cOne (cI .i64)))).T) (cx [(14, conF (cOne (cA .i64 23)) (rOne (cI .i64)) (fun a => f14 a)), (46, conF (cOne (cI .i64)) (rOne (cI .i64)) (fun a => f46 a)), (47, conF (cOne (cI .i64)) (rTup (cCons (cI .i64) (cOne (cI .i64)))) (fun a => f47 a)), (48, conF (cOne (cI .i64)) (rTup (cCons (cI .i64) (cOne (cI .i64)))) (fun a => f48 a))]) 1000 Tryd.f25 ((cOne (cA .i64 23)).enc a) (glMem gl) gG (rTup (cCons (cA .i64 23) (cOne (cI .i64)))).dec = g25 a from evg25 f14 f46 f48 a).trans (fg25 a)
theorem sp25 : VE.Spec Tryd.prog gG gl 25 (conF (cOne (cA .i64 23)) (rTup (cCons (cA .i64 23) (cOne (cI .i64)))) (fun a => f25 a)) := spec_of ok25 Tryd.func25 Tryd.call25 1000 (cOne_ok (cA_ok _ _)) (rTup_ok (cCons_ok (cA_ok _ _) (cOne_ok (cI_ok _)))) ev25
noncomputable abbrev con25 : List (Nat × (List AV → Option ConR)) := [(14, conF (cOne (cA .i64 23)) (rOne (cI .i64)) (fun a => f14 a)), (46, conF (cOne (cI .i64)) (rOne (cI .i64)) (fun a => f46 a)), (47, conF (cOne (cI .i64)) (rTup (cCons (cI .i64) (cOne (cI .i64)))) (fun a => f47 a)), (48, conF (cOne (cI .i64)) (rTup (cCons (cI .i64) (cOne (cI .i64)))) (fun a => f48 a))]

/-- angle.Norm -/
noncomputable def f64 (a : Int) : Option (Int) :=
 some ((IntKind.i64.wrap (a.tmod 256 + 256)).tmod 256)
theorem evg64  (xx : (cOne (cI .i64)).T) : evF (R := (rOne (cI .i64)).T) (cx []) 1000 Tryd.f64 ((cOne (cI .i64)).enc xx) (glMem gl) gG (rOne (cI .i64)).dec =
 (fun (a : Int) =>
 (( some ((IntKind.i64.wrap (a.tmod 256 + 256)).tmod 256)) : Option (Int))) xx := by kernel_rfl
theorem ok64 : CtxOK Tryd.prog (cx []) gl := ctx_of tyOk moOk (show SpecL Tryd.prog gG gl [] from trivial) fnOk joinOk
theorem ev64 (a : (cOne (cI .i64)).T) : evF (R := (rOne (cI .i64)).T) (cx []) 1000 Tryd.f64 ((cOne (cI .i64)).enc a) (glMem gl) gG (rOne (cI .i64)).dec = f64 a := evg64  a
theorem sp64 : VE.Spec Tryd.prog gG gl 64 (conF (cOne (cI .i64)) (rOne (cI .i64)) (fun a => f64 a)) := spec_of ok64 Tryd.func64 Tryd.call64 1000 (cOne_ok (cI_ok _)) (rOne_ok (cI_ok _)) ev64
noncomputable abbrev con64 : List (Nat × (List AV → Option ConR)) := []

/-- angle.Mirror -/
noncomputable def f49 (a : Int) : Option (Int) :=
 Option.bind (f64 a) (fun r1 =>
 Option.bind (f64 (IntKind.i64.wrap (0 - r1))) (fun r2 =>
 some (r2)))
theorem evg49 (f64 : (Int) → Option (Int)) (xx : (cOne (cI .i64)).T) : evF (R := (rOne (cI .i64)).T) (cx [(64, conF (cOne (cI .i64)) (rOne (cI .i64)) (fun a => f64 a))]) 1000 Tryd.f49 ((cOne (cI .i64)).enc xx) (glMem gl) gG (rOne (cI .i64)).dec =
 (fun (a : Int) =>
 (( Option.bind (f64 a) (fun r1 =>
 Option.bind (f64 (IntKind.i64.wrap (0 - r1))) (fun r2 =>
 some (r2)))) : Option (Int))) xx := by kernel_rfl
theorem ok49 : CtxOK Tryd.prog (cx [(64, conF (cOne (cI .i64)) (rOne (cI .i64)) (fun a => f64 a))]) gl := ctx_of tyOk moOk (show SpecL Tryd.prog gG gl [(64, conF (cOne (cI .i64)) (rOne (cI .i64)) (fun a => f64 a))] from ⟨sp64, trivial⟩) fnOk joinOk
theorem ev49 (a : (cOne (cI .i64)).T) : evF (R := (rOne (cI .i64)).T) (cx [(64, conF (cOne (cI .i64)) (rOne (cI .i64)) (fun a => f64 a))]) 1000 Tryd.f49 ((cOne (cI .i64)).enc a) (glMem gl) gG (rOne (cI .i64)).dec = f49 a := evg49 f64 a
theorem sp49 : VE.Spec Tryd.prog gG gl 49 (conF (cOne (cI .i64)) (rOne (cI .i64)) (fun a => f49 a)) := spec_of ok49 Tryd.func49 Tryd.call49 1000 (cOne_ok (cI_ok _)) (rOne_ok (cI_ok _)) ev49
noncomputable abbrev con49 : List (Nat × (List AV → Option ConR)) := [(64, conF (cOne (cI .i64)) (rOne (cI .i64)) (fun a => f64 a))]

/-- aim.Mirror -/
noncomputable def f50 (a : Int) (b : Nat → Int) : Option ((Nat → Int) × Int) :=
 Option.bind (f38 a b) (fun r2 =>
 cond (!decide (r2 = 0)) (
 some ((nthI [0, 0, 0], r2))) (
 Option.bind (f49 (b 0)) (fun r3 =>
 some ((nthI [r3, b 1, b 2], 0)))))
theorem evg50 (f38 : (Int) → (Nat → Int) → Option (Int)) (f49 : (Int) → Option (Int)) (xx : (cCons (cI .i64) (cOne (cA .i64 3))).T) : evF (R := (rTup (cCons (cA .i64 3) (cOne (cI .i64)))).T) (cx [(38, conF (cCons (cI .i64) (cOne (cA .i64 3))) (rOne (cI .i64)) (fun a => f38 a.1 a.2)), (49, conF (cOne (cI .i64)) (rOne (cI .i64)) (fun a => f49 a))]) 1000 Tryd.f50 ((cCons (cI .i64) (cOne (cA .i64 3))).enc xx) (glMem gl) gG (rTup (cCons (cA .i64 3) (cOne (cI .i64)))).dec =
 (fun (a : Int) (b : Nat → Int) =>
 (( Option.bind (f38 a (nthI [b 0, b 1, b 2])) (fun r2 =>
 cond (!decide (r2 = 0)) (
 some ((nthI [0, 0, 0], r2))) (
 Option.bind (f49 (b 0)) (fun r3 =>
 some ((nthI [r3, b 1, b 2], 0)))))) : Option ((Nat → Int) × Int))) xx.1 xx.2 := by kernel_rfl
theorem ok50 : CtxOK Tryd.prog (cx [(38, conF (cCons (cI .i64) (cOne (cA .i64 3))) (rOne (cI .i64)) (fun a => f38 a.1 a.2)), (49, conF (cOne (cI .i64)) (rOne (cI .i64)) (fun a => f49 a))]) gl := ctx_of tyOk moOk (show SpecL Tryd.prog gG gl [(38, conF (cCons (cI .i64) (cOne (cA .i64 3))) (rOne (cI .i64)) (fun a => f38 a.1 a.2)), (49, conF (cOne (cI .i64)) (rOne (cI .i64)) (fun a => f49 a))] from ⟨sp38, sp49, trivial⟩) fnOk joinOk
noncomputable def g50 (a : Int) (b : Nat → Int) : Option ((Nat → Int) × Int) :=
 Option.bind (f38 a (nthI [b 0, b 1, b 2])) (fun r2 =>
 cond (!decide (r2 = 0)) (
 some ((nthI [0, 0, 0], r2))) (
 Option.bind (f49 (b 0)) (fun r3 =>
 some ((nthI [r3, b 1, b 2], 0)))))
theorem fg50 (a : Int) (b : Nat → Int) : g50 a b = f50 a b := by kernel_rfl
theorem ev50 (a : (cCons (cI .i64) (cOne (cA .i64 3))).T) : evF (R := (rTup (cCons (cA .i64 3) (cOne (cI .i64)))).T) (cx [(38, conF (cCons (cI .i64) (cOne (cA .i64 3))) (rOne (cI .i64)) (fun a => f38 a.1 a.2)), (49, conF (cOne (cI .i64)) (rOne (cI .i64)) (fun a => f49 a))]) 1000 Tryd.f50 ((cCons (cI .i64) (cOne (cA .i64 3))).enc a) (glMem gl) gG (rTup (cCons (cA .i64 3) (cOne (cI .i64)))).dec = f50 a.1 a.2 := (show evF (R := (rTup (cCons (cA .i64 3) (cOne (cI .i64)))).T) (cx [(38, conF (cCons (cI .i64) (cOne (cA .i64 3))) (rOne (cI .i64)) (fun a => f38 a.1 a.2)), (49, conF (cOne (cI .i64)) (rOne (cI .i64)) (fun a => f49 a))]) 1000 Tryd.f50 ((cCons (cI .i64) (cOne (cA .i64 3))).enc a) (glMem gl) gG (rTup (cCons (cA .i64 3) (cOne (cI .i64)))).dec = g50 a.1 a.2 from evg50 f38 f49 a).trans (fg50 a.1 a.2)
theorem sp50 : VE.Spec Tryd.prog gG gl 50 (conF (cCons (cI .i64) (cOne (cA .i64 3))) (rTup (cCons (cA .i64 3) (cOne (cI .i64)))) (fun a => f50 a.1 a.2)) := spec_of ok50 Tryd.func50 Tryd.call50 1000 (cCons_ok (cI_ok _) (cOne_ok (cA_ok _ _))) (rTup_ok (cCons_ok (cA_ok _ _) (cOne_ok (cI_ok _)))) ev50
noncomputable abbrev con50 : List (Nat × (List AV → Option ConR)) := [(38, conF (cCons (cI .i64) (cOne (cA .i64 3))) (rOne (cI .i64)) (fun a => f38 a.1 a.2)), (49, conF (cOne (cI .i64)) (rOne (cI .i64)) (fun a => f49 a))]

/-- posture.MirrorPose -/
noncomputable def f26 (a : Nat → Int) : Option ((Nat → Int) × Int) :=
 Option.bind (f18 a) (fun r1 =>
 cond (!decide (r1 = 0)) (
 some ((nthI tab0, r1))) (
 Option.bind (f49 (a 2)) (fun r2 =>
 Option.bind (f50 0 (nthI [a 4, a 5, a 6])) (fun r3 =>
 Option.bind (f50 1 (nthI [a 7, a 8, a 9])) (fun r4 =>
 Option.bind (f50 2 (nthI [a 10, a 11, a 12])) (fun r5 =>
 Option.bind (f50 3 (nthI [a 13, a 14, a 15])) (fun r6 =>
 Option.bind (f50 4 (nthI [a 16, a 17, a 18])) (fun r7 =>
 Option.bind (f50 5 (nthI [a 19, a 20, a 21])) (fun r8 =>
 some ((nthI [IntKind.i64.wrap (0 - a 0), a 1, r2, a 3, r4.fst 0, r4.fst 1, r4.fst 2, r3.fst 0, r3.fst 1, r3.fst 2, r5.fst 0, r5.fst 1, r5.fst 2, r7.fst 0, r7.fst 1, r7.fst 2, r6.fst 0, r6.fst 1, r6.fst 2, r8.fst 0, r8.fst 1, r8.fst 2], 0)))))))))))
theorem evg26 (f18 : (Nat → Int) → Option (Int)) (f49 : (Int) → Option (Int)) (f50 : (Int) → (Nat → Int) → Option ((Nat → Int) × Int)) (xx : (cOne (cA .i64 22)).T) : evF (R := (rTup (cCons (cA .i64 22) (cOne (cI .i64)))).T) (cx [(18, conF (cOne (cA .i64 22)) (rOne (cI .i64)) (fun a => f18 a)), (44, conF (cOne (cI .i64)) (rTup (cCons (cI .i64) (cOne (cI .i64)))) (fun a => f44 a)), (49, conF (cOne (cI .i64)) (rOne (cI .i64)) (fun a => f49 a)), (50, conF (cCons (cI .i64) (cOne (cA .i64 3))) (rTup (cCons (cA .i64 3) (cOne (cI .i64)))) (fun a => f50 a.1 a.2))]) 1000 Tryd.f26 ((cOne (cA .i64 22)).enc xx) (glMem gl) gG (rTup (cCons (cA .i64 22) (cOne (cI .i64)))).dec =
 (fun (a : Nat → Int) =>
 (( Option.bind (f18 (nthI [a 0, a 1, a 2, a 3, a 4, a 5, a 6, a 7, a 8, a 9, a 10, a 11, a 12, a 13, a 14, a 15, a 16, a 17, a 18, a 19, a 20, a 21])) (fun r1 =>
 cond (!decide (r1 = 0)) (
 some ((nthI tab0, r1))) (
 Option.bind (f49 (a 2)) (fun r2 =>
 Option.bind (f50 0 (nthI [a 4, a 5, a 6])) (fun r3 =>
 Option.bind (f50 1 (nthI [a 7, a 8, a 9])) (fun r4 =>
 Option.bind (f50 2 (nthI [a 10, a 11, a 12])) (fun r5 =>
 Option.bind (f50 3 (nthI [a 13, a 14, a 15])) (fun r6 =>
 Option.bind (f50 4 (nthI [a 16, a 17, a 18])) (fun r7 =>
 Option.bind (f50 5 (nthI [a 19, a 20, a 21])) (fun r8 =>
 some ((nthI [IntKind.i64.wrap (0 - a 0), a 1, r2, a 3, r4.fst 0, r4.fst 1, r4.fst 2, r3.fst 0, r3.fst 1, r3.fst 2, r5.fst 0, r5.fst 1, r5.fst 2, r7.fst 0, r7.fst 1, r7.fst 2, r6.fst 0, r6.fst 1, r6.fst 2, r8.fst 0, r8.fst 1, r8.fst 2], 0)))))))))))) : Option ((Nat → Int) × Int))) xx := by kernel_rfl
theorem ok26 : CtxOK Tryd.prog (cx [(18, conF (cOne (cA .i64 22)) (rOne (cI .i64)) (fun a => f18 a)), (44, conF (cOne (cI .i64)) (rTup (cCons (cI .i64) (cOne (cI .i64)))) (fun a => f44 a)), (49, conF (cOne (cI .i64)) (rOne (cI .i64)) (fun a => f49 a)), (50, conF (cCons (cI .i64) (cOne (cA .i64 3))) (rTup (cCons (cA .i64 3) (cOne (cI .i64)))) (fun a => f50 a.1 a.2))]) gl := ctx_of tyOk moOk (show SpecL Tryd.prog gG gl [(18, conF (cOne (cA .i64 22)) (rOne (cI .i64)) (fun a => f18 a)), (44, conF (cOne (cI .i64)) (rTup (cCons (cI .i64) (cOne (cI .i64)))) (fun a => f44 a)), (49, conF (cOne (cI .i64)) (rOne (cI .i64)) (fun a => f49 a)), (50, conF (cCons (cI .i64) (cOne (cA .i64 3))) (rTup (cCons (cA .i64 3) (cOne (cI .i64)))) (fun a => f50 a.1 a.2))] from ⟨sp18, sp44, sp49, sp50, trivial⟩) fnOk joinOk
noncomputable def g26 (a : Nat → Int) : Option ((Nat → Int) × Int) :=
 Option.bind (f18 (nthI [a 0, a 1, a 2, a 3, a 4, a 5, a 6, a 7, a 8, a 9, a 10, a 11, a 12, a 13, a 14, a 15, a 16, a 17, a 18, a 19, a 20, a 21])) (fun r1 =>
 cond (!decide (r1 = 0)) (
 some ((nthI tab0, r1))) (
 Option.bind (f49 (a 2)) (fun r2 =>
 Option.bind (f50 0 (nthI [a 4, a 5, a 6])) (fun r3 =>
 Option.bind (f50 1 (nthI [a 7, a 8, a 9])) (fun r4 =>
 Option.bind (f50 2 (nthI [a 10, a 11, a 12])) (fun r5 =>
 Option.bind (f50 3 (nthI [a 13, a 14, a 15])) (fun r6 =>
 Option.bind (f50 4 (nthI [a 16, a 17, a 18])) (fun r7 =>
 Option.bind (f50 5 (nthI [a 19, a 20, a 21])) (fun r8 =>
 some ((nthI [IntKind.i64.wrap (0 - a 0), a 1, r2, a 3, r4.fst 0, r4.fst 1, r4.fst 2, r3.fst 0, r3.fst 1, r3.fst 2, r5.fst 0, r5.fst 1, r5.fst 2, r7.fst 0, r7.fst 1, r7.fst 2, r6.fst 0, r6.fst 1, r6.fst 2, r8.fst 0, r8.fst 1, r8.fst 2], 0)))))))))))
theorem fg26 (a : Nat → Int) : g26 a = f26 a := by kernel_rfl
theorem ev26 (a : (cOne (cA .i64 22)).T) : evF (R := (rTup (cCons (cA .i64 22) (cOne (cI .i64)))).T) (cx [(18, conF (cOne (cA .i64 22)) (rOne (cI .i64)) (fun a => f18 a)), (44, conF (cOne (cI .i64)) (rTup (cCons (cI .i64) (cOne (cI .i64)))) (fun a => f44 a)), (49, conF (cOne (cI .i64)) (rOne (cI .i64)) (fun a => f49 a)), (50, conF (cCons (cI .i64) (cOne (cA .i64 3))) (rTup (cCons (cA .i64 3) (cOne (cI .i64)))) (fun a => f50 a.1 a.2))]) 1000 Tryd.f26 ((cOne (cA .i64 22)).enc a) (glMem gl) gG (rTup (cCons (cA .i64 22) (cOne (cI .i64)))).dec = f26 a := (show evF (R := (rTup (cCons (cA .i64 22) (cOne (cI .i64)))).T) (cx [(18, conF (cOne (cA .i64 22)) (rOne (cI .i64)) (fun a => f18 a)), (44, conF (cOne (cI .i64)) (rTup (cCons (cI .i64) (cOne (cI .i64)))) (fun a => f44 a)), (49, conF (cOne (cI .i64)) (rOne (cI .i64)) (fun a => f49 a)), (50, conF (cCons (cI .i64) (cOne (cA .i64 3))) (rTup (cCons (cA .i64 3) (cOne (cI .i64)))) (fun a => f50 a.1 a.2))]) 1000 Tryd.f26 ((cOne (cA .i64 22)).enc a) (glMem gl) gG (rTup (cCons (cA .i64 22) (cOne (cI .i64)))).dec = g26 a from evg26 f18 f49 f50 a).trans (fg26 a)
theorem sp26 : VE.Spec Tryd.prog gG gl 26 (conF (cOne (cA .i64 22)) (rTup (cCons (cA .i64 22) (cOne (cI .i64)))) (fun a => f26 a)) := spec_of ok26 Tryd.func26 Tryd.call26 1000 (cOne_ok (cA_ok _ _)) (rTup_ok (cCons_ok (cA_ok _ _) (cOne_ok (cI_ok _)))) ev26
noncomputable abbrev con26 : List (Nat × (List AV → Option ConR)) := [(18, conF (cOne (cA .i64 22)) (rOne (cI .i64)) (fun a => f18 a)), (44, conF (cOne (cI .i64)) (rTup (cCons (cI .i64) (cOne (cI .i64)))) (fun a => f44 a)), (49, conF (cOne (cI .i64)) (rOne (cI .i64)) (fun a => f49 a)), (50, conF (cCons (cI .i64) (cOne (cA .i64 3))) (rTup (cCons (cA .i64 3) (cOne (cI .i64)))) (fun a => f50 a.1 a.2))]

/-- dancestudioref02.Norm -/
noncomputable def f65 (a : Int) : Option (Int) :=
 cond (decide (a.tmod 256 < 0)) (
 some (IntKind.i64.wrap (a.tmod 256 + 256))) (
 some (a.tmod 256))
theorem evg65  (xx : (cOne (cI .i64)).T) : evF (R := (rOne (cI .i64)).T) (cx []) 1000 Tryd.f65 ((cOne (cI .i64)).enc xx) (glMem gl) gG (rOne (cI .i64)).dec =
 (fun (a : Int) =>
 (( cond (decide (a.tmod 256 < 0)) (
 some (IntKind.i64.wrap (a.tmod 256 + 256))) (
 some (a.tmod 256))) : Option (Int))) xx := by kernel_rfl
theorem ok65 : CtxOK Tryd.prog (cx []) gl := ctx_of tyOk moOk (show SpecL Tryd.prog gG gl [] from trivial) fnOk joinOk
theorem ev65 (a : (cOne (cI .i64)).T) : evF (R := (rOne (cI .i64)).T) (cx []) 1000 Tryd.f65 ((cOne (cI .i64)).enc a) (glMem gl) gG (rOne (cI .i64)).dec = f65 a := evg65  a
theorem sp65 : VE.Spec Tryd.prog gG gl 65 (conF (cOne (cI .i64)) (rOne (cI .i64)) (fun a => f65 a)) := spec_of ok65 Tryd.func65 Tryd.call65 1000 (cOne_ok (cI_ok _)) (rOne_ok (cI_ok _)) ev65
noncomputable abbrev con65 : List (Nat × (List AV → Option ConR)) := []

/-- dancestudioref02.Mirror -/
noncomputable def f51 (a : Int) : Option (Int) :=
 Option.bind (f65 a) (fun r1 =>
 Option.bind (f65 (IntKind.i64.wrap (256 - r1))) (fun r2 =>
 some (r2)))
theorem evg51 (f65 : (Int) → Option (Int)) (xx : (cOne (cI .i64)).T) : evF (R := (rOne (cI .i64)).T) (cx [(65, conF (cOne (cI .i64)) (rOne (cI .i64)) (fun a => f65 a))]) 1000 Tryd.f51 ((cOne (cI .i64)).enc xx) (glMem gl) gG (rOne (cI .i64)).dec =
 (fun (a : Int) =>
 (( Option.bind (f65 a) (fun r1 =>
 Option.bind (f65 (IntKind.i64.wrap (256 - r1))) (fun r2 =>
 some (r2)))) : Option (Int))) xx := by kernel_rfl
theorem ok51 : CtxOK Tryd.prog (cx [(65, conF (cOne (cI .i64)) (rOne (cI .i64)) (fun a => f65 a))]) gl := ctx_of tyOk moOk (show SpecL Tryd.prog gG gl [(65, conF (cOne (cI .i64)) (rOne (cI .i64)) (fun a => f65 a))] from ⟨sp65, trivial⟩) fnOk joinOk
theorem ev51 (a : (cOne (cI .i64)).T) : evF (R := (rOne (cI .i64)).T) (cx [(65, conF (cOne (cI .i64)) (rOne (cI .i64)) (fun a => f65 a))]) 1000 Tryd.f51 ((cOne (cI .i64)).enc a) (glMem gl) gG (rOne (cI .i64)).dec = f51 a := evg51 f65 a
theorem sp51 : VE.Spec Tryd.prog gG gl 51 (conF (cOne (cI .i64)) (rOne (cI .i64)) (fun a => f51 a)) := spec_of ok51 Tryd.func51 Tryd.call51 1000 (cOne_ok (cI_ok _)) (rOne_ok (cI_ok _)) ev51
noncomputable abbrev con51 : List (Nat × (List AV → Option ConR)) := [(65, conF (cOne (cI .i64)) (rOne (cI .i64)) (fun a => f65 a))]

/-- dancestudioref18.Mirror -/
noncomputable def f52 (a : Int) (b : Nat → Int) : Option ((Nat → Int) × Int) :=
 Option.bind (f39 a b) (fun r2 =>
 cond (!decide (r2 = 0)) (
 some ((nthI [0, 0, 0], r2))) (
 Option.bind (f51 (b 0)) (fun r3 =>
 some ((nthI [r3, b 1, b 2], 0)))))
theorem evg52 (f39 : (Int) → (Nat → Int) → Option (Int)) (f51 : (Int) → Option (Int)) (xx : (cCons (cI .i64) (cOne (cA .i64 3))).T) : evF (R := (rTup (cCons (cA .i64 3) (cOne (cI .i64)))).T) (cx [(39, conF (cCons (cI .i64) (cOne (cA .i64 3))) (rOne (cI .i64)) (fun a => f39 a.1 a.2)), (51, conF (cOne (cI .i64)) (rOne (cI .i64)) (fun a => f51 a))]) 1000 Tryd.f52 ((cCons (cI .i64) (cOne (cA .i64 3))).enc xx) (glMem gl) gG (rTup (cCons (cA .i64 3) (cOne (cI .i64)))).dec =
 (fun (a : Int) (b : Nat → Int) =>
 (( Option.bind (f39 a (nthI [b 0, b 1, b 2])) (fun r2 =>
 cond (!decide (r2 = 0)) (
 some ((nthI [0, 0, 0], r2))) (
 Option.bind (f51 (b 0)) (fun r3 =>
 some ((nthI [r3, b 1, b 2], 0)))))) : Option ((Nat → Int) × Int))) xx.1 xx.2 := by kernel_rfl
theorem ok52 : CtxOK Tryd.prog (cx [(39, conF (cCons (cI .i64) (cOne (cA .i64 3))) (rOne (cI .i64)) (fun a => f39 a.1 a.2)), (51, conF (cOne (cI .i64)) (rOne (cI .i64)) (fun a => f51 a))]) gl := ctx_of tyOk moOk (show SpecL Tryd.prog gG gl [(39, conF (cCons (cI .i64) (cOne (cA .i64 3))) (rOne (cI .i64)) (fun a => f39 a.1 a.2)), (51, conF (cOne (cI .i64)) (rOne (cI .i64)) (fun a => f51 a))] from ⟨sp39, sp51, trivial⟩) fnOk joinOk
noncomputable def g52 (a : Int) (b : Nat → Int) : Option ((Nat → Int) × Int) :=
 Option.bind (f39 a (nthI [b 0, b 1, b 2])) (fun r2 =>
 cond (!decide (r2 = 0)) (
 some ((nthI [0, 0, 0], r2))) (
 Option.bind (f51 (b 0)) (fun r3 =>
 some ((nthI [r3, b 1, b 2], 0)))))
theorem fg52 (a : Int) (b : Nat → Int) : g52 a b = f52 a b := by kernel_rfl
theorem ev52 (a : (cCons (cI .i64) (cOne (cA .i64 3))).T) : evF (R := (rTup (cCons (cA .i64 3) (cOne (cI .i64)))).T) (cx [(39, conF (cCons (cI .i64) (cOne (cA .i64 3))) (rOne (cI .i64)) (fun a => f39 a.1 a.2)), (51, conF (cOne (cI .i64)) (rOne (cI .i64)) (fun a => f51 a))]) 1000 Tryd.f52 ((cCons (cI .i64) (cOne (cA .i64 3))).enc a) (glMem gl) gG (rTup (cCons (cA .i64 3) (cOne (cI .i64)))).dec = f52 a.1 a.2 := (show evF (R := (rTup (cCons (cA .i64 3) (cOne (cI .i64)))).T) (cx [(39, conF (cCons (cI .i64) (cOne (cA .i64 3))) (rOne (cI .i64)) (fun a => f39 a.1 a.2)), (51, conF (cOne (cI .i64)) (rOne (cI .i64)) (fun a => f51 a))]) 1000 Tryd.f52 ((cCons (cI .i64) (cOne (cA .i64 3))).enc a) (glMem gl) gG (rTup (cCons (cA .i64 3) (cOne (cI .i64)))).dec = g52 a.1 a.2 from evg52 f39 f51 a).trans (fg52 a.1 a.2)
theorem sp52 : VE.Spec Tryd.prog gG gl 52 (conF (cCons (cI .i64) (cOne (cA .i64 3))) (rTup (cCons (cA .i64 3) (cOne (cI .i64)))) (fun a => f52 a.1 a.2)) := spec_of ok52 Tryd.func52 Tryd.call52 1000 (cCons_ok (cI_ok _) (cOne_ok (cA_ok _ _))) (rTup_ok (cCons_ok (cA_ok _ _) (cOne_ok (cI_ok _)))) ev52
noncomputable abbrev con52 : List (Nat × (List AV → Option ConR)) := [(39, conF (cCons (cI .i64) (cOne (cA .i64 3))) (rOne (cI .i64)) (fun a => f39 a.1 a.2)), (51, conF (cOne (cI .i64)) (rOne (cI .i64)) (fun a => f51 a))]

/-- dancestudioref19.MirrorPose -/
noncomputable def f27 (a : Nat → Int) : Option ((Nat → Int) × Int) :=
 Option.bind (f19 a) (fun r1 =>
 cond (!decide (r1 = 0)) (
 some ((nthI tab0, r1))) (
 Option.bind (f51 (a 2)) (fun r2 =>
 Option.bind (f52 1 (nthI [a 7, a 8, a 9])) (fun r3 =>
 Option.bind (f52 0 (nthI [a 4, a 5, a 6])) (fun r4 =>
 Option.bind (f52 2 (nthI [a 10, a 11, a 12])) (fun r5 =>
 Option.bind (f52 4 (nthI [a 16, a 17, a 18])) (fun r6 =>
 Option.bind (f52 3 (nthI [a 13, a 14, a 15])) (fun r7 =>
 Option.bind (f52 5 (nthI [a 19, a 20, a 21])) (fun r8 =>
 some ((nthI [IntKind.i64.wrap (0 - a 0), a 1, r2, a 3, r3.fst 0, r3.fst 1, r3.fst 2, r4.fst 0, r4.fst 1, r4.fst 2, r5.fst 0, r5.fst 1, r5.fst 2, r6.fst 0, r6.fst 1, r6.fst 2, r7.fst 0, r7.fst 1, r7.fst 2, r8.fst 0, r8.fst 1, r8.fst 2], 0)))))))))))
theorem evg27 (f19 : (Nat → Int) → Option (Int)) (f51 : (Int) → Option (Int)) (f52 : (Int) → (Nat → Int) → Option ((Nat → Int) × Int)) (xx : (cOne (cA .i64 22)).T) : evF (R := (rTup (cCons (cA .i64 22) (cOne (cI .i64)))).T) (cx [(19, conF (cOne (cA .i64 22)) (rOne (cI .i64)) (fun a => f19 a)), (47, conF (cOne (cI .i64)) (rTup (cCons (cI .i64) (cOne (cI .i64)))) (fun a => f47 a)), (51, conF (cOne (cI .i64)) (rOne (cI .i64)) (fun a => f51 a)), (52, conF (cCons (cI .i64) (cOne (cA .i64 3))) (rTup (cCons (cA .i64 3) (cOne (cI .i64)))) (fun a => f52 a.1 a.2))]) 1000 Tryd.f27 ((cOne (cA .i64 22)).enc xx) (glMem gl) gG (rTup (cCons (cA .i64 22) (cOne (cI .i64)))).dec =
 (fun (a : Nat → Int) =>
 (( Option.bind (f19 (nthI [a 0, a 1, a 2, a 3, a 4, a 5, a 6, a 7, a 8, a 9, a 10, a 11, a 12, a 13, a 14, a 15, a 16, a 17, a 18, a 19, a 20, a 21])) (fun r1 =>
 cond (!decide (r1 = 0)) (
 some ((nthI tab0, r1))) (
 Option.bind (f51 (a 2)) (fun r2 =>
 Option.bind (f52 1 (nthI [a 7, a 8, a 9])) (fun r3 =>
 Option.bind (f52 0 (nthI [a 4, a 5, a 6])) (fun r4 =>
 Option.bind (f52 2 (nthI [a 10, a 11, a 12])) (fun r5 =>
 Option.bind (f52 4 (nthI [a 16, a 17, a 18])) (fun r6 =>
 Option.bind (f52 3 (nthI [a 13, a 14, a 15])) (fun r7 =>
 Option.bind (f52 5 (nthI [a 19, a 20, a 21])) (fun r8 =>
 some ((nthI [IntKind.i64.wrap (0 - a 0), a 1, r2, a 3, r3.fst 0, r3.fst 1, r3.fst 2, r4.fst 0, r4.fst 1, r4.fst 2, r5.fst 0, r5.fst 1, r5.fst 2, r6.fst 0, r6.fst 1, r6.fst 2, r7.fst 0, r7.fst 1, r7.fst 2, r8.fst 0, r8.fst 1, r8.fst 2], 0)))))))))))) : Option ((Nat → Int) × Int))) xx := by kernel_rfl
theorem ok27 : CtxOK Tryd.prog (cx [(19, conF (cOne (cA .i64 22)) (rOne (cI .i64)) (fun a => f19 a)), (47, conF (cOne (cI .i64)) (rTup (cCons (cI .i64) (cOne (cI .i64)))) (fun a => f47 a)), (51, conF (cOne (cI .i64)) (rOne (cI .i64)) (fun a => f51 a)), (52, conF (cCons (cI .i64) (cOne (cA .i64 3))) (rTup (cCons (cA .i64 3) (cOne (cI .i64)))) (fun a => f52 a.1 a.2))]) gl := ctx_of tyOk moOk (show SpecL Tryd.prog gG gl [(19, conF (cOne (cA .i64 22)) (rOne (cI .i64)) (fun a => f19 a)), (47, conF (cOne (cI .i64)) (rTup (cCons (cI .i64) (cOne (cI .i64)))) (fun a => f47 a)), (51, conF (cOne (cI .i64)) (rOne (cI .i64)) (fun a => f51 a)), (52, conF (cCons (cI .i64) (cOne (cA .i64 3))) (rTup (cCons (cA .i64 3) (cOne (cI .i64)))) (fun a => f52 a.1 a.2))] from ⟨sp19, sp47, sp51, sp52, trivial⟩) fnOk joinOk
noncomputable def g27 (a : Nat → Int) : Option ((Nat → Int) × Int) :=
 Option.bind (f19 (nthI [a 0, a 1, a 2, a 3, a 4, a 5, a 6, a 7, a 8, a 9, a 10, a 11, a 12, a 13, a 14, a 15, a 16, a 17, a 18, a 19, a 20, a 21])) (fun r1 =>
 cond (!decide (r1 = 0)) (
 some ((nthI tab0, r1))) (
 Option.bind (f51 (a 2)) (fun r2 =>
 Option.bind (f52 1 (nthI [a 7, a 8, a 9])) (fun r3 =>
 Option.bind (f52 0 (nthI [a 4, a 5, a 6])) (fun r4 =>
 Option.bind (f52 2 (nthI [a 10, a 11, a 12])) (fun r5 =>
 Option.bind (f52 4 (nthI [a 16, a 17, a 18])) (fun r6 =>
 Option.bind (f52 3 (nthI [a 13, a 14, a 15])) (fun r7 =>
 Option.bind (f52 5 (nthI [a 19, a 20, a 21])) (fun r8 =>
 some ((nthI [IntKind.i64.wrap (0 - a 0), a 1, r2, a 3, r3.fst 0, r3.fst 1, r3.fst 2, r4.fst 0, r4.fst 1, r4.fst 2, r5.fst 0, r5.fst 1, r5.fst 2, r6.fst 0, r6.fst 1, r6.fst 2, r7.fst 0, r7.fst 1, r7.fst 2, r8.fst 0, r8.fst 1, r8.fst 2], 0)))))))))))
theorem fg27 (a : Nat → Int) : g27 a = f27 a := by kernel_rfl
theorem ev27 (a : (cOne (cA .i64 22)).T) : evF (R := (rTup (cCons (cA .i64 22) (cOne (cI .i64)))).T) (cx [(19, conF (cOne (cA .i64 22)) (rOne (cI .i64)) (fun a => f19 a)), (47, conF (cOne (cI .i64)) (rTup (cCons (cI .i64) (cOne (cI .i64)))) (fun a => f47 a)), (51, conF (cOne (cI .i64)) (rOne (cI .i64)) (fun a => f51 a)), (52, conF (cCons (cI .i64) (cOne (cA .i64 3))) (rTup (cCons (cA .i64 3) (cOne (cI .i64)))) (fun a => f52 a.1 a.2))]) 1000 Tryd.f27 ((cOne (cA .i64 22)).enc a) (glMem gl) gG (rTup (cCons (cA .i64 22) (cOne (cI .i64)))).dec = f27 a := (show evF (R := (rTup (cCons (cA .i64 22) (cOne (cI .i64)))).T) (cx [(19, conF (cOne (cA .i64 22)) (rOne (cI .i64)) (fun a => f19 a)), (47, conF (cOne (cI .i64)) (rTup (cCons (cI .i64) (cOne (cI .i64)))) (fun a => f47 a)), (51, conF (cOne (cI .i64)) (rOne (cI .i64)) (fun a => f51 a)), (52, conF (cCons (cI .i64) (cOne (cA .i64 3))) (rTup (cCons (cA .i64 3) (cOne (cI .i64)))) (fun a => f52 a.1 a.2))]) 1000 Tryd.f27 ((cOne (cA .i64 22)).enc a) (glMem gl) gG (rTup (cCons (cA .i64 22) (cOne (cI .i64)))).dec = g27 a from evg27 f19 f51 f52 a).trans (fg27 a)
theorem sp27 : VE.Spec Tryd.prog gG gl 27 (conF (cOne (cA .i64 22)) (rTup (cCons (cA .i64 22) (cOne (cI .i64)))) (fun a => f27 a)) := spec_of ok27 Tryd.func27 Tryd.call27 1000 (cOne_ok (cA_ok _ _)) (rTup_ok (cCons_ok (cA_ok _ _) (cOne_ok (cI_ok _)))) ev27
noncomputable abbrev con27 : List (Nat × (List AV → Option ConR)) := [(19, conF (cOne (cA .i64 22)) (rOne (cI .i64)) (fun a => f19 a)), (47, conF (cOne (cI .i64)) (rTup (cCons (cI .i64) (cOne (cI .i64)))) (fun a => f47 a)), (51, conF (cOne (cI .i64)) (rOne (cI .i64)) (fun a => f51 a)), (52, conF (cCons (cI .i64) (cOne (cA .i64 3))) (rTup (cCons (cA .i64 3) (cOne (cI .i64)))) (fun a => f52 a.1 a.2))]

/-- dancestudiolaw19.PostureMirrors -/
noncomputable def f8 (a : Nat → Int) (b : Nat → Int) : Option (Bool) :=
 Option.bind (f24 a) (fun r2 =>
 Option.bind (f25 a) (fun r3 =>
 Option.bind (f26 b) (fun r4 =>
 Option.bind (f27 b) (fun r5 =>
 cond (decide (r2.fst 0 = r3.fst 0) && decide (r2.fst 1 = r3.fst 1) && (decide (r2.fst 2 = r3.fst 2) && (decide (r2.fst 3 = r3.fst 3) && (decide (r2.fst 4 = r3.fst 4) && (decide (r2.fst 5 = r3.fst 5) && (decide (r2.fst 6 = r3.fst 6) && decide (r2.fst 7 = r3.fst 7)) && (decide (r2.fst 8 = r3.fst 8) && (decide (r2.fst 9 = r3.fst 9) && decide (r2.fst 10 = r3.fst 10)) && (decide (r2.fst 11 = r3.fst 11) && (decide (r2.fst 12 = r3.fst 12) && decide (r2.fst 13 = r3.fst 13)) && (decide (r2.fst 14 = r3.fst 14) && (decide (r2.fst 15 = r3.fst 15) && decide (r2.fst 16 = r3.fst 16)) && (decide (r2.fst 17 = r3.fst 17) && (decide (r2.fst 18 = r3.fst 18) && decide (r2.fst 19 = r3.fst 19)) && (decide (r2.fst 20 = r3.fst 20) && (decide (r2.fst 21 = r3.fst 21) && decide (r2.fst 22 = r3.fst 22)))))))))))) (
 cond (decide (r2.snd = r3.snd)) (
 cond (decide (r4.fst 0 = r5.fst 0) && decide (r4.fst 1 = r5.fst 1) && (decide (r4.fst 2 = r5.fst 2) && (decide (r4.fst 3 = r5.fst 3) && (decide (r4.fst 4 = r5.fst 4) && (decide (r4.fst 5 = r5.fst 5) && decide (r4.fst 6 = r5.fst 6)) && (decide (r4.fst 7 = r5.fst 7) && (decide (r4.fst 8 = r5.fst 8) && decide (r4.fst 9 = r5.fst 9)) && (decide (r4.fst 10 = r5.fst 10) && (decide (r4.fst 11 = r5.fst 11) && decide (r4.fst 12 = r5.fst 12)) && (decide (r4.fst 13 = r5.fst 13) && (decide (r4.fst 14 = r5.fst 14) && decide (r4.fst 15 = r5.fst 15)) && (decide (r4.fst 16 = r5.fst 16) && (decide (r4.fst 17 = r5.fst 17) && decide (r4.fst 18 = r5.fst 18)) && (decide (r4.fst 19 = r5.fst 19) && (decide (r4.fst 20 = r5.fst 20) && decide (r4.fst 21 = r5.fst 21))))))))))) (
 cond (decide (r4.snd = r5.snd)) (
 some (true)) (
 some (false))) (
 some (false))) (
 some (false))) (
 some (false))))))
theorem evg8 (f24 : (Nat → Int) → Option ((Nat → Int) × Int)) (f25 : (Nat → Int) → Option ((Nat → Int) × Int)) (f26 : (Nat → Int) → Option ((Nat → Int) × Int)) (f27 : (Nat → Int) → Option ((Nat → Int) × Int)) (xx : (cCons (cA .i64 23) (cOne (cA .i64 22))).T) : evF (R := (rOne (cB)).T) (cx [(15, conF (cNil) (rOne (cB)) (fun a => f15)), (24, conF (cOne (cA .i64 23)) (rTup (cCons (cA .i64 23) (cOne (cI .i64)))) (fun a => f24 a)), (25, conF (cOne (cA .i64 23)) (rTup (cCons (cA .i64 23) (cOne (cI .i64)))) (fun a => f25 a)), (26, conF (cOne (cA .i64 22)) (rTup (cCons (cA .i64 22) (cOne (cI .i64)))) (fun a => f26 a)), (27, conF (cOne (cA .i64 22)) (rTup (cCons (cA .i64 22) (cOne (cI .i64)))) (fun a => f27 a))]) 1000 Tryd.f8 ((cCons (cA .i64 23) (cOne (cA .i64 22))).enc xx) (glMem gl) gG (rOne (cB)).dec =
 (fun (a : Nat → Int) (b : Nat → Int) =>
 (( Option.bind (f24 (nthI [a 0, a 1, a 2, a 3, a 4, a 5, a 6, a 7, a 8, a 9, a 10, a 11, a 12, a 13, a 14, a 15, a 16, a 17, a 18, a 19, a 20, a 21, a 22])) (fun r2 =>
 Option.bind (f25 (nthI [a 0, a 1, a 2, a 3, a 4, a 5, a 6, a 7, a 8, a 9, a 10, a 11, a 12, a 13, a 14, a 15, a 16, a 17, a 18, a 19, a 20, a 21, a 22])) (fun r3 =>
 Option.bind (f26 (nthI [b 0, b 1, b 2, b 3, b 4, b 5, b 6, b 7, b 8, b 9, b 10, b 11, b 12, b 13, b 14, b 15, b 16, b 17, b 18, b 19, b 20, b 21])) (fun r4 =>
 Option.bind (f27 (nthI [b 0, b 1, b 2, b 3, b 4, b 5, b 6, b 7, b 8, b 9, b 10, b 11, b 12, b 13, b 14, b 15, b 16, b 17, b 18, b 19, b 20, b 21])) (fun r5 =>
 cond (decide (r2.fst 0 = r3.fst 0) && decide (r2.fst 1 = r3.fst 1) && (decide (r2.fst 2 = r3.fst 2) && (decide (r2.fst 3 = r3.fst 3) && (decide (r2.fst 4 = r3.fst 4) && (decide (r2.fst 5 = r3.fst 5) && (decide (r2.fst 6 = r3.fst 6) && decide (r2.fst 7 = r3.fst 7)) && (decide (r2.fst 8 = r3.fst 8) && (decide (r2.fst 9 = r3.fst 9) && decide (r2.fst 10 = r3.fst 10)) && (decide (r2.fst 11 = r3.fst 11) && (decide (r2.fst 12 = r3.fst 12) && decide (r2.fst 13 = r3.fst 13)) && (decide (r2.fst 14 = r3.fst 14) && (decide (r2.fst 15 = r3.fst 15) && decide (r2.fst 16 = r3.fst 16)) && (decide (r2.fst 17 = r3.fst 17) && (decide (r2.fst 18 = r3.fst 18) && decide (r2.fst 19 = r3.fst 19)) && (decide (r2.fst 20 = r3.fst 20) && (decide (r2.fst 21 = r3.fst 21) && decide (r2.fst 22 = r3.fst 22)))))))))))) (
 cond (decide (r2.snd = r3.snd)) (
 cond (decide (r4.fst 0 = r5.fst 0) && decide (r4.fst 1 = r5.fst 1) && (decide (r4.fst 2 = r5.fst 2) && (decide (r4.fst 3 = r5.fst 3) && (decide (r4.fst 4 = r5.fst 4) && (decide (r4.fst 5 = r5.fst 5) && decide (r4.fst 6 = r5.fst 6)) && (decide (r4.fst 7 = r5.fst 7) && (decide (r4.fst 8 = r5.fst 8) && decide (r4.fst 9 = r5.fst 9)) && (decide (r4.fst 10 = r5.fst 10) && (decide (r4.fst 11 = r5.fst 11) && decide (r4.fst 12 = r5.fst 12)) && (decide (r4.fst 13 = r5.fst 13) && (decide (r4.fst 14 = r5.fst 14) && decide (r4.fst 15 = r5.fst 15)) && (decide (r4.fst 16 = r5.fst 16) && (decide (r4.fst 17 = r5.fst 17) && decide (r4.fst 18 = r5.fst 18)) && (decide (r4.fst 19 = r5.fst 19) && (decide (r4.fst 20 = r5.fst 20) && decide (r4.fst 21 = r5.fst 21))))))))))) (
 cond (decide (r4.snd = r5.snd)) (
 some (true)) (
 some (false))) (
 some (false))) (
 some (false))) (
 some (false))))))) : Option (Bool))) xx.1 xx.2 := by kernel_rfl
theorem ok8 : CtxOK Tryd.prog (cx [(15, conF (cNil) (rOne (cB)) (fun a => f15)), (24, conF (cOne (cA .i64 23)) (rTup (cCons (cA .i64 23) (cOne (cI .i64)))) (fun a => f24 a)), (25, conF (cOne (cA .i64 23)) (rTup (cCons (cA .i64 23) (cOne (cI .i64)))) (fun a => f25 a)), (26, conF (cOne (cA .i64 22)) (rTup (cCons (cA .i64 22) (cOne (cI .i64)))) (fun a => f26 a)), (27, conF (cOne (cA .i64 22)) (rTup (cCons (cA .i64 22) (cOne (cI .i64)))) (fun a => f27 a))]) gl := ctx_of tyOk moOk (show SpecL Tryd.prog gG gl [(15, conF (cNil) (rOne (cB)) (fun a => f15)), (24, conF (cOne (cA .i64 23)) (rTup (cCons (cA .i64 23) (cOne (cI .i64)))) (fun a => f24 a)), (25, conF (cOne (cA .i64 23)) (rTup (cCons (cA .i64 23) (cOne (cI .i64)))) (fun a => f25 a)), (26, conF (cOne (cA .i64 22)) (rTup (cCons (cA .i64 22) (cOne (cI .i64)))) (fun a => f26 a)), (27, conF (cOne (cA .i64 22)) (rTup (cCons (cA .i64 22) (cOne (cI .i64)))) (fun a => f27 a))] from ⟨sp15, sp24, sp25, sp26, sp27, trivial⟩) fnOk joinOk
noncomputable def g8 (a : Nat → Int) (b : Nat → Int) : Option (Bool) :=
 Option.bind (f24 (nthI [a 0, a 1, a 2, a 3, a 4, a 5, a 6, a 7, a 8, a 9, a 10, a 11, a 12, a 13, a 14, a 15, a 16, a 17, a 18, a 19, a 20, a 21, a 22])) (fun r2 =>
 Option.bind (f25 (nthI [a 0, a 1, a 2, a 3, a 4, a 5, a 6, a 7, a 8, a 9, a 10, a 11, a 12, a 13, a 14, a 15, a 16, a 17, a 18, a 19, a 20, a 21, a 22])) (fun r3 =>
 Option.bind (f26 (nthI [b 0, b 1, b 2, b 3, b 4, b 5, b 6, b 7, b 8, b 9, b 10, b 11, b 12, b 13, b 14, b 15, b 16, b 17, b 18, b 19, b 20, b 21])) (fun r4 =>
 Option.bind (f27 (nthI [b 0, b 1, b 2, b 3, b 4, b 5, b 6, b 7, b 8, b 9, b 10, b 11, b 12, b 13, b 14, b 15, b 16, b 17, b 18, b 19, b 20, b 21])) (fun r5 =>
 cond (decide (r2.fst 0 = r3.fst 0) && decide (r2.fst 1 = r3.fst 1) && (decide (r2.fst 2 = r3.fst 2) && (decide (r2.fst 3 = r3.fst 3) && (decide (r2.fst 4 = r3.fst 4) && (decide (r2.fst 5 = r3.fst 5) && (decide (r2.fst 6 = r3.fst 6) && decide (r2.fst 7 = r3.fst 7)) && (decide (r2.fst 8 = r3.fst 8) && (decide (r2.fst 9 = r3.fst 9) && decide (r2.fst 10 = r3.fst 10)) && (decide (r2.fst 11 = r3.fst 11) && (decide (r2.fst 12 = r3.fst 12) && decide (r2.fst 13 = r3.fst 13)) && (decide (r2.fst 14 = r3.fst 14) && (decide (r2.fst 15 = r3.fst 15) && decide (r2.fst 16 = r3.fst 16)) && (decide (r2.fst 17 = r3.fst 17) && (decide (r2.fst 18 = r3.fst 18) && decide (r2.fst 19 = r3.fst 19)) && (decide (r2.fst 20 = r3.fst 20) && (decide (r2.fst 21 = r3.fst 21) && decide (r2.fst 22 = r3.fst 22)))))))))))) (
 cond (decide (r2.snd = r3.snd)) (
 cond (decide (r4.fst 0 = r5.fst 0) && decide (r4.fst 1 = r5.fst 1) && (decide (r4.fst 2 = r5.fst 2) && (decide (r4.fst 3 = r5.fst 3) && (decide (r4.fst 4 = r5.fst 4) && (decide (r4.fst 5 = r5.fst 5) && decide (r4.fst 6 = r5.fst 6)) && (decide (r4.fst 7 = r5.fst 7) && (decide (r4.fst 8 = r5.fst 8) && decide (r4.fst 9 = r5.fst 9)) && (decide (r4.fst 10 = r5.fst 10) && (decide (r4.fst 11 = r5.fst 11) && decide (r4.fst 12 = r5.fst 12)) && (decide (r4.fst 13 = r5.fst 13) && (decide (r4.fst 14 = r5.fst 14) && decide (r4.fst 15 = r5.fst 15)) && (decide (r4.fst 16 = r5.fst 16) && (decide (r4.fst 17 = r5.fst 17) && decide (r4.fst 18 = r5.fst 18)) && (decide (r4.fst 19 = r5.fst 19) && (decide (r4.fst 20 = r5.fst 20) && decide (r4.fst 21 = r5.fst 21))))))))))) (
 cond (decide (r4.snd = r5.snd)) (
 some (true)) (
 some (false))) (
 some (false))) (
 some (false))) (
 some (false))))))
theorem fg8 (a : Nat → Int) (b : Nat → Int) : g8 a b = f8 a b := by kernel_rfl
theorem ev8 (a : (cCons (cA .i64 23) (cOne (cA .i64 22))).T) : evF (R := (rOne (cB)).T) (cx [(15, conF (cNil) (rOne (cB)) (fun a => f15)), (24, conF (cOne (cA .i64 23)) (rTup (cCons (cA .i64 23) (cOne (cI .i64)))) (fun a => f24 a)), (25, conF (cOne (cA .i64 23)) (rTup (cCons (cA .i64 23) (cOne (cI .i64)))) (fun a => f25 a)), (26, conF (cOne (cA .i64 22)) (rTup (cCons (cA .i64 22) (cOne (cI .i64)))) (fun a => f26 a)), (27, conF (cOne (cA .i64 22)) (rTup (cCons (cA .i64 22) (cOne (cI .i64)))) (fun a => f27 a))]) 1000 Tryd.f8 ((cCons (cA .i64 23) (cOne (cA .i64 22))).enc a) (glMem gl) gG (rOne (cB)).dec = f8 a.1 a.2 := (show evF (R := (rOne (cB)).T) (cx [(15, conF (cNil) (rOne (cB)) (fun a => f15)), (24, conF (cOne (cA .i64 23)) (rTup (cCons (cA .i64 23) (cOne (cI .i64)))) (fun a => f24 a)), (25, conF (cOne (cA .i64 23)) (rTup (cCons (cA .i64 23) (cOne (cI .i64)))) (fun a => f25 a)), (26, conF (cOne (cA .i64 22)) (rTup (cCons (cA .i64 22) (cOne (cI .i64)))) (fun a => f26 a)), (27, conF (cOne (cA .i64 22)) (rTup (cCons (cA .i64 22) (cOne (cI .i64)))) (fun a => f27 a))]) 1000 Tryd.f8 ((cCons (cA .i64 23) (cOne (cA .i64 22))).enc a) (glMem gl) gG (rOne (cB)).dec = g8 a.1 a.2 from evg8 f24 f25 f26 f27 a).trans (fg8 a.1 a.2)
theorem sp8 : VE.Spec Tryd.prog gG gl 8 (conF (cCons (cA .i64 23) (cOne (cA .i64 22))) (rOne (cB)) (fun a => f8 a.1 a.2)) := spec_of ok8 Tryd.func8 Tryd.call8 1000 (cCons_ok (cA_ok _ _) (cOne_ok (cA_ok _ _))) (rOne_ok (cB_ok)) ev8
noncomputable abbrev con8 : List (Nat × (List AV → Option ConR)) := [(15, conF (cNil) (rOne (cB)) (fun a => f15)), (24, conF (cOne (cA .i64 23)) (rTup (cCons (cA .i64 23) (cOne (cI .i64)))) (fun a => f24 a)), (25, conF (cOne (cA .i64 23)) (rTup (cCons (cA .i64 23) (cOne (cI .i64)))) (fun a => f25 a)), (26, conF (cOne (cA .i64 22)) (rTup (cCons (cA .i64 22) (cOne (cI .i64)))) (fun a => f26 a)), (27, conF (cOne (cA .i64 22)) (rTup (cCons (cA .i64 22) (cOne (cI .i64)))) (fun a => f27 a))]

/-- dancestudiolaw19.PostureMoves -/
noncomputable def f9 (a : Nat → Int) (b : Int) : Option (Bool) :=
 Option.bind (f11 a) (fun r2 =>
 cond (!decide (r2.snd = 0)) (
 some (true)) (
 Option.bind (f24 a) (fun r3 =>
 Option.bind (f11 r3.fst) (fun r4 =>
 Option.bind (f26 r2.fst) (fun r5 =>
 cond (!decide (r3.snd = 0)) (
 some (false)) (
 cond (!decide (r4.snd = 0)) (
 some (false)) (
 cond (!decide (r5.snd = 0)) (
 some (false)) (
 cond (!(decide (r4.fst 0 = r5.fst 0) && decide (r4.fst 1 = r5.fst 1) && (decide (r4.fst 2 = r5.fst 2) && (decide (r4.fst 3 = r5.fst 3) && (decide (r4.fst 4 = r5.fst 4) && (decide (r4.fst 5 = r5.fst 5) && decide (r4.fst 6 = r5.fst 6)) && (decide (r4.fst 7 = r5.fst 7) && (decide (r4.fst 8 = r5.fst 8) && decide (r4.fst 9 = r5.fst 9)) && (decide (r4.fst 10 = r5.fst 10) && (decide (r4.fst 11 = r5.fst 11) && decide (r4.fst 12 = r5.fst 12)) && (decide (r4.fst 13 = r5.fst 13) && (decide (r4.fst 14 = r5.fst 14) && decide (r4.fst 15 = r5.fst 15)) && (decide (r4.fst 16 = r5.fst 16) && (decide (r4.fst 17 = r5.fst 17) && decide (r4.fst 18 = r5.fst 18)) && (decide (r4.fst 19 = r5.fst 19) && (decide (r4.fst 20 = r5.fst 20) && decide (r4.fst 21 = r5.fst 21)))))))))))) (
 some (false)) (
 Option.bind (f20 a b) (fun r6 =>
 Option.bind (f11 r6.fst) (fun r7 =>
 Option.bind (f22 r2.fst b) (fun r8 =>
 cond (decide (r6.snd = 0)) (
 cond (decide (r7.snd = 0)) (
 cond (decide (r8.snd = 0)) (
 cond (decide (r7.fst 0 = r8.fst 0) && decide (r7.fst 1 = r8.fst 1) && (decide (r7.fst 2 = r8.fst 2) && (decide (r7.fst 3 = r8.fst 3) && (decide (r7.fst 4 = r8.fst 4) && (decide (r7.fst 5 = r8.fst 5) && decide (r7.fst 6 = r8.fst 6)) && (decide (r7.fst 7 = r8.fst 7) && (decide (r7.fst 8 = r8.fst 8) && decide (r7.fst 9 = r8.fst 9)) && (decide (r7.fst 10 = r8.fst 10) && (decide (r7.fst 11 = r8.fst 11) && decide (r7.fst 12 = r8.fst 12)) && (decide (r7.fst 13 = r8.fst 13) && (decide (r7.fst 14 = r8.fst 14) && decide (r7.fst 15 = r8.fst 15)) && (decide (r7.fst 16 = r8.fst 16) && (decide (r7.fst 17 = r8.fst 17) && decide (r7.fst 18 = r8.fst 18)) && (decide (r7.fst 19 = r8.fst 19) && (decide (r7.fst 20 = r8.fst 20) && decide (r7.fst 21 = r8.fst 21))))))))))) (
 some (true)) (
 some (false))) (
 some (false))) (
 some (false))) (
 some (false))))))))))))))
theorem evg9 (f11 : (Nat → Int) → Option ((Nat → Int) × Int)) (f20 : (Nat → Int) → (Int) → Option ((Nat → Int) × Int)) (f22 : (Nat → Int) → (Int) → Option ((Nat → Int) × Int)) (f24 : (Nat → Int) → Option ((Nat → Int) × Int)) (f26 : (Nat → Int) → Option ((Nat → Int) × Int)) (xx : (cCons (cA .i64 23) (cOne (cI .i64))).T) : evF (R := (rOne (cB)).T) (cx [(11, conF (cOne (cA .i64 23)) (rTup (cCons (cA .i64 22) (cOne (cI .i64)))) (fun a => f11 a)), (15, conF (cNil) (rOne (cB)) (fun a => f15)), (20, conF (cCons (cA .i64 23) (cOne (cI .i64))) (rTup (cCons (cA .i64 23) (cOne (cI .i64)))) (fun a => f20 a.1 a.2)), (22, conF (cCons (cA .i64 22) (cOne (cI .i64))) (rTup (cCons (cA .i64 22) (cOne (cI .i64)))) (fun a => f22 a.1 a.2)), (24, conF (cOne (cA .i64 23)) (rTup (cCons (cA .i64 23) (cOne (cI .i64)))) (fun a => f24 a)), (26, conF (cOne (cA .i64 22)) (rTup (cCons (cA .i64 22) (cOne (cI .i64)))) (fun a => f26 a))]) 1000 Tryd.f9 ((cCons (cA .i64 23) (cOne (cI .i64))).enc xx) (glMem gl) gG (rOne (cB)).dec =
 (fun (a : Nat → Int) (b : Int) =>
 (( Option.bind (f11 (nthI [a 0, a 1, a 2, a 3, a 4, a 5, a 6, a 7, a 8, a 9, a 10, a 11, a 12, a 13, a 14, a 15, a 16, a 17, a 18, a 19, a 20, a 21, a 22])) (fun r2 =>
 cond (!decide (r2.snd = 0)) (
 some (true)) (
 Option.bind (f24 (nthI [a 0, a 1, a 2, a 3, a 4, a 5, a 6, a 7, a 8, a 9, a 10, a 11, a 12, a 13, a 14, a 15, a 16, a 17, a 18, a 19, a 20, a 21, a 22])) (fun r3 =>
 Option.bind (f11 (nthI [r3.fst 0, r3.fst 1, r3.fst 2, r3.fst 3, r3.fst 4, r3.fst 5, r3.fst 6, r3.fst 7, r3.fst 8, r3.fst 9, r3.fst 10, r3.fst 11, r3.fst 12, r3.fst 13, r3.fst 14, r3.fst 15, r3.fst 16, r3.fst 17, r3.fst 18, r3.fst 19, r3.fst 20, r3.fst 21, r3.fst 22])) (fun r4 =>
 Option.bind (f26 (nthI [r2.fst 0, r2.fst 1, r2.fst 2, r2.fst 3, r2.fst 4, r2.fst 5, r2.fst 6, r2.fst 7, r2.fst 8, r2.fst 9, r2.fst 10, r2.fst 11, r2.fst 12, r2.fst 13, r2.fst 14, r2.fst 15, r2.fst 16, r2.fst 17, r2.fst 18, r2.fst 19, r2.fst 20, r2.fst 21])) (fun r5 =>
 cond (!decide (r3.snd = 0)) (
 some (false)) (
 cond (!decide (r4.snd = 0)) (
 some (false)) (
 cond (!decide (r5.snd = 0)) (
 some (false)) (
 cond (!(decide (r4.fst 0 = r5.fst 0) && decide (r4.fst 1 = r5.fst 1) && (decide (r4.fst 2 = r5.fst 2) && (decide (r4.fst 3 = r5.fst 3) && (decide (r4.fst 4 = r5.fst 4) && (decide (r4.fst 5 = r5.fst 5) && decide (r4.fst 6 = r5.fst 6)) && (decide (r4.fst 7 = r5.fst 7) && (decide (r4.fst 8 = r5.fst 8) && decide (r4.fst 9 = r5.fst 9)) && (decide (r4.fst 10 = r5.fst 10) && (decide (r4.fst 11 = r5.fst 11) && decide (r4.fst 12 = r5.fst 12)) && (decide (r4.fst 13 = r5.fst 13) && (decide (r4.fst 14 = r5.fst 14) && decide (r4.fst 15 = r5.fst 15)) && (decide (r4.fst 16 = r5.fst 16) && (decide (r4.fst 17 = r5.fst 17) && decide (r4.fst 18 = r5.fst 18)) && (decide (r4.fst 19 = r5.fst 19) && (decide (r4.fst 20 = r5.fst 20) && decide (r4.fst 21 = r5.fst 21)))))))))))) (
 some (false)) (
 Option.bind (f20 (nthI [a 0, a 1, a 2, a 3, a 4, a 5, a 6, a 7, a 8, a 9, a 10, a 11, a 12, a 13, a 14, a 15, a 16, a 17, a 18, a 19, a 20, a 21, a 22]) b) (fun r6 =>
 Option.bind (f11 (nthI [r6.fst 0, r6.fst 1, r6.fst 2, r6.fst 3, r6.fst 4, r6.fst 5, r6.fst 6, r6.fst 7, r6.fst 8, r6.fst 9, r6.fst 10, r6.fst 11, r6.fst 12, r6.fst 13, r6.fst 14, r6.fst 15, r6.fst 16, r6.fst 17, r6.fst 18, r6.fst 19, r6.fst 20, r6.fst 21, r6.fst 22])) (fun r7 =>
 Option.bind (f22 (nthI [r2.fst 0, r2.fst 1, r2.fst 2, r2.fst 3, r2.fst 4, r2.fst 5, r2.fst 6, r2.fst 7, r2.fst 8, r2.fst 9, r2.fst 10, r2.fst 11, r2.fst 12, r2.fst 13, r2.fst 14, r2.fst 15, r2.fst 16, r2.fst 17, r2.fst 18, r2.fst 19, r2.fst 20, r2.fst 21]) b) (fun r8 =>
 cond (decide (r6.snd = 0)) (
 cond (decide (r7.snd = 0)) (
 cond (decide (r8.snd = 0)) (
 cond (decide (r7.fst 0 = r8.fst 0) && decide (r7.fst 1 = r8.fst 1) && (decide (r7.fst 2 = r8.fst 2) && (decide (r7.fst 3 = r8.fst 3) && (decide (r7.fst 4 = r8.fst 4) && (decide (r7.fst 5 = r8.fst 5) && decide (r7.fst 6 = r8.fst 6)) && (decide (r7.fst 7 = r8.fst 7) && (decide (r7.fst 8 = r8.fst 8) && decide (r7.fst 9 = r8.fst 9)) && (decide (r7.fst 10 = r8.fst 10) && (decide (r7.fst 11 = r8.fst 11) && decide (r7.fst 12 = r8.fst 12)) && (decide (r7.fst 13 = r8.fst 13) && (decide (r7.fst 14 = r8.fst 14) && decide (r7.fst 15 = r8.fst 15)) && (decide (r7.fst 16 = r8.fst 16) && (decide (r7.fst 17 = r8.fst 17) && decide (r7.fst 18 = r8.fst 18)) && (decide (r7.fst 19 = r8.fst 19) && (decide (r7.fst 20 = r8.fst 20) && decide (r7.fst 21 = r8.fst 21))))))))))) (
 some (true)) (
 some (false))) (
 some (false))) (
 some (false))) (
 some (false))))))))))))))) : Option (Bool))) xx.1 xx.2 := by kernel_rfl
theorem ok9 : CtxOK Tryd.prog (cx [(11, conF (cOne (cA .i64 23)) (rTup (cCons (cA .i64 22) (cOne (cI .i64)))) (fun a => f11 a)), (15, conF (cNil) (rOne (cB)) (fun a => f15)), (20, conF (cCons (cA .i64 23) (cOne (cI .i64))) (rTup (cCons (cA .i64 23) (cOne (cI .i64)))) (fun a => f20 a.1 a.2)), (22, conF (cCons (cA .i64 22) (cOne (cI .i64))) (rTup (cCons (cA .i64 22) (cOne (cI .i64)))) (fun a => f22 a.1 a.2)), (24, conF (cOne (cA .i64 23)) (rTup (cCons (cA .i64 23) (cOne (cI .i64)))) (fun a => f24 a)), (26, conF (cOne (cA .i64 22)) (rTup (cCons (cA .i64 22) (cOne (cI .i64)))) (fun a => f26 a))]) gl := ctx_of tyOk moOk (show SpecL Tryd.prog gG gl [(11, conF (cOne (cA .i64 23)) (rTup (cCons (cA .i64 22) (cOne (cI .i64)))) (fun a => f11 a)), (15, conF (cNil) (rOne (cB)) (fun a => f15)), (20, conF (cCons (cA .i64 23) (cOne (cI .i64))) (rTup (cCons (cA .i64 23) (cOne (cI .i64)))) (fun a => f20 a.1 a.2)), (22, conF (cCons (cA .i64 22) (cOne (cI .i64))) (rTup (cCons (cA .i64 22) (cOne (cI .i64)))) (fun a => f22 a.1 a.2)), (24, conF (cOne (cA .i64 23)) (rTup (cCons (cA .i64 23) (cOne (cI .i64)))) (fun a => f24 a)), (26, conF (cOne (cA .i64 22)) (rTup (cCons (cA .i64 22) (cOne (cI .i64)))) (fun a => f26 a))] from ⟨sp11, sp15, sp20, sp22, sp24, sp26, trivial⟩) fnOk joinOk
noncomputable def g9 (a : Nat → Int) (b : Int) : Option (Bool) :=
 Option.bind (f11 (nthI [a 0, a 1, a 2, a 3, a 4, a 5, a 6, a 7, a 8, a 9, a 10, a 11, a 12, a 13, a 14, a 15, a 16, a 17, a 18, a 19, a 20, a 21, a 22])) (fun r2 =>
 cond (!decide (r2.snd = 0)) (
 some (true)) (
 Option.bind (f24 (nthI [a 0, a 1, a 2, a 3, a 4, a 5, a 6, a 7, a 8, a 9, a 10, a 11, a 12, a 13, a 14, a 15, a 16, a 17, a 18, a 19, a 20, a 21, a 22])) (fun r3 =>
 Option.bind (f11 (nthI [r3.fst 0, r3.fst 1, r3.fst 2, r3.fst 3, r3.fst 4, r3.fst 5, r3.fst 6, r3.fst 7, r3.fst 8, r3.fst 9, r3.fst 10, r3.fst 11, r3.fst 12, r3.fst 13, r3.fst 14, r3.fst 15, r3.fst 16, r3.fst 17, r3.fst 18, r3.fst 19, r3.fst 20, r3.fst 21, r3.fst 22])) (fun r4 =>
 Option.bind (f26 (nthI [r2.fst 0, r2.fst 1, r2.fst 2, r2.fst 3, r2.fst 4, r2.fst 5, r2.fst 6, r2.fst 7, r2.fst 8, r2.fst 9, r2.fst 10, r2.fst 11, r2.fst 12, r2.fst 13, r2.fst 14, r2.fst 15, r2.fst 16, r2.fst 17, r2.fst 18, r2.fst 19, r2.fst 20, r2.fst 21])) (fun r5 =>
 cond (!decide (r3.snd = 0)) (
 some (false)) (
 cond (!decide (r4.snd = 0)) (
 some (false)) (
 cond (!decide (r5.snd = 0)) (
 some (false)) (
 cond (!(decide (r4.fst 0 = r5.fst 0) && decide (r4.fst 1 = r5.fst 1) && (decide (r4.fst 2 = r5.fst 2) && (decide (r4.fst 3 = r5.fst 3) && (decide (r4.fst 4 = r5.fst 4) && (decide (r4.fst 5 = r5.fst 5) && decide (r4.fst 6 = r5.fst 6)) && (decide (r4.fst 7 = r5.fst 7) && (decide (r4.fst 8 = r5.fst 8) && decide (r4.fst 9 = r5.fst 9)) && (decide (r4.fst 10 = r5.fst 10) && (decide (r4.fst 11 = r5.fst 11) && decide (r4.fst 12 = r5.fst 12)) && (decide (r4.fst 13 = r5.fst 13) && (decide (r4.fst 14 = r5.fst 14) && decide (r4.fst 15 = r5.fst 15)) && (decide (r4.fst 16 = r5.fst 16) && (decide (r4.fst 17 = r5.fst 17) && decide (r4.fst 18 = r5.fst 18)) && (decide (r4.fst 19 = r5.fst 19) && (decide (r4.fst 20 = r5.fst 20) && decide (r4.fst 21 = r5.fst 21)))))))))))) (
 some (false)) (
 Option.bind (f20 (nthI [a 0, a 1, a 2, a 3, a 4, a 5, a 6, a 7, a 8, a 9, a 10, a 11, a 12, a 13, a 14, a 15, a 16, a 17, a 18, a 19, a 20, a 21, a 22]) b) (fun r6 =>
 Option.bind (f11 (nthI [r6.fst 0, r6.fst 1, r6.fst 2, r6.fst 3, r6.fst 4, r6.fst 5, r6.fst 6, r6.fst 7, r6.fst 8, r6.fst 9, r6.fst 10, r6.fst 11, r6.fst 12, r6.fst 13, r6.fst 14, r6.fst 15, r6.fst 16, r6.fst 17, r6.fst 18, r6.fst 19, r6.fst 20, r6.fst 21, r6.fst 22])) (fun r7 =>
 Option.bind (f22 (nthI [r2.fst 0, r2.fst 1, r2.fst 2, r2.fst 3, r2.fst 4, r2.fst 5, r2.fst 6, r2.fst 7, r2.fst 8, r2.fst 9, r2.fst 10, r2.fst 11, r2.fst 12, r2.fst 13, r2.fst 14, r2.fst 15, r2.fst 16, r2.fst 17, r2.fst 18, r2.fst 19, r2.fst 20, r2.fst 21]) b) (fun r8 =>
 cond (decide (r6.snd = 0)) (
 cond (decide (r7.snd = 0)) (
 cond (decide (r8.snd = 0)) (
 cond (decide (r7.fst 0 = r8.fst 0) && decide (r7.fst 1 = r8.fst 1) && (decide (r7.fst 2 = r8.fst 2) && (decide (r7.fst 3 = r8.fst 3) && (decide (r7.fst 4 = r8.fst 4) && (decide (r7.fst 5 = r8.fst 5) && decide (r7.fst 6 = r8.fst 6)) && (decide (r7.fst 7 = r8.fst 7) && (decide (r7.fst 8 = r8.fst 8) && decide (r7.fst 9 = r8.fst 9)) && (decide (r7.fst 10 = r8.fst 10) && (decide (r7.fst 11 = r8.fst 11) && decide (r7.fst 12 = r8.fst 12)) && (decide (r7.fst 13 = r8.fst 13) && (decide (r7.fst 14 = r8.fst 14) && decide (r7.fst 15 = r8.fst 15)) && (decide (r7.fst 16 = r8.fst 16) && (decide (r7.fst 17 = r8.fst 17) && decide (r7.fst 18 = r8.fst 18)) && (decide (r7.fst 19 = r8.fst 19) && (decide (r7.fst 20 = r8.fst 20) && decide (r7.fst 21 = r8.fst 21))))))))))) (
 some (true)) (
 some (false))) (
 some (false))) (
 some (false))) (
 some (false))))))))))))))
theorem fg9 (a : Nat → Int) (b : Int) : g9 a b = f9 a b := by kernel_rfl
theorem ev9 (a : (cCons (cA .i64 23) (cOne (cI .i64))).T) : evF (R := (rOne (cB)).T) (cx [(11, conF (cOne (cA .i64 23)) (rTup (cCons (cA .i64 22) (cOne (cI .i64)))) (fun a => f11 a)), (15, conF (cNil) (rOne (cB)) (fun a => f15)), (20, conF (cCons (cA .i64 23) (cOne (cI .i64))) (rTup (cCons (cA .i64 23) (cOne (cI .i64)))) (fun a => f20 a.1 a.2)), (22, conF (cCons (cA .i64 22) (cOne (cI .i64))) (rTup (cCons (cA .i64 22) (cOne (cI .i64)))) (fun a => f22 a.1 a.2)), (24, conF (cOne (cA .i64 23)) (rTup (cCons (cA .i64 23) (cOne (cI .i64)))) (fun a => f24 a)), (26, conF (cOne (cA .i64 22)) (rTup (cCons (cA .i64 22) (cOne (cI .i64)))) (fun a => f26 a))]) 1000 Tryd.f9 ((cCons (cA .i64 23) (cOne (cI .i64))).enc a) (glMem gl) gG (rOne (cB)).dec = f9 a.1 a.2 := (show evF (R := (rOne (cB)).T) (cx [(11, conF (cOne (cA .i64 23)) (rTup (cCons (cA .i64 22) (cOne (cI .i64)))) (fun a => f11 a)), (15, conF (cNil) (rOne (cB)) (fun a => f15)), (20, conF (cCons (cA .i64 23) (cOne (cI .i64))) (rTup (cCons (cA .i64 23) (cOne (cI .i64)))) (fun a => f20 a.1 a.2)), (22, conF (cCons (cA .i64 22) (cOne (cI .i64))) (rTup (cCons (cA .i64 22) (cOne (cI .i64)))) (fun a => f22 a.1 a.2)), (24, conF (cOne (cA .i64 23)) (rTup (cCons (cA .i64 23) (cOne (cI .i64)))) (fun a => f24 a)), (26, conF (cOne (cA .i64 22)) (rTup (cCons (cA .i64 22) (cOne (cI .i64)))) (fun a => f26 a))]) 1000 Tryd.f9 ((cCons (cA .i64 23) (cOne (cI .i64))).enc a) (glMem gl) gG (rOne (cB)).dec = g9 a.1 a.2 from evg9 f11 f20 f22 f24 f26 a).trans (fg9 a.1 a.2)
theorem sp9 : VE.Spec Tryd.prog gG gl 9 (conF (cCons (cA .i64 23) (cOne (cI .i64))) (rOne (cB)) (fun a => f9 a.1 a.2)) := spec_of ok9 Tryd.func9 Tryd.call9 1000 (cCons_ok (cA_ok _ _) (cOne_ok (cI_ok _))) (rOne_ok (cB_ok)) ev9
noncomputable abbrev con9 : List (Nat × (List AV → Option ConR)) := [(11, conF (cOne (cA .i64 23)) (rTup (cCons (cA .i64 22) (cOne (cI .i64)))) (fun a => f11 a)), (15, conF (cNil) (rOne (cB)) (fun a => f15)), (20, conF (cCons (cA .i64 23) (cOne (cI .i64))) (rTup (cCons (cA .i64 23) (cOne (cI .i64)))) (fun a => f20 a.1 a.2)), (22, conF (cCons (cA .i64 22) (cOne (cI .i64))) (rTup (cCons (cA .i64 22) (cOne (cI .i64)))) (fun a => f22 a.1 a.2)), (24, conF (cOne (cA .i64 23)) (rTup (cCons (cA .i64 23) (cOne (cI .i64)))) (fun a => f24 a)), (26, conF (cOne (cA .i64 22)) (rTup (cCons (cA .i64 22) (cOne (cI .i64)))) (fun a => f26 a))]

/-- dancestudiolaw19.PosturePoses -/
noncomputable def f10 (a : Nat → Int) (b : Int) (c : Int) : Option (Bool) :=
 Option.bind (f26 a) (fun r3 =>
 Option.bind (f22 a b) (fun r4 =>
 Option.bind (f18 a) (fun r5 =>
 cond (!decide (r5 = 0)) (
 cond (decide (r3.fst 0 = 0) && decide (r3.fst 1 = 0) && (decide (r3.fst 2 = 0) && (decide (r3.fst 3 = 0) && (decide (r3.fst 4 = 0) && (decide (r3.fst 5 = 0) && decide (r3.fst 6 = 0)) && (decide (r3.fst 7 = 0) && (decide (r3.fst 8 = 0) && decide (r3.fst 9 = 0)) && (decide (r3.fst 10 = 0) && (decide (r3.fst 11 = 0) && decide (r3.fst 12 = 0)) && (decide (r3.fst 13 = 0) && (decide (r3.fst 14 = 0) && decide (r3.fst 15 = 0)) && (decide (r3.fst 16 = 0) && (decide (r3.fst 17 = 0) && decide (r3.fst 18 = 0)) && (decide (r3.fst 19 = 0) && (decide (r3.fst 20 = 0) && decide (r3.fst 21 = 0))))))))))) (
 cond (decide (r4.fst 0 = 0) && decide (r4.fst 1 = 0) && (decide (r4.fst 2 = 0) && (decide (r4.fst 3 = 0) && (decide (r4.fst 4 = 0) && (decide (r4.fst 5 = 0) && decide (r4.fst 6 = 0)) && (decide (r4.fst 7 = 0) && (decide (r4.fst 8 = 0) && decide (r4.fst 9 = 0)) && (decide (r4.fst 10 = 0) && (decide (r4.fst 11 = 0) && decide (r4.fst 12 = 0)) && (decide (r4.fst 13 = 0) && (decide (r4.fst 14 = 0) && decide (r4.fst 15 = 0)) && (decide (r4.fst 16 = 0) && (decide (r4.fst 17 = 0) && decide (r4.fst 18 = 0)) && (decide (r4.fst 19 = 0) && (decide (r4.fst 20 = 0) && decide (r4.fst 21 = 0))))))))))) (
 cond (decide (r3.snd = r5)) (
 cond (decide (r4.snd = r5)) (
 some (true)) (
 some (false))) (
 some (false))) (
 some (false))) (
 some (false))) (
 cond (!decide (r3.snd = 0)) (
 some (false)) (
 cond (!decide (r4.snd = 0)) (
 some (false)) (
 Option.bind (f18 r3.fst) (fun r6 =>
 cond (!decide (r6 = 0)) (
 some (false)) (
 Option.bind (f18 r4.fst) (fun r7 =>
 cond (!decide (r7 = 0)) (
 some (false)) (
 Option.bind (f26 r3.fst) (fun r8 =>
 Option.bind (f22 r4.fst c) (fun r9 =>
 Option.bind (f22 a (IntKind.i64.wrap (b.tmod 4 + c.tmod 4))) (fun r10 =>
 cond (!(decide (r8.fst 0 = a 0) && decide (r8.fst 1 = a 1) && (decide (r8.fst 2 = a 2) && (decide (r8.fst 3 = a 3) && (decide (r8.fst 4 = a 4) && (decide (r8.fst 5 = a 5) && decide (r8.fst 6 = a 6)) && (decide (r8.fst 7 = a 7) && (decide (r8.fst 8 = a 8) && decide (r8.fst 9 = a 9)) && (decide (r8.fst 10 = a 10) && (decide (r8.fst 11 = a 11) && decide (r8.fst 12 = a 12)) && (decide (r8.fst 13 = a 13) && (decide (r8.fst 14 = a 14) && decide (r8.fst 15 = a 15)) && (decide (r8.fst 16 = a 16) && (decide (r8.fst 17 = a 17) && decide (r8.fst 18 = a 18)) && (decide (r8.fst 19 = a 19) && (decide (r8.fst 20 = a 20) && decide (r8.fst 21 = a 21)))))))))))) (
 some (false)) (
 cond (!decide (r8.snd = 0)) (
 some (false)) (
 cond (!(decide (r9.fst 0 = r10.fst 0) && decide (r9.fst 1 = r10.fst 1) && (decide (r9.fst 2 = r10.fst 2) && (decide (r9.fst 3 = r10.fst 3) && (decide (r9.fst 4 = r10.fst 4) && (decide (r9.fst 5 = r10.fst 5) && decide (r9.fst 6 = r10.fst 6)) && (decide (r9.fst 7 = r10.fst 7) && (decide (r9.fst 8 = r10.fst 8) && decide (r9.fst 9 = r10.fst 9)) && (decide (r9.fst 10 = r10.fst 10) && (decide (r9.fst 11 = r10.fst 11) && decide (r9.fst 12 = r10.fst 12)) && (decide (r9.fst 13 = r10.fst 13) && (decide (r9.fst 14 = r10.fst 14) && decide (r9.fst 15 = r10.fst 15)) && (decide (r9.fst 16 = r10.fst 16) && (decide (r9.fst 17 = r10.fst 17) && decide (r9.fst 18 = r10.fst 18)) && (decide (r9.fst 19 = r10.fst 19) && (decide (r9.fst 20 = r10.fst 20) && decide (r9.fst 21 = r10.fst 21)))))))))))) (
 some (false)) (
 cond (!decide (r9.snd = 0)) (
 some (false)) (
 cond (!decide (r10.snd = 0)) (
 some (false)) (
 Option.bind (f26 r4.fst) (fun r11 =>
 Option.bind (f22 r3.fst (IntKind.i64.wrap (0 - b.tmod 4))) (fun r12 =>
 cond (decide (r11.fst 0 = r12.fst 0) && decide (r11.fst 1 = r12.fst 1) && (decide (r11.fst 2 = r12.fst 2) && (decide (r11.fst 3 = r12.fst 3) && (decide (r11.fst 4 = r12.fst 4) && (decide (r11.fst 5 = r12.fst 5) && decide (r11.fst 6 = r12.fst 6)) && (decide (r11.fst 7 = r12.fst 7) && (decide (r11.fst 8 = r12.fst 8) && decide (r11.fst 9 = r12.fst 9)) && (decide (r11.fst 10 = r12.fst 10) && (decide (r11.fst 11 = r12.fst 11) && decide (r11.fst 12 = r12.fst 12)) && (decide (r11.fst 13 = r12.fst 13) && (decide (r11.fst 14 = r12.fst 14) && decide (r11.fst 15 = r12.fst 15)) && (decide (r11.fst 16 = r12.fst 16) && (decide (r11.fst 17 = r12.fst 17) && decide (r11.fst 18 = r12.fst 18)) && (decide (r11.fst 19 = r12.fst 19) && (decide (r11.fst 20 = r12.fst 20) && decide (r11.fst 21 = r12.fst 21))))))))))) (
 cond (decide (r11.snd = 0)) (
 cond (decide (r12.snd = 0)) (
 some (true)) (
 some (false))) (
 some (false))) (
 some (false))))))))))))))))))))))
theorem evg10 (f18 : (Nat → Int) → Option (Int)) (f22 : (Nat → Int) → (Int) → Option ((Nat → Int) × Int)) (f26 : (Nat → Int) → Option ((Nat → Int) × Int)) (xx : (cCons (cA .i64 22) (cCons (cI .i64) (cOne (cI .i64)))).T) : evF (R := (rOne (cB)).T) (cx [(15, conF (cNil) (rOne (cB)) (fun a => f15)), (18, conF (cOne (cA .i64 22)) (rOne (cI .i64)) (fun a => f18 a)), (22, conF (cCons (cA .i64 22) (cOne (cI .i64))) (rTup (cCons (cA .i64 22) (cOne (cI .i64)))) (fun a => f22 a.1 a.2)), (26, conF (cOne (cA .i64 22)) (rTup (cCons (cA .i64 22) (cOne (cI .i64)))) (fun a => f26 a))]) 1000 Tryd.f10 ((cCons (cA .i64 22) (cCons (cI .i64) (cOne (cI .i64)))).enc xx) (glMem gl) gG (rOne (cB)).dec =
 (fun (a : Nat → Int) (b : Int) (c : Int) =>
 (( Option.bind (f26 (nthI [a 0, a 1, a 2, a 3, a 4, a 5, a 6, a 7, a 8, a 9, a 10, a 11, a 12, a 13, a 14, a 15, a 16, a 17, a 18, a 19, a 20, a 21])) (fun r3 =>
 Option.bind (f22 (nthI [a 0, a 1, a 2, a 3, a 4, a 5, a 6, a 7, a 8, a 9, a 10, a 11, a 12, a 13, a 14, a 15, a 16, a 17, a 18, a 19, a 20, a 21]) b) (fun r4 =>
 Option.bind (f18 (nthI [a 0, a 1, a 2, a 3, a 4, a 5, a 6, a 7, a 8, a 9, a 10, a 11, a 12, a 13, a 14, a 15, a 16, a 17, a 18, a 19, a 20, a 21])) (fun r5 =>
 cond (!decide (r5 = 0)) (
 cond (decide (r3.fst 0 = 0) && decide (r3.fst 1 = 0) && (decide (r3.fst 2 = 0) && (decide (r3.fst 3 = 0) && (decide (r3.fst 4 = 0) && (decide (r3.fst 5 = 0) && decide (r3.fst 6 = 0)) && (decide (r3.fst 7 = 0) && (decide (r3.fst 8 = 0) && decide (r3.fst 9 = 0)) && (decide (r3.fst 10 = 0) && (decide (r3.fst 11 = 0) && decide (r3.fst 12 = 0)) && (decide (r3.fst 13 = 0) && (decide (r3.fst 14 = 0) && decide (r3.fst 15 = 0)) && (decide (r3.fst 16 = 0) && (decide (r3.fst 17 = 0) && decide (r3.fst 18 = 0)) && (decide (r3.fst 19 = 0) && (decide (r3.fst 20 = 0) && decide (r3.fst 21 = 0))))))))))) (
 cond (decide (r4.fst 0 = 0) && decide (r4.fst 1 = 0) && (decide (r4.fst 2 = 0) && (decide (r4.fst 3 = 0) && (decide (r4.fst 4 = 0) && (decide (r4.fst 5 = 0) && decide (r4.fst 6 = 0)) && (decide (r4.fst 7 = 0) && (decide (r4.fst 8 = 0) && decide (r4.fst 9 = 0)) && (decide (r4.fst 10 = 0) && (decide (r4.fst 11 = 0) && decide (r4.fst 12 = 0)) && (decide (r4.fst 13 = 0) && (decide (r4.fst 14 = 0) && decide (r4.fst 15 = 0)) && (decide (r4.fst 16 = 0) && (decide (r4.fst 17 = 0) && decide (r4.fst 18 = 0)) && (decide (r4.fst 19 = 0) && (decide (r4.fst 20 = 0) && decide (r4.fst 21 = 0))))))))))) (
 cond (decide (r3.snd = r5)) (
 cond (decide (r4.snd = r5)) (
 some (true)) (
 some (false))) (
 some (false))) (
 some (false))) (
 some (false))) (
 cond (!decide (r3.snd = 0)) (
 some (false)) (
 cond (!decide (r4.snd = 0)) (
 some (false)) (
 Option.bind (f18 (nthI [r3.fst 0, r3.fst 1, r3.fst 2, r3.fst 3, r3.fst 4, r3.fst 5, r3.fst 6, r3.fst 7, r3.fst 8, r3.fst 9, r3.fst 10, r3.fst 11, r3.fst 12, r3.fst 13, r3.fst 14, r3.fst 15, r3.fst 16, r3.fst 17, r3.fst 18, r3.fst 19, r3.fst 20, r3.fst 21])) (fun r6 =>
 cond (!decide (r6 = 0)) (
 some (false)) (
 Option.bind (f18 (nthI [r4.fst 0, r4.fst 1, r4.fst 2, r4.fst 3, r4.fst 4, r4.fst 5, r4.fst 6, r4.fst 7, r4.fst 8, r4.fst 9, r4.fst 10, r4.fst 11, r4.fst 12, r4.fst 13, r4.fst 14, r4.fst 15, r4.fst 16, r4.fst 17, r4.fst 18, r4.fst 19, r4.fst 20, r4.fst 21])) (fun r7 =>
 cond (!decide (r7 = 0)) (
 some (false)) (
 Option.bind (f26 (nthI [r3.fst 0, r3.fst 1, r3.fst 2, r3.fst 3, r3.fst 4, r3.fst 5, r3.fst 6, r3.fst 7, r3.fst 8, r3.fst 9, r3.fst 10, r3.fst 11, r3.fst 12, r3.fst 13, r3.fst 14, r3.fst 15, r3.fst 16, r3.fst 17, r3.fst 18, r3.fst 19, r3.fst 20, r3.fst 21])) (fun r8 =>
 Option.bind (f22 (nthI [r4.fst 0, r4.fst 1, r4.fst 2, r4.fst 3, r4.fst 4, r4.fst 5, r4.fst 6, r4.fst 7, r4.fst 8, r4.fst 9, r4.fst 10, r4.fst 11, r4.fst 12, r4.fst 13, r4.fst 14, r4.fst 15, r4.fst 16, r4.fst 17, r4.fst 18, r4.fst 19, r4.fst 20, r4.fst 21]) c) (fun r9 =>
 Option.bind (f22 (nthI [a 0, a 1, a 2, a 3, a 4, a 5, a 6, a 7, a 8, a 9, a 10, a 11, a 12, a 13, a 14, a 15, a 16, a 17, a 18, a 19, a 20, a 21]) (IntKind.i64.wrap (b.tmod 4 + c.tmod 4))) (fun r10 =>
 cond (!(decide (r8.fst 0 = a 0) && decide (r8.fst 1 = a 1) && (decide (r8.fst 2 = a 2) && (decide (r8.fst 3 = a 3) && (decide (r8.fst 4 = a 4) && (decide (r8.fst 5 = a 5) && decide (r8.fst 6 = a 6)) && (decide (r8.fst 7 = a 7) && (decide (r8.fst 8 = a 8) && decide (r8.fst 9 = a 9)) && (decide (r8.fst 10 = a 10) && (decide (r8.fst 11 = a 11) && decide (r8.fst 12 = a 12)) && (decide (r8.fst 13 = a 13) && (decide (r8.fst 14 = a 14) && decide (r8.fst 15 = a 15)) && (decide (r8.fst 16 = a 16) && (decide (r8.fst 17 = a 17) && decide (r8.fst 18 = a 18)) && (decide (r8.fst 19 = a 19) && (decide (r8.fst 20 = a 20) && decide (r8.fst 21 = a 21)))))))))))) (
 some (false)) (
 cond (!decide (r8.snd = 0)) (
 some (false)) (
 cond (!(decide (r9.fst 0 = r10.fst 0) && decide (r9.fst 1 = r10.fst 1) && (decide (r9.fst 2 = r10.fst 2) && (decide (r9.fst 3 = r10.fst 3) && (decide (r9.fst 4 = r10.fst 4) && (decide (r9.fst 5 = r10.fst 5) && decide (r9.fst 6 = r10.fst 6)) && (decide (r9.fst 7 = r10.fst 7) && (decide (r9.fst 8 = r10.fst 8) && decide (r9.fst 9 = r10.fst 9)) && (decide (r9.fst 10 = r10.fst 10) && (decide (r9.fst 11 = r10.fst 11) && decide (r9.fst 12 = r10.fst 12)) && (decide (r9.fst 13 = r10.fst 13) && (decide (r9.fst 14 = r10.fst 14) && decide (r9.fst 15 = r10.fst 15)) && (decide (r9.fst 16 = r10.fst 16) && (decide (r9.fst 17 = r10.fst 17) && decide (r9.fst 18 = r10.fst 18)) && (decide (r9.fst 19 = r10.fst 19) && (decide (r9.fst 20 = r10.fst 20) && decide (r9.fst 21 = r10.fst 21)))))))))))) (
 some (false)) (
 cond (!decide (r9.snd = 0)) (
 some (false)) (
 cond (!decide (r10.snd = 0)) (
 some (false)) (
 Option.bind (f26 (nthI [r4.fst 0, r4.fst 1, r4.fst 2, r4.fst 3, r4.fst 4, r4.fst 5, r4.fst 6, r4.fst 7, r4.fst 8, r4.fst 9, r4.fst 10, r4.fst 11, r4.fst 12, r4.fst 13, r4.fst 14, r4.fst 15, r4.fst 16, r4.fst 17, r4.fst 18, r4.fst 19, r4.fst 20, r4.fst 21])) (fun r11 =>
 Option.bind (f22 (nthI [r3.fst 0, r3.fst 1, r3.fst 2, r3.fst 3, r3.fst 4, r3.fst 5, r3.fst 6, r3.fst 7, r3.fst 8, r3.fst 9, r3.fst 10, r3.fst 11, r3.fst 12, r3.fst 13, r3.fst 14, r3.fst 15, r3.fst 16, r3.fst 17, r3.fst 18, r3.fst 19, r3.fst 20, r3.fst 21]) (IntKind.i64.wrap (0 - b.tmod 4))) (fun r12 =>
 cond (decide (r11.fst 0 = r12.fst 0) && decide (r11.fst 1 = r12.fst 1) && (decide (r11.fst 2 = r12.fst 2) && (decide (r11.fst 3 = r12.fst 3) && (decide (r11.fst 4 = r12.fst 4) && (decide (r11.fst 5 = r12.fst 5) && decide (r11.fst 6 = r12.fst 6)) && (decide (r11.fst 7 = r12.fst 7) && (decide (r11.fst 8 = r12.fst 8) && decide (r11.fst 9 = r12.fst 9)) && (decide (r11.fst 10 = r12.fst 10) && (decide (r11.fst 11 = r12.fst 11) && decide (r11.fst 12 = r12.fst 12)) && (decide (r11.fst 13 = r12.fst 13) && (decide (r11.fst 14 = r12.fst 14) && decide (r11.fst 15 = r12.fst 15)) && (decide (r11.fst 16 = r12.fst 16) && (decide (r11.fst 17 = r12.fst 17) && decide (r11.fst 18 = r12.fst 18)) && (decide (r11.fst 19 = r12.fst 19) && (decide (r11.fst 20 = r12.fst 20) && decide (r11.fst 21 = r12.fst 21))))))))))) (
 cond (decide (r11.snd = 0)) (
 cond (decide (r12.snd = 0)) (
 some (true)) (
 some (false))) (
 some (false))) (
 some (false))))))))))))))))))))))) : Option (Bool))) xx.1 xx.2.1 xx.2.2 := by kernel_rfl
theorem ok10 : CtxOK Tryd.prog (cx [(15, conF (cNil) (rOne (cB)) (fun a => f15)), (18, conF (cOne (cA .i64 22)) (rOne (cI .i64)) (fun a => f18 a)), (22, conF (cCons (cA .i64 22) (cOne (cI .i64))) (rTup (cCons (cA .i64 22) (cOne (cI .i64)))) (fun a => f22 a.1 a.2)), (26, conF (cOne (cA .i64 22)) (rTup (cCons (cA .i64 22) (cOne (cI .i64)))) (fun a => f26 a))]) gl := ctx_of tyOk moOk (show SpecL Tryd.prog gG gl [(15, conF (cNil) (rOne (cB)) (fun a => f15)), (18, conF (cOne (cA .i64 22)) (rOne (cI .i64)) (fun a => f18 a)), (22, conF (cCons (cA .i64 22) (cOne (cI .i64))) (rTup (cCons (cA .i64 22) (cOne (cI .i64)))) (fun a => f22 a.1 a.2)), (26, conF (cOne (cA .i64 22)) (rTup (cCons (cA .i64 22) (cOne (cI .i64)))) (fun a => f26 a))] from ⟨sp15, sp18, sp22, sp26, trivial⟩) fnOk joinOk
noncomputable def g10 (a : Nat → Int) (b : Int) (c : Int) : Option (Bool) :=
 Option.bind (f26 (nthI [a 0, a 1, a 2, a 3, a 4, a 5, a 6, a 7, a 8, a 9, a 10, a 11, a 12, a 13, a 14, a 15, a 16, a 17, a 18, a 19, a 20, a 21])) (fun r3 =>
 Option.bind (f22 (nthI [a 0, a 1, a 2, a 3, a 4, a 5, a 6, a 7, a 8, a 9, a 10, a 11, a 12, a 13, a 14, a 15, a 16, a 17, a 18, a 19, a 20, a 21]) b) (fun r4 =>
 Option.bind (f18 (nthI [a 0, a 1, a 2, a 3, a 4, a 5, a 6, a 7, a 8, a 9, a 10, a 11, a 12, a 13, a 14, a 15, a 16, a 17, a 18, a 19, a 20, a 21])) (fun r5 =>
 cond (!decide (r5 = 0)) (
 cond (decide (r3.fst 0 = 0) && decide (r3.fst 1 = 0) && (decide (r3.fst 2 = 0) && (decide (r3.fst 3 = 0) && (decide (r3.fst 4 = 0) && (decide (r3.fst 5 = 0) && decide (r3.fst 6 = 0)) && (decide (r3.fst 7 = 0) && (decide (r3.fst 8 = 0) && decide (r3.fst 9 = 0)) && (decide (r3.fst 10 = 0) && (decide (r3.fst 11 = 0) && decide (r3.fst 12 = 0)) && (decide (r3.fst 13 = 0) && (decide (r3.fst 14 = 0) && decide (r3.fst 15 = 0)) && (decide (r3.fst 16 = 0) && (decide (r3.fst 17 = 0) && decide (r3.fst 18 = 0)) && (decide (r3.fst 19 = 0) && (decide (r3.fst 20 = 0) && decide (r3.fst 21 = 0))))))))))) (
 cond (decide (r4.fst 0 = 0) && decide (r4.fst 1 = 0) && (decide (r4.fst 2 = 0) && (decide (r4.fst 3 = 0) && (decide (r4.fst 4 = 0) && (decide (r4.fst 5 = 0) && decide (r4.fst 6 = 0)) && (decide (r4.fst 7 = 0) && (decide (r4.fst 8 = 0) && decide (r4.fst 9 = 0)) && (decide (r4.fst 10 = 0) && (decide (r4.fst 11 = 0) && decide (r4.fst 12 = 0)) && (decide (r4.fst 13 = 0) && (decide (r4.fst 14 = 0) && decide (r4.fst 15 = 0)) && (decide (r4.fst 16 = 0) && (decide (r4.fst 17 = 0) && decide (r4.fst 18 = 0)) && (decide (r4.fst 19 = 0) && (decide (r4.fst 20 = 0) && decide (r4.fst 21 = 0))))))))))) (
 cond (decide (r3.snd = r5)) (
 cond (decide (r4.snd = r5)) (
 some (true)) (
 some (false))) (
 some (false))) (
 some (false))) (
 some (false))) (
 cond (!decide (r3.snd = 0)) (
 some (false)) (
 cond (!decide (r4.snd = 0)) (
 some (false)) (
 Option.bind (f18 (nthI [r3.fst 0, r3.fst 1, r3.fst 2, r3.fst 3, r3.fst 4, r3.fst 5, r3.fst 6, r3.fst 7, r3.fst 8, r3.fst 9, r3.fst 10, r3.fst 11, r3.fst 12, r3.fst 13, r3.fst 14, r3.fst 15, r3.fst 16, r3.fst 17, r3.fst 18, r3.fst 19, r3.fst 20, r3.fst 21])) (fun r6 =>
 cond (!decide (r6 = 0)) (
 some (false)) (
 Option.bind (f18 (nthI [r4.fst 0, r4.fst 1, r4.fst 2, r4.fst 3, r4.fst 4, r4.fst 5, r4.fst 6, r4.fst 7, r4.fst 8, r4.fst 9, r4.fst 10, r4.fst 11, r4.fst 12, r4.fst 13, r4.fst 14, r4.fst 15, r4.fst 16, r4.fst 17, r4.fst 18, r4.fst 19, r4.fst 20, r4.fst 21])) (fun r7 =>
 cond (!decide (r7 = 0)) (
 some (false)) (
 Option.bind (f26 (nthI [r3.fst 0, r3.fst 1, r3.fst 2, r3.fst 3, r3.fst 4, r3.fst 5, r3.fst 6, r3.fst 7, r3.fst 8, r3.fst 9, r3.fst 10, r3.fst 11, r3.fst 12, r3.fst 13, r3.fst 14, r3.fst 15, r3.fst 16, r3.fst 17, r3.fst 18, r3.fst 19, r3.fst 20, r3.fst 21])) (fun r8 =>
 Option.bind (f22 (nthI [r4.fst 0, r4.fst 1, r4.fst 2, r4.fst 3, r4.fst 4, r4.fst 5, r4.fst 6, r4.fst 7, r4.fst 8, r4.fst 9, r4.fst 10, r4.fst 11, r4.fst 12, r4.fst 13, r4.fst 14, r4.fst 15, r4.fst 16, r4.fst 17, r4.fst 18, r4.fst 19, r4.fst 20, r4.fst 21]) c) (fun r9 =>
 Option.bind (f22 (nthI [a 0, a 1, a 2, a 3, a 4, a 5, a 6, a 7, a 8, a 9, a 10, a 11, a 12, a 13, a 14, a 15, a 16, a 17, a 18, a 19, a 20, a 21]) (IntKind.i64.wrap (b.tmod 4 + c.tmod 4))) (fun r10 =>
 cond (!(decide (r8.fst 0 = a 0) && decide (r8.fst 1 = a 1) && (decide (r8.fst 2 = a 2) && (decide (r8.fst 3 = a 3) && (decide (r8.fst 4 = a 4) && (decide (r8.fst 5 = a 5) && decide (r8.fst 6 = a 6)) && (decide (r8.fst 7 = a 7) && (decide (r8.fst 8 = a 8) && decide (r8.fst 9 = a 9)) && (decide (r8.fst 10 = a 10) && (decide (r8.fst 11 = a 11) && decide (r8.fst 12 = a 12)) && (decide (r8.fst 13 = a 13) && (decide (r8.fst 14 = a 14) && decide (r8.fst 15 = a 15)) && (decide (r8.fst 16 = a 16) && (decide (r8.fst 17 = a 17) && decide (r8.fst 18 = a 18)) && (decide (r8.fst 19 = a 19) && (decide (r8.fst 20 = a 20) && decide (r8.fst 21 = a 21)))))))))))) (
 some (false)) (
 cond (!decide (r8.snd = 0)) (
 some (false)) (
 cond (!(decide (r9.fst 0 = r10.fst 0) && decide (r9.fst 1 = r10.fst 1) && (decide (r9.fst 2 = r10.fst 2) && (decide (r9.fst 3 = r10.fst 3) && (decide (r9.fst 4 = r10.fst 4) && (decide (r9.fst 5 = r10.fst 5) && decide (r9.fst 6 = r10.fst 6)) && (decide (r9.fst 7 = r10.fst 7) && (decide (r9.fst 8 = r10.fst 8) && decide (r9.fst 9 = r10.fst 9)) && (decide (r9.fst 10 = r10.fst 10) && (decide (r9.fst 11 = r10.fst 11) && decide (r9.fst 12 = r10.fst 12)) && (decide (r9.fst 13 = r10.fst 13) && (decide (r9.fst 14 = r10.fst 14) && decide (r9.fst 15 = r10.fst 15)) && (decide (r9.fst 16 = r10.fst 16) && (decide (r9.fst 17 = r10.fst 17) && decide (r9.fst 18 = r10.fst 18)) && (decide (r9.fst 19 = r10.fst 19) && (decide (r9.fst 20 = r10.fst 20) && decide (r9.fst 21 = r10.fst 21)))))))))))) (
 some (false)) (
 cond (!decide (r9.snd = 0)) (
 some (false)) (
 cond (!decide (r10.snd = 0)) (
 some (false)) (
 Option.bind (f26 (nthI [r4.fst 0, r4.fst 1, r4.fst 2, r4.fst 3, r4.fst 4, r4.fst 5, r4.fst 6, r4.fst 7, r4.fst 8, r4.fst 9, r4.fst 10, r4.fst 11, r4.fst 12, r4.fst 13, r4.fst 14, r4.fst 15, r4.fst 16, r4.fst 17, r4.fst 18, r4.fst 19, r4.fst 20, r4.fst 21])) (fun r11 =>
 Option.bind (f22 (nthI [r3.fst 0, r3.fst 1, r3.fst 2, r3.fst 3, r3.fst 4, r3.fst 5, r3.fst 6, r3.fst 7, r3.fst 8, r3.fst 9, r3.fst 10, r3.fst 11, r3.fst 12, r3.fst 13, r3.fst 14, r3.fst 15, r3.fst 16, r3.fst 17, r3.fst 18, r3.fst 19, r3.fst 20, r3.fst 21]) (IntKind.i64.wrap (0 - b.tmod 4))) (fun r12 =>
 cond (decide (r11.fst 0 = r12.fst 0) && decide (r11.fst 1 = r12.fst 1) && (decide (r11.fst 2 = r12.fst 2) && (decide (r11.fst 3 = r12.fst 3) && (decide (r11.fst 4 = r12.fst 4) && (decide (r11.fst 5 = r12.fst 5) && decide (r11.fst 6 = r12.fst 6)) && (decide (r11.fst 7 = r12.fst 7) && (decide (r11.fst 8 = r12.fst 8) && decide (r11.fst 9 = r12.fst 9)) && (decide (r11.fst 10 = r12.fst 10) && (decide (r11.fst 11 = r12.fst 11) && decide (r11.fst 12 = r12.fst 12)) && (decide (r11.fst 13 = r12.fst 13) && (decide (r11.fst 14 = r12.fst 14) && decide (r11.fst 15 = r12.fst 15)) && (decide (r11.fst 16 = r12.fst 16) && (decide (r11.fst 17 = r12.fst 17) && decide (r11.fst 18 = r12.fst 18)) && (decide (r11.fst 19 = r12.fst 19) && (decide (r11.fst 20 = r12.fst 20) && decide (r11.fst 21 = r12.fst 21))))))))))) (
 cond (decide (r11.snd = 0)) (
 cond (decide (r12.snd = 0)) (
 some (true)) (
 some (false))) (
 some (false))) (
 some (false))))))))))))))))))))))
theorem fg10 (a : Nat → Int) (b : Int) (c : Int) : g10 a b c = f10 a b c := by kernel_rfl
theorem ev10 (a : (cCons (cA .i64 22) (cCons (cI .i64) (cOne (cI .i64)))).T) : evF (R := (rOne (cB)).T) (cx [(15, conF (cNil) (rOne (cB)) (fun a => f15)), (18, conF (cOne (cA .i64 22)) (rOne (cI .i64)) (fun a => f18 a)), (22, conF (cCons (cA .i64 22) (cOne (cI .i64))) (rTup (cCons (cA .i64 22) (cOne (cI .i64)))) (fun a => f22 a.1 a.2)), (26, conF (cOne (cA .i64 22)) (rTup (cCons (cA .i64 22) (cOne (cI .i64)))) (fun a => f26 a))]) 1000 Tryd.f10 ((cCons (cA .i64 22) (cCons (cI .i64) (cOne (cI .i64)))).enc a) (glMem gl) gG (rOne (cB)).dec = f10 a.1 a.2.1 a.2.2 := (show evF (R := (rOne (cB)).T) (cx [(15, conF (cNil) (rOne (cB)) (fun a => f15)), (18, conF (cOne (cA .i64 22)) (rOne (cI .i64)) (fun a => f18 a)), (22, conF (cCons (cA .i64 22) (cOne (cI .i64))) (rTup (cCons (cA .i64 22) (cOne (cI .i64)))) (fun a => f22 a.1 a.2)), (26, conF (cOne (cA .i64 22)) (rTup (cCons (cA .i64 22) (cOne (cI .i64)))) (fun a => f26 a))]) 1000 Tryd.f10 ((cCons (cA .i64 22) (cCons (cI .i64) (cOne (cI .i64)))).enc a) (glMem gl) gG (rOne (cB)).dec = g10 a.1 a.2.1 a.2.2 from evg10 f18 f22 f26 a).trans (fg10 a.1 a.2.1 a.2.2)
theorem sp10 : VE.Spec Tryd.prog gG gl 10 (conF (cCons (cA .i64 22) (cCons (cI .i64) (cOne (cI .i64)))) (rOne (cB)) (fun a => f10 a.1 a.2.1 a.2.2)) := spec_of ok10 Tryd.func10 Tryd.call10 1000 (cCons_ok (cA_ok _ _) (cCons_ok (cI_ok _) (cOne_ok (cI_ok _)))) (rOne_ok (cB_ok)) ev10
noncomputable abbrev con10 : List (Nat × (List AV → Option ConR)) := [(15, conF (cNil) (rOne (cB)) (fun a => f15)), (18, conF (cOne (cA .i64 22)) (rOne (cI .i64)) (fun a => f18 a)), (22, conF (cCons (cA .i64 22) (cOne (cI .i64))) (rTup (cCons (cA .i64 22) (cOne (cI .i64)))) (fun a => f22 a.1 a.2)), (26, conF (cOne (cA .i64 22)) (rTup (cCons (cA .i64 22) (cOne (cI .i64)))) (fun a => f26 a))]

end Go.Proofs.YtfpmbgknojbkcaaDoor
