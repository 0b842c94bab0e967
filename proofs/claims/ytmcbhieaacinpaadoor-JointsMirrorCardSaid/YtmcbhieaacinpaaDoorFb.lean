import Derived.Test.YtmcbhieaacinpaaDoorF
open Go Go.VE Go.Proofs
set_option maxRecDepth 1000000
set_option maxHeartbeats 0
set_option linter.unusedVariables false
namespace Go.Proofs.YtmcbhieaacinpaaDoor


/-- dancestudiolaw20.JointsFloor -/
noncomputable def f5 (a : Nat → Int) (b : Nat → Int) (c : Int) : Option (Bool) :=
 Option.bind (f10 a b (IntKind.i64.wrap (c.tmod 4))) (fun r3 =>
 cond (!decide (r3.snd = 0)) (
 Option.bind (f14 a) (fun r4 =>
 cond (!decide (r4 = 0)) (
 some (true)) (
 Option.bind (f15 b) (fun r5 =>
 cond (!decide (r5 = 0)) (
 some (true)) (
 some (false)))))) (
 cond (!decide (bitsI BinOp.and IntKind.i64 (IntKind.i64.wrap (c.tmod 4)) 1 = 0)) (
 cond (!(decide (r3.fst 27 = r3.fst 9) && (decide (r3.fst 28 = r3.fst 10) && decide (r3.fst 29 = 0)))) (
 some (false)) (
 cond (!decide (bitsI BinOp.and IntKind.i64 (IntKind.i64.wrap (c.tmod 4)) 2 = 0)) (
 cond (!(decide (r3.fst 30 = r3.fst 12) && (decide (r3.fst 31 = r3.fst 13) && decide (r3.fst 32 = 0)))) (
 some (false)) (
 cond (decide (IntKind.i64.wrap (c.tmod 4) = 3)) (
 Option.bind (f16 (nthI [r3.fst 27, r3.fst 28, r3.fst 29]) (nthI [r3.fst 30, r3.fst 31, r3.fst 32])) (fun r4 =>
 Option.bind (f16 (nthI [r3.fst 9, r3.fst 10, r3.fst 11]) (nthI [r3.fst 12, r3.fst 13, r3.fst 14])) (fun r5 =>
 cond (!decide (r4.snd = 0)) (
 some (false)) (
 cond (!decide (r5.snd = 0)) (
 some (false)) (
 cond (!decide (r4.fst = r5.fst)) (
 some (false)) (
 Option.bind (f13 r3.fst (nthI [r3.fst 9, r3.fst 10, r3.fst 11])) (fun r6 =>
 Option.bind (f13 (nthI [r3.fst 3, r3.fst 4, r3.fst 5]) (nthI [r3.fst 15, r3.fst 16, r3.fst 17])) (fun r7 =>
 Option.bind (f13 (nthI [r3.fst 12, r3.fst 13, r3.fst 14]) r3.fst) (fun r8 =>
 cond (decide (r6 0 = r8 0) && (decide (r6 1 = r8 1) && decide (r6 2 = r8 2))) (
 Option.bind (f13 (nthI [r3.fst 18, r3.fst 19, r3.fst 20]) (nthI [r3.fst 3, r3.fst 4, r3.fst 5])) (fun r9 =>
 cond (decide (r7 0 = r9 0) && (decide (r7 1 = r9 1) && decide (r7 2 = r9 2))) (
 cond (decide (r6 2 = 0)) (
 cond (decide (r7 2 = 0)) (
 cond (decide (r3.fst 0 = b 0)) (
 cond (decide (r3.fst 1 = b 1)) (
 some (true)) (
 some (false))) (
 some (false))) (
 some (false))) (
 some (false))) (
 some (false)))) (
 some (false))))))))))) (
 Option.bind (f13 r3.fst (nthI [r3.fst 9, r3.fst 10, r3.fst 11])) (fun r4 =>
 Option.bind (f13 (nthI [r3.fst 3, r3.fst 4, r3.fst 5]) (nthI [r3.fst 15, r3.fst 16, r3.fst 17])) (fun r5 =>
 Option.bind (f13 (nthI [r3.fst 12, r3.fst 13, r3.fst 14]) r3.fst) (fun r6 =>
 cond (decide (r4 0 = r6 0) && (decide (r4 1 = r6 1) && decide (r4 2 = r6 2))) (
 Option.bind (f13 (nthI [r3.fst 18, r3.fst 19, r3.fst 20]) (nthI [r3.fst 3, r3.fst 4, r3.fst 5])) (fun r7 =>
 cond (decide (r5 0 = r7 0) && (decide (r5 1 = r7 1) && decide (r5 2 = r7 2))) (
 cond (decide (r4 2 = 0)) (
 cond (decide (r5 2 = 0)) (
 cond (decide (r3.fst 0 = b 0)) (
 cond (decide (r3.fst 1 = b 1)) (
 some (true)) (
 some (false))) (
 some (false))) (
 some (false))) (
 some (false))) (
 some (false)))) (
 some (false)))))))) (
 cond (decide (IntKind.i64.wrap (c.tmod 4) = 3)) (
 Option.bind (f16 (nthI [r3.fst 27, r3.fst 28, r3.fst 29]) (nthI [r3.fst 30, r3.fst 31, r3.fst 32])) (fun r4 =>
 Option.bind (f16 (nthI [r3.fst 9, r3.fst 10, r3.fst 11]) (nthI [r3.fst 12, r3.fst 13, r3.fst 14])) (fun r5 =>
 cond (!decide (r4.snd = 0)) (
 some (false)) (
 cond (!decide (r5.snd = 0)) (
 some (false)) (
 cond (!decide (r4.fst = r5.fst)) (
 some (false)) (
 Option.bind (f13 r3.fst (nthI [r3.fst 9, r3.fst 10, r3.fst 11])) (fun r6 =>
 Option.bind (f13 (nthI [r3.fst 3, r3.fst 4, r3.fst 5]) (nthI [r3.fst 15, r3.fst 16, r3.fst 17])) (fun r7 =>
 Option.bind (f13 (nthI [r3.fst 12, r3.fst 13, r3.fst 14]) r3.fst) (fun r8 =>
 cond (decide (r6 0 = r8 0) && (decide (r6 1 = r8 1) && decide (r6 2 = r8 2))) (
 Option.bind (f13 (nthI [r3.fst 18, r3.fst 19, r3.fst 20]) (nthI [r3.fst 3, r3.fst 4, r3.fst 5])) (fun r9 =>
 cond (decide (r7 0 = r9 0) && (decide (r7 1 = r9 1) && decide (r7 2 = r9 2))) (
 cond (decide (r6 2 = 0)) (
 cond (decide (r7 2 = 0)) (
 cond (decide (r3.fst 0 = b 0)) (
 cond (decide (r3.fst 1 = b 1)) (
 some (true)) (
 some (false))) (
 some (false))) (
 some (false))) (
 some (false))) (
 some (false)))) (
 some (false))))))))))) (
 Option.bind (f13 r3.fst (nthI [r3.fst 9, r3.fst 10, r3.fst 11])) (fun r4 =>
 Option.bind (f13 (nthI [r3.fst 3, r3.fst 4, r3.fst 5]) (nthI [r3.fst 15, r3.fst 16, r3.fst 17])) (fun r5 =>
 Option.bind (f13 (nthI [r3.fst 12, r3.fst 13, r3.fst 14]) r3.fst) (fun r6 =>
 cond (decide (r4 0 = r6 0) && (decide (r4 1 = r6 1) && decide (r4 2 = r6 2))) (
 Option.bind (f13 (nthI [r3.fst 18, r3.fst 19, r3.fst 20]) (nthI [r3.fst 3, r3.fst 4, r3.fst 5])) (fun r7 =>
 cond (decide (r5 0 = r7 0) && (decide (r5 1 = r7 1) && decide (r5 2 = r7 2))) (
 cond (decide (r4 2 = 0)) (
 cond (decide (r5 2 = 0)) (
 cond (decide (r3.fst 0 = b 0)) (
 cond (decide (r3.fst 1 = b 1)) (
 some (true)) (
 some (false))) (
 some (false))) (
 some (false))) (
 some (false))) (
 some (false)))) (
 some (false))))))))) (
 cond (!decide (bitsI BinOp.and IntKind.i64 (IntKind.i64.wrap (c.tmod 4)) 2 = 0)) (
 cond (!(decide (r3.fst 30 = r3.fst 12) && (decide (r3.fst 31 = r3.fst 13) && decide (r3.fst 32 = 0)))) (
 some (false)) (
 cond (decide (IntKind.i64.wrap (c.tmod 4) = 3)) (
 Option.bind (f16 (nthI [r3.fst 27, r3.fst 28, r3.fst 29]) (nthI [r3.fst 30, r3.fst 31, r3.fst 32])) (fun r4 =>
 Option.bind (f16 (nthI [r3.fst 9, r3.fst 10, r3.fst 11]) (nthI [r3.fst 12, r3.fst 13, r3.fst 14])) (fun r5 =>
 cond (!decide (r4.snd = 0)) (
 some (false)) (
 cond (!decide (r5.snd = 0)) (
 some (false)) (
 cond (!decide (r4.fst = r5.fst)) (
 some (false)) (
 Option.bind (f13 r3.fst (nthI [r3.fst 9, r3.fst 10, r3.fst 11])) (fun r6 =>
 Option.bind (f13 (nthI [r3.fst 3, r3.fst 4, r3.fst 5]) (nthI [r3.fst 15, r3.fst 16, r3.fst 17])) (fun r7 =>
 Option.bind (f13 (nthI [r3.fst 12, r3.fst 13, r3.fst 14]) r3.fst) (fun r8 =>
 cond (decide (r6 0 = r8 0) && (decide (r6 1 = r8 1) && decide (r6 2 = r8 2))) (
 Option.bind (f13 (nthI [r3.fst 18, r3.fst 19, r3.fst 20]) (nthI [r3.fst 3, r3.fst 4, r3.fst 5])) (fun r9 =>
 cond (decide (r7 0 = r9 0) && (decide (r7 1 = r9 1) && decide (r7 2 = r9 2))) (
 cond (decide (r6 2 = 0)) (
 cond (decide (r7 2 = 0)) (
 cond (decide (r3.fst 0 = b 0)) (
 cond (decide (r3.fst 1 = b 1)) (
 some (true)) (
 some (false))) (
 some (false))) (
 some (false))) (
 some (false))) (
 some (false)))) (
 some (false))))))))))) (
 Option.bind (f13 r3.fst (nthI [r3.fst 9, r3.fst 10, r3.fst 11])) (fun r4 =>
 Option.bind (f13 (nthI [r3.fst 3, r3.fst 4, r3.fst 5]) (nthI [r3.fst 15, r3.fst 16, r3.fst 17])) (fun r5 =>
 Option.bind (f13 (nthI [r3.fst 12, r3.fst 13, r3.fst 14]) r3.fst) (fun r6 =>
 cond (decide (r4 0 = r6 0) && (decide (r4 1 = r6 1) && decide (r4 2 = r6 2))) (
 Option.bind (f13 (nthI [r3.fst 18, r3.fst 19, r3.fst 20]) (nthI [r3.fst 3, r3.fst 4, r3.fst 5])) (fun r7 =>
 cond (decide (r5 0 = r7 0) && (decide (r5 1 = r7 1) && decide (r5 2 = r7 2))) (
 cond (decide (r4 2 = 0)) (
 cond (decide (r5 2 = 0)) (
 cond (decide (r3.fst 0 = b 0)) (
 cond (decide (r3.fst 1 = b 1)) (
 some (true)) (
 some (false))) (
 some (false))) (
 some (false))) (
 some (false))) (
 some (false)))) (
 some (false)))))))) (
 cond (decide (IntKind.i64.wrap (c.tmod 4) = 3)) (
 Option.bind (f16 (nthI [r3.fst 27, r3.fst 28, r3.fst 29]) (nthI [r3.fst 30, r3.fst 31, r3.fst 32])) (fun r4 =>
 Option.bind (f16 (nthI [r3.fst 9, r3.fst 10, r3.fst 11]) (nthI [r3.fst 12, r3.fst 13, r3.fst 14])) (fun r5 =>
 cond (!decide (r4.snd = 0)) (
 some (false)) (
 cond (!decide (r5.snd = 0)) (
 some (false)) (
 cond (!decide (r4.fst = r5.fst)) (
 some (false)) (
 Option.bind (f13 r3.fst (nthI [r3.fst 9, r3.fst 10, r3.fst 11])) (fun r6 =>
 Option.bind (f13 (nthI [r3.fst 3, r3.fst 4, r3.fst 5]) (nthI [r3.fst 15, r3.fst 16, r3.fst 17])) (fun r7 =>
 Option.bind (f13 (nthI [r3.fst 12, r3.fst 13, r3.fst 14]) r3.fst) (fun r8 =>
 cond (decide (r6 0 = r8 0) && (decide (r6 1 = r8 1) && decide (r6 2 = r8 2))) (
 Option.bind (f13 (nthI [r3.fst 18, r3.fst 19, r3.fst 20]) (nthI [r3.fst 3, r3.fst 4, r3.fst 5])) (fun r9 =>
 cond (decide (r7 0 = r9 0) && (decide (r7 1 = r9 1) && decide (r7 2 = r9 2))) (
 cond (decide (r6 2 = 0)) (
 cond (decide (r7 2 = 0)) (
 cond (decide (r3.fst 0 = b 0)) (
 cond (decide (r3.fst 1 = b 1)) (
 some (true)) (
 some (false))) (
 some (false))) (
 some (false))) (
 some (false))) (
 some (false)))) (
 some (false))))))))))) (
 Option.bind (f13 r3.fst (nthI [r3.fst 9, r3.fst 10, r3.fst 11])) (fun r4 =>
 Option.bind (f13 (nthI [r3.fst 3, r3.fst 4, r3.fst 5]) (nthI [r3.fst 15, r3.fst 16, r3.fst 17])) (fun r5 =>
 Option.bind (f13 (nthI [r3.fst 12, r3.fst 13, r3.fst 14]) r3.fst) (fun r6 =>
 cond (decide (r4 0 = r6 0) && (decide (r4 1 = r6 1) && decide (r4 2 = r6 2))) (
 Option.bind (f13 (nthI [r3.fst 18, r3.fst 19, r3.fst 20]) (nthI [r3.fst 3, r3.fst 4, r3.fst 5])) (fun r7 =>
 cond (decide (r5 0 = r7 0) && (decide (r5 1 = r7 1) && decide (r5 2 = r7 2))) (
 cond (decide (r4 2 = 0)) (
 cond (decide (r5 2 = 0)) (
 cond (decide (r3.fst 0 = b 0)) (
 cond (decide (r3.fst 1 = b 1)) (
 some (true)) (
 some (false))) (
 some (false))) (
 some (false))) (
 some (false))) (
 some (false)))) (
 some (false))))))))))
theorem evg5 (f10 : (Nat → Int) → (Nat → Int) → (Int) → Option ((Nat → Int) × Int)) (f13 : (Nat → Int) → (Nat → Int) → Option ((Nat → Int))) (f14 : (Nat → Int) → Option (Int)) (f15 : (Nat → Int) → Option (Int)) (f16 : (Nat → Int) → (Nat → Int) → Option (Int × Int)) (xx : (cCons (cA .i64 15) (cCons (cA .i64 22) (cOne (cI .u8)))).T) : evF (R := (rOne (cB)).T) (cx [(10, conF (cCons (cA .i64 15) (cCons (cA .i64 22) (cOne (cI .i64)))) (rTup (cCons (cA .i64 33) (cOne (cI .i64)))) (fun a => f10 a.1 a.2.1 a.2.2)), (12, conF (cNil) (rOne (cB)) (fun a => f12)), (13, conF (cCons (cA .i64 3) (cOne (cA .i64 3))) (rOne (cA .i64 3)) (fun a => f13 a.1 a.2)), (14, conF (cOne (cA .i64 15)) (rOne (cI .i64)) (fun a => f14 a)), (15, conF (cOne (cA .i64 22)) (rOne (cI .i64)) (fun a => f15 a)), (16, conF (cCons (cA .i64 3) (cOne (cA .i64 3))) (rTup (cCons (cI .i64) (cOne (cI .i64)))) (fun a => f16 a.1 a.2))]) 1000 Tryd.f5 ((cCons (cA .i64 15) (cCons (cA .i64 22) (cOne (cI .u8)))).enc xx) (glMem gl) gG (rOne (cB)).dec =
 (fun (a : Nat → Int) (b : Nat → Int) (c : Int) =>
 (( Option.bind (f10 (nthI [a 0, a 1, a 2, a 3, a 4, a 5, a 6, a 7, a 8, a 9, a 10, a 11, a 12, a 13, a 14]) (nthI [b 0, b 1, b 2, b 3, b 4, b 5, b 6, b 7, b 8, b 9, b 10, b 11, b 12, b 13, b 14, b 15, b 16, b 17, b 18, b 19, b 20, b 21]) (IntKind.i64.wrap (c.tmod 4))) (fun r3 =>
 cond (!decide (r3.snd = 0)) (
 Option.bind (f14 (nthI [a 0, a 1, a 2, a 3, a 4, a 5, a 6, a 7, a 8, a 9, a 10, a 11, a 12, a 13, a 14])) (fun r4 =>
 cond (!decide (r4 = 0)) (
 some (true)) (
 Option.bind (f15 (nthI [b 0, b 1, b 2, b 3, b 4, b 5, b 6, b 7, b 8, b 9, b 10, b 11, b 12, b 13, b 14, b 15, b 16, b 17, b 18, b 19, b 20, b 21])) (fun r5 =>
 cond (!decide (r5 = 0)) (
 some (true)) (
 some (false)))))) (
 cond (!decide (bitsI BinOp.and IntKind.i64 (IntKind.i64.wrap (c.tmod 4)) 1 = 0)) (
 cond (!(decide (r3.fst 27 = r3.fst 9) && (decide (r3.fst 28 = r3.fst 10) && decide (r3.fst 29 = 0)))) (
 some (false)) (
 cond (!decide (bitsI BinOp.and IntKind.i64 (IntKind.i64.wrap (c.tmod 4)) 2 = 0)) (
 cond (!(decide (r3.fst 30 = r3.fst 12) && (decide (r3.fst 31 = r3.fst 13) && decide (r3.fst 32 = 0)))) (
 some (false)) (
 cond (decide (IntKind.i64.wrap (c.tmod 4) = 3)) (
 Option.bind (f16 (nthI [r3.fst 27, r3.fst 28, r3.fst 29]) (nthI [r3.fst 30, r3.fst 31, r3.fst 32])) (fun r4 =>
 Option.bind (f16 (nthI [r3.fst 9, r3.fst 10, r3.fst 11]) (nthI [r3.fst 12, r3.fst 13, r3.fst 14])) (fun r5 =>
 cond (!decide (r4.snd = 0)) (
 some (false)) (
 cond (!decide (r5.snd = 0)) (
 some (false)) (
 cond (!decide (r4.fst = r5.fst)) (
 some (false)) (
 Option.bind (f13 (nthI [r3.fst 0, r3.fst 1, r3.fst 2]) (nthI [r3.fst 9, r3.fst 10, r3.fst 11])) (fun r6 =>
 Option.bind (f13 (nthI [r3.fst 3, r3.fst 4, r3.fst 5]) (nthI [r3.fst 15, r3.fst 16, r3.fst 17])) (fun r7 =>
 Option.bind (f13 (nthI [r3.fst 12, r3.fst 13, r3.fst 14]) (nthI [r3.fst 0, r3.fst 1, r3.fst 2])) (fun r8 =>
 cond (decide (r6 0 = r8 0) && (decide (r6 1 = r8 1) && decide (r6 2 = r8 2))) (
 Option.bind (f13 (nthI [r3.fst 18, r3.fst 19, r3.fst 20]) (nthI [r3.fst 3, r3.fst 4, r3.fst 5])) (fun r9 =>
 cond (decide (r7 0 = r9 0) && (decide (r7 1 = r9 1) && decide (r7 2 = r9 2))) (
 cond (decide (r6 2 = 0)) (
 cond (decide (r7 2 = 0)) (
 cond (decide (r3.fst 0 = b 0)) (
 cond (decide (r3.fst 1 = b 1)) (
 some (true)) (
 some (false))) (
 some (false))) (
 some (false))) (
 some (false))) (
 some (false)))) (
 some (false))))))))))) (
 Option.bind (f13 (nthI [r3.fst 0, r3.fst 1, r3.fst 2]) (nthI [r3.fst 9, r3.fst 10, r3.fst 11])) (fun r4 =>
 Option.bind (f13 (nthI [r3.fst 3, r3.fst 4, r3.fst 5]) (nthI [r3.fst 15, r3.fst 16, r3.fst 17])) (fun r5 =>
 Option.bind (f13 (nthI [r3.fst 12, r3.fst 13, r3.fst 14]) (nthI [r3.fst 0, r3.fst 1, r3.fst 2])) (fun r6 =>
 cond (decide (r4 0 = r6 0) && (decide (r4 1 = r6 1) && decide (r4 2 = r6 2))) (
 Option.bind (f13 (nthI [r3.fst 18, r3.fst 19, r3.fst 20]) (nthI [r3.fst 3, r3.fst 4, r3.fst 5])) (fun r7 =>
 cond (decide (r5 0 = r7 0) && (decide (r5 1 = r7 1) && decide (r5 2 = r7 2))) (
 cond (decide (r4 2 = 0)) (
 cond (decide (r5 2 = 0)) (
 cond (decide (r3.fst 0 = b 0)) (
 cond (decide (r3.fst 1 = b 1)) (
 some (true)) (
 some (false))) (
 some (false))) (
 some (false))) (
 some (false))) (
 some (false)))) (
 some (false)))))))) (
 cond (decide (IntKind.i64.wrap (c.tmod 4) = 3)) (
 Option.bind (f16 (nthI [r3.fst 27, r3.fst 28, r3.fst 29]) (nthI [r3.fst 30, r3.fst 31, r3.fst 32])) (fun r4 =>
 Option.bind (f16 (nthI [r3.fst 9, r3.fst 10, r3.fst 11]) (nthI [r3.fst 12, r3.fst 13, r3.fst 14])) (fun r5 =>
 cond (!decide (r4.snd = 0)) (
 some (false)) (
 cond (!decide (r5.snd = 0)) (
 some (false)) (
 cond (!decide (r4.fst = r5.fst)) (
 some (false)) (
 Option.bind (f13 (nthI [r3.fst 0, r3.fst 1, r3.fst 2]) (nthI [r3.fst 9, r3.fst 10, r3.fst 11])) (fun r6 =>
 Option.bind (f13 (nthI [r3.fst 3, r3.fst 4, r3.fst 5]) (nthI [r3.fst 15, r3.fst 16, r3.fst 17])) (fun r7 =>
 Option.bind (f13 (nthI [r3.fst 12, r3.fst 13, r3.fst 14]) (nthI [r3.fst 0, r3.fst 1, r3.fst 2])) (fun r8 =>
 cond (decide (r6 0 = r8 0) && (decide (r6 1 = r8 1) && decide (r6 2 = r8 2))) (
 Option.bind (f13 (nthI [r3.fst 18, r3.fst 19, r3.fst 20]) (nthI [r3.fst 3, r3.fst 4, r3.fst 5])) (fun r9 =>
 cond (decide (r7 0 = r9 0) && (decide (r7 1 = r9 1) && decide (r7 2 = r9 2))) (
 cond (decide (r6 2 = 0)) (
 cond (decide (r7 2 = 0)) (
 cond (decide (r3.fst 0 = b 0)) (
 cond (decide (r3.fst 1 = b 1)) (
 some (true)) (
 some (false))) (
 some (false))) (
 some (false))) (
 some (false))) (
 some (false)))) (
 some (false))))))))))) (
 Option.bind (f13 (nthI [r3.fst 0, r3.fst 1, r3.fst 2]) (nthI [r3.fst 9, r3.fst 10, r3.fst 11])) (fun r4 =>
 Option.bind (f13 (nthI [r3.fst 3, r3.fst 4, r3.fst 5]) (nthI [r3.fst 15, r3.fst 16, r3.fst 17])) (fun r5 =>
 Option.bind (f13 (nthI [r3.fst 12, r3.fst 13, r3.fst 14]) (nthI [r3.fst 0, r3.fst 1, r3.fst 2])) (fun r6 =>
 cond (decide (r4 0 = r6 0) && (decide (r4 1 = r6 1) && decide (r4 2 = r6 2))) (
 Option.bind (f13 (nthI [r3.fst 18, r3.fst 19, r3.fst 20]) (nthI [r3.fst 3, r3.fst 4, r3.fst 5])) (fun r7 =>
 cond (decide (r5 0 = r7 0) && (decide (r5 1 = r7 1) && decide (r5 2 = r7 2))) (
 cond (decide (r4 2 = 0)) (
 cond (decide (r5 2 = 0)) (
 cond (decide (r3.fst 0 = b 0)) (
 cond (decide (r3.fst 1 = b 1)) (
 some (true)) (
 some (false))) (
 some (false))) (
 some (false))) (
 some (false))) (
 some (false)))) (
 some (false))))))))) (
 cond (!decide (bitsI BinOp.and IntKind.i64 (IntKind.i64.wrap (c.tmod 4)) 2 = 0)) (
 cond (!(decide (r3.fst 30 = r3.fst 12) && (decide (r3.fst 31 = r3.fst 13) && decide (r3.fst 32 = 0)))) (
 some (false)) (
 cond (decide (IntKind.i64.wrap (c.tmod 4) = 3)) (
 Option.bind (f16 (nthI [r3.fst 27, r3.fst 28, r3.fst 29]) (nthI [r3.fst 30, r3.fst 31, r3.fst 32])) (fun r4 =>
 Option.bind (f16 (nthI [r3.fst 9, r3.fst 10, r3.fst 11]) (nthI [r3.fst 12, r3.fst 13, r3.fst 14])) (fun r5 =>
 cond (!decide (r4.snd = 0)) (
 some (false)) (
 cond (!decide (r5.snd = 0)) (
 some (false)) (
 cond (!decide (r4.fst = r5.fst)) (
 some (false)) (
 Option.bind (f13 (nthI [r3.fst 0, r3.fst 1, r3.fst 2]) (nthI [r3.fst 9, r3.fst 10, r3.fst 11])) (fun r6 =>
 Option.bind (f13 (nthI [r3.fst 3, r3.fst 4, r3.fst 5]) (nthI [r3.fst 15, r3.fst 16, r3.fst 17])) (fun r7 =>
 Option.bind (f13 (nthI [r3.fst 12, r3.fst 13, r3.fst 14]) (nthI [r3.fst 0, r3.fst 1, r3.fst 2])) (fun r8 =>
 cond (decide (r6 0 = r8 0) && (decide (r6 1 = r8 1) && decide (r6 2 = r8 2))) (
 Option.bind (f13 (nthI [r3.fst 18, r3.fst 19, r3.fst 20]) (nthI [r3.fst 3, r3.fst 4, r3.fst 5])) (fun r9 =>
 cond (decide (r7 0 = r9 0) && (decide (r7 1 = r9 1) && decide (r7 2 = r9 2))) (
 cond (decide (r6 2 = 0)) (
 cond (decide (r7 2 = 0)) (
 cond (decide (r3.fst 0 = b 0)) (
 cond (decide (r3.fst 1 = b 1)) (
 some (true)) (
 some (false))) (
 some (false))) (
 some (false))) (
 some (false))) (
 some (false)))) (
 some (false))))))))))) (
 Option.bind (f13 (nthI [r3.fst 0, r3.fst 1, r3.fst 2]) (nthI [r3.fst 9, r3.fst 10, r3.fst 11])) (fun r4 =>
 Option.bind (f13 (nthI [r3.fst 3, r3.fst 4, r3.fst 5]) (nthI [r3.fst 15, r3.fst 16, r3.fst 17])) (fun r5 =>
 Option.bind (f13 (nthI [r3.fst 12, r3.fst 13, r3.fst 14]) (nthI [r3.fst 0, r3.fst 1, r3.fst 2])) (fun r6 =>
 cond (decide (r4 0 = r6 0) && (decide (r4 1 = r6 1) && decide (r4 2 = r6 2))) (
 Option.bind (f13 (nthI [r3.fst 18, r3.fst 19, r3.fst 20]) (nthI [r3.fst 3, r3.fst 4, r3.fst 5])) (fun r7 =>
 cond (decide (r5 0 = r7 0) && (decide (r5 1 = r7 1) && decide (r5 2 = r7 2))) (
 cond (decide (r4 2 = 0)) (
 cond (decide (r5 2 = 0)) (
 cond (decide (r3.fst 0 = b 0)) (
 cond (decide (r3.fst 1 = b 1)) (
 some (true)) (
 some (false))) (
 some (false))) (
 some (false))) (
 some (false))) (
 some (false)))) (
 some (false)))))))) (
 cond (decide (IntKind.i64.wrap (c.tmod 4) = 3)) (
 Option.bind (f16 (nthI [r3.fst 27, r3.fst 28, r3.fst 29]) (nthI [r3.fst 30, r3.fst 31, r3.fst 32])) (fun r4 =>
 Option.bind (f16 (nthI [r3.fst 9, r3.fst 10, r3.fst 11]) (nthI [r3.fst 12, r3.fst 13, r3.fst 14])) (fun r5 =>
 cond (!decide (r4.snd = 0)) (
 some (false)) (
 cond (!decide (r5.snd = 0)) (
 some (false)) (
 cond (!decide (r4.fst = r5.fst)) (
 some (false)) (
 Option.bind (f13 (nthI [r3.fst 0, r3.fst 1, r3.fst 2]) (nthI [r3.fst 9, r3.fst 10, r3.fst 11])) (fun r6 =>
 Option.bind (f13 (nthI [r3.fst 3, r3.fst 4, r3.fst 5]) (nthI [r3.fst 15, r3.fst 16, r3.fst 17])) (fun r7 =>
 Option.bind (f13 (nthI [r3.fst 12, r3.fst 13, r3.fst 14]) (nthI [r3.fst 0, r3.fst 1, r3.fst 2])) (fun r8 =>
 cond (decide (r6 0 = r8 0) && (decide (r6 1 = r8 1) && decide (r6 2 = r8 2))) (
 Option.bind (f13 (nthI [r3.fst 18, r3.fst 19, r3.fst 20]) (nthI [r3.fst 3, r3.fst 4, r3.fst 5])) (fun r9 =>
 cond (decide (r7 0 = r9 0) && (decide (r7 1 = r9 1) && decide (r7 2 = r9 2))) (
 cond (decide (r6 2 = 0)) (
 cond (decide (r7 2 = 0)) (
 cond (decide (r3.fst 0 = b 0)) (
 cond (decide (r3.fst 1 = b 1)) (
 some (true)) (
 some (false))) (
 some (false))) (
 some (false))) (
 some (false))) (
 some (false)))) (
 some (false))))))))))) (
 Option.bind (f13 (nthI [r3.fst 0, r3.fst 1, r3.fst 2]) (nthI [r3.fst 9, r3.fst 10, r3.fst 11])) (fun r4 =>
 Option.bind (f13 (nthI [r3.fst 3, r3.fst 4, r3.fst 5]) (nthI [r3.fst 15, r3.fst 16, r3.fst 17])) (fun r5 =>
 Option.bind (f13 (nthI [r3.fst 12, r3.fst 13, r3.fst 14]) (nthI [r3.fst 0, r3.fst 1, r3.fst 2])) (fun r6 =>
 cond (decide (r4 0 = r6 0) && (decide (r4 1 = r6 1) && decide (r4 2 = r6 2))) (
 Option.bind (f13 (nthI [r3.fst 18, r3.fst 19, r3.fst 20]) (nthI [r3.fst 3, r3.fst 4, r3.fst 5])) (fun r7 =>
 cond (decide (r5 0 = r7 0) && (decide (r5 1 = r7 1) && decide (r5 2 = r7 2))) (
 cond (decide (r4 2 = 0)) (
 cond (decide (r5 2 = 0)) (
 cond (decide (r3.fst 0 = b 0)) (
 cond (decide (r3.fst 1 = b 1)) (
 some (true)) (
 some (false))) (
 some (false))) (
 some (false))) (
 some (false))) (
 some (false)))) (
 some (false))))))))))) : Option (Bool))) xx.1 xx.2.1 xx.2.2 := by kernel_rfl
theorem ok5 : CtxOK Tryd.prog (cx [(10, conF (cCons (cA .i64 15) (cCons (cA .i64 22) (cOne (cI .i64)))) (rTup (cCons (cA .i64 33) (cOne (cI .i64)))) (fun a => f10 a.1 a.2.1 a.2.2)), (12, conF (cNil) (rOne (cB)) (fun a => f12)), (13, conF (cCons (cA .i64 3) (cOne (cA .i64 3))) (rOne (cA .i64 3)) (fun a => f13 a.1 a.2)), (14, conF (cOne (cA .i64 15)) (rOne (cI .i64)) (fun a => f14 a)), (15, conF (cOne (cA .i64 22)) (rOne (cI .i64)) (fun a => f15 a)), (16, conF (cCons (cA .i64 3) (cOne (cA .i64 3))) (rTup (cCons (cI .i64) (cOne (cI .i64)))) (fun a => f16 a.1 a.2))]) gl := ctx_of tyOk moOk (show SpecL Tryd.prog gG gl [(10, conF (cCons (cA .i64 15) (cCons (cA .i64 22) (cOne (cI .i64)))) (rTup (cCons (cA .i64 33) (cOne (cI .i64)))) (fun a => f10 a.1 a.2.1 a.2.2)), (12, conF (cNil) (rOne (cB)) (fun a => f12)), (13, conF (cCons (cA .i64 3) (cOne (cA .i64 3))) (rOne (cA .i64 3)) (fun a => f13 a.1 a.2)), (14, conF (cOne (cA .i64 15)) (rOne (cI .i64)) (fun a => f14 a)), (15, conF (cOne (cA .i64 22)) (rOne (cI .i64)) (fun a => f15 a)), (16, conF (cCons (cA .i64 3) (cOne (cA .i64 3))) (rTup (cCons (cI .i64) (cOne (cI .i64)))) (fun a => f16 a.1 a.2))] from ⟨sp10, sp12, sp13, sp14, sp15, sp16, trivial⟩) fnOk
noncomputable def g5 (a : Nat → Int) (b : Nat → Int) (c : Int) : Option (Bool) :=
 Option.bind (f10 (nthI [a 0, a 1, a 2, a 3, a 4, a 5, a 6, a 7, a 8, a 9, a 10, a 11, a 12, a 13, a 14]) (nthI [b 0, b 1, b 2, b 3, b 4, b 5, b 6, b 7, b 8, b 9, b 10, b 11, b 12, b 13, b 14, b 15, b 16, b 17, b 18, b 19, b 20, b 21]) (IntKind.i64.wrap (c.tmod 4))) (fun r3 =>
 cond (!decide (r3.snd = 0)) (
 Option.bind (f14 (nthI [a 0, a 1, a 2, a 3, a 4, a 5, a 6, a 7, a 8, a 9, a 10, a 11, a 12, a 13, a 14])) (fun r4 =>
 cond (!decide (r4 = 0)) (
 some (true)) (
 Option.bind (f15 (nthI [b 0, b 1, b 2, b 3, b 4, b 5, b 6, b 7, b 8, b 9, b 10, b 11, b 12, b 13, b 14, b 15, b 16, b 17, b 18, b 19, b 20, b 21])) (fun r5 =>
 cond (!decide (r5 = 0)) (
 some (true)) (
 some (false)))))) (
 cond (!decide (bitsI BinOp.and IntKind.i64 (IntKind.i64.wrap (c.tmod 4)) 1 = 0)) (
 cond (!(decide (r3.fst 27 = r3.fst 9) && (decide (r3.fst 28 = r3.fst 10) && decide (r3.fst 29 = 0)))) (
 some (false)) (
 cond (!decide (bitsI BinOp.and IntKind.i64 (IntKind.i64.wrap (c.tmod 4)) 2 = 0)) (
 cond (!(decide (r3.fst 30 = r3.fst 12) && (decide (r3.fst 31 = r3.fst 13) && decide (r3.fst 32 = 0)))) (
 some (false)) (
 cond (decide (IntKind.i64.wrap (c.tmod 4) = 3)) (
 Option.bind (f16 (nthI [r3.fst 27, r3.fst 28, r3.fst 29]) (nthI [r3.fst 30, r3.fst 31, r3.fst 32])) (fun r4 =>
 Option.bind (f16 (nthI [r3.fst 9, r3.fst 10, r3.fst 11]) (nthI [r3.fst 12, r3.fst 13, r3.fst 14])) (fun r5 =>
 cond (!decide (r4.snd = 0)) (
 some (false)) (
 cond (!decide (r5.snd = 0)) (
 some (false)) (
 cond (!decide (r4.fst = r5.fst)) (
 some (false)) (
 Option.bind (f13 (nthI [r3.fst 0, r3.fst 1, r3.fst 2]) (nthI [r3.fst 9, r3.fst 10, r3.fst 11])) (fun r6 =>
 Option.bind (f13 (nthI [r3.fst 3, r3.fst 4, r3.fst 5]) (nthI [r3.fst 15, r3.fst 16, r3.fst 17])) (fun r7 =>
 Option.bind (f13 (nthI [r3.fst 12, r3.fst 13, r3.fst 14]) (nthI [r3.fst 0, r3.fst 1, r3.fst 2])) (fun r8 =>
 cond (decide (r6 0 = r8 0) && (decide (r6 1 = r8 1) && decide (r6 2 = r8 2))) (
 Option.bind (f13 (nthI [r3.fst 18, r3.fst 19, r3.fst 20]) (nthI [r3.fst 3, r3.fst 4, r3.fst 5])) (fun r9 =>
 cond (decide (r7 0 = r9 0) && (decide (r7 1 = r9 1) && decide (r7 2 = r9 2))) (
 cond (decide (r6 2 = 0)) (
 cond (decide (r7 2 = 0)) (
 cond (decide (r3.fst 0 = b 0)) (
 cond (decide (r3.fst 1 = b 1)) (
 some (true)) (
 some (false))) (
 some (false))) (
 some (false))) (
 some (false))) (
 some (false)))) (
 some (false))))))))))) (
 Option.bind (f13 (nthI [r3.fst 0, r3.fst 1, r3.fst 2]) (nthI [r3.fst 9, r3.fst 10, r3.fst 11])) (fun r4 =>
 Option.bind (f13 (nthI [r3.fst 3, r3.fst 4, r3.fst 5]) (nthI [r3.fst 15, r3.fst 16, r3.fst 17])) (fun r5 =>
 Option.bind (f13 (nthI [r3.fst 12, r3.fst 13, r3.fst 14]) (nthI [r3.fst 0, r3.fst 1, r3.fst 2])) (fun r6 =>
 cond (decide (r4 0 = r6 0) && (decide (r4 1 = r6 1) && decide (r4 2 = r6 2))) (
 Option.bind (f13 (nthI [r3.fst 18, r3.fst 19, r3.fst 20]) (nthI [r3.fst 3, r3.fst 4, r3.fst 5])) (fun r7 =>
 cond (decide (r5 0 = r7 0) && (decide (r5 1 = r7 1) && decide (r5 2 = r7 2))) (
 cond (decide (r4 2 = 0)) (
 cond (decide (r5 2 = 0)) (
 cond (decide (r3.fst 0 = b 0)) (
 cond (decide (r3.fst 1 = b 1)) (
 some (true)) (
 some (false))) (
 some (false))) (
 some (false))) (
 some (false))) (
 some (false)))) (
 some (false)))))))) (
 cond (decide (IntKind.i64.wrap (c.tmod 4) = 3)) (
 Option.bind (f16 (nthI [r3.fst 27, r3.fst 28, r3.fst 29]) (nthI [r3.fst 30, r3.fst 31, r3.fst 32])) (fun r4 =>
 Option.bind (f16 (nthI [r3.fst 9, r3.fst 10, r3.fst 11]) (nthI [r3.fst 12, r3.fst 13, r3.fst 14])) (fun r5 =>
 cond (!decide (r4.snd = 0)) (
 some (false)) (
 cond (!decide (r5.snd = 0)) (
 some (false)) (
 cond (!decide (r4.fst = r5.fst)) (
 some (false)) (
 Option.bind (f13 (nthI [r3.fst 0, r3.fst 1, r3.fst 2]) (nthI [r3.fst 9, r3.fst 10, r3.fst 11])) (fun r6 =>
 Option.bind (f13 (nthI [r3.fst 3, r3.fst 4, r3.fst 5]) (nthI [r3.fst 15, r3.fst 16, r3.fst 17])) (fun r7 =>
 Option.bind (f13 (nthI [r3.fst 12, r3.fst 13, r3.fst 14]) (nthI [r3.fst 0, r3.fst 1, r3.fst 2])) (fun r8 =>
 cond (decide (r6 0 = r8 0) && (decide (r6 1 = r8 1) && decide (r6 2 = r8 2))) (
 Option.bind (f13 (nthI [r3.fst 18, r3.fst 19, r3.fst 20]) (nthI [r3.fst 3, r3.fst 4, r3.fst 5])) (fun r9 =>
 cond (decide (r7 0 = r9 0) && (decide (r7 1 = r9 1) && decide (r7 2 = r9 2))) (
 cond (decide (r6 2 = 0)) (
 cond (decide (r7 2 = 0)) (
 cond (decide (r3.fst 0 = b 0)) (
 cond (decide (r3.fst 1 = b 1)) (
 some (true)) (
 some (false))) (
 some (false))) (
 some (false))) (
 some (false))) (
 some (false)))) (
 some (false))))))))))) (
 Option.bind (f13 (nthI [r3.fst 0, r3.fst 1, r3.fst 2]) (nthI [r3.fst 9, r3.fst 10, r3.fst 11])) (fun r4 =>
 Option.bind (f13 (nthI [r3.fst 3, r3.fst 4, r3.fst 5]) (nthI [r3.fst 15, r3.fst 16, r3.fst 17])) (fun r5 =>
 Option.bind (f13 (nthI [r3.fst 12, r3.fst 13, r3.fst 14]) (nthI [r3.fst 0, r3.fst 1, r3.fst 2])) (fun r6 =>
 cond (decide (r4 0 = r6 0) && (decide (r4 1 = r6 1) && decide (r4 2 = r6 2))) (
 Option.bind (f13 (nthI [r3.fst 18, r3.fst 19, r3.fst 20]) (nthI [r3.fst 3, r3.fst 4, r3.fst 5])) (fun r7 =>
 cond (decide (r5 0 = r7 0) && (decide (r5 1 = r7 1) && decide (r5 2 = r7 2))) (
 cond (decide (r4 2 = 0)) (
 cond (decide (r5 2 = 0)) (
 cond (decide (r3.fst 0 = b 0)) (
 cond (decide (r3.fst 1 = b 1)) (
 some (true)) (
 some (false))) (
 some (false))) (
 some (false))) (
 some (false))) (
 some (false)))) (
 some (false))))))))) (
 cond (!decide (bitsI BinOp.and IntKind.i64 (IntKind.i64.wrap (c.tmod 4)) 2 = 0)) (
 cond (!(decide (r3.fst 30 = r3.fst 12) && (decide (r3.fst 31 = r3.fst 13) && decide (r3.fst 32 = 0)))) (
 some (false)) (
 cond (decide (IntKind.i64.wrap (c.tmod 4) = 3)) (
 Option.bind (f16 (nthI [r3.fst 27, r3.fst 28, r3.fst 29]) (nthI [r3.fst 30, r3.fst 31, r3.fst 32])) (fun r4 =>
 Option.bind (f16 (nthI [r3.fst 9, r3.fst 10, r3.fst 11]) (nthI [r3.fst 12, r3.fst 13, r3.fst 14])) (fun r5 =>
 cond (!decide (r4.snd = 0)) (
 some (false)) (
 cond (!decide (r5.snd = 0)) (
 some (false)) (
 cond (!decide (r4.fst = r5.fst)) (
 some (false)) (
 Option.bind (f13 (nthI [r3.fst 0, r3.fst 1, r3.fst 2]) (nthI [r3.fst 9, r3.fst 10, r3.fst 11])) (fun r6 =>
 Option.bind (f13 (nthI [r3.fst 3, r3.fst 4, r3.fst 5]) (nthI [r3.fst 15, r3.fst 16, r3.fst 17])) (fun r7 =>
 Option.bind (f13 (nthI [r3.fst 12, r3.fst 13, r3.fst 14]) (nthI [r3.fst 0, r3.fst 1, r3.fst 2])) (fun r8 =>
 cond (decide (r6 0 = r8 0) && (decide (r6 1 = r8 1) && decide (r6 2 = r8 2))) (
 Option.bind (f13 (nthI [r3.fst 18, r3.fst 19, r3.fst 20]) (nthI [r3.fst 3, r3.fst 4, r3.fst 5])) (fun r9 =>
 cond (decide (r7 0 = r9 0) && (decide (r7 1 = r9 1) && decide (r7 2 = r9 2))) (
 cond (decide (r6 2 = 0)) (
 cond (decide (r7 2 = 0)) (
 cond (decide (r3.fst 0 = b 0)) (
 cond (decide (r3.fst 1 = b 1)) (
 some (true)) (
 some (false))) (
 some (false))) (
 some (false))) (
 some (false))) (
 some (false)))) (
 some (false))))))))))) (
 Option.bind (f13 (nthI [r3.fst 0, r3.fst 1, r3.fst 2]) (nthI [r3.fst 9, r3.fst 10, r3.fst 11])) (fun r4 =>
 Option.bind (f13 (nthI [r3.fst 3, r3.fst 4, r3.fst 5]) (nthI [r3.fst 15, r3.fst 16, r3.fst 17])) (fun r5 =>
 Option.bind (f13 (nthI [r3.fst 12, r3.fst 13, r3.fst 14]) (nthI [r3.fst 0, r3.fst 1, r3.fst 2])) (fun r6 =>
 cond (decide (r4 0 = r6 0) && (decide (r4 1 = r6 1) && decide (r4 2 = r6 2))) (
 Option.bind (f13 (nthI [r3.fst 18, r3.fst 19, r3.fst 20]) (nthI [r3.fst 3, r3.fst 4, r3.fst 5])) (fun r7 =>
 cond (decide (r5 0 = r7 0) && (decide (r5 1 = r7 1) && decide (r5 2 = r7 2))) (
 cond (decide (r4 2 = 0)) (
 cond (decide (r5 2 = 0)) (
 cond (decide (r3.fst 0 = b 0)) (
 cond (decide (r3.fst 1 = b 1)) (
 some (true)) (
 some (false))) (
 some (false))) (
 some (false))) (
 some (false))) (
 some (false)))) (
 some (false)))))))) (
 cond (decide (IntKind.i64.wrap (c.tmod 4) = 3)) (
 Option.bind (f16 (nthI [r3.fst 27, r3.fst 28, r3.fst 29]) (nthI [r3.fst 30, r3.fst 31, r3.fst 32])) (fun r4 =>
 Option.bind (f16 (nthI [r3.fst 9, r3.fst 10, r3.fst 11]) (nthI [r3.fst 12, r3.fst 13, r3.fst 14])) (fun r5 =>
 cond (!decide (r4.snd = 0)) (
 some (false)) (
 cond (!decide (r5.snd = 0)) (
 some (false)) (
 cond (!decide (r4.fst = r5.fst)) (
 some (false)) (
 Option.bind (f13 (nthI [r3.fst 0, r3.fst 1, r3.fst 2]) (nthI [r3.fst 9, r3.fst 10, r3.fst 11])) (fun r6 =>
 Option.bind (f13 (nthI [r3.fst 3, r3.fst 4, r3.fst 5]) (nthI [r3.fst 15, r3.fst 16, r3.fst 17])) (fun r7 =>
 Option.bind (f13 (nthI [r3.fst 12, r3.fst 13, r3.fst 14]) (nthI [r3.fst 0, r3.fst 1, r3.fst 2])) (fun r8 =>
 cond (decide (r6 0 = r8 0) && (decide (r6 1 = r8 1) && decide (r6 2 = r8 2))) (
 Option.bind (f13 (nthI [r3.fst 18, r3.fst 19, r3.fst 20]) (nthI [r3.fst 3, r3.fst 4, r3.fst 5])) (fun r9 =>
 cond (decide (r7 0 = r9 0) && (decide (r7 1 = r9 1) && decide (r7 2 = r9 2))) (
 cond (decide (r6 2 = 0)) (
 cond (decide (r7 2 = 0)) (
 cond (decide (r3.fst 0 = b 0)) (
 cond (decide (r3.fst 1 = b 1)) (
 some (true)) (
 some (false))) (
 some (false))) (
 some (false))) (
 some (false))) (
 some (false)))) (
 some (false))))))))))) (
 Option.bind (f13 (nthI [r3.fst 0, r3.fst 1, r3.fst 2]) (nthI [r3.fst 9, r3.fst 10, r3.fst 11])) (fun r4 =>
 Option.bind (f13 (nthI [r3.fst 3, r3.fst 4, r3.fst 5]) (nthI [r3.fst 15, r3.fst 16, r3.fst 17])) (fun r5 =>
 Option.bind (f13 (nthI [r3.fst 12, r3.fst 13, r3.fst 14]) (nthI [r3.fst 0, r3.fst 1, r3.fst 2])) (fun r6 =>
 cond (decide (r4 0 = r6 0) && (decide (r4 1 = r6 1) && decide (r4 2 = r6 2))) (
 Option.bind (f13 (nthI [r3.fst 18, r3.fst 19, r3.fst 20]) (nthI [r3.fst 3, r3.fst 4, r3.fst 5])) (fun r7 =>
 cond (decide (r5 0 = r7 0) && (decide (r5 1 = r7 1) && decide (r5 2 = r7 2))) (
 cond (decide (r4 2 = 0)) (
 cond (decide (r5 2 = 0)) (
 cond (decide (r3.fst 0 = b 0)) (
 cond (decide (r3.fst 1 = b 1)) (
 some (true)) (
 some (false))) (
 some (false))) (
 some (false))) (
 some (false))) (
 some (false)))) (
 some (false))))))))))
theorem fg5 (a : Nat → Int) (b : Nat → Int) (c : Int) : g5 a b c = f5 a b c := by kernel_rfl
theorem ev5 (a : (cCons (cA .i64 15) (cCons (cA .i64 22) (cOne (cI .u8)))).T) : evF (R := (rOne (cB)).T) (cx [(10, conF (cCons (cA .i64 15) (cCons (cA .i64 22) (cOne (cI .i64)))) (rTup (cCons (cA .i64 33) (cOne (cI .i64)))) (fun a => f10 a.1 a.2.1 a.2.2)), (12, conF (cNil) (rOne (cB)) (fun a => f12)), (13, conF (cCons (cA .i64 3) (cOne (cA .i64 3))) (rOne (cA .i64 3)) (fun a => f13 a.1 a.2)), (14, conF (cOne (cA .i64 15)) (rOne (cI .i64)) (fun a => f14 a)), (15, conF (cOne (cA .i64 22)) (rOne (cI .i64)) (fun a => f15 a)), (16, conF (cCons (cA .i64 3) (cOne (cA .i64 3))) (rTup (cCons (cI .i64) (cOne (cI .i64)))) (fun a => f16 a.1 a.2))]) 1000 Tryd.f5 ((cCons (cA .i64 15) (cCons (cA .i64 22) (cOne (cI .u8)))).enc a) (glMem gl) gG (rOne (cB)).dec = f5 a.1 a.2.1 a.2.2 := (show evF (R := (rOne (cB)).T) (cx [(10, conF (cCons (cA .i64 15) (cCons (cA .i64 22) (cOne (cI .i64)))) (rTup (cCons (cA .i64 33) (cOne (cI .i64)))) (fun a => f10 a.1 a.2.1 a.2.2)), (12, conF (cNil) (rOne (cB)) (fun a => f12)), (13, conF (cCons (cA .i64 3) (cOne (cA .i64 3))) (rOne (cA .i64 3)) (fun a => f13 a.1 a.2)), (14, conF (cOne (cA .i64 15)) (rOne (cI .i64)) (fun a => f14 a)), (15, conF (cOne (cA .i64 22)) (rOne (cI .i64)) (fun a => f15 a)), (16, conF (cCons (cA .i64 3) (cOne (cA .i64 3))) (rTup (cCons (cI .i64) (cOne (cI .i64)))) (fun a => f16 a.1 a.2))]) 1000 Tryd.f5 ((cCons (cA .i64 15) (cCons (cA .i64 22) (cOne (cI .u8)))).enc a) (glMem gl) gG (rOne (cB)).dec = g5 a.1 a.2.1 a.2.2 from evg5 f10 f13 f14 f15 f16 a).trans (fg5 a.1 a.2.1 a.2.2)
theorem sp5 : VE.Spec Tryd.prog gG gl 5 (conF (cCons (cA .i64 15) (cCons (cA .i64 22) (cOne (cI .u8)))) (rOne (cB)) (fun a => f5 a.1 a.2.1 a.2.2)) := spec_of ok5 Tryd.func5 Tryd.call5 1000 (cCons_ok (cA_ok _ _) (cCons_ok (cA_ok _ _) (cOne_ok (cI_ok _)))) (rOne_ok (cB_ok)) ev5
noncomputable abbrev con5 : List (Nat × (List AV → Option ConR)) := [(10, conF (cCons (cA .i64 15) (cCons (cA .i64 22) (cOne (cI .i64)))) (rTup (cCons (cA .i64 33) (cOne (cI .i64)))) (fun a => f10 a.1 a.2.1 a.2.2)), (12, conF (cNil) (rOne (cB)) (fun a => f12)), (13, conF (cCons (cA .i64 3) (cOne (cA .i64 3))) (rOne (cA .i64 3)) (fun a => f13 a.1 a.2)), (14, conF (cOne (cA .i64 15)) (rOne (cI .i64)) (fun a => f14 a)), (15, conF (cOne (cA .i64 22)) (rOne (cI .i64)) (fun a => f15 a)), (16, conF (cCons (cA .i64 3) (cOne (cA .i64 3))) (rTup (cCons (cI .i64) (cOne (cI .i64)))) (fun a => f16 a.1 a.2))]

/-- dancestudioref20.End -/
noncomputable def f18 (a : Nat → Int) (b : Int) : Option ((Nat → Int) × Int) :=
 cond (decide (b < 0)) (
 some ((nthI [0, 0, 0], 9))) (
 cond (decide (6 ≤ b)) (
 some ((nthI [0, 0, 0], 9))) (
 cond (decide (0 ≤ b)) (
 cond (decide (b < 6)) (
 some ((nthI [[a 27, a 30, a 3, a 21, a 24, a 6].getD b.toNat 0, [a 28, a 31, a 4, a 22, a 25, a 7].getD b.toNat 0, [a 29, a 32, a 5, a 23, a 26, a 8].getD b.toNat 0], 0))) none) none))
theorem evg18  (xx : (cCons (cA .i64 33) (cOne (cI .i64))).T) : evF (R := (rTup (cCons (cA .i64 3) (cOne (cI .i64)))).T) (cx []) 1000 Tryd.f18 ((cCons (cA .i64 33) (cOne (cI .i64))).enc xx) (glMem gl) gG (rTup (cCons (cA .i64 3) (cOne (cI .i64)))).dec =
 (fun (a : Nat → Int) (b : Int) =>
 (( cond (decide (b < 0)) (
 some ((nthI [0, 0, 0], 9))) (
 cond (decide (6 ≤ b)) (
 some ((nthI [0, 0, 0], 9))) (
 cond (decide (0 ≤ b)) (
 cond (decide (b < 6)) (
 some ((nthI [[a 27, a 30, a 3, a 21, a 24, a 6].getD b.toNat 0, [a 28, a 31, a 4, a 22, a 25, a 7].getD b.toNat 0, [a 29, a 32, a 5, a 23, a 26, a 8].getD b.toNat 0], 0))) none) none))) : Option ((Nat → Int) × Int))) xx.1 xx.2 := by kernel_rfl
theorem ok18 : CtxOK Tryd.prog (cx []) gl := ctx_of tyOk moOk trivial fnOk
theorem ev18 (a : (cCons (cA .i64 33) (cOne (cI .i64))).T) : evF (R := (rTup (cCons (cA .i64 3) (cOne (cI .i64)))).T) (cx []) 1000 Tryd.f18 ((cCons (cA .i64 33) (cOne (cI .i64))).enc a) (glMem gl) gG (rTup (cCons (cA .i64 3) (cOne (cI .i64)))).dec = f18 a.1 a.2 := evg18  a
theorem sp18 : VE.Spec Tryd.prog gG gl 18 (conF (cCons (cA .i64 33) (cOne (cI .i64))) (rTup (cCons (cA .i64 3) (cOne (cI .i64)))) (fun a => f18 a.1 a.2)) := spec_of ok18 Tryd.func18 Tryd.call18 1000 (cCons_ok (cA_ok _ _) (cOne_ok (cI_ok _))) (rTup_ok (cCons_ok (cA_ok _ _) (cOne_ok (cI_ok _)))) ev18
noncomputable abbrev con18 : List (Nat × (List AV → Option ConR)) := []

/-- dancestudioref20.Low -/
noncomputable def f20 (a : Nat → Int) : Option (Int) :=
 some (minI (minI (minI (minI (minI (a 29) (a 32)) (a 23)) (a 26)) (a 5)) (a 8))
theorem evg20  (xx : (cOne (cA .i64 33)).T) : evF (R := (rOne (cI .i64)).T) (cx []) 1000 Tryd.f20 ((cOne (cA .i64 33)).enc xx) (glMem gl) gG (rOne (cI .i64)).dec =
 (fun (a : Nat → Int) =>
 (( some (minI (minI (minI (minI (minI (a 29) (a 32)) (a 23)) (a 26)) (a 5)) (a 8))) : Option (Int))) xx := by kernel_rfl
theorem ok20 : CtxOK Tryd.prog (cx []) gl := ctx_of tyOk moOk trivial fnOk
theorem ev20 (a : (cOne (cA .i64 33)).T) : evF (R := (rOne (cI .i64)).T) (cx []) 1000 Tryd.f20 ((cOne (cA .i64 33)).enc a) (glMem gl) gG (rOne (cI .i64)).dec = f20 a := evg20  a
theorem sp20 : VE.Spec Tryd.prog gG gl 20 (conF (cOne (cA .i64 33)) (rOne (cI .i64)) (fun a => f20 a)) := spec_of ok20 Tryd.func20 Tryd.call20 1000 (cOne_ok (cA_ok _ _)) (rOne_ok (cI_ok _)) ev20
noncomputable abbrev con20 : List (Nat × (List AV → Option ConR)) := []

/-- dancestudiolaw20.JointsEnd -/
noncomputable def f6 (a : Nat → Int) (b : Int) : Option (Bool) :=
 Option.bind (f17 a b) (fun r2 =>
 Option.bind (f18 a b) (fun r3 =>
 cond (decide (r2.fst 0 = r3.fst 0) && (decide (r2.fst 1 = r3.fst 1) && decide (r2.fst 2 = r3.fst 2))) (
 cond (decide (r2.snd = r3.snd)) (
 Option.bind (f19 a) (fun r4 =>
 Option.bind (f20 a) (fun r5 =>
 cond (decide (r4 = r5)) (
 some (true)) (
 some (false))))) (
 some (false))) (
 some (false))))
theorem evg6 (f17 : (Nat → Int) → (Int) → Option ((Nat → Int) × Int)) (f18 : (Nat → Int) → (Int) → Option ((Nat → Int) × Int)) (f19 : (Nat → Int) → Option (Int)) (f20 : (Nat → Int) → Option (Int)) (xx : (cCons (cA .i64 33) (cOne (cI .i64))).T) : evF (R := (rOne (cB)).T) (cx [(12, conF (cNil) (rOne (cB)) (fun a => f12)), (17, conF (cCons (cA .i64 33) (cOne (cI .i64))) (rTup (cCons (cA .i64 3) (cOne (cI .i64)))) (fun a => f17 a.1 a.2)), (18, conF (cCons (cA .i64 33) (cOne (cI .i64))) (rTup (cCons (cA .i64 3) (cOne (cI .i64)))) (fun a => f18 a.1 a.2)), (19, conF (cOne (cA .i64 33)) (rOne (cI .i64)) (fun a => f19 a)), (20, conF (cOne (cA .i64 33)) (rOne (cI .i64)) (fun a => f20 a))]) 1000 Tryd.f6 ((cCons (cA .i64 33) (cOne (cI .i64))).enc xx) (glMem gl) gG (rOne (cB)).dec =
 (fun (a : Nat → Int) (b : Int) =>
 (( Option.bind (f17 (nthI [a 0, a 1, a 2, a 3, a 4, a 5, a 6, a 7, a 8, a 9, a 10, a 11, a 12, a 13, a 14, a 15, a 16, a 17, a 18, a 19, a 20, a 21, a 22, a 23, a 24, a 25, a 26, a 27, a 28, a 29, a 30, a 31, a 32]) b) (fun r2 =>
 Option.bind (f18 (nthI [a 0, a 1, a 2, a 3, a 4, a 5, a 6, a 7, a 8, a 9, a 10, a 11, a 12, a 13, a 14, a 15, a 16, a 17, a 18, a 19, a 20, a 21, a 22, a 23, a 24, a 25, a 26, a 27, a 28, a 29, a 30, a 31, a 32]) b) (fun r3 =>
 cond (decide (r2.fst 0 = r3.fst 0) && (decide (r2.fst 1 = r3.fst 1) && decide (r2.fst 2 = r3.fst 2))) (
 cond (decide (r2.snd = r3.snd)) (
 Option.bind (f19 (nthI [a 0, a 1, a 2, a 3, a 4, a 5, a 6, a 7, a 8, a 9, a 10, a 11, a 12, a 13, a 14, a 15, a 16, a 17, a 18, a 19, a 20, a 21, a 22, a 23, a 24, a 25, a 26, a 27, a 28, a 29, a 30, a 31, a 32])) (fun r4 =>
 Option.bind (f20 (nthI [a 0, a 1, a 2, a 3, a 4, a 5, a 6, a 7, a 8, a 9, a 10, a 11, a 12, a 13, a 14, a 15, a 16, a 17, a 18, a 19, a 20, a 21, a 22, a 23, a 24, a 25, a 26, a 27, a 28, a 29, a 30, a 31, a 32])) (fun r5 =>
 cond (decide (r4 = r5)) (
 some (true)) (
 some (false))))) (
 some (false))) (
 some (false))))) : Option (Bool))) xx.1 xx.2 := by kernel_rfl
theorem ok6 : CtxOK Tryd.prog (cx [(12, conF (cNil) (rOne (cB)) (fun a => f12)), (17, conF (cCons (cA .i64 33) (cOne (cI .i64))) (rTup (cCons (cA .i64 3) (cOne (cI .i64)))) (fun a => f17 a.1 a.2)), (18, conF (cCons (cA .i64 33) (cOne (cI .i64))) (rTup (cCons (cA .i64 3) (cOne (cI .i64)))) (fun a => f18 a.1 a.2)), (19, conF (cOne (cA .i64 33)) (rOne (cI .i64)) (fun a => f19 a)), (20, conF (cOne (cA .i64 33)) (rOne (cI .i64)) (fun a => f20 a))]) gl := ctx_of tyOk moOk (show SpecL Tryd.prog gG gl [(12, conF (cNil) (rOne (cB)) (fun a => f12)), (17, conF (cCons (cA .i64 33) (cOne (cI .i64))) (rTup (cCons (cA .i64 3) (cOne (cI .i64)))) (fun a => f17 a.1 a.2)), (18, conF (cCons (cA .i64 33) (cOne (cI .i64))) (rTup (cCons (cA .i64 3) (cOne (cI .i64)))) (fun a => f18 a.1 a.2)), (19, conF (cOne (cA .i64 33)) (rOne (cI .i64)) (fun a => f19 a)), (20, conF (cOne (cA .i64 33)) (rOne (cI .i64)) (fun a => f20 a))] from ⟨sp12, sp17, sp18, sp19, sp20, trivial⟩) fnOk
noncomputable def g6 (a : Nat → Int) (b : Int) : Option (Bool) :=
 Option.bind (f17 (nthI [a 0, a 1, a 2, a 3, a 4, a 5, a 6, a 7, a 8, a 9, a 10, a 11, a 12, a 13, a 14, a 15, a 16, a 17, a 18, a 19, a 20, a 21, a 22, a 23, a 24, a 25, a 26, a 27, a 28, a 29, a 30, a 31, a 32]) b) (fun r2 =>
 Option.bind (f18 (nthI [a 0, a 1, a 2, a 3, a 4, a 5, a 6, a 7, a 8, a 9, a 10, a 11, a 12, a 13, a 14, a 15, a 16, a 17, a 18, a 19, a 20, a 21, a 22, a 23, a 24, a 25, a 26, a 27, a 28, a 29, a 30, a 31, a 32]) b) (fun r3 =>
 cond (decide (r2.fst 0 = r3.fst 0) && (decide (r2.fst 1 = r3.fst 1) && decide (r2.fst 2 = r3.fst 2))) (
 cond (decide (r2.snd = r3.snd)) (
 Option.bind (f19 (nthI [a 0, a 1, a 2, a 3, a 4, a 5, a 6, a 7, a 8, a 9, a 10, a 11, a 12, a 13, a 14, a 15, a 16, a 17, a 18, a 19, a 20, a 21, a 22, a 23, a 24, a 25, a 26, a 27, a 28, a 29, a 30, a 31, a 32])) (fun r4 =>
 Option.bind (f20 (nthI [a 0, a 1, a 2, a 3, a 4, a 5, a 6, a 7, a 8, a 9, a 10, a 11, a 12, a 13, a 14, a 15, a 16, a 17, a 18, a 19, a 20, a 21, a 22, a 23, a 24, a 25, a 26, a 27, a 28, a 29, a 30, a 31, a 32])) (fun r5 =>
 cond (decide (r4 = r5)) (
 some (true)) (
 some (false))))) (
 some (false))) (
 some (false))))
theorem fg6 (a : Nat → Int) (b : Int) : g6 a b = f6 a b := by kernel_rfl
theorem ev6 (a : (cCons (cA .i64 33) (cOne (cI .i64))).T) : evF (R := (rOne (cB)).T) (cx [(12, conF (cNil) (rOne (cB)) (fun a => f12)), (17, conF (cCons (cA .i64 33) (cOne (cI .i64))) (rTup (cCons (cA .i64 3) (cOne (cI .i64)))) (fun a => f17 a.1 a.2)), (18, conF (cCons (cA .i64 33) (cOne (cI .i64))) (rTup (cCons (cA .i64 3) (cOne (cI .i64)))) (fun a => f18 a.1 a.2)), (19, conF (cOne (cA .i64 33)) (rOne (cI .i64)) (fun a => f19 a)), (20, conF (cOne (cA .i64 33)) (rOne (cI .i64)) (fun a => f20 a))]) 1000 Tryd.f6 ((cCons (cA .i64 33) (cOne (cI .i64))).enc a) (glMem gl) gG (rOne (cB)).dec = f6 a.1 a.2 := (show evF (R := (rOne (cB)).T) (cx [(12, conF (cNil) (rOne (cB)) (fun a => f12)), (17, conF (cCons (cA .i64 33) (cOne (cI .i64))) (rTup (cCons (cA .i64 3) (cOne (cI .i64)))) (fun a => f17 a.1 a.2)), (18, conF (cCons (cA .i64 33) (cOne (cI .i64))) (rTup (cCons (cA .i64 3) (cOne (cI .i64)))) (fun a => f18 a.1 a.2)), (19, conF (cOne (cA .i64 33)) (rOne (cI .i64)) (fun a => f19 a)), (20, conF (cOne (cA .i64 33)) (rOne (cI .i64)) (fun a => f20 a))]) 1000 Tryd.f6 ((cCons (cA .i64 33) (cOne (cI .i64))).enc a) (glMem gl) gG (rOne (cB)).dec = g6 a.1 a.2 from evg6 f17 f18 f19 f20 a).trans (fg6 a.1 a.2)
theorem sp6 : VE.Spec Tryd.prog gG gl 6 (conF (cCons (cA .i64 33) (cOne (cI .i64))) (rOne (cB)) (fun a => f6 a.1 a.2)) := spec_of ok6 Tryd.func6 Tryd.call6 1000 (cCons_ok (cA_ok _ _) (cOne_ok (cI_ok _))) (rOne_ok (cB_ok)) ev6
noncomputable abbrev con6 : List (Nat × (List AV → Option ConR)) := [(12, conF (cNil) (rOne (cB)) (fun a => f12)), (17, conF (cCons (cA .i64 33) (cOne (cI .i64))) (rTup (cCons (cA .i64 3) (cOne (cI .i64)))) (fun a => f17 a.1 a.2)), (18, conF (cCons (cA .i64 33) (cOne (cI .i64))) (rTup (cCons (cA .i64 3) (cOne (cI .i64)))) (fun a => f18 a.1 a.2)), (19, conF (cOne (cA .i64 33)) (rOne (cI .i64)) (fun a => f19 a)), (20, conF (cOne (cA .i64 33)) (rOne (cI .i64)) (fun a => f20 a))]

/-- dancestudioref20.far -/
noncomputable def f44 (a : Int) : Option (Bool) :=
 cond (decide (a < -65536)) (
 some (true)) (
 some (decide (65536 < a)))
theorem evg44  (xx : (cOne (cI .i64)).T) : evF (R := (rOne (cB)).T) (cx []) 1000 Tryd.f44 ((cOne (cI .i64)).enc xx) (glMem gl) gG (rOne (cB)).dec =
 (fun (a : Int) =>
 (( cond (decide (a < -65536)) (
 some (true)) (
 some (decide (65536 < a)))) : Option (Bool))) xx := by kernel_rfl
theorem ok44 : CtxOK Tryd.prog (cx []) gl := ctx_of tyOk moOk trivial fnOk
theorem ev44 (a : (cOne (cI .i64)).T) : evF (R := (rOne (cB)).T) (cx []) 1000 Tryd.f44 ((cOne (cI .i64)).enc a) (glMem gl) gG (rOne (cB)).dec = f44 a := evg44  a
theorem sp44 : VE.Spec Tryd.prog gG gl 44 (conF (cOne (cI .i64)) (rOne (cB)) (fun a => f44 a)) := spec_of ok44 Tryd.func44 Tryd.call44 1000 (cOne_ok (cI_ok _)) (rOne_ok (cB_ok)) ev44
noncomputable abbrev con44 : List (Nat × (List AV → Option ConR)) := []

/-- dancestudioref20.Dist2 -/
noncomputable def f21 (a : Nat → Int) (b : Nat → Int) : Option (Int × Int) :=
 Option.bind (f44 (a 0)) (fun r2 =>
 cond (r2) (
 some ((0, 1))) (
 Option.bind (f44 (a 1)) (fun r3 =>
 cond (r3) (
 some ((0, 1))) (
 Option.bind (f44 (a 2)) (fun r4 =>
 cond (r4) (
 some ((0, 1))) (
 Option.bind (f44 (b 0)) (fun r5 =>
 cond (r5) (
 some ((0, 1))) (
 Option.bind (f44 (b 1)) (fun r6 =>
 cond (r6) (
 some ((0, 1))) (
 Option.bind (f44 (b 2)) (fun r7 =>
 cond (r7) (
 some ((0, 1))) (
 some ((IntKind.i64.wrap (IntKind.i64.wrap (IntKind.i64.wrap (IntKind.i64.wrap (a 0 - b 0) * IntKind.i64.wrap (a 0 - b 0)) + IntKind.i64.wrap (IntKind.i64.wrap (a 1 - b 1) * IntKind.i64.wrap (a 1 - b 1))) + IntKind.i64.wrap (IntKind.i64.wrap (a 2 - b 2) * IntKind.i64.wrap (a 2 - b 2))), 0))))))))))))))
theorem evg21 (f44 : (Int) → Option (Bool)) (xx : (cCons (cA .i64 3) (cOne (cA .i64 3))).T) : evF (R := (rTup (cCons (cI .i64) (cOne (cI .i64)))).T) (cx [(44, conF (cOne (cI .i64)) (rOne (cB)) (fun a => f44 a))]) 1000 Tryd.f21 ((cCons (cA .i64 3) (cOne (cA .i64 3))).enc xx) (glMem gl) gG (rTup (cCons (cI .i64) (cOne (cI .i64)))).dec =
 (fun (a : Nat → Int) (b : Nat → Int) =>
 (( Option.bind (f44 (a 0)) (fun r2 =>
 cond (r2) (
 some ((0, 1))) (
 Option.bind (f44 (a 1)) (fun r3 =>
 cond (r3) (
 some ((0, 1))) (
 Option.bind (f44 (a 2)) (fun r4 =>
 cond (r4) (
 some ((0, 1))) (
 Option.bind (f44 (b 0)) (fun r5 =>
 cond (r5) (
 some ((0, 1))) (
 Option.bind (f44 (b 1)) (fun r6 =>
 cond (r6) (
 some ((0, 1))) (
 Option.bind (f44 (b 2)) (fun r7 =>
 cond (r7) (
 some ((0, 1))) (
 some ((IntKind.i64.wrap (IntKind.i64.wrap (IntKind.i64.wrap (IntKind.i64.wrap (a 0 - b 0) * IntKind.i64.wrap (a 0 - b 0)) + IntKind.i64.wrap (IntKind.i64.wrap (a 1 - b 1) * IntKind.i64.wrap (a 1 - b 1))) + IntKind.i64.wrap (IntKind.i64.wrap (a 2 - b 2) * IntKind.i64.wrap (a 2 - b 2))), 0))))))))))))))) : Option (Int × Int))) xx.1 xx.2 := by kernel_rfl
theorem ok21 : CtxOK Tryd.prog (cx [(44, conF (cOne (cI .i64)) (rOne (cB)) (fun a => f44 a))]) gl := ctx_of tyOk moOk (show SpecL Tryd.prog gG gl [(44, conF (cOne (cI .i64)) (rOne (cB)) (fun a => f44 a))] from ⟨sp44, trivial⟩) fnOk
theorem ev21 (a : (cCons (cA .i64 3) (cOne (cA .i64 3))).T) : evF (R := (rTup (cCons (cI .i64) (cOne (cI .i64)))).T) (cx [(44, conF (cOne (cI .i64)) (rOne (cB)) (fun a => f44 a))]) 1000 Tryd.f21 ((cCons (cA .i64 3) (cOne (cA .i64 3))).enc a) (glMem gl) gG (rTup (cCons (cI .i64) (cOne (cI .i64)))).dec = f21 a.1 a.2 := evg21 f44 a
theorem sp21 : VE.Spec Tryd.prog gG gl 21 (conF (cCons (cA .i64 3) (cOne (cA .i64 3))) (rTup (cCons (cI .i64) (cOne (cI .i64)))) (fun a => f21 a.1 a.2)) := spec_of ok21 Tryd.func21 Tryd.call21 1000 (cCons_ok (cA_ok _ _) (cOne_ok (cA_ok _ _))) (rTup_ok (cCons_ok (cI_ok _) (cOne_ok (cI_ok _)))) ev21
noncomputable abbrev con21 : List (Nat × (List AV → Option ConR)) := [(44, conF (cOne (cI .i64)) (rOne (cB)) (fun a => f44 a))]

/-- dancestudiolaw20.JointsDist -/
noncomputable def f7 (a : Nat → Int) (b : Nat → Int) : Option (Bool) :=
 Option.bind (f16 a b) (fun r2 =>
 Option.bind (f21 a b) (fun r3 =>
 Option.bind (f16 b a) (fun r4 =>
 cond (decide (r2.fst = r3.fst)) (
 cond (decide (r2.snd = r3.snd)) (
 cond (decide (r4.fst = r2.fst)) (
 cond (decide (r4.snd = r2.snd)) (
 some (true)) (
 some (false))) (
 some (false))) (
 some (false))) (
 some (false)))))
theorem evg7 (f16 : (Nat → Int) → (Nat → Int) → Option (Int × Int)) (f21 : (Nat → Int) → (Nat → Int) → Option (Int × Int)) (xx : (cCons (cA .i64 3) (cOne (cA .i64 3))).T) : evF (R := (rOne (cB)).T) (cx [(12, conF (cNil) (rOne (cB)) (fun a => f12)), (16, conF (cCons (cA .i64 3) (cOne (cA .i64 3))) (rTup (cCons (cI .i64) (cOne (cI .i64)))) (fun a => f16 a.1 a.2)), (21, conF (cCons (cA .i64 3) (cOne (cA .i64 3))) (rTup (cCons (cI .i64) (cOne (cI .i64)))) (fun a => f21 a.1 a.2))]) 1000 Tryd.f7 ((cCons (cA .i64 3) (cOne (cA .i64 3))).enc xx) (glMem gl) gG (rOne (cB)).dec =
 (fun (a : Nat → Int) (b : Nat → Int) =>
 (( Option.bind (f16 (nthI [a 0, a 1, a 2]) (nthI [b 0, b 1, b 2])) (fun r2 =>
 Option.bind (f21 (nthI [a 0, a 1, a 2]) (nthI [b 0, b 1, b 2])) (fun r3 =>
 Option.bind (f16 (nthI [b 0, b 1, b 2]) (nthI [a 0, a 1, a 2])) (fun r4 =>
 cond (decide (r2.fst = r3.fst)) (
 cond (decide (r2.snd = r3.snd)) (
 cond (decide (r4.fst = r2.fst)) (
 cond (decide (r4.snd = r2.snd)) (
 some (true)) (
 some (false))) (
 some (false))) (
 some (false))) (
 some (false)))))) : Option (Bool))) xx.1 xx.2 := by kernel_rfl
theorem ok7 : CtxOK Tryd.prog (cx [(12, conF (cNil) (rOne (cB)) (fun a => f12)), (16, conF (cCons (cA .i64 3) (cOne (cA .i64 3))) (rTup (cCons (cI .i64) (cOne (cI .i64)))) (fun a => f16 a.1 a.2)), (21, conF (cCons (cA .i64 3) (cOne (cA .i64 3))) (rTup (cCons (cI .i64) (cOne (cI .i64)))) (fun a => f21 a.1 a.2))]) gl := ctx_of tyOk moOk (show SpecL Tryd.prog gG gl [(12, conF (cNil) (rOne (cB)) (fun a => f12)), (16, conF (cCons (cA .i64 3) (cOne (cA .i64 3))) (rTup (cCons (cI .i64) (cOne (cI .i64)))) (fun a => f16 a.1 a.2)), (21, conF (cCons (cA .i64 3) (cOne (cA .i64 3))) (rTup (cCons (cI .i64) (cOne (cI .i64)))) (fun a => f21 a.1 a.2))] from ⟨sp12, sp16, sp21, trivial⟩) fnOk
noncomputable def g7 (a : Nat → Int) (b : Nat → Int) : Option (Bool) :=
 Option.bind (f16 (nthI [a 0, a 1, a 2]) (nthI [b 0, b 1, b 2])) (fun r2 =>
 Option.bind (f21 (nthI [a 0, a 1, a 2]) (nthI [b 0, b 1, b 2])) (fun r3 =>
 Option.bind (f16 (nthI [b 0, b 1, b 2]) (nthI [a 0, a 1, a 2])) (fun r4 =>
 cond (decide (r2.fst = r3.fst)) (
 cond (decide (r2.snd = r3.snd)) (
 cond (decide (r4.fst = r2.fst)) (
 cond (decide (r4.snd = r2.snd)) (
 some (true)) (
 some (false))) (
 some (false))) (
 some (false))) (
 some (false)))))
theorem fg7 (a : Nat → Int) (b : Nat → Int) : g7 a b = f7 a b := by kernel_rfl
theorem ev7 (a : (cCons (cA .i64 3) (cOne (cA .i64 3))).T) : evF (R := (rOne (cB)).T) (cx [(12, conF (cNil) (rOne (cB)) (fun a => f12)), (16, conF (cCons (cA .i64 3) (cOne (cA .i64 3))) (rTup (cCons (cI .i64) (cOne (cI .i64)))) (fun a => f16 a.1 a.2)), (21, conF (cCons (cA .i64 3) (cOne (cA .i64 3))) (rTup (cCons (cI .i64) (cOne (cI .i64)))) (fun a => f21 a.1 a.2))]) 1000 Tryd.f7 ((cCons (cA .i64 3) (cOne (cA .i64 3))).enc a) (glMem gl) gG (rOne (cB)).dec = f7 a.1 a.2 := (show evF (R := (rOne (cB)).T) (cx [(12, conF (cNil) (rOne (cB)) (fun a => f12)), (16, conF (cCons (cA .i64 3) (cOne (cA .i64 3))) (rTup (cCons (cI .i64) (cOne (cI .i64)))) (fun a => f16 a.1 a.2)), (21, conF (cCons (cA .i64 3) (cOne (cA .i64 3))) (rTup (cCons (cI .i64) (cOne (cI .i64)))) (fun a => f21 a.1 a.2))]) 1000 Tryd.f7 ((cCons (cA .i64 3) (cOne (cA .i64 3))).enc a) (glMem gl) gG (rOne (cB)).dec = g7 a.1 a.2 from evg7 f16 f21 a).trans (fg7 a.1 a.2)
theorem sp7 : VE.Spec Tryd.prog gG gl 7 (conF (cCons (cA .i64 3) (cOne (cA .i64 3))) (rOne (cB)) (fun a => f7 a.1 a.2)) := spec_of ok7 Tryd.func7 Tryd.call7 1000 (cCons_ok (cA_ok _ _) (cOne_ok (cA_ok _ _))) (rOne_ok (cB_ok)) ev7
noncomputable abbrev con7 : List (Nat × (List AV → Option ConR)) := [(12, conF (cNil) (rOne (cB)) (fun a => f12)), (16, conF (cCons (cA .i64 3) (cOne (cA .i64 3))) (rTup (cCons (cI .i64) (cOne (cI .i64)))) (fun a => f16 a.1 a.2)), (21, conF (cCons (cA .i64 3) (cOne (cA .i64 3))) (rTup (cCons (cI .i64) (cOne (cI .i64)))) (fun a => f21 a.1 a.2))]

/-- posture.turned -/
noncomputable def f45 (a : Nat → Int) (b : Int) : Option ((Nat → Int) × Int) :=
 cond (decide (0 < (IntKind.i64.wrap (b.tmod 4 + 4)).tmod 4)) (
 cond (decide (1 < (IntKind.i64.wrap (b.tmod 4 + 4)).tmod 4)) (
 cond (decide (2 < (IntKind.i64.wrap (b.tmod 4 + 4)).tmod 4)) (
 cond (decide (3 < (IntKind.i64.wrap (b.tmod 4 + 4)).tmod 4)) (
 cond (decide (4 < (IntKind.i64.wrap (b.tmod 4 + 4)).tmod 4)) (
 cond (decide (5 < (IntKind.i64.wrap (b.tmod 4 + 4)).tmod 4)) (
 cond (decide (6 < (IntKind.i64.wrap (b.tmod 4 + 4)).tmod 4)) none (
 some ((nthI [IntKind.i64.wrap (0 - IntKind.i64.wrap (0 - IntKind.i64.wrap (0 - a 0))), IntKind.i64.wrap (0 - IntKind.i64.wrap (0 - IntKind.i64.wrap (0 - a 1)))], (IntKind.i64.wrap (b.tmod 4 + 4)).tmod 4)))) (
 some ((nthI [IntKind.i64.wrap (0 - IntKind.i64.wrap (0 - a 1)), IntKind.i64.wrap (0 - IntKind.i64.wrap (0 - IntKind.i64.wrap (0 - a 0)))], (IntKind.i64.wrap (b.tmod 4 + 4)).tmod 4)))) (
 some ((nthI [IntKind.i64.wrap (0 - IntKind.i64.wrap (0 - a 0)), IntKind.i64.wrap (0 - IntKind.i64.wrap (0 - a 1))], (IntKind.i64.wrap (b.tmod 4 + 4)).tmod 4)))) (
 some ((nthI [IntKind.i64.wrap (0 - a 1), IntKind.i64.wrap (0 - IntKind.i64.wrap (0 - a 0))], (IntKind.i64.wrap (b.tmod 4 + 4)).tmod 4)))) (
 some ((nthI [IntKind.i64.wrap (0 - a 0), IntKind.i64.wrap (0 - a 1)], (IntKind.i64.wrap (b.tmod 4 + 4)).tmod 4)))) (
 some ((nthI [a 1, IntKind.i64.wrap (0 - a 0)], (IntKind.i64.wrap (b.tmod 4 + 4)).tmod 4)))) (
 some ((nthI [a 0, a 1], (IntKind.i64.wrap (b.tmod 4 + 4)).tmod 4)))
theorem evg45  (xx : (cCons (cA .i64 2) (cOne (cI .i64))).T) : evF (R := (rTup (cCons (cA .i64 2) (cOne (cI .i64)))).T) (cx []) 16 Tryd.f45 ((cCons (cA .i64 2) (cOne (cI .i64))).enc xx) (glMem gl) gG (rTup (cCons (cA .i64 2) (cOne (cI .i64)))).dec =
 (fun (a : Nat → Int) (b : Int) =>
 (( cond (decide (0 < (IntKind.i64.wrap (b.tmod 4 + 4)).tmod 4)) (
 cond (decide (1 < (IntKind.i64.wrap (b.tmod 4 + 4)).tmod 4)) (
 cond (decide (2 < (IntKind.i64.wrap (b.tmod 4 + 4)).tmod 4)) (
 cond (decide (3 < (IntKind.i64.wrap (b.tmod 4 + 4)).tmod 4)) (
 cond (decide (4 < (IntKind.i64.wrap (b.tmod 4 + 4)).tmod 4)) (
 cond (decide (5 < (IntKind.i64.wrap (b.tmod 4 + 4)).tmod 4)) (
 cond (decide (6 < (IntKind.i64.wrap (b.tmod 4 + 4)).tmod 4)) none (
 some ((nthI [IntKind.i64.wrap (0 - IntKind.i64.wrap (0 - IntKind.i64.wrap (0 - a 0))), IntKind.i64.wrap (0 - IntKind.i64.wrap (0 - IntKind.i64.wrap (0 - a 1)))], (IntKind.i64.wrap (b.tmod 4 + 4)).tmod 4)))) (
 some ((nthI [IntKind.i64.wrap (0 - IntKind.i64.wrap (0 - a 1)), IntKind.i64.wrap (0 - IntKind.i64.wrap (0 - IntKind.i64.wrap (0 - a 0)))], (IntKind.i64.wrap (b.tmod 4 + 4)).tmod 4)))) (
 some ((nthI [IntKind.i64.wrap (0 - IntKind.i64.wrap (0 - a 0)), IntKind.i64.wrap (0 - IntKind.i64.wrap (0 - a 1))], (IntKind.i64.wrap (b.tmod 4 + 4)).tmod 4)))) (
 some ((nthI [IntKind.i64.wrap (0 - a 1), IntKind.i64.wrap (0 - IntKind.i64.wrap (0 - a 0))], (IntKind.i64.wrap (b.tmod 4 + 4)).tmod 4)))) (
 some ((nthI [IntKind.i64.wrap (0 - a 0), IntKind.i64.wrap (0 - a 1)], (IntKind.i64.wrap (b.tmod 4 + 4)).tmod 4)))) (
 some ((nthI [a 1, IntKind.i64.wrap (0 - a 0)], (IntKind.i64.wrap (b.tmod 4 + 4)).tmod 4)))) (
 some ((nthI [a 0, a 1], (IntKind.i64.wrap (b.tmod 4 + 4)).tmod 4)))) : Option ((Nat → Int) × Int))) xx.1 xx.2 := by kernel_rfl
theorem ok45 : CtxOK Tryd.prog (cx []) gl := ctx_of tyOk moOk trivial fnOk
theorem ev45 (a : (cCons (cA .i64 2) (cOne (cI .i64))).T) : evF (R := (rTup (cCons (cA .i64 2) (cOne (cI .i64)))).T) (cx []) 16 Tryd.f45 ((cCons (cA .i64 2) (cOne (cI .i64))).enc a) (glMem gl) gG (rTup (cCons (cA .i64 2) (cOne (cI .i64)))).dec = f45 a.1 a.2 := evg45  a
theorem sp45 : VE.Spec Tryd.prog gG gl 45 (conF (cCons (cA .i64 2) (cOne (cI .i64))) (rTup (cCons (cA .i64 2) (cOne (cI .i64)))) (fun a => f45 a.1 a.2)) := spec_of ok45 Tryd.func45 Tryd.call45 16 (cCons_ok (cA_ok _ _) (cOne_ok (cI_ok _))) (rTup_ok (cCons_ok (cA_ok _ _) (cOne_ok (cI_ok _)))) ev45
noncomputable abbrev con45 : List (Nat × (List AV → Option ConR)) := []

/-- posture.RotatePose -/
noncomputable def f22 (a : Nat → Int) (b : Int) : Option ((Nat → Int) × Int) :=
 Option.bind (f15 a) (fun r2 =>
 cond (!decide (r2 = 0)) (
 some ((nthI tab4, r2))) (
 Option.bind (f45 a b) (fun r3 =>
 some ((nthI [r3.fst 0, r3.fst 1, (IntKind.i64.wrap (a 2 + IntKind.i64.wrap (64 * r3.snd))).tmod 256, a 3, a 4, a 5, a 6, a 7, a 8, a 9, a 10, a 11, a 12, a 13, a 14, a 15, a 16, a 17, a 18, a 19, a 20, a 21], 0)))))
theorem evg22 (f15 : (Nat → Int) → Option (Int)) (f45 : (Nat → Int) → (Int) → Option ((Nat → Int) × Int)) (xx : (cCons (cA .i64 22) (cOne (cI .i64))).T) : evF (R := (rTup (cCons (cA .i64 22) (cOne (cI .i64)))).T) (cx [(15, conF (cOne (cA .i64 22)) (rOne (cI .i64)) (fun a => f15 a)), (45, conF (cCons (cA .i64 2) (cOne (cI .i64))) (rTup (cCons (cA .i64 2) (cOne (cI .i64)))) (fun a => f45 a.1 a.2))]) 1000 Tryd.f22 ((cCons (cA .i64 22) (cOne (cI .i64))).enc xx) (glMem gl) gG (rTup (cCons (cA .i64 22) (cOne (cI .i64)))).dec =
 (fun (a : Nat → Int) (b : Int) =>
 (( Option.bind (f15 (nthI [a 0, a 1, a 2, a 3, a 4, a 5, a 6, a 7, a 8, a 9, a 10, a 11, a 12, a 13, a 14, a 15, a 16, a 17, a 18, a 19, a 20, a 21])) (fun r2 =>
 cond (!decide (r2 = 0)) (
 some ((nthI tab4, r2))) (
 Option.bind (f45 (nthI [a 0, a 1]) b) (fun r3 =>
 some ((nthI [r3.fst 0, r3.fst 1, (IntKind.i64.wrap (a 2 + IntKind.i64.wrap (64 * r3.snd))).tmod 256, a 3, a 4, a 5, a 6, a 7, a 8, a 9, a 10, a 11, a 12, a 13, a 14, a 15, a 16, a 17, a 18, a 19, a 20, a 21], 0)))))) : Option ((Nat → Int) × Int))) xx.1 xx.2 := by kernel_rfl
theorem ok22 : CtxOK Tryd.prog (cx [(15, conF (cOne (cA .i64 22)) (rOne (cI .i64)) (fun a => f15 a)), (45, conF (cCons (cA .i64 2) (cOne (cI .i64))) (rTup (cCons (cA .i64 2) (cOne (cI .i64)))) (fun a => f45 a.1 a.2))]) gl := ctx_of tyOk moOk (show SpecL Tryd.prog gG gl [(15, conF (cOne (cA .i64 22)) (rOne (cI .i64)) (fun a => f15 a)), (45, conF (cCons (cA .i64 2) (cOne (cI .i64))) (rTup (cCons (cA .i64 2) (cOne (cI .i64)))) (fun a => f45 a.1 a.2))] from ⟨sp15, sp45, trivial⟩) fnOk
noncomputable def g22 (a : Nat → Int) (b : Int) : Option ((Nat → Int) × Int) :=
 Option.bind (f15 (nthI [a 0, a 1, a 2, a 3, a 4, a 5, a 6, a 7, a 8, a 9, a 10, a 11, a 12, a 13, a 14, a 15, a 16, a 17, a 18, a 19, a 20, a 21])) (fun r2 =>
 cond (!decide (r2 = 0)) (
 some ((nthI tab4, r2))) (
 Option.bind (f45 (nthI [a 0, a 1]) b) (fun r3 =>
 some ((nthI [r3.fst 0, r3.fst 1, (IntKind.i64.wrap (a 2 + IntKind.i64.wrap (64 * r3.snd))).tmod 256, a 3, a 4, a 5, a 6, a 7, a 8, a 9, a 10, a 11, a 12, a 13, a 14, a 15, a 16, a 17, a 18, a 19, a 20, a 21], 0)))))
theorem fg22 (a : Nat → Int) (b : Int) : g22 a b = f22 a b := by kernel_rfl
theorem ev22 (a : (cCons (cA .i64 22) (cOne (cI .i64))).T) : evF (R := (rTup (cCons (cA .i64 22) (cOne (cI .i64)))).T) (cx [(15, conF (cOne (cA .i64 22)) (rOne (cI .i64)) (fun a => f15 a)), (45, conF (cCons (cA .i64 2) (cOne (cI .i64))) (rTup (cCons (cA .i64 2) (cOne (cI .i64)))) (fun a => f45 a.1 a.2))]) 1000 Tryd.f22 ((cCons (cA .i64 22) (cOne (cI .i64))).enc a) (glMem gl) gG (rTup (cCons (cA .i64 22) (cOne (cI .i64)))).dec = f22 a.1 a.2 := (show evF (R := (rTup (cCons (cA .i64 22) (cOne (cI .i64)))).T) (cx [(15, conF (cOne (cA .i64 22)) (rOne (cI .i64)) (fun a => f15 a)), (45, conF (cCons (cA .i64 2) (cOne (cI .i64))) (rTup (cCons (cA .i64 2) (cOne (cI .i64)))) (fun a => f45 a.1 a.2))]) 1000 Tryd.f22 ((cCons (cA .i64 22) (cOne (cI .i64))).enc a) (glMem gl) gG (rTup (cCons (cA .i64 22) (cOne (cI .i64)))).dec = g22 a.1 a.2 from evg22 f15 f45 a).trans (fg22 a.1 a.2)
theorem sp22 : VE.Spec Tryd.prog gG gl 22 (conF (cCons (cA .i64 22) (cOne (cI .i64))) (rTup (cCons (cA .i64 22) (cOne (cI .i64)))) (fun a => f22 a.1 a.2)) := spec_of ok22 Tryd.func22 Tryd.call22 1000 (cCons_ok (cA_ok _ _) (cOne_ok (cI_ok _))) (rTup_ok (cCons_ok (cA_ok _ _) (cOne_ok (cI_ok _)))) ev22
noncomputable abbrev con22 : List (Nat × (List AV → Option ConR)) := [(15, conF (cOne (cA .i64 22)) (rOne (cI .i64)) (fun a => f15 a)), (45, conF (cCons (cA .i64 2) (cOne (cI .i64))) (rTup (cCons (cA .i64 2) (cOne (cI .i64)))) (fun a => f45 a.1 a.2))]

/-- dancestudiolaw20.turn -/
noncomputable def f23 (a : Nat → Int) : Option ((Nat → Int)) :=
 some (nthI [a 1, IntKind.i64.wrap (0 - a 0), a 2])
theorem evg23  (xx : (cOne (cA .i64 3)).T) : evF (R := (rOne (cA .i64 3)).T) (cx []) 1000 Tryd.f23 ((cOne (cA .i64 3)).enc xx) (glMem gl) gG (rOne (cA .i64 3)).dec =
 (fun (a : Nat → Int) =>
 (( some (nthI [a 1, IntKind.i64.wrap (0 - a 0), a 2])) : Option ((Nat → Int)))) xx := by kernel_rfl
theorem ok23 : CtxOK Tryd.prog (cx []) gl := ctx_of tyOk moOk trivial fnOk
theorem ev23 (a : (cOne (cA .i64 3)).T) : evF (R := (rOne (cA .i64 3)).T) (cx []) 1000 Tryd.f23 ((cOne (cA .i64 3)).enc a) (glMem gl) gG (rOne (cA .i64 3)).dec = f23 a := evg23  a
theorem sp23 : VE.Spec Tryd.prog gG gl 23 (conF (cOne (cA .i64 3)) (rOne (cA .i64 3)) (fun a => f23 a)) := spec_of ok23 Tryd.func23 Tryd.call23 1000 (cOne_ok (cA_ok _ _)) (rOne_ok (cA_ok _ _)) ev23
noncomputable abbrev con23 : List (Nat × (List AV → Option ConR)) := []

/-- dancestudiolaw20.both -/
noncomputable def f24 (a : Nat → Int) : Option ((Nat → Int)) :=
 Option.bind (f23 a) (fun r1 =>
 Option.bind (f23 (nthI [a 3, a 4, a 5])) (fun r2 =>
 some (nthI [r1 0, r1 1, r1 2, r2 0, r2 1, r2 2])))
theorem evg24 (f23 : (Nat → Int) → Option ((Nat → Int))) (xx : (cOne (cA .i64 6)).T) : evF (R := (rOne (cA .i64 6)).T) (cx [(23, conF (cOne (cA .i64 3)) (rOne (cA .i64 3)) (fun a => f23 a))]) 1000 Tryd.f24 ((cOne (cA .i64 6)).enc xx) (glMem gl) gG (rOne (cA .i64 6)).dec =
 (fun (a : Nat → Int) =>
 (( Option.bind (f23 (nthI [a 0, a 1, a 2])) (fun r1 =>
 Option.bind (f23 (nthI [a 3, a 4, a 5])) (fun r2 =>
 some (nthI [r1 0, r1 1, r1 2, r2 0, r2 1, r2 2])))) : Option ((Nat → Int)))) xx := by kernel_rfl
theorem ok24 : CtxOK Tryd.prog (cx [(23, conF (cOne (cA .i64 3)) (rOne (cA .i64 3)) (fun a => f23 a))]) gl := ctx_of tyOk moOk (show SpecL Tryd.prog gG gl [(23, conF (cOne (cA .i64 3)) (rOne (cA .i64 3)) (fun a => f23 a))] from ⟨sp23, trivial⟩) fnOk
noncomputable def g24 (a : Nat → Int) : Option ((Nat → Int)) :=
 Option.bind (f23 (nthI [a 0, a 1, a 2])) (fun r1 =>
 Option.bind (f23 (nthI [a 3, a 4, a 5])) (fun r2 =>
 some (nthI [r1 0, r1 1, r1 2, r2 0, r2 1, r2 2])))
theorem fg24 (a : Nat → Int) : g24 a = f24 a := by kernel_rfl
theorem ev24 (a : (cOne (cA .i64 6)).T) : evF (R := (rOne (cA .i64 6)).T) (cx [(23, conF (cOne (cA .i64 3)) (rOne (cA .i64 3)) (fun a => f23 a))]) 1000 Tryd.f24 ((cOne (cA .i64 6)).enc a) (glMem gl) gG (rOne (cA .i64 6)).dec = f24 a := (show evF (R := (rOne (cA .i64 6)).T) (cx [(23, conF (cOne (cA .i64 3)) (rOne (cA .i64 3)) (fun a => f23 a))]) 1000 Tryd.f24 ((cOne (cA .i64 6)).enc a) (glMem gl) gG (rOne (cA .i64 6)).dec = g24 a from evg24 f23 a).trans (fg24 a)
theorem sp24 : VE.Spec Tryd.prog gG gl 24 (conF (cOne (cA .i64 6)) (rOne (cA .i64 6)) (fun a => f24 a)) := spec_of ok24 Tryd.func24 Tryd.call24 1000 (cOne_ok (cA_ok _ _)) (rOne_ok (cA_ok _ _)) ev24
noncomputable abbrev con24 : List (Nat × (List AV → Option ConR)) := [(23, conF (cOne (cA .i64 3)) (rOne (cA .i64 3)) (fun a => f23 a))]

/-- dancestudiolaw20.JointsQuarters -/
noncomputable def f8 (a : Nat → Int) (b : Nat → Int) (c : Int) : Option (Bool) :=
 Option.bind (f10 a b (IntKind.i64.wrap (c.tmod 4))) (fun r3 =>
 cond (!decide (r3.snd = 0)) (
 cond (decide (r3.fst 0 = 0) && (decide (r3.fst 1 = 0) && decide (r3.fst 2 = 0)) && (decide (r3.fst 3 = 0) && (decide (r3.fst 4 = 0) && decide (r3.fst 5 = 0)) && (decide (r3.fst 6 = 0) && (decide (r3.fst 7 = 0) && decide (r3.fst 8 = 0)) && (decide (r3.fst 9 = 0) && (decide (r3.fst 10 = 0) && decide (r3.fst 11 = 0)) && (decide (r3.fst 12 = 0) && (decide (r3.fst 13 = 0) && decide (r3.fst 14 = 0))) && (decide (r3.fst 15 = 0) && (decide (r3.fst 16 = 0) && decide (r3.fst 17 = 0)) && (decide (r3.fst 18 = 0) && (decide (r3.fst 19 = 0) && decide (r3.fst 20 = 0))) && (decide (r3.fst 21 = 0) && (decide (r3.fst 22 = 0) && decide (r3.fst 23 = 0)) && (decide (r3.fst 24 = 0) && (decide (r3.fst 25 = 0) && decide (r3.fst 26 = 0))) && (decide (r3.fst 27 = 0) && (decide (r3.fst 28 = 0) && decide (r3.fst 29 = 0)) && (decide (r3.fst 30 = 0) && (decide (r3.fst 31 = 0) && decide (r3.fst 32 = 0)))))))))) (
 some (true)) (
 some (false))) (
 Option.bind (f22 b 1) (fun r4 =>
 Option.bind (f10 a r4.fst (IntKind.i64.wrap (c.tmod 4))) (fun r5 =>
 cond (!decide (r4.snd = 0)) (
 some (false)) (
 cond (!decide (r5.snd = 0)) (
 some (false)) (
 Option.bind (f23 r3.fst) (fun r6 =>
 Option.bind (f23 (nthI [r3.fst 3, r3.fst 4, r3.fst 5])) (fun r7 =>
 Option.bind (f23 (nthI [r3.fst 6, r3.fst 7, r3.fst 8])) (fun r8 =>
 Option.bind (f24 (nthI [r3.fst 9, r3.fst 10, r3.fst 11, r3.fst 12, r3.fst 13, r3.fst 14])) (fun r9 =>
 Option.bind (f24 (nthI [r3.fst 15, r3.fst 16, r3.fst 17, r3.fst 18, r3.fst 19, r3.fst 20])) (fun r10 =>
 Option.bind (f24 (nthI [r3.fst 21, r3.fst 22, r3.fst 23, r3.fst 24, r3.fst 25, r3.fst 26])) (fun r11 =>
 Option.bind (f24 (nthI [r3.fst 27, r3.fst 28, r3.fst 29, r3.fst 30, r3.fst 31, r3.fst 32])) (fun r12 =>
 cond (decide (r5.fst 0 = r6 0) && (decide (r5.fst 1 = r6 1) && decide (r5.fst 2 = r6 2)) && (decide (r5.fst 3 = r7 0) && (decide (r5.fst 4 = r7 1) && decide (r5.fst 5 = r7 2)) && (decide (r5.fst 6 = r8 0) && (decide (r5.fst 7 = r8 1) && decide (r5.fst 8 = r8 2)) && (decide (r5.fst 9 = r9 0) && (decide (r5.fst 10 = r9 1) && decide (r5.fst 11 = r9 2)) && (decide (r5.fst 12 = r9 3) && (decide (r5.fst 13 = r9 4) && decide (r5.fst 14 = r9 5))) && (decide (r5.fst 15 = r10 0) && (decide (r5.fst 16 = r10 1) && decide (r5.fst 17 = r10 2)) && (decide (r5.fst 18 = r10 3) && (decide (r5.fst 19 = r10 4) && decide (r5.fst 20 = r10 5))) && (decide (r5.fst 21 = r11 0) && (decide (r5.fst 22 = r11 1) && decide (r5.fst 23 = r11 2)) && (decide (r5.fst 24 = r11 3) && (decide (r5.fst 25 = r11 4) && decide (r5.fst 26 = r11 5))) && (decide (r5.fst 27 = r12 0) && (decide (r5.fst 28 = r12 1) && decide (r5.fst 29 = r12 2)) && (decide (r5.fst 30 = r12 3) && (decide (r5.fst 31 = r12 4) && decide (r5.fst 32 = r12 5)))))))))) (
 some (true)) (
 some (false)))))))))))))))
theorem evg8 (f10 : (Nat → Int) → (Nat → Int) → (Int) → Option ((Nat → Int) × Int)) (f22 : (Nat → Int) → (Int) → Option ((Nat → Int) × Int)) (f23 : (Nat → Int) → Option ((Nat → Int))) (f24 : (Nat → Int) → Option ((Nat → Int))) (xx : (cCons (cA .i64 15) (cCons (cA .i64 22) (cOne (cI .u8)))).T) : evF (R := (rOne (cB)).T) (cx [(10, conF (cCons (cA .i64 15) (cCons (cA .i64 22) (cOne (cI .i64)))) (rTup (cCons (cA .i64 33) (cOne (cI .i64)))) (fun a => f10 a.1 a.2.1 a.2.2)), (12, conF (cNil) (rOne (cB)) (fun a => f12)), (22, conF (cCons (cA .i64 22) (cOne (cI .i64))) (rTup (cCons (cA .i64 22) (cOne (cI .i64)))) (fun a => f22 a.1 a.2)), (23, conF (cOne (cA .i64 3)) (rOne (cA .i64 3)) (fun a => f23 a)), (24, conF (cOne (cA .i64 6)) (rOne (cA .i64 6)) (fun a => f24 a))]) 1000 Tryd.f8 ((cCons (cA .i64 15) (cCons (cA .i64 22) (cOne (cI .u8)))).enc xx) (glMem gl) gG (rOne (cB)).dec =
 (fun (a : Nat → Int) (b : Nat → Int) (c : Int) =>
 (( Option.bind (f10 (nthI [a 0, a 1, a 2, a 3, a 4, a 5, a 6, a 7, a 8, a 9, a 10, a 11, a 12, a 13, a 14]) (nthI [b 0, b 1, b 2, b 3, b 4, b 5, b 6, b 7, b 8, b 9, b 10, b 11, b 12, b 13, b 14, b 15, b 16, b 17, b 18, b 19, b 20, b 21]) (IntKind.i64.wrap (c.tmod 4))) (fun r3 =>
 cond (!decide (r3.snd = 0)) (
 cond (decide (r3.fst 0 = 0) && (decide (r3.fst 1 = 0) && decide (r3.fst 2 = 0)) && (decide (r3.fst 3 = 0) && (decide (r3.fst 4 = 0) && decide (r3.fst 5 = 0)) && (decide (r3.fst 6 = 0) && (decide (r3.fst 7 = 0) && decide (r3.fst 8 = 0)) && (decide (r3.fst 9 = 0) && (decide (r3.fst 10 = 0) && decide (r3.fst 11 = 0)) && (decide (r3.fst 12 = 0) && (decide (r3.fst 13 = 0) && decide (r3.fst 14 = 0))) && (decide (r3.fst 15 = 0) && (decide (r3.fst 16 = 0) && decide (r3.fst 17 = 0)) && (decide (r3.fst 18 = 0) && (decide (r3.fst 19 = 0) && decide (r3.fst 20 = 0))) && (decide (r3.fst 21 = 0) && (decide (r3.fst 22 = 0) && decide (r3.fst 23 = 0)) && (decide (r3.fst 24 = 0) && (decide (r3.fst 25 = 0) && decide (r3.fst 26 = 0))) && (decide (r3.fst 27 = 0) && (decide (r3.fst 28 = 0) && decide (r3.fst 29 = 0)) && (decide (r3.fst 30 = 0) && (decide (r3.fst 31 = 0) && decide (r3.fst 32 = 0)))))))))) (
 some (true)) (
 some (false))) (
 Option.bind (f22 (nthI [b 0, b 1, b 2, b 3, b 4, b 5, b 6, b 7, b 8, b 9, b 10, b 11, b 12, b 13, b 14, b 15, b 16, b 17, b 18, b 19, b 20, b 21]) 1) (fun r4 =>
 Option.bind (f10 (nthI [a 0, a 1, a 2, a 3, a 4, a 5, a 6, a 7, a 8, a 9, a 10, a 11, a 12, a 13, a 14]) (nthI [r4.fst 0, r4.fst 1, r4.fst 2, r4.fst 3, r4.fst 4, r4.fst 5, r4.fst 6, r4.fst 7, r4.fst 8, r4.fst 9, r4.fst 10, r4.fst 11, r4.fst 12, r4.fst 13, r4.fst 14, r4.fst 15, r4.fst 16, r4.fst 17, r4.fst 18, r4.fst 19, r4.fst 20, r4.fst 21]) (IntKind.i64.wrap (c.tmod 4))) (fun r5 =>
 cond (!decide (r4.snd = 0)) (
 some (false)) (
 cond (!decide (r5.snd = 0)) (
 some (false)) (
 Option.bind (f23 (nthI [r3.fst 0, r3.fst 1, r3.fst 2])) (fun r6 =>
 Option.bind (f23 (nthI [r3.fst 3, r3.fst 4, r3.fst 5])) (fun r7 =>
 Option.bind (f23 (nthI [r3.fst 6, r3.fst 7, r3.fst 8])) (fun r8 =>
 Option.bind (f24 (nthI [r3.fst 9, r3.fst 10, r3.fst 11, r3.fst 12, r3.fst 13, r3.fst 14])) (fun r9 =>
 Option.bind (f24 (nthI [r3.fst 15, r3.fst 16, r3.fst 17, r3.fst 18, r3.fst 19, r3.fst 20])) (fun r10 =>
 Option.bind (f24 (nthI [r3.fst 21, r3.fst 22, r3.fst 23, r3.fst 24, r3.fst 25, r3.fst 26])) (fun r11 =>
 Option.bind (f24 (nthI [r3.fst 27, r3.fst 28, r3.fst 29, r3.fst 30, r3.fst 31, r3.fst 32])) (fun r12 =>
 cond (decide (r5.fst 0 = r6 0) && (decide (r5.fst 1 = r6 1) && decide (r5.fst 2 = r6 2)) && (decide (r5.fst 3 = r7 0) && (decide (r5.fst 4 = r7 1) && decide (r5.fst 5 = r7 2)) && (decide (r5.fst 6 = r8 0) && (decide (r5.fst 7 = r8 1) && decide (r5.fst 8 = r8 2)) && (decide (r5.fst 9 = r9 0) && (decide (r5.fst 10 = r9 1) && decide (r5.fst 11 = r9 2)) && (decide (r5.fst 12 = r9 3) && (decide (r5.fst 13 = r9 4) && decide (r5.fst 14 = r9 5))) && (decide (r5.fst 15 = r10 0) && (decide (r5.fst 16 = r10 1) && decide (r5.fst 17 = r10 2)) && (decide (r5.fst 18 = r10 3) && (decide (r5.fst 19 = r10 4) && decide (r5.fst 20 = r10 5))) && (decide (r5.fst 21 = r11 0) && (decide (r5.fst 22 = r11 1) && decide (r5.fst 23 = r11 2)) && (decide (r5.fst 24 = r11 3) && (decide (r5.fst 25 = r11 4) && decide (r5.fst 26 = r11 5))) && (decide (r5.fst 27 = r12 0) && (decide (r5.fst 28 = r12 1) && decide (r5.fst 29 = r12 2)) && (decide (r5.fst 30 = r12 3) && (decide (r5.fst 31 = r12 4) && decide (r5.fst 32 = r12 5)))))))))) (
 some (true)) (
 some (false)))))))))))))))) : Option (Bool))) xx.1 xx.2.1 xx.2.2 := by kernel_rfl
theorem ok8 : CtxOK Tryd.prog (cx [(10, conF (cCons (cA .i64 15) (cCons (cA .i64 22) (cOne (cI .i64)))) (rTup (cCons (cA .i64 33) (cOne (cI .i64)))) (fun a => f10 a.1 a.2.1 a.2.2)), (12, conF (cNil) (rOne (cB)) (fun a => f12)), (22, conF (cCons (cA .i64 22) (cOne (cI .i64))) (rTup (cCons (cA .i64 22) (cOne (cI .i64)))) (fun a => f22 a.1 a.2)), (23, conF (cOne (cA .i64 3)) (rOne (cA .i64 3)) (fun a => f23 a)), (24, conF (cOne (cA .i64 6)) (rOne (cA .i64 6)) (fun a => f24 a))]) gl := ctx_of tyOk moOk (show SpecL Tryd.prog gG gl [(10, conF (cCons (cA .i64 15) (cCons (cA .i64 22) (cOne (cI .i64)))) (rTup (cCons (cA .i64 33) (cOne (cI .i64)))) (fun a => f10 a.1 a.2.1 a.2.2)), (12, conF (cNil) (rOne (cB)) (fun a => f12)), (22, conF (cCons (cA .i64 22) (cOne (cI .i64))) (rTup (cCons (cA .i64 22) (cOne (cI .i64)))) (fun a => f22 a.1 a.2)), (23, conF (cOne (cA .i64 3)) (rOne (cA .i64 3)) (fun a => f23 a)), (24, conF (cOne (cA .i64 6)) (rOne (cA .i64 6)) (fun a => f24 a))] from ⟨sp10, sp12, sp22, sp23, sp24, trivial⟩) fnOk
noncomputable def g8 (a : Nat → Int) (b : Nat → Int) (c : Int) : Option (Bool) :=
 Option.bind (f10 (nthI [a 0, a 1, a 2, a 3, a 4, a 5, a 6, a 7, a 8, a 9, a 10, a 11, a 12, a 13, a 14]) (nthI [b 0, b 1, b 2, b 3, b 4, b 5, b 6, b 7, b 8, b 9, b 10, b 11, b 12, b 13, b 14, b 15, b 16, b 17, b 18, b 19, b 20, b 21]) (IntKind.i64.wrap (c.tmod 4))) (fun r3 =>
 cond (!decide (r3.snd = 0)) (
 cond (decide (r3.fst 0 = 0) && (decide (r3.fst 1 = 0) && decide (r3.fst 2 = 0)) && (decide (r3.fst 3 = 0) && (decide (r3.fst 4 = 0) && decide (r3.fst 5 = 0)) && (decide (r3.fst 6 = 0) && (decide (r3.fst 7 = 0) && decide (r3.fst 8 = 0)) && (decide (r3.fst 9 = 0) && (decide (r3.fst 10 = 0) && decide (r3.fst 11 = 0)) && (decide (r3.fst 12 = 0) && (decide (r3.fst 13 = 0) && decide (r3.fst 14 = 0))) && (decide (r3.fst 15 = 0) && (decide (r3.fst 16 = 0) && decide (r3.fst 17 = 0)) && (decide (r3.fst 18 = 0) && (decide (r3.fst 19 = 0) && decide (r3.fst 20 = 0))) && (decide (r3.fst 21 = 0) && (decide (r3.fst 22 = 0) && decide (r3.fst 23 = 0)) && (decide (r3.fst 24 = 0) && (decide (r3.fst 25 = 0) && decide (r3.fst 26 = 0))) && (decide (r3.fst 27 = 0) && (decide (r3.fst 28 = 0) && decide (r3.fst 29 = 0)) && (decide (r3.fst 30 = 0) && (decide (r3.fst 31 = 0) && decide (r3.fst 32 = 0)))))))))) (
 some (true)) (
 some (false))) (
 Option.bind (f22 (nthI [b 0, b 1, b 2, b 3, b 4, b 5, b 6, b 7, b 8, b 9, b 10, b 11, b 12, b 13, b 14, b 15, b 16, b 17, b 18, b 19, b 20, b 21]) 1) (fun r4 =>
 Option.bind (f10 (nthI [a 0, a 1, a 2, a 3, a 4, a 5, a 6, a 7, a 8, a 9, a 10, a 11, a 12, a 13, a 14]) (nthI [r4.fst 0, r4.fst 1, r4.fst 2, r4.fst 3, r4.fst 4, r4.fst 5, r4.fst 6, r4.fst 7, r4.fst 8, r4.fst 9, r4.fst 10, r4.fst 11, r4.fst 12, r4.fst 13, r4.fst 14, r4.fst 15, r4.fst 16, r4.fst 17, r4.fst 18, r4.fst 19, r4.fst 20, r4.fst 21]) (IntKind.i64.wrap (c.tmod 4))) (fun r5 =>
 cond (!decide (r4.snd = 0)) (
 some (false)) (
 cond (!decide (r5.snd = 0)) (
 some (false)) (
 Option.bind (f23 (nthI [r3.fst 0, r3.fst 1, r3.fst 2])) (fun r6 =>
 Option.bind (f23 (nthI [r3.fst 3, r3.fst 4, r3.fst 5])) (fun r7 =>
 Option.bind (f23 (nthI [r3.fst 6, r3.fst 7, r3.fst 8])) (fun r8 =>
 Option.bind (f24 (nthI [r3.fst 9, r3.fst 10, r3.fst 11, r3.fst 12, r3.fst 13, r3.fst 14])) (fun r9 =>
 Option.bind (f24 (nthI [r3.fst 15, r3.fst 16, r3.fst 17, r3.fst 18, r3.fst 19, r3.fst 20])) (fun r10 =>
 Option.bind (f24 (nthI [r3.fst 21, r3.fst 22, r3.fst 23, r3.fst 24, r3.fst 25, r3.fst 26])) (fun r11 =>
 Option.bind (f24 (nthI [r3.fst 27, r3.fst 28, r3.fst 29, r3.fst 30, r3.fst 31, r3.fst 32])) (fun r12 =>
 cond (decide (r5.fst 0 = r6 0) && (decide (r5.fst 1 = r6 1) && decide (r5.fst 2 = r6 2)) && (decide (r5.fst 3 = r7 0) && (decide (r5.fst 4 = r7 1) && decide (r5.fst 5 = r7 2)) && (decide (r5.fst 6 = r8 0) && (decide (r5.fst 7 = r8 1) && decide (r5.fst 8 = r8 2)) && (decide (r5.fst 9 = r9 0) && (decide (r5.fst 10 = r9 1) && decide (r5.fst 11 = r9 2)) && (decide (r5.fst 12 = r9 3) && (decide (r5.fst 13 = r9 4) && decide (r5.fst 14 = r9 5))) && (decide (r5.fst 15 = r10 0) && (decide (r5.fst 16 = r10 1) && decide (r5.fst 17 = r10 2)) && (decide (r5.fst 18 = r10 3) && (decide (r5.fst 19 = r10 4) && decide (r5.fst 20 = r10 5))) && (decide (r5.fst 21 = r11 0) && (decide (r5.fst 22 = r11 1) && decide (r5.fst 23 = r11 2)) && (decide (r5.fst 24 = r11 3) && (decide (r5.fst 25 = r11 4) && decide (r5.fst 26 = r11 5))) && (decide (r5.fst 27 = r12 0) && (decide (r5.fst 28 = r12 1) && decide (r5.fst 29 = r12 2)) && (decide (r5.fst 30 = r12 3) && (decide (r5.fst 31 = r12 4) && decide (r5.fst 32 = r12 5)))))))))) (
 some (true)) (
 some (false)))))))))))))))
theorem fg8 (a : Nat → Int) (b : Nat → Int) (c : Int) : g8 a b c = f8 a b c := by kernel_rfl
theorem ev8 (a : (cCons (cA .i64 15) (cCons (cA .i64 22) (cOne (cI .u8)))).T) : evF (R := (rOne (cB)).T) (cx [(10, conF (cCons (cA .i64 15) (cCons (cA .i64 22) (cOne (cI .i64)))) (rTup (cCons (cA .i64 33) (cOne (cI .i64)))) (fun a => f10 a.1 a.2.1 a.2.2)), (12, conF (cNil) (rOne (cB)) (fun a => f12)), (22, conF (cCons (cA .i64 22) (cOne (cI .i64))) (rTup (cCons (cA .i64 22) (cOne (cI .i64)))) (fun a => f22 a.1 a.2)), (23, conF (cOne (cA .i64 3)) (rOne (cA .i64 3)) (fun a => f23 a)), (24, conF (cOne (cA .i64 6)) (rOne (cA .i64 6)) (fun a => f24 a))]) 1000 Tryd.f8 ((cCons (cA .i64 15) (cCons (cA .i64 22) (cOne (cI .u8)))).enc a) (glMem gl) gG (rOne (cB)).dec = f8 a.1 a.2.1 a.2.2 := (show evF (R := (rOne (cB)).T) (cx [(10, conF (cCons (cA .i64 15) (cCons (cA .i64 22) (cOne (cI .i64)))) (rTup (cCons (cA .i64 33) (cOne (cI .i64)))) (fun a => f10 a.1 a.2.1 a.2.2)), (12, conF (cNil) (rOne (cB)) (fun a => f12)), (22, conF (cCons (cA .i64 22) (cOne (cI .i64))) (rTup (cCons (cA .i64 22) (cOne (cI .i64)))) (fun a => f22 a.1 a.2)), (23, conF (cOne (cA .i64 3)) (rOne (cA .i64 3)) (fun a => f23 a)), (24, conF (cOne (cA .i64 6)) (rOne (cA .i64 6)) (fun a => f24 a))]) 1000 Tryd.f8 ((cCons (cA .i64 15) (cCons (cA .i64 22) (cOne (cI .u8)))).enc a) (glMem gl) gG (rOne (cB)).dec = g8 a.1 a.2.1 a.2.2 from evg8 f10 f22 f23 f24 a).trans (fg8 a.1 a.2.1 a.2.2)
theorem sp8 : VE.Spec Tryd.prog gG gl 8 (conF (cCons (cA .i64 15) (cCons (cA .i64 22) (cOne (cI .u8)))) (rOne (cB)) (fun a => f8 a.1 a.2.1 a.2.2)) := spec_of ok8 Tryd.func8 Tryd.call8 1000 (cCons_ok (cA_ok _ _) (cCons_ok (cA_ok _ _) (cOne_ok (cI_ok _)))) (rOne_ok (cB_ok)) ev8
noncomputable abbrev con8 : List (Nat × (List AV → Option ConR)) := [(10, conF (cCons (cA .i64 15) (cCons (cA .i64 22) (cOne (cI .i64)))) (rTup (cCons (cA .i64 33) (cOne (cI .i64)))) (fun a => f10 a.1 a.2.1 a.2.2)), (12, conF (cNil) (rOne (cB)) (fun a => f12)), (22, conF (cCons (cA .i64 22) (cOne (cI .i64))) (rTup (cCons (cA .i64 22) (cOne (cI .i64)))) (fun a => f22 a.1 a.2)), (23, conF (cOne (cA .i64 3)) (rOne (cA .i64 3)) (fun a => f23 a)), (24, conF (cOne (cA .i64 6)) (rOne (cA .i64 6)) (fun a => f24 a))]

/-- angle.Mirror -/
noncomputable def f46 (a : Int) : Option (Int) :=
 Option.bind (f61 a) (fun r1 =>
 Option.bind (f61 (IntKind.i64.wrap (0 - r1))) (fun r2 =>
 some (r2)))
theorem evg46 (f61 : (Int) → Option (Int)) (xx : (cOne (cI .i64)).T) : evF (R := (rOne (cI .i64)).T) (cx [(61, conF (cOne (cI .i64)) (rOne (cI .i64)) (fun a => f61 a))]) 1000 Tryd.f46 ((cOne (cI .i64)).enc xx) (glMem gl) gG (rOne (cI .i64)).dec =
 (fun (a : Int) =>
 (( Option.bind (f61 a) (fun r1 =>
 Option.bind (f61 (IntKind.i64.wrap (0 - r1))) (fun r2 =>
 some (r2)))) : Option (Int))) xx := by kernel_rfl
theorem ok46 : CtxOK Tryd.prog (cx [(61, conF (cOne (cI .i64)) (rOne (cI .i64)) (fun a => f61 a))]) gl := ctx_of tyOk moOk (show SpecL Tryd.prog gG gl [(61, conF (cOne (cI .i64)) (rOne (cI .i64)) (fun a => f61 a))] from ⟨sp61, trivial⟩) fnOk
theorem ev46 (a : (cOne (cI .i64)).T) : evF (R := (rOne (cI .i64)).T) (cx [(61, conF (cOne (cI .i64)) (rOne (cI .i64)) (fun a => f61 a))]) 1000 Tryd.f46 ((cOne (cI .i64)).enc a) (glMem gl) gG (rOne (cI .i64)).dec = f46 a := evg46 f61 a
theorem sp46 : VE.Spec Tryd.prog gG gl 46 (conF (cOne (cI .i64)) (rOne (cI .i64)) (fun a => f46 a)) := spec_of ok46 Tryd.func46 Tryd.call46 1000 (cOne_ok (cI_ok _)) (rOne_ok (cI_ok _)) ev46
noncomputable abbrev con46 : List (Nat × (List AV → Option ConR)) := [(61, conF (cOne (cI .i64)) (rOne (cI .i64)) (fun a => f61 a))]

/-- aim.Swap -/
noncomputable def f47 (a : Int) : Option (Int × Int) :=
 cond (decide (a = 0)) (
 some ((1, 0))) (
 cond (decide (a = 1)) (
 some ((0, 0))) (
 cond (decide (a = 3)) (
 some ((4, 0))) (
 cond (decide (a = 4)) (
 some ((3, 0))) (
 cond (decide (a = 2)) (
 cond (decide (a = 2)) (
 some ((a, 0))) (
 some ((0, 9)))) (
 cond (decide (a = 5)) (
 some ((a, 0))) (
 some ((0, 9))))))))
theorem evg47  (xx : (cOne (cI .i64)).T) : evF (R := (rTup (cCons (cI .i64) (cOne (cI .i64)))).T) (cx []) 1000 Tryd.f47 ((cOne (cI .i64)).enc xx) (glMem gl) gG (rTup (cCons (cI .i64) (cOne (cI .i64)))).dec =
 (fun (a : Int) =>
 (( cond (decide (a = 0)) (
 some ((1, 0))) (
 cond (decide (a = 1)) (
 some ((0, 0))) (
 cond (decide (a = 3)) (
 some ((4, 0))) (
 cond (decide (a = 4)) (
 some ((3, 0))) (
 cond (decide (a = 2)) (
 cond (decide (a = 2)) (
 some ((a, 0))) (
 some ((0, 9)))) (
 cond (decide (a = 5)) (
 some ((a, 0))) (
 some ((0, 9))))))))) : Option (Int × Int))) xx := by kernel_rfl
theorem ok47 : CtxOK Tryd.prog (cx []) gl := ctx_of tyOk moOk trivial fnOk
theorem ev47 (a : (cOne (cI .i64)).T) : evF (R := (rTup (cCons (cI .i64) (cOne (cI .i64)))).T) (cx []) 1000 Tryd.f47 ((cOne (cI .i64)).enc a) (glMem gl) gG (rTup (cCons (cI .i64) (cOne (cI .i64)))).dec = f47 a := evg47  a
theorem sp47 : VE.Spec Tryd.prog gG gl 47 (conF (cOne (cI .i64)) (rTup (cCons (cI .i64) (cOne (cI .i64)))) (fun a => f47 a)) := spec_of ok47 Tryd.func47 Tryd.call47 1000 (cOne_ok (cI_ok _)) (rTup_ok (cCons_ok (cI_ok _) (cOne_ok (cI_ok _)))) ev47
noncomputable abbrev con47 : List (Nat × (List AV → Option ConR)) := []

/-- aim.Mirror -/
noncomputable def f48 (a : Int) (b : Nat → Int) : Option ((Nat → Int) × Int) :=
 Option.bind (f43 a b) (fun r2 =>
 cond (!decide (r2 = 0)) (
 some ((nthI [0, 0, 0], r2))) (
 Option.bind (f46 (b 0)) (fun r3 =>
 some ((nthI [r3, b 1, b 2], 0)))))
theorem evg48 (f43 : (Int) → (Nat → Int) → Option (Int)) (f46 : (Int) → Option (Int)) (xx : (cCons (cI .i64) (cOne (cA .i64 3))).T) : evF (R := (rTup (cCons (cA .i64 3) (cOne (cI .i64)))).T) (cx [(43, conF (cCons (cI .i64) (cOne (cA .i64 3))) (rOne (cI .i64)) (fun a => f43 a.1 a.2)), (46, conF (cOne (cI .i64)) (rOne (cI .i64)) (fun a => f46 a))]) 1000 Tryd.f48 ((cCons (cI .i64) (cOne (cA .i64 3))).enc xx) (glMem gl) gG (rTup (cCons (cA .i64 3) (cOne (cI .i64)))).dec =
 (fun (a : Int) (b : Nat → Int) =>
 (( Option.bind (f43 a (nthI [b 0, b 1, b 2])) (fun r2 =>
 cond (!decide (r2 = 0)) (
 some ((nthI [0, 0, 0], r2))) (
 Option.bind (f46 (b 0)) (fun r3 =>
 some ((nthI [r3, b 1, b 2], 0)))))) : Option ((Nat → Int) × Int))) xx.1 xx.2 := by kernel_rfl
theorem ok48 : CtxOK Tryd.prog (cx [(43, conF (cCons (cI .i64) (cOne (cA .i64 3))) (rOne (cI .i64)) (fun a => f43 a.1 a.2)), (46, conF (cOne (cI .i64)) (rOne (cI .i64)) (fun a => f46 a))]) gl := ctx_of tyOk moOk (show SpecL Tryd.prog gG gl [(43, conF (cCons (cI .i64) (cOne (cA .i64 3))) (rOne (cI .i64)) (fun a => f43 a.1 a.2)), (46, conF (cOne (cI .i64)) (rOne (cI .i64)) (fun a => f46 a))] from ⟨sp43, sp46, trivial⟩) fnOk
noncomputable def g48 (a : Int) (b : Nat → Int) : Option ((Nat → Int) × Int) :=
 Option.bind (f43 a (nthI [b 0, b 1, b 2])) (fun r2 =>
 cond (!decide (r2 = 0)) (
 some ((nthI [0, 0, 0], r2))) (
 Option.bind (f46 (b 0)) (fun r3 =>
 some ((nthI [r3, b 1, b 2], 0)))))
theorem fg48 (a : Int) (b : Nat → Int) : g48 a b = f48 a b := by kernel_rfl
theorem ev48 (a : (cCons (cI .i64) (cOne (cA .i64 3))).T) : evF (R := (rTup (cCons (cA .i64 3) (cOne (cI .i64)))).T) (cx [(43, conF (cCons (cI .i64) (cOne (cA .i64 3))) (rOne (cI .i64)) (fun a => f43 a.1 a.2)), (46, conF (cOne (cI .i64)) (rOne (cI .i64)) (fun a => f46 a))]) 1000 Tryd.f48 ((cCons (cI .i64) (cOne (cA .i64 3))).enc a) (glMem gl) gG (rTup (cCons (cA .i64 3) (cOne (cI .i64)))).dec = f48 a.1 a.2 := (show evF (R := (rTup (cCons (cA .i64 3) (cOne (cI .i64)))).T) (cx [(43, conF (cCons (cI .i64) (cOne (cA .i64 3))) (rOne (cI .i64)) (fun a => f43 a.1 a.2)), (46, conF (cOne (cI .i64)) (rOne (cI .i64)) (fun a => f46 a))]) 1000 Tryd.f48 ((cCons (cI .i64) (cOne (cA .i64 3))).enc a) (glMem gl) gG (rTup (cCons (cA .i64 3) (cOne (cI .i64)))).dec = g48 a.1 a.2 from evg48 f43 f46 a).trans (fg48 a.1 a.2)
theorem sp48 : VE.Spec Tryd.prog gG gl 48 (conF (cCons (cI .i64) (cOne (cA .i64 3))) (rTup (cCons (cA .i64 3) (cOne (cI .i64)))) (fun a => f48 a.1 a.2)) := spec_of ok48 Tryd.func48 Tryd.call48 1000 (cCons_ok (cI_ok _) (cOne_ok (cA_ok _ _))) (rTup_ok (cCons_ok (cA_ok _ _) (cOne_ok (cI_ok _)))) ev48
noncomputable abbrev con48 : List (Nat × (List AV → Option ConR)) := [(43, conF (cCons (cI .i64) (cOne (cA .i64 3))) (rOne (cI .i64)) (fun a => f43 a.1 a.2)), (46, conF (cOne (cI .i64)) (rOne (cI .i64)) (fun a => f46 a))]

/-- posture.MirrorPose -/
noncomputable def f25 (a : Nat → Int) : Option ((Nat → Int) × Int) :=
 Option.bind (f15 a) (fun r1 =>
 cond (!decide (r1 = 0)) (
 some ((nthI tab4, r1))) (
 Option.bind (f46 (a 2)) (fun r2 =>
 Option.bind (f48 0 (nthI [a 4, a 5, a 6])) (fun r3 =>
 Option.bind (f48 1 (nthI [a 7, a 8, a 9])) (fun r4 =>
 Option.bind (f48 2 (nthI [a 10, a 11, a 12])) (fun r5 =>
 Option.bind (f48 3 (nthI [a 13, a 14, a 15])) (fun r6 =>
 Option.bind (f48 4 (nthI [a 16, a 17, a 18])) (fun r7 =>
 Option.bind (f48 5 (nthI [a 19, a 20, a 21])) (fun r8 =>
 some ((nthI [IntKind.i64.wrap (0 - a 0), a 1, r2, a 3, r4.fst 0, r4.fst 1, r4.fst 2, r3.fst 0, r3.fst 1, r3.fst 2, r5.fst 0, r5.fst 1, r5.fst 2, r7.fst 0, r7.fst 1, r7.fst 2, r6.fst 0, r6.fst 1, r6.fst 2, r8.fst 0, r8.fst 1, r8.fst 2], 0)))))))))))
theorem evg25 (f15 : (Nat → Int) → Option (Int)) (f46 : (Int) → Option (Int)) (f48 : (Int) → (Nat → Int) → Option ((Nat → Int) × Int)) (xx : (cOne (cA .i64 22)).T) : evF (R := (rTup (cCons (cA .i64 22) (cOne (cI .i64)))).T) (cx [(15, conF (cOne (cA .i64 22)) (rOne (cI .i64)) (fun a => f15 a)), (46, conF (cOne (cI .i64)) (rOne (cI .i64)) (fun a => f46 a)), (47, conF (cOne (cI .i64)) (rTup (cCons (cI .i64) (cOne (cI .i64)))) (fun a => f47 a)), (48, conF (cCons (cI .i64) (cOne (cA .i64 3))) (rTup (cCons (cA .i64 3) (cOne (cI .i64)))) (fun a => f48 a.1 a.2))]) 1000 Tryd.f25 ((cOne (cA .i64 22)).enc xx) (glMem gl) gG (rTup (cCons (cA .i64 22) (cOne (cI .i64)))).dec =
 (fun (a : Nat → Int) =>
 (( Option.bind (f15 (nthI [a 0, a 1, a 2, a 3, a 4, a 5, a 6, a 7, a 8, a 9, a 10, a 11, a 12, a 13, a 14, a 15, a 16, a 17, a 18, a 19, a 20, a 21])) (fun r1 =>
 cond (!decide (r1 = 0)) (
 some ((nthI tab4, r1))) (
 Option.bind (f46 (a 2)) (fun r2 =>
 Option.bind (f48 0 (nthI [a 4, a 5, a 6])) (fun r3 =>
 Option.bind (f48 1 (nthI [a 7, a 8, a 9])) (fun r4 =>
 Option.bind (f48 2 (nthI [a 10, a 11, a 12])) (fun r5 =>
 Option.bind (f48 3 (nthI [a 13, a 14, a 15])) (fun r6 =>
 Option.bind (f48 4 (nthI [a 16, a 17, a 18])) (fun r7 =>
 Option.bind (f48 5 (nthI [a 19, a 20, a 21])) (fun r8 =>
 some ((nthI [IntKind.i64.wrap (0 - a 0), a 1, r2, a 3, r4.fst 0, r4.fst 1, r4.fst 2, r3.fst 0, r3.fst 1, r3.fst 2, r5.fst 0, r5.fst 1, r5.fst 2, r7.fst 0, r7.fst 1, r7.fst 2, r6.fst 0, r6.fst 1, r6.fst 2, r8.fst 0, r8.fst 1, r8.fst 2], 0)))))))))))) : Option ((Nat → Int) × Int))) xx := by kernel_rfl
theorem ok25 : CtxOK Tryd.prog (cx [(15, conF (cOne (cA .i64 22)) (rOne (cI .i64)) (fun a => f15 a)), (46, conF (cOne (cI .i64)) (rOne (cI .i64)) (fun a => f46 a)), (47, conF (cOne (cI .i64)) (rTup (cCons (cI .i64) (cOne (cI .i64)))) (fun a => f47 a)), (48, conF (cCons (cI .i64) (cOne (cA .i64 3))) (rTup (cCons (cA .i64 3) (cOne (cI .i64)))) (fun a => f48 a.1 a.2))]) gl := ctx_of tyOk moOk (show SpecL Tryd.prog gG gl [(15, conF (cOne (cA .i64 22)) (rOne (cI .i64)) (fun a => f15 a)), (46, conF (cOne (cI .i64)) (rOne (cI .i64)) (fun a => f46 a)), (47, conF (cOne (cI .i64)) (rTup (cCons (cI .i64) (cOne (cI .i64)))) (fun a => f47 a)), (48, conF (cCons (cI .i64) (cOne (cA .i64 3))) (rTup (cCons (cA .i64 3) (cOne (cI .i64)))) (fun a => f48 a.1 a.2))] from ⟨sp15, sp46, sp47, sp48, trivial⟩) fnOk
noncomputable def g25 (a : Nat → Int) : Option ((Nat → Int) × Int) :=
 Option.bind (f15 (nthI [a 0, a 1, a 2, a 3, a 4, a 5, a 6, a 7, a 8, a 9, a 10, a 11, a 12, a 13, a 14, a 15, a 16, a 17, a 18, a 19, a 20, a 21])) (fun r1 =>
 cond (!decide (r1 = 0)) (
 some ((nthI tab4, r1))) (
 Option.bind (f46 (a 2)) (fun r2 =>
 Option.bind (f48 0 (nthI [a 4, a 5, a 6])) (fun r3 =>
 Option.bind (f48 1 (nthI [a 7, a 8, a 9])) (fun r4 =>
 Option.bind (f48 2 (nthI [a 10, a 11, a 12])) (fun r5 =>
 Option.bind (f48 3 (nthI [a 13, a 14, a 15])) (fun r6 =>
 Option.bind (f48 4 (nthI [a 16, a 17, a 18])) (fun r7 =>
 Option.bind (f48 5 (nthI [a 19, a 20, a 21])) (fun r8 =>
 some ((nthI [IntKind.i64.wrap (0 - a 0), a 1, r2, a 3, r4.fst 0, r4.fst 1, r4.fst 2, r3.fst 0, r3.fst 1, r3.fst 2, r5.fst 0, r5.fst 1, r5.fst 2, r7.fst 0, r7.fst 1, r7.fst 2, r6.fst 0, r6.fst 1, r6.fst 2, r8.fst 0, r8.fst 1, r8.fst 2], 0)))))))))))
theorem fg25 (a : Nat → Int) : g25 a = f25 a := by kernel_rfl
theorem ev25 (a : (cOne (cA .i64 22)).T) : evF (R := (rTup (cCons (cA .i64 22) (cOne (cI .i64)))).T) (cx [(15, conF (cOne (cA .i64 22)) (rOne (cI .i64)) (fun a => f15 a)), (46, conF (cOne (cI .i64)) (rOne (cI .i64)) (fun a => f46 a)), (47, conF (cOne (cI .i64)) (rTup (cCons (cI .i64) (cOne (cI .i64)))) (fun a => f47 a)), (48, conF (cCons (cI .i64) (cOne (cA .i64 3))) (rTup (cCons (cA .i64 3) (cOne (cI .i64)))) (fun a => f48 a.1 a.2))]) 1000 Tryd.f25 ((cOne (cA .i64 22)).enc a) (glMem gl) gG (rTup (cCons (cA .i64 22) (cOne (cI .i64)))).dec = f25 a := (show evF (R := (rTup (cCons (cA .i64 22) (cOne (cI .i64)))).T) (cx [(15, conF (cOne (cA .i64 22)) (rOne (cI .i64)) (fun a => f15 a)), (46, conF (cOne (cI .i64)) (rOne (cI .i64)) (fun a => f46 a)), (47, conF (cOne (cI .i64)) (rTup (cCons (cI .i64) (cOne (cI .i64)))) (fun a => f47 a)), (48, conF (cCons (cI .i64) (cOne (cA .i64 3))) (rTup (cCons (cA .i64 3) (cOne (cI .i64)))) (fun a => f48 a.1 a.2))]) 1000 Tryd.f25 ((cOne (cA .i64 22)).enc a) (glMem gl) gG (rTup (cCons (cA .i64 22) (cOne (cI .i64)))).dec = g25 a from evg25 f15 f46 f48 a).trans (fg25 a)
theorem sp25 : VE.Spec Tryd.prog gG gl 25 (conF (cOne (cA .i64 22)) (rTup (cCons (cA .i64 22) (cOne (cI .i64)))) (fun a => f25 a)) := spec_of ok25 Tryd.func25 Tryd.call25 1000 (cOne_ok (cA_ok _ _)) (rTup_ok (cCons_ok (cA_ok _ _) (cOne_ok (cI_ok _)))) ev25
noncomputable abbrev con25 : List (Nat × (List AV → Option ConR)) := [(15, conF (cOne (cA .i64 22)) (rOne (cI .i64)) (fun a => f15 a)), (46, conF (cOne (cI .i64)) (rOne (cI .i64)) (fun a => f46 a)), (47, conF (cOne (cI .i64)) (rTup (cCons (cI .i64) (cOne (cI .i64)))) (fun a => f47 a)), (48, conF (cCons (cI .i64) (cOne (cA .i64 3))) (rTup (cCons (cA .i64 3) (cOne (cI .i64)))) (fun a => f48 a.1 a.2))]

/-- dancestudiolaw20.flip -/
noncomputable def f26 (a : Nat → Int) : Option ((Nat → Int)) :=
 some (nthI [IntKind.i64.wrap (0 - a 0), a 1, a 2])
theorem evg26  (xx : (cOne (cA .i64 3)).T) : evF (R := (rOne (cA .i64 3)).T) (cx []) 1000 Tryd.f26 ((cOne (cA .i64 3)).enc xx) (glMem gl) gG (rOne (cA .i64 3)).dec =
 (fun (a : Nat → Int) =>
 (( some (nthI [IntKind.i64.wrap (0 - a 0), a 1, a 2])) : Option ((Nat → Int)))) xx := by kernel_rfl
theorem ok26 : CtxOK Tryd.prog (cx []) gl := ctx_of tyOk moOk trivial fnOk
theorem ev26 (a : (cOne (cA .i64 3)).T) : evF (R := (rOne (cA .i64 3)).T) (cx []) 1000 Tryd.f26 ((cOne (cA .i64 3)).enc a) (glMem gl) gG (rOne (cA .i64 3)).dec = f26 a := evg26  a
theorem sp26 : VE.Spec Tryd.prog gG gl 26 (conF (cOne (cA .i64 3)) (rOne (cA .i64 3)) (fun a => f26 a)) := spec_of ok26 Tryd.func26 Tryd.call26 1000 (cOne_ok (cA_ok _ _)) (rOne_ok (cA_ok _ _)) ev26
noncomputable abbrev con26 : List (Nat × (List AV → Option ConR)) := []

/-- dancestudiolaw20.pair -/
noncomputable def f27 (a : Nat → Int) : Option ((Nat → Int)) :=
 Option.bind (f26 (nthI [a 3, a 4, a 5])) (fun r1 =>
 Option.bind (f26 a) (fun r2 =>
 some (nthI [r1 0, r1 1, r1 2, r2 0, r2 1, r2 2])))
theorem evg27 (f26 : (Nat → Int) → Option ((Nat → Int))) (xx : (cOne (cA .i64 6)).T) : evF (R := (rOne (cA .i64 6)).T) (cx [(26, conF (cOne (cA .i64 3)) (rOne (cA .i64 3)) (fun a => f26 a))]) 1000 Tryd.f27 ((cOne (cA .i64 6)).enc xx) (glMem gl) gG (rOne (cA .i64 6)).dec =
 (fun (a : Nat → Int) =>
 (( Option.bind (f26 (nthI [a 3, a 4, a 5])) (fun r1 =>
 Option.bind (f26 (nthI [a 0, a 1, a 2])) (fun r2 =>
 some (nthI [r1 0, r1 1, r1 2, r2 0, r2 1, r2 2])))) : Option ((Nat → Int)))) xx := by kernel_rfl
theorem ok27 : CtxOK Tryd.prog (cx [(26, conF (cOne (cA .i64 3)) (rOne (cA .i64 3)) (fun a => f26 a))]) gl := ctx_of tyOk moOk (show SpecL Tryd.prog gG gl [(26, conF (cOne (cA .i64 3)) (rOne (cA .i64 3)) (fun a => f26 a))] from ⟨sp26, trivial⟩) fnOk
noncomputable def g27 (a : Nat → Int) : Option ((Nat → Int)) :=
 Option.bind (f26 (nthI [a 3, a 4, a 5])) (fun r1 =>
 Option.bind (f26 (nthI [a 0, a 1, a 2])) (fun r2 =>
 some (nthI [r1 0, r1 1, r1 2, r2 0, r2 1, r2 2])))
theorem fg27 (a : Nat → Int) : g27 a = f27 a := by kernel_rfl
theorem ev27 (a : (cOne (cA .i64 6)).T) : evF (R := (rOne (cA .i64 6)).T) (cx [(26, conF (cOne (cA .i64 3)) (rOne (cA .i64 3)) (fun a => f26 a))]) 1000 Tryd.f27 ((cOne (cA .i64 6)).enc a) (glMem gl) gG (rOne (cA .i64 6)).dec = f27 a := (show evF (R := (rOne (cA .i64 6)).T) (cx [(26, conF (cOne (cA .i64 3)) (rOne (cA .i64 3)) (fun a => f26 a))]) 1000 Tryd.f27 ((cOne (cA .i64 6)).enc a) (glMem gl) gG (rOne (cA .i64 6)).dec = g27 a from evg27 f26 a).trans (fg27 a)
theorem sp27 : VE.Spec Tryd.prog gG gl 27 (conF (cOne (cA .i64 6)) (rOne (cA .i64 6)) (fun a => f27 a)) := spec_of ok27 Tryd.func27 Tryd.call27 1000 (cOne_ok (cA_ok _ _)) (rOne_ok (cA_ok _ _)) ev27
noncomputable abbrev con27 : List (Nat × (List AV → Option ConR)) := [(26, conF (cOne (cA .i64 3)) (rOne (cA .i64 3)) (fun a => f26 a))]

/-- dancestudiolaw20.JointsMirror -/
noncomputable def f9 (a : Nat → Int) (b : Nat → Int) (c : Int) : Option (Bool) :=
 Option.bind (f10 a b (IntKind.i64.wrap (c.tmod 4))) (fun r3 =>
 cond (!decide (r3.snd = 0)) (
 cond (decide (r3.fst 0 = 0) && (decide (r3.fst 1 = 0) && decide (r3.fst 2 = 0)) && (decide (r3.fst 3 = 0) && (decide (r3.fst 4 = 0) && decide (r3.fst 5 = 0)) && (decide (r3.fst 6 = 0) && (decide (r3.fst 7 = 0) && decide (r3.fst 8 = 0)) && (decide (r3.fst 9 = 0) && (decide (r3.fst 10 = 0) && decide (r3.fst 11 = 0)) && (decide (r3.fst 12 = 0) && (decide (r3.fst 13 = 0) && decide (r3.fst 14 = 0))) && (decide (r3.fst 15 = 0) && (decide (r3.fst 16 = 0) && decide (r3.fst 17 = 0)) && (decide (r3.fst 18 = 0) && (decide (r3.fst 19 = 0) && decide (r3.fst 20 = 0))) && (decide (r3.fst 21 = 0) && (decide (r3.fst 22 = 0) && decide (r3.fst 23 = 0)) && (decide (r3.fst 24 = 0) && (decide (r3.fst 25 = 0) && decide (r3.fst 26 = 0))) && (decide (r3.fst 27 = 0) && (decide (r3.fst 28 = 0) && decide (r3.fst 29 = 0)) && (decide (r3.fst 30 = 0) && (decide (r3.fst 31 = 0) && decide (r3.fst 32 = 0)))))))))) (
 some (true)) (
 some (false))) (
 Option.bind (f25 b) (fun r4 =>
 Option.bind (f10 a r4.fst (IntKind.i64.wrap (IntKind.i64.wrap ((IntKind.i64.wrap (c.tmod 4)).tdiv 2) + IntKind.i64.wrap (2 * (IntKind.i64.wrap (c.tmod 4)).tmod 2)))) (fun r5 =>
 cond (!decide (r4.snd = 0)) (
 some (false)) (
 cond (!decide (r5.snd = 0)) (
 some (false)) (
 Option.bind (f26 r3.fst) (fun r6 =>
 Option.bind (f26 (nthI [r3.fst 3, r3.fst 4, r3.fst 5])) (fun r7 =>
 Option.bind (f26 (nthI [r3.fst 6, r3.fst 7, r3.fst 8])) (fun r8 =>
 Option.bind (f27 (nthI [r3.fst 9, r3.fst 10, r3.fst 11, r3.fst 12, r3.fst 13, r3.fst 14])) (fun r9 =>
 Option.bind (f27 (nthI [r3.fst 15, r3.fst 16, r3.fst 17, r3.fst 18, r3.fst 19, r3.fst 20])) (fun r10 =>
 Option.bind (f27 (nthI [r3.fst 21, r3.fst 22, r3.fst 23, r3.fst 24, r3.fst 25, r3.fst 26])) (fun r11 =>
 Option.bind (f27 (nthI [r3.fst 27, r3.fst 28, r3.fst 29, r3.fst 30, r3.fst 31, r3.fst 32])) (fun r12 =>
 cond (decide (r5.fst 0 = r6 0) && (decide (r5.fst 1 = r6 1) && decide (r5.fst 2 = r6 2)) && (decide (r5.fst 3 = r7 0) && (decide (r5.fst 4 = r7 1) && decide (r5.fst 5 = r7 2)) && (decide (r5.fst 6 = r8 0) && (decide (r5.fst 7 = r8 1) && decide (r5.fst 8 = r8 2)) && (decide (r5.fst 9 = r9 0) && (decide (r5.fst 10 = r9 1) && decide (r5.fst 11 = r9 2)) && (decide (r5.fst 12 = r9 3) && (decide (r5.fst 13 = r9 4) && decide (r5.fst 14 = r9 5))) && (decide (r5.fst 15 = r10 0) && (decide (r5.fst 16 = r10 1) && decide (r5.fst 17 = r10 2)) && (decide (r5.fst 18 = r10 3) && (decide (r5.fst 19 = r10 4) && decide (r5.fst 20 = r10 5))) && (decide (r5.fst 21 = r11 0) && (decide (r5.fst 22 = r11 1) && decide (r5.fst 23 = r11 2)) && (decide (r5.fst 24 = r11 3) && (decide (r5.fst 25 = r11 4) && decide (r5.fst 26 = r11 5))) && (decide (r5.fst 27 = r12 0) && (decide (r5.fst 28 = r12 1) && decide (r5.fst 29 = r12 2)) && (decide (r5.fst 30 = r12 3) && (decide (r5.fst 31 = r12 4) && decide (r5.fst 32 = r12 5)))))))))) (
 Option.bind (f19 r5.fst) (fun r13 =>
 Option.bind (f19 r3.fst) (fun r14 =>
 cond (decide (r13 = r14)) (
 some (true)) (
 some (false))))) (
 some (false)))))))))))))))
theorem evg9 (f10 : (Nat → Int) → (Nat → Int) → (Int) → Option ((Nat → Int) × Int)) (f19 : (Nat → Int) → Option (Int)) (f25 : (Nat → Int) → Option ((Nat → Int) × Int)) (f26 : (Nat → Int) → Option ((Nat → Int))) (f27 : (Nat → Int) → Option ((Nat → Int))) (xx : (cCons (cA .i64 15) (cCons (cA .i64 22) (cOne (cI .u8)))).T) : evF (R := (rOne (cB)).T) (cx [(10, conF (cCons (cA .i64 15) (cCons (cA .i64 22) (cOne (cI .i64)))) (rTup (cCons (cA .i64 33) (cOne (cI .i64)))) (fun a => f10 a.1 a.2.1 a.2.2)), (12, conF (cNil) (rOne (cB)) (fun a => f12)), (19, conF (cOne (cA .i64 33)) (rOne (cI .i64)) (fun a => f19 a)), (25, conF (cOne (cA .i64 22)) (rTup (cCons (cA .i64 22) (cOne (cI .i64)))) (fun a => f25 a)), (26, conF (cOne (cA .i64 3)) (rOne (cA .i64 3)) (fun a => f26 a)), (27, conF (cOne (cA .i64 6)) (rOne (cA .i64 6)) (fun a => f27 a))]) 1000 Tryd.f9 ((cCons (cA .i64 15) (cCons (cA .i64 22) (cOne (cI .u8)))).enc xx) (glMem gl) gG (rOne (cB)).dec =
 (fun (a : Nat → Int) (b : Nat → Int) (c : Int) =>
 (( Option.bind (f10 (nthI [a 0, a 1, a 2, a 3, a 4, a 5, a 6, a 7, a 8, a 9, a 10, a 11, a 12, a 13, a 14]) (nthI [b 0, b 1, b 2, b 3, b 4, b 5, b 6, b 7, b 8, b 9, b 10, b 11, b 12, b 13, b 14, b 15, b 16, b 17, b 18, b 19, b 20, b 21]) (IntKind.i64.wrap (c.tmod 4))) (fun r3 =>
 cond (!decide (r3.snd = 0)) (
 cond (decide (r3.fst 0 = 0) && (decide (r3.fst 1 = 0) && decide (r3.fst 2 = 0)) && (decide (r3.fst 3 = 0) && (decide (r3.fst 4 = 0) && decide (r3.fst 5 = 0)) && (decide (r3.fst 6 = 0) && (decide (r3.fst 7 = 0) && decide (r3.fst 8 = 0)) && (decide (r3.fst 9 = 0) && (decide (r3.fst 10 = 0) && decide (r3.fst 11 = 0)) && (decide (r3.fst 12 = 0) && (decide (r3.fst 13 = 0) && decide (r3.fst 14 = 0))) && (decide (r3.fst 15 = 0) && (decide (r3.fst 16 = 0) && decide (r3.fst 17 = 0)) && (decide (r3.fst 18 = 0) && (decide (r3.fst 19 = 0) && decide (r3.fst 20 = 0))) && (decide (r3.fst 21 = 0) && (decide (r3.fst 22 = 0) && decide (r3.fst 23 = 0)) && (decide (r3.fst 24 = 0) && (decide (r3.fst 25 = 0) && decide (r3.fst 26 = 0))) && (decide (r3.fst 27 = 0) && (decide (r3.fst 28 = 0) && decide (r3.fst 29 = 0)) && (decide (r3.fst 30 = 0) && (decide (r3.fst 31 = 0) && decide (r3.fst 32 = 0)))))))))) (
 some (true)) (
 some (false))) (
 Option.bind (f25 (nthI [b 0, b 1, b 2, b 3, b 4, b 5, b 6, b 7, b 8, b 9, b 10, b 11, b 12, b 13, b 14, b 15, b 16, b 17, b 18, b 19, b 20, b 21])) (fun r4 =>
 Option.bind (f10 (nthI [a 0, a 1, a 2, a 3, a 4, a 5, a 6, a 7, a 8, a 9, a 10, a 11, a 12, a 13, a 14]) (nthI [r4.fst 0, r4.fst 1, r4.fst 2, r4.fst 3, r4.fst 4, r4.fst 5, r4.fst 6, r4.fst 7, r4.fst 8, r4.fst 9, r4.fst 10, r4.fst 11, r4.fst 12, r4.fst 13, r4.fst 14, r4.fst 15, r4.fst 16, r4.fst 17, r4.fst 18, r4.fst 19, r4.fst 20, r4.fst 21]) (IntKind.i64.wrap (IntKind.i64.wrap ((IntKind.i64.wrap (c.tmod 4)).tdiv 2) + IntKind.i64.wrap (2 * (IntKind.i64.wrap (c.tmod 4)).tmod 2)))) (fun r5 =>
 cond (!decide (r4.snd = 0)) (
 some (false)) (
 cond (!decide (r5.snd = 0)) (
 some (false)) (
 Option.bind (f26 (nthI [r3.fst 0, r3.fst 1, r3.fst 2])) (fun r6 =>
 Option.bind (f26 (nthI [r3.fst 3, r3.fst 4, r3.fst 5])) (fun r7 =>
 Option.bind (f26 (nthI [r3.fst 6, r3.fst 7, r3.fst 8])) (fun r8 =>
 Option.bind (f27 (nthI [r3.fst 9, r3.fst 10, r3.fst 11, r3.fst 12, r3.fst 13, r3.fst 14])) (fun r9 =>
 Option.bind (f27 (nthI [r3.fst 15, r3.fst 16, r3.fst 17, r3.fst 18, r3.fst 19, r3.fst 20])) (fun r10 =>
 Option.bind (f27 (nthI [r3.fst 21, r3.fst 22, r3.fst 23, r3.fst 24, r3.fst 25, r3.fst 26])) (fun r11 =>
 Option.bind (f27 (nthI [r3.fst 27, r3.fst 28, r3.fst 29, r3.fst 30, r3.fst 31, r3.fst 32])) (fun r12 =>
 cond (decide (r5.fst 0 = r6 0) && (decide (r5.fst 1 = r6 1) && decide (r5.fst 2 = r6 2)) && (decide (r5.fst 3 = r7 0) && (decide (r5.fst 4 = r7 1) && decide (r5.fst 5 = r7 2)) && (decide (r5.fst 6 = r8 0) && (decide (r5.fst 7 = r8 1) && decide (r5.fst 8 = r8 2)) && (decide (r5.fst 9 = r9 0) && (decide (r5.fst 10 = r9 1) && decide (r5.fst 11 = r9 2)) && (decide (r5.fst 12 = r9 3) && (decide (r5.fst 13 = r9 4) && decide (r5.fst 14 = r9 5))) && (decide (r5.fst 15 = r10 0) && (decide (r5.fst 16 = r10 1) && decide (r5.fst 17 = r10 2)) && (decide (r5.fst 18 = r10 3) && (decide (r5.fst 19 = r10 4) && decide (r5.fst 20 = r10 5))) && (decide (r5.fst 21 = r11 0) && (decide (r5.fst 22 = r11 1) && decide (r5.fst 23 = r11 2)) && (decide (r5.fst 24 = r11 3) && (decide (r5.fst 25 = r11 4) && decide (r5.fst 26 = r11 5))) && (decide (r5.fst 27 = r12 0) && (decide (r5.fst 28 = r12 1) && decide (r5.fst 29 = r12 2)) && (decide (r5.fst 30 = r12 3) && (decide (r5.fst 31 = r12 4) && decide (r5.fst 32 = r12 5)))))))))) (
 Option.bind (f19 (nthI [r5.fst 0, r5.fst 1, r5.fst 2, r5.fst 3, r5.fst 4, r5.fst 5, r5.fst 6, r5.fst 7, r5.fst 8, r5.fst 9, r5.fst 10, r5.fst 11, r5.fst 12, r5.fst 13, r5.fst 14, r5.fst 15, r5.fst 16, r5.fst 17, r5.fst 18, r5.fst 19, r5.fst 20, r5.fst 21, r5.fst 22, r5.fst 23, r5.fst 24, r5.fst 25, r5.fst 26, r5.fst 27, r5.fst 28, r5.fst 29, r5.fst 30, r5.fst 31, r5.fst 32])) (fun r13 =>
 Option.bind (f19 (nthI [r3.fst 0, r3.fst 1, r3.fst 2, r3.fst 3, r3.fst 4, r3.fst 5, r3.fst 6, r3.fst 7, r3.fst 8, r3.fst 9, r3.fst 10, r3.fst 11, r3.fst 12, r3.fst 13, r3.fst 14, r3.fst 15, r3.fst 16, r3.fst 17, r3.fst 18, r3.fst 19, r3.fst 20, r3.fst 21, r3.fst 22, r3.fst 23, r3.fst 24, r3.fst 25, r3.fst 26, r3.fst 27, r3.fst 28, r3.fst 29, r3.fst 30, r3.fst 31, r3.fst 32])) (fun r14 =>
 cond (decide (r13 = r14)) (
 some (true)) (
 some (false))))) (
 some (false)))))))))))))))) : Option (Bool))) xx.1 xx.2.1 xx.2.2 := by kernel_rfl
theorem ok9 : CtxOK Tryd.prog (cx [(10, conF (cCons (cA .i64 15) (cCons (cA .i64 22) (cOne (cI .i64)))) (rTup (cCons (cA .i64 33) (cOne (cI .i64)))) (fun a => f10 a.1 a.2.1 a.2.2)), (12, conF (cNil) (rOne (cB)) (fun a => f12)), (19, conF (cOne (cA .i64 33)) (rOne (cI .i64)) (fun a => f19 a)), (25, conF (cOne (cA .i64 22)) (rTup (cCons (cA .i64 22) (cOne (cI .i64)))) (fun a => f25 a)), (26, conF (cOne (cA .i64 3)) (rOne (cA .i64 3)) (fun a => f26 a)), (27, conF (cOne (cA .i64 6)) (rOne (cA .i64 6)) (fun a => f27 a))]) gl := ctx_of tyOk moOk (show SpecL Tryd.prog gG gl [(10, conF (cCons (cA .i64 15) (cCons (cA .i64 22) (cOne (cI .i64)))) (rTup (cCons (cA .i64 33) (cOne (cI .i64)))) (fun a => f10 a.1 a.2.1 a.2.2)), (12, conF (cNil) (rOne (cB)) (fun a => f12)), (19, conF (cOne (cA .i64 33)) (rOne (cI .i64)) (fun a => f19 a)), (25, conF (cOne (cA .i64 22)) (rTup (cCons (cA .i64 22) (cOne (cI .i64)))) (fun a => f25 a)), (26, conF (cOne (cA .i64 3)) (rOne (cA .i64 3)) (fun a => f26 a)), (27, conF (cOne (cA .i64 6)) (rOne (cA .i64 6)) (fun a => f27 a))] from ⟨sp10, sp12, sp19, sp25, sp26, sp27, trivial⟩) fnOk
noncomputable def g9 (a : Nat → Int) (b : Nat → Int) (c : Int) : Option (Bool) :=
 Option.bind (f10 (nthI [a 0, a 1, a 2, a 3, a 4, a 5, a 6, a 7, a 8, a 9, a 10, a 11, a 12, a 13, a 14]) (nthI [b 0, b 1, b 2, b 3, b 4, b 5, b 6, b 7, b 8, b 9, b 10, b 11, b 12, b 13, b 14, b 15, b 16, b 17, b 18, b 19, b 20, b 21]) (IntKind.i64.wrap (c.tmod 4))) (fun r3 =>
 cond (!decide (r3.snd = 0)) (
 cond (decide (r3.fst 0 = 0) && (decide (r3.fst 1 = 0) && decide (r3.fst 2 = 0)) && (decide (r3.fst 3 = 0) && (decide (r3.fst 4 = 0) && decide (r3.fst 5 = 0)) && (decide (r3.fst 6 = 0) && (decide (r3.fst 7 = 0) && decide (r3.fst 8 = 0)) && (decide (r3.fst 9 = 0) && (decide (r3.fst 10 = 0) && decide (r3.fst 11 = 0)) && (decide (r3.fst 12 = 0) && (decide (r3.fst 13 = 0) && decide (r3.fst 14 = 0))) && (decide (r3.fst 15 = 0) && (decide (r3.fst 16 = 0) && decide (r3.fst 17 = 0)) && (decide (r3.fst 18 = 0) && (decide (r3.fst 19 = 0) && decide (r3.fst 20 = 0))) && (decide (r3.fst 21 = 0) && (decide (r3.fst 22 = 0) && decide (r3.fst 23 = 0)) && (decide (r3.fst 24 = 0) && (decide (r3.fst 25 = 0) && decide (r3.fst 26 = 0))) && (decide (r3.fst 27 = 0) && (decide (r3.fst 28 = 0) && decide (r3.fst 29 = 0)) && (decide (r3.fst 30 = 0) && (decide (r3.fst 31 = 0) && decide (r3.fst 32 = 0)))))))))) (
 some (true)) (
 some (false))) (
 Option.bind (f25 (nthI [b 0, b 1, b 2, b 3, b 4, b 5, b 6, b 7, b 8, b 9, b 10, b 11, b 12, b 13, b 14, b 15, b 16, b 17, b 18, b 19, b 20, b 21])) (fun r4 =>
 Option.bind (f10 (nthI [a 0, a 1, a 2, a 3, a 4, a 5, a 6, a 7, a 8, a 9, a 10, a 11, a 12, a 13, a 14]) (nthI [r4.fst 0, r4.fst 1, r4.fst 2, r4.fst 3, r4.fst 4, r4.fst 5, r4.fst 6, r4.fst 7, r4.fst 8, r4.fst 9, r4.fst 10, r4.fst 11, r4.fst 12, r4.fst 13, r4.fst 14, r4.fst 15, r4.fst 16, r4.fst 17, r4.fst 18, r4.fst 19, r4.fst 20, r4.fst 21]) (IntKind.i64.wrap (IntKind.i64.wrap ((IntKind.i64.wrap (c.tmod 4)).tdiv 2) + IntKind.i64.wrap (2 * (IntKind.i64.wrap (c.tmod 4)).tmod 2)))) (fun r5 =>
 cond (!decide (r4.snd = 0)) (
 some (false)) (
 cond (!decide (r5.snd = 0)) (
 some (false)) (
 Option.bind (f26 (nthI [r3.fst 0, r3.fst 1, r3.fst 2])) (fun r6 =>
 Option.bind (f26 (nthI [r3.fst 3, r3.fst 4, r3.fst 5])) (fun r7 =>
 Option.bind (f26 (nthI [r3.fst 6, r3.fst 7, r3.fst 8])) (fun r8 =>
 Option.bind (f27 (nthI [r3.fst 9, r3.fst 10, r3.fst 11, r3.fst 12, r3.fst 13, r3.fst 14])) (fun r9 =>
 Option.bind (f27 (nthI [r3.fst 15, r3.fst 16, r3.fst 17, r3.fst 18, r3.fst 19, r3.fst 20])) (fun r10 =>
 Option.bind (f27 (nthI [r3.fst 21, r3.fst 22, r3.fst 23, r3.fst 24, r3.fst 25, r3.fst 26])) (fun r11 =>
 Option.bind (f27 (nthI [r3.fst 27, r3.fst 28, r3.fst 29, r3.fst 30, r3.fst 31, r3.fst 32])) (fun r12 =>
 cond (decide (r5.fst 0 = r6 0) && (decide (r5.fst 1 = r6 1) && decide (r5.fst 2 = r6 2)) && (decide (r5.fst 3 = r7 0) && (decide (r5.fst 4 = r7 1) && decide (r5.fst 5 = r7 2)) && (decide (r5.fst 6 = r8 0) && (decide (r5.fst 7 = r8 1) && decide (r5.fst 8 = r8 2)) && (decide (r5.fst 9 = r9 0) && (decide (r5.fst 10 = r9 1) && decide (r5.fst 11 = r9 2)) && (decide (r5.fst 12 = r9 3) && (decide (r5.fst 13 = r9 4) && decide (r5.fst 14 = r9 5))) && (decide (r5.fst 15 = r10 0) && (decide (r5.fst 16 = r10 1) && decide (r5.fst 17 = r10 2)) && (decide (r5.fst 18 = r10 3) && (decide (r5.fst 19 = r10 4) && decide (r5.fst 20 = r10 5))) && (decide (r5.fst 21 = r11 0) && (decide (r5.fst 22 = r11 1) && decide (r5.fst 23 = r11 2)) && (decide (r5.fst 24 = r11 3) && (decide (r5.fst 25 = r11 4) && decide (r5.fst 26 = r11 5))) && (decide (r5.fst 27 = r12 0) && (decide (r5.fst 28 = r12 1) && decide (r5.fst 29 = r12 2)) && (decide (r5.fst 30 = r12 3) && (decide (r5.fst 31 = r12 4) && decide (r5.fst 32 = r12 5)))))))))) (
 Option.bind (f19 (nthI [r5.fst 0, r5.fst 1, r5.fst 2, r5.fst 3, r5.fst 4, r5.fst 5, r5.fst 6, r5.fst 7, r5.fst 8, r5.fst 9, r5.fst 10, r5.fst 11, r5.fst 12, r5.fst 13, r5.fst 14, r5.fst 15, r5.fst 16, r5.fst 17, r5.fst 18, r5.fst 19, r5.fst 20, r5.fst 21, r5.fst 22, r5.fst 23, r5.fst 24, r5.fst 25, r5.fst 26, r5.fst 27, r5.fst 28, r5.fst 29, r5.fst 30, r5.fst 31, r5.fst 32])) (fun r13 =>
 Option.bind (f19 (nthI [r3.fst 0, r3.fst 1, r3.fst 2, r3.fst 3, r3.fst 4, r3.fst 5, r3.fst 6, r3.fst 7, r3.fst 8, r3.fst 9, r3.fst 10, r3.fst 11, r3.fst 12, r3.fst 13, r3.fst 14, r3.fst 15, r3.fst 16, r3.fst 17, r3.fst 18, r3.fst 19, r3.fst 20, r3.fst 21, r3.fst 22, r3.fst 23, r3.fst 24, r3.fst 25, r3.fst 26, r3.fst 27, r3.fst 28, r3.fst 29, r3.fst 30, r3.fst 31, r3.fst 32])) (fun r14 =>
 cond (decide (r13 = r14)) (
 some (true)) (
 some (false))))) (
 some (false)))))))))))))))
theorem fg9 (a : Nat → Int) (b : Nat → Int) (c : Int) : g9 a b c = f9 a b c := by kernel_rfl
theorem ev9 (a : (cCons (cA .i64 15) (cCons (cA .i64 22) (cOne (cI .u8)))).T) : evF (R := (rOne (cB)).T) (cx [(10, conF (cCons (cA .i64 15) (cCons (cA .i64 22) (cOne (cI .i64)))) (rTup (cCons (cA .i64 33) (cOne (cI .i64)))) (fun a => f10 a.1 a.2.1 a.2.2)), (12, conF (cNil) (rOne (cB)) (fun a => f12)), (19, conF (cOne (cA .i64 33)) (rOne (cI .i64)) (fun a => f19 a)), (25, conF (cOne (cA .i64 22)) (rTup (cCons (cA .i64 22) (cOne (cI .i64)))) (fun a => f25 a)), (26, conF (cOne (cA .i64 3)) (rOne (cA .i64 3)) (fun a => f26 a)), (27, conF (cOne (cA .i64 6)) (rOne (cA .i64 6)) (fun a => f27 a))]) 1000 Tryd.f9 ((cCons (cA .i64 15) (cCons (cA .i64 22) (cOne (cI .u8)))).enc a) (glMem gl) gG (rOne (cB)).dec = f9 a.1 a.2.1 a.2.2 := (show evF (R := (rOne (cB)).T) (cx [(10, conF (cCons (cA .i64 15) (cCons (cA .i64 22) (cOne (cI .i64)))) (rTup (cCons (cA .i64 33) (cOne (cI .i64)))) (fun a => f10 a.1 a.2.1 a.2.2)), (12, conF (cNil) (rOne (cB)) (fun a => f12)), (19, conF (cOne (cA .i64 33)) (rOne (cI .i64)) (fun a => f19 a)), (25, conF (cOne (cA .i64 22)) (rTup (cCons (cA .i64 22) (cOne (cI .i64)))) (fun a => f25 a)), (26, conF (cOne (cA .i64 3)) (rOne (cA .i64 3)) (fun a => f26 a)), (27, conF (cOne (cA .i64 6)) (rOne (cA .i64 6)) (fun a => f27 a))]) 1000 Tryd.f9 ((cCons (cA .i64 15) (cCons (cA .i64 22) (cOne (cI .u8)))).enc a) (glMem gl) gG (rOne (cB)).dec = g9 a.1 a.2.1 a.2.2 from evg9 f10 f19 f25 f26 f27 a).trans (fg9 a.1 a.2.1 a.2.2)
theorem sp9 : VE.Spec Tryd.prog gG gl 9 (conF (cCons (cA .i64 15) (cCons (cA .i64 22) (cOne (cI .u8)))) (rOne (cB)) (fun a => f9 a.1 a.2.1 a.2.2)) := spec_of ok9 Tryd.func9 Tryd.call9 1000 (cCons_ok (cA_ok _ _) (cCons_ok (cA_ok _ _) (cOne_ok (cI_ok _)))) (rOne_ok (cB_ok)) ev9
noncomputable abbrev con9 : List (Nat × (List AV → Option ConR)) := [(10, conF (cCons (cA .i64 15) (cCons (cA .i64 22) (cOne (cI .i64)))) (rTup (cCons (cA .i64 33) (cOne (cI .i64)))) (fun a => f10 a.1 a.2.1 a.2.2)), (12, conF (cNil) (rOne (cB)) (fun a => f12)), (19, conF (cOne (cA .i64 33)) (rOne (cI .i64)) (fun a => f19 a)), (25, conF (cOne (cA .i64 22)) (rTup (cCons (cA .i64 22) (cOne (cI .i64)))) (fun a => f25 a)), (26, conF (cOne (cA .i64 3)) (rOne (cA .i64 3)) (fun a => f26 a)), (27, conF (cOne (cA .i64 6)) (rOne (cA .i64 6)) (fun a => f27 a))]

end Go.Proofs.YtmcbhieaacinpaaDoor
