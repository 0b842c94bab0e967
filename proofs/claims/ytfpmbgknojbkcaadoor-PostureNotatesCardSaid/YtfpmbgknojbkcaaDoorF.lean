/-
  THE CONTRACTS of this program's functions: what each answers, as a plain function, by its evaluation.
-/
import Derived.Test.YtfpmbgknojbkcaaDoorVEo
import Derived.Test.YtfpmbgknojbkcaaDoorChecked
open Go Go.VE Go.Proofs
set_option maxRecDepth 1000000
set_option maxHeartbeats 0
set_option linter.unusedVariables false
namespace Go.Proofs.YtfpmbgknojbkcaaDoor
def tyL : List (TypeId × TyI) := [
 (3, ⟨.int .i64, 1, [.int .i64 0]⟩),
 (4, ⟨.bool, 1, [.bool false]⟩),
 (23, ⟨.struct [(3, 0), (3, 1)], 2, [.int .i64 0, .int .i64 0]⟩),
 (25, ⟨.struct [(3, 0), (3, 1), (3, 2)], 3, [.int .i64 0, .int .i64 0, .int .i64 0]⟩),
 (26, ⟨.array 6 25, 18, [.int .i64 0, .int .i64 0, .int .i64 0, .int .i64 0, .int .i64 0, .int .i64 0, .int .i64 0, .int .i64 0, .int .i64 0, .int .i64 0, .int .i64 0, .int .i64 0, .int .i64 0, .int .i64 0, .int .i64 0, .int .i64 0, .int .i64 0, .int .i64 0]⟩),
 (28, ⟨.struct [(23, 0), (3, 2), (3, 3), (3, 4), (26, 5)], 23, [.int .i64 0, .int .i64 0, .int .i64 0, .int .i64 0, .int .i64 0, .int .i64 0, .int .i64 0, .int .i64 0, .int .i64 0, .int .i64 0, .int .i64 0, .int .i64 0, .int .i64 0, .int .i64 0, .int .i64 0, .int .i64 0, .int .i64 0, .int .i64 0, .int .i64 0, .int .i64 0, .int .i64 0, .int .i64 0, .int .i64 0]⟩),
 (30, ⟨.struct [(3, 0), (3, 1), (3, 2)], 3, [.int .i64 0, .int .i64 0, .int .i64 0]⟩),
 (31, ⟨.array 6 30, 18, [.int .i64 0, .int .i64 0, .int .i64 0, .int .i64 0, .int .i64 0, .int .i64 0, .int .i64 0, .int .i64 0, .int .i64 0, .int .i64 0, .int .i64 0, .int .i64 0, .int .i64 0, .int .i64 0, .int .i64 0, .int .i64 0, .int .i64 0, .int .i64 0]⟩),
 (33, ⟨.struct [(23, 0), (3, 2), (3, 3), (31, 4)], 22, [.int .i64 0, .int .i64 0, .int .i64 0, .int .i64 0, .int .i64 0, .int .i64 0, .int .i64 0, .int .i64 0, .int .i64 0, .int .i64 0, .int .i64 0, .int .i64 0, .int .i64 0, .int .i64 0, .int .i64 0, .int .i64 0, .int .i64 0, .int .i64 0, .int .i64 0, .int .i64 0, .int .i64 0, .int .i64 0]⟩),
 (34, ⟨.int .i64, 1, [.int .i64 0]⟩)]
def gl : List (Nat × List AV) := [(0, [.int .i64 (0), .int .i64 (-1), .int .i64 (0)])]
def gG : Nat := 1
noncomputable def fns : List (Nat × Func) := []
def joins : List (Nat × CodJ) := []
noncomputable abbrev cx (con : List (Nat × (List AV → Option ConR))) (jc : Bool := false) : Ctx := { ty := assoc tyL, join := assoc joins, jc := jc, con := assoc con, fns := assoc fns, G := gG }
noncomputable def con0 : List (Nat × (List AV → Option ConR)) := []
def tab0 : List Int := [0, 0, 0, 0, 0, 0, 0, 0, 0, 0, 0, 0, 0, 0, 0, 0, 0, 0, 0, 0, 0, 0]
def tab1 : List Int := [0, 0, 0, 0, 0, 0, 0, 0, 0, 0, 0, 0, 0, 0, 0, 0, 0, 0, 0, 0, 0, 0, 0]
def tab2 : List Int := [100, 300, 1, -1, 1, 0, -1, 0, 3, 0, 0, 0, 1, 0, 1, -1, 2, 0, -1, 0, 0, 1, 0]
def tab3 : List Int := [100, 300, 32, -8, 0, -64, 0, 64, 0, 0, 0, 64, 0, 0, -32, 2, 0, -64, 0, 0, 64, 0]
def tab4 : List Int := [-100, 300, 7, -1, 2, 7, 0, 0, 0, -1, 0, 0, 1, 0, 0, -1, 0, 1, -1, 2, 0, 1, 0]
theorem tyOk : ∀ t i, assoc tyL t = some i → tyOf Tryd.prog t = some i := tys_of (by kernel_rfl)
theorem moOk : Tryd.prog.follows .mixedOrders = true := by kernel_rfl
theorem fnOk : FnL Tryd.prog fns := trivial
theorem joinOk : JoinL joins := trivial
theorem sl0 : SpecL Tryd.prog gG gl con0 := trivial
theorem ok0 : CtxOK Tryd.prog (cx con0) gl := ctx_of tyOk moOk sl0 fnOk joinOk

/-- aim.known -/
noncomputable def f53 (a : Int) : Option (Bool) :=
 cond (decide (0 ≤ a)) (
 some (decide (a < 6))) (
 some (false))
theorem evg53  (xx : (cOne (cI .i64)).T) : evF (R := (rOne (cB)).T) (cx []) 1000 Tryd.f53 ((cOne (cI .i64)).enc xx) (glMem gl) gG (rOne (cB)).dec =
 (fun (a : Int) =>
 (( cond (decide (0 ≤ a)) (
 some (decide (a < 6))) (
 some (false))) : Option (Bool))) xx := by kernel_rfl
theorem ok53 : CtxOK Tryd.prog (cx []) gl := ctx_of tyOk moOk (show SpecL Tryd.prog gG gl [] from trivial) fnOk joinOk
theorem ev53 (a : (cOne (cI .i64)).T) : evF (R := (rOne (cB)).T) (cx []) 1000 Tryd.f53 ((cOne (cI .i64)).enc a) (glMem gl) gG (rOne (cB)).dec = f53 a := evg53  a
theorem sp53 : VE.Spec Tryd.prog gG gl 53 (conF (cOne (cI .i64)) (rOne (cB)) (fun a => f53 a)) := spec_of ok53 Tryd.func53 Tryd.call53 1000 (cOne_ok (cI_ok _)) (rOne_ok (cB_ok)) ev53
noncomputable abbrev con53 : List (Nat × (List AV → Option ConR)) := []

/-- dir.valid -/
noncomputable def f62 (a : Int) : Option (Bool) :=
 cond (decide (0 ≤ a)) (
 some (decide (a ≤ 8))) (
 some (false))
theorem evg62  (xx : (cOne (cI .i64)).T) : evF (R := (rOne (cB)).T) (cx []) 1000 Tryd.f62 ((cOne (cI .i64)).enc xx) (glMem gl) gG (rOne (cB)).dec =
 (fun (a : Int) =>
 (( cond (decide (0 ≤ a)) (
 some (decide (a ≤ 8))) (
 some (false))) : Option (Bool))) xx := by kernel_rfl
theorem ok62 : CtxOK Tryd.prog (cx []) gl := ctx_of tyOk moOk (show SpecL Tryd.prog gG gl [] from trivial) fnOk joinOk
theorem ev62 (a : (cOne (cI .i64)).T) : evF (R := (rOne (cB)).T) (cx []) 1000 Tryd.f62 ((cOne (cI .i64)).enc a) (glMem gl) gG (rOne (cB)).dec = f62 a := evg62  a
theorem sp62 : VE.Spec Tryd.prog gG gl 62 (conF (cOne (cI .i64)) (rOne (cB)) (fun a => f62 a)) := spec_of ok62 Tryd.func62 Tryd.call62 1000 (cOne_ok (cI_ok _)) (rOne_ok (cB_ok)) ev62
noncomputable abbrev con62 : List (Nat × (List AV → Option ConR)) := []

/-- dir.Check -/
noncomputable def f54 (a : Int) (b : Int) : Option (Int) :=
 Option.bind (f62 a) (fun r2 =>
 cond (!r2) (
 some (1)) (
 cond (decide (b < -1)) (
 some (1)) (
 cond (decide (1 < b)) (
 some (1)) (
 some (0)))))
theorem evg54 (f62 : (Int) → Option (Bool)) (xx : (cCons (cI .i64) (cOne (cI .i64))).T) : evF (R := (rOne (cI .i64)).T) (cx [(62, conF (cOne (cI .i64)) (rOne (cB)) (fun a => f62 a))]) 1000 Tryd.f54 ((cCons (cI .i64) (cOne (cI .i64))).enc xx) (glMem gl) gG (rOne (cI .i64)).dec =
 (fun (a : Int) (b : Int) =>
 (( Option.bind (f62 a) (fun r2 =>
 cond (!r2) (
 some (1)) (
 cond (decide (b < -1)) (
 some (1)) (
 cond (decide (1 < b)) (
 some (1)) (
 some (0)))))) : Option (Int))) xx.1 xx.2 := by kernel_rfl
theorem ok54 : CtxOK Tryd.prog (cx [(62, conF (cOne (cI .i64)) (rOne (cB)) (fun a => f62 a))]) gl := ctx_of tyOk moOk (show SpecL Tryd.prog gG gl [(62, conF (cOne (cI .i64)) (rOne (cB)) (fun a => f62 a))] from ⟨sp62, trivial⟩) fnOk joinOk
theorem ev54 (a : (cCons (cI .i64) (cOne (cI .i64))).T) : evF (R := (rOne (cI .i64)).T) (cx [(62, conF (cOne (cI .i64)) (rOne (cB)) (fun a => f62 a))]) 1000 Tryd.f54 ((cCons (cI .i64) (cOne (cI .i64))).enc a) (glMem gl) gG (rOne (cI .i64)).dec = f54 a.1 a.2 := evg54 f62 a
theorem sp54 : VE.Spec Tryd.prog gG gl 54 (conF (cCons (cI .i64) (cOne (cI .i64))) (rOne (cI .i64)) (fun a => f54 a.1 a.2)) := spec_of ok54 Tryd.func54 Tryd.call54 1000 (cCons_ok (cI_ok _) (cOne_ok (cI_ok _))) (rOne_ok (cI_ok _)) ev54
noncomputable abbrev con54 : List (Nat × (List AV → Option ConR)) := [(62, conF (cOne (cI .i64)) (rOne (cB)) (fun a => f62 a))]

/-- dir.Eighth -/
noncomputable def f55 (a : Int) : Option (Int × Int) :=
 Option.bind (f62 a) (fun r1 =>
 cond (!r1) (
 some ((0, 1))) (
 cond (decide (a = 0)) (
 some ((0, 18))) (
 some ((IntKind.i64.wrap (a - 1), 0)))))
theorem evg55 (f62 : (Int) → Option (Bool)) (xx : (cOne (cI .i64)).T) : evF (R := (rTup (cCons (cI .i64) (cOne (cI .i64)))).T) (cx [(62, conF (cOne (cI .i64)) (rOne (cB)) (fun a => f62 a))]) 1000 Tryd.f55 ((cOne (cI .i64)).enc xx) (glMem gl) gG (rTup (cCons (cI .i64) (cOne (cI .i64)))).dec =
 (fun (a : Int) =>
 (( Option.bind (f62 a) (fun r1 =>
 cond (!r1) (
 some ((0, 1))) (
 cond (decide (a = 0)) (
 some ((0, 18))) (
 some ((IntKind.i64.wrap (a - 1), 0)))))) : Option (Int × Int))) xx := by kernel_rfl
theorem ok55 : CtxOK Tryd.prog (cx [(62, conF (cOne (cI .i64)) (rOne (cB)) (fun a => f62 a))]) gl := ctx_of tyOk moOk (show SpecL Tryd.prog gG gl [(62, conF (cOne (cI .i64)) (rOne (cB)) (fun a => f62 a))] from ⟨sp62, trivial⟩) fnOk joinOk
theorem ev55 (a : (cOne (cI .i64)).T) : evF (R := (rTup (cCons (cI .i64) (cOne (cI .i64)))).T) (cx [(62, conF (cOne (cI .i64)) (rOne (cB)) (fun a => f62 a))]) 1000 Tryd.f55 ((cOne (cI .i64)).enc a) (glMem gl) gG (rTup (cCons (cI .i64) (cOne (cI .i64)))).dec = f55 a := evg55 f62 a
theorem sp55 : VE.Spec Tryd.prog gG gl 55 (conF (cOne (cI .i64)) (rTup (cCons (cI .i64) (cOne (cI .i64)))) (fun a => f55 a)) := spec_of ok55 Tryd.func55 Tryd.call55 1000 (cOne_ok (cI_ok _)) (rTup_ok (cCons_ok (cI_ok _) (cOne_ok (cI_ok _)))) ev55
noncomputable abbrev con55 : List (Nat × (List AV → Option ConR)) := [(62, conF (cOne (cI .i64)) (rOne (cB)) (fun a => f62 a))]

/-- aim.Of -/
noncomputable def f28 (a : Int) (b : Nat → Int) : Option ((Nat → Int) × Int) :=
 Option.bind (f53 a) (fun r2 =>
 cond (!r2) (
 some ((nthI [0, 0, 0], 9))) (
 Option.bind (f54 (b 0) (b 1)) (fun r3 =>
 cond (!decide (r3 = 0)) (
 some ((nthI [0, 0, 0], r3))) (
 cond (decide (b 2 < 0)) (
 some ((nthI [0, 0, 0], 1))) (
 cond (decide (6 < b 2)) (
 some ((nthI [0, 0, 0], 1))) (
 cond (!decide (b 0 = 0)) (
 Option.bind (f55 (b 0)) (fun r4 =>
 some ((nthI [IntKind.i64.wrap (32 * r4.fst), IntKind.i64.wrap (32 * b 1), b 2], 0)))) (
 cond (decide (b 1 = 0)) (
 some ((nthI [0, 0, 0], 18))) (
 cond (decide (b 1 = -1)) (
 cond (decide (a = 2)) (
 some ((nthI [0, 0, 0], 18))) (
 cond (decide (a = 5)) (
 some ((nthI [0, 0, 0], 18))) (
 some ((nthI [0, IntKind.i64.wrap (64 * b 1), b 2], 0))))) (
 some ((nthI [0, IntKind.i64.wrap (64 * b 1), b 2], 0)))))))))))
theorem evg28 (f53 : (Int) → Option (Bool)) (f54 : (Int) → (Int) → Option (Int)) (f55 : (Int) → Option (Int × Int)) (xx : (cCons (cI .i64) (cOne (cA .i64 3))).T) : evF (R := (rTup (cCons (cA .i64 3) (cOne (cI .i64)))).T) (cx [(53, conF (cOne (cI .i64)) (rOne (cB)) (fun a => f53 a)), (54, conF (cCons (cI .i64) (cOne (cI .i64))) (rOne (cI .i64)) (fun a => f54 a.1 a.2)), (55, conF (cOne (cI .i64)) (rTup (cCons (cI .i64) (cOne (cI .i64)))) (fun a => f55 a))]) 1000 Tryd.f28 ((cCons (cI .i64) (cOne (cA .i64 3))).enc xx) (glMem gl) gG (rTup (cCons (cA .i64 3) (cOne (cI .i64)))).dec =
 (fun (a : Int) (b : Nat → Int) =>
 (( Option.bind (f53 a) (fun r2 =>
 cond (!r2) (
 some ((nthI [0, 0, 0], 9))) (
 Option.bind (f54 (b 0) (b 1)) (fun r3 =>
 cond (!decide (r3 = 0)) (
 some ((nthI [0, 0, 0], r3))) (
 cond (decide (b 2 < 0)) (
 some ((nthI [0, 0, 0], 1))) (
 cond (decide (6 < b 2)) (
 some ((nthI [0, 0, 0], 1))) (
 cond (!decide (b 0 = 0)) (
 Option.bind (f55 (b 0)) (fun r4 =>
 some ((nthI [IntKind.i64.wrap (32 * r4.fst), IntKind.i64.wrap (32 * b 1), b 2], 0)))) (
 cond (decide (b 1 = 0)) (
 some ((nthI [0, 0, 0], 18))) (
 cond (decide (b 1 = -1)) (
 cond (decide (a = 2)) (
 some ((nthI [0, 0, 0], 18))) (
 cond (decide (a = 5)) (
 some ((nthI [0, 0, 0], 18))) (
 some ((nthI [0, IntKind.i64.wrap (64 * b 1), b 2], 0))))) (
 some ((nthI [0, IntKind.i64.wrap (64 * b 1), b 2], 0)))))))))))) : Option ((Nat → Int) × Int))) xx.1 xx.2 := by kernel_rfl
theorem ok28 : CtxOK Tryd.prog (cx [(53, conF (cOne (cI .i64)) (rOne (cB)) (fun a => f53 a)), (54, conF (cCons (cI .i64) (cOne (cI .i64))) (rOne (cI .i64)) (fun a => f54 a.1 a.2)), (55, conF (cOne (cI .i64)) (rTup (cCons (cI .i64) (cOne (cI .i64)))) (fun a => f55 a))]) gl := ctx_of tyOk moOk (show SpecL Tryd.prog gG gl [(53, conF (cOne (cI .i64)) (rOne (cB)) (fun a => f53 a)), (54, conF (cCons (cI .i64) (cOne (cI .i64))) (rOne (cI .i64)) (fun a => f54 a.1 a.2)), (55, conF (cOne (cI .i64)) (rTup (cCons (cI .i64) (cOne (cI .i64)))) (fun a => f55 a))] from ⟨sp53, sp54, sp55, trivial⟩) fnOk joinOk
theorem ev28 (a : (cCons (cI .i64) (cOne (cA .i64 3))).T) : evF (R := (rTup (cCons (cA .i64 3) (cOne (cI .i64)))).T) (cx [(53, conF (cOne (cI .i64)) (rOne (cB)) (fun a => f53 a)), (54, conF (cCons (cI .i64) (cOne (cI .i64))) (rOne (cI .i64)) (fun a => f54 a.1 a.2)), (55, conF (cOne (cI .i64)) (rTup (cCons (cI .i64) (cOne (cI .i64)))) (fun a => f55 a))]) 1000 Tryd.f28 ((cCons (cI .i64) (cOne (cA .i64 3))).enc a) (glMem gl) gG (rTup (cCons (cA .i64 3) (cOne (cI .i64)))).dec = f28 a.1 a.2 := evg28 f53 f54 f55 a
theorem sp28 : VE.Spec Tryd.prog gG gl 28 (conF (cCons (cI .i64) (cOne (cA .i64 3))) (rTup (cCons (cA .i64 3) (cOne (cI .i64)))) (fun a => f28 a.1 a.2)) := spec_of ok28 Tryd.func28 Tryd.call28 1000 (cCons_ok (cI_ok _) (cOne_ok (cA_ok _ _))) (rTup_ok (cCons_ok (cA_ok _ _) (cOne_ok (cI_ok _)))) ev28
noncomputable abbrev con28 : List (Nat × (List AV → Option ConR)) := [(53, conF (cOne (cI .i64)) (rOne (cB)) (fun a => f53 a)), (54, conF (cCons (cI .i64) (cOne (cI .i64))) (rOne (cI .i64)) (fun a => f54 a.1 a.2)), (55, conF (cOne (cI .i64)) (rTup (cCons (cI .i64) (cOne (cI .i64)))) (fun a => f55 a))]

/-- posture.on -/
noncomputable def f30 (a : Nat → Int) : Option (Bool) :=
 cond (decide (-32768 ≤ a 0)) (
 cond (decide (a 0 ≤ 32768)) (
 cond (decide (-32768 ≤ a 1)) (
 some (decide (a 1 ≤ 32768))) (
 some (false))) (
 some (false))) (
 some (false))
theorem evg30  (xx : (cOne (cA .i64 2)).T) : evF (R := (rOne (cB)).T) (cx []) 1000 Tryd.f30 ((cOne (cA .i64 2)).enc xx) (glMem gl) gG (rOne (cB)).dec =
 (fun (a : Nat → Int) =>
 (( cond (decide (-32768 ≤ a 0)) (
 cond (decide (a 0 ≤ 32768)) (
 cond (decide (-32768 ≤ a 1)) (
 some (decide (a 1 ≤ 32768))) (
 some (false))) (
 some (false))) (
 some (false))) : Option (Bool))) xx := by kernel_rfl
theorem ok30 : CtxOK Tryd.prog (cx []) gl := ctx_of tyOk moOk (show SpecL Tryd.prog gG gl [] from trivial) fnOk joinOk
theorem ev30 (a : (cOne (cA .i64 2)).T) : evF (R := (rOne (cB)).T) (cx []) 1000 Tryd.f30 ((cOne (cA .i64 2)).enc a) (glMem gl) gG (rOne (cB)).dec = f30 a := evg30  a
theorem sp30 : VE.Spec Tryd.prog gG gl 30 (conF (cOne (cA .i64 2)) (rOne (cB)) (fun a => f30 a)) := spec_of ok30 Tryd.func30 Tryd.call30 1000 (cOne_ok (cA_ok _ _)) (rOne_ok (cB_ok)) ev30
noncomputable abbrev con30 : List (Nat × (List AV → Option ConR)) := []

/-- posture.Check -/
noncomputable def f13 (a : Nat → Int) : Option (Int) :=
 Option.bind (f30 a) (fun r1 =>
 cond (!r1) (
 some (1)) (
 cond (decide (a 2 < 0)) (
 some (1)) (
 cond (decide (7 < a 2)) (
 some (1)) (
 cond (decide (a 3 < -1)) (
 some (1)) (
 cond (decide (1 < a 3)) (
 some (1)) (
 cond (decide (a 4 < 1)) (
 some (1)) (
 cond (decide (3 < a 4)) (
 some (1)) (
 Option.bind (f28 0 (nthI [a 5, a 6, a 7])) (fun r2 =>
 cond (!decide (r2.snd = 0)) (
 some (r2.snd)) (
 Option.bind (f28 1 (nthI [a 8, a 9, a 10])) (fun r3 =>
 cond (!decide (r3.snd = 0)) (
 some (r3.snd)) (
 Option.bind (f28 2 (nthI [a 11, a 12, a 13])) (fun r4 =>
 cond (!decide (r4.snd = 0)) (
 some (r4.snd)) (
 Option.bind (f28 3 (nthI [a 14, a 15, a 16])) (fun r5 =>
 cond (!decide (r5.snd = 0)) (
 some (r5.snd)) (
 Option.bind (f28 4 (nthI [a 17, a 18, a 19])) (fun r6 =>
 cond (!decide (r6.snd = 0)) (
 some (r6.snd)) (
 Option.bind (f28 5 (nthI [a 20, a 21, a 22])) (fun r7 =>
 cond (!decide (r7.snd = 0)) (
 some (r7.snd)) (
 cond (!decide (bitsI BinOp.and IntKind.i64 (a 4) 1 = 0)) (
 cond (!(decide (a 5 = 0) && (decide (a 6 = -1) && decide (a 7 = 0)))) (
 some (19)) (
 cond (!decide (bitsI BinOp.and IntKind.i64 (a 4) 2 = 0)) (
 cond (!(decide (a 8 = 0) && (decide (a 9 = -1) && decide (a 10 = 0)))) (
 some (19)) (
 some (0))) (
 some (0)))) (
 cond (!decide (bitsI BinOp.and IntKind.i64 (a 4) 2 = 0)) (
 cond (!(decide (a 8 = 0) && (decide (a 9 = -1) && decide (a 10 = 0)))) (
 some (19)) (
 some (0))) (
 some (0)))))))))))))))))))))))
theorem evg13 (f28 : (Int) → (Nat → Int) → Option ((Nat → Int) × Int)) (f30 : (Nat → Int) → Option (Bool)) (xx : (cOne (cA .i64 23)).T) : evF (R := (rOne (cI .i64)).T) (cx [(28, conF (cCons (cI .i64) (cOne (cA .i64 3))) (rTup (cCons (cA .i64 3) (cOne (cI .i64)))) (fun a => f28 a.1 a.2)), (30, conF (cOne (cA .i64 2)) (rOne (cB)) (fun a => f30 a))]) 1000 Tryd.f13 ((cOne (cA .i64 23)).enc xx) (glMem gl) gG (rOne (cI .i64)).dec =
 (fun (a : Nat → Int) =>
 (( Option.bind (f30 (nthI [a 0, a 1])) (fun r1 =>
 cond (!r1) (
 some (1)) (
 cond (decide (a 2 < 0)) (
 some (1)) (
 cond (decide (7 < a 2)) (
 some (1)) (
 cond (decide (a 3 < -1)) (
 some (1)) (
 cond (decide (1 < a 3)) (
 some (1)) (
 cond (decide (a 4 < 1)) (
 some (1)) (
 cond (decide (3 < a 4)) (
 some (1)) (
 Option.bind (f28 0 (nthI [a 5, a 6, a 7])) (fun r2 =>
 cond (!decide (r2.snd = 0)) (
 some (r2.snd)) (
 Option.bind (f28 1 (nthI [a 8, a 9, a 10])) (fun r3 =>
 cond (!decide (r3.snd = 0)) (
 some (r3.snd)) (
 Option.bind (f28 2 (nthI [a 11, a 12, a 13])) (fun r4 =>
 cond (!decide (r4.snd = 0)) (
 some (r4.snd)) (
 Option.bind (f28 3 (nthI [a 14, a 15, a 16])) (fun r5 =>
 cond (!decide (r5.snd = 0)) (
 some (r5.snd)) (
 Option.bind (f28 4 (nthI [a 17, a 18, a 19])) (fun r6 =>
 cond (!decide (r6.snd = 0)) (
 some (r6.snd)) (
 Option.bind (f28 5 (nthI [a 20, a 21, a 22])) (fun r7 =>
 cond (!decide (r7.snd = 0)) (
 some (r7.snd)) (
 cond (!decide (bitsI BinOp.and IntKind.i64 (a 4) 1 = 0)) (
 cond (!(decide (a 5 = 0) && (decide (a 6 = -1) && decide (a 7 = 0)))) (
 some (19)) (
 cond (!decide (bitsI BinOp.and IntKind.i64 (a 4) 2 = 0)) (
 cond (!(decide (a 8 = 0) && (decide (a 9 = -1) && decide (a 10 = 0)))) (
 some (19)) (
 some (0))) (
 some (0)))) (
 cond (!decide (bitsI BinOp.and IntKind.i64 (a 4) 2 = 0)) (
 cond (!(decide (a 8 = 0) && (decide (a 9 = -1) && decide (a 10 = 0)))) (
 some (19)) (
 some (0))) (
 some (0)))))))))))))))))))))))) : Option (Int))) xx := by kernel_rfl
theorem ok13 : CtxOK Tryd.prog (cx [(28, conF (cCons (cI .i64) (cOne (cA .i64 3))) (rTup (cCons (cA .i64 3) (cOne (cI .i64)))) (fun a => f28 a.1 a.2)), (30, conF (cOne (cA .i64 2)) (rOne (cB)) (fun a => f30 a))]) gl := ctx_of tyOk moOk (show SpecL Tryd.prog gG gl [(28, conF (cCons (cI .i64) (cOne (cA .i64 3))) (rTup (cCons (cA .i64 3) (cOne (cI .i64)))) (fun a => f28 a.1 a.2)), (30, conF (cOne (cA .i64 2)) (rOne (cB)) (fun a => f30 a))] from ⟨sp28, sp30, trivial⟩) fnOk joinOk
noncomputable def g13 (a : Nat → Int) : Option (Int) :=
 Option.bind (f30 (nthI [a 0, a 1])) (fun r1 =>
 cond (!r1) (
 some (1)) (
 cond (decide (a 2 < 0)) (
 some (1)) (
 cond (decide (7 < a 2)) (
 some (1)) (
 cond (decide (a 3 < -1)) (
 some (1)) (
 cond (decide (1 < a 3)) (
 some (1)) (
 cond (decide (a 4 < 1)) (
 some (1)) (
 cond (decide (3 < a 4)) (
 some (1)) (
 Option.bind (f28 0 (nthI [a 5, a 6, a 7])) (fun r2 =>
 cond (!decide (r2.snd = 0)) (
 some (r2.snd)) (
 Option.bind (f28 1 (nthI [a 8, a 9, a 10])) (fun r3 =>
 cond (!decide (r3.snd = 0)) (
 some (r3.snd)) (
 Option.bind (f28 2 (nthI [a 11, a 12, a 13])) (fun r4 =>
 cond (!decide (r4.snd = 0)) (
 some (r4.snd)) (
 Option.bind (f28 3 (nthI [a 14, a 15, a 16])) (fun r5 =>
 cond (!decide (r5.snd = 0)) (
 some (r5.snd)) (
 Option.bind (f28 4 (nthI [a 17, a 18, a 19])) (fun r6 =>
 cond (!decide (r6.snd = 0)) (
 some (r6.snd)) (
 Option.bind (f28 5 (nthI [a 20, a 21, a 22])) (fun r7 =>
 cond (!decide (r7.snd = 0)) (
 some (r7.snd)) (
 cond (!decide (bitsI BinOp.and IntKind.i64 (a 4) 1 = 0)) (
 cond (!(decide (a 5 = 0) && (decide (a 6 = -1) && decide (a 7 = 0)))) (
 some (19)) (
 cond (!decide (bitsI BinOp.and IntKind.i64 (a 4) 2 = 0)) (
 cond (!(decide (a 8 = 0) && (decide (a 9 = -1) && decide (a 10 = 0)))) (
 some (19)) (
 some (0))) (
 some (0)))) (
 cond (!decide (bitsI BinOp.and IntKind.i64 (a 4) 2 = 0)) (
 cond (!(decide (a 8 = 0) && (decide (a 9 = -1) && decide (a 10 = 0)))) (
 some (19)) (
 some (0))) (
 some (0)))))))))))))))))))))))
theorem fg13 (a : Nat → Int) : g13 a = f13 a := by kernel_rfl
theorem ev13 (a : (cOne (cA .i64 23)).T) : evF (R := (rOne (cI .i64)).T) (cx [(28, conF (cCons (cI .i64) (cOne (cA .i64 3))) (rTup (cCons (cA .i64 3) (cOne (cI .i64)))) (fun a => f28 a.1 a.2)), (30, conF (cOne (cA .i64 2)) (rOne (cB)) (fun a => f30 a))]) 1000 Tryd.f13 ((cOne (cA .i64 23)).enc a) (glMem gl) gG (rOne (cI .i64)).dec = f13 a := (show evF (R := (rOne (cI .i64)).T) (cx [(28, conF (cCons (cI .i64) (cOne (cA .i64 3))) (rTup (cCons (cA .i64 3) (cOne (cI .i64)))) (fun a => f28 a.1 a.2)), (30, conF (cOne (cA .i64 2)) (rOne (cB)) (fun a => f30 a))]) 1000 Tryd.f13 ((cOne (cA .i64 23)).enc a) (glMem gl) gG (rOne (cI .i64)).dec = g13 a from evg13 f28 f30 a).trans (fg13 a)
theorem sp13 : VE.Spec Tryd.prog gG gl 13 (conF (cOne (cA .i64 23)) (rOne (cI .i64)) (fun a => f13 a)) := spec_of ok13 Tryd.func13 Tryd.call13 1000 (cOne_ok (cA_ok _ _)) (rOne_ok (cI_ok _)) ev13
noncomputable abbrev con13 : List (Nat × (List AV → Option ConR)) := [(28, conF (cCons (cI .i64) (cOne (cA .i64 3))) (rTup (cCons (cA .i64 3) (cOne (cI .i64)))) (fun a => f28 a.1 a.2)), (30, conF (cOne (cA .i64 2)) (rOne (cB)) (fun a => f30 a))]

/-- posture.Pose -/
noncomputable def f11 (a : Nat → Int) : Option ((Nat → Int) × Int) :=
 Option.bind (f13 a) (fun r1 =>
 cond (!decide (r1 = 0)) (
 some ((nthI tab0, r1))) (
 Option.bind (f28 0 (nthI [a 5, a 6, a 7])) (fun r2 =>
 Option.bind (f28 1 (nthI [a 8, a 9, a 10])) (fun r3 =>
 Option.bind (f28 2 (nthI [a 11, a 12, a 13])) (fun r4 =>
 Option.bind (f28 3 (nthI [a 14, a 15, a 16])) (fun r5 =>
 Option.bind (f28 4 (nthI [a 17, a 18, a 19])) (fun r6 =>
 Option.bind (f28 5 (nthI [a 20, a 21, a 22])) (fun r7 =>
 some ((nthI [a 0, a 1, IntKind.i64.wrap (32 * a 2), IntKind.i64.wrap (8 * a 3), r2.fst 0, r2.fst 1, r2.fst 2, r3.fst 0, r3.fst 1, r3.fst 2, r4.fst 0, r4.fst 1, r4.fst 2, r5.fst 0, r5.fst 1, r5.fst 2, r6.fst 0, r6.fst 1, r6.fst 2, r7.fst 0, r7.fst 1, r7.fst 2], 0))))))))))
theorem evg11 (f13 : (Nat → Int) → Option (Int)) (f28 : (Int) → (Nat → Int) → Option ((Nat → Int) × Int)) (xx : (cOne (cA .i64 23)).T) : evF (R := (rTup (cCons (cA .i64 22) (cOne (cI .i64)))).T) (cx [(13, conF (cOne (cA .i64 23)) (rOne (cI .i64)) (fun a => f13 a)), (28, conF (cCons (cI .i64) (cOne (cA .i64 3))) (rTup (cCons (cA .i64 3) (cOne (cI .i64)))) (fun a => f28 a.1 a.2))]) 1000 Tryd.f11 ((cOne (cA .i64 23)).enc xx) (glMem gl) gG (rTup (cCons (cA .i64 22) (cOne (cI .i64)))).dec =
 (fun (a : Nat → Int) =>
 (( Option.bind (f13 (nthI [a 0, a 1, a 2, a 3, a 4, a 5, a 6, a 7, a 8, a 9, a 10, a 11, a 12, a 13, a 14, a 15, a 16, a 17, a 18, a 19, a 20, a 21, a 22])) (fun r1 =>
 cond (!decide (r1 = 0)) (
 some ((nthI tab0, r1))) (
 Option.bind (f28 0 (nthI [a 5, a 6, a 7])) (fun r2 =>
 Option.bind (f28 1 (nthI [a 8, a 9, a 10])) (fun r3 =>
 Option.bind (f28 2 (nthI [a 11, a 12, a 13])) (fun r4 =>
 Option.bind (f28 3 (nthI [a 14, a 15, a 16])) (fun r5 =>
 Option.bind (f28 4 (nthI [a 17, a 18, a 19])) (fun r6 =>
 Option.bind (f28 5 (nthI [a 20, a 21, a 22])) (fun r7 =>
 some ((nthI [a 0, a 1, IntKind.i64.wrap (32 * a 2), IntKind.i64.wrap (8 * a 3), r2.fst 0, r2.fst 1, r2.fst 2, r3.fst 0, r3.fst 1, r3.fst 2, r4.fst 0, r4.fst 1, r4.fst 2, r5.fst 0, r5.fst 1, r5.fst 2, r6.fst 0, r6.fst 1, r6.fst 2, r7.fst 0, r7.fst 1, r7.fst 2], 0))))))))))) : Option ((Nat → Int) × Int))) xx := by kernel_rfl
theorem ok11 : CtxOK Tryd.prog (cx [(13, conF (cOne (cA .i64 23)) (rOne (cI .i64)) (fun a => f13 a)), (28, conF (cCons (cI .i64) (cOne (cA .i64 3))) (rTup (cCons (cA .i64 3) (cOne (cI .i64)))) (fun a => f28 a.1 a.2))]) gl := ctx_of tyOk moOk (show SpecL Tryd.prog gG gl [(13, conF (cOne (cA .i64 23)) (rOne (cI .i64)) (fun a => f13 a)), (28, conF (cCons (cI .i64) (cOne (cA .i64 3))) (rTup (cCons (cA .i64 3) (cOne (cI .i64)))) (fun a => f28 a.1 a.2))] from ⟨sp13, sp28, trivial⟩) fnOk joinOk
noncomputable def g11 (a : Nat → Int) : Option ((Nat → Int) × Int) :=
 Option.bind (f13 (nthI [a 0, a 1, a 2, a 3, a 4, a 5, a 6, a 7, a 8, a 9, a 10, a 11, a 12, a 13, a 14, a 15, a 16, a 17, a 18, a 19, a 20, a 21, a 22])) (fun r1 =>
 cond (!decide (r1 = 0)) (
 some ((nthI tab0, r1))) (
 Option.bind (f28 0 (nthI [a 5, a 6, a 7])) (fun r2 =>
 Option.bind (f28 1 (nthI [a 8, a 9, a 10])) (fun r3 =>
 Option.bind (f28 2 (nthI [a 11, a 12, a 13])) (fun r4 =>
 Option.bind (f28 3 (nthI [a 14, a 15, a 16])) (fun r5 =>
 Option.bind (f28 4 (nthI [a 17, a 18, a 19])) (fun r6 =>
 Option.bind (f28 5 (nthI [a 20, a 21, a 22])) (fun r7 =>
 some ((nthI [a 0, a 1, IntKind.i64.wrap (32 * a 2), IntKind.i64.wrap (8 * a 3), r2.fst 0, r2.fst 1, r2.fst 2, r3.fst 0, r3.fst 1, r3.fst 2, r4.fst 0, r4.fst 1, r4.fst 2, r5.fst 0, r5.fst 1, r5.fst 2, r6.fst 0, r6.fst 1, r6.fst 2, r7.fst 0, r7.fst 1, r7.fst 2], 0))))))))))
theorem fg11 (a : Nat → Int) : g11 a = f11 a := by kernel_rfl
theorem ev11 (a : (cOne (cA .i64 23)).T) : evF (R := (rTup (cCons (cA .i64 22) (cOne (cI .i64)))).T) (cx [(13, conF (cOne (cA .i64 23)) (rOne (cI .i64)) (fun a => f13 a)), (28, conF (cCons (cI .i64) (cOne (cA .i64 3))) (rTup (cCons (cA .i64 3) (cOne (cI .i64)))) (fun a => f28 a.1 a.2))]) 1000 Tryd.f11 ((cOne (cA .i64 23)).enc a) (glMem gl) gG (rTup (cCons (cA .i64 22) (cOne (cI .i64)))).dec = f11 a := (show evF (R := (rTup (cCons (cA .i64 22) (cOne (cI .i64)))).T) (cx [(13, conF (cOne (cA .i64 23)) (rOne (cI .i64)) (fun a => f13 a)), (28, conF (cCons (cI .i64) (cOne (cA .i64 3))) (rTup (cCons (cA .i64 3) (cOne (cI .i64)))) (fun a => f28 a.1 a.2))]) 1000 Tryd.f11 ((cOne (cA .i64 23)).enc a) (glMem gl) gG (rTup (cCons (cA .i64 22) (cOne (cI .i64)))).dec = g11 a from evg11 f13 f28 a).trans (fg11 a)
theorem sp11 : VE.Spec Tryd.prog gG gl 11 (conF (cOne (cA .i64 23)) (rTup (cCons (cA .i64 22) (cOne (cI .i64)))) (fun a => f11 a)) := spec_of ok11 Tryd.func11 Tryd.call11 1000 (cOne_ok (cA_ok _ _)) (rTup_ok (cCons_ok (cA_ok _ _) (cOne_ok (cI_ok _)))) ev11
noncomputable abbrev con11 : List (Nat × (List AV → Option ConR)) := [(13, conF (cOne (cA .i64 23)) (rOne (cI .i64)) (fun a => f13 a)), (28, conF (cCons (cI .i64) (cOne (cA .i64 3))) (rTup (cCons (cA .i64 3) (cOne (cI .i64)))) (fun a => f28 a.1 a.2))]

/-- dancestudioref18.limbed -/
noncomputable def f56 (a : Int) : Option (Bool) :=
 cond (decide (0 ≤ a)) (
 some (decide (a < 6))) (
 some (false))
theorem evg56  (xx : (cOne (cI .i64)).T) : evF (R := (rOne (cB)).T) (cx []) 1000 Tryd.f56 ((cOne (cI .i64)).enc xx) (glMem gl) gG (rOne (cB)).dec =
 (fun (a : Int) =>
 (( cond (decide (0 ≤ a)) (
 some (decide (a < 6))) (
 some (false))) : Option (Bool))) xx := by kernel_rfl
theorem ok56 : CtxOK Tryd.prog (cx []) gl := ctx_of tyOk moOk (show SpecL Tryd.prog gG gl [] from trivial) fnOk joinOk
theorem ev56 (a : (cOne (cI .i64)).T) : evF (R := (rOne (cB)).T) (cx []) 1000 Tryd.f56 ((cOne (cI .i64)).enc a) (glMem gl) gG (rOne (cB)).dec = f56 a := evg56  a
theorem sp56 : VE.Spec Tryd.prog gG gl 56 (conF (cOne (cI .i64)) (rOne (cB)) (fun a => f56 a)) := spec_of ok56 Tryd.func56 Tryd.call56 1000 (cOne_ok (cI_ok _)) (rOne_ok (cB_ok)) ev56
noncomputable abbrev con56 : List (Nat × (List AV → Option ConR)) := []

/-- dancestudioref16.Is -/
noncomputable def f63 (a : Int) : Option (Bool) :=
 cond (decide (0 ≤ a)) (
 some (decide (a ≤ 8))) (
 some (false))
theorem evg63  (xx : (cOne (cI .i64)).T) : evF (R := (rOne (cB)).T) (cx []) 1000 Tryd.f63 ((cOne (cI .i64)).enc xx) (glMem gl) gG (rOne (cB)).dec =
 (fun (a : Int) =>
 (( cond (decide (0 ≤ a)) (
 some (decide (a ≤ 8))) (
 some (false))) : Option (Bool))) xx := by kernel_rfl
theorem ok63 : CtxOK Tryd.prog (cx []) gl := ctx_of tyOk moOk (show SpecL Tryd.prog gG gl [] from trivial) fnOk joinOk
theorem ev63 (a : (cOne (cI .i64)).T) : evF (R := (rOne (cB)).T) (cx []) 1000 Tryd.f63 ((cOne (cI .i64)).enc a) (glMem gl) gG (rOne (cB)).dec = f63 a := evg63  a
theorem sp63 : VE.Spec Tryd.prog gG gl 63 (conF (cOne (cI .i64)) (rOne (cB)) (fun a => f63 a)) := spec_of ok63 Tryd.func63 Tryd.call63 1000 (cOne_ok (cI_ok _)) (rOne_ok (cB_ok)) ev63
noncomputable abbrev con63 : List (Nat × (List AV → Option ConR)) := []

/-- dancestudioref16.Check -/
noncomputable def f57 (a : Int) (b : Int) : Option (Int) :=
 Option.bind (f63 a) (fun r2 =>
 cond (!r2) (
 some (1)) (
 cond (decide (b < -1)) (
 some (1)) (
 cond (decide (1 < b)) (
 some (1)) (
 some (0)))))
theorem evg57 (f63 : (Int) → Option (Bool)) (xx : (cCons (cI .i64) (cOne (cI .i64))).T) : evF (R := (rOne (cI .i64)).T) (cx [(63, conF (cOne (cI .i64)) (rOne (cB)) (fun a => f63 a))]) 1000 Tryd.f57 ((cCons (cI .i64) (cOne (cI .i64))).enc xx) (glMem gl) gG (rOne (cI .i64)).dec =
 (fun (a : Int) (b : Int) =>
 (( Option.bind (f63 a) (fun r2 =>
 cond (!r2) (
 some (1)) (
 cond (decide (b < -1)) (
 some (1)) (
 cond (decide (1 < b)) (
 some (1)) (
 some (0)))))) : Option (Int))) xx.1 xx.2 := by kernel_rfl
theorem ok57 : CtxOK Tryd.prog (cx [(63, conF (cOne (cI .i64)) (rOne (cB)) (fun a => f63 a))]) gl := ctx_of tyOk moOk (show SpecL Tryd.prog gG gl [(63, conF (cOne (cI .i64)) (rOne (cB)) (fun a => f63 a))] from ⟨sp63, trivial⟩) fnOk joinOk
theorem ev57 (a : (cCons (cI .i64) (cOne (cI .i64))).T) : evF (R := (rOne (cI .i64)).T) (cx [(63, conF (cOne (cI .i64)) (rOne (cB)) (fun a => f63 a))]) 1000 Tryd.f57 ((cCons (cI .i64) (cOne (cI .i64))).enc a) (glMem gl) gG (rOne (cI .i64)).dec = f57 a.1 a.2 := evg57 f63 a
theorem sp57 : VE.Spec Tryd.prog gG gl 57 (conF (cCons (cI .i64) (cOne (cI .i64))) (rOne (cI .i64)) (fun a => f57 a.1 a.2)) := spec_of ok57 Tryd.func57 Tryd.call57 1000 (cCons_ok (cI_ok _) (cOne_ok (cI_ok _))) (rOne_ok (cI_ok _)) ev57
noncomputable abbrev con57 : List (Nat × (List AV → Option ConR)) := [(63, conF (cOne (cI .i64)) (rOne (cB)) (fun a => f63 a))]

/-- dancestudioref16.Eighth -/
noncomputable def f58 (a : Int) : Option (Int × Int) :=
 Option.bind (f63 a) (fun r1 =>
 cond (!r1) (
 some ((0, 1))) (
 cond (decide (a = 0)) (
 some ((0, 18))) (
 some ((IntKind.i64.wrap (a - 1), 0)))))
theorem evg58 (f63 : (Int) → Option (Bool)) (xx : (cOne (cI .i64)).T) : evF (R := (rTup (cCons (cI .i64) (cOne (cI .i64)))).T) (cx [(63, conF (cOne (cI .i64)) (rOne (cB)) (fun a => f63 a))]) 1000 Tryd.f58 ((cOne (cI .i64)).enc xx) (glMem gl) gG (rTup (cCons (cI .i64) (cOne (cI .i64)))).dec =
 (fun (a : Int) =>
 (( Option.bind (f63 a) (fun r1 =>
 cond (!r1) (
 some ((0, 1))) (
 cond (decide (a = 0)) (
 some ((0, 18))) (
 some ((IntKind.i64.wrap (a - 1), 0)))))) : Option (Int × Int))) xx := by kernel_rfl
theorem ok58 : CtxOK Tryd.prog (cx [(63, conF (cOne (cI .i64)) (rOne (cB)) (fun a => f63 a))]) gl := ctx_of tyOk moOk (show SpecL Tryd.prog gG gl [(63, conF (cOne (cI .i64)) (rOne (cB)) (fun a => f63 a))] from ⟨sp63, trivial⟩) fnOk joinOk
theorem ev58 (a : (cOne (cI .i64)).T) : evF (R := (rTup (cCons (cI .i64) (cOne (cI .i64)))).T) (cx [(63, conF (cOne (cI .i64)) (rOne (cB)) (fun a => f63 a))]) 1000 Tryd.f58 ((cOne (cI .i64)).enc a) (glMem gl) gG (rTup (cCons (cI .i64) (cOne (cI .i64)))).dec = f58 a := evg58 f63 a
theorem sp58 : VE.Spec Tryd.prog gG gl 58 (conF (cOne (cI .i64)) (rTup (cCons (cI .i64) (cOne (cI .i64)))) (fun a => f58 a)) := spec_of ok58 Tryd.func58 Tryd.call58 1000 (cOne_ok (cI_ok _)) (rTup_ok (cCons_ok (cI_ok _) (cOne_ok (cI_ok _)))) ev58
noncomputable abbrev con58 : List (Nat × (List AV → Option ConR)) := [(63, conF (cOne (cI .i64)) (rOne (cB)) (fun a => f63 a))]

/-- dancestudioref18.Of -/
noncomputable def f29 (a : Int) (b : Nat → Int) : Option ((Nat → Int) × Int) :=
 Option.bind (f56 a) (fun r2 =>
 cond (!r2) (
 some ((nthI [0, 0, 0], 9))) (
 Option.bind (f57 (b 0) (b 1)) (fun r3 =>
 cond (!decide (r3 = 0)) (
 some ((nthI [0, 0, 0], r3))) (
 cond (decide (b 2 < 0)) (
 some ((nthI [0, 0, 0], 1))) (
 cond (decide (6 < b 2)) (
 some ((nthI [0, 0, 0], 1))) (
 cond (!decide (b 0 = 0)) (
 Option.bind (f58 (b 0)) (fun r4 =>
 some ((nthI [IntKind.i64.wrap (32 * r4.fst), IntKind.i64.wrap (32 * b 1), b 2], 0)))) (
 cond (decide (b 1 = 0)) (
 some ((nthI [0, 0, 0], 18))) (
 cond (decide (b 1 = -1)) (
 cond (decide (a = 2)) (
 some ((nthI [0, 0, 0], 18))) (
 cond (decide (a = 5)) (
 some ((nthI [0, 0, 0], 18))) (
 some ((nthI [0, IntKind.i64.wrap (64 * b 1), b 2], 0))))) (
 some ((nthI [0, IntKind.i64.wrap (64 * b 1), b 2], 0)))))))))))
theorem evg29 (f56 : (Int) → Option (Bool)) (f57 : (Int) → (Int) → Option (Int)) (f58 : (Int) → Option (Int × Int)) (xx : (cCons (cI .i64) (cOne (cA .i64 3))).T) : evF (R := (rTup (cCons (cA .i64 3) (cOne (cI .i64)))).T) (cx [(56, conF (cOne (cI .i64)) (rOne (cB)) (fun a => f56 a)), (57, conF (cCons (cI .i64) (cOne (cI .i64))) (rOne (cI .i64)) (fun a => f57 a.1 a.2)), (58, conF (cOne (cI .i64)) (rTup (cCons (cI .i64) (cOne (cI .i64)))) (fun a => f58 a))]) 1000 Tryd.f29 ((cCons (cI .i64) (cOne (cA .i64 3))).enc xx) (glMem gl) gG (rTup (cCons (cA .i64 3) (cOne (cI .i64)))).dec =
 (fun (a : Int) (b : Nat → Int) =>
 (( Option.bind (f56 a) (fun r2 =>
 cond (!r2) (
 some ((nthI [0, 0, 0], 9))) (
 Option.bind (f57 (b 0) (b 1)) (fun r3 =>
 cond (!decide (r3 = 0)) (
 some ((nthI [0, 0, 0], r3))) (
 cond (decide (b 2 < 0)) (
 some ((nthI [0, 0, 0], 1))) (
 cond (decide (6 < b 2)) (
 some ((nthI [0, 0, 0], 1))) (
 cond (!decide (b 0 = 0)) (
 Option.bind (f58 (b 0)) (fun r4 =>
 some ((nthI [IntKind.i64.wrap (32 * r4.fst), IntKind.i64.wrap (32 * b 1), b 2], 0)))) (
 cond (decide (b 1 = 0)) (
 some ((nthI [0, 0, 0], 18))) (
 cond (decide (b 1 = -1)) (
 cond (decide (a = 2)) (
 some ((nthI [0, 0, 0], 18))) (
 cond (decide (a = 5)) (
 some ((nthI [0, 0, 0], 18))) (
 some ((nthI [0, IntKind.i64.wrap (64 * b 1), b 2], 0))))) (
 some ((nthI [0, IntKind.i64.wrap (64 * b 1), b 2], 0)))))))))))) : Option ((Nat → Int) × Int))) xx.1 xx.2 := by kernel_rfl
theorem ok29 : CtxOK Tryd.prog (cx [(56, conF (cOne (cI .i64)) (rOne (cB)) (fun a => f56 a)), (57, conF (cCons (cI .i64) (cOne (cI .i64))) (rOne (cI .i64)) (fun a => f57 a.1 a.2)), (58, conF (cOne (cI .i64)) (rTup (cCons (cI .i64) (cOne (cI .i64)))) (fun a => f58 a))]) gl := ctx_of tyOk moOk (show SpecL Tryd.prog gG gl [(56, conF (cOne (cI .i64)) (rOne (cB)) (fun a => f56 a)), (57, conF (cCons (cI .i64) (cOne (cI .i64))) (rOne (cI .i64)) (fun a => f57 a.1 a.2)), (58, conF (cOne (cI .i64)) (rTup (cCons (cI .i64) (cOne (cI .i64)))) (fun a => f58 a))] from ⟨sp56, sp57, sp58, trivial⟩) fnOk joinOk
theorem ev29 (a : (cCons (cI .i64) (cOne (cA .i64 3))).T) : evF (R := (rTup (cCons (cA .i64 3) (cOne (cI .i64)))).T) (cx [(56, conF (cOne (cI .i64)) (rOne (cB)) (fun a => f56 a)), (57, conF (cCons (cI .i64) (cOne (cI .i64))) (rOne (cI .i64)) (fun a => f57 a.1 a.2)), (58, conF (cOne (cI .i64)) (rTup (cCons (cI .i64) (cOne (cI .i64)))) (fun a => f58 a))]) 1000 Tryd.f29 ((cCons (cI .i64) (cOne (cA .i64 3))).enc a) (glMem gl) gG (rTup (cCons (cA .i64 3) (cOne (cI .i64)))).dec = f29 a.1 a.2 := evg29 f56 f57 f58 a
theorem sp29 : VE.Spec Tryd.prog gG gl 29 (conF (cCons (cI .i64) (cOne (cA .i64 3))) (rTup (cCons (cA .i64 3) (cOne (cI .i64)))) (fun a => f29 a.1 a.2)) := spec_of ok29 Tryd.func29 Tryd.call29 1000 (cCons_ok (cI_ok _) (cOne_ok (cA_ok _ _))) (rTup_ok (cCons_ok (cA_ok _ _) (cOne_ok (cI_ok _)))) ev29
noncomputable abbrev con29 : List (Nat × (List AV → Option ConR)) := [(56, conF (cOne (cI .i64)) (rOne (cB)) (fun a => f56 a)), (57, conF (cCons (cI .i64) (cOne (cI .i64))) (rOne (cI .i64)) (fun a => f57 a.1 a.2)), (58, conF (cOne (cI .i64)) (rTup (cCons (cI .i64) (cOne (cI .i64)))) (fun a => f58 a))]

/-- dancestudioref19.On -/
noncomputable def f31 (a : Int) : Option (Bool) :=
 cond (decide (-32768 ≤ a)) (
 some (decide (a ≤ 32768))) (
 some (false))
theorem evg31  (xx : (cOne (cI .i64)).T) : evF (R := (rOne (cB)).T) (cx []) 1000 Tryd.f31 ((cOne (cI .i64)).enc xx) (glMem gl) gG (rOne (cB)).dec =
 (fun (a : Int) =>
 (( cond (decide (-32768 ≤ a)) (
 some (decide (a ≤ 32768))) (
 some (false))) : Option (Bool))) xx := by kernel_rfl
theorem ok31 : CtxOK Tryd.prog (cx []) gl := ctx_of tyOk moOk (show SpecL Tryd.prog gG gl [] from trivial) fnOk joinOk
theorem ev31 (a : (cOne (cI .i64)).T) : evF (R := (rOne (cB)).T) (cx []) 1000 Tryd.f31 ((cOne (cI .i64)).enc a) (glMem gl) gG (rOne (cB)).dec = f31 a := evg31  a
theorem sp31 : VE.Spec Tryd.prog gG gl 31 (conF (cOne (cI .i64)) (rOne (cB)) (fun a => f31 a)) := spec_of ok31 Tryd.func31 Tryd.call31 1000 (cOne_ok (cI_ok _)) (rOne_ok (cB_ok)) ev31
noncomputable abbrev con31 : List (Nat × (List AV → Option ConR)) := []

/-- dancestudioref19.Down -/
noncomputable def f32  : Option ((Nat → Int)) :=
 some (nthI [0, -1, 0])
theorem evg32  (xx : (cNil).T) : evF (R := (rOne (cA .i64 3)).T) (cx []) 1000 Tryd.f32 ((cNil).enc xx) (glMem gl) gG (rOne (cA .i64 3)).dec =
 (( some (nthI [0, -1, 0])) : Option ((Nat → Int))) := by kernel_rfl
theorem ok32 : CtxOK Tryd.prog (cx []) gl := ctx_of tyOk moOk (show SpecL Tryd.prog gG gl [] from trivial) fnOk joinOk
theorem ev32 (a : (cNil).T) : evF (R := (rOne (cA .i64 3)).T) (cx []) 1000 Tryd.f32 ((cNil).enc a) (glMem gl) gG (rOne (cA .i64 3)).dec = f32 := evg32  a
theorem sp32 : VE.Spec Tryd.prog gG gl 32 (conF (cNil) (rOne (cA .i64 3)) (fun a => f32)) := spec_of ok32 Tryd.func32 Tryd.call32 1000 (cNil_ok) (rOne_ok (cA_ok _ _)) ev32
noncomputable abbrev con32 : List (Nat × (List AV → Option ConR)) := []

/-- dancestudioref19.Check -/
noncomputable def f14 (a : Nat → Int) : Option (Int) :=
 Option.bind (f31 (a 0)) (fun r1 =>
 cond (!r1) (
 some (1)) (
 Option.bind (f31 (a 1)) (fun r2 =>
 cond (!r2) (
 some (1)) (
 cond (decide (a 2 < 0)) (
 some (1)) (
 cond (decide (7 < a 2)) (
 some (1)) (
 cond (decide (a 3 < -1)) (
 some (1)) (
 cond (decide (1 < a 3)) (
 some (1)) (
 cond (decide (a 4 < 1)) (
 some (1)) (
 cond (decide (3 < a 4)) (
 some (1)) (
 Option.bind (f29 0 (nthI [a 5, a 6, a 7])) (fun r3 =>
 cond (!decide (r3.snd = 0)) (
 some (r3.snd)) (
 Option.bind (f29 1 (nthI [a 8, a 9, a 10])) (fun r4 =>
 cond (!decide (r4.snd = 0)) (
 some (r4.snd)) (
 Option.bind (f29 2 (nthI [a 11, a 12, a 13])) (fun r5 =>
 cond (!decide (r5.snd = 0)) (
 some (r5.snd)) (
 Option.bind (f29 3 (nthI [a 14, a 15, a 16])) (fun r6 =>
 cond (!decide (r6.snd = 0)) (
 some (r6.snd)) (
 Option.bind (f29 4 (nthI [a 17, a 18, a 19])) (fun r7 =>
 cond (!decide (r7.snd = 0)) (
 some (r7.snd)) (
 Option.bind (f29 5 (nthI [a 20, a 21, a 22])) (fun r8 =>
 cond (!decide (r8.snd = 0)) (
 some (r8.snd)) (
 cond (decide ((a 4).tmod 2 = 1)) (
 cond (!(decide (a 5 = 0) && (decide (a 6 = -1) && decide (a 7 = 0)))) (
 some (19)) (
 cond (decide (IntKind.i64.wrap ((a 4).tdiv 2) = 1)) (
 cond (!(decide (a 8 = 0) && (decide (a 9 = -1) && decide (a 10 = 0)))) (
 some (19)) (
 some (0))) (
 some (0)))) (
 cond (decide (IntKind.i64.wrap ((a 4).tdiv 2) = 1)) (
 cond (!(decide (a 8 = 0) && (decide (a 9 = -1) && decide (a 10 = 0)))) (
 some (19)) (
 some (0))) (
 some (0)))))))))))))))))))))))))
theorem evg14 (f29 : (Int) → (Nat → Int) → Option ((Nat → Int) × Int)) (f31 : (Int) → Option (Bool)) (xx : (cOne (cA .i64 23)).T) : evF (R := (rOne (cI .i64)).T) (cx [(29, conF (cCons (cI .i64) (cOne (cA .i64 3))) (rTup (cCons (cA .i64 3) (cOne (cI .i64)))) (fun a => f29 a.1 a.2)), (31, conF (cOne (cI .i64)) (rOne (cB)) (fun a => f31 a)), (32, conF (cNil) (rOne (cA .i64 3)) (fun a => f32))]) 1000 Tryd.f14 ((cOne (cA .i64 23)).enc xx) (glMem gl) gG (rOne (cI .i64)).dec =
 (fun (a : Nat → Int) =>
 (( Option.bind (f31 (a 0)) (fun r1 =>
 cond (!r1) (
 some (1)) (
 Option.bind (f31 (a 1)) (fun r2 =>
 cond (!r2) (
 some (1)) (
 cond (decide (a 2 < 0)) (
 some (1)) (
 cond (decide (7 < a 2)) (
 some (1)) (
 cond (decide (a 3 < -1)) (
 some (1)) (
 cond (decide (1 < a 3)) (
 some (1)) (
 cond (decide (a 4 < 1)) (
 some (1)) (
 cond (decide (3 < a 4)) (
 some (1)) (
 Option.bind (f29 0 (nthI [a 5, a 6, a 7])) (fun r3 =>
 cond (!decide (r3.snd = 0)) (
 some (r3.snd)) (
 Option.bind (f29 1 (nthI [a 8, a 9, a 10])) (fun r4 =>
 cond (!decide (r4.snd = 0)) (
 some (r4.snd)) (
 Option.bind (f29 2 (nthI [a 11, a 12, a 13])) (fun r5 =>
 cond (!decide (r5.snd = 0)) (
 some (r5.snd)) (
 Option.bind (f29 3 (nthI [a 14, a 15, a 16])) (fun r6 =>
 cond (!decide (r6.snd = 0)) (
 some (r6.snd)) (
 Option.bind (f29 4 (nthI [a 17, a 18, a 19])) (fun r7 =>
 cond (!decide (r7.snd = 0)) (
 some (r7.snd)) (
 Option.bind (f29 5 (nthI [a 20, a 21, a 22])) (fun r8 =>
 cond (!decide (r8.snd = 0)) (
 some (r8.snd)) (
 cond (decide ((a 4).tmod 2 = 1)) (
 cond (!(decide (a 5 = 0) && (decide (a 6 = -1) && decide (a 7 = 0)))) (
 some (19)) (
 cond (decide (IntKind.i64.wrap ((a 4).tdiv 2) = 1)) (
 cond (!(decide (a 8 = 0) && (decide (a 9 = -1) && decide (a 10 = 0)))) (
 some (19)) (
 some (0))) (
 some (0)))) (
 cond (decide (IntKind.i64.wrap ((a 4).tdiv 2) = 1)) (
 cond (!(decide (a 8 = 0) && (decide (a 9 = -1) && decide (a 10 = 0)))) (
 some (19)) (
 some (0))) (
 some (0)))))))))))))))))))))))))) : Option (Int))) xx := by kernel_rfl
theorem ok14 : CtxOK Tryd.prog (cx [(29, conF (cCons (cI .i64) (cOne (cA .i64 3))) (rTup (cCons (cA .i64 3) (cOne (cI .i64)))) (fun a => f29 a.1 a.2)), (31, conF (cOne (cI .i64)) (rOne (cB)) (fun a => f31 a)), (32, conF (cNil) (rOne (cA .i64 3)) (fun a => f32))]) gl := ctx_of tyOk moOk (show SpecL Tryd.prog gG gl [(29, conF (cCons (cI .i64) (cOne (cA .i64 3))) (rTup (cCons (cA .i64 3) (cOne (cI .i64)))) (fun a => f29 a.1 a.2)), (31, conF (cOne (cI .i64)) (rOne (cB)) (fun a => f31 a)), (32, conF (cNil) (rOne (cA .i64 3)) (fun a => f32))] from ⟨sp29, sp31, sp32, trivial⟩) fnOk joinOk
theorem ev14 (a : (cOne (cA .i64 23)).T) : evF (R := (rOne (cI .i64)).T) (cx [(29, conF (cCons (cI .i64) (cOne (cA .i64 3))) (rTup (cCons (cA .i64 3) (cOne (cI .i64)))) (fun a => f29 a.1 a.2)), (31, conF (cOne (cI .i64)) (rOne (cB)) (fun a => f31 a)), (32, conF (cNil) (rOne (cA .i64 3)) (fun a => f32))]) 1000 Tryd.f14 ((cOne (cA .i64 23)).enc a) (glMem gl) gG (rOne (cI .i64)).dec = f14 a := evg14 f29 f31 a
theorem sp14 : VE.Spec Tryd.prog gG gl 14 (conF (cOne (cA .i64 23)) (rOne (cI .i64)) (fun a => f14 a)) := spec_of ok14 Tryd.func14 Tryd.call14 1000 (cOne_ok (cA_ok _ _)) (rOne_ok (cI_ok _)) ev14
noncomputable abbrev con14 : List (Nat × (List AV → Option ConR)) := [(29, conF (cCons (cI .i64) (cOne (cA .i64 3))) (rTup (cCons (cA .i64 3) (cOne (cI .i64)))) (fun a => f29 a.1 a.2)), (31, conF (cOne (cI .i64)) (rOne (cB)) (fun a => f31 a)), (32, conF (cNil) (rOne (cA .i64 3)) (fun a => f32))]

/-- dancestudioref19.Pose -/
noncomputable def f12 (a : Nat → Int) : Option ((Nat → Int) × Int) :=
 Option.bind (f14 a) (fun r1 =>
 cond (!decide (r1 = 0)) (
 some ((nthI tab0, r1))) (
 Option.bind (f29 0 (nthI [a 5, a 6, a 7])) (fun r2 =>
 Option.bind (f29 1 (nthI [a 8, a 9, a 10])) (fun r3 =>
 Option.bind (f29 2 (nthI [a 11, a 12, a 13])) (fun r4 =>
 Option.bind (f29 3 (nthI [a 14, a 15, a 16])) (fun r5 =>
 Option.bind (f29 4 (nthI [a 17, a 18, a 19])) (fun r6 =>
 Option.bind (f29 5 (nthI [a 20, a 21, a 22])) (fun r7 =>
 some ((nthI [a 0, a 1, IntKind.i64.wrap (32 * a 2), IntKind.i64.wrap (8 * a 3), r2.fst 0, r2.fst 1, r2.fst 2, r3.fst 0, r3.fst 1, r3.fst 2, r4.fst 0, r4.fst 1, r4.fst 2, r5.fst 0, r5.fst 1, r5.fst 2, r6.fst 0, r6.fst 1, r6.fst 2, r7.fst 0, r7.fst 1, r7.fst 2], 0))))))))))
theorem evg12 (f14 : (Nat → Int) → Option (Int)) (f29 : (Int) → (Nat → Int) → Option ((Nat → Int) × Int)) (xx : (cOne (cA .i64 23)).T) : evF (R := (rTup (cCons (cA .i64 22) (cOne (cI .i64)))).T) (cx [(14, conF (cOne (cA .i64 23)) (rOne (cI .i64)) (fun a => f14 a)), (29, conF (cCons (cI .i64) (cOne (cA .i64 3))) (rTup (cCons (cA .i64 3) (cOne (cI .i64)))) (fun a => f29 a.1 a.2))]) 1000 Tryd.f12 ((cOne (cA .i64 23)).enc xx) (glMem gl) gG (rTup (cCons (cA .i64 22) (cOne (cI .i64)))).dec =
 (fun (a : Nat → Int) =>
 (( Option.bind (f14 (nthI [a 0, a 1, a 2, a 3, a 4, a 5, a 6, a 7, a 8, a 9, a 10, a 11, a 12, a 13, a 14, a 15, a 16, a 17, a 18, a 19, a 20, a 21, a 22])) (fun r1 =>
 cond (!decide (r1 = 0)) (
 some ((nthI tab0, r1))) (
 Option.bind (f29 0 (nthI [a 5, a 6, a 7])) (fun r2 =>
 Option.bind (f29 1 (nthI [a 8, a 9, a 10])) (fun r3 =>
 Option.bind (f29 2 (nthI [a 11, a 12, a 13])) (fun r4 =>
 Option.bind (f29 3 (nthI [a 14, a 15, a 16])) (fun r5 =>
 Option.bind (f29 4 (nthI [a 17, a 18, a 19])) (fun r6 =>
 Option.bind (f29 5 (nthI [a 20, a 21, a 22])) (fun r7 =>
 some ((nthI [a 0, a 1, IntKind.i64.wrap (32 * a 2), IntKind.i64.wrap (8 * a 3), r2.fst 0, r2.fst 1, r2.fst 2, r3.fst 0, r3.fst 1, r3.fst 2, r4.fst 0, r4.fst 1, r4.fst 2, r5.fst 0, r5.fst 1, r5.fst 2, r6.fst 0, r6.fst 1, r6.fst 2, r7.fst 0, r7.fst 1, r7.fst 2], 0))))))))))) : Option ((Nat → Int) × Int))) xx := by kernel_rfl
theorem ok12 : CtxOK Tryd.prog (cx [(14, conF (cOne (cA .i64 23)) (rOne (cI .i64)) (fun a => f14 a)), (29, conF (cCons (cI .i64) (cOne (cA .i64 3))) (rTup (cCons (cA .i64 3) (cOne (cI .i64)))) (fun a => f29 a.1 a.2))]) gl := ctx_of tyOk moOk (show SpecL Tryd.prog gG gl [(14, conF (cOne (cA .i64 23)) (rOne (cI .i64)) (fun a => f14 a)), (29, conF (cCons (cI .i64) (cOne (cA .i64 3))) (rTup (cCons (cA .i64 3) (cOne (cI .i64)))) (fun a => f29 a.1 a.2))] from ⟨sp14, sp29, trivial⟩) fnOk joinOk
noncomputable def g12 (a : Nat → Int) : Option ((Nat → Int) × Int) :=
 Option.bind (f14 (nthI [a 0, a 1, a 2, a 3, a 4, a 5, a 6, a 7, a 8, a 9, a 10, a 11, a 12, a 13, a 14, a 15, a 16, a 17, a 18, a 19, a 20, a 21, a 22])) (fun r1 =>
 cond (!decide (r1 = 0)) (
 some ((nthI tab0, r1))) (
 Option.bind (f29 0 (nthI [a 5, a 6, a 7])) (fun r2 =>
 Option.bind (f29 1 (nthI [a 8, a 9, a 10])) (fun r3 =>
 Option.bind (f29 2 (nthI [a 11, a 12, a 13])) (fun r4 =>
 Option.bind (f29 3 (nthI [a 14, a 15, a 16])) (fun r5 =>
 Option.bind (f29 4 (nthI [a 17, a 18, a 19])) (fun r6 =>
 Option.bind (f29 5 (nthI [a 20, a 21, a 22])) (fun r7 =>
 some ((nthI [a 0, a 1, IntKind.i64.wrap (32 * a 2), IntKind.i64.wrap (8 * a 3), r2.fst 0, r2.fst 1, r2.fst 2, r3.fst 0, r3.fst 1, r3.fst 2, r4.fst 0, r4.fst 1, r4.fst 2, r5.fst 0, r5.fst 1, r5.fst 2, r6.fst 0, r6.fst 1, r6.fst 2, r7.fst 0, r7.fst 1, r7.fst 2], 0))))))))))
theorem fg12 (a : Nat → Int) : g12 a = f12 a := by kernel_rfl
theorem ev12 (a : (cOne (cA .i64 23)).T) : evF (R := (rTup (cCons (cA .i64 22) (cOne (cI .i64)))).T) (cx [(14, conF (cOne (cA .i64 23)) (rOne (cI .i64)) (fun a => f14 a)), (29, conF (cCons (cI .i64) (cOne (cA .i64 3))) (rTup (cCons (cA .i64 3) (cOne (cI .i64)))) (fun a => f29 a.1 a.2))]) 1000 Tryd.f12 ((cOne (cA .i64 23)).enc a) (glMem gl) gG (rTup (cCons (cA .i64 22) (cOne (cI .i64)))).dec = f12 a := (show evF (R := (rTup (cCons (cA .i64 22) (cOne (cI .i64)))).T) (cx [(14, conF (cOne (cA .i64 23)) (rOne (cI .i64)) (fun a => f14 a)), (29, conF (cCons (cI .i64) (cOne (cA .i64 3))) (rTup (cCons (cA .i64 3) (cOne (cI .i64)))) (fun a => f29 a.1 a.2))]) 1000 Tryd.f12 ((cOne (cA .i64 23)).enc a) (glMem gl) gG (rTup (cCons (cA .i64 22) (cOne (cI .i64)))).dec = g12 a from evg12 f14 f29 a).trans (fg12 a)
theorem sp12 : VE.Spec Tryd.prog gG gl 12 (conF (cOne (cA .i64 23)) (rTup (cCons (cA .i64 22) (cOne (cI .i64)))) (fun a => f12 a)) := spec_of ok12 Tryd.func12 Tryd.call12 1000 (cOne_ok (cA_ok _ _)) (rTup_ok (cCons_ok (cA_ok _ _) (cOne_ok (cI_ok _)))) ev12
noncomputable abbrev con12 : List (Nat × (List AV → Option ConR)) := [(14, conF (cOne (cA .i64 23)) (rOne (cI .i64)) (fun a => f14 a)), (29, conF (cCons (cI .i64) (cOne (cA .i64 3))) (rTup (cCons (cA .i64 3) (cOne (cI .i64)))) (fun a => f29 a.1 a.2))]

/-- aim.upright -/
noncomputable def f59 (a : Nat → Int) : Option (Bool) :=
 cond (decide (a 1 = 64)) (
 some (true)) (
 some (decide (a 1 = -64)))
theorem evg59  (xx : (cOne (cA .i64 3)).T) : evF (R := (rOne (cB)).T) (cx []) 1000 Tryd.f59 ((cOne (cA .i64 3)).enc xx) (glMem gl) gG (rOne (cB)).dec =
 (fun (a : Nat → Int) =>
 (( cond (decide (a 1 = 64)) (
 some (true)) (
 some (decide (a 1 = -64)))) : Option (Bool))) xx := by kernel_rfl
theorem ok59 : CtxOK Tryd.prog (cx []) gl := ctx_of tyOk moOk (show SpecL Tryd.prog gG gl [] from trivial) fnOk joinOk
theorem ev59 (a : (cOne (cA .i64 3)).T) : evF (R := (rOne (cB)).T) (cx []) 1000 Tryd.f59 ((cOne (cA .i64 3)).enc a) (glMem gl) gG (rOne (cB)).dec = f59 a := evg59  a
theorem sp59 : VE.Spec Tryd.prog gG gl 59 (conF (cOne (cA .i64 3)) (rOne (cB)) (fun a => f59 a)) := spec_of ok59 Tryd.func59 Tryd.call59 1000 (cOne_ok (cA_ok _ _)) (rOne_ok (cB_ok)) ev59
noncomputable abbrev con59 : List (Nat × (List AV → Option ConR)) := []

/-- aim.Check -/
noncomputable def f38 (a : Int) (b : Nat → Int) : Option (Int) :=
 Option.bind (f53 a) (fun r2 =>
 cond (!r2) (
 some (9)) (
 cond (decide (b 0 < 0)) (
 some (1)) (
 cond (decide (255 < b 0)) (
 some (1)) (
 cond (decide (b 1 < -64)) (
 some (1)) (
 cond (decide (64 < b 1)) (
 some (1)) (
 cond (decide (b 2 < 0)) (
 some (1)) (
 cond (decide (6 < b 2)) (
 some (1)) (
 Option.bind (f59 b) (fun r3 =>
 cond (r3) (
 cond (!decide (b 0 = 0)) (
 some (2)) (
 some (0))) (
 some (0)))))))))))
theorem evg38 (f53 : (Int) → Option (Bool)) (f59 : (Nat → Int) → Option (Bool)) (xx : (cCons (cI .i64) (cOne (cA .i64 3))).T) : evF (R := (rOne (cI .i64)).T) (cx [(53, conF (cOne (cI .i64)) (rOne (cB)) (fun a => f53 a)), (59, conF (cOne (cA .i64 3)) (rOne (cB)) (fun a => f59 a))]) 1000 Tryd.f38 ((cCons (cI .i64) (cOne (cA .i64 3))).enc xx) (glMem gl) gG (rOne (cI .i64)).dec =
 (fun (a : Int) (b : Nat → Int) =>
 (( Option.bind (f53 a) (fun r2 =>
 cond (!r2) (
 some (9)) (
 cond (decide (b 0 < 0)) (
 some (1)) (
 cond (decide (255 < b 0)) (
 some (1)) (
 cond (decide (b 1 < -64)) (
 some (1)) (
 cond (decide (64 < b 1)) (
 some (1)) (
 cond (decide (b 2 < 0)) (
 some (1)) (
 cond (decide (6 < b 2)) (
 some (1)) (
 Option.bind (f59 (nthI [b 0, b 1, b 2])) (fun r3 =>
 cond (r3) (
 cond (!decide (b 0 = 0)) (
 some (2)) (
 some (0))) (
 some (0)))))))))))) : Option (Int))) xx.1 xx.2 := by kernel_rfl
theorem ok38 : CtxOK Tryd.prog (cx [(53, conF (cOne (cI .i64)) (rOne (cB)) (fun a => f53 a)), (59, conF (cOne (cA .i64 3)) (rOne (cB)) (fun a => f59 a))]) gl := ctx_of tyOk moOk (show SpecL Tryd.prog gG gl [(53, conF (cOne (cI .i64)) (rOne (cB)) (fun a => f53 a)), (59, conF (cOne (cA .i64 3)) (rOne (cB)) (fun a => f59 a))] from ⟨sp53, sp59, trivial⟩) fnOk joinOk
noncomputable def g38 (a : Int) (b : Nat → Int) : Option (Int) :=
 Option.bind (f53 a) (fun r2 =>
 cond (!r2) (
 some (9)) (
 cond (decide (b 0 < 0)) (
 some (1)) (
 cond (decide (255 < b 0)) (
 some (1)) (
 cond (decide (b 1 < -64)) (
 some (1)) (
 cond (decide (64 < b 1)) (
 some (1)) (
 cond (decide (b 2 < 0)) (
 some (1)) (
 cond (decide (6 < b 2)) (
 some (1)) (
 Option.bind (f59 (nthI [b 0, b 1, b 2])) (fun r3 =>
 cond (r3) (
 cond (!decide (b 0 = 0)) (
 some (2)) (
 some (0))) (
 some (0)))))))))))
theorem fg38 (a : Int) (b : Nat → Int) : g38 a b = f38 a b := by kernel_rfl
theorem ev38 (a : (cCons (cI .i64) (cOne (cA .i64 3))).T) : evF (R := (rOne (cI .i64)).T) (cx [(53, conF (cOne (cI .i64)) (rOne (cB)) (fun a => f53 a)), (59, conF (cOne (cA .i64 3)) (rOne (cB)) (fun a => f59 a))]) 1000 Tryd.f38 ((cCons (cI .i64) (cOne (cA .i64 3))).enc a) (glMem gl) gG (rOne (cI .i64)).dec = f38 a.1 a.2 := (show evF (R := (rOne (cI .i64)).T) (cx [(53, conF (cOne (cI .i64)) (rOne (cB)) (fun a => f53 a)), (59, conF (cOne (cA .i64 3)) (rOne (cB)) (fun a => f59 a))]) 1000 Tryd.f38 ((cCons (cI .i64) (cOne (cA .i64 3))).enc a) (glMem gl) gG (rOne (cI .i64)).dec = g38 a.1 a.2 from evg38 f53 f59 a).trans (fg38 a.1 a.2)
theorem sp38 : VE.Spec Tryd.prog gG gl 38 (conF (cCons (cI .i64) (cOne (cA .i64 3))) (rOne (cI .i64)) (fun a => f38 a.1 a.2)) := spec_of ok38 Tryd.func38 Tryd.call38 1000 (cCons_ok (cI_ok _) (cOne_ok (cA_ok _ _))) (rOne_ok (cI_ok _)) ev38
noncomputable abbrev con38 : List (Nat × (List AV → Option ConR)) := [(53, conF (cOne (cI .i64)) (rOne (cB)) (fun a => f53 a)), (59, conF (cOne (cA .i64 3)) (rOne (cB)) (fun a => f59 a))]

/-- posture.Valid -/
noncomputable def f18 (a : Nat → Int) : Option (Int) :=
 Option.bind (f30 a) (fun r1 =>
 cond (!r1) (
 some (1)) (
 cond (decide (a 2 < 0)) (
 some (1)) (
 cond (decide (255 < a 2)) (
 some (1)) (
 cond (decide (a 3 < -8)) (
 some (1)) (
 cond (decide (8 < a 3)) (
 some (1)) (
 Option.bind (f38 0 (nthI [a 4, a 5, a 6])) (fun r2 =>
 cond (!decide (r2 = 0)) (
 some (r2)) (
 Option.bind (f38 1 (nthI [a 7, a 8, a 9])) (fun r3 =>
 cond (!decide (r3 = 0)) (
 some (r3)) (
 Option.bind (f38 2 (nthI [a 10, a 11, a 12])) (fun r4 =>
 cond (!decide (r4 = 0)) (
 some (r4)) (
 Option.bind (f38 3 (nthI [a 13, a 14, a 15])) (fun r5 =>
 cond (!decide (r5 = 0)) (
 some (r5)) (
 Option.bind (f38 4 (nthI [a 16, a 17, a 18])) (fun r6 =>
 cond (!decide (r6 = 0)) (
 some (r6)) (
 Option.bind (f38 5 (nthI [a 19, a 20, a 21])) (fun r7 =>
 cond (!decide (r7 = 0)) (
 some (r7)) (
 some (0)))))))))))))))))))
theorem evg18 (f30 : (Nat → Int) → Option (Bool)) (f38 : (Int) → (Nat → Int) → Option (Int)) (xx : (cOne (cA .i64 22)).T) : evF (R := (rOne (cI .i64)).T) (cx [(30, conF (cOne (cA .i64 2)) (rOne (cB)) (fun a => f30 a)), (38, conF (cCons (cI .i64) (cOne (cA .i64 3))) (rOne (cI .i64)) (fun a => f38 a.1 a.2))]) 1000 Tryd.f18 ((cOne (cA .i64 22)).enc xx) (glMem gl) gG (rOne (cI .i64)).dec =
 (fun (a : Nat → Int) =>
 (( Option.bind (f30 (nthI [a 0, a 1])) (fun r1 =>
 cond (!r1) (
 some (1)) (
 cond (decide (a 2 < 0)) (
 some (1)) (
 cond (decide (255 < a 2)) (
 some (1)) (
 cond (decide (a 3 < -8)) (
 some (1)) (
 cond (decide (8 < a 3)) (
 some (1)) (
 Option.bind (f38 0 (nthI [a 4, a 5, a 6])) (fun r2 =>
 cond (!decide (r2 = 0)) (
 some (r2)) (
 Option.bind (f38 1 (nthI [a 7, a 8, a 9])) (fun r3 =>
 cond (!decide (r3 = 0)) (
 some (r3)) (
 Option.bind (f38 2 (nthI [a 10, a 11, a 12])) (fun r4 =>
 cond (!decide (r4 = 0)) (
 some (r4)) (
 Option.bind (f38 3 (nthI [a 13, a 14, a 15])) (fun r5 =>
 cond (!decide (r5 = 0)) (
 some (r5)) (
 Option.bind (f38 4 (nthI [a 16, a 17, a 18])) (fun r6 =>
 cond (!decide (r6 = 0)) (
 some (r6)) (
 Option.bind (f38 5 (nthI [a 19, a 20, a 21])) (fun r7 =>
 cond (!decide (r7 = 0)) (
 some (r7)) (
 some (0)))))))))))))))))))) : Option (Int))) xx := by kernel_rfl
theorem ok18 : CtxOK Tryd.prog (cx [(30, conF (cOne (cA .i64 2)) (rOne (cB)) (fun a => f30 a)), (38, conF (cCons (cI .i64) (cOne (cA .i64 3))) (rOne (cI .i64)) (fun a => f38 a.1 a.2))]) gl := ctx_of tyOk moOk (show SpecL Tryd.prog gG gl [(30, conF (cOne (cA .i64 2)) (rOne (cB)) (fun a => f30 a)), (38, conF (cCons (cI .i64) (cOne (cA .i64 3))) (rOne (cI .i64)) (fun a => f38 a.1 a.2))] from ⟨sp30, sp38, trivial⟩) fnOk joinOk
noncomputable def g18 (a : Nat → Int) : Option (Int) :=
 Option.bind (f30 (nthI [a 0, a 1])) (fun r1 =>
 cond (!r1) (
 some (1)) (
 cond (decide (a 2 < 0)) (
 some (1)) (
 cond (decide (255 < a 2)) (
 some (1)) (
 cond (decide (a 3 < -8)) (
 some (1)) (
 cond (decide (8 < a 3)) (
 some (1)) (
 Option.bind (f38 0 (nthI [a 4, a 5, a 6])) (fun r2 =>
 cond (!decide (r2 = 0)) (
 some (r2)) (
 Option.bind (f38 1 (nthI [a 7, a 8, a 9])) (fun r3 =>
 cond (!decide (r3 = 0)) (
 some (r3)) (
 Option.bind (f38 2 (nthI [a 10, a 11, a 12])) (fun r4 =>
 cond (!decide (r4 = 0)) (
 some (r4)) (
 Option.bind (f38 3 (nthI [a 13, a 14, a 15])) (fun r5 =>
 cond (!decide (r5 = 0)) (
 some (r5)) (
 Option.bind (f38 4 (nthI [a 16, a 17, a 18])) (fun r6 =>
 cond (!decide (r6 = 0)) (
 some (r6)) (
 Option.bind (f38 5 (nthI [a 19, a 20, a 21])) (fun r7 =>
 cond (!decide (r7 = 0)) (
 some (r7)) (
 some (0)))))))))))))))))))
theorem fg18 (a : Nat → Int) : g18 a = f18 a := by kernel_rfl
theorem ev18 (a : (cOne (cA .i64 22)).T) : evF (R := (rOne (cI .i64)).T) (cx [(30, conF (cOne (cA .i64 2)) (rOne (cB)) (fun a => f30 a)), (38, conF (cCons (cI .i64) (cOne (cA .i64 3))) (rOne (cI .i64)) (fun a => f38 a.1 a.2))]) 1000 Tryd.f18 ((cOne (cA .i64 22)).enc a) (glMem gl) gG (rOne (cI .i64)).dec = f18 a := (show evF (R := (rOne (cI .i64)).T) (cx [(30, conF (cOne (cA .i64 2)) (rOne (cB)) (fun a => f30 a)), (38, conF (cCons (cI .i64) (cOne (cA .i64 3))) (rOne (cI .i64)) (fun a => f38 a.1 a.2))]) 1000 Tryd.f18 ((cOne (cA .i64 22)).enc a) (glMem gl) gG (rOne (cI .i64)).dec = g18 a from evg18 f30 f38 a).trans (fg18 a)
theorem sp18 : VE.Spec Tryd.prog gG gl 18 (conF (cOne (cA .i64 22)) (rOne (cI .i64)) (fun a => f18 a)) := spec_of ok18 Tryd.func18 Tryd.call18 1000 (cOne_ok (cA_ok _ _)) (rOne_ok (cI_ok _)) ev18
noncomputable abbrev con18 : List (Nat × (List AV → Option ConR)) := [(30, conF (cOne (cA .i64 2)) (rOne (cB)) (fun a => f30 a)), (38, conF (cCons (cI .i64) (cOne (cA .i64 3))) (rOne (cI .i64)) (fun a => f38 a.1 a.2))]

/-- dir.Rotate -/
noncomputable def f60 (a : Int) (b : Int) : Option (Int × Int) :=
 Option.bind (f62 a) (fun r2 =>
 cond (!r2) (
 some ((0, 1))) (
 cond (decide (a = 0)) (
 some ((a, 0))) (
 some ((IntKind.i64.wrap ((IntKind.i64.wrap (IntKind.i64.wrap (IntKind.i64.wrap (a - 1) + b.tmod 8) + 8)).tmod 8 + 1), 0)))))
theorem evg60 (f62 : (Int) → Option (Bool)) (xx : (cCons (cI .i64) (cOne (cI .i64))).T) : evF (R := (rTup (cCons (cI .i64) (cOne (cI .i64)))).T) (cx [(62, conF (cOne (cI .i64)) (rOne (cB)) (fun a => f62 a))]) 1000 Tryd.f60 ((cCons (cI .i64) (cOne (cI .i64))).enc xx) (glMem gl) gG (rTup (cCons (cI .i64) (cOne (cI .i64)))).dec =
 (fun (a : Int) (b : Int) =>
 (( Option.bind (f62 a) (fun r2 =>
 cond (!r2) (
 some ((0, 1))) (
 cond (decide (a = 0)) (
 some ((a, 0))) (
 some ((IntKind.i64.wrap ((IntKind.i64.wrap (IntKind.i64.wrap (IntKind.i64.wrap (a - 1) + b.tmod 8) + 8)).tmod 8 + 1), 0)))))) : Option (Int × Int))) xx.1 xx.2 := by kernel_rfl
theorem ok60 : CtxOK Tryd.prog (cx [(62, conF (cOne (cI .i64)) (rOne (cB)) (fun a => f62 a))]) gl := ctx_of tyOk moOk (show SpecL Tryd.prog gG gl [(62, conF (cOne (cI .i64)) (rOne (cB)) (fun a => f62 a))] from ⟨sp62, trivial⟩) fnOk joinOk
theorem ev60 (a : (cCons (cI .i64) (cOne (cI .i64))).T) : evF (R := (rTup (cCons (cI .i64) (cOne (cI .i64)))).T) (cx [(62, conF (cOne (cI .i64)) (rOne (cB)) (fun a => f62 a))]) 1000 Tryd.f60 ((cCons (cI .i64) (cOne (cI .i64))).enc a) (glMem gl) gG (rTup (cCons (cI .i64) (cOne (cI .i64)))).dec = f60 a.1 a.2 := evg60 f62 a
theorem sp60 : VE.Spec Tryd.prog gG gl 60 (conF (cCons (cI .i64) (cOne (cI .i64))) (rTup (cCons (cI .i64) (cOne (cI .i64)))) (fun a => f60 a.1 a.2)) := spec_of ok60 Tryd.func60 Tryd.call60 1000 (cCons_ok (cI_ok _) (cOne_ok (cI_ok _))) (rTup_ok (cCons_ok (cI_ok _) (cOne_ok (cI_ok _)))) ev60
noncomputable abbrev con60 : List (Nat × (List AV → Option ConR)) := [(62, conF (cOne (cI .i64)) (rOne (cB)) (fun a => f62 a))]

/-- aim.Notate -/
noncomputable def f36 (a : Int) (b : Nat → Int) : Option ((Nat → Int) × Int) :=
 Option.bind (f38 a b) (fun r2 =>
 cond (!decide (r2 = 0)) (
 some ((nthI [0, 0, 0], r2))) (
 Option.bind (f59 b) (fun r3 =>
 cond (!r3) (
 Option.bind (f60 1 (IntKind.i64.wrap ((b 0).tdiv 32))) (fun r4 =>
 Option.bind (f28 a (nthI [r4.fst, IntKind.i64.wrap ((b 1).tdiv 32), b 2])) (fun r5 =>
 cond (!decide (r5.snd = 0)) (
 some ((nthI [0, 0, 0], 2))) (
 cond (!(decide (r5.fst 0 = b 0) && (decide (r5.fst 1 = b 1) && decide (r5.fst 2 = b 2)))) (
 some ((nthI [0, 0, 0], 2))) (
 some ((nthI [r4.fst, IntKind.i64.wrap ((b 1).tdiv 32), b 2], 0))))))) (
 Option.bind (f28 a (nthI [0, IntKind.i64.wrap ((b 1).tdiv 64), b 2])) (fun r4 =>
 cond (!decide (r4.snd = 0)) (
 some ((nthI [0, 0, 0], 2))) (
 cond (!(decide (r4.fst 0 = b 0) && (decide (r4.fst 1 = b 1) && decide (r4.fst 2 = b 2)))) (
 some ((nthI [0, 0, 0], 2))) (
 some ((nthI [0, IntKind.i64.wrap ((b 1).tdiv 64), b 2], 0)))))))))
theorem evg36 (f28 : (Int) → (Nat → Int) → Option ((Nat → Int) × Int)) (f38 : (Int) → (Nat → Int) → Option (Int)) (f59 : (Nat → Int) → Option (Bool)) (f60 : (Int) → (Int) → Option (Int × Int)) (xx : (cCons (cI .i64) (cOne (cA .i64 3))).T) : evF (R := (rTup (cCons (cA .i64 3) (cOne (cI .i64)))).T) (cx [(28, conF (cCons (cI .i64) (cOne (cA .i64 3))) (rTup (cCons (cA .i64 3) (cOne (cI .i64)))) (fun a => f28 a.1 a.2)), (38, conF (cCons (cI .i64) (cOne (cA .i64 3))) (rOne (cI .i64)) (fun a => f38 a.1 a.2)), (59, conF (cOne (cA .i64 3)) (rOne (cB)) (fun a => f59 a)), (60, conF (cCons (cI .i64) (cOne (cI .i64))) (rTup (cCons (cI .i64) (cOne (cI .i64)))) (fun a => f60 a.1 a.2))]) 1000 Tryd.f36 ((cCons (cI .i64) (cOne (cA .i64 3))).enc xx) (glMem gl) gG (rTup (cCons (cA .i64 3) (cOne (cI .i64)))).dec =
 (fun (a : Int) (b : Nat → Int) =>
 (( Option.bind (f38 a (nthI [b 0, b 1, b 2])) (fun r2 =>
 cond (!decide (r2 = 0)) (
 some ((nthI [0, 0, 0], r2))) (
 Option.bind (f59 (nthI [b 0, b 1, b 2])) (fun r3 =>
 cond (!r3) (
 Option.bind (f60 1 (IntKind.i64.wrap ((b 0).tdiv 32))) (fun r4 =>
 Option.bind (f28 a (nthI [r4.fst, IntKind.i64.wrap ((b 1).tdiv 32), b 2])) (fun r5 =>
 cond (!decide (r5.snd = 0)) (
 some ((nthI [0, 0, 0], 2))) (
 cond (!(decide (r5.fst 0 = b 0) && (decide (r5.fst 1 = b 1) && decide (r5.fst 2 = b 2)))) (
 some ((nthI [0, 0, 0], 2))) (
 some ((nthI [r4.fst, IntKind.i64.wrap ((b 1).tdiv 32), b 2], 0))))))) (
 Option.bind (f28 a (nthI [0, IntKind.i64.wrap ((b 1).tdiv 64), b 2])) (fun r4 =>
 cond (!decide (r4.snd = 0)) (
 some ((nthI [0, 0, 0], 2))) (
 cond (!(decide (r4.fst 0 = b 0) && (decide (r4.fst 1 = b 1) && decide (r4.fst 2 = b 2)))) (
 some ((nthI [0, 0, 0], 2))) (
 some ((nthI [0, IntKind.i64.wrap ((b 1).tdiv 64), b 2], 0)))))))))) : Option ((Nat → Int) × Int))) xx.1 xx.2 := by kernel_rfl
theorem ok36 : CtxOK Tryd.prog (cx [(28, conF (cCons (cI .i64) (cOne (cA .i64 3))) (rTup (cCons (cA .i64 3) (cOne (cI .i64)))) (fun a => f28 a.1 a.2)), (38, conF (cCons (cI .i64) (cOne (cA .i64 3))) (rOne (cI .i64)) (fun a => f38 a.1 a.2)), (59, conF (cOne (cA .i64 3)) (rOne (cB)) (fun a => f59 a)), (60, conF (cCons (cI .i64) (cOne (cI .i64))) (rTup (cCons (cI .i64) (cOne (cI .i64)))) (fun a => f60 a.1 a.2))]) gl := ctx_of tyOk moOk (show SpecL Tryd.prog gG gl [(28, conF (cCons (cI .i64) (cOne (cA .i64 3))) (rTup (cCons (cA .i64 3) (cOne (cI .i64)))) (fun a => f28 a.1 a.2)), (38, conF (cCons (cI .i64) (cOne (cA .i64 3))) (rOne (cI .i64)) (fun a => f38 a.1 a.2)), (59, conF (cOne (cA .i64 3)) (rOne (cB)) (fun a => f59 a)), (60, conF (cCons (cI .i64) (cOne (cI .i64))) (rTup (cCons (cI .i64) (cOne (cI .i64)))) (fun a => f60 a.1 a.2))] from ⟨sp28, sp38, sp59, sp60, trivial⟩) fnOk joinOk
noncomputable def g36 (a : Int) (b : Nat → Int) : Option ((Nat → Int) × Int) :=
 Option.bind (f38 a (nthI [b 0, b 1, b 2])) (fun r2 =>
 cond (!decide (r2 = 0)) (
 some ((nthI [0, 0, 0], r2))) (
 Option.bind (f59 (nthI [b 0, b 1, b 2])) (fun r3 =>
 cond (!r3) (
 Option.bind (f60 1 (IntKind.i64.wrap ((b 0).tdiv 32))) (fun r4 =>
 Option.bind (f28 a (nthI [r4.fst, IntKind.i64.wrap ((b 1).tdiv 32), b 2])) (fun r5 =>
 cond (!decide (r5.snd = 0)) (
 some ((nthI [0, 0, 0], 2))) (
 cond (!(decide (r5.fst 0 = b 0) && (decide (r5.fst 1 = b 1) && decide (r5.fst 2 = b 2)))) (
 some ((nthI [0, 0, 0], 2))) (
 some ((nthI [r4.fst, IntKind.i64.wrap ((b 1).tdiv 32), b 2], 0))))))) (
 Option.bind (f28 a (nthI [0, IntKind.i64.wrap ((b 1).tdiv 64), b 2])) (fun r4 =>
 cond (!decide (r4.snd = 0)) (
 some ((nthI [0, 0, 0], 2))) (
 cond (!(decide (r4.fst 0 = b 0) && (decide (r4.fst 1 = b 1) && decide (r4.fst 2 = b 2)))) (
 some ((nthI [0, 0, 0], 2))) (
 some ((nthI [0, IntKind.i64.wrap ((b 1).tdiv 64), b 2], 0)))))))))
theorem fg36 (a : Int) (b : Nat → Int) : g36 a b = f36 a b := by kernel_rfl
theorem ev36 (a : (cCons (cI .i64) (cOne (cA .i64 3))).T) : evF (R := (rTup (cCons (cA .i64 3) (cOne (cI .i64)))).T) (cx [(28, conF (cCons (cI .i64) (cOne (cA .i64 3))) (rTup (cCons (cA .i64 3) (cOne (cI .i64)))) (fun a => f28 a.1 a.2)), (38, conF (cCons (cI .i64) (cOne (cA .i64 3))) (rOne (cI .i64)) (fun a => f38 a.1 a.2)), (59, conF (cOne (cA .i64 3)) (rOne (cB)) (fun a => f59 a)), (60, conF (cCons (cI .i64) (cOne (cI .i64))) (rTup (cCons (cI .i64) (cOne (cI .i64)))) (fun a => f60 a.1 a.2))]) 1000 Tryd.f36 ((cCons (cI .i64) (cOne (cA .i64 3))).enc a) (glMem gl) gG (rTup (cCons (cA .i64 3) (cOne (cI .i64)))).dec = f36 a.1 a.2 := (show evF (R := (rTup (cCons (cA .i64 3) (cOne (cI .i64)))).T) (cx [(28, conF (cCons (cI .i64) (cOne (cA .i64 3))) (rTup (cCons (cA .i64 3) (cOne (cI .i64)))) (fun a => f28 a.1 a.2)), (38, conF (cCons (cI .i64) (cOne (cA .i64 3))) (rOne (cI .i64)) (fun a => f38 a.1 a.2)), (59, conF (cOne (cA .i64 3)) (rOne (cB)) (fun a => f59 a)), (60, conF (cCons (cI .i64) (cOne (cI .i64))) (rTup (cCons (cI .i64) (cOne (cI .i64)))) (fun a => f60 a.1 a.2))]) 1000 Tryd.f36 ((cCons (cI .i64) (cOne (cA .i64 3))).enc a) (glMem gl) gG (rTup (cCons (cA .i64 3) (cOne (cI .i64)))).dec = g36 a.1 a.2 from evg36 f28 f38 f59 f60 a).trans (fg36 a.1 a.2)
theorem sp36 : VE.Spec Tryd.prog gG gl 36 (conF (cCons (cI .i64) (cOne (cA .i64 3))) (rTup (cCons (cA .i64 3) (cOne (cI .i64)))) (fun a => f36 a.1 a.2)) := spec_of ok36 Tryd.func36 Tryd.call36 1000 (cCons_ok (cI_ok _) (cOne_ok (cA_ok _ _))) (rTup_ok (cCons_ok (cA_ok _ _) (cOne_ok (cI_ok _)))) ev36
noncomputable abbrev con36 : List (Nat × (List AV → Option ConR)) := [(28, conF (cCons (cI .i64) (cOne (cA .i64 3))) (rTup (cCons (cA .i64 3) (cOne (cI .i64)))) (fun a => f28 a.1 a.2)), (38, conF (cCons (cI .i64) (cOne (cA .i64 3))) (rOne (cI .i64)) (fun a => f38 a.1 a.2)), (59, conF (cOne (cA .i64 3)) (rOne (cB)) (fun a => f59 a)), (60, conF (cCons (cI .i64) (cOne (cI .i64))) (rTup (cCons (cI .i64) (cOne (cI .i64)))) (fun a => f60 a.1 a.2))]

/-- posture.Notate -/
noncomputable def f16 (a : Nat → Int) (b : Int) : Option ((Nat → Int) × Int) :=
 Option.bind (f18 a) (fun r2 =>
 cond (!decide (r2 = 0)) (
 some ((nthI tab1, r2))) (
 cond (!decide ((a 2).tmod 32 = 0)) (
 some ((nthI tab1, 2))) (
 cond (!decide ((a 3).tmod 8 = 0)) (
 some ((nthI tab1, 2))) (
 Option.bind (f36 0 (nthI [a 4, a 5, a 6])) (fun r3 =>
 cond (!decide (r3.snd = 0)) (
 some ((nthI tab1, r3.snd))) (
 Option.bind (f36 1 (nthI [a 7, a 8, a 9])) (fun r4 =>
 cond (!decide (r4.snd = 0)) (
 some ((nthI tab1, r4.snd))) (
 Option.bind (f36 2 (nthI [a 10, a 11, a 12])) (fun r5 =>
 cond (!decide (r5.snd = 0)) (
 some ((nthI tab1, r5.snd))) (
 Option.bind (f36 3 (nthI [a 13, a 14, a 15])) (fun r6 =>
 cond (!decide (r6.snd = 0)) (
 some ((nthI tab1, r6.snd))) (
 Option.bind (f36 4 (nthI [a 16, a 17, a 18])) (fun r7 =>
 cond (!decide (r7.snd = 0)) (
 some ((nthI tab1, r7.snd))) (
 Option.bind (f36 5 (nthI [a 19, a 20, a 21])) (fun r8 =>
 cond (!decide (r8.snd = 0)) (
 some ((nthI tab1, r8.snd))) (
 Option.bind (f13 (nthI [a 0, a 1, IntKind.i64.wrap ((a 2).tdiv 32), IntKind.i64.wrap ((a 3).tdiv 8), b, r3.fst 0, r3.fst 1, r3.fst 2, r4.fst 0, r4.fst 1, r4.fst 2, r5.fst 0, r5.fst 1, r5.fst 2, r6.fst 0, r6.fst 1, r6.fst 2, r7.fst 0, r7.fst 1, r7.fst 2, r8.fst 0, r8.fst 1, r8.fst 2])) (fun r9 =>
 cond (!decide (r9 = 0)) (
 some ((nthI tab1, r9))) (
 some ((nthI [a 0, a 1, IntKind.i64.wrap ((a 2).tdiv 32), IntKind.i64.wrap ((a 3).tdiv 8), b, r3.fst 0, r3.fst 1, r3.fst 2, r4.fst 0, r4.fst 1, r4.fst 2, r5.fst 0, r5.fst 1, r5.fst 2, r6.fst 0, r6.fst 1, r6.fst 2, r7.fst 0, r7.fst 1, r7.fst 2, r8.fst 0, r8.fst 1, r8.fst 2], 0))))))))))))))))))))
theorem evg16 (f13 : (Nat → Int) → Option (Int)) (f18 : (Nat → Int) → Option (Int)) (f36 : (Int) → (Nat → Int) → Option ((Nat → Int) × Int)) (xx : (cCons (cA .i64 22) (cOne (cI .i64))).T) : evF (R := (rTup (cCons (cA .i64 23) (cOne (cI .i64)))).T) (cx [(13, conF (cOne (cA .i64 23)) (rOne (cI .i64)) (fun a => f13 a)), (18, conF (cOne (cA .i64 22)) (rOne (cI .i64)) (fun a => f18 a)), (36, conF (cCons (cI .i64) (cOne (cA .i64 3))) (rTup (cCons (cA .i64 3) (cOne (cI .i64)))) (fun a => f36 a.1 a.2))]) 1000 Tryd.f16 ((cCons (cA .i64 22) (cOne (cI .i64))).enc xx) (glMem gl) gG (rTup (cCons (cA .i64 23) (cOne (cI .i64)))).dec =
 (fun (a : Nat → Int) (b : Int) =>
 (( Option.bind (f18 (nthI [a 0, a 1, a 2, a 3, a 4, a 5, a 6, a 7, a 8, a 9, a 10, a 11, a 12, a 13, a 14, a 15, a 16, a 17, a 18, a 19, a 20, a 21])) (fun r2 =>
 cond (!decide (r2 = 0)) (
 some ((nthI tab1, r2))) (
 cond (!decide ((a 2).tmod 32 = 0)) (
 some ((nthI tab1, 2))) (
 cond (!decide ((a 3).tmod 8 = 0)) (
 some ((nthI tab1, 2))) (
 Option.bind (f36 0 (nthI [a 4, a 5, a 6])) (fun r3 =>
 cond (!decide (r3.snd = 0)) (
 some ((nthI tab1, r3.snd))) (
 Option.bind (f36 1 (nthI [a 7, a 8, a 9])) (fun r4 =>
 cond (!decide (r4.snd = 0)) (
 some ((nthI tab1, r4.snd))) (
 Option.bind (f36 2 (nthI [a 10, a 11, a 12])) (fun r5 =>
 cond (!decide (r5.snd = 0)) (
 some ((nthI tab1, r5.snd))) (
 Option.bind (f36 3 (nthI [a 13, a 14, a 15])) (fun r6 =>
 cond (!decide (r6.snd = 0)) (
 some ((nthI tab1, r6.snd))) (
 Option.bind (f36 4 (nthI [a 16, a 17, a 18])) (fun r7 =>
 cond (!decide (r7.snd = 0)) (
 some ((nthI tab1, r7.snd))) (
 Option.bind (f36 5 (nthI [a 19, a 20, a 21])) (fun r8 =>
 cond (!decide (r8.snd = 0)) (
 some ((nthI tab1, r8.snd))) (
 Option.bind (f13 (nthI [a 0, a 1, IntKind.i64.wrap ((a 2).tdiv 32), IntKind.i64.wrap ((a 3).tdiv 8), b, r3.fst 0, r3.fst 1, r3.fst 2, r4.fst 0, r4.fst 1, r4.fst 2, r5.fst 0, r5.fst 1, r5.fst 2, r6.fst 0, r6.fst 1, r6.fst 2, r7.fst 0, r7.fst 1, r7.fst 2, r8.fst 0, r8.fst 1, r8.fst 2])) (fun r9 =>
 cond (!decide (r9 = 0)) (
 some ((nthI tab1, r9))) (
 some ((nthI [a 0, a 1, IntKind.i64.wrap ((a 2).tdiv 32), IntKind.i64.wrap ((a 3).tdiv 8), b, r3.fst 0, r3.fst 1, r3.fst 2, r4.fst 0, r4.fst 1, r4.fst 2, r5.fst 0, r5.fst 1, r5.fst 2, r6.fst 0, r6.fst 1, r6.fst 2, r7.fst 0, r7.fst 1, r7.fst 2, r8.fst 0, r8.fst 1, r8.fst 2], 0))))))))))))))))))))) : Option ((Nat → Int) × Int))) xx.1 xx.2 := by kernel_rfl
theorem ok16 : CtxOK Tryd.prog (cx [(13, conF (cOne (cA .i64 23)) (rOne (cI .i64)) (fun a => f13 a)), (18, conF (cOne (cA .i64 22)) (rOne (cI .i64)) (fun a => f18 a)), (36, conF (cCons (cI .i64) (cOne (cA .i64 3))) (rTup (cCons (cA .i64 3) (cOne (cI .i64)))) (fun a => f36 a.1 a.2))]) gl := ctx_of tyOk moOk (show SpecL Tryd.prog gG gl [(13, conF (cOne (cA .i64 23)) (rOne (cI .i64)) (fun a => f13 a)), (18, conF (cOne (cA .i64 22)) (rOne (cI .i64)) (fun a => f18 a)), (36, conF (cCons (cI .i64) (cOne (cA .i64 3))) (rTup (cCons (cA .i64 3) (cOne (cI .i64)))) (fun a => f36 a.1 a.2))] from ⟨sp13, sp18, sp36, trivial⟩) fnOk joinOk
noncomputable def g16 (a : Nat → Int) (b : Int) : Option ((Nat → Int) × Int) :=
 Option.bind (f18 (nthI [a 0, a 1, a 2, a 3, a 4, a 5, a 6, a 7, a 8, a 9, a 10, a 11, a 12, a 13, a 14, a 15, a 16, a 17, a 18, a 19, a 20, a 21])) (fun r2 =>
 cond (!decide (r2 = 0)) (
 some ((nthI tab1, r2))) (
 cond (!decide ((a 2).tmod 32 = 0)) (
 some ((nthI tab1, 2))) (
 cond (!decide ((a 3).tmod 8 = 0)) (
 some ((nthI tab1, 2))) (
 Option.bind (f36 0 (nthI [a 4, a 5, a 6])) (fun r3 =>
 cond (!decide (r3.snd = 0)) (
 some ((nthI tab1, r3.snd))) (
 Option.bind (f36 1 (nthI [a 7, a 8, a 9])) (fun r4 =>
 cond (!decide (r4.snd = 0)) (
 some ((nthI tab1, r4.snd))) (
 Option.bind (f36 2 (nthI [a 10, a 11, a 12])) (fun r5 =>
 cond (!decide (r5.snd = 0)) (
 some ((nthI tab1, r5.snd))) (
 Option.bind (f36 3 (nthI [a 13, a 14, a 15])) (fun r6 =>
 cond (!decide (r6.snd = 0)) (
 some ((nthI tab1, r6.snd))) (
 Option.bind (f36 4 (nthI [a 16, a 17, a 18])) (fun r7 =>
 cond (!decide (r7.snd = 0)) (
 some ((nthI tab1, r7.snd))) (
 Option.bind (f36 5 (nthI [a 19, a 20, a 21])) (fun r8 =>
 cond (!decide (r8.snd = 0)) (
 some ((nthI tab1, r8.snd))) (
 Option.bind (f13 (nthI [a 0, a 1, IntKind.i64.wrap ((a 2).tdiv 32), IntKind.i64.wrap ((a 3).tdiv 8), b, r3.fst 0, r3.fst 1, r3.fst 2, r4.fst 0, r4.fst 1, r4.fst 2, r5.fst 0, r5.fst 1, r5.fst 2, r6.fst 0, r6.fst 1, r6.fst 2, r7.fst 0, r7.fst 1, r7.fst 2, r8.fst 0, r8.fst 1, r8.fst 2])) (fun r9 =>
 cond (!decide (r9 = 0)) (
 some ((nthI tab1, r9))) (
 some ((nthI [a 0, a 1, IntKind.i64.wrap ((a 2).tdiv 32), IntKind.i64.wrap ((a 3).tdiv 8), b, r3.fst 0, r3.fst 1, r3.fst 2, r4.fst 0, r4.fst 1, r4.fst 2, r5.fst 0, r5.fst 1, r5.fst 2, r6.fst 0, r6.fst 1, r6.fst 2, r7.fst 0, r7.fst 1, r7.fst 2, r8.fst 0, r8.fst 1, r8.fst 2], 0))))))))))))))))))))
theorem fg16 (a : Nat → Int) (b : Int) : g16 a b = f16 a b := by kernel_rfl
theorem ev16 (a : (cCons (cA .i64 22) (cOne (cI .i64))).T) : evF (R := (rTup (cCons (cA .i64 23) (cOne (cI .i64)))).T) (cx [(13, conF (cOne (cA .i64 23)) (rOne (cI .i64)) (fun a => f13 a)), (18, conF (cOne (cA .i64 22)) (rOne (cI .i64)) (fun a => f18 a)), (36, conF (cCons (cI .i64) (cOne (cA .i64 3))) (rTup (cCons (cA .i64 3) (cOne (cI .i64)))) (fun a => f36 a.1 a.2))]) 1000 Tryd.f16 ((cCons (cA .i64 22) (cOne (cI .i64))).enc a) (glMem gl) gG (rTup (cCons (cA .i64 23) (cOne (cI .i64)))).dec = f16 a.1 a.2 := (show evF (R := (rTup (cCons (cA .i64 23) (cOne (cI .i64)))).T) (cx [(13, conF (cOne (cA .i64 23)) (rOne (cI .i64)) (fun a => f13 a)), (18, conF (cOne (cA .i64 22)) (rOne (cI .i64)) (fun a => f18 a)), (36, conF (cCons (cI .i64) (cOne (cA .i64 3))) (rTup (cCons (cA .i64 3) (cOne (cI .i64)))) (fun a => f36 a.1 a.2))]) 1000 Tryd.f16 ((cCons (cA .i64 22) (cOne (cI .i64))).enc a) (glMem gl) gG (rTup (cCons (cA .i64 23) (cOne (cI .i64)))).dec = g16 a.1 a.2 from evg16 f13 f18 f36 a).trans (fg16 a.1 a.2)
theorem sp16 : VE.Spec Tryd.prog gG gl 16 (conF (cCons (cA .i64 22) (cOne (cI .i64))) (rTup (cCons (cA .i64 23) (cOne (cI .i64)))) (fun a => f16 a.1 a.2)) := spec_of ok16 Tryd.func16 Tryd.call16 1000 (cCons_ok (cA_ok _ _) (cOne_ok (cI_ok _))) (rTup_ok (cCons_ok (cA_ok _ _) (cOne_ok (cI_ok _)))) ev16
noncomputable abbrev con16 : List (Nat × (List AV → Option ConR)) := [(13, conF (cOne (cA .i64 23)) (rOne (cI .i64)) (fun a => f13 a)), (18, conF (cOne (cA .i64 22)) (rOne (cI .i64)) (fun a => f18 a)), (36, conF (cCons (cI .i64) (cOne (cA .i64 3))) (rTup (cCons (cA .i64 3) (cOne (cI .i64)))) (fun a => f36 a.1 a.2))]

/-- posture.turned -/
noncomputable def f40 (a : Nat → Int) (b : Int) : Option ((Nat → Int) × Int) :=
 cond (decide (0 < (IntKind.i64.wrap (b.tmod 4 + 4)).tmod 4)) (
 cond (decide (1 < (IntKind.i64.wrap (b.tmod 4 + 4)).tmod 4)) (
 cond (decide (2 < (IntKind.i64.wrap (b.tmod 4 + 4)).tmod 4)) (
 cond (decide (3 < (IntKind.i64.wrap (b.tmod 4 + 4)).tmod 4)) (
 cond (decide (4 < (IntKind.i64.wrap (b.tmod 4 + 4)).tmod 4)) (
 cond (decide (5 < (IntKind.i64.wrap (b.tmod 4 + 4)).tmod 4)) (
 cond (decide (6 < (IntKind.i64.wrap (b.tmod 4 + 4)).tmod 4)) none (
 some ((nthI [IntKind.i64.wrap (0 - IntKind.i64.wrap (0 - IntKind.i64.wrap (0 - a 0))), IntKind.i64.wrap (0 - IntKind.i64.wrap (0 - IntKind.i64.wrap (0 - a 1)))], (IntKind.i64.wrap (b.tmod 4 + 4)).tmod 4)))) (
 some ((nthI [IntKind.i64.wrap (0 - IntKind.i64.wrap (0 - a 1)), IntKind.i64.wrap (0 - IntKind.i64.wrap (0 - IntKind.i64.wrap (0 - a 0)))], (IntKind.i64.wrap (b.tmod 4 + 4)).tmod 4)))) (
 some ((nthI [IntKind.i64.wrap (0 - IntKind.i64.wrap (0 - a 0)), IntKind.i64.wrap (0 - IntKind.i64.wrap (0 - a 1))], (IntKind.i64.wrap (b.tmod 4 + 4)).tmod 4)))) (
 some ((nthI [IntKind.i64.wrap (0 - a 1), IntKind.i64.wrap (0 - IntKind.i64.wrap (0 - a 0))], (IntKind.i64.wrap (b.tmod 4 + 4)).tmod 4)))) (
 some ((nthI [IntKind.i64.wrap (0 - a 0), IntKind.i64.wrap (0 - a 1)], (IntKind.i64.wrap (b.tmod 4 + 4)).tmod 4)))) (
 some ((nthI [a 1, IntKind.i64.wrap (0 - a 0)], (IntKind.i64.wrap (b.tmod 4 + 4)).tmod 4)))) (
 some ((nthI [a 0, a 1], (IntKind.i64.wrap (b.tmod 4 + 4)).tmod 4)))
theorem evg40  (xx : (cCons (cA .i64 2) (cOne (cI .i64))).T) : evF (R := (rTup (cCons (cA .i64 2) (cOne (cI .i64)))).T) (cx []) 16 Tryd.f40 ((cCons (cA .i64 2) (cOne (cI .i64))).enc xx) (glMem gl) gG (rTup (cCons (cA .i64 2) (cOne (cI .i64)))).dec =
 (fun (a : Nat → Int) (b : Int) =>
 (( cond (decide (0 < (IntKind.i64.wrap (b.tmod 4 + 4)).tmod 4)) (
 cond (decide (1 < (IntKind.i64.wrap (b.tmod 4 + 4)).tmod 4)) (
 cond (decide (2 < (IntKind.i64.wrap (b.tmod 4 + 4)).tmod 4)) (
 cond (decide (3 < (IntKind.i64.wrap (b.tmod 4 + 4)).tmod 4)) (
 cond (decide (4 < (IntKind.i64.wrap (b.tmod 4 + 4)).tmod 4)) (
 cond (decide (5 < (IntKind.i64.wrap (b.tmod 4 + 4)).tmod 4)) (
 cond (decide (6 < (IntKind.i64.wrap (b.tmod 4 + 4)).tmod 4)) none (
 some ((nthI [IntKind.i64.wrap (0 - IntKind.i64.wrap (0 - IntKind.i64.wrap (0 - a 0))), IntKind.i64.wrap (0 - IntKind.i64.wrap (0 - IntKind.i64.wrap (0 - a 1)))], (IntKind.i64.wrap (b.tmod 4 + 4)).tmod 4)))) (
 some ((nthI [IntKind.i64.wrap (0 - IntKind.i64.wrap (0 - a 1)), IntKind.i64.wrap (0 - IntKind.i64.wrap (0 - IntKind.i64.wrap (0 - a 0)))], (IntKind.i64.wrap (b.tmod 4 + 4)).tmod 4)))) (
 some ((nthI [IntKind.i64.wrap (0 - IntKind.i64.wrap (0 - a 0)), IntKind.i64.wrap (0 - IntKind.i64.wrap (0 - a 1))], (IntKind.i64.wrap (b.tmod 4 + 4)).tmod 4)))) (
 some ((nthI [IntKind.i64.wrap (0 - a 1), IntKind.i64.wrap (0 - IntKind.i64.wrap (0 - a 0))], (IntKind.i64.wrap (b.tmod 4 + 4)).tmod 4)))) (
 some ((nthI [IntKind.i64.wrap (0 - a 0), IntKind.i64.wrap (0 - a 1)], (IntKind.i64.wrap (b.tmod 4 + 4)).tmod 4)))) (
 some ((nthI [a 1, IntKind.i64.wrap (0 - a 0)], (IntKind.i64.wrap (b.tmod 4 + 4)).tmod 4)))) (
 some ((nthI [a 0, a 1], (IntKind.i64.wrap (b.tmod 4 + 4)).tmod 4)))) : Option ((Nat → Int) × Int))) xx.1 xx.2 := by kernel_rfl
theorem ok40 : CtxOK Tryd.prog (cx []) gl := ctx_of tyOk moOk (show SpecL Tryd.prog gG gl [] from trivial) fnOk joinOk
theorem ev40 (a : (cCons (cA .i64 2) (cOne (cI .i64))).T) : evF (R := (rTup (cCons (cA .i64 2) (cOne (cI .i64)))).T) (cx []) 16 Tryd.f40 ((cCons (cA .i64 2) (cOne (cI .i64))).enc a) (glMem gl) gG (rTup (cCons (cA .i64 2) (cOne (cI .i64)))).dec = f40 a.1 a.2 := evg40  a
theorem sp40 : VE.Spec Tryd.prog gG gl 40 (conF (cCons (cA .i64 2) (cOne (cI .i64))) (rTup (cCons (cA .i64 2) (cOne (cI .i64)))) (fun a => f40 a.1 a.2)) := spec_of ok40 Tryd.func40 Tryd.call40 16 (cCons_ok (cA_ok _ _) (cOne_ok (cI_ok _))) (rTup_ok (cCons_ok (cA_ok _ _) (cOne_ok (cI_ok _)))) ev40
noncomputable abbrev con40 : List (Nat × (List AV → Option ConR)) := []

/-- posture.Rotate -/
noncomputable def f20 (a : Nat → Int) (b : Int) : Option ((Nat → Int) × Int) :=
 Option.bind (f13 a) (fun r2 =>
 cond (!decide (r2 = 0)) (
 some ((nthI tab1, r2))) (
 Option.bind (f40 a b) (fun r3 =>
 some ((nthI [r3.fst 0, r3.fst 1, (IntKind.i64.wrap (a 2 + IntKind.i64.wrap (2 * r3.snd))).tmod 8, a 3, a 4, a 5, a 6, a 7, a 8, a 9, a 10, a 11, a 12, a 13, a 14, a 15, a 16, a 17, a 18, a 19, a 20, a 21, a 22], 0)))))
theorem evg20 (f13 : (Nat → Int) → Option (Int)) (f40 : (Nat → Int) → (Int) → Option ((Nat → Int) × Int)) (xx : (cCons (cA .i64 23) (cOne (cI .i64))).T) : evF (R := (rTup (cCons (cA .i64 23) (cOne (cI .i64)))).T) (cx [(13, conF (cOne (cA .i64 23)) (rOne (cI .i64)) (fun a => f13 a)), (40, conF (cCons (cA .i64 2) (cOne (cI .i64))) (rTup (cCons (cA .i64 2) (cOne (cI .i64)))) (fun a => f40 a.1 a.2))]) 1000 Tryd.f20 ((cCons (cA .i64 23) (cOne (cI .i64))).enc xx) (glMem gl) gG (rTup (cCons (cA .i64 23) (cOne (cI .i64)))).dec =
 (fun (a : Nat → Int) (b : Int) =>
 (( Option.bind (f13 (nthI [a 0, a 1, a 2, a 3, a 4, a 5, a 6, a 7, a 8, a 9, a 10, a 11, a 12, a 13, a 14, a 15, a 16, a 17, a 18, a 19, a 20, a 21, a 22])) (fun r2 =>
 cond (!decide (r2 = 0)) (
 some ((nthI tab1, r2))) (
 Option.bind (f40 (nthI [a 0, a 1]) b) (fun r3 =>
 some ((nthI [r3.fst 0, r3.fst 1, (IntKind.i64.wrap (a 2 + IntKind.i64.wrap (2 * r3.snd))).tmod 8, a 3, a 4, a 5, a 6, a 7, a 8, a 9, a 10, a 11, a 12, a 13, a 14, a 15, a 16, a 17, a 18, a 19, a 20, a 21, a 22], 0)))))) : Option ((Nat → Int) × Int))) xx.1 xx.2 := by kernel_rfl
theorem ok20 : CtxOK Tryd.prog (cx [(13, conF (cOne (cA .i64 23)) (rOne (cI .i64)) (fun a => f13 a)), (40, conF (cCons (cA .i64 2) (cOne (cI .i64))) (rTup (cCons (cA .i64 2) (cOne (cI .i64)))) (fun a => f40 a.1 a.2))]) gl := ctx_of tyOk moOk (show SpecL Tryd.prog gG gl [(13, conF (cOne (cA .i64 23)) (rOne (cI .i64)) (fun a => f13 a)), (40, conF (cCons (cA .i64 2) (cOne (cI .i64))) (rTup (cCons (cA .i64 2) (cOne (cI .i64)))) (fun a => f40 a.1 a.2))] from ⟨sp13, sp40, trivial⟩) fnOk joinOk
noncomputable def g20 (a : Nat → Int) (b : Int) : Option ((Nat → Int) × Int) :=
 Option.bind (f13 (nthI [a 0, a 1, a 2, a 3, a 4, a 5, a 6, a 7, a 8, a 9, a 10, a 11, a 12, a 13, a 14, a 15, a 16, a 17, a 18, a 19, a 20, a 21, a 22])) (fun r2 =>
 cond (!decide (r2 = 0)) (
 some ((nthI tab1, r2))) (
 Option.bind (f40 (nthI [a 0, a 1]) b) (fun r3 =>
 some ((nthI [r3.fst 0, r3.fst 1, (IntKind.i64.wrap (a 2 + IntKind.i64.wrap (2 * r3.snd))).tmod 8, a 3, a 4, a 5, a 6, a 7, a 8, a 9, a 10, a 11, a 12, a 13, a 14, a 15, a 16, a 17, a 18, a 19, a 20, a 21, a 22], 0)))))
theorem fg20 (a : Nat → Int) (b : Int) : g20 a b = f20 a b := by kernel_rfl
theorem ev20 (a : (cCons (cA .i64 23) (cOne (cI .i64))).T) : evF (R := (rTup (cCons (cA .i64 23) (cOne (cI .i64)))).T) (cx [(13, conF (cOne (cA .i64 23)) (rOne (cI .i64)) (fun a => f13 a)), (40, conF (cCons (cA .i64 2) (cOne (cI .i64))) (rTup (cCons (cA .i64 2) (cOne (cI .i64)))) (fun a => f40 a.1 a.2))]) 1000 Tryd.f20 ((cCons (cA .i64 23) (cOne (cI .i64))).enc a) (glMem gl) gG (rTup (cCons (cA .i64 23) (cOne (cI .i64)))).dec = f20 a.1 a.2 := (show evF (R := (rTup (cCons (cA .i64 23) (cOne (cI .i64)))).T) (cx [(13, conF (cOne (cA .i64 23)) (rOne (cI .i64)) (fun a => f13 a)), (40, conF (cCons (cA .i64 2) (cOne (cI .i64))) (rTup (cCons (cA .i64 2) (cOne (cI .i64)))) (fun a => f40 a.1 a.2))]) 1000 Tryd.f20 ((cCons (cA .i64 23) (cOne (cI .i64))).enc a) (glMem gl) gG (rTup (cCons (cA .i64 23) (cOne (cI .i64)))).dec = g20 a.1 a.2 from evg20 f13 f40 a).trans (fg20 a.1 a.2)
theorem sp20 : VE.Spec Tryd.prog gG gl 20 (conF (cCons (cA .i64 23) (cOne (cI .i64))) (rTup (cCons (cA .i64 23) (cOne (cI .i64)))) (fun a => f20 a.1 a.2)) := spec_of ok20 Tryd.func20 Tryd.call20 1000 (cCons_ok (cA_ok _ _) (cOne_ok (cI_ok _))) (rTup_ok (cCons_ok (cA_ok _ _) (cOne_ok (cI_ok _)))) ev20
noncomputable abbrev con20 : List (Nat × (List AV → Option ConR)) := [(13, conF (cOne (cA .i64 23)) (rOne (cI .i64)) (fun a => f13 a)), (40, conF (cCons (cA .i64 2) (cOne (cI .i64))) (rTup (cCons (cA .i64 2) (cOne (cI .i64)))) (fun a => f40 a.1 a.2))]

/-- posture.RotatePose -/
noncomputable def f22 (a : Nat → Int) (b : Int) : Option ((Nat → Int) × Int) :=
 Option.bind (f18 a) (fun r2 =>
 cond (!decide (r2 = 0)) (
 some ((nthI tab0, r2))) (
 Option.bind (f40 a b) (fun r3 =>
 some ((nthI [r3.fst 0, r3.fst 1, (IntKind.i64.wrap (a 2 + IntKind.i64.wrap (64 * r3.snd))).tmod 256, a 3, a 4, a 5, a 6, a 7, a 8, a 9, a 10, a 11, a 12, a 13, a 14, a 15, a 16, a 17, a 18, a 19, a 20, a 21], 0)))))
theorem evg22 (f18 : (Nat → Int) → Option (Int)) (f40 : (Nat → Int) → (Int) → Option ((Nat → Int) × Int)) (xx : (cCons (cA .i64 22) (cOne (cI .i64))).T) : evF (R := (rTup (cCons (cA .i64 22) (cOne (cI .i64)))).T) (cx [(18, conF (cOne (cA .i64 22)) (rOne (cI .i64)) (fun a => f18 a)), (40, conF (cCons (cA .i64 2) (cOne (cI .i64))) (rTup (cCons (cA .i64 2) (cOne (cI .i64)))) (fun a => f40 a.1 a.2))]) 1000 Tryd.f22 ((cCons (cA .i64 22) (cOne (cI .i64))).enc xx) (glMem gl) gG (rTup (cCons (cA .i64 22) (cOne (cI .i64)))).dec =
 (fun (a : Nat → Int) (b : Int) =>
 (( Option.bind (f18 (nthI [a 0, a 1, a 2, a 3, a 4, a 5, a 6, a 7, a 8, a 9, a 10, a 11, a 12, a 13, a 14, a 15, a 16, a 17, a 18, a 19, a 20, a 21])) (fun r2 =>
 cond (!decide (r2 = 0)) (
 some ((nthI tab0, r2))) (
 Option.bind (f40 (nthI [a 0, a 1]) b) (fun r3 =>
 some ((nthI [r3.fst 0, r3.fst 1, (IntKind.i64.wrap (a 2 + IntKind.i64.wrap (64 * r3.snd))).tmod 256, a 3, a 4, a 5, a 6, a 7, a 8, a 9, a 10, a 11, a 12, a 13, a 14, a 15, a 16, a 17, a 18, a 19, a 20, a 21], 0)))))) : Option ((Nat → Int) × Int))) xx.1 xx.2 := by kernel_rfl
theorem ok22 : CtxOK Tryd.prog (cx [(18, conF (cOne (cA .i64 22)) (rOne (cI .i64)) (fun a => f18 a)), (40, conF (cCons (cA .i64 2) (cOne (cI .i64))) (rTup (cCons (cA .i64 2) (cOne (cI .i64)))) (fun a => f40 a.1 a.2))]) gl := ctx_of tyOk moOk (show SpecL Tryd.prog gG gl [(18, conF (cOne (cA .i64 22)) (rOne (cI .i64)) (fun a => f18 a)), (40, conF (cCons (cA .i64 2) (cOne (cI .i64))) (rTup (cCons (cA .i64 2) (cOne (cI .i64)))) (fun a => f40 a.1 a.2))] from ⟨sp18, sp40, trivial⟩) fnOk joinOk
noncomputable def g22 (a : Nat → Int) (b : Int) : Option ((Nat → Int) × Int) :=
 Option.bind (f18 (nthI [a 0, a 1, a 2, a 3, a 4, a 5, a 6, a 7, a 8, a 9, a 10, a 11, a 12, a 13, a 14, a 15, a 16, a 17, a 18, a 19, a 20, a 21])) (fun r2 =>
 cond (!decide (r2 = 0)) (
 some ((nthI tab0, r2))) (
 Option.bind (f40 (nthI [a 0, a 1]) b) (fun r3 =>
 some ((nthI [r3.fst 0, r3.fst 1, (IntKind.i64.wrap (a 2 + IntKind.i64.wrap (64 * r3.snd))).tmod 256, a 3, a 4, a 5, a 6, a 7, a 8, a 9, a 10, a 11, a 12, a 13, a 14, a 15, a 16, a 17, a 18, a 19, a 20, a 21], 0)))))
theorem fg22 (a : Nat → Int) (b : Int) : g22 a b = f22 a b := by kernel_rfl
theorem ev22 (a : (cCons (cA .i64 22) (cOne (cI .i64))).T) : evF (R := (rTup (cCons (cA .i64 22) (cOne (cI .i64)))).T) (cx [(18, conF (cOne (cA .i64 22)) (rOne (cI .i64)) (fun a => f18 a)), (40, conF (cCons (cA .i64 2) (cOne (cI .i64))) (rTup (cCons (cA .i64 2) (cOne (cI .i64)))) (fun a => f40 a.1 a.2))]) 1000 Tryd.f22 ((cCons (cA .i64 22) (cOne (cI .i64))).enc a) (glMem gl) gG (rTup (cCons (cA .i64 22) (cOne (cI .i64)))).dec = f22 a.1 a.2 := (show evF (R := (rTup (cCons (cA .i64 22) (cOne (cI .i64)))).T) (cx [(18, conF (cOne (cA .i64 22)) (rOne (cI .i64)) (fun a => f18 a)), (40, conF (cCons (cA .i64 2) (cOne (cI .i64))) (rTup (cCons (cA .i64 2) (cOne (cI .i64)))) (fun a => f40 a.1 a.2))]) 1000 Tryd.f22 ((cCons (cA .i64 22) (cOne (cI .i64))).enc a) (glMem gl) gG (rTup (cCons (cA .i64 22) (cOne (cI .i64)))).dec = g22 a.1 a.2 from evg22 f18 f40 a).trans (fg22 a.1 a.2)
theorem sp22 : VE.Spec Tryd.prog gG gl 22 (conF (cCons (cA .i64 22) (cOne (cI .i64))) (rTup (cCons (cA .i64 22) (cOne (cI .i64)))) (fun a => f22 a.1 a.2)) := spec_of ok22 Tryd.func22 Tryd.call22 1000 (cCons_ok (cA_ok _ _) (cOne_ok (cI_ok _))) (rTup_ok (cCons_ok (cA_ok _ _) (cOne_ok (cI_ok _)))) ev22
noncomputable abbrev con22 : List (Nat × (List AV → Option ConR)) := [(18, conF (cOne (cA .i64 22)) (rOne (cI .i64)) (fun a => f18 a)), (40, conF (cCons (cA .i64 2) (cOne (cI .i64))) (rTup (cCons (cA .i64 2) (cOne (cI .i64)))) (fun a => f40 a.1 a.2))]

/-- posture.exchanged -/
noncomputable def f43 (a : Int) : Option (Int) :=
 some (bitsI BinOp.or IntKind.i64 (shrI IntKind.i64 a 1) (shlI IntKind.i64 (bitsI BinOp.and IntKind.i64 a 1) 1))
theorem evg43  (xx : (cOne (cI .i64)).T) : evF (R := (rOne (cI .i64)).T) (cx []) 1000 Tryd.f43 ((cOne (cI .i64)).enc xx) (glMem gl) gG (rOne (cI .i64)).dec =
 (fun (a : Int) =>
 (( some (bitsI BinOp.or IntKind.i64 (shrI IntKind.i64 a 1) (shlI IntKind.i64 (bitsI BinOp.and IntKind.i64 a 1) 1))) : Option (Int))) xx := by kernel_rfl
theorem ok43 : CtxOK Tryd.prog (cx []) gl := ctx_of tyOk moOk (show SpecL Tryd.prog gG gl [] from trivial) fnOk joinOk
theorem ev43 (a : (cOne (cI .i64)).T) : evF (R := (rOne (cI .i64)).T) (cx []) 1000 Tryd.f43 ((cOne (cI .i64)).enc a) (glMem gl) gG (rOne (cI .i64)).dec = f43 a := evg43  a
theorem sp43 : VE.Spec Tryd.prog gG gl 43 (conF (cOne (cI .i64)) (rOne (cI .i64)) (fun a => f43 a)) := spec_of ok43 Tryd.func43 Tryd.call43 1000 (cOne_ok (cI_ok _)) (rOne_ok (cI_ok _)) ev43
noncomputable abbrev con43 : List (Nat × (List AV → Option ConR)) := []

/-- aim.Swap -/
noncomputable def f44 (a : Int) : Option (Int × Int) :=
 cond (decide (a = 0)) (
 some ((1, 0))) (
 cond (decide (a = 1)) (
 some ((0, 0))) (
 cond (decide (a = 3)) (
 some ((4, 0))) (
 cond (decide (a = 4)) (
 some ((3, 0))) (
 cond (decide (a = 2)) (
 cond (decide (a = 2)) (
 some ((a, 0))) (
 some ((0, 9)))) (
 cond (decide (a = 5)) (
 some ((a, 0))) (
 some ((0, 9))))))))
theorem evg44  (xx : (cOne (cI .i64)).T) : evF (R := (rTup (cCons (cI .i64) (cOne (cI .i64)))).T) (cx []) 1000 Tryd.f44 ((cOne (cI .i64)).enc xx) (glMem gl) gG (rTup (cCons (cI .i64) (cOne (cI .i64)))).dec =
 (fun (a : Int) =>
 (( cond (decide (a = 0)) (
 some ((1, 0))) (
 cond (decide (a = 1)) (
 some ((0, 0))) (
 cond (decide (a = 3)) (
 some ((4, 0))) (
 cond (decide (a = 4)) (
 some ((3, 0))) (
 cond (decide (a = 2)) (
 cond (decide (a = 2)) (
 some ((a, 0))) (
 some ((0, 9)))) (
 cond (decide (a = 5)) (
 some ((a, 0))) (
 some ((0, 9))))))))) : Option (Int × Int))) xx := by kernel_rfl
theorem ok44 : CtxOK Tryd.prog (cx []) gl := ctx_of tyOk moOk (show SpecL Tryd.prog gG gl [] from trivial) fnOk joinOk
theorem ev44 (a : (cOne (cI .i64)).T) : evF (R := (rTup (cCons (cI .i64) (cOne (cI .i64)))).T) (cx []) 1000 Tryd.f44 ((cOne (cI .i64)).enc a) (glMem gl) gG (rTup (cCons (cI .i64) (cOne (cI .i64)))).dec = f44 a := evg44  a
theorem sp44 : VE.Spec Tryd.prog gG gl 44 (conF (cOne (cI .i64)) (rTup (cCons (cI .i64) (cOne (cI .i64)))) (fun a => f44 a)) := spec_of ok44 Tryd.func44 Tryd.call44 1000 (cOne_ok (cI_ok _)) (rTup_ok (cCons_ok (cI_ok _) (cOne_ok (cI_ok _)))) ev44
noncomputable abbrev con44 : List (Nat × (List AV → Option ConR)) := []

/-- dir.Mirror -/
noncomputable def f45 (a : Int) : Option (Int × Int) :=
 Option.bind (f62 a) (fun r1 =>
 cond (!r1) (
 some ((0, 1))) (
 cond (decide (a ≤ 1)) (
 some ((a, 0))) (
 some ((IntKind.i64.wrap (10 - a), 0)))))
theorem evg45 (f62 : (Int) → Option (Bool)) (xx : (cOne (cI .i64)).T) : evF (R := (rTup (cCons (cI .i64) (cOne (cI .i64)))).T) (cx [(62, conF (cOne (cI .i64)) (rOne (cB)) (fun a => f62 a))]) 1000 Tryd.f45 ((cOne (cI .i64)).enc xx) (glMem gl) gG (rTup (cCons (cI .i64) (cOne (cI .i64)))).dec =
 (fun (a : Int) =>
 (( Option.bind (f62 a) (fun r1 =>
 cond (!r1) (
 some ((0, 1))) (
 cond (decide (a ≤ 1)) (
 some ((a, 0))) (
 some ((IntKind.i64.wrap (10 - a), 0)))))) : Option (Int × Int))) xx := by kernel_rfl
theorem ok45 : CtxOK Tryd.prog (cx [(62, conF (cOne (cI .i64)) (rOne (cB)) (fun a => f62 a))]) gl := ctx_of tyOk moOk (show SpecL Tryd.prog gG gl [(62, conF (cOne (cI .i64)) (rOne (cB)) (fun a => f62 a))] from ⟨sp62, trivial⟩) fnOk joinOk
theorem ev45 (a : (cOne (cI .i64)).T) : evF (R := (rTup (cCons (cI .i64) (cOne (cI .i64)))).T) (cx [(62, conF (cOne (cI .i64)) (rOne (cB)) (fun a => f62 a))]) 1000 Tryd.f45 ((cOne (cI .i64)).enc a) (glMem gl) gG (rTup (cCons (cI .i64) (cOne (cI .i64)))).dec = f45 a := evg45 f62 a
theorem sp45 : VE.Spec Tryd.prog gG gl 45 (conF (cOne (cI .i64)) (rTup (cCons (cI .i64) (cOne (cI .i64)))) (fun a => f45 a)) := spec_of ok45 Tryd.func45 Tryd.call45 1000 (cOne_ok (cI_ok _)) (rTup_ok (cCons_ok (cI_ok _) (cOne_ok (cI_ok _)))) ev45
noncomputable abbrev con45 : List (Nat × (List AV → Option ConR)) := [(62, conF (cOne (cI .i64)) (rOne (cB)) (fun a => f62 a))]

/-- posture.Mirror -/
noncomputable def f24 (a : Nat → Int) : Option ((Nat → Int) × Int) :=
 Option.bind (f13 a) (fun r1 =>
 cond (!decide (r1 = 0)) (
 some ((nthI tab1, r1))) (
 Option.bind (f43 (a 4)) (fun r2 =>
 Option.bind (f45 (a 5)) (fun r3 =>
 Option.bind (f45 (a 8)) (fun r4 =>
 Option.bind (f45 (a 11)) (fun r5 =>
 Option.bind (f45 (a 14)) (fun r6 =>
 Option.bind (f45 (a 17)) (fun r7 =>
 Option.bind (f45 (a 20)) (fun r8 =>
 some ((nthI [IntKind.i64.wrap (0 - a 0), a 1, (IntKind.i64.wrap (8 - a 2)).tmod 8, a 3, r2, r4.fst, a 9, a 10, r3.fst, a 6, a 7, r5.fst, a 12, a 13, r7.fst, a 18, a 19, r6.fst, a 15, a 16, r8.fst, a 21, a 22], 0)))))))))))
theorem evg24 (f13 : (Nat → Int) → Option (Int)) (f43 : (Int) → Option (Int)) (f45 : (Int) → Option (Int × Int)) (xx : (cOne (cA .i64 23)).T) : evF (R := (rTup (cCons (cA .i64 23) (cOne (cI .i64)))).T) (cx [(13, conF (cOne (cA .i64 23)) (rOne (cI .i64)) (fun a => f13 a)), (43, conF (cOne (cI .i64)) (rOne (cI .i64)) (fun a => f43 a)), (44, conF (cOne (cI .i64)) (rTup (cCons (cI .i64) (cOne (cI .i64)))) (fun a => f44 a)), (45, conF (cOne (cI .i64)) (rTup (cCons (cI .i64) (cOne (cI .i64)))) (fun a => f45 a))]) 1000 Tryd.f24 ((cOne (cA .i64 23)).enc xx) (glMem gl) gG (rTup (cCons (cA .i64 23) (cOne (cI .i64)))).dec =
 (fun (a : Nat → Int) =>
 (( Option.bind (f13 (nthI [a 0, a 1, a 2, a 3, a 4, a 5, a 6, a 7, a 8, a 9, a 10, a 11, a 12, a 13, a 14, a 15, a 16, a 17, a 18, a 19, a 20, a 21, a 22])) (fun r1 =>
 cond (!decide (r1 = 0)) (
 some ((nthI tab1, r1))) (
 Option.bind (f43 (a 4)) (fun r2 =>
 Option.bind (f45 (a 5)) (fun r3 =>
 Option.bind (f45 (a 8)) (fun r4 =>
 Option.bind (f45 (a 11)) (fun r5 =>
 Option.bind (f45 (a 14)) (fun r6 =>
 Option.bind (f45 (a 17)) (fun r7 =>
 Option.bind (f45 (a 20)) (fun r8 =>
 some ((nthI [IntKind.i64.wrap (0 - a 0), a 1, (IntKind.i64.wrap (8 - a 2)).tmod 8, a 3, r2, r4.fst, a 9, a 10, r3.fst, a 6, a 7, r5.fst, a 12, a 13, r7.fst, a 18, a 19, r6.fst, a 15, a 16, r8.fst, a 21, a 22], 0)))))))))))) : Option ((Nat → Int) × Int))) xx := by kernel_rfl
theorem ok24 : CtxOK Tryd.prog (cx [(13, conF (cOne (cA .i64 23)) (rOne (cI .i64)) (fun a => f13 a)), (43, conF (cOne (cI .i64)) (rOne (cI .i64)) (fun a => f43 a)), (44, conF (cOne (cI .i64)) (rTup (cCons (cI .i64) (cOne (cI .i64)))) (fun a => f44 a)), (45, conF (cOne (cI .i64)) (rTup (cCons (cI .i64) (cOne (cI .i64)))) (fun a => f45 a))]) gl := ctx_of tyOk moOk (show SpecL Tryd.prog gG gl [(13, conF (cOne (cA .i64 23)) (rOne (cI .i64)) (fun a => f13 a)), (43, conF (cOne (cI .i64)) (rOne (cI .i64)) (fun a => f43 a)), (44, conF (cOne (cI .i64)) (rTup (cCons (cI .i64) (cOne (cI .i64)))) (fun a => f44 a)), (45, conF (cOne (cI .i64)) (rTup (cCons (cI .i64) (cOne (cI .i64)))) (fun a => f45 a))] from ⟨sp13, sp43, sp44, sp45, trivial⟩) fnOk joinOk
noncomputable def g24 (a : Nat → Int) : Option ((Nat → Int) × Int) :=
 Option.bind (f13 (nthI [a 0, a 1, a 2, a 3, a 4, a 5, a 6, a 7, a 8, a 9, a 10, a 11, a 12, a 13, a 14, a 15, a 16, a 17, a 18, a 19, a 20, a 21, a 22])) (fun r1 =>
 cond (!decide (r1 = 0)) (
 some ((nthI tab1, r1))) (
 Option.bind (f43 (a 4)) (fun r2 =>
 Option.bind (f45 (a 5)) (fun r3 =>
 Option.bind (f45 (a 8)) (fun r4 =>
 Option.bind (f45 (a 11)) (fun r5 =>
 Option.bind (f45 (a 14)) (fun r6 =>
 Option.bind (f45 (a 17)) (fun r7 =>
 Option.bind (f45 (a 20)) (fun r8 =>
 some ((nthI [IntKind.i64.wrap (0 - a 0), a 1, (IntKind.i64.wrap (8 - a 2)).tmod 8, a 3, r2, r4.fst, a 9, a 10, r3.fst, a 6, a 7, r5.fst, a 12, a 13, r7.fst, a 18, a 19, r6.fst, a 15, a 16, r8.fst, a 21, a 22], 0)))))))))))
theorem fg24 (a : Nat → Int) : g24 a = f24 a := by kernel_rfl
theorem ev24 (a : (cOne (cA .i64 23)).T) : evF (R := (rTup (cCons (cA .i64 23) (cOne (cI .i64)))).T) (cx [(13, conF (cOne (cA .i64 23)) (rOne (cI .i64)) (fun a => f13 a)), (43, conF (cOne (cI .i64)) (rOne (cI .i64)) (fun a => f43 a)), (44, conF (cOne (cI .i64)) (rTup (cCons (cI .i64) (cOne (cI .i64)))) (fun a => f44 a)), (45, conF (cOne (cI .i64)) (rTup (cCons (cI .i64) (cOne (cI .i64)))) (fun a => f45 a))]) 1000 Tryd.f24 ((cOne (cA .i64 23)).enc a) (glMem gl) gG (rTup (cCons (cA .i64 23) (cOne (cI .i64)))).dec = f24 a := (show evF (R := (rTup (cCons (cA .i64 23) (cOne (cI .i64)))).T) (cx [(13, conF (cOne (cA .i64 23)) (rOne (cI .i64)) (fun a => f13 a)), (43, conF (cOne (cI .i64)) (rOne (cI .i64)) (fun a => f43 a)), (44, conF (cOne (cI .i64)) (rTup (cCons (cI .i64) (cOne (cI .i64)))) (fun a => f44 a)), (45, conF (cOne (cI .i64)) (rTup (cCons (cI .i64) (cOne (cI .i64)))) (fun a => f45 a))]) 1000 Tryd.f24 ((cOne (cA .i64 23)).enc a) (glMem gl) gG (rTup (cCons (cA .i64 23) (cOne (cI .i64)))).dec = g24 a from evg24 f13 f43 f45 a).trans (fg24 a)
theorem sp24 : VE.Spec Tryd.prog gG gl 24 (conF (cOne (cA .i64 23)) (rTup (cCons (cA .i64 23) (cOne (cI .i64)))) (fun a => f24 a)) := spec_of ok24 Tryd.func24 Tryd.call24 1000 (cOne_ok (cA_ok _ _)) (rTup_ok (cCons_ok (cA_ok _ _) (cOne_ok (cI_ok _)))) ev24
noncomputable abbrev con24 : List (Nat × (List AV → Option ConR)) := [(13, conF (cOne (cA .i64 23)) (rOne (cI .i64)) (fun a => f13 a)), (43, conF (cOne (cI .i64)) (rOne (cI .i64)) (fun a => f43 a)), (44, conF (cOne (cI .i64)) (rTup (cCons (cI .i64) (cOne (cI .i64)))) (fun a => f44 a)), (45, conF (cOne (cI .i64)) (rTup (cCons (cI .i64) (cOne (cI .i64)))) (fun a => f45 a))]

/-- dancestudiolaw19.example -/
noncomputable def f33  : Option ((Nat → Int)) :=
 some (nthI tab2)
theorem evg33  (xx : (cNil).T) : evF (R := (rOne (cA .i64 23)).T) (cx []) 1000 Tryd.f33 ((cNil).enc xx) (glMem gl) gG (rOne (cA .i64 23)).dec =
 (( some (nthI tab2)) : Option ((Nat → Int))) := by kernel_rfl
theorem ok33 : CtxOK Tryd.prog (cx []) gl := ctx_of tyOk moOk (show SpecL Tryd.prog gG gl [] from trivial) fnOk joinOk
theorem ev33 (a : (cNil).T) : evF (R := (rOne (cA .i64 23)).T) (cx []) 1000 Tryd.f33 ((cNil).enc a) (glMem gl) gG (rOne (cA .i64 23)).dec = f33 := evg33  a
theorem sp33 : VE.Spec Tryd.prog gG gl 33 (conF (cNil) (rOne (cA .i64 23)) (fun a => f33)) := spec_of ok33 Tryd.func33 Tryd.call33 1000 (cNil_ok) (rOne_ok (cA_ok _ _)) ev33
noncomputable abbrev con33 : List (Nat × (List AV → Option ConR)) := []

/-- dancestudiolaw19.posed -/
noncomputable def f34  : Option ((Nat → Int)) :=
 some (nthI tab3)
theorem evg34  (xx : (cNil).T) : evF (R := (rOne (cA .i64 22)).T) (cx []) 1000 Tryd.f34 ((cNil).enc xx) (glMem gl) gG (rOne (cA .i64 22)).dec =
 (( some (nthI tab3)) : Option ((Nat → Int))) := by kernel_rfl
theorem ok34 : CtxOK Tryd.prog (cx []) gl := ctx_of tyOk moOk (show SpecL Tryd.prog gG gl [] from trivial) fnOk joinOk
theorem ev34 (a : (cNil).T) : evF (R := (rOne (cA .i64 22)).T) (cx []) 1000 Tryd.f34 ((cNil).enc a) (glMem gl) gG (rOne (cA .i64 22)).dec = f34 := evg34  a
theorem sp34 : VE.Spec Tryd.prog gG gl 34 (conF (cNil) (rOne (cA .i64 22)) (fun a => f34)) := spec_of ok34 Tryd.func34 Tryd.call34 1000 (cNil_ok) (rOne_ok (cA_ok _ _)) ev34
noncomputable abbrev con34 : List (Nat × (List AV → Option ConR)) := []

/-- dancestudiolaw19.mirrored -/
noncomputable def f35  : Option ((Nat → Int)) :=
 some (nthI tab4)
theorem evg35  (xx : (cNil).T) : evF (R := (rOne (cA .i64 23)).T) (cx []) 1000 Tryd.f35 ((cNil).enc xx) (glMem gl) gG (rOne (cA .i64 23)).dec =
 (( some (nthI tab4)) : Option ((Nat → Int))) := by kernel_rfl
theorem ok35 : CtxOK Tryd.prog (cx []) gl := ctx_of tyOk moOk (show SpecL Tryd.prog gG gl [] from trivial) fnOk joinOk
theorem ev35 (a : (cNil).T) : evF (R := (rOne (cA .i64 23)).T) (cx []) 1000 Tryd.f35 ((cNil).enc a) (glMem gl) gG (rOne (cA .i64 23)).dec = f35 := evg35  a
theorem sp35 : VE.Spec Tryd.prog gG gl 35 (conF (cNil) (rOne (cA .i64 23)) (fun a => f35)) := spec_of ok35 Tryd.func35 Tryd.call35 1000 (cNil_ok) (rOne_ok (cA_ok _ _)) ev35
noncomputable abbrev con35 : List (Nat × (List AV → Option ConR)) := []

/-- dancestudiolaw19.awake -/
noncomputable def f15  : Option (Bool) :=
 some (true)
theorem evg15  (xx : (cNil).T) : evF (R := (rOne (cB)).T) (cx [(11, conF (cOne (cA .i64 23)) (rTup (cCons (cA .i64 22) (cOne (cI .i64)))) (fun a => f11 a)), (13, conF (cOne (cA .i64 23)) (rOne (cI .i64)) (fun a => f13 a)), (16, conF (cCons (cA .i64 22) (cOne (cI .i64))) (rTup (cCons (cA .i64 23) (cOne (cI .i64)))) (fun a => f16 a.1 a.2)), (18, conF (cOne (cA .i64 22)) (rOne (cI .i64)) (fun a => f18 a)), (20, conF (cCons (cA .i64 23) (cOne (cI .i64))) (rTup (cCons (cA .i64 23) (cOne (cI .i64)))) (fun a => f20 a.1 a.2)), (22, conF (cCons (cA .i64 22) (cOne (cI .i64))) (rTup (cCons (cA .i64 22) (cOne (cI .i64)))) (fun a => f22 a.1 a.2)), (24, conF (cOne (cA .i64 23)) (rTup (cCons (cA .i64 23) (cOne (cI .i64)))) (fun a => f24 a)), (33, conF (cNil) (rOne (cA .i64 23)) (fun a => f33)), (34, conF (cNil) (rOne (cA .i64 22)) (fun a => f34)), (35, conF (cNil) (rOne (cA .i64 23)) (fun a => f35))]) 1000 Tryd.f15 ((cNil).enc xx) (glMem gl) gG (rOne (cB)).dec =
 (( some (true)) : Option (Bool)) := by kernel_rfl
theorem ok15 : CtxOK Tryd.prog (cx [(11, conF (cOne (cA .i64 23)) (rTup (cCons (cA .i64 22) (cOne (cI .i64)))) (fun a => f11 a)), (13, conF (cOne (cA .i64 23)) (rOne (cI .i64)) (fun a => f13 a)), (16, conF (cCons (cA .i64 22) (cOne (cI .i64))) (rTup (cCons (cA .i64 23) (cOne (cI .i64)))) (fun a => f16 a.1 a.2)), (18, conF (cOne (cA .i64 22)) (rOne (cI .i64)) (fun a => f18 a)), (20, conF (cCons (cA .i64 23) (cOne (cI .i64))) (rTup (cCons (cA .i64 23) (cOne (cI .i64)))) (fun a => f20 a.1 a.2)), (22, conF (cCons (cA .i64 22) (cOne (cI .i64))) (rTup (cCons (cA .i64 22) (cOne (cI .i64)))) (fun a => f22 a.1 a.2)), (24, conF (cOne (cA .i64 23)) (rTup (cCons (cA .i64 23) (cOne (cI .i64)))) (fun a => f24 a)), (33, conF (cNil) (rOne (cA .i64 23)) (fun a => f33)), (34, conF (cNil) (rOne (cA .i64 22)) (fun a => f34)), (35, conF (cNil) (rOne (cA .i64 23)) (fun a => f35))]) gl := ctx_of tyOk moOk (show SpecL Tryd.prog gG gl [(11, conF (cOne (cA .i64 23)) (rTup (cCons (cA .i64 22) (cOne (cI .i64)))) (fun a => f11 a)), (13, conF (cOne (cA .i64 23)) (rOne (cI .i64)) (fun a => f13 a)), (16, conF (cCons (cA .i64 22) (cOne (cI .i64))) (rTup (cCons (cA .i64 23) (cOne (cI .i64)))) (fun a => f16 a.1 a.2)), (18, conF (cOne (cA .i64 22)) (rOne (cI .i64)) (fun a => f18 a)), (20, conF (cCons (cA .i64 23) (cOne (cI .i64))) (rTup (cCons (cA .i64 23) (cOne (cI .i64)))) (fun a => f20 a.1 a.2)), (22, conF (cCons (cA .i64 22) (cOne (cI .i64))) (rTup (cCons (cA .i64 22) (cOne (cI .i64)))) (fun a => f22 a.1 a.2)), (24, conF (cOne (cA .i64 23)) (rTup (cCons (cA .i64 23) (cOne (cI .i64)))) (fun a => f24 a)), (33, conF (cNil) (rOne (cA .i64 23)) (fun a => f33)), (34, conF (cNil) (rOne (cA .i64 22)) (fun a => f34)), (35, conF (cNil) (rOne (cA .i64 23)) (fun a => f35))] from ⟨sp11, sp13, sp16, sp18, sp20, sp22, sp24, sp33, sp34, sp35, trivial⟩) fnOk joinOk
theorem ev15 (a : (cNil).T) : evF (R := (rOne (cB)).T) (cx [(11, conF (cOne (cA .i64 23)) (rTup (cCons (cA .i64 22) (cOne (cI .i64)))) (fun a => f11 a)), (13, conF (cOne (cA .i64 23)) (rOne (cI .i64)) (fun a => f13 a)), (16, conF (cCons (cA .i64 22) (cOne (cI .i64))) (rTup (cCons (cA .i64 23) (cOne (cI .i64)))) (fun a => f16 a.1 a.2)), (18, conF (cOne (cA .i64 22)) (rOne (cI .i64)) (fun a => f18 a)), (20, conF (cCons (cA .i64 23) (cOne (cI .i64))) (rTup (cCons (cA .i64 23) (cOne (cI .i64)))) (fun a => f20 a.1 a.2)), (22, conF (cCons (cA .i64 22) (cOne (cI .i64))) (rTup (cCons (cA .i64 22) (cOne (cI .i64)))) (fun a => f22 a.1 a.2)), (24, conF (cOne (cA .i64 23)) (rTup (cCons (cA .i64 23) (cOne (cI .i64)))) (fun a => f24 a)), (33, conF (cNil) (rOne (cA .i64 23)) (fun a => f33)), (34, conF (cNil) (rOne (cA .i64 22)) (fun a => f34)), (35, conF (cNil) (rOne (cA .i64 23)) (fun a => f35))]) 1000 Tryd.f15 ((cNil).enc a) (glMem gl) gG (rOne (cB)).dec = f15 := evg15  a
theorem sp15 : VE.Spec Tryd.prog gG gl 15 (conF (cNil) (rOne (cB)) (fun a => f15)) := spec_of ok15 Tryd.func15 Tryd.call15 1000 (cNil_ok) (rOne_ok (cB_ok)) ev15
noncomputable abbrev con15 : List (Nat × (List AV → Option ConR)) := [(11, conF (cOne (cA .i64 23)) (rTup (cCons (cA .i64 22) (cOne (cI .i64)))) (fun a => f11 a)), (13, conF (cOne (cA .i64 23)) (rOne (cI .i64)) (fun a => f13 a)), (16, conF (cCons (cA .i64 22) (cOne (cI .i64))) (rTup (cCons (cA .i64 23) (cOne (cI .i64)))) (fun a => f16 a.1 a.2)), (18, conF (cOne (cA .i64 22)) (rOne (cI .i64)) (fun a => f18 a)), (20, conF (cCons (cA .i64 23) (cOne (cI .i64))) (rTup (cCons (cA .i64 23) (cOne (cI .i64)))) (fun a => f20 a.1 a.2)), (22, conF (cCons (cA .i64 22) (cOne (cI .i64))) (rTup (cCons (cA .i64 22) (cOne (cI .i64)))) (fun a => f22 a.1 a.2)), (24, conF (cOne (cA .i64 23)) (rTup (cCons (cA .i64 23) (cOne (cI .i64)))) (fun a => f24 a)), (33, conF (cNil) (rOne (cA .i64 23)) (fun a => f33)), (34, conF (cNil) (rOne (cA .i64 22)) (fun a => f34)), (35, conF (cNil) (rOne (cA .i64 23)) (fun a => f35))]

/-- dancestudiolaw19.PostureChecks -/
noncomputable def f3 (a : Nat → Int) : Option (Bool) :=
 Option.bind (f11 a) (fun r1 =>
 Option.bind (f12 a) (fun r2 =>
 Option.bind (f13 a) (fun r3 =>
 Option.bind (f14 a) (fun r4 =>
 cond (decide (r3 = r4)) (
 cond (decide (r1.fst 0 = r2.fst 0) && decide (r1.fst 1 = r2.fst 1) && (decide (r1.fst 2 = r2.fst 2) && (decide (r1.fst 3 = r2.fst 3) && (decide (r1.fst 4 = r2.fst 4) && (decide (r1.fst 5 = r2.fst 5) && decide (r1.fst 6 = r2.fst 6)) && (decide (r1.fst 7 = r2.fst 7) && (decide (r1.fst 8 = r2.fst 8) && decide (r1.fst 9 = r2.fst 9)) && (decide (r1.fst 10 = r2.fst 10) && (decide (r1.fst 11 = r2.fst 11) && decide (r1.fst 12 = r2.fst 12)) && (decide (r1.fst 13 = r2.fst 13) && (decide (r1.fst 14 = r2.fst 14) && decide (r1.fst 15 = r2.fst 15)) && (decide (r1.fst 16 = r2.fst 16) && (decide (r1.fst 17 = r2.fst 17) && decide (r1.fst 18 = r2.fst 18)) && (decide (r1.fst 19 = r2.fst 19) && (decide (r1.fst 20 = r2.fst 20) && decide (r1.fst 21 = r2.fst 21))))))))))) (
 cond (decide (r1.snd = r2.snd)) (
 some (true)) (
 some (false))) (
 some (false))) (
 some (false))))))
theorem evg3 (f11 : (Nat → Int) → Option ((Nat → Int) × Int)) (f12 : (Nat → Int) → Option ((Nat → Int) × Int)) (f13 : (Nat → Int) → Option (Int)) (f14 : (Nat → Int) → Option (Int)) (xx : (cOne (cA .i64 23)).T) : evF (R := (rOne (cB)).T) (cx [(11, conF (cOne (cA .i64 23)) (rTup (cCons (cA .i64 22) (cOne (cI .i64)))) (fun a => f11 a)), (12, conF (cOne (cA .i64 23)) (rTup (cCons (cA .i64 22) (cOne (cI .i64)))) (fun a => f12 a)), (13, conF (cOne (cA .i64 23)) (rOne (cI .i64)) (fun a => f13 a)), (14, conF (cOne (cA .i64 23)) (rOne (cI .i64)) (fun a => f14 a)), (15, conF (cNil) (rOne (cB)) (fun a => f15))]) 1000 Tryd.f3 ((cOne (cA .i64 23)).enc xx) (glMem gl) gG (rOne (cB)).dec =
 (fun (a : Nat → Int) =>
 (( Option.bind (f11 (nthI [a 0, a 1, a 2, a 3, a 4, a 5, a 6, a 7, a 8, a 9, a 10, a 11, a 12, a 13, a 14, a 15, a 16, a 17, a 18, a 19, a 20, a 21, a 22])) (fun r1 =>
 Option.bind (f12 (nthI [a 0, a 1, a 2, a 3, a 4, a 5, a 6, a 7, a 8, a 9, a 10, a 11, a 12, a 13, a 14, a 15, a 16, a 17, a 18, a 19, a 20, a 21, a 22])) (fun r2 =>
 Option.bind (f13 (nthI [a 0, a 1, a 2, a 3, a 4, a 5, a 6, a 7, a 8, a 9, a 10, a 11, a 12, a 13, a 14, a 15, a 16, a 17, a 18, a 19, a 20, a 21, a 22])) (fun r3 =>
 Option.bind (f14 (nthI [a 0, a 1, a 2, a 3, a 4, a 5, a 6, a 7, a 8, a 9, a 10, a 11, a 12, a 13, a 14, a 15, a 16, a 17, a 18, a 19, a 20, a 21, a 22])) (fun r4 =>
 cond (decide (r3 = r4)) (
 cond (decide (r1.fst 0 = r2.fst 0) && decide (r1.fst 1 = r2.fst 1) && (decide (r1.fst 2 = r2.fst 2) && (decide (r1.fst 3 = r2.fst 3) && (decide (r1.fst 4 = r2.fst 4) && (decide (r1.fst 5 = r2.fst 5) && decide (r1.fst 6 = r2.fst 6)) && (decide (r1.fst 7 = r2.fst 7) && (decide (r1.fst 8 = r2.fst 8) && decide (r1.fst 9 = r2.fst 9)) && (decide (r1.fst 10 = r2.fst 10) && (decide (r1.fst 11 = r2.fst 11) && decide (r1.fst 12 = r2.fst 12)) && (decide (r1.fst 13 = r2.fst 13) && (decide (r1.fst 14 = r2.fst 14) && decide (r1.fst 15 = r2.fst 15)) && (decide (r1.fst 16 = r2.fst 16) && (decide (r1.fst 17 = r2.fst 17) && decide (r1.fst 18 = r2.fst 18)) && (decide (r1.fst 19 = r2.fst 19) && (decide (r1.fst 20 = r2.fst 20) && decide (r1.fst 21 = r2.fst 21))))))))))) (
 cond (decide (r1.snd = r2.snd)) (
 some (true)) (
 some (false))) (
 some (false))) (
 some (false))))))) : Option (Bool))) xx := by kernel_rfl
theorem ok3 : CtxOK Tryd.prog (cx [(11, conF (cOne (cA .i64 23)) (rTup (cCons (cA .i64 22) (cOne (cI .i64)))) (fun a => f11 a)), (12, conF (cOne (cA .i64 23)) (rTup (cCons (cA .i64 22) (cOne (cI .i64)))) (fun a => f12 a)), (13, conF (cOne (cA .i64 23)) (rOne (cI .i64)) (fun a => f13 a)), (14, conF (cOne (cA .i64 23)) (rOne (cI .i64)) (fun a => f14 a)), (15, conF (cNil) (rOne (cB)) (fun a => f15))]) gl := ctx_of tyOk moOk (show SpecL Tryd.prog gG gl [(11, conF (cOne (cA .i64 23)) (rTup (cCons (cA .i64 22) (cOne (cI .i64)))) (fun a => f11 a)), (12, conF (cOne (cA .i64 23)) (rTup (cCons (cA .i64 22) (cOne (cI .i64)))) (fun a => f12 a)), (13, conF (cOne (cA .i64 23)) (rOne (cI .i64)) (fun a => f13 a)), (14, conF (cOne (cA .i64 23)) (rOne (cI .i64)) (fun a => f14 a)), (15, conF (cNil) (rOne (cB)) (fun a => f15))] from ⟨sp11, sp12, sp13, sp14, sp15, trivial⟩) fnOk joinOk
noncomputable def g3 (a : Nat → Int) : Option (Bool) :=
 Option.bind (f11 (nthI [a 0, a 1, a 2, a 3, a 4, a 5, a 6, a 7, a 8, a 9, a 10, a 11, a 12, a 13, a 14, a 15, a 16, a 17, a 18, a 19, a 20, a 21, a 22])) (fun r1 =>
 Option.bind (f12 (nthI [a 0, a 1, a 2, a 3, a 4, a 5, a 6, a 7, a 8, a 9, a 10, a 11, a 12, a 13, a 14, a 15, a 16, a 17, a 18, a 19, a 20, a 21, a 22])) (fun r2 =>
 Option.bind (f13 (nthI [a 0, a 1, a 2, a 3, a 4, a 5, a 6, a 7, a 8, a 9, a 10, a 11, a 12, a 13, a 14, a 15, a 16, a 17, a 18, a 19, a 20, a 21, a 22])) (fun r3 =>
 Option.bind (f14 (nthI [a 0, a 1, a 2, a 3, a 4, a 5, a 6, a 7, a 8, a 9, a 10, a 11, a 12, a 13, a 14, a 15, a 16, a 17, a 18, a 19, a 20, a 21, a 22])) (fun r4 =>
 cond (decide (r3 = r4)) (
 cond (decide (r1.fst 0 = r2.fst 0) && decide (r1.fst 1 = r2.fst 1) && (decide (r1.fst 2 = r2.fst 2) && (decide (r1.fst 3 = r2.fst 3) && (decide (r1.fst 4 = r2.fst 4) && (decide (r1.fst 5 = r2.fst 5) && decide (r1.fst 6 = r2.fst 6)) && (decide (r1.fst 7 = r2.fst 7) && (decide (r1.fst 8 = r2.fst 8) && decide (r1.fst 9 = r2.fst 9)) && (decide (r1.fst 10 = r2.fst 10) && (decide (r1.fst 11 = r2.fst 11) && decide (r1.fst 12 = r2.fst 12)) && (decide (r1.fst 13 = r2.fst 13) && (decide (r1.fst 14 = r2.fst 14) && decide (r1.fst 15 = r2.fst 15)) && (decide (r1.fst 16 = r2.fst 16) && (decide (r1.fst 17 = r2.fst 17) && decide (r1.fst 18 = r2.fst 18)) && (decide (r1.fst 19 = r2.fst 19) && (decide (r1.fst 20 = r2.fst 20) && decide (r1.fst 21 = r2.fst 21))))))))))) (
 cond (decide (r1.snd = r2.snd)) (
 some (true)) (
 some (false))) (
 some (false))) (
 some (false))))))
theorem fg3 (a : Nat → Int) : g3 a = f3 a := by kernel_rfl
theorem ev3 (a : (cOne (cA .i64 23)).T) : evF (R := (rOne (cB)).T) (cx [(11, conF (cOne (cA .i64 23)) (rTup (cCons (cA .i64 22) (cOne (cI .i64)))) (fun a => f11 a)), (12, conF (cOne (cA .i64 23)) (rTup (cCons (cA .i64 22) (cOne (cI .i64)))) (fun a => f12 a)), (13, conF (cOne (cA .i64 23)) (rOne (cI .i64)) (fun a => f13 a)), (14, conF (cOne (cA .i64 23)) (rOne (cI .i64)) (fun a => f14 a)), (15, conF (cNil) (rOne (cB)) (fun a => f15))]) 1000 Tryd.f3 ((cOne (cA .i64 23)).enc a) (glMem gl) gG (rOne (cB)).dec = f3 a := (show evF (R := (rOne (cB)).T) (cx [(11, conF (cOne (cA .i64 23)) (rTup (cCons (cA .i64 22) (cOne (cI .i64)))) (fun a => f11 a)), (12, conF (cOne (cA .i64 23)) (rTup (cCons (cA .i64 22) (cOne (cI .i64)))) (fun a => f12 a)), (13, conF (cOne (cA .i64 23)) (rOne (cI .i64)) (fun a => f13 a)), (14, conF (cOne (cA .i64 23)) (rOne (cI .i64)) (fun a => f14 a)), (15, conF (cNil) (rOne (cB)) (fun a => f15))]) 1000 Tryd.f3 ((cOne (cA .i64 23)).enc a) (glMem gl) gG (rOne (cB)).dec = g3 a from evg3 f11 f12 f13 f14 a).trans (fg3 a)
theorem sp3 : VE.Spec Tryd.prog gG gl 3 (conF (cOne (cA .i64 23)) (rOne (cB)) (fun a => f3 a)) := spec_of ok3 Tryd.func3 Tryd.call3 1000 (cOne_ok (cA_ok _ _)) (rOne_ok (cB_ok)) ev3
noncomputable abbrev con3 : List (Nat × (List AV → Option ConR)) := [(11, conF (cOne (cA .i64 23)) (rTup (cCons (cA .i64 22) (cOne (cI .i64)))) (fun a => f11 a)), (12, conF (cOne (cA .i64 23)) (rTup (cCons (cA .i64 22) (cOne (cI .i64)))) (fun a => f12 a)), (13, conF (cOne (cA .i64 23)) (rOne (cI .i64)) (fun a => f13 a)), (14, conF (cOne (cA .i64 23)) (rOne (cI .i64)) (fun a => f14 a)), (15, conF (cNil) (rOne (cB)) (fun a => f15))]

/-- dancestudioref18.Pole -/
noncomputable def f61 (a : Nat → Int) : Option (Bool) :=
 cond (decide (a 1 = 64)) (
 some (true)) (
 some (decide (a 1 = -64)))
theorem evg61  (xx : (cOne (cA .i64 3)).T) : evF (R := (rOne (cB)).T) (cx []) 1000 Tryd.f61 ((cOne (cA .i64 3)).enc xx) (glMem gl) gG (rOne (cB)).dec =
 (fun (a : Nat → Int) =>
 (( cond (decide (a 1 = 64)) (
 some (true)) (
 some (decide (a 1 = -64)))) : Option (Bool))) xx := by kernel_rfl
theorem ok61 : CtxOK Tryd.prog (cx []) gl := ctx_of tyOk moOk (show SpecL Tryd.prog gG gl [] from trivial) fnOk joinOk
theorem ev61 (a : (cOne (cA .i64 3)).T) : evF (R := (rOne (cB)).T) (cx []) 1000 Tryd.f61 ((cOne (cA .i64 3)).enc a) (glMem gl) gG (rOne (cB)).dec = f61 a := evg61  a
theorem sp61 : VE.Spec Tryd.prog gG gl 61 (conF (cOne (cA .i64 3)) (rOne (cB)) (fun a => f61 a)) := spec_of ok61 Tryd.func61 Tryd.call61 1000 (cOne_ok (cA_ok _ _)) (rOne_ok (cB_ok)) ev61
noncomputable abbrev con61 : List (Nat × (List AV → Option ConR)) := []

/-- dancestudioref18.Check -/
noncomputable def f39 (a : Int) (b : Nat → Int) : Option (Int) :=
 Option.bind (f56 a) (fun r2 =>
 cond (!r2) (
 some (9)) (
 cond (decide (b 0 < 0)) (
 some (1)) (
 cond (decide (255 < b 0)) (
 some (1)) (
 cond (decide (b 1 < -64)) (
 some (1)) (
 cond (decide (64 < b 1)) (
 some (1)) (
 cond (decide (b 2 < 0)) (
 some (1)) (
 cond (decide (6 < b 2)) (
 some (1)) (
 Option.bind (f61 b) (fun r3 =>
 cond (r3) (
 cond (!decide (b 0 = 0)) (
 some (2)) (
 some (0))) (
 some (0)))))))))))
theorem evg39 (f56 : (Int) → Option (Bool)) (f61 : (Nat → Int) → Option (Bool)) (xx : (cCons (cI .i64) (cOne (cA .i64 3))).T) : evF (R := (rOne (cI .i64)).T) (cx [(56, conF (cOne (cI .i64)) (rOne (cB)) (fun a => f56 a)), (61, conF (cOne (cA .i64 3)) (rOne (cB)) (fun a => f61 a))]) 1000 Tryd.f39 ((cCons (cI .i64) (cOne (cA .i64 3))).enc xx) (glMem gl) gG (rOne (cI .i64)).dec =
 (fun (a : Int) (b : Nat → Int) =>
 (( Option.bind (f56 a) (fun r2 =>
 cond (!r2) (
 some (9)) (
 cond (decide (b 0 < 0)) (
 some (1)) (
 cond (decide (255 < b 0)) (
 some (1)) (
 cond (decide (b 1 < -64)) (
 some (1)) (
 cond (decide (64 < b 1)) (
 some (1)) (
 cond (decide (b 2 < 0)) (
 some (1)) (
 cond (decide (6 < b 2)) (
 some (1)) (
 Option.bind (f61 (nthI [b 0, b 1, b 2])) (fun r3 =>
 cond (r3) (
 cond (!decide (b 0 = 0)) (
 some (2)) (
 some (0))) (
 some (0)))))))))))) : Option (Int))) xx.1 xx.2 := by kernel_rfl
theorem ok39 : CtxOK Tryd.prog (cx [(56, conF (cOne (cI .i64)) (rOne (cB)) (fun a => f56 a)), (61, conF (cOne (cA .i64 3)) (rOne (cB)) (fun a => f61 a))]) gl := ctx_of tyOk moOk (show SpecL Tryd.prog gG gl [(56, conF (cOne (cI .i64)) (rOne (cB)) (fun a => f56 a)), (61, conF (cOne (cA .i64 3)) (rOne (cB)) (fun a => f61 a))] from ⟨sp56, sp61, trivial⟩) fnOk joinOk
noncomputable def g39 (a : Int) (b : Nat → Int) : Option (Int) :=
 Option.bind (f56 a) (fun r2 =>
 cond (!r2) (
 some (9)) (
 cond (decide (b 0 < 0)) (
 some (1)) (
 cond (decide (255 < b 0)) (
 some (1)) (
 cond (decide (b 1 < -64)) (
 some (1)) (
 cond (decide (64 < b 1)) (
 some (1)) (
 cond (decide (b 2 < 0)) (
 some (1)) (
 cond (decide (6 < b 2)) (
 some (1)) (
 Option.bind (f61 (nthI [b 0, b 1, b 2])) (fun r3 =>
 cond (r3) (
 cond (!decide (b 0 = 0)) (
 some (2)) (
 some (0))) (
 some (0)))))))))))
theorem fg39 (a : Int) (b : Nat → Int) : g39 a b = f39 a b := by kernel_rfl
theorem ev39 (a : (cCons (cI .i64) (cOne (cA .i64 3))).T) : evF (R := (rOne (cI .i64)).T) (cx [(56, conF (cOne (cI .i64)) (rOne (cB)) (fun a => f56 a)), (61, conF (cOne (cA .i64 3)) (rOne (cB)) (fun a => f61 a))]) 1000 Tryd.f39 ((cCons (cI .i64) (cOne (cA .i64 3))).enc a) (glMem gl) gG (rOne (cI .i64)).dec = f39 a.1 a.2 := (show evF (R := (rOne (cI .i64)).T) (cx [(56, conF (cOne (cI .i64)) (rOne (cB)) (fun a => f56 a)), (61, conF (cOne (cA .i64 3)) (rOne (cB)) (fun a => f61 a))]) 1000 Tryd.f39 ((cCons (cI .i64) (cOne (cA .i64 3))).enc a) (glMem gl) gG (rOne (cI .i64)).dec = g39 a.1 a.2 from evg39 f56 f61 a).trans (fg39 a.1 a.2)
theorem sp39 : VE.Spec Tryd.prog gG gl 39 (conF (cCons (cI .i64) (cOne (cA .i64 3))) (rOne (cI .i64)) (fun a => f39 a.1 a.2)) := spec_of ok39 Tryd.func39 Tryd.call39 1000 (cCons_ok (cI_ok _) (cOne_ok (cA_ok _ _))) (rOne_ok (cI_ok _)) ev39
noncomputable abbrev con39 : List (Nat × (List AV → Option ConR)) := [(56, conF (cOne (cI .i64)) (rOne (cB)) (fun a => f56 a)), (61, conF (cOne (cA .i64 3)) (rOne (cB)) (fun a => f61 a))]

/-- dancestudioref19.Valid -/
noncomputable def f19 (a : Nat → Int) : Option (Int) :=
 Option.bind (f31 (a 0)) (fun r1 =>
 cond (!r1) (
 some (1)) (
 Option.bind (f31 (a 1)) (fun r2 =>
 cond (!r2) (
 some (1)) (
 cond (decide (a 2 < 0)) (
 some (1)) (
 cond (decide (255 < a 2)) (
 some (1)) (
 cond (decide (a 3 < -8)) (
 some (1)) (
 cond (decide (8 < a 3)) (
 some (1)) (
 Option.bind (f39 0 (nthI [a 4, a 5, a 6])) (fun r3 =>
 cond (!decide (r3 = 0)) (
 some (r3)) (
 Option.bind (f39 1 (nthI [a 7, a 8, a 9])) (fun r4 =>
 cond (!decide (r4 = 0)) (
 some (r4)) (
 Option.bind (f39 2 (nthI [a 10, a 11, a 12])) (fun r5 =>
 cond (!decide (r5 = 0)) (
 some (r5)) (
 Option.bind (f39 3 (nthI [a 13, a 14, a 15])) (fun r6 =>
 cond (!decide (r6 = 0)) (
 some (r6)) (
 Option.bind (f39 4 (nthI [a 16, a 17, a 18])) (fun r7 =>
 cond (!decide (r7 = 0)) (
 some (r7)) (
 Option.bind (f39 5 (nthI [a 19, a 20, a 21])) (fun r8 =>
 cond (!decide (r8 = 0)) (
 some (r8)) (
 some (0)))))))))))))))))))))
theorem evg19 (f31 : (Int) → Option (Bool)) (f39 : (Int) → (Nat → Int) → Option (Int)) (xx : (cOne (cA .i64 22)).T) : evF (R := (rOne (cI .i64)).T) (cx [(31, conF (cOne (cI .i64)) (rOne (cB)) (fun a => f31 a)), (39, conF (cCons (cI .i64) (cOne (cA .i64 3))) (rOne (cI .i64)) (fun a => f39 a.1 a.2))]) 1000 Tryd.f19 ((cOne (cA .i64 22)).enc xx) (glMem gl) gG (rOne (cI .i64)).dec =
 (fun (a : Nat → Int) =>
 (( Option.bind (f31 (a 0)) (fun r1 =>
 cond (!r1) (
 some (1)) (
 Option.bind (f31 (a 1)) (fun r2 =>
 cond (!r2) (
 some (1)) (
 cond (decide (a 2 < 0)) (
 some (1)) (
 cond (decide (255 < a 2)) (
 some (1)) (
 cond (decide (a 3 < -8)) (
 some (1)) (
 cond (decide (8 < a 3)) (
 some (1)) (
 Option.bind (f39 0 (nthI [a 4, a 5, a 6])) (fun r3 =>
 cond (!decide (r3 = 0)) (
 some (r3)) (
 Option.bind (f39 1 (nthI [a 7, a 8, a 9])) (fun r4 =>
 cond (!decide (r4 = 0)) (
 some (r4)) (
 Option.bind (f39 2 (nthI [a 10, a 11, a 12])) (fun r5 =>
 cond (!decide (r5 = 0)) (
 some (r5)) (
 Option.bind (f39 3 (nthI [a 13, a 14, a 15])) (fun r6 =>
 cond (!decide (r6 = 0)) (
 some (r6)) (
 Option.bind (f39 4 (nthI [a 16, a 17, a 18])) (fun r7 =>
 cond (!decide (r7 = 0)) (
 some (r7)) (
 Option.bind (f39 5 (nthI [a 19, a 20, a 21])) (fun r8 =>
 cond (!decide (r8 = 0)) (
 some (r8)) (
 some (0)))))))))))))))))))))) : Option (Int))) xx := by kernel_rfl
theorem ok19 : CtxOK Tryd.prog (cx [(31, conF (cOne (cI .i64)) (rOne (cB)) (fun a => f31 a)), (39, conF (cCons (cI .i64) (cOne (cA .i64 3))) (rOne (cI .i64)) (fun a => f39 a.1 a.2))]) gl := ctx_of tyOk moOk (show SpecL Tryd.prog gG gl [(31, conF (cOne (cI .i64)) (rOne (cB)) (fun a => f31 a)), (39, conF (cCons (cI .i64) (cOne (cA .i64 3))) (rOne (cI .i64)) (fun a => f39 a.1 a.2))] from ⟨sp31, sp39, trivial⟩) fnOk joinOk
theorem ev19 (a : (cOne (cA .i64 22)).T) : evF (R := (rOne (cI .i64)).T) (cx [(31, conF (cOne (cI .i64)) (rOne (cB)) (fun a => f31 a)), (39, conF (cCons (cI .i64) (cOne (cA .i64 3))) (rOne (cI .i64)) (fun a => f39 a.1 a.2))]) 1000 Tryd.f19 ((cOne (cA .i64 22)).enc a) (glMem gl) gG (rOne (cI .i64)).dec = f19 a := evg19 f31 f39 a
theorem sp19 : VE.Spec Tryd.prog gG gl 19 (conF (cOne (cA .i64 22)) (rOne (cI .i64)) (fun a => f19 a)) := spec_of ok19 Tryd.func19 Tryd.call19 1000 (cOne_ok (cA_ok _ _)) (rOne_ok (cI_ok _)) ev19
noncomputable abbrev con19 : List (Nat × (List AV → Option ConR)) := [(31, conF (cOne (cI .i64)) (rOne (cB)) (fun a => f31 a)), (39, conF (cCons (cI .i64) (cOne (cA .i64 3))) (rOne (cI .i64)) (fun a => f39 a.1 a.2))]

/-- dancestudioref18.Notate -/
noncomputable def f37 (a : Int) (b : Nat → Int) : Option ((Nat → Int) × Int) :=
 Option.bind (f39 a b) (fun r2 =>
 cond (!decide (r2 = 0)) (
 some ((nthI [0, 0, 0], r2))) (
 Option.bind (f29 a (nthI [0, -1, b 2])) (fun r3 =>
 Option.bind (cond (decide (r3.snd = 0)) (
 some (decide (r3.fst 0 = b 0) && (decide (r3.fst 1 = b 1) && decide (r3.fst 2 = b 2)))) (
 some (false))) (fun r4 =>
 cond (r4) (
 some ((nthI [0, -1, b 2], 0))) (
 Option.bind (f29 a (nthI [0, 0, b 2])) (fun r5 =>
 Option.bind (cond (decide (r5.snd = 0)) (
 some (decide (r5.fst 0 = b 0) && (decide (r5.fst 1 = b 1) && decide (r5.fst 2 = b 2)))) (
 some (false))) (fun r6 =>
 cond (r6) (
 some ((nthI [0, 0, b 2], 0))) (
 Option.bind (f29 a (nthI [0, 1, b 2])) (fun r7 =>
 Option.bind (cond (decide (r7.snd = 0)) (
 some (decide (r7.fst 0 = b 0) && (decide (r7.fst 1 = b 1) && decide (r7.fst 2 = b 2)))) (
 some (false))) (fun r8 =>
 cond (r8) (
 some ((nthI [0, 1, b 2], 0))) (
 Option.bind (f29 a (nthI [1, -1, b 2])) (fun r9 =>
 Option.bind (cond (decide (r9.snd = 0)) (
 some (decide (r9.fst 0 = b 0) && (decide (r9.fst 1 = b 1) && decide (r9.fst 2 = b 2)))) (
 some (false))) (fun r10 =>
 cond (r10) (
 some ((nthI [1, -1, b 2], 0))) (
 Option.bind (f29 a (nthI [1, 0, b 2])) (fun r11 =>
 Option.bind (cond (decide (r11.snd = 0)) (
 some (decide (r11.fst 0 = b 0) && (decide (r11.fst 1 = b 1) && decide (r11.fst 2 = b 2)))) (
 some (false))) (fun r12 =>
 cond (r12) (
 some ((nthI [1, 0, b 2], 0))) (
 Option.bind (f29 a (nthI [1, 1, b 2])) (fun r13 =>
 Option.bind (cond (decide (r13.snd = 0)) (
 some (decide (r13.fst 0 = b 0) && (decide (r13.fst 1 = b 1) && decide (r13.fst 2 = b 2)))) (
 some (false))) (fun r14 =>
 cond (r14) (
 some ((nthI [1, 1, b 2], 0))) (
 Option.bind (f29 a (nthI [2, -1, b 2])) (fun r15 =>
 Option.bind (cond (decide (r15.snd = 0)) (
 some (decide (r15.fst 0 = b 0) && (decide (r15.fst 1 = b 1) && decide (r15.fst 2 = b 2)))) (
 some (false))) (fun r16 =>
 cond (r16) (
 some ((nthI [2, -1, b 2], 0))) (
 Option.bind (f29 a (nthI [2, 0, b 2])) (fun r17 =>
 Option.bind (cond (decide (r17.snd = 0)) (
 some (decide (r17.fst 0 = b 0) && (decide (r17.fst 1 = b 1) && decide (r17.fst 2 = b 2)))) (
 some (false))) (fun r18 =>
 cond (r18) (
 some ((nthI [2, 0, b 2], 0))) (
 Option.bind (f29 a (nthI [2, 1, b 2])) (fun r19 =>
 Option.bind (cond (decide (r19.snd = 0)) (
 some (decide (r19.fst 0 = b 0) && (decide (r19.fst 1 = b 1) && decide (r19.fst 2 = b 2)))) (
 some (false))) (fun r20 =>
 cond (r20) (
 some ((nthI [2, 1, b 2], 0))) (
 Option.bind (f29 a (nthI [3, -1, b 2])) (fun r21 =>
 Option.bind (cond (decide (r21.snd = 0)) (
 some (decide (r21.fst 0 = b 0) && (decide (r21.fst 1 = b 1) && decide (r21.fst 2 = b 2)))) (
 some (false))) (fun r22 =>
 cond (r22) (
 some ((nthI [3, -1, b 2], 0))) (
 Option.bind (f29 a (nthI [3, 0, b 2])) (fun r23 =>
 Option.bind (cond (decide (r23.snd = 0)) (
 some (decide (r23.fst 0 = b 0) && (decide (r23.fst 1 = b 1) && decide (r23.fst 2 = b 2)))) (
 some (false))) (fun r24 =>
 cond (r24) (
 some ((nthI [3, 0, b 2], 0))) (
 Option.bind (f29 a (nthI [3, 1, b 2])) (fun r25 =>
 Option.bind (cond (decide (r25.snd = 0)) (
 some (decide (r25.fst 0 = b 0) && (decide (r25.fst 1 = b 1) && decide (r25.fst 2 = b 2)))) (
 some (false))) (fun r26 =>
 cond (r26) (
 some ((nthI [3, 1, b 2], 0))) (
 Option.bind (f29 a (nthI [4, -1, b 2])) (fun r27 =>
 Option.bind (cond (decide (r27.snd = 0)) (
 some (decide (r27.fst 0 = b 0) && (decide (r27.fst 1 = b 1) && decide (r27.fst 2 = b 2)))) (
 some (false))) (fun r28 =>
 cond (r28) (
 some ((nthI [4, -1, b 2], 0))) (
 Option.bind (f29 a (nthI [4, 0, b 2])) (fun r29 =>
 Option.bind (cond (decide (r29.snd = 0)) (
 some (decide (r29.fst 0 = b 0) && (decide (r29.fst 1 = b 1) && decide (r29.fst 2 = b 2)))) (
 some (false))) (fun r30 =>
 cond (r30) (
 some ((nthI [4, 0, b 2], 0))) (
 Option.bind (f29 a (nthI [4, 1, b 2])) (fun r31 =>
 Option.bind (cond (decide (r31.snd = 0)) (
 some (decide (r31.fst 0 = b 0) && (decide (r31.fst 1 = b 1) && decide (r31.fst 2 = b 2)))) (
 some (false))) (fun r32 =>
 cond (r32) (
 some ((nthI [4, 1, b 2], 0))) (
 Option.bind (f29 a (nthI [5, -1, b 2])) (fun r33 =>
 Option.bind (cond (decide (r33.snd = 0)) (
 some (decide (r33.fst 0 = b 0) && (decide (r33.fst 1 = b 1) && decide (r33.fst 2 = b 2)))) (
 some (false))) (fun r34 =>
 cond (r34) (
 some ((nthI [5, -1, b 2], 0))) (
 Option.bind (f29 a (nthI [5, 0, b 2])) (fun r35 =>
 Option.bind (cond (decide (r35.snd = 0)) (
 some (decide (r35.fst 0 = b 0) && (decide (r35.fst 1 = b 1) && decide (r35.fst 2 = b 2)))) (
 some (false))) (fun r36 =>
 cond (r36) (
 some ((nthI [5, 0, b 2], 0))) (
 Option.bind (f29 a (nthI [5, 1, b 2])) (fun r37 =>
 Option.bind (cond (decide (r37.snd = 0)) (
 some (decide (r37.fst 0 = b 0) && (decide (r37.fst 1 = b 1) && decide (r37.fst 2 = b 2)))) (
 some (false))) (fun r38 =>
 cond (r38) (
 some ((nthI [5, 1, b 2], 0))) (
 Option.bind (f29 a (nthI [6, -1, b 2])) (fun r39 =>
 Option.bind (cond (decide (r39.snd = 0)) (
 some (decide (r39.fst 0 = b 0) && (decide (r39.fst 1 = b 1) && decide (r39.fst 2 = b 2)))) (
 some (false))) (fun r40 =>
 cond (r40) (
 some ((nthI [6, -1, b 2], 0))) (
 Option.bind (f29 a (nthI [6, 0, b 2])) (fun r41 =>
 Option.bind (cond (decide (r41.snd = 0)) (
 some (decide (r41.fst 0 = b 0) && (decide (r41.fst 1 = b 1) && decide (r41.fst 2 = b 2)))) (
 some (false))) (fun r42 =>
 cond (r42) (
 some ((nthI [6, 0, b 2], 0))) (
 Option.bind (f29 a (nthI [6, 1, b 2])) (fun r43 =>
 Option.bind (cond (decide (r43.snd = 0)) (
 some (decide (r43.fst 0 = b 0) && (decide (r43.fst 1 = b 1) && decide (r43.fst 2 = b 2)))) (
 some (false))) (fun r44 =>
 cond (r44) (
 some ((nthI [6, 1, b 2], 0))) (
 Option.bind (f29 a (nthI [7, -1, b 2])) (fun r45 =>
 Option.bind (cond (decide (r45.snd = 0)) (
 some (decide (r45.fst 0 = b 0) && (decide (r45.fst 1 = b 1) && decide (r45.fst 2 = b 2)))) (
 some (false))) (fun r46 =>
 cond (r46) (
 some ((nthI [7, -1, b 2], 0))) (
 Option.bind (f29 a (nthI [7, 0, b 2])) (fun r47 =>
 Option.bind (cond (decide (r47.snd = 0)) (
 some (decide (r47.fst 0 = b 0) && (decide (r47.fst 1 = b 1) && decide (r47.fst 2 = b 2)))) (
 some (false))) (fun r48 =>
 cond (r48) (
 some ((nthI [7, 0, b 2], 0))) (
 Option.bind (f29 a (nthI [7, 1, b 2])) (fun r49 =>
 Option.bind (cond (decide (r49.snd = 0)) (
 some (decide (r49.fst 0 = b 0) && (decide (r49.fst 1 = b 1) && decide (r49.fst 2 = b 2)))) (
 some (false))) (fun r50 =>
 cond (r50) (
 some ((nthI [7, 1, b 2], 0))) (
 Option.bind (f29 a (nthI [8, -1, b 2])) (fun r51 =>
 Option.bind (cond (decide (r51.snd = 0)) (
 some (decide (r51.fst 0 = b 0) && (decide (r51.fst 1 = b 1) && decide (r51.fst 2 = b 2)))) (
 some (false))) (fun r52 =>
 cond (r52) (
 some ((nthI [8, -1, b 2], 0))) (
 Option.bind (f29 a (nthI [8, 0, b 2])) (fun r53 =>
 Option.bind (cond (decide (r53.snd = 0)) (
 some (decide (r53.fst 0 = b 0) && (decide (r53.fst 1 = b 1) && decide (r53.fst 2 = b 2)))) (
 some (false))) (fun r54 =>
 cond (r54) (
 some ((nthI [8, 0, b 2], 0))) (
 Option.bind (f29 a (nthI [8, 1, b 2])) (fun r55 =>
 Option.bind (cond (decide (r55.snd = 0)) (
 some (decide (r55.fst 0 = b 0) && (decide (r55.fst 1 = b 1) && decide (r55.fst 2 = b 2)))) (
 some (false))) (fun r56 =>
 cond (r56) (
 some ((nthI [8, 1, b 2], 0))) (
 some ((nthI [0, 0, 0], 2)))))))))))))))))))))))))))))))))))))))))))))))))))))))))))))))))))))))))))))))))))))
theorem evg37 (f29 : (Int) → (Nat → Int) → Option ((Nat → Int) × Int)) (f39 : (Int) → (Nat → Int) → Option (Int)) (xx : (cCons (cI .i64) (cOne (cA .i64 3))).T) : evF (R := (rTup (cCons (cA .i64 3) (cOne (cI .i64)))).T) (cx [(29, conF (cCons (cI .i64) (cOne (cA .i64 3))) (rTup (cCons (cA .i64 3) (cOne (cI .i64)))) (fun a => f29 a.1 a.2)), (39, conF (cCons (cI .i64) (cOne (cA .i64 3))) (rOne (cI .i64)) (fun a => f39 a.1 a.2))] true) 1000 Tryd.f37 ((cCons (cI .i64) (cOne (cA .i64 3))).enc xx) (glMem gl) gG (rTup (cCons (cA .i64 3) (cOne (cI .i64)))).dec =
 (fun (a : Int) (b : Nat → Int) =>
 (( Option.bind (f39 a (nthI [b 0, b 1, b 2])) (fun r2 =>
 cond (!decide (r2 = 0)) (
 some ((nthI [0, 0, 0], r2))) (
 Option.bind (f29 a (nthI [0, -1, b 2])) (fun r3 =>
 Option.bind (cond (decide (r3.snd = 0)) (
 some (decide (r3.fst 0 = b 0) && (decide (r3.fst 1 = b 1) && decide (r3.fst 2 = b 2)))) (
 some (false))) (fun r4 =>
 cond (r4) (
 some ((nthI [0, -1, b 2], 0))) (
 Option.bind (f29 a (nthI [0, 0, b 2])) (fun r5 =>
 Option.bind (cond (decide (r5.snd = 0)) (
 some (decide (r5.fst 0 = b 0) && (decide (r5.fst 1 = b 1) && decide (r5.fst 2 = b 2)))) (
 some (false))) (fun r6 =>
 cond (r6) (
 some ((nthI [0, 0, b 2], 0))) (
 Option.bind (f29 a (nthI [0, 1, b 2])) (fun r7 =>
 Option.bind (cond (decide (r7.snd = 0)) (
 some (decide (r7.fst 0 = b 0) && (decide (r7.fst 1 = b 1) && decide (r7.fst 2 = b 2)))) (
 some (false))) (fun r8 =>
 cond (r8) (
 some ((nthI [0, 1, b 2], 0))) (
 Option.bind (f29 a (nthI [1, -1, b 2])) (fun r9 =>
 Option.bind (cond (decide (r9.snd = 0)) (
 some (decide (r9.fst 0 = b 0) && (decide (r9.fst 1 = b 1) && decide (r9.fst 2 = b 2)))) (
 some (false))) (fun r10 =>
 cond (r10) (
 some ((nthI [1, -1, b 2], 0))) (
 Option.bind (f29 a (nthI [1, 0, b 2])) (fun r11 =>
 Option.bind (cond (decide (r11.snd = 0)) (
 some (decide (r11.fst 0 = b 0) && (decide (r11.fst 1 = b 1) && decide (r11.fst 2 = b 2)))) (
 some (false))) (fun r12 =>
 cond (r12) (
 some ((nthI [1, 0, b 2], 0))) (
 Option.bind (f29 a (nthI [1, 1, b 2])) (fun r13 =>
 Option.bind (cond (decide (r13.snd = 0)) (
 some (decide (r13.fst 0 = b 0) && (decide (r13.fst 1 = b 1) && decide (r13.fst 2 = b 2)))) (
 some (false))) (fun r14 =>
 cond (r14) (
 some ((nthI [1, 1, b 2], 0))) (
 Option.bind (f29 a (nthI [2, -1, b 2])) (fun r15 =>
 Option.bind (cond (decide (r15.snd = 0)) (
 some (decide (r15.fst 0 = b 0) && (decide (r15.fst 1 = b 1) && decide (r15.fst 2 = b 2)))) (
 some (false))) (fun r16 =>
 cond (r16) (
 some ((nthI [2, -1, b 2], 0))) (
 Option.bind (f29 a (nthI [2, 0, b 2])) (fun r17 =>
 Option.bind (cond (decide (r17.snd = 0)) (
 some (decide (r17.fst 0 = b 0) && (decide (r17.fst 1 = b 1) && decide (r17.fst 2 = b 2)))) (
 some (false))) (fun r18 =>
 cond (r18) (
 some ((nthI [2, 0, b 2], 0))) (
 Option.bind (f29 a (nthI [2, 1, b 2])) (fun r19 =>
 Option.bind (cond (decide (r19.snd = 0)) (
 some (decide (r19.fst 0 = b 0) && (decide (r19.fst 1 = b 1) && decide (r19.fst 2 = b 2)))) (
 some (false))) (fun r20 =>
 cond (r20) (
 some ((nthI [2, 1, b 2], 0))) (
 Option.bind (f29 a (nthI [3, -1, b 2])) (fun r21 =>
 Option.bind (cond (decide (r21.snd = 0)) (
 some (decide (r21.fst 0 = b 0) && (decide (r21.fst 1 = b 1) && decide (r21.fst 2 = b 2)))) (
 some (false))) (fun r22 =>
 cond (r22) (
 some ((nthI [3, -1, b 2], 0))) (
 Option.bind (f29 a (nthI [3, 0, b 2])) (fun r23 =>
 Option.bind (cond (decide (r23.snd = 0)) (
 some (decide (r23.fst 0 = b 0) && (decide (r23.fst 1 = b 1) && decide (r23.fst 2 = b 2)))) (
 some (false))) (fun r24 =>
 cond (r24) (
 some ((nthI [3, 0, b 2], 0))) (
 Option.bind (f29 a (nthI [3, 1, b 2])) (fun r25 =>
 Option.bind (cond (decide (r25.snd = 0)) (
 some (decide (r25.fst 0 = b 0) && (decide (r25.fst 1 = b 1) && decide (r25.fst 2 = b 2)))) (
 some (false))) (fun r26 =>
 cond (r26) (
 some ((nthI [3, 1, b 2], 0))) (
 Option.bind (f29 a (nthI [4, -1, b 2])) (fun r27 =>
 Option.bind (cond (decide (r27.snd = 0)) (
 some (decide (r27.fst 0 = b 0) && (decide (r27.fst 1 = b 1) && decide (r27.fst 2 = b 2)))) (
 some (false))) (fun r28 =>
 cond (r28) (
 some ((nthI [4, -1, b 2], 0))) (
 Option.bind (f29 a (nthI [4, 0, b 2])) (fun r29 =>
 Option.bind (cond (decide (r29.snd = 0)) (
 some (decide (r29.fst 0 = b 0) && (decide (r29.fst 1 = b 1) && decide (r29.fst 2 = b 2)))) (
 some (false))) (fun r30 =>
 cond (r30) (
 some ((nthI [4, 0, b 2], 0))) (
 Option.bind (f29 a (nthI [4, 1, b 2])) (fun r31 =>
 Option.bind (cond (decide (r31.snd = 0)) (
 some (decide (r31.fst 0 = b 0) && (decide (r31.fst 1 = b 1) && decide (r31.fst 2 = b 2)))) (
 some (false))) (fun r32 =>
 cond (r32) (
 some ((nthI [4, 1, b 2], 0))) (
 Option.bind (f29 a (nthI [5, -1, b 2])) (fun r33 =>
 Option.bind (cond (decide (r33.snd = 0)) (
 some (decide (r33.fst 0 = b 0) && (decide (r33.fst 1 = b 1) && decide (r33.fst 2 = b 2)))) (
 some (false))) (fun r34 =>
 cond (r34) (
 some ((nthI [5, -1, b 2], 0))) (
 Option.bind (f29 a (nthI [5, 0, b 2])) (fun r35 =>
 Option.bind (cond (decide (r35.snd = 0)) (
 some (decide (r35.fst 0 = b 0) && (decide (r35.fst 1 = b 1) && decide (r35.fst 2 = b 2)))) (
 some (false))) (fun r36 =>
 cond (r36) (
 some ((nthI [5, 0, b 2], 0))) (
 Option.bind (f29 a (nthI [5, 1, b 2])) (fun r37 =>
 Option.bind (cond (decide (r37.snd = 0)) (
 some (decide (r37.fst 0 = b 0) && (decide (r37.fst 1 = b 1) && decide (r37.fst 2 = b 2)))) (
 some (false))) (fun r38 =>
 cond (r38) (
 some ((nthI [5, 1, b 2], 0))) (
 Option.bind (f29 a (nthI [6, -1, b 2])) (fun r39 =>
 Option.bind (cond (decide (r39.snd = 0)) (
 some (decide (r39.fst 0 = b 0) && (decide (r39.fst 1 = b 1) && decide (r39.fst 2 = b 2)))) (
 some (false))) (fun r40 =>
 cond (r40) (
 some ((nthI [6, -1, b 2], 0))) (
 Option.bind (f29 a (nthI [6, 0, b 2])) (fun r41 =>
 Option.bind (cond (decide (r41.snd = 0)) (
 some (decide (r41.fst 0 = b 0) && (decide (r41.fst 1 = b 1) && decide (r41.fst 2 = b 2)))) (
 some (false))) (fun r42 =>
 cond (r42) (
 some ((nthI [6, 0, b 2], 0))) (
 Option.bind (f29 a (nthI [6, 1, b 2])) (fun r43 =>
 Option.bind (cond (decide (r43.snd = 0)) (
 some (decide (r43.fst 0 = b 0) && (decide (r43.fst 1 = b 1) && decide (r43.fst 2 = b 2)))) (
 some (false))) (fun r44 =>
 cond (r44) (
 some ((nthI [6, 1, b 2], 0))) (
 Option.bind (f29 a (nthI [7, -1, b 2])) (fun r45 =>
 Option.bind (cond (decide (r45.snd = 0)) (
 some (decide (r45.fst 0 = b 0) && (decide (r45.fst 1 = b 1) && decide (r45.fst 2 = b 2)))) (
 some (false))) (fun r46 =>
 cond (r46) (
 some ((nthI [7, -1, b 2], 0))) (
 Option.bind (f29 a (nthI [7, 0, b 2])) (fun r47 =>
 Option.bind (cond (decide (r47.snd = 0)) (
 some (decide (r47.fst 0 = b 0) && (decide (r47.fst 1 = b 1) && decide (r47.fst 2 = b 2)))) (
 some (false))) (fun r48 =>
 cond (r48) (
 some ((nthI [7, 0, b 2], 0))) (
 Option.bind (f29 a (nthI [7, 1, b 2])) (fun r49 =>
 Option.bind (cond (decide (r49.snd = 0)) (
 some (decide (r49.fst 0 = b 0) && (decide (r49.fst 1 = b 1) && decide (r49.fst 2 = b 2)))) (
 some (false))) (fun r50 =>
 cond (r50) (
 some ((nthI [7, 1, b 2], 0))) (
 Option.bind (f29 a (nthI [8, -1, b 2])) (fun r51 =>
 Option.bind (cond (decide (r51.snd = 0)) (
 some (decide (r51.fst 0 = b 0) && (decide (r51.fst 1 = b 1) && decide (r51.fst 2 = b 2)))) (
 some (false))) (fun r52 =>
 cond (r52) (
 some ((nthI [8, -1, b 2], 0))) (
 Option.bind (f29 a (nthI [8, 0, b 2])) (fun r53 =>
 Option.bind (cond (decide (r53.snd = 0)) (
 some (decide (r53.fst 0 = b 0) && (decide (r53.fst 1 = b 1) && decide (r53.fst 2 = b 2)))) (
 some (false))) (fun r54 =>
 cond (r54) (
 some ((nthI [8, 0, b 2], 0))) (
 Option.bind (f29 a (nthI [8, 1, b 2])) (fun r55 =>
 Option.bind (cond (decide (r55.snd = 0)) (
 some (decide (r55.fst 0 = b 0) && (decide (r55.fst 1 = b 1) && decide (r55.fst 2 = b 2)))) (
 some (false))) (fun r56 =>
 cond (r56) (
 some ((nthI [8, 1, b 2], 0))) (
 some ((nthI [0, 0, 0], 2)))))))))))))))))))))))))))))))))))))))))))))))))))))))))))))))))))))))))))))))))))))) : Option ((Nat → Int) × Int))) xx.1 xx.2 := by kernel_rfl
theorem ok37 : CtxOK Tryd.prog (cx [(29, conF (cCons (cI .i64) (cOne (cA .i64 3))) (rTup (cCons (cA .i64 3) (cOne (cI .i64)))) (fun a => f29 a.1 a.2)), (39, conF (cCons (cI .i64) (cOne (cA .i64 3))) (rOne (cI .i64)) (fun a => f39 a.1 a.2))] true) gl := ctx_of tyOk moOk (show SpecL Tryd.prog gG gl [(29, conF (cCons (cI .i64) (cOne (cA .i64 3))) (rTup (cCons (cA .i64 3) (cOne (cI .i64)))) (fun a => f29 a.1 a.2)), (39, conF (cCons (cI .i64) (cOne (cA .i64 3))) (rOne (cI .i64)) (fun a => f39 a.1 a.2))] from ⟨sp29, sp39, trivial⟩) fnOk joinOk
noncomputable def g37 (a : Int) (b : Nat → Int) : Option ((Nat → Int) × Int) :=
 Option.bind (f39 a (nthI [b 0, b 1, b 2])) (fun r2 =>
 cond (!decide (r2 = 0)) (
 some ((nthI [0, 0, 0], r2))) (
 Option.bind (f29 a (nthI [0, -1, b 2])) (fun r3 =>
 Option.bind (cond (decide (r3.snd = 0)) (
 some (decide (r3.fst 0 = b 0) && (decide (r3.fst 1 = b 1) && decide (r3.fst 2 = b 2)))) (
 some (false))) (fun r4 =>
 cond (r4) (
 some ((nthI [0, -1, b 2], 0))) (
 Option.bind (f29 a (nthI [0, 0, b 2])) (fun r5 =>
 Option.bind (cond (decide (r5.snd = 0)) (
 some (decide (r5.fst 0 = b 0) && (decide (r5.fst 1 = b 1) && decide (r5.fst 2 = b 2)))) (
 some (false))) (fun r6 =>
 cond (r6) (
 some ((nthI [0, 0, b 2], 0))) (
 Option.bind (f29 a (nthI [0, 1, b 2])) (fun r7 =>
 Option.bind (cond (decide (r7.snd = 0)) (
 some (decide (r7.fst 0 = b 0) && (decide (r7.fst 1 = b 1) && decide (r7.fst 2 = b 2)))) (
 some (false))) (fun r8 =>
 cond (r8) (
 some ((nthI [0, 1, b 2], 0))) (
 Option.bind (f29 a (nthI [1, -1, b 2])) (fun r9 =>
 Option.bind (cond (decide (r9.snd = 0)) (
 some (decide (r9.fst 0 = b 0) && (decide (r9.fst 1 = b 1) && decide (r9.fst 2 = b 2)))) (
 some (false))) (fun r10 =>
 cond (r10) (
 some ((nthI [1, -1, b 2], 0))) (
 Option.bind (f29 a (nthI [1, 0, b 2])) (fun r11 =>
 Option.bind (cond (decide (r11.snd = 0)) (
 some (decide (r11.fst 0 = b 0) && (decide (r11.fst 1 = b 1) && decide (r11.fst 2 = b 2)))) (
 some (false))) (fun r12 =>
 cond (r12) (
 some ((nthI [1, 0, b 2], 0))) (
 Option.bind (f29 a (nthI [1, 1, b 2])) (fun r13 =>
 Option.bind (cond (decide (r13.snd = 0)) (
 some (decide (r13.fst 0 = b 0) && (decide (r13.fst 1 = b 1) && decide (r13.fst 2 = b 2)))) (
 some (false))) (fun r14 =>
 cond (r14) (
 some ((nthI [1, 1, b 2], 0))) (
 Option.bind (f29 a (nthI [2, -1, b 2])) (fun r15 =>
 Option.bind (cond (decide (r15.snd = 0)) (
 some (decide (r15.fst 0 = b 0) && (decide (r15.fst 1 = b 1) && decide (r15.fst 2 = b 2)))) (
 some (false))) (fun r16 =>
 cond (r16) (
 some ((nthI [2, -1, b 2], 0))) (
 Option.bind (f29 a (nthI [2, 0, b 2])) (fun r17 =>
 Option.bind (cond (decide (r17.snd = 0)) (
 some (decide (r17.fst 0 = b 0) && (decide (r17.fst 1 = b 1) && decide (r17.fst 2 = b 2)))) (
 some (false))) (fun r18 =>
 cond (r18) (
 some ((nthI [2, 0, b 2], 0))) (
 Option.bind (f29 a (nthI [2, 1, b 2])) (fun r19 =>
 Option.bind (cond (decide (r19.snd = 0)) (
 some (decide (r19.fst 0 = b 0) && (decide (r19.fst 1 = b 1) && decide (r19.fst 2 = b 2)))) (
 some (false))) (fun r20 =>
 cond (r20) (
 some ((nthI [2, 1, b 2], 0))) (
 Option.bind (f29 a (nthI [3, -1, b 2])) (fun r21 =>
 Option.bind (cond (decide (r21.snd = 0)) (
 some (decide (r21.fst 0 = b 0) && (decide (r21.fst 1 = b 1) && decide (r21.fst 2 = b 2)))) (
 some (false))) (fun r22 =>
 cond (r22) (
 some ((nthI [3, -1, b 2], 0))) (
 Option.bind (f29 a (nthI [3, 0, b 2])) (fun r23 =>
 Option.bind (cond (decide (r23.snd = 0)) (
 some (decide (r23.fst 0 = b 0) && (decide (r23.fst 1 = b 1) && decide (r23.fst 2 = b 2)))) (
 some (false))) (fun r24 =>
 cond (r24) (
 some ((nthI [3, 0, b 2], 0))) (
 Option.bind (f29 a (nthI [3, 1, b 2])) (fun r25 =>
 Option.bind (cond (decide (r25.snd = 0)) (
 some (decide (r25.fst 0 = b 0) && (decide (r25.fst 1 = b 1) && decide (r25.fst 2 = b 2)))) (
 some (false))) (fun r26 =>
 cond (r26) (
 some ((nthI [3, 1, b 2], 0))) (
 Option.bind (f29 a (nthI [4, -1, b 2])) (fun r27 =>
 Option.bind (cond (decide (r27.snd = 0)) (
 some (decide (r27.fst 0 = b 0) && (decide (r27.fst 1 = b 1) && decide (r27.fst 2 = b 2)))) (
 some (false))) (fun r28 =>
 cond (r28) (
 some ((nthI [4, -1, b 2], 0))) (
 Option.bind (f29 a (nthI [4, 0, b 2])) (fun r29 =>
 Option.bind (cond (decide (r29.snd = 0)) (
 some (decide (r29.fst 0 = b 0) && (decide (r29.fst 1 = b 1) && decide (r29.fst 2 = b 2)))) (
 some (false))) (fun r30 =>
 cond (r30) (
 some ((nthI [4, 0, b 2], 0))) (
 Option.bind (f29 a (nthI [4, 1, b 2])) (fun r31 =>
 Option.bind (cond (decide (r31.snd = 0)) (
 some (decide (r31.fst 0 = b 0) && (decide (r31.fst 1 = b 1) && decide (r31.fst 2 = b 2)))) (
 some (false))) (fun r32 =>
 cond (r32) (
 some ((nthI [4, 1, b 2], 0))) (
 Option.bind (f29 a (nthI [5, -1, b 2])) (fun r33 =>
 Option.bind (cond (decide (r33.snd = 0)) (
 some (decide (r33.fst 0 = b 0) && (decide (r33.fst 1 = b 1) && decide (r33.fst 2 = b 2)))) (
 some (false))) (fun r34 =>
 cond (r34) (
 some ((nthI [5, -1, b 2], 0))) (
 Option.bind (f29 a (nthI [5, 0, b 2])) (fun r35 =>
 Option.bind (cond (decide (r35.snd = 0)) (
 some (decide (r35.fst 0 = b 0) && (decide (r35.fst 1 = b 1) && decide (r35.fst 2 = b 2)))) (
 some (false))) (fun r36 =>
 cond (r36) (
 some ((nthI [5, 0, b 2], 0))) (
 Option.bind (f29 a (nthI [5, 1, b 2])) (fun r37 =>
 Option.bind (cond (decide (r37.snd = 0)) (
 some (decide (r37.fst 0 = b 0) && (decide (r37.fst 1 = b 1) && decide (r37.fst 2 = b 2)))) (
 some (false))) (fun r38 =>
 cond (r38) (
 some ((nthI [5, 1, b 2], 0))) (
 Option.bind (f29 a (nthI [6, -1, b 2])) (fun r39 =>
 Option.bind (cond (decide (r39.snd = 0)) (
 some (decide (r39.fst 0 = b 0) && (decide (r39.fst 1 = b 1) && decide (r39.fst 2 = b 2)))) (
 some (false))) (fun r40 =>
 cond (r40) (
 some ((nthI [6, -1, b 2], 0))) (
 Option.bind (f29 a (nthI [6, 0, b 2])) (fun r41 =>
 Option.bind (cond (decide (r41.snd = 0)) (
 some (decide (r41.fst 0 = b 0) && (decide (r41.fst 1 = b 1) && decide (r41.fst 2 = b 2)))) (
 some (false))) (fun r42 =>
 cond (r42) (
 some ((nthI [6, 0, b 2], 0))) (
 Option.bind (f29 a (nthI [6, 1, b 2])) (fun r43 =>
 Option.bind (cond (decide (r43.snd = 0)) (
 some (decide (r43.fst 0 = b 0) && (decide (r43.fst 1 = b 1) && decide (r43.fst 2 = b 2)))) (
 some (false))) (fun r44 =>
 cond (r44) (
 some ((nthI [6, 1, b 2], 0))) (
 Option.bind (f29 a (nthI [7, -1, b 2])) (fun r45 =>
 Option.bind (cond (decide (r45.snd = 0)) (
 some (decide (r45.fst 0 = b 0) && (decide (r45.fst 1 = b 1) && decide (r45.fst 2 = b 2)))) (
 some (false))) (fun r46 =>
 cond (r46) (
 some ((nthI [7, -1, b 2], 0))) (
 Option.bind (f29 a (nthI [7, 0, b 2])) (fun r47 =>
 Option.bind (cond (decide (r47.snd = 0)) (
 some (decide (r47.fst 0 = b 0) && (decide (r47.fst 1 = b 1) && decide (r47.fst 2 = b 2)))) (
 some (false))) (fun r48 =>
 cond (r48) (
 some ((nthI [7, 0, b 2], 0))) (
 Option.bind (f29 a (nthI [7, 1, b 2])) (fun r49 =>
 Option.bind (cond (decide (r49.snd = 0)) (
 some (decide (r49.fst 0 = b 0) && (decide (r49.fst 1 = b 1) && decide (r49.fst 2 = b 2)))) (
 some (false))) (fun r50 =>
 cond (r50) (
 some ((nthI [7, 1, b 2], 0))) (
 Option.bind (f29 a (nthI [8, -1, b 2])) (fun r51 =>
 Option.bind (cond (decide (r51.snd = 0)) (
 some (decide (r51.fst 0 = b 0) && (decide (r51.fst 1 = b 1) && decide (r51.fst 2 = b 2)))) (
 some (false))) (fun r52 =>
 cond (r52) (
 some ((nthI [8, -1, b 2], 0))) (
 Option.bind (f29 a (nthI [8, 0, b 2])) (fun r53 =>
 Option.bind (cond (decide (r53.snd = 0)) (
 some (decide (r53.fst 0 = b 0) && (decide (r53.fst 1 = b 1) && decide (r53.fst 2 = b 2)))) (
 some (false))) (fun r54 =>
 cond (r54) (
 some ((nthI [8, 0, b 2], 0))) (
 Option.bind (f29 a (nthI [8, 1, b 2])) (fun r55 =>
 Option.bind (cond (decide (r55.snd = 0)) (
 some (decide (r55.fst 0 = b 0) && (decide (r55.fst 1 = b 1) && decide (r55.fst 2 = b 2)))) (
 some (false))) (fun r56 =>
 cond (r56) (
 some ((nthI [8, 1, b 2], 0))) (
 some ((nthI [0, 0, 0], 2)))))))))))))))))))))))))))))))))))))))))))))))))))))))))))))))))))))))))))))))))))))
theorem fg37 (a : Int) (b : Nat → Int) : g37 a b = f37 a b := by kernel_rfl
theorem ev37 (a : (cCons (cI .i64) (cOne (cA .i64 3))).T) : evF (R := (rTup (cCons (cA .i64 3) (cOne (cI .i64)))).T) (cx [(29, conF (cCons (cI .i64) (cOne (cA .i64 3))) (rTup (cCons (cA .i64 3) (cOne (cI .i64)))) (fun a => f29 a.1 a.2)), (39, conF (cCons (cI .i64) (cOne (cA .i64 3))) (rOne (cI .i64)) (fun a => f39 a.1 a.2))] true) 1000 Tryd.f37 ((cCons (cI .i64) (cOne (cA .i64 3))).enc a) (glMem gl) gG (rTup (cCons (cA .i64 3) (cOne (cI .i64)))).dec = f37 a.1 a.2 := (show evF (R := (rTup (cCons (cA .i64 3) (cOne (cI .i64)))).T) (cx [(29, conF (cCons (cI .i64) (cOne (cA .i64 3))) (rTup (cCons (cA .i64 3) (cOne (cI .i64)))) (fun a => f29 a.1 a.2)), (39, conF (cCons (cI .i64) (cOne (cA .i64 3))) (rOne (cI .i64)) (fun a => f39 a.1 a.2))] true) 1000 Tryd.f37 ((cCons (cI .i64) (cOne (cA .i64 3))).enc a) (glMem gl) gG (rTup (cCons (cA .i64 3) (cOne (cI .i64)))).dec = g37 a.1 a.2 from evg37 f29 f39 a).trans (fg37 a.1 a.2)
theorem sp37 : VE.Spec Tryd.prog gG gl 37 (conF (cCons (cI .i64) (cOne (cA .i64 3))) (rTup (cCons (cA .i64 3) (cOne (cI .i64)))) (fun a => f37 a.1 a.2)) := spec_of ok37 Tryd.func37 Tryd.call37 1000 (cCons_ok (cI_ok _) (cOne_ok (cA_ok _ _))) (rTup_ok (cCons_ok (cA_ok _ _) (cOne_ok (cI_ok _)))) ev37
noncomputable abbrev con37 : List (Nat × (List AV → Option ConR)) := [(29, conF (cCons (cI .i64) (cOne (cA .i64 3))) (rTup (cCons (cA .i64 3) (cOne (cI .i64)))) (fun a => f29 a.1 a.2)), (39, conF (cCons (cI .i64) (cOne (cA .i64 3))) (rOne (cI .i64)) (fun a => f39 a.1 a.2))]

/-- dancestudioref19.Notate -/
noncomputable def f17 (a : Nat → Int) (b : Int) : Option ((Nat → Int) × Int) :=
 Option.bind (f19 a) (fun r2 =>
 cond (!decide (r2 = 0)) (
 some ((nthI tab1, r2))) (
 cond (!decide ((a 2).tmod 32 = 0)) (
 some ((nthI tab1, 2))) (
 cond (!decide ((a 3).tmod 8 = 0)) (
 some ((nthI tab1, 2))) (
 Option.bind (f37 0 (nthI [a 4, a 5, a 6])) (fun r3 =>
 cond (!decide (r3.snd = 0)) (
 some ((nthI tab1, r3.snd))) (
 Option.bind (f37 1 (nthI [a 7, a 8, a 9])) (fun r4 =>
 cond (!decide (r4.snd = 0)) (
 some ((nthI tab1, r4.snd))) (
 Option.bind (f37 2 (nthI [a 10, a 11, a 12])) (fun r5 =>
 cond (!decide (r5.snd = 0)) (
 some ((nthI tab1, r5.snd))) (
 Option.bind (f37 3 (nthI [a 13, a 14, a 15])) (fun r6 =>
 cond (!decide (r6.snd = 0)) (
 some ((nthI tab1, r6.snd))) (
 Option.bind (f37 4 (nthI [a 16, a 17, a 18])) (fun r7 =>
 cond (!decide (r7.snd = 0)) (
 some ((nthI tab1, r7.snd))) (
 Option.bind (f37 5 (nthI [a 19, a 20, a 21])) (fun r8 =>
 cond (!decide (r8.snd = 0)) (
 some ((nthI tab1, r8.snd))) (
 Option.bind (f14 (nthI [a 0, a 1, IntKind.i64.wrap ((a 2).tdiv 32), IntKind.i64.wrap ((a 3).tdiv 8), b, r3.fst 0, r3.fst 1, r3.fst 2, r4.fst 0, r4.fst 1, r4.fst 2, r5.fst 0, r5.fst 1, r5.fst 2, r6.fst 0, r6.fst 1, r6.fst 2, r7.fst 0, r7.fst 1, r7.fst 2, r8.fst 0, r8.fst 1, r8.fst 2])) (fun r9 =>
 cond (!decide (r9 = 0)) (
 some ((nthI tab1, r9))) (
 some ((nthI [a 0, a 1, IntKind.i64.wrap ((a 2).tdiv 32), IntKind.i64.wrap ((a 3).tdiv 8), b, r3.fst 0, r3.fst 1, r3.fst 2, r4.fst 0, r4.fst 1, r4.fst 2, r5.fst 0, r5.fst 1, r5.fst 2, r6.fst 0, r6.fst 1, r6.fst 2, r7.fst 0, r7.fst 1, r7.fst 2, r8.fst 0, r8.fst 1, r8.fst 2], 0))))))))))))))))))))
theorem evg17 (f14 : (Nat → Int) → Option (Int)) (f19 : (Nat → Int) → Option (Int)) (f37 : (Int) → (Nat → Int) → Option ((Nat → Int) × Int)) (xx : (cCons (cA .i64 22) (cOne (cI .i64))).T) : evF (R := (rTup (cCons (cA .i64 23) (cOne (cI .i64)))).T) (cx [(14, conF (cOne (cA .i64 23)) (rOne (cI .i64)) (fun a => f14 a)), (19, conF (cOne (cA .i64 22)) (rOne (cI .i64)) (fun a => f19 a)), (37, conF (cCons (cI .i64) (cOne (cA .i64 3))) (rTup (cCons (cA .i64 3) (cOne (cI .i64)))) (fun a => f37 a.1 a.2))]) 1000 Tryd.f17 ((cCons (cA .i64 22) (cOne (cI .i64))).enc xx) (glMem gl) gG (rTup (cCons (cA .i64 23) (cOne (cI .i64)))).dec =
 (fun (a : Nat → Int) (b : Int) =>
 (( Option.bind (f19 (nthI [a 0, a 1, a 2, a 3, a 4, a 5, a 6, a 7, a 8, a 9, a 10, a 11, a 12, a 13, a 14, a 15, a 16, a 17, a 18, a 19, a 20, a 21])) (fun r2 =>
 cond (!decide (r2 = 0)) (
 some ((nthI tab1, r2))) (
 cond (!decide ((a 2).tmod 32 = 0)) (
 some ((nthI tab1, 2))) (
 cond (!decide ((a 3).tmod 8 = 0)) (
 some ((nthI tab1, 2))) (
 Option.bind (f37 0 (nthI [a 4, a 5, a 6])) (fun r3 =>
 cond (!decide (r3.snd = 0)) (
 some ((nthI tab1, r3.snd))) (
 Option.bind (f37 1 (nthI [a 7, a 8, a 9])) (fun r4 =>
 cond (!decide (r4.snd = 0)) (
 some ((nthI tab1, r4.snd))) (
 Option.bind (f37 2 (nthI [a 10, a 11, a 12])) (fun r5 =>
 cond (!decide (r5.snd = 0)) (
 some ((nthI tab1, r5.snd))) (
 Option.bind (f37 3 (nthI [a 13, a 14, a 15])) (fun r6 =>
 cond (!decide (r6.snd = 0)) (
 some ((nthI tab1, r6.snd))) (
 Option.bind (f37 4 (nthI [a 16, a 17, a 18])) (fun r7 =>
 cond (!decide (r7.snd = 0)) (
 some ((nthI tab1, r7.snd))) (
 Option.bind (f37 5 (nthI [a 19, a 20, a 21])) (fun r8 =>
 cond (!decide (r8.snd = 0)) (
 some ((nthI tab1, r8.snd))) (
 Option.bind (f14 (nthI [a 0, a 1, IntKind.i64.wrap ((a 2).tdiv 32), IntKind.i64.wrap ((a 3).tdiv 8), b, r3.fst 0, r3.fst 1, r3.fst 2, r4.fst 0, r4.fst 1, r4.fst 2, r5.fst 0, r5.fst 1, r5.fst 2, r6.fst 0, r6.fst 1, r6.fst 2, r7.fst 0, r7.fst 1, r7.fst 2, r8.fst 0, r8.fst 1, r8.fst 2])) (fun r9 =>
 cond (!decide (r9 = 0)) (
 some ((nthI tab1, r9))) (
 some ((nthI [a 0, a 1, IntKind.i64.wrap ((a 2).tdiv 32), IntKind.i64.wrap ((a 3).tdiv 8), b, r3.fst 0, r3.fst 1, r3.fst 2, r4.fst 0, r4.fst 1, r4.fst 2, r5.fst 0, r5.fst 1, r5.fst 2, r6.fst 0, r6.fst 1, r6.fst 2, r7.fst 0, r7.fst 1, r7.fst 2, r8.fst 0, r8.fst 1, r8.fst 2], 0))))))))))))))))))))) : Option ((Nat → Int) × Int))) xx.1 xx.2 := by kernel_rfl
theorem ok17 : CtxOK Tryd.prog (cx [(14, conF (cOne (cA .i64 23)) (rOne (cI .i64)) (fun a => f14 a)), (19, conF (cOne (cA .i64 22)) (rOne (cI .i64)) (fun a => f19 a)), (37, conF (cCons (cI .i64) (cOne (cA .i64 3))) (rTup (cCons (cA .i64 3) (cOne (cI .i64)))) (fun a => f37 a.1 a.2))]) gl := ctx_of tyOk moOk (show SpecL Tryd.prog gG gl [(14, conF (cOne (cA .i64 23)) (rOne (cI .i64)) (fun a => f14 a)), (19, conF (cOne (cA .i64 22)) (rOne (cI .i64)) (fun a => f19 a)), (37, conF (cCons (cI .i64) (cOne (cA .i64 3))) (rTup (cCons (cA .i64 3) (cOne (cI .i64)))) (fun a => f37 a.1 a.2))] from ⟨sp14, sp19, sp37, trivial⟩) fnOk joinOk
noncomputable def g17 (a : Nat → Int) (b : Int) : Option ((Nat → Int) × Int) :=
 Option.bind (f19 (nthI [a 0, a 1, a 2, a 3, a 4, a 5, a 6, a 7, a 8, a 9, a 10, a 11, a 12, a 13, a 14, a 15, a 16, a 17, a 18, a 19, a 20, a 21])) (fun r2 =>
 cond (!decide (r2 = 0)) (
 some ((nthI tab1, r2))) (
 cond (!decide ((a 2).tmod 32 = 0)) (
 some ((nthI tab1, 2))) (
 cond (!decide ((a 3).tmod 8 = 0)) (
 some ((nthI tab1, 2))) (
 Option.bind (f37 0 (nthI [a 4, a 5, a 6])) (fun r3 =>
 cond (!decide (r3.snd = 0)) (
 some ((nthI tab1, r3.snd))) (
 Option.bind (f37 1 (nthI [a 7, a 8, a 9])) (fun r4 =>
 cond (!decide (r4.snd = 0)) (
 some ((nthI tab1, r4.snd))) (
 Option.bind (f37 2 (nthI [a 10, a 11, a 12])) (fun r5 =>
 cond (!decide (r5.snd = 0)) (
 some ((nthI tab1, r5.snd))) (
 Option.bind (f37 3 (nthI [a 13, a 14, a 15])) (fun r6 =>
 cond (!decide (r6.snd = 0)) (
 some ((nthI tab1, r6.snd))) (
 Option.bind (f37 4 (nthI [a 16, a 17, a 18])) (fun r7 =>
 cond (!decide (r7.snd = 0)) (
 some ((nthI tab1, r7.snd))) (
 Option.bind (f37 5 (nthI [a 19, a 20, a 21])) (fun r8 =>
 cond (!decide (r8.snd = 0)) (
 some ((nthI tab1, r8.snd))) (
 Option.bind (f14 (nthI [a 0, a 1, IntKind.i64.wrap ((a 2).tdiv 32), IntKind.i64.wrap ((a 3).tdiv 8), b, r3.fst 0, r3.fst 1, r3.fst 2, r4.fst 0, r4.fst 1, r4.fst 2, r5.fst 0, r5.fst 1, r5.fst 2, r6.fst 0, r6.fst 1, r6.fst 2, r7.fst 0, r7.fst 1, r7.fst 2, r8.fst 0, r8.fst 1, r8.fst 2])) (fun r9 =>
 cond (!decide (r9 = 0)) (
 some ((nthI tab1, r9))) (
 some ((nthI [a 0, a 1, IntKind.i64.wrap ((a 2).tdiv 32), IntKind.i64.wrap ((a 3).tdiv 8), b, r3.fst 0, r3.fst 1, r3.fst 2, r4.fst 0, r4.fst 1, r4.fst 2, r5.fst 0, r5.fst 1, r5.fst 2, r6.fst 0, r6.fst 1, r6.fst 2, r7.fst 0, r7.fst 1, r7.fst 2, r8.fst 0, r8.fst 1, r8.fst 2], 0))))))))))))))))))))
theorem fg17 (a : Nat → Int) (b : Int) : g17 a b = f17 a b := by kernel_rfl
theorem ev17 (a : (cCons (cA .i64 22) (cOne (cI .i64))).T) : evF (R := (rTup (cCons (cA .i64 23) (cOne (cI .i64)))).T) (cx [(14, conF (cOne (cA .i64 23)) (rOne (cI .i64)) (fun a => f14 a)), (19, conF (cOne (cA .i64 22)) (rOne (cI .i64)) (fun a => f19 a)), (37, conF (cCons (cI .i64) (cOne (cA .i64 3))) (rTup (cCons (cA .i64 3) (cOne (cI .i64)))) (fun a => f37 a.1 a.2))]) 1000 Tryd.f17 ((cCons (cA .i64 22) (cOne (cI .i64))).enc a) (glMem gl) gG (rTup (cCons (cA .i64 23) (cOne (cI .i64)))).dec = f17 a.1 a.2 := (show evF (R := (rTup (cCons (cA .i64 23) (cOne (cI .i64)))).T) (cx [(14, conF (cOne (cA .i64 23)) (rOne (cI .i64)) (fun a => f14 a)), (19, conF (cOne (cA .i64 22)) (rOne (cI .i64)) (fun a => f19 a)), (37, conF (cCons (cI .i64) (cOne (cA .i64 3))) (rTup (cCons (cA .i64 3) (cOne (cI .i64)))) (fun a => f37 a.1 a.2))]) 1000 Tryd.f17 ((cCons (cA .i64 22) (cOne (cI .i64))).enc a) (glMem gl) gG (rTup (cCons (cA .i64 23) (cOne (cI .i64)))).dec = g17 a.1 a.2 from evg17 f14 f19 f37 a).trans (fg17 a.1 a.2)
theorem sp17 : VE.Spec Tryd.prog gG gl 17 (conF (cCons (cA .i64 22) (cOne (cI .i64))) (rTup (cCons (cA .i64 23) (cOne (cI .i64)))) (fun a => f17 a.1 a.2)) := spec_of ok17 Tryd.func17 Tryd.call17 1000 (cCons_ok (cA_ok _ _) (cOne_ok (cI_ok _))) (rTup_ok (cCons_ok (cA_ok _ _) (cOne_ok (cI_ok _)))) ev17
noncomputable abbrev con17 : List (Nat × (List AV → Option ConR)) := [(14, conF (cOne (cA .i64 23)) (rOne (cI .i64)) (fun a => f14 a)), (19, conF (cOne (cA .i64 22)) (rOne (cI .i64)) (fun a => f19 a)), (37, conF (cCons (cI .i64) (cOne (cA .i64 3))) (rTup (cCons (cA .i64 3) (cOne (cI .i64)))) (fun a => f37 a.1 a.2))]

/-- dancestudiolaw19.PostureNotates -/
noncomputable def f4 (a : Nat → Int) (b : Int) : Option (Bool) :=
 Option.bind (f16 a b) (fun r2 =>
 Option.bind (f17 a b) (fun r3 =>
 Option.bind (f18 a) (fun r4 =>
 Option.bind (f19 a) (fun r5 =>
 cond (decide (r4 = r5)) (
 cond (decide (r2.fst 0 = r3.fst 0) && decide (r2.fst 1 = r3.fst 1) && (decide (r2.fst 2 = r3.fst 2) && (decide (r2.fst 3 = r3.fst 3) && (decide (r2.fst 4 = r3.fst 4) && (decide (r2.fst 5 = r3.fst 5) && (decide (r2.fst 6 = r3.fst 6) && decide (r2.fst 7 = r3.fst 7)) && (decide (r2.fst 8 = r3.fst 8) && (decide (r2.fst 9 = r3.fst 9) && decide (r2.fst 10 = r3.fst 10)) && (decide (r2.fst 11 = r3.fst 11) && (decide (r2.fst 12 = r3.fst 12) && decide (r2.fst 13 = r3.fst 13)) && (decide (r2.fst 14 = r3.fst 14) && (decide (r2.fst 15 = r3.fst 15) && decide (r2.fst 16 = r3.fst 16)) && (decide (r2.fst 17 = r3.fst 17) && (decide (r2.fst 18 = r3.fst 18) && decide (r2.fst 19 = r3.fst 19)) && (decide (r2.fst 20 = r3.fst 20) && (decide (r2.fst 21 = r3.fst 21) && decide (r2.fst 22 = r3.fst 22)))))))))))) (
 cond (decide (r2.snd = r3.snd)) (
 some (true)) (
 some (false))) (
 some (false))) (
 some (false))))))
theorem evg4 (f16 : (Nat → Int) → (Int) → Option ((Nat → Int) × Int)) (f17 : (Nat → Int) → (Int) → Option ((Nat → Int) × Int)) (f18 : (Nat → Int) → Option (Int)) (f19 : (Nat → Int) → Option (Int)) (xx : (cCons (cA .i64 22) (cOne (cI .i64))).T) : evF (R := (rOne (cB)).T) (cx [(15, conF (cNil) (rOne (cB)) (fun a => f15)), (16, conF (cCons (cA .i64 22) (cOne (cI .i64))) (rTup (cCons (cA .i64 23) (cOne (cI .i64)))) (fun a => f16 a.1 a.2)), (17, conF (cCons (cA .i64 22) (cOne (cI .i64))) (rTup (cCons (cA .i64 23) (cOne (cI .i64)))) (fun a => f17 a.1 a.2)), (18, conF (cOne (cA .i64 22)) (rOne (cI .i64)) (fun a => f18 a)), (19, conF (cOne (cA .i64 22)) (rOne (cI .i64)) (fun a => f19 a))]) 1000 Tryd.f4 ((cCons (cA .i64 22) (cOne (cI .i64))).enc xx) (glMem gl) gG (rOne (cB)).dec =
 (fun (a : Nat → Int) (b : Int) =>
 (( Option.bind (f16 (nthI [a 0, a 1, a 2, a 3, a 4, a 5, a 6, a 7, a 8, a 9, a 10, a 11, a 12, a 13, a 14, a 15, a 16, a 17, a 18, a 19, a 20, a 21]) b) (fun r2 =>
 Option.bind (f17 (nthI [a 0, a 1, a 2, a 3, a 4, a 5, a 6, a 7, a 8, a 9, a 10, a 11, a 12, a 13, a 14, a 15, a 16, a 17, a 18, a 19, a 20, a 21]) b) (fun r3 =>
 Option.bind (f18 (nthI [a 0, a 1, a 2, a 3, a 4, a 5, a 6, a 7, a 8, a 9, a 10, a 11, a 12, a 13, a 14, a 15, a 16, a 17, a 18, a 19, a 20, a 21])) (fun r4 =>
 Option.bind (f19 (nthI [a 0, a 1, a 2, a 3, a 4, a 5, a 6, a 7, a 8, a 9, a 10, a 11, a 12, a 13, a 14, a 15, a 16, a 17, a 18, a 19, a 20, a 21])) (fun r5 =>
 cond (decide (r4 = r5)) (
 cond (decide (r2.fst 0 = r3.fst 0) && decide (r2.fst 1 = r3.fst 1) && (decide (r2.fst 2 = r3.fst 2) && (decide (r2.fst 3 = r3.fst 3) && (decide (r2.fst 4 = r3.fst 4) && (decide (r2.fst 5 = r3.fst 5) && (decide (r2.fst 6 = r3.fst 6) && decide (r2.fst 7 = r3.fst 7)) && (decide (r2.fst 8 = r3.fst 8) && (decide (r2.fst 9 = r3.fst 9) && decide (r2.fst 10 = r3.fst 10)) && (decide (r2.fst 11 = r3.fst 11) && (decide (r2.fst 12 = r3.fst 12) && decide (r2.fst 13 = r3.fst 13)) && (decide (r2.fst 14 = r3.fst 14) && (decide (r2.fst 15 = r3.fst 15) && decide (r2.fst 16 = r3.fst 16)) && (decide (r2.fst 17 = r3.fst 17) && (decide (r2.fst 18 = r3.fst 18) && decide (r2.fst 19 = r3.fst 19)) && (decide (r2.fst 20 = r3.fst 20) && (decide (r2.fst 21 = r3.fst 21) && decide (r2.fst 22 = r3.fst 22)))))))))))) (
 cond (decide (r2.snd = r3.snd)) (
 some (true)) (
 some (false))) (
 some (false))) (
 some (false))))))) : Option (Bool))) xx.1 xx.2 := by kernel_rfl
theorem ok4 : CtxOK Tryd.prog (cx [(15, conF (cNil) (rOne (cB)) (fun a => f15)), (16, conF (cCons (cA .i64 22) (cOne (cI .i64))) (rTup (cCons (cA .i64 23) (cOne (cI .i64)))) (fun a => f16 a.1 a.2)), (17, conF (cCons (cA .i64 22) (cOne (cI .i64))) (rTup (cCons (cA .i64 23) (cOne (cI .i64)))) (fun a => f17 a.1 a.2)), (18, conF (cOne (cA .i64 22)) (rOne (cI .i64)) (fun a => f18 a)), (19, conF (cOne (cA .i64 22)) (rOne (cI .i64)) (fun a => f19 a))]) gl := ctx_of tyOk moOk (show SpecL Tryd.prog gG gl [(15, conF (cNil) (rOne (cB)) (fun a => f15)), (16, conF (cCons (cA .i64 22) (cOne (cI .i64))) (rTup (cCons (cA .i64 23) (cOne (cI .i64)))) (fun a => f16 a.1 a.2)), (17, conF (cCons (cA .i64 22) (cOne (cI .i64))) (rTup (cCons (cA .i64 23) (cOne (cI .i64)))) (fun a => f17 a.1 a.2)), (18, conF (cOne (cA .i64 22)) (rOne (cI .i64)) (fun a => f18 a)), (19, conF (cOne (cA .i64 22)) (rOne (cI .i64)) (fun a => f19 a))] from ⟨sp15, sp16, sp17, sp18, sp19, trivial⟩) fnOk joinOk
noncomputable def g4 (a : Nat → Int) (b : Int) : Option (Bool) :=
 Option.bind (f16 (nthI [a 0, a 1, a 2, a 3, a 4, a 5, a 6, a 7, a 8, a 9, a 10, a 11, a 12, a 13, a 14, a 15, a 16, a 17, a 18, a 19, a 20, a 21]) b) (fun r2 =>
 Option.bind (f17 (nthI [a 0, a 1, a 2, a 3, a 4, a 5, a 6, a 7, a 8, a 9, a 10, a 11, a 12, a 13, a 14, a 15, a 16, a 17, a 18, a 19, a 20, a 21]) b) (fun r3 =>
 Option.bind (f18 (nthI [a 0, a 1, a 2, a 3, a 4, a 5, a 6, a 7, a 8, a 9, a 10, a 11, a 12, a 13, a 14, a 15, a 16, a 17, a 18, a 19, a 20, a 21])) (fun r4 =>
 Option.bind (f19 (nthI [a 0, a 1, a 2, a 3, a 4, a 5, a 6, a 7, a 8, a 9, a 10, a 11, a 12, a 13, a 14, a 15, a 16, a 17, a 18, a 19, a 20, a 21])) (fun r5 =>
 cond (decide (r4 = r5)) (
 cond (decide (r2.fst 0 = r3.fst 0) && decide (r2.fst 1 = r3.fst 1) && (decide (r2.fst 2 = r3.fst 2) && (decide (r2.fst 3 = r3.fst 3) && (decide (r2.fst 4 = r3.fst 4) && (decide (r2.fst 5 = r3.fst 5) && (decide (r2.fst 6 = r3.fst 6) && decide (r2.fst 7 = r3.fst 7)) && (decide (r2.fst 8 = r3.fst 8) && (decide (r2.fst 9 = r3.fst 9) && decide (r2.fst 10 = r3.fst 10)) && (decide (r2.fst 11 = r3.fst 11) && (decide (r2.fst 12 = r3.fst 12) && decide (r2.fst 13 = r3.fst 13)) && (decide (r2.fst 14 = r3.fst 14) && (decide (r2.fst 15 = r3.fst 15) && decide (r2.fst 16 = r3.fst 16)) && (decide (r2.fst 17 = r3.fst 17) && (decide (r2.fst 18 = r3.fst 18) && decide (r2.fst 19 = r3.fst 19)) && (decide (r2.fst 20 = r3.fst 20) && (decide (r2.fst 21 = r3.fst 21) && decide (r2.fst 22 = r3.fst 22)))))))))))) (
 cond (decide (r2.snd = r3.snd)) (
 some (true)) (
 some (false))) (
 some (false))) (
 some (false))))))
theorem fg4 (a : Nat → Int) (b : Int) : g4 a b = f4 a b := by kernel_rfl
theorem ev4 (a : (cCons (cA .i64 22) (cOne (cI .i64))).T) : evF (R := (rOne (cB)).T) (cx [(15, conF (cNil) (rOne (cB)) (fun a => f15)), (16, conF (cCons (cA .i64 22) (cOne (cI .i64))) (rTup (cCons (cA .i64 23) (cOne (cI .i64)))) (fun a => f16 a.1 a.2)), (17, conF (cCons (cA .i64 22) (cOne (cI .i64))) (rTup (cCons (cA .i64 23) (cOne (cI .i64)))) (fun a => f17 a.1 a.2)), (18, conF (cOne (cA .i64 22)) (rOne (cI .i64)) (fun a => f18 a)), (19, conF (cOne (cA .i64 22)) (rOne (cI .i64)) (fun a => f19 a))]) 1000 Tryd.f4 ((cCons (cA .i64 22) (cOne (cI .i64))).enc a) (glMem gl) gG (rOne (cB)).dec = f4 a.1 a.2 := (show evF (R := (rOne (cB)).T) (cx [(15, conF (cNil) (rOne (cB)) (fun a => f15)), (16, conF (cCons (cA .i64 22) (cOne (cI .i64))) (rTup (cCons (cA .i64 23) (cOne (cI .i64)))) (fun a => f16 a.1 a.2)), (17, conF (cCons (cA .i64 22) (cOne (cI .i64))) (rTup (cCons (cA .i64 23) (cOne (cI .i64)))) (fun a => f17 a.1 a.2)), (18, conF (cOne (cA .i64 22)) (rOne (cI .i64)) (fun a => f18 a)), (19, conF (cOne (cA .i64 22)) (rOne (cI .i64)) (fun a => f19 a))]) 1000 Tryd.f4 ((cCons (cA .i64 22) (cOne (cI .i64))).enc a) (glMem gl) gG (rOne (cB)).dec = g4 a.1 a.2 from evg4 f16 f17 f18 f19 a).trans (fg4 a.1 a.2)
theorem sp4 : VE.Spec Tryd.prog gG gl 4 (conF (cCons (cA .i64 22) (cOne (cI .i64))) (rOne (cB)) (fun a => f4 a.1 a.2)) := spec_of ok4 Tryd.func4 Tryd.call4 1000 (cCons_ok (cA_ok _ _) (cOne_ok (cI_ok _))) (rOne_ok (cB_ok)) ev4
noncomputable abbrev con4 : List (Nat × (List AV → Option ConR)) := [(15, conF (cNil) (rOne (cB)) (fun a => f15)), (16, conF (cCons (cA .i64 22) (cOne (cI .i64))) (rTup (cCons (cA .i64 23) (cOne (cI .i64)))) (fun a => f16 a.1 a.2)), (17, conF (cCons (cA .i64 22) (cOne (cI .i64))) (rTup (cCons (cA .i64 23) (cOne (cI .i64)))) (fun a => f17 a.1 a.2)), (18, conF (cOne (cA .i64 22)) (rOne (cI .i64)) (fun a => f18 a)), (19, conF (cOne (cA .i64 22)) (rOne (cI .i64)) (fun a => f19 a))]

/-- dancestudioref19.Quarters -/
noncomputable def f42 (a : Int) : Option (Int) :=
 some ((IntKind.i64.wrap (a.tmod 4 + 4)).tmod 4)
theorem evg42  (xx : (cOne (cI .i64)).T) : evF (R := (rOne (cI .i64)).T) (cx []) 1000 Tryd.f42 ((cOne (cI .i64)).enc xx) (glMem gl) gG (rOne (cI .i64)).dec =
 (fun (a : Int) =>
 (( some ((IntKind.i64.wrap (a.tmod 4 + 4)).tmod 4)) : Option (Int))) xx := by kernel_rfl
theorem ok42 : CtxOK Tryd.prog (cx []) gl := ctx_of tyOk moOk (show SpecL Tryd.prog gG gl [] from trivial) fnOk joinOk
theorem ev42 (a : (cOne (cI .i64)).T) : evF (R := (rOne (cI .i64)).T) (cx []) 1000 Tryd.f42 ((cOne (cI .i64)).enc a) (glMem gl) gG (rOne (cI .i64)).dec = f42 a := evg42  a
theorem sp42 : VE.Spec Tryd.prog gG gl 42 (conF (cOne (cI .i64)) (rOne (cI .i64)) (fun a => f42 a)) := spec_of ok42 Tryd.func42 Tryd.call42 1000 (cOne_ok (cI_ok _)) (rOne_ok (cI_ok _)) ev42
noncomputable abbrev con42 : List (Nat × (List AV → Option ConR)) := []

/-- dancestudioref19.Turned -/
noncomputable def f41 (a : Nat → Int) (b : Int) : Option ((Nat → Int)) :=
 Option.bind (f42 b) (fun r2 =>
 cond (decide (0 < r2)) (
 Option.bind (f42 b) (fun r3 =>
 cond (decide (1 < r3)) (
 Option.bind (f42 b) (fun r4 =>
 cond (decide (2 < r4)) (
 Option.bind (f42 b) (fun r5 =>
 cond (decide (3 < r5)) (
 Option.bind (f42 b) (fun r6 =>
 cond (decide (4 < r6)) (
 Option.bind (f42 b) (fun r7 =>
 cond (decide (5 < r7)) (
 Option.bind (f42 b) (fun r8 =>
 cond (decide (6 < r8)) (
 Option.bind (f42 b) (fun r9 =>
 cond (decide (7 < r9)) (
 Option.bind (f42 b) (fun r10 =>
 cond (decide (8 < r10)) (
 Option.bind (f42 b) (fun r11 =>
 cond (decide (9 < r11)) (
 Option.bind (f42 b) (fun r12 =>
 cond (decide (10 < r12)) none none)) (
 some (nthI [IntKind.i64.wrap (0 - IntKind.i64.wrap (0 - IntKind.i64.wrap (0 - IntKind.i64.wrap (0 - a 1)))), IntKind.i64.wrap (0 - IntKind.i64.wrap (0 - IntKind.i64.wrap (0 - IntKind.i64.wrap (0 - IntKind.i64.wrap (0 - a 0)))))])))) (
 some (nthI [IntKind.i64.wrap (0 - IntKind.i64.wrap (0 - IntKind.i64.wrap (0 - IntKind.i64.wrap (0 - a 0)))), IntKind.i64.wrap (0 - IntKind.i64.wrap (0 - IntKind.i64.wrap (0 - IntKind.i64.wrap (0 - a 1))))])))) (
 some (nthI [IntKind.i64.wrap (0 - IntKind.i64.wrap (0 - IntKind.i64.wrap (0 - a 1))), IntKind.i64.wrap (0 - IntKind.i64.wrap (0 - IntKind.i64.wrap (0 - IntKind.i64.wrap (0 - a 0))))])))) (
 some (nthI [IntKind.i64.wrap (0 - IntKind.i64.wrap (0 - IntKind.i64.wrap (0 - a 0))), IntKind.i64.wrap (0 - IntKind.i64.wrap (0 - IntKind.i64.wrap (0 - a 1)))])))) (
 some (nthI [IntKind.i64.wrap (0 - IntKind.i64.wrap (0 - a 1)), IntKind.i64.wrap (0 - IntKind.i64.wrap (0 - IntKind.i64.wrap (0 - a 0)))])))) (
 some (nthI [IntKind.i64.wrap (0 - IntKind.i64.wrap (0 - a 0)), IntKind.i64.wrap (0 - IntKind.i64.wrap (0 - a 1))])))) (
 some (nthI [IntKind.i64.wrap (0 - a 1), IntKind.i64.wrap (0 - IntKind.i64.wrap (0 - a 0))])))) (
 some (nthI [IntKind.i64.wrap (0 - a 0), IntKind.i64.wrap (0 - a 1)])))) (
 some (nthI [a 1, IntKind.i64.wrap (0 - a 0)])))) (
 some (nthI [a 0, a 1])))
theorem evg41 (f42 : (Int) → Option (Int)) (xx : (cCons (cA .i64 2) (cOne (cI .i64))).T) : evF (R := (rOne (cA .i64 2)).T) (cx [(42, conF (cOne (cI .i64)) (rOne (cI .i64)) (fun a => f42 a))]) 18 Tryd.f41 ((cCons (cA .i64 2) (cOne (cI .i64))).enc xx) (glMem gl) gG (rOne (cA .i64 2)).dec =
 (fun (a : Nat → Int) (b : Int) =>
 (( Option.bind (f42 b) (fun r2 =>
 cond (decide (0 < r2)) (
 Option.bind (f42 b) (fun r3 =>
 cond (decide (1 < r3)) (
 Option.bind (f42 b) (fun r4 =>
 cond (decide (2 < r4)) (
 Option.bind (f42 b) (fun r5 =>
 cond (decide (3 < r5)) (
 Option.bind (f42 b) (fun r6 =>
 cond (decide (4 < r6)) (
 Option.bind (f42 b) (fun r7 =>
 cond (decide (5 < r7)) (
 Option.bind (f42 b) (fun r8 =>
 cond (decide (6 < r8)) (
 Option.bind (f42 b) (fun r9 =>
 cond (decide (7 < r9)) (
 Option.bind (f42 b) (fun r10 =>
 cond (decide (8 < r10)) (
 Option.bind (f42 b) (fun r11 =>
 cond (decide (9 < r11)) (
 Option.bind (f42 b) (fun r12 =>
 cond (decide (10 < r12)) none none)) (
 some (nthI [IntKind.i64.wrap (0 - IntKind.i64.wrap (0 - IntKind.i64.wrap (0 - IntKind.i64.wrap (0 - a 1)))), IntKind.i64.wrap (0 - IntKind.i64.wrap (0 - IntKind.i64.wrap (0 - IntKind.i64.wrap (0 - IntKind.i64.wrap (0 - a 0)))))])))) (
 some (nthI [IntKind.i64.wrap (0 - IntKind.i64.wrap (0 - IntKind.i64.wrap (0 - IntKind.i64.wrap (0 - a 0)))), IntKind.i64.wrap (0 - IntKind.i64.wrap (0 - IntKind.i64.wrap (0 - IntKind.i64.wrap (0 - a 1))))])))) (
 some (nthI [IntKind.i64.wrap (0 - IntKind.i64.wrap (0 - IntKind.i64.wrap (0 - a 1))), IntKind.i64.wrap (0 - IntKind.i64.wrap (0 - IntKind.i64.wrap (0 - IntKind.i64.wrap (0 - a 0))))])))) (
 some (nthI [IntKind.i64.wrap (0 - IntKind.i64.wrap (0 - IntKind.i64.wrap (0 - a 0))), IntKind.i64.wrap (0 - IntKind.i64.wrap (0 - IntKind.i64.wrap (0 - a 1)))])))) (
 some (nthI [IntKind.i64.wrap (0 - IntKind.i64.wrap (0 - a 1)), IntKind.i64.wrap (0 - IntKind.i64.wrap (0 - IntKind.i64.wrap (0 - a 0)))])))) (
 some (nthI [IntKind.i64.wrap (0 - IntKind.i64.wrap (0 - a 0)), IntKind.i64.wrap (0 - IntKind.i64.wrap (0 - a 1))])))) (
 some (nthI [IntKind.i64.wrap (0 - a 1), IntKind.i64.wrap (0 - IntKind.i64.wrap (0 - a 0))])))) (
 some (nthI [IntKind.i64.wrap (0 - a 0), IntKind.i64.wrap (0 - a 1)])))) (
 some (nthI [a 1, IntKind.i64.wrap (0 - a 0)])))) (
 some (nthI [a 0, a 1])))) : Option ((Nat → Int)))) xx.1 xx.2 := by kernel_rfl
theorem ok41 : CtxOK Tryd.prog (cx [(42, conF (cOne (cI .i64)) (rOne (cI .i64)) (fun a => f42 a))]) gl := ctx_of tyOk moOk (show SpecL Tryd.prog gG gl [(42, conF (cOne (cI .i64)) (rOne (cI .i64)) (fun a => f42 a))] from ⟨sp42, trivial⟩) fnOk joinOk
theorem ev41 (a : (cCons (cA .i64 2) (cOne (cI .i64))).T) : evF (R := (rOne (cA .i64 2)).T) (cx [(42, conF (cOne (cI .i64)) (rOne (cI .i64)) (fun a => f42 a))]) 18 Tryd.f41 ((cCons (cA .i64 2) (cOne (cI .i64))).enc a) (glMem gl) gG (rOne (cA .i64 2)).dec = f41 a.1 a.2 := evg41 f42 a
theorem sp41 : VE.Spec Tryd.prog gG gl 41 (conF (cCons (cA .i64 2) (cOne (cI .i64))) (rOne (cA .i64 2)) (fun a => f41 a.1 a.2)) := spec_of ok41 Tryd.func41 Tryd.call41 18 (cCons_ok (cA_ok _ _) (cOne_ok (cI_ok _))) (rOne_ok (cA_ok _ _)) ev41
noncomputable abbrev con41 : List (Nat × (List AV → Option ConR)) := [(42, conF (cOne (cI .i64)) (rOne (cI .i64)) (fun a => f42 a))]

/-- dancestudioref19.Rotate -/
noncomputable def f21 (a : Nat → Int) (b : Int) : Option ((Nat → Int) × Int) :=
 Option.bind (f14 a) (fun r2 =>
 cond (!decide (r2 = 0)) (
 some ((nthI tab1, r2))) (
 Option.bind (f41 a b) (fun r3 =>
 Option.bind (f42 b) (fun r4 =>
 some ((nthI [r3 0, r3 1, (IntKind.i64.wrap (a 2 + IntKind.i64.wrap (2 * r4))).tmod 8, a 3, a 4, a 5, a 6, a 7, a 8, a 9, a 10, a 11, a 12, a 13, a 14, a 15, a 16, a 17, a 18, a 19, a 20, a 21, a 22], 0))))))
theorem evg21 (f14 : (Nat → Int) → Option (Int)) (f41 : (Nat → Int) → (Int) → Option ((Nat → Int))) (f42 : (Int) → Option (Int)) (xx : (cCons (cA .i64 23) (cOne (cI .i64))).T) : evF (R := (rTup (cCons (cA .i64 23) (cOne (cI .i64)))).T) (cx [(14, conF (cOne (cA .i64 23)) (rOne (cI .i64)) (fun a => f14 a)), (41, conF (cCons (cA .i64 2) (cOne (cI .i64))) (rOne (cA .i64 2)) (fun a => f41 a.1 a.2)), (42, conF (cOne (cI .i64)) (rOne (cI .i64)) (fun a => f42 a))]) 1000 Tryd.f21 ((cCons (cA .i64 23) (cOne (cI .i64))).enc xx) (glMem gl) gG (rTup (cCons (cA .i64 23) (cOne (cI .i64)))).dec =
 (fun (a : Nat → Int) (b : Int) =>
 (( Option.bind (f14 (nthI [a 0, a 1, a 2, a 3, a 4, a 5, a 6, a 7, a 8, a 9, a 10, a 11, a 12, a 13, a 14, a 15, a 16, a 17, a 18, a 19, a 20, a 21, a 22])) (fun r2 =>
 cond (!decide (r2 = 0)) (
 some ((nthI tab1, r2))) (
 Option.bind (f41 (nthI [a 0, a 1]) b) (fun r3 =>
 Option.bind (f42 b) (fun r4 =>
 some ((nthI [r3 0, r3 1, (IntKind.i64.wrap (a 2 + IntKind.i64.wrap (2 * r4))).tmod 8, a 3, a 4, a 5, a 6, a 7, a 8, a 9, a 10, a 11, a 12, a 13, a 14, a 15, a 16, a 17, a 18, a 19, a 20, a 21, a 22], 0))))))) : Option ((Nat → Int) × Int))) xx.1 xx.2 := by kernel_rfl
theorem ok21 : CtxOK Tryd.prog (cx [(14, conF (cOne (cA .i64 23)) (rOne (cI .i64)) (fun a => f14 a)), (41, conF (cCons (cA .i64 2) (cOne (cI .i64))) (rOne (cA .i64 2)) (fun a => f41 a.1 a.2)), (42, conF (cOne (cI .i64)) (rOne (cI .i64)) (fun a => f42 a))]) gl := ctx_of tyOk moOk (show SpecL Tryd.prog gG gl [(14, conF (cOne (cA .i64 23)) (rOne (cI .i64)) (fun a => f14 a)), (41, conF (cCons (cA .i64 2) (cOne (cI .i64))) (rOne (cA .i64 2)) (fun a => f41 a.1 a.2)), (42, conF (cOne (cI .i64)) (rOne (cI .i64)) (fun a => f42 a))] from ⟨sp14, sp41, sp42, trivial⟩) fnOk joinOk
noncomputable def g21 (a : Nat → Int) (b : Int) : Option ((Nat → Int) × Int) :=
 Option.bind (f14 (nthI [a 0, a 1, a 2, a 3, a 4, a 5, a 6, a 7, a 8, a 9, a 10, a 11, a 12, a 13, a 14, a 15, a 16, a 17, a 18, a 19, a 20, a 21, a 22])) (fun r2 =>
 cond (!decide (r2 = 0)) (
 some ((nthI tab1, r2))) (
 Option.bind (f41 (nthI [a 0, a 1]) b) (fun r3 =>
 Option.bind (f42 b) (fun r4 =>
 some ((nthI [r3 0, r3 1, (IntKind.i64.wrap (a 2 + IntKind.i64.wrap (2 * r4))).tmod 8, a 3, a 4, a 5, a 6, a 7, a 8, a 9, a 10, a 11, a 12, a 13, a 14, a 15, a 16, a 17, a 18, a 19, a 20, a 21, a 22], 0))))))
theorem fg21 (a : Nat → Int) (b : Int) : g21 a b = f21 a b := by kernel_rfl
theorem ev21 (a : (cCons (cA .i64 23) (cOne (cI .i64))).T) : evF (R := (rTup (cCons (cA .i64 23) (cOne (cI .i64)))).T) (cx [(14, conF (cOne (cA .i64 23)) (rOne (cI .i64)) (fun a => f14 a)), (41, conF (cCons (cA .i64 2) (cOne (cI .i64))) (rOne (cA .i64 2)) (fun a => f41 a.1 a.2)), (42, conF (cOne (cI .i64)) (rOne (cI .i64)) (fun a => f42 a))]) 1000 Tryd.f21 ((cCons (cA .i64 23) (cOne (cI .i64))).enc a) (glMem gl) gG (rTup (cCons (cA .i64 23) (cOne (cI .i64)))).dec = f21 a.1 a.2 := (show evF (R := (rTup (cCons (cA .i64 23) (cOne (cI .i64)))).T) (cx [(14, conF (cOne (cA .i64 23)) (rOne (cI .i64)) (fun a => f14 a)), (41, conF (cCons (cA .i64 2) (cOne (cI .i64))) (rOne (cA .i64 2)) (fun a => f41 a.1 a.2)), (42, conF (cOne (cI .i64)) (rOne (cI .i64)) (fun a => f42 a))]) 1000 Tryd.f21 ((cCons (cA .i64 23) (cOne (cI .i64))).enc a) (glMem gl) gG (rTup (cCons (cA .i64 23) (cOne (cI .i64)))).dec = g21 a.1 a.2 from evg21 f14 f41 f42 a).trans (fg21 a.1 a.2)
theorem sp21 : VE.Spec Tryd.prog gG gl 21 (conF (cCons (cA .i64 23) (cOne (cI .i64))) (rTup (cCons (cA .i64 23) (cOne (cI .i64)))) (fun a => f21 a.1 a.2)) := spec_of ok21 Tryd.func21 Tryd.call21 1000 (cCons_ok (cA_ok _ _) (cOne_ok (cI_ok _))) (rTup_ok (cCons_ok (cA_ok _ _) (cOne_ok (cI_ok _)))) ev21
noncomputable abbrev con21 : List (Nat × (List AV → Option ConR)) := [(14, conF (cOne (cA .i64 23)) (rOne (cI .i64)) (fun a => f14 a)), (41, conF (cCons (cA .i64 2) (cOne (cI .i64))) (rOne (cA .i64 2)) (fun a => f41 a.1 a.2)), (42, conF (cOne (cI .i64)) (rOne (cI .i64)) (fun a => f42 a))]

/-- dancestudioref19.RotatePose -/
noncomputable def f23 (a : Nat → Int) (b : Int) : Option ((Nat → Int) × Int) :=
 Option.bind (f19 a) (fun r2 =>
 cond (!decide (r2 = 0)) (
 some ((nthI tab0, r2))) (
 Option.bind (f41 a b) (fun r3 =>
 Option.bind (f42 b) (fun r4 =>
 some ((nthI [r3 0, r3 1, (IntKind.i64.wrap (a 2 + IntKind.i64.wrap (64 * r4))).tmod 256, a 3, a 4, a 5, a 6, a 7, a 8, a 9, a 10, a 11, a 12, a 13, a 14, a 15, a 16, a 17, a 18, a 19, a 20, a 21], 0))))))
theorem evg23 (f19 : (Nat → Int) → Option (Int)) (f41 : (Nat → Int) → (Int) → Option ((Nat → Int))) (f42 : (Int) → Option (Int)) (xx : (cCons (cA .i64 22) (cOne (cI .i64))).T) : evF (R := (rTup (cCons (cA .i64 22) (cOne (cI .i64)))).T) (cx [(19, conF (cOne (cA .i64 22)) (rOne (cI .i64)) (fun a => f19 a)), (41, conF (cCons (cA .i64 2) (cOne (cI .i64))) (rOne (cA .i64 2)) (fun a => f41 a.1 a.2)), (42, conF (cOne (cI .i64)) (rOne (cI .i64)) (fun a => f42 a))]) 1000 Tryd.f23 ((cCons (cA .i64 22) (cOne (cI .i64))).enc xx) (glMem gl) gG (rTup (cCons (cA .i64 22) (cOne (cI .i64)))).dec =
 (fun (a : Nat → Int) (b : Int) =>
 (( Option.bind (f19 (nthI [a 0, a 1, a 2, a 3, a 4, a 5, a 6, a 7, a 8, a 9, a 10, a 11, a 12, a 13, a 14, a 15, a 16, a 17, a 18, a 19, a 20, a 21])) (fun r2 =>
 cond (!decide (r2 = 0)) (
 some ((nthI tab0, r2))) (
 Option.bind (f41 (nthI [a 0, a 1]) b) (fun r3 =>
 Option.bind (f42 b) (fun r4 =>
 some ((nthI [r3 0, r3 1, (IntKind.i64.wrap (a 2 + IntKind.i64.wrap (64 * r4))).tmod 256, a 3, a 4, a 5, a 6, a 7, a 8, a 9, a 10, a 11, a 12, a 13, a 14, a 15, a 16, a 17, a 18, a 19, a 20, a 21], 0))))))) : Option ((Nat → Int) × Int))) xx.1 xx.2 := by kernel_rfl
theorem ok23 : CtxOK Tryd.prog (cx [(19, conF (cOne (cA .i64 22)) (rOne (cI .i64)) (fun a => f19 a)), (41, conF (cCons (cA .i64 2) (cOne (cI .i64))) (rOne (cA .i64 2)) (fun a => f41 a.1 a.2)), (42, conF (cOne (cI .i64)) (rOne (cI .i64)) (fun a => f42 a))]) gl := ctx_of tyOk moOk (show SpecL Tryd.prog gG gl [(19, conF (cOne (cA .i64 22)) (rOne (cI .i64)) (fun a => f19 a)), (41, conF (cCons (cA .i64 2) (cOne (cI .i64))) (rOne (cA .i64 2)) (fun a => f41 a.1 a.2)), (42, conF (cOne (cI .i64)) (rOne (cI .i64)) (fun a => f42 a))] from ⟨sp19, sp41, sp42, trivial⟩) fnOk joinOk
noncomputable def g23 (a : Nat → Int) (b : Int) : Option ((Nat → Int) × Int) :=
 Option.bind (f19 (nthI [a 0, a 1, a 2, a 3, a 4, a 5, a 6, a 7, a 8, a 9, a 10, a 11, a 12, a 13, a 14, a 15, a 16, a 17, a 18, a 19, a 20, a 21])) (fun r2 =>
 cond (!decide (r2 = 0)) (
 some ((nthI tab0, r2))) (
 Option.bind (f41 (nthI [a 0, a 1]) b) (fun r3 =>
 Option.bind (f42 b) (fun r4 =>
 some ((nthI [r3 0, r3 1, (IntKind.i64.wrap (a 2 + IntKind.i64.wrap (64 * r4))).tmod 256, a 3, a 4, a 5, a 6, a 7, a 8, a 9, a 10, a 11, a 12, a 13, a 14, a 15, a 16, a 17, a 18, a 19, a 20, a 21], 0))))))
theorem fg23 (a : Nat → Int) (b : Int) : g23 a b = f23 a b := by kernel_rfl
theorem ev23 (a : (cCons (cA .i64 22) (cOne (cI .i64))).T) : evF (R := (rTup (cCons (cA .i64 22) (cOne (cI .i64)))).T) (cx [(19, conF (cOne (cA .i64 22)) (rOne (cI .i64)) (fun a => f19 a)), (41, conF (cCons (cA .i64 2) (cOne (cI .i64))) (rOne (cA .i64 2)) (fun a => f41 a.1 a.2)), (42, conF (cOne (cI .i64)) (rOne (cI .i64)) (fun a => f42 a))]) 1000 Tryd.f23 ((cCons (cA .i64 22) (cOne (cI .i64))).enc a) (glMem gl) gG (rTup (cCons (cA .i64 22) (cOne (cI .i64)))).dec = f23 a.1 a.2 := (show evF (R := (rTup (cCons (cA .i64 22) (cOne (cI .i64)))).T) (cx [(19, conF (cOne (cA .i64 22)) (rOne (cI .i64)) (fun a => f19 a)), (41, conF (cCons (cA .i64 2) (cOne (cI .i64))) (rOne (cA .i64 2)) (fun a => f41 a.1 a.2)), (42, conF (cOne (cI .i64)) (rOne (cI .i64)) (fun a => f42 a))]) 1000 Tryd.f23 ((cCons (cA .i64 22) (cOne (cI .i64))).enc a) (glMem gl) gG (rTup (cCons (cA .i64 22) (cOne (cI .i64)))).dec = g23 a.1 a.2 from evg23 f19 f41 f42 a).trans (fg23 a.1 a.2)
theorem sp23 : VE.Spec Tryd.prog gG gl 23 (conF (cCons (cA .i64 22) (cOne (cI .i64))) (rTup (cCons (cA .i64 22) (cOne (cI .i64)))) (fun a => f23 a.1 a.2)) := spec_of ok23 Tryd.func23 Tryd.call23 1000 (cCons_ok (cA_ok _ _) (cOne_ok (cI_ok _))) (rTup_ok (cCons_ok (cA_ok _ _) (cOne_ok (cI_ok _)))) ev23
noncomputable abbrev con23 : List (Nat × (List AV → Option ConR)) := [(19, conF (cOne (cA .i64 22)) (rOne (cI .i64)) (fun a => f19 a)), (41, conF (cCons (cA .i64 2) (cOne (cI .i64))) (rOne (cA .i64 2)) (fun a => f41 a.1 a.2)), (42, conF (cOne (cI .i64)) (rOne (cI .i64)) (fun a => f42 a))]

/-- dancestudiolaw19.PostureRotates -/
noncomputable def f5 (a : Nat → Int) (b : Nat → Int) (c : Int) : Option (Bool) :=
 Option.bind (f20 a c) (fun r3 =>
 Option.bind (f21 a c) (fun r4 =>
 Option.bind (f22 b c) (fun r5 =>
 Option.bind (f23 b c) (fun r6 =>
 cond (decide (r3.fst 0 = r4.fst 0) && decide (r3.fst 1 = r4.fst 1) && (decide (r3.fst 2 = r4.fst 2) && (decide (r3.fst 3 = r4.fst 3) && (decide (r3.fst 4 = r4.fst 4) && (decide (r3.fst 5 = r4.fst 5) && (decide (r3.fst 6 = r4.fst 6) && decide (r3.fst 7 = r4.fst 7)) && (decide (r3.fst 8 = r4.fst 8) && (decide (r3.fst 9 = r4.fst 9) && decide (r3.fst 10 = r4.fst 10)) && (decide (r3.fst 11 = r4.fst 11) && (decide (r3.fst 12 = r4.fst 12) && decide (r3.fst 13 = r4.fst 13)) && (decide (r3.fst 14 = r4.fst 14) && (decide (r3.fst 15 = r4.fst 15) && decide (r3.fst 16 = r4.fst 16)) && (decide (r3.fst 17 = r4.fst 17) && (decide (r3.fst 18 = r4.fst 18) && decide (r3.fst 19 = r4.fst 19)) && (decide (r3.fst 20 = r4.fst 20) && (decide (r3.fst 21 = r4.fst 21) && decide (r3.fst 22 = r4.fst 22)))))))))))) (
 cond (decide (r3.snd = r4.snd)) (
 cond (decide (r5.fst 0 = r6.fst 0) && decide (r5.fst 1 = r6.fst 1) && (decide (r5.fst 2 = r6.fst 2) && (decide (r5.fst 3 = r6.fst 3) && (decide (r5.fst 4 = r6.fst 4) && (decide (r5.fst 5 = r6.fst 5) && decide (r5.fst 6 = r6.fst 6)) && (decide (r5.fst 7 = r6.fst 7) && (decide (r5.fst 8 = r6.fst 8) && decide (r5.fst 9 = r6.fst 9)) && (decide (r5.fst 10 = r6.fst 10) && (decide (r5.fst 11 = r6.fst 11) && decide (r5.fst 12 = r6.fst 12)) && (decide (r5.fst 13 = r6.fst 13) && (decide (r5.fst 14 = r6.fst 14) && decide (r5.fst 15 = r6.fst 15)) && (decide (r5.fst 16 = r6.fst 16) && (decide (r5.fst 17 = r6.fst 17) && decide (r5.fst 18 = r6.fst 18)) && (decide (r5.fst 19 = r6.fst 19) && (decide (r5.fst 20 = r6.fst 20) && decide (r5.fst 21 = r6.fst 21))))))))))) (
 cond (decide (r5.snd = r6.snd)) (
 some (true)) (
 some (false))) (
 some (false))) (
 some (false))) (
 some (false))))))
theorem evg5 (f20 : (Nat → Int) → (Int) → Option ((Nat → Int) × Int)) (f21 : (Nat → Int) → (Int) → Option ((Nat → Int) × Int)) (f22 : (Nat → Int) → (Int) → Option ((Nat → Int) × Int)) (f23 : (Nat → Int) → (Int) → Option ((Nat → Int) × Int)) (xx : (cCons (cA .i64 23) (cCons (cA .i64 22) (cOne (cI .i64)))).T) : evF (R := (rOne (cB)).T) (cx [(15, conF (cNil) (rOne (cB)) (fun a => f15)), (20, conF (cCons (cA .i64 23) (cOne (cI .i64))) (rTup (cCons (cA .i64 23) (cOne (cI .i64)))) (fun a => f20 a.1 a.2)), (21, conF (cCons (cA .i64 23) (cOne (cI .i64))) (rTup (cCons (cA .i64 23) (cOne (cI .i64)))) (fun a => f21 a.1 a.2)), (22, conF (cCons (cA .i64 22) (cOne (cI .i64))) (rTup (cCons (cA .i64 22) (cOne (cI .i64)))) (fun a => f22 a.1 a.2)), (23, conF (cCons (cA .i64 22) (cOne (cI .i64))) (rTup (cCons (cA .i64 22) (cOne (cI .i64)))) (fun a => f23 a.1 a.2))]) 1000 Tryd.f5 ((cCons (cA .i64 23) (cCons (cA .i64 22) (cOne (cI .i64)))).enc xx) (glMem gl) gG (rOne (cB)).dec =
 (fun (a : Nat → Int) (b : Nat → Int) (c : Int) =>
 (( Option.bind (f20 (nthI [a 0, a 1, a 2, a 3, a 4, a 5, a 6, a 7, a 8, a 9, a 10, a 11, a 12, a 13, a 14, a 15, a 16, a 17, a 18, a 19, a 20, a 21, a 22]) c) (fun r3 =>
 Option.bind (f21 (nthI [a 0, a 1, a 2, a 3, a 4, a 5, a 6, a 7, a 8, a 9, a 10, a 11, a 12, a 13, a 14, a 15, a 16, a 17, a 18, a 19, a 20, a 21, a 22]) c) (fun r4 =>
 Option.bind (f22 (nthI [b 0, b 1, b 2, b 3, b 4, b 5, b 6, b 7, b 8, b 9, b 10, b 11, b 12, b 13, b 14, b 15, b 16, b 17, b 18, b 19, b 20, b 21]) c) (fun r5 =>
 Option.bind (f23 (nthI [b 0, b 1, b 2, b 3, b 4, b 5, b 6, b 7, b 8, b 9, b 10, b 11, b 12, b 13, b 14, b 15, b 16, b 17, b 18, b 19, b 20, b 21]) c) (fun r6 =>
 cond (decide (r3.fst 0 = r4.fst 0) && decide (r3.fst 1 = r4.fst 1) && (decide (r3.fst 2 = r4.fst 2) && (decide (r3.fst 3 = r4.fst 3) && (decide (r3.fst 4 = r4.fst 4) && (decide (r3.fst 5 = r4.fst 5) && (decide (r3.fst 6 = r4.fst 6) && decide (r3.fst 7 = r4.fst 7)) && (decide (r3.fst 8 = r4.fst 8) && (decide (r3.fst 9 = r4.fst 9) && decide (r3.fst 10 = r4.fst 10)) && (decide (r3.fst 11 = r4.fst 11) && (decide (r3.fst 12 = r4.fst 12) && decide (r3.fst 13 = r4.fst 13)) && (decide (r3.fst 14 = r4.fst 14) && (decide (r3.fst 15 = r4.fst 15) && decide (r3.fst 16 = r4.fst 16)) && (decide (r3.fst 17 = r4.fst 17) && (decide (r3.fst 18 = r4.fst 18) && decide (r3.fst 19 = r4.fst 19)) && (decide (r3.fst 20 = r4.fst 20) && (decide (r3.fst 21 = r4.fst 21) && decide (r3.fst 22 = r4.fst 22)))))))))))) (
 cond (decide (r3.snd = r4.snd)) (
 cond (decide (r5.fst 0 = r6.fst 0) && decide (r5.fst 1 = r6.fst 1) && (decide (r5.fst 2 = r6.fst 2) && (decide (r5.fst 3 = r6.fst 3) && (decide (r5.fst 4 = r6.fst 4) && (decide (r5.fst 5 = r6.fst 5) && decide (r5.fst 6 = r6.fst 6)) && (decide (r5.fst 7 = r6.fst 7) && (decide (r5.fst 8 = r6.fst 8) && decide (r5.fst 9 = r6.fst 9)) && (decide (r5.fst 10 = r6.fst 10) && (decide (r5.fst 11 = r6.fst 11) && decide (r5.fst 12 = r6.fst 12)) && (decide (r5.fst 13 = r6.fst 13) && (decide (r5.fst 14 = r6.fst 14) && decide (r5.fst 15 = r6.fst 15)) && (decide (r5.fst 16 = r6.fst 16) && (decide (r5.fst 17 = r6.fst 17) && decide (r5.fst 18 = r6.fst 18)) && (decide (r5.fst 19 = r6.fst 19) && (decide (r5.fst 20 = r6.fst 20) && decide (r5.fst 21 = r6.fst 21))))))))))) (
 cond (decide (r5.snd = r6.snd)) (
 some (true)) (
 some (false))) (
 some (false))) (
 some (false))) (
 some (false))))))) : Option (Bool))) xx.1 xx.2.1 xx.2.2 := by kernel_rfl
theorem ok5 : CtxOK Tryd.prog (cx [(15, conF (cNil) (rOne (cB)) (fun a => f15)), (20, conF (cCons (cA .i64 23) (cOne (cI .i64))) (rTup (cCons (cA .i64 23) (cOne (cI .i64)))) (fun a => f20 a.1 a.2)), (21, conF (cCons (cA .i64 23) (cOne (cI .i64))) (rTup (cCons (cA .i64 23) (cOne (cI .i64)))) (fun a => f21 a.1 a.2)), (22, conF (cCons (cA .i64 22) (cOne (cI .i64))) (rTup (cCons (cA .i64 22) (cOne (cI .i64)))) (fun a => f22 a.1 a.2)), (23, conF (cCons (cA .i64 22) (cOne (cI .i64))) (rTup (cCons (cA .i64 22) (cOne (cI .i64)))) (fun a => f23 a.1 a.2))]) gl := ctx_of tyOk moOk (show SpecL Tryd.prog gG gl [(15, conF (cNil) (rOne (cB)) (fun a => f15)), (20, conF (cCons (cA .i64 23) (cOne (cI .i64))) (rTup (cCons (cA .i64 23) (cOne (cI .i64)))) (fun a => f20 a.1 a.2)), (21, conF (cCons (cA .i64 23) (cOne (cI .i64))) (rTup (cCons (cA .i64 23) (cOne (cI .i64)))) (fun a => f21 a.1 a.2)), (22, conF (cCons (cA .i64 22) (cOne (cI .i64))) (rTup (cCons (cA .i64 22) (cOne (cI .i64)))) (fun a => f22 a.1 a.2)), (23, conF (cCons (cA .i64 22) (cOne (cI .i64))) (rTup (cCons (cA .i64 22) (cOne (cI .i64)))) (fun a => f23 a.1 a.2))] from ⟨sp15, sp20, sp21, sp22, sp23, trivial⟩) fnOk joinOk
noncomputable def g5 (a : Nat → Int) (b : Nat → Int) (c : Int) : Option (Bool) :=
 Option.bind (f20 (nthI [a 0, a 1, a 2, a 3, a 4, a 5, a 6, a 7, a 8, a 9, a 10, a 11, a 12, a 13, a 14, a 15, a 16, a 17, a 18, a 19, a 20, a 21, a 22]) c) (fun r3 =>
 Option.bind (f21 (nthI [a 0, a 1, a 2, a 3, a 4, a 5, a 6, a 7, a 8, a 9, a 10, a 11, a 12, a 13, a 14, a 15, a 16, a 17, a 18, a 19, a 20, a 21, a 22]) c) (fun r4 =>
 Option.bind (f22 (nthI [b 0, b 1, b 2, b 3, b 4, b 5, b 6, b 7, b 8, b 9, b 10, b 11, b 12, b 13, b 14, b 15, b 16, b 17, b 18, b 19, b 20, b 21]) c) (fun r5 =>
 Option.bind (f23 (nthI [b 0, b 1, b 2, b 3, b 4, b 5, b 6, b 7, b 8, b 9, b 10, b 11, b 12, b 13, b 14, b 15, b 16, b 17, b 18, b 19, b 20, b 21]) c) (fun r6 =>
 cond (decide (r3.fst 0 = r4.fst 0) && decide (r3.fst 1 = r4.fst 1) && (decide (r3.fst 2 = r4.fst 2) && (decide (r3.fst 3 = r4.fst 3) && (decide (r3.fst 4 = r4.fst 4) && (decide (r3.fst 5 = r4.fst 5) && (decide (r3.fst 6 = r4.fst 6) && decide (r3.fst 7 = r4.fst 7)) && (decide (r3.fst 8 = r4.fst 8) && (decide (r3.fst 9 = r4.fst 9) && decide (r3.fst 10 = r4.fst 10)) && (decide (r3.fst 11 = r4.fst 11) && (decide (r3.fst 12 = r4.fst 12) && decide (r3.fst 13 = r4.fst 13)) && (decide (r3.fst 14 = r4.fst 14) && (decide (r3.fst 15 = r4.fst 15) && decide (r3.fst 16 = r4.fst 16)) && (decide (r3.fst 17 = r4.fst 17) && (decide (r3.fst 18 = r4.fst 18) && decide (r3.fst 19 = r4.fst 19)) && (decide (r3.fst 20 = r4.fst 20) && (decide (r3.fst 21 = r4.fst 21) && decide (r3.fst 22 = r4.fst 22)))))))))))) (
 cond (decide (r3.snd = r4.snd)) (
 cond (decide (r5.fst 0 = r6.fst 0) && decide (r5.fst 1 = r6.fst 1) && (decide (r5.fst 2 = r6.fst 2) && (decide (r5.fst 3 = r6.fst 3) && (decide (r5.fst 4 = r6.fst 4) && (decide (r5.fst 5 = r6.fst 5) && decide (r5.fst 6 = r6.fst 6)) && (decide (r5.fst 7 = r6.fst 7) && (decide (r5.fst 8 = r6.fst 8) && decide (r5.fst 9 = r6.fst 9)) && (decide (r5.fst 10 = r6.fst 10) && (decide (r5.fst 11 = r6.fst 11) && decide (r5.fst 12 = r6.fst 12)) && (decide (r5.fst 13 = r6.fst 13) && (decide (r5.fst 14 = r6.fst 14) && decide (r5.fst 15 = r6.fst 15)) && (decide (r5.fst 16 = r6.fst 16) && (decide (r5.fst 17 = r6.fst 17) && decide (r5.fst 18 = r6.fst 18)) && (decide (r5.fst 19 = r6.fst 19) && (decide (r5.fst 20 = r6.fst 20) && decide (r5.fst 21 = r6.fst 21))))))))))) (
 cond (decide (r5.snd = r6.snd)) (
 some (true)) (
 some (false))) (
 some (false))) (
 some (false))) (
 some (false))))))
theorem fg5 (a : Nat → Int) (b : Nat → Int) (c : Int) : g5 a b c = f5 a b c := by kernel_rfl
theorem ev5 (a : (cCons (cA .i64 23) (cCons (cA .i64 22) (cOne (cI .i64)))).T) : evF (R := (rOne (cB)).T) (cx [(15, conF (cNil) (rOne (cB)) (fun a => f15)), (20, conF (cCons (cA .i64 23) (cOne (cI .i64))) (rTup (cCons (cA .i64 23) (cOne (cI .i64)))) (fun a => f20 a.1 a.2)), (21, conF (cCons (cA .i64 23) (cOne (cI .i64))) (rTup (cCons (cA .i64 23) (cOne (cI .i64)))) (fun a => f21 a.1 a.2)), (22, conF (cCons (cA .i64 22) (cOne (cI .i64))) (rTup (cCons (cA .i64 22) (cOne (cI .i64)))) (fun a => f22 a.1 a.2)), (23, conF (cCons (cA .i64 22) (cOne (cI .i64))) (rTup (cCons (cA .i64 22) (cOne (cI .i64)))) (fun a => f23 a.1 a.2))]) 1000 Tryd.f5 ((cCons (cA .i64 23) (cCons (cA .i64 22) (cOne (cI .i64)))).enc a) (glMem gl) gG (rOne (cB)).dec = f5 a.1 a.2.1 a.2.2 := (show evF (R := (rOne (cB)).T) (cx [(15, conF (cNil) (rOne (cB)) (fun a => f15)), (20, conF (cCons (cA .i64 23) (cOne (cI .i64))) (rTup (cCons (cA .i64 23) (cOne (cI .i64)))) (fun a => f20 a.1 a.2)), (21, conF (cCons (cA .i64 23) (cOne (cI .i64))) (rTup (cCons (cA .i64 23) (cOne (cI .i64)))) (fun a => f21 a.1 a.2)), (22, conF (cCons (cA .i64 22) (cOne (cI .i64))) (rTup (cCons (cA .i64 22) (cOne (cI .i64)))) (fun a => f22 a.1 a.2)), (23, conF (cCons (cA .i64 22) (cOne (cI .i64))) (rTup (cCons (cA .i64 22) (cOne (cI .i64)))) (fun a => f23 a.1 a.2))]) 1000 Tryd.f5 ((cCons (cA .i64 23) (cCons (cA .i64 22) (cOne (cI .i64)))).enc a) (glMem gl) gG (rOne (cB)).dec = g5 a.1 a.2.1 a.2.2 from evg5 f20 f21 f22 f23 a).trans (fg5 a.1 a.2.1 a.2.2)
theorem sp5 : VE.Spec Tryd.prog gG gl 5 (conF (cCons (cA .i64 23) (cCons (cA .i64 22) (cOne (cI .i64)))) (rOne (cB)) (fun a => f5 a.1 a.2.1 a.2.2)) := spec_of ok5 Tryd.func5 Tryd.call5 1000 (cCons_ok (cA_ok _ _) (cCons_ok (cA_ok _ _) (cOne_ok (cI_ok _)))) (rOne_ok (cB_ok)) ev5
noncomputable abbrev con5 : List (Nat × (List AV → Option ConR)) := [(15, conF (cNil) (rOne (cB)) (fun a => f15)), (20, conF (cCons (cA .i64 23) (cOne (cI .i64))) (rTup (cCons (cA .i64 23) (cOne (cI .i64)))) (fun a => f20 a.1 a.2)), (21, conF (cCons (cA .i64 23) (cOne (cI .i64))) (rTup (cCons (cA .i64 23) (cOne (cI .i64)))) (fun a => f21 a.1 a.2)), (22, conF (cCons (cA .i64 22) (cOne (cI .i64))) (rTup (cCons (cA .i64 22) (cOne (cI .i64)))) (fun a => f22 a.1 a.2)), (23, conF (cCons (cA .i64 22) (cOne (cI .i64))) (rTup (cCons (cA .i64 22) (cOne (cI .i64)))) (fun a => f23 a.1 a.2))]
end Go.Proofs.YtfpmbgknojbkcaaDoor
