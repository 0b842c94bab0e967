/-
  THE CONTRACTS of this program's functions: what each answers, as a plain function, by its evaluation.
-/
import Derived.Test.YtmcbhieaacinpaaDoorVEo
import Derived.Test.YtmcbhieaacinpaaDoorChecked
open Go Go.VE Go.Proofs
set_option maxRecDepth 1000000
set_option maxHeartbeats 0
set_option linter.unusedVariables false
namespace Go.Proofs.YtmcbhieaacinpaaDoor
def tyL : List (TypeId × TyI) := [
 (3, ⟨.int .i64, 1, [.int .i64 0]⟩),
 (4, ⟨.bool, 1, [.bool false]⟩),
 (5, ⟨.int .u8, 1, [.int .u8 0]⟩),
 (22, ⟨.array 4 3, 4, [.int .i64 0, .int .i64 0, .int .i64 0, .int .i64 0]⟩),
 (24, ⟨.struct [(3, 0), (3, 1), (3, 2), (3, 3), (3, 4), (3, 5), (3, 6), (3, 7), (3, 8), (3, 9), (3, 10), (22, 11)], 15, [.int .i64 0, .int .i64 0, .int .i64 0, .int .i64 0, .int .i64 0, .int .i64 0, .int .i64 0, .int .i64 0, .int .i64 0, .int .i64 0, .int .i64 0, .int .i64 0, .int .i64 0, .int .i64 0, .int .i64 0]⟩),
 (26, ⟨.struct [(3, 0), (3, 1)], 2, [.int .i64 0, .int .i64 0]⟩),
 (28, ⟨.struct [(3, 0), (3, 1), (3, 2)], 3, [.int .i64 0, .int .i64 0, .int .i64 0]⟩),
 (29, ⟨.array 6 28, 18, [.int .i64 0, .int .i64 0, .int .i64 0, .int .i64 0, .int .i64 0, .int .i64 0, .int .i64 0, .int .i64 0, .int .i64 0, .int .i64 0, .int .i64 0, .int .i64 0, .int .i64 0, .int .i64 0, .int .i64 0, .int .i64 0, .int .i64 0, .int .i64 0]⟩),
 (31, ⟨.struct [(26, 0), (3, 2), (3, 3), (29, 4)], 22, [.int .i64 0, .int .i64 0, .int .i64 0, .int .i64 0, .int .i64 0, .int .i64 0, .int .i64 0, .int .i64 0, .int .i64 0, .int .i64 0, .int .i64 0, .int .i64 0, .int .i64 0, .int .i64 0, .int .i64 0, .int .i64 0, .int .i64 0, .int .i64 0, .int .i64 0, .int .i64 0, .int .i64 0, .int .i64 0]⟩),
 (33, ⟨.struct [(3, 0), (3, 1), (3, 2)], 3, [.int .i64 0, .int .i64 0, .int .i64 0]⟩),
 (34, ⟨.array 2 33, 6, [.int .i64 0, .int .i64 0, .int .i64 0, .int .i64 0, .int .i64 0, .int .i64 0]⟩),
 (36, ⟨.struct [(33, 0), (33, 3), (33, 6), (34, 9), (34, 15), (34, 21), (34, 27)], 33, [.int .i64 0, .int .i64 0, .int .i64 0, .int .i64 0, .int .i64 0, .int .i64 0, .int .i64 0, .int .i64 0, .int .i64 0, .int .i64 0, .int .i64 0, .int .i64 0, .int .i64 0, .int .i64 0, .int .i64 0, .int .i64 0, .int .i64 0, .int .i64 0, .int .i64 0, .int .i64 0, .int .i64 0, .int .i64 0, .int .i64 0, .int .i64 0, .int .i64 0, .int .i64 0, .int .i64 0, .int .i64 0, .int .i64 0, .int .i64 0, .int .i64 0, .int .i64 0, .int .i64 0]⟩),
 (37, ⟨.int .i64, 1, [.int .i64 0]⟩),
 (62, ⟨.array 2 3, 2, [.int .i64 0, .int .i64 0]⟩),
 (67, ⟨.ptr 3, 1, [.nilp]⟩),
 (68, ⟨.array 11 67, 11, [.nilp, .nilp, .nilp, .nilp, .nilp, .nilp, .nilp, .nilp, .nilp, .nilp, .nilp]⟩),
 (70, ⟨.ptr 24, 1, [.nilp]⟩),
 (71, ⟨.array 11 62, 22, [.int .i64 0, .int .i64 0, .int .i64 0, .int .i64 0, .int .i64 0, .int .i64 0, .int .i64 0, .int .i64 0, .int .i64 0, .int .i64 0, .int .i64 0, .int .i64 0, .int .i64 0, .int .i64 0, .int .i64 0, .int .i64 0, .int .i64 0, .int .i64 0, .int .i64 0, .int .i64 0, .int .i64 0, .int .i64 0]⟩),
 (74, ⟨.array 6 3, 6, [.int .i64 0, .int .i64 0, .int .i64 0, .int .i64 0, .int .i64 0, .int .i64 0]⟩),
 (75, ⟨.array 3 3, 3, [.int .i64 0, .int .i64 0, .int .i64 0]⟩),
 (76, ⟨.array 6 33, 18, [.int .i64 0, .int .i64 0, .int .i64 0, .int .i64 0, .int .i64 0, .int .i64 0, .int .i64 0, .int .i64 0, .int .i64 0, .int .i64 0, .int .i64 0, .int .i64 0, .int .i64 0, .int .i64 0, .int .i64 0, .int .i64 0, .int .i64 0, .int .i64 0]⟩),
 (77, ⟨.slice 33, 1, [.nils]⟩),
 (92, ⟨.slice 3, 1, [.nils]⟩),
 (95, ⟨.array 65 3, 65, [.int .i64 0, .int .i64 0, .int .i64 0, .int .i64 0, .int .i64 0, .int .i64 0, .int .i64 0, .int .i64 0, .int .i64 0, .int .i64 0, .int .i64 0, .int .i64 0, .int .i64 0, .int .i64 0, .int .i64 0, .int .i64 0, .int .i64 0, .int .i64 0, .int .i64 0, .int .i64 0, .int .i64 0, .int .i64 0, .int .i64 0, .int .i64 0, .int .i64 0, .int .i64 0, .int .i64 0, .int .i64 0, .int .i64 0, .int .i64 0, .int .i64 0, .int .i64 0, .int .i64 0, .int .i64 0, .int .i64 0, .int .i64 0, .int .i64 0, .int .i64 0, .int .i64 0, .int .i64 0, .int .i64 0, .int .i64 0, .int .i64 0, .int .i64 0, .int .i64 0, .int .i64 0, .int .i64 0, .int .i64 0, .int .i64 0, .int .i64 0, .int .i64 0, .int .i64 0, .int .i64 0, .int .i64 0, .int .i64 0, .int .i64 0, .int .i64 0, .int .i64 0, .int .i64 0, .int .i64 0, .int .i64 0, .int .i64 0, .int .i64 0, .int .i64 0, .int .i64 0]⟩)]
def gl : List (Nat × List AV) := [(1, [.int .i64 (0), .int .i64 (402), .int .i64 (804), .int .i64 (1205), .int .i64 (1606), .int .i64 (2006), .int .i64 (2404), .int .i64 (2801), .int .i64 (3196), .int .i64 (3590), .int .i64 (3981), .int .i64 (4370), .int .i64 (4756), .int .i64 (5139), .int .i64 (5520), .int .i64 (5897), .int .i64 (6270), .int .i64 (6639), .int .i64 (7005), .int .i64 (7366), .int .i64 (7723), .int .i64 (8076), .int .i64 (8423), .int .i64 (8765), .int .i64 (9102), .int .i64 (9434), .int .i64 (9760), .int .i64 (10080), .int .i64 (10394), .int .i64 (10702), .int .i64 (11003), .int .i64 (11297), .int .i64 (11585), .int .i64 (11866), .int .i64 (12140), .int .i64 (12406), .int .i64 (12665), .int .i64 (12916), .int .i64 (13160), .int .i64 (13395), .int .i64 (13623), .int .i64 (13842), .int .i64 (14053), .int .i64 (14256), .int .i64 (14449), .int .i64 (14635), .int .i64 (14811), .int .i64 (14978), .int .i64 (15137), .int .i64 (15286), .int .i64 (15426), .int .i64 (15557), .int .i64 (15679), .int .i64 (15791), .int .i64 (15893), .int .i64 (15986), .int .i64 (16069), .int .i64 (16143), .int .i64 (16207), .int .i64 (16261), .int .i64 (16305), .int .i64 (16340), .int .i64 (16364), .int .i64 (16379), .int .i64 (16384)]),
 (0, [.int .i64 (400), .int .i64 (1500), .int .i64 (200), .int .i64 (1000), .int .i64 (50), .int .i64 (500), .int .i64 (200), .int .i64 (1200), .int .i64 (20), .int .i64 (300), .int .i64 (50), .int .i64 (400), .int .i64 (100), .int .i64 (1200), .int .i64 (0), .int .i64 (200), .int .i64 (0), .int .i64 (200), .int .i64 (20), .int .i64 (300), .int .i64 (100), .int .i64 (1000)])]
def gG : Nat := 2
noncomputable def fns : List (Nat × Func) := [(41, Tryd.f41), (62, Tryd.f62), (51, Tryd.f51)]
noncomputable abbrev cx (con : List (Nat × (List AV → Option ConR))) : Ctx := { ty := assoc tyL, con := assoc con, fns := assoc fns, G := gG }
noncomputable def con0 : List (Nat × (List AV → Option ConR)) := []
def tab0 : List Int := [0, 402, 804, 1205, 1606, 2006, 2404, 2801, 3196, 3590, 3981, 4370, 4756, 5139, 5520, 5897, 6270, 6639, 7005, 7366, 7723, 8076, 8423, 8765, 9102, 9434, 9760, 10080, 10394, 10702, 11003, 11297, 11585, 11866, 12140, 12406, 12665, 12916, 13160, 13395, 13623, 13842, 14053, 14256, 14449, 14635, 14811, 14978, 15137, 15286, 15426, 15557, 15679, 15791, 15893, 15986, 16069, 16143, 16207, 16261, 16305, 16340, 16364, 16379, 16384]
def tab1 : List Int := [0, 0, 0, 0, 0, 0, 0, 0, 0, 0, 0, 0, 0, 0, 0, 0, 0, 0, 0, 0, 0, 0, 0, 0, 0, 0, 0, 0, 0, 0, 0, 0, 0]
def tab2 : List Int := [900, 500, 150, 700, 100, 180, 600, 80, 60, 100, 300, 30000, 5000, 3000, 10000]
def tab3 : List Int := [0, 0, 0, 0, 0, -64, 0, 0, -64, 0, 0, 64, 0, 0, -64, 0, 0, -64, 0, 0, 64, 0]
def tab4 : List Int := [0, 0, 0, 0, 0, 0, 0, 0, 0, 0, 0, 0, 0, 0, 0, 0, 0, 0, 0, 0, 0, 0]
theorem tyOk : ∀ t i, assoc tyL t = some i → tyOf Tryd.prog t = some i := tys_of (by kernel_rfl)
theorem moOk : Tryd.prog.follows .mixedOrders = true := by kernel_rfl
theorem fnOk : FnL Tryd.prog fns := ⟨⟨Tryd.func41, Tryd.call41⟩, ⟨Tryd.func62, Tryd.call62⟩, ⟨Tryd.func51, Tryd.call51⟩, trivial⟩
theorem sl0 : SpecL Tryd.prog gG gl con0 := trivial
theorem ok0 : CtxOK Tryd.prog (cx con0) gl := ctx_of tyOk moOk sl0 fnOk

/-- build.Check -/
noncomputable def f14 (a : Nat → Int) : Option (Int) :=
 cond (decide (a 0 < 400)) (
 some (23)) (
 cond (decide (1500 < a 0)) (
 some (23)) (
 cond (decide (a 1 < 200)) (
 some (23)) (
 cond (decide (1000 < a 1)) (
 some (23)) (
 cond (decide (a 2 < 50)) (
 some (23)) (
 cond (decide (500 < a 2)) (
 some (23)) (
 cond (decide (a 3 < 200)) (
 some (23)) (
 cond (decide (1200 < a 3)) (
 some (23)) (
 cond (decide (a 4 < 20)) (
 some (23)) (
 cond (decide (300 < a 4)) (
 some (23)) (
 cond (decide (a 5 < 50)) (
 some (23)) (
 cond (decide (400 < a 5)) (
 some (23)) (
 cond (decide (a 6 < 100)) (
 some (23)) (
 cond (decide (1200 < a 6)) (
 some (23)) (
 cond (decide (a 7 < 0)) (
 some (23)) (
 cond (decide (200 < a 7)) (
 some (23)) (
 cond (decide (a 8 < 0)) (
 some (23)) (
 cond (decide (200 < a 8)) (
 some (23)) (
 cond (decide (a 9 < 20)) (
 some (23)) (
 cond (decide (300 < a 9)) (
 some (23)) (
 cond (decide (a 10 < 100)) (
 some (23)) (
 cond (decide (1000 < a 10)) (
 some (23)) (
 cond (decide (a 11 < 1)) (
 some (23)) (
 cond (decide (200000 < a 11)) (
 some (23)) (
 cond (decide (a 12 < 1)) (
 some (23)) (
 cond (decide (200000 < a 12)) (
 some (23)) (
 cond (decide (a 13 < 1)) (
 some (23)) (
 cond (decide (200000 < a 13)) (
 some (23)) (
 cond (decide (a 14 < 1)) (
 some (23)) (
 cond (decide (200000 < a 14)) (
 some (23)) (
 some (0)))))))))))))))))))))))))))))))
theorem evg14  (xx : (cOne (cA .i64 15)).T) : evF (R := (rOne (cI .i64)).T) (cx []) 1000 Tryd.f14 ((cOne (cA .i64 15)).enc xx) (glMem gl) gG (rOne (cI .i64)).dec =
 (fun (a : Nat → Int) =>
 (( cond (decide (a 0 < 400)) (
 some (23)) (
 cond (decide (1500 < a 0)) (
 some (23)) (
 cond (decide (a 1 < 200)) (
 some (23)) (
 cond (decide (1000 < a 1)) (
 some (23)) (
 cond (decide (a 2 < 50)) (
 some (23)) (
 cond (decide (500 < a 2)) (
 some (23)) (
 cond (decide (a 3 < 200)) (
 some (23)) (
 cond (decide (1200 < a 3)) (
 some (23)) (
 cond (decide (a 4 < 20)) (
 some (23)) (
 cond (decide (300 < a 4)) (
 some (23)) (
 cond (decide (a 5 < 50)) (
 some (23)) (
 cond (decide (400 < a 5)) (
 some (23)) (
 cond (decide (a 6 < 100)) (
 some (23)) (
 cond (decide (1200 < a 6)) (
 some (23)) (
 cond (decide (a 7 < 0)) (
 some (23)) (
 cond (decide (200 < a 7)) (
 some (23)) (
 cond (decide (a 8 < 0)) (
 some (23)) (
 cond (decide (200 < a 8)) (
 some (23)) (
 cond (decide (a 9 < 20)) (
 some (23)) (
 cond (decide (300 < a 9)) (
 some (23)) (
 cond (decide (a 10 < 100)) (
 some (23)) (
 cond (decide (1000 < a 10)) (
 some (23)) (
 cond (decide (a 11 < 1)) (
 some (23)) (
 cond (decide (200000 < a 11)) (
 some (23)) (
 cond (decide (a 12 < 1)) (
 some (23)) (
 cond (decide (200000 < a 12)) (
 some (23)) (
 cond (decide (a 13 < 1)) (
 some (23)) (
 cond (decide (200000 < a 13)) (
 some (23)) (
 cond (decide (a 14 < 1)) (
 some (23)) (
 cond (decide (200000 < a 14)) (
 some (23)) (
 some (0)))))))))))))))))))))))))))))))) : Option (Int))) xx := by kernel_rfl
theorem ok14 : CtxOK Tryd.prog (cx []) gl := ctx_of tyOk moOk trivial fnOk
theorem ev14 (a : (cOne (cA .i64 15)).T) : evF (R := (rOne (cI .i64)).T) (cx []) 1000 Tryd.f14 ((cOne (cA .i64 15)).enc a) (glMem gl) gG (rOne (cI .i64)).dec = f14 a := evg14  a
theorem sp14 : VE.Spec Tryd.prog gG gl 14 (conF (cOne (cA .i64 15)) (rOne (cI .i64)) (fun a => f14 a)) := spec_of ok14 Tryd.func14 Tryd.call14 1000 (cOne_ok (cA_ok _ _)) (rOne_ok (cI_ok _)) ev14
noncomputable abbrev con14 : List (Nat × (List AV → Option ConR)) := []

/-- posture.on -/
noncomputable def f42 (a : Nat → Int) : Option (Bool) :=
 cond (decide (-32768 ≤ a 0)) (
 cond (decide (a 0 ≤ 32768)) (
 cond (decide (-32768 ≤ a 1)) (
 some (decide (a 1 ≤ 32768))) (
 some (false))) (
 some (false))) (
 some (false))
theorem evg42  (xx : (cOne (cA .i64 2)).T) : evF (R := (rOne (cB)).T) (cx []) 1000 Tryd.f42 ((cOne (cA .i64 2)).enc xx) (glMem gl) gG (rOne (cB)).dec =
 (fun (a : Nat → Int) =>
 (( cond (decide (-32768 ≤ a 0)) (
 cond (decide (a 0 ≤ 32768)) (
 cond (decide (-32768 ≤ a 1)) (
 some (decide (a 1 ≤ 32768))) (
 some (false))) (
 some (false))) (
 some (false))) : Option (Bool))) xx := by kernel_rfl
theorem ok42 : CtxOK Tryd.prog (cx []) gl := ctx_of tyOk moOk trivial fnOk
theorem ev42 (a : (cOne (cA .i64 2)).T) : evF (R := (rOne (cB)).T) (cx []) 1000 Tryd.f42 ((cOne (cA .i64 2)).enc a) (glMem gl) gG (rOne (cB)).dec = f42 a := evg42  a
theorem sp42 : VE.Spec Tryd.prog gG gl 42 (conF (cOne (cA .i64 2)) (rOne (cB)) (fun a => f42 a)) := spec_of ok42 Tryd.func42 Tryd.call42 1000 (cOne_ok (cA_ok _ _)) (rOne_ok (cB_ok)) ev42
noncomputable abbrev con42 : List (Nat × (List AV → Option ConR)) := []

/-- aim.known -/
noncomputable def f59 (a : Int) : Option (Bool) :=
 cond (decide (0 ≤ a)) (
 some (decide (a < 6))) (
 some (false))
theorem evg59  (xx : (cOne (cI .i64)).T) : evF (R := (rOne (cB)).T) (cx []) 1000 Tryd.f59 ((cOne (cI .i64)).enc xx) (glMem gl) gG (rOne (cB)).dec =
 (fun (a : Int) =>
 (( cond (decide (0 ≤ a)) (
 some (decide (a < 6))) (
 some (false))) : Option (Bool))) xx := by kernel_rfl
theorem ok59 : CtxOK Tryd.prog (cx []) gl := ctx_of tyOk moOk trivial fnOk
theorem ev59 (a : (cOne (cI .i64)).T) : evF (R := (rOne (cB)).T) (cx []) 1000 Tryd.f59 ((cOne (cI .i64)).enc a) (glMem gl) gG (rOne (cB)).dec = f59 a := evg59  a
theorem sp59 : VE.Spec Tryd.prog gG gl 59 (conF (cOne (cI .i64)) (rOne (cB)) (fun a => f59 a)) := spec_of ok59 Tryd.func59 Tryd.call59 1000 (cOne_ok (cI_ok _)) (rOne_ok (cB_ok)) ev59
noncomputable abbrev con59 : List (Nat × (List AV → Option ConR)) := []

/-- aim.upright -/
noncomputable def f60 (a : Nat → Int) : Option (Bool) :=
 cond (decide (a 1 = 64)) (
 some (true)) (
 some (decide (a 1 = -64)))
theorem evg60  (xx : (cOne (cA .i64 3)).T) : evF (R := (rOne (cB)).T) (cx []) 1000 Tryd.f60 ((cOne (cA .i64 3)).enc xx) (glMem gl) gG (rOne (cB)).dec =
 (fun (a : Nat → Int) =>
 (( cond (decide (a 1 = 64)) (
 some (true)) (
 some (decide (a 1 = -64)))) : Option (Bool))) xx := by kernel_rfl
theorem ok60 : CtxOK Tryd.prog (cx []) gl := ctx_of tyOk moOk trivial fnOk
theorem ev60 (a : (cOne (cA .i64 3)).T) : evF (R := (rOne (cB)).T) (cx []) 1000 Tryd.f60 ((cOne (cA .i64 3)).enc a) (glMem gl) gG (rOne (cB)).dec = f60 a := evg60  a
theorem sp60 : VE.Spec Tryd.prog gG gl 60 (conF (cOne (cA .i64 3)) (rOne (cB)) (fun a => f60 a)) := spec_of ok60 Tryd.func60 Tryd.call60 1000 (cOne_ok (cA_ok _ _)) (rOne_ok (cB_ok)) ev60
noncomputable abbrev con60 : List (Nat × (List AV → Option ConR)) := []

/-- aim.Check -/
noncomputable def f43 (a : Int) (b : Nat → Int) : Option (Int) :=
 Option.bind (f59 a) (fun r2 =>
 cond (!r2) (
 some (9)) (
 cond (decide (b 0 < 0)) (
 some (1)) (
 cond (decide (255 < b 0)) (
 some (1)) (
 cond (decide (b 1 < -64)) (
 some (1)) (
 cond (decide (64 < b 1)) (
 some (1)) (
 cond (decide (b 2 < 0)) (
 some (1)) (
 cond (decide (6 < b 2)) (
 some (1)) (
 Option.bind (f60 b) (fun r3 =>
 cond (r3) (
 cond (!decide (b 0 = 0)) (
 some (2)) (
 some (0))) (
 some (0)))))))))))
theorem evg43 (f59 : (Int) → Option (Bool)) (f60 : (Nat → Int) → Option (Bool)) (xx : (cCons (cI .i64) (cOne (cA .i64 3))).T) : evF (R := (rOne (cI .i64)).T) (cx [(59, conF (cOne (cI .i64)) (rOne (cB)) (fun a => f59 a)), (60, conF (cOne (cA .i64 3)) (rOne (cB)) (fun a => f60 a))]) 1000 Tryd.f43 ((cCons (cI .i64) (cOne (cA .i64 3))).enc xx) (glMem gl) gG (rOne (cI .i64)).dec =
 (fun (a : Int) (b : Nat → Int) =>
 (( Option.bind (f59 a) (fun r2 =>
 cond (!r2) (
 some (9)) (
 cond (decide (b 0 < 0)) (
 some (1)) (
 cond (decide (255 < b 0)) (
 some (1)) (
 cond (decide (b 1 < -64)) (
 some (1)) (
 cond (decide (64 < b 1)) (
 some (1)) (
 cond (decide (b 2 < 0)) (
 some (1)) (
 cond (decide (6 < b 2)) (
 some (1)) (
 Option.bind (f60 (nthI [b 0, b 1, b 2])) (fun r3 =>
 cond (r3) (
 cond (!decide (b 0 = 0)) (
 some (2)) (
 some (0))) (
 some (0)))))))))))) : Option (Int))) xx.1 xx.2 := by kernel_rfl
theorem ok43 : CtxOK Tryd.prog (cx [(59, conF (cOne (cI .i64)) (rOne (cB)) (fun a => f59 a)), (60, conF (cOne (cA .i64 3)) (rOne (cB)) (fun a => f60 a))]) gl := ctx_of tyOk moOk (show SpecL Tryd.prog gG gl [(59, conF (cOne (cI .i64)) (rOne (cB)) (fun a => f59 a)), (60, conF (cOne (cA .i64 3)) (rOne (cB)) (fun a => f60 a))] from ⟨sp59, sp60, trivial⟩) fnOk
noncomputable def g43 (a : Int) (b : Nat → Int) : Option (Int) :=
 Option.bind (f59 a) (fun r2 =>
 cond (!r2) (
 some (9)) (
 cond (decide (b 0 < 0)) (
 some (1)) (
 cond (decide (255 < b 0)) (
 some (1)) (
 cond (decide (b 1 < -64)) (
 some (1)) (
 cond (decide (64 < b 1)) (
 some (1)) (
 cond (decide (b 2 < 0)) (
 some (1)) (
 cond (decide (6 < b 2)) (
 some (1)) (
 Option.bind (f60 (nthI [b 0, b 1, b 2])) (fun r3 =>
 cond (r3) (
 cond (!decide (b 0 = 0)) (
 some (2)) (
 some (0))) (
 some (0)))))))))))
theorem fg43 (a : Int) (b : Nat → Int) : g43 a b = f43 a b := by kernel_rfl
theorem ev43 (a : (cCons (cI .i64) (cOne (cA .i64 3))).T) : evF (R := (rOne (cI .i64)).T) (cx [(59, conF (cOne (cI .i64)) (rOne (cB)) (fun a => f59 a)), (60, conF (cOne (cA .i64 3)) (rOne (cB)) (fun a => f60 a))]) 1000 Tryd.f43 ((cCons (cI .i64) (cOne (cA .i64 3))).enc a) (glMem gl) gG (rOne (cI .i64)).dec = f43 a.1 a.2 := (show evF (R := (rOne (cI .i64)).T) (cx [(59, conF (cOne (cI .i64)) (rOne (cB)) (fun a => f59 a)), (60, conF (cOne (cA .i64 3)) (rOne (cB)) (fun a => f60 a))]) 1000 Tryd.f43 ((cCons (cI .i64) (cOne (cA .i64 3))).enc a) (glMem gl) gG (rOne (cI .i64)).dec = g43 a.1 a.2 from evg43 f59 f60 a).trans (fg43 a.1 a.2)
theorem sp43 : VE.Spec Tryd.prog gG gl 43 (conF (cCons (cI .i64) (cOne (cA .i64 3))) (rOne (cI .i64)) (fun a => f43 a.1 a.2)) := spec_of ok43 Tryd.func43 Tryd.call43 1000 (cCons_ok (cI_ok _) (cOne_ok (cA_ok _ _))) (rOne_ok (cI_ok _)) ev43
noncomputable abbrev con43 : List (Nat × (List AV → Option ConR)) := [(59, conF (cOne (cI .i64)) (rOne (cB)) (fun a => f59 a)), (60, conF (cOne (cA .i64 3)) (rOne (cB)) (fun a => f60 a))]

/-- posture.Valid -/
noncomputable def f15 (a : Nat → Int) : Option (Int) :=
 Option.bind (f42 a) (fun r1 =>
 cond (!r1) (
 some (1)) (
 cond (decide (a 2 < 0)) (
 some (1)) (
 cond (decide (255 < a 2)) (
 some (1)) (
 cond (decide (a 3 < -8)) (
 some (1)) (
 cond (decide (8 < a 3)) (
 some (1)) (
 Option.bind (f43 0 (nthI [a 4, a 5, a 6])) (fun r2 =>
 cond (!decide (r2 = 0)) (
 some (r2)) (
 Option.bind (f43 1 (nthI [a 7, a 8, a 9])) (fun r3 =>
 cond (!decide (r3 = 0)) (
 some (r3)) (
 Option.bind (f43 2 (nthI [a 10, a 11, a 12])) (fun r4 =>
 cond (!decide (r4 = 0)) (
 some (r4)) (
 Option.bind (f43 3 (nthI [a 13, a 14, a 15])) (fun r5 =>
 cond (!decide (r5 = 0)) (
 some (r5)) (
 Option.bind (f43 4 (nthI [a 16, a 17, a 18])) (fun r6 =>
 cond (!decide (r6 = 0)) (
 some (r6)) (
 Option.bind (f43 5 (nthI [a 19, a 20, a 21])) (fun r7 =>
 cond (!decide (r7 = 0)) (
 some (r7)) (
 some (0)))))))))))))))))))
theorem evg15 (f42 : (Nat → Int) → Option (Bool)) (f43 : (Int) → (Nat → Int) → Option (Int)) (xx : (cOne (cA .i64 22)).T) : evF (R := (rOne (cI .i64)).T) (cx [(42, conF (cOne (cA .i64 2)) (rOne (cB)) (fun a => f42 a)), (43, conF (cCons (cI .i64) (cOne (cA .i64 3))) (rOne (cI .i64)) (fun a => f43 a.1 a.2))]) 1000 Tryd.f15 ((cOne (cA .i64 22)).enc xx) (glMem gl) gG (rOne (cI .i64)).dec =
 (fun (a : Nat → Int) =>
 (( Option.bind (f42 (nthI [a 0, a 1])) (fun r1 =>
 cond (!r1) (
 some (1)) (
 cond (decide (a 2 < 0)) (
 some (1)) (
 cond (decide (255 < a 2)) (
 some (1)) (
 cond (decide (a 3 < -8)) (
 some (1)) (
 cond (decide (8 < a 3)) (
 some (1)) (
 Option.bind (f43 0 (nthI [a 4, a 5, a 6])) (fun r2 =>
 cond (!decide (r2 = 0)) (
 some (r2)) (
 Option.bind (f43 1 (nthI [a 7, a 8, a 9])) (fun r3 =>
 cond (!decide (r3 = 0)) (
 some (r3)) (
 Option.bind (f43 2 (nthI [a 10, a 11, a 12])) (fun r4 =>
 cond (!decide (r4 = 0)) (
 some (r4)) (
 Option.bind (f43 3 (nthI [a 13, a 14, a 15])) (fun r5 =>
 cond (!decide (r5 = 0)) (
 some (r5)) (
 Option.bind (f43 4 (nthI [a 16, a 17, a 18])) (fun r6 =>
 cond (!decide (r6 = 0)) (
 some (r6)) (
 Option.bind (f43 5 (nthI [a 19, a 20, a 21])) (fun r7 =>
 cond (!decide (r7 = 0)) (
 some (r7)) (
 some (0)))))))))))))))))))) : Option (Int))) xx := by kernel_rfl
theorem ok15 : CtxOK Tryd.prog (cx [(42, conF (cOne (cA .i64 2)) (rOne (cB)) (fun a => f42 a)), (43, conF (cCons (cI .i64) (cOne (cA .i64 3))) (rOne (cI .i64)) (fun a => f43 a.1 a.2))]) gl := ctx_of tyOk moOk (show SpecL Tryd.prog gG gl [(42, conF (cOne (cA .i64 2)) (rOne (cB)) (fun a => f42 a)), (43, conF (cCons (cI .i64) (cOne (cA .i64 3))) (rOne (cI .i64)) (fun a => f43 a.1 a.2))] from ⟨sp42, sp43, trivial⟩) fnOk
noncomputable def g15 (a : Nat → Int) : Option (Int) :=
 Option.bind (f42 (nthI [a 0, a 1])) (fun r1 =>
 cond (!r1) (
 some (1)) (
 cond (decide (a 2 < 0)) (
 some (1)) (
 cond (decide (255 < a 2)) (
 some (1)) (
 cond (decide (a 3 < -8)) (
 some (1)) (
 cond (decide (8 < a 3)) (
 some (1)) (
 Option.bind (f43 0 (nthI [a 4, a 5, a 6])) (fun r2 =>
 cond (!decide (r2 = 0)) (
 some (r2)) (
 Option.bind (f43 1 (nthI [a 7, a 8, a 9])) (fun r3 =>
 cond (!decide (r3 = 0)) (
 some (r3)) (
 Option.bind (f43 2 (nthI [a 10, a 11, a 12])) (fun r4 =>
 cond (!decide (r4 = 0)) (
 some (r4)) (
 Option.bind (f43 3 (nthI [a 13, a 14, a 15])) (fun r5 =>
 cond (!decide (r5 = 0)) (
 some (r5)) (
 Option.bind (f43 4 (nthI [a 16, a 17, a 18])) (fun r6 =>
 cond (!decide (r6 = 0)) (
 some (r6)) (
 Option.bind (f43 5 (nthI [a 19, a 20, a 21])) (fun r7 =>
 cond (!decide (r7 = 0)) (
 some (r7)) (
 some (0)))))))))))))))))))
theorem fg15 (a : Nat → Int) : g15 a = f15 a := by kernel_rfl
theorem ev15 (a : (cOne (cA .i64 22)).T) : evF (R := (rOne (cI .i64)).T) (cx [(42, conF (cOne (cA .i64 2)) (rOne (cB)) (fun a => f42 a)), (43, conF (cCons (cI .i64) (cOne (cA .i64 3))) (rOne (cI .i64)) (fun a => f43 a.1 a.2))]) 1000 Tryd.f15 ((cOne (cA .i64 22)).enc a) (glMem gl) gG (rOne (cI .i64)).dec = f15 a := (show evF (R := (rOne (cI .i64)).T) (cx [(42, conF (cOne (cA .i64 2)) (rOne (cB)) (fun a => f42 a)), (43, conF (cCons (cI .i64) (cOne (cA .i64 3))) (rOne (cI .i64)) (fun a => f43 a.1 a.2))]) 1000 Tryd.f15 ((cOne (cA .i64 22)).enc a) (glMem gl) gG (rOne (cI .i64)).dec = g15 a from evg15 f42 f43 a).trans (fg15 a)
theorem sp15 : VE.Spec Tryd.prog gG gl 15 (conF (cOne (cA .i64 22)) (rOne (cI .i64)) (fun a => f15 a)) := spec_of ok15 Tryd.func15 Tryd.call15 1000 (cOne_ok (cA_ok _ _)) (rOne_ok (cI_ok _)) ev15
noncomputable abbrev con15 : List (Nat × (List AV → Option ConR)) := [(42, conF (cOne (cA .i64 2)) (rOne (cB)) (fun a => f42 a)), (43, conF (cCons (cI .i64) (cOne (cA .i64 3))) (rOne (cI .i64)) (fun a => f43 a.1 a.2))]

/-- num.divide -/
noncomputable def f74 (a : Int) (b : Int) : Option (Int × Int) :=
 cond (decide (b = 0)) none (
 cond (decide (b = 0)) none (
 cond (decide (a.tmod b < 0)) (
 some ((IntKind.i64.wrap (IntKind.i64.wrap (a.tdiv b) - 1), IntKind.i64.wrap (a.tmod b + b)))) (
 some ((IntKind.i64.wrap (a.tdiv b), a.tmod b)))))
theorem evg74  (xx : (cCons (cI .i64) (cOne (cI .i64))).T) : evF (R := (rTup (cCons (cI .i64) (cOne (cI .i64)))).T) (cx []) 1000 Tryd.f74 ((cCons (cI .i64) (cOne (cI .i64))).enc xx) (glMem gl) gG (rTup (cCons (cI .i64) (cOne (cI .i64)))).dec =
 (fun (a : Int) (b : Int) =>
 (( cond (decide (b = 0)) none (
 cond (decide (b = 0)) none (
 cond (decide (a.tmod b < 0)) (
 some ((IntKind.i64.wrap (IntKind.i64.wrap (a.tdiv b) - 1), IntKind.i64.wrap (a.tmod b + b)))) (
 some ((IntKind.i64.wrap (a.tdiv b), a.tmod b)))))) : Option (Int × Int))) xx.1 xx.2 := by kernel_rfl
theorem ok74 : CtxOK Tryd.prog (cx []) gl := ctx_of tyOk moOk trivial fnOk
theorem ev74 (a : (cCons (cI .i64) (cOne (cI .i64))).T) : evF (R := (rTup (cCons (cI .i64) (cOne (cI .i64)))).T) (cx []) 1000 Tryd.f74 ((cCons (cI .i64) (cOne (cI .i64))).enc a) (glMem gl) gG (rTup (cCons (cI .i64) (cOne (cI .i64)))).dec = f74 a.1 a.2 := evg74  a
theorem sp74 : VE.Spec Tryd.prog gG gl 74 (conF (cCons (cI .i64) (cOne (cI .i64))) (rTup (cCons (cI .i64) (cOne (cI .i64)))) (fun a => f74 a.1 a.2)) := spec_of ok74 Tryd.func74 Tryd.call74 1000 (cCons_ok (cI_ok _) (cOne_ok (cI_ok _))) (rTup_ok (cCons_ok (cI_ok _) (cOne_ok (cI_ok _)))) ev74
noncomputable abbrev con74 : List (Nat × (List AV → Option ConR)) := []

/-- num.nearest -/
noncomputable def f63 (a : Int) (b : Int) : Option (Int) :=
 Option.bind (f74 a b) (fun r2 =>
 cond (decide (b < IntKind.i64.wrap (2 * r2.snd))) (
 some (IntKind.i64.wrap (r2.fst + 1))) (
 cond (decide (IntKind.i64.wrap (2 * r2.snd) = b)) (
 cond (!decide (r2.fst.tmod 2 = 0)) (
 some (IntKind.i64.wrap (r2.fst + 1))) (
 some (r2.fst))) (
 some (r2.fst))))
theorem evg63 (f74 : (Int) → (Int) → Option (Int × Int)) (xx : (cCons (cI .i64) (cOne (cI .i64))).T) : evF (R := (rOne (cI .i64)).T) (cx [(74, conF (cCons (cI .i64) (cOne (cI .i64))) (rTup (cCons (cI .i64) (cOne (cI .i64)))) (fun a => f74 a.1 a.2))]) 1000 Tryd.f63 ((cCons (cI .i64) (cOne (cI .i64))).enc xx) (glMem gl) gG (rOne (cI .i64)).dec =
 (fun (a : Int) (b : Int) =>
 (( Option.bind (f74 a b) (fun r2 =>
 cond (decide (b < IntKind.i64.wrap (2 * r2.snd))) (
 some (IntKind.i64.wrap (r2.fst + 1))) (
 cond (decide (IntKind.i64.wrap (2 * r2.snd) = b)) (
 cond (!decide (r2.fst.tmod 2 = 0)) (
 some (IntKind.i64.wrap (r2.fst + 1))) (
 some (r2.fst))) (
 some (r2.fst))))) : Option (Int))) xx.1 xx.2 := by kernel_rfl
theorem ok63 : CtxOK Tryd.prog (cx [(74, conF (cCons (cI .i64) (cOne (cI .i64))) (rTup (cCons (cI .i64) (cOne (cI .i64)))) (fun a => f74 a.1 a.2))]) gl := ctx_of tyOk moOk (show SpecL Tryd.prog gG gl [(74, conF (cCons (cI .i64) (cOne (cI .i64))) (rTup (cCons (cI .i64) (cOne (cI .i64)))) (fun a => f74 a.1 a.2))] from ⟨sp74, trivial⟩) fnOk
theorem ev63 (a : (cCons (cI .i64) (cOne (cI .i64))).T) : evF (R := (rOne (cI .i64)).T) (cx [(74, conF (cCons (cI .i64) (cOne (cI .i64))) (rTup (cCons (cI .i64) (cOne (cI .i64)))) (fun a => f74 a.1 a.2))]) 1000 Tryd.f63 ((cCons (cI .i64) (cOne (cI .i64))).enc a) (glMem gl) gG (rOne (cI .i64)).dec = f63 a.1 a.2 := evg63 f74 a
theorem sp63 : VE.Spec Tryd.prog gG gl 63 (conF (cCons (cI .i64) (cOne (cI .i64))) (rOne (cI .i64)) (fun a => f63 a.1 a.2)) := spec_of ok63 Tryd.func63 Tryd.call63 1000 (cCons_ok (cI_ok _) (cOne_ok (cI_ok _))) (rOne_ok (cI_ok _)) ev63
noncomputable abbrev con63 : List (Nat × (List AV → Option ConR)) := [(74, conF (cCons (cI .i64) (cOne (cI .i64))) (rTup (cCons (cI .i64) (cOne (cI .i64)))) (fun a => f74 a.1 a.2))]

/-- num.Round -/
noncomputable def f49 (a : Int) (b : Int) : Option (Int × Int) :=
 cond (decide (a < -1125899906842624)) (
 some ((0, 1))) (
 cond (decide (1125899906842624 < a)) (
 some ((0, 1))) (
 cond (decide (b < -1125899906842624)) (
 some ((0, 1))) (
 cond (decide (1125899906842624 < b)) (
 some ((0, 1))) (
 cond (decide (b = 0)) (
 some ((0, 11))) (
 cond (decide (b < 0)) (
 Option.bind (f63 (IntKind.i64.wrap (0 - a)) (IntKind.i64.wrap (0 - b))) (fun r2 =>
 some ((r2, 0)))) (
 Option.bind (f63 a b) (fun r2 =>
 some ((r2, 0)))))))))
theorem evg49 (f63 : (Int) → (Int) → Option (Int)) (xx : (cCons (cI .i64) (cOne (cI .i64))).T) : evF (R := (rTup (cCons (cI .i64) (cOne (cI .i64)))).T) (cx [(63, conF (cCons (cI .i64) (cOne (cI .i64))) (rOne (cI .i64)) (fun a => f63 a.1 a.2))]) 1000 Tryd.f49 ((cCons (cI .i64) (cOne (cI .i64))).enc xx) (glMem gl) gG (rTup (cCons (cI .i64) (cOne (cI .i64)))).dec =
 (fun (a : Int) (b : Int) =>
 (( cond (decide (a < -1125899906842624)) (
 some ((0, 1))) (
 cond (decide (1125899906842624 < a)) (
 some ((0, 1))) (
 cond (decide (b < -1125899906842624)) (
 some ((0, 1))) (
 cond (decide (1125899906842624 < b)) (
 some ((0, 1))) (
 cond (decide (b = 0)) (
 some ((0, 11))) (
 cond (decide (b < 0)) (
 Option.bind (f63 (IntKind.i64.wrap (0 - a)) (IntKind.i64.wrap (0 - b))) (fun r2 =>
 some ((r2, 0)))) (
 Option.bind (f63 a b) (fun r2 =>
 some ((r2, 0)))))))))) : Option (Int × Int))) xx.1 xx.2 := by kernel_rfl
theorem ok49 : CtxOK Tryd.prog (cx [(63, conF (cCons (cI .i64) (cOne (cI .i64))) (rOne (cI .i64)) (fun a => f63 a.1 a.2))]) gl := ctx_of tyOk moOk (show SpecL Tryd.prog gG gl [(63, conF (cCons (cI .i64) (cOne (cI .i64))) (rOne (cI .i64)) (fun a => f63 a.1 a.2))] from ⟨sp63, trivial⟩) fnOk
theorem ev49 (a : (cCons (cI .i64) (cOne (cI .i64))).T) : evF (R := (rTup (cCons (cI .i64) (cOne (cI .i64)))).T) (cx [(63, conF (cCons (cI .i64) (cOne (cI .i64))) (rOne (cI .i64)) (fun a => f63 a.1 a.2))]) 1000 Tryd.f49 ((cCons (cI .i64) (cOne (cI .i64))).enc a) (glMem gl) gG (rTup (cCons (cI .i64) (cOne (cI .i64)))).dec = f49 a.1 a.2 := evg49 f63 a
theorem sp49 : VE.Spec Tryd.prog gG gl 49 (conF (cCons (cI .i64) (cOne (cI .i64))) (rTup (cCons (cI .i64) (cOne (cI .i64)))) (fun a => f49 a.1 a.2)) := spec_of ok49 Tryd.func49 Tryd.call49 1000 (cCons_ok (cI_ok _) (cOne_ok (cI_ok _))) (rTup_ok (cCons_ok (cI_ok _) (cOne_ok (cI_ok _)))) ev49
noncomputable abbrev con49 : List (Nat × (List AV → Option ConR)) := [(63, conF (cCons (cI .i64) (cOne (cI .i64))) (rOne (cI .i64)) (fun a => f63 a.1 a.2))]

/-- joints.height -/
noncomputable def f28 (a : Nat → Int) (b : Int) : Option (Int) :=
 cond (decide (b < 0)) (
 Option.bind (f49 (IntKind.i64.wrap (a 7 * b)) 8) (fun r2 =>
 some (IntKind.i64.wrap (a 0 + r2.fst)))) (
 Option.bind (f49 (IntKind.i64.wrap (a 8 * b)) 8) (fun r2 =>
 some (IntKind.i64.wrap (a 0 + r2.fst))))
theorem evg28 (f49 : (Int) → (Int) → Option (Int × Int)) (xx : (cCons (cA .i64 15) (cOne (cI .i64))).T) : evF (R := (rOne (cI .i64)).T) (cx [(49, conF (cCons (cI .i64) (cOne (cI .i64))) (rTup (cCons (cI .i64) (cOne (cI .i64)))) (fun a => f49 a.1 a.2))]) 1000 Tryd.f28 ((cCons (cA .i64 15) (cOne (cI .i64))).enc xx) (glMem gl) gG (rOne (cI .i64)).dec =
 (fun (a : Nat → Int) (b : Int) =>
 (( cond (decide (b < 0)) (
 Option.bind (f49 (IntKind.i64.wrap (a 7 * b)) 8) (fun r2 =>
 some (IntKind.i64.wrap (a 0 + r2.fst)))) (
 Option.bind (f49 (IntKind.i64.wrap (a 8 * b)) 8) (fun r2 =>
 some (IntKind.i64.wrap (a 0 + r2.fst))))) : Option (Int))) xx.1 xx.2 := by kernel_rfl
theorem ok28 : CtxOK Tryd.prog (cx [(49, conF (cCons (cI .i64) (cOne (cI .i64))) (rTup (cCons (cI .i64) (cOne (cI .i64)))) (fun a => f49 a.1 a.2))]) gl := ctx_of tyOk moOk (show SpecL Tryd.prog gG gl [(49, conF (cCons (cI .i64) (cOne (cI .i64))) (rTup (cCons (cI .i64) (cOne (cI .i64)))) (fun a => f49 a.1 a.2))] from ⟨sp49, trivial⟩) fnOk
theorem ev28 (a : (cCons (cA .i64 15) (cOne (cI .i64))).T) : evF (R := (rOne (cI .i64)).T) (cx [(49, conF (cCons (cI .i64) (cOne (cI .i64))) (rTup (cCons (cI .i64) (cOne (cI .i64)))) (fun a => f49 a.1 a.2))]) 1000 Tryd.f28 ((cCons (cA .i64 15) (cOne (cI .i64))).enc a) (glMem gl) gG (rOne (cI .i64)).dec = f28 a.1 a.2 := evg28 f49 a
theorem sp28 : VE.Spec Tryd.prog gG gl 28 (conF (cCons (cA .i64 15) (cOne (cI .i64))) (rOne (cI .i64)) (fun a => f28 a.1 a.2)) := spec_of ok28 Tryd.func28 Tryd.call28 1000 (cCons_ok (cA_ok _ _) (cOne_ok (cI_ok _))) (rOne_ok (cI_ok _)) ev28
noncomputable abbrev con28 : List (Nat × (List AV → Option ConR)) := [(49, conF (cCons (cI .i64) (cOne (cI .i64))) (rTup (cCons (cI .i64) (cOne (cI .i64)))) (fun a => f49 a.1 a.2))]

/-- joints.plus -/
noncomputable def f29 (a : Nat → Int) (b : Nat → Int) : Option ((Nat → Int)) :=
 some (nthI [IntKind.i64.wrap (a 0 + b 0), IntKind.i64.wrap (a 1 + b 1), IntKind.i64.wrap (a 2 + b 2)])
theorem evg29  (xx : (cCons (cA .i64 3) (cOne (cA .i64 3))).T) : evF (R := (rOne (cA .i64 3)).T) (cx []) 1000 Tryd.f29 ((cCons (cA .i64 3) (cOne (cA .i64 3))).enc xx) (glMem gl) gG (rOne (cA .i64 3)).dec =
 (fun (a : Nat → Int) (b : Nat → Int) =>
 (( some (nthI [IntKind.i64.wrap (a 0 + b 0), IntKind.i64.wrap (a 1 + b 1), IntKind.i64.wrap (a 2 + b 2)])) : Option ((Nat → Int)))) xx.1 xx.2 := by kernel_rfl
theorem ok29 : CtxOK Tryd.prog (cx []) gl := ctx_of tyOk moOk trivial fnOk
theorem ev29 (a : (cCons (cA .i64 3) (cOne (cA .i64 3))).T) : evF (R := (rOne (cA .i64 3)).T) (cx []) 1000 Tryd.f29 ((cCons (cA .i64 3) (cOne (cA .i64 3))).enc a) (glMem gl) gG (rOne (cA .i64 3)).dec = f29 a.1 a.2 := evg29  a
theorem sp29 : VE.Spec Tryd.prog gG gl 29 (conF (cCons (cA .i64 3) (cOne (cA .i64 3))) (rOne (cA .i64 3)) (fun a => f29 a.1 a.2)) := spec_of ok29 Tryd.func29 Tryd.call29 1000 (cCons_ok (cA_ok _ _) (cOne_ok (cA_ok _ _))) (rOne_ok (cA_ok _ _)) ev29
noncomputable abbrev con29 : List (Nat × (List AV → Option ConR)) := []

/-- angle.Norm -/
noncomputable def f61 (a : Int) : Option (Int) :=
 some ((IntKind.i64.wrap (a.tmod 256 + 256)).tmod 256)
theorem evg61  (xx : (cOne (cI .i64)).T) : evF (R := (rOne (cI .i64)).T) (cx []) 1000 Tryd.f61 ((cOne (cI .i64)).enc xx) (glMem gl) gG (rOne (cI .i64)).dec =
 (fun (a : Int) =>
 (( some ((IntKind.i64.wrap (a.tmod 256 + 256)).tmod 256)) : Option (Int))) xx := by kernel_rfl
theorem ok61 : CtxOK Tryd.prog (cx []) gl := ctx_of tyOk moOk trivial fnOk
theorem ev61 (a : (cOne (cI .i64)).T) : evF (R := (rOne (cI .i64)).T) (cx []) 1000 Tryd.f61 ((cOne (cI .i64)).enc a) (glMem gl) gG (rOne (cI .i64)).dec = f61 a := evg61  a
theorem sp61 : VE.Spec Tryd.prog gG gl 61 (conF (cOne (cI .i64)) (rOne (cI .i64)) (fun a => f61 a)) := spec_of ok61 Tryd.func61 Tryd.call61 1000 (cOne_ok (cI_ok _)) (rOne_ok (cI_ok _)) ev61
noncomputable abbrev con61 : List (Nat × (List AV → Option ConR)) := []

/-- angle.Sin -/
noncomputable def f65 (a : Int) : Option (Int) :=
 Option.bind (f61 a) (fun r1 =>
 cond (decide (r1 ≤ 64)) (
 cond (decide (0 ≤ r1)) (
 cond (decide (r1 < 65)) (
 some (tab0.getD r1.toNat 0)) none) none) (
 cond (decide (r1 ≤ 128)) (
 cond (decide (0 ≤ IntKind.i64.wrap (128 - r1))) (
 cond (decide (IntKind.i64.wrap (128 - r1) < 65)) (
 some (tab0.getD (IntKind.i64.wrap (128 - r1)).toNat 0)) none) none) (
 cond (decide (r1 ≤ 192)) (
 cond (decide (0 ≤ IntKind.i64.wrap (r1 - 128))) (
 cond (decide (IntKind.i64.wrap (r1 - 128) < 65)) (
 some (IntKind.i64.wrap (0 - tab0.getD (IntKind.i64.wrap (r1 - 128)).toNat 0))) none) none) (
 cond (decide (0 ≤ IntKind.i64.wrap (256 - r1))) (
 cond (decide (IntKind.i64.wrap (256 - r1) < 65)) (
 some (IntKind.i64.wrap (0 - tab0.getD (IntKind.i64.wrap (256 - r1)).toNat 0))) none) none))))
theorem evg65 (f61 : (Int) → Option (Int)) (xx : (cOne (cI .i64)).T) : evF (R := (rOne (cI .i64)).T) (cx [(61, conF (cOne (cI .i64)) (rOne (cI .i64)) (fun a => f61 a))]) 1000 Tryd.f65 ((cOne (cI .i64)).enc xx) (glMem gl) gG (rOne (cI .i64)).dec =
 (fun (a : Int) =>
 (( Option.bind (f61 a) (fun r1 =>
 cond (decide (r1 ≤ 64)) (
 cond (decide (0 ≤ r1)) (
 cond (decide (r1 < 65)) (
 some (tab0.getD r1.toNat 0)) none) none) (
 cond (decide (r1 ≤ 128)) (
 cond (decide (0 ≤ IntKind.i64.wrap (128 - r1))) (
 cond (decide (IntKind.i64.wrap (128 - r1) < 65)) (
 some (tab0.getD (IntKind.i64.wrap (128 - r1)).toNat 0)) none) none) (
 cond (decide (r1 ≤ 192)) (
 cond (decide (0 ≤ IntKind.i64.wrap (r1 - 128))) (
 cond (decide (IntKind.i64.wrap (r1 - 128) < 65)) (
 some (IntKind.i64.wrap (0 - tab0.getD (IntKind.i64.wrap (r1 - 128)).toNat 0))) none) none) (
 cond (decide (0 ≤ IntKind.i64.wrap (256 - r1))) (
 cond (decide (IntKind.i64.wrap (256 - r1) < 65)) (
 some (IntKind.i64.wrap (0 - tab0.getD (IntKind.i64.wrap (256 - r1)).toNat 0))) none) none))))) : Option (Int))) xx := by kernel_rfl
theorem ok65 : CtxOK Tryd.prog (cx [(61, conF (cOne (cI .i64)) (rOne (cI .i64)) (fun a => f61 a))]) gl := ctx_of tyOk moOk (show SpecL Tryd.prog gG gl [(61, conF (cOne (cI .i64)) (rOne (cI .i64)) (fun a => f61 a))] from ⟨sp61, trivial⟩) fnOk
theorem ev65 (a : (cOne (cI .i64)).T) : evF (R := (rOne (cI .i64)).T) (cx [(61, conF (cOne (cI .i64)) (rOne (cI .i64)) (fun a => f61 a))]) 1000 Tryd.f65 ((cOne (cI .i64)).enc a) (glMem gl) gG (rOne (cI .i64)).dec = f65 a := evg65 f61 a
theorem sp65 : VE.Spec Tryd.prog gG gl 65 (conF (cOne (cI .i64)) (rOne (cI .i64)) (fun a => f65 a)) := spec_of ok65 Tryd.func65 Tryd.call65 1000 (cOne_ok (cI_ok _)) (rOne_ok (cI_ok _)) ev65
noncomputable abbrev con65 : List (Nat × (List AV → Option ConR)) := [(61, conF (cOne (cI .i64)) (rOne (cI .i64)) (fun a => f61 a))]

/-- angle.Cos -/
noncomputable def f64 (a : Int) : Option (Int) :=
 Option.bind (f61 a) (fun r1 =>
 Option.bind (f65 (IntKind.i64.wrap (r1 + 64))) (fun r2 =>
 some (r2)))
theorem evg64 (f61 : (Int) → Option (Int)) (f65 : (Int) → Option (Int)) (xx : (cOne (cI .i64)).T) : evF (R := (rOne (cI .i64)).T) (cx [(61, conF (cOne (cI .i64)) (rOne (cI .i64)) (fun a => f61 a)), (65, conF (cOne (cI .i64)) (rOne (cI .i64)) (fun a => f65 a))]) 1000 Tryd.f64 ((cOne (cI .i64)).enc xx) (glMem gl) gG (rOne (cI .i64)).dec =
 (fun (a : Int) =>
 (( Option.bind (f61 a) (fun r1 =>
 Option.bind (f65 (IntKind.i64.wrap (r1 + 64))) (fun r2 =>
 some (r2)))) : Option (Int))) xx := by kernel_rfl
theorem ok64 : CtxOK Tryd.prog (cx [(61, conF (cOne (cI .i64)) (rOne (cI .i64)) (fun a => f61 a)), (65, conF (cOne (cI .i64)) (rOne (cI .i64)) (fun a => f65 a))]) gl := ctx_of tyOk moOk (show SpecL Tryd.prog gG gl [(61, conF (cOne (cI .i64)) (rOne (cI .i64)) (fun a => f61 a)), (65, conF (cOne (cI .i64)) (rOne (cI .i64)) (fun a => f65 a))] from ⟨sp61, sp65, trivial⟩) fnOk
theorem ev64 (a : (cOne (cI .i64)).T) : evF (R := (rOne (cI .i64)).T) (cx [(61, conF (cOne (cI .i64)) (rOne (cI .i64)) (fun a => f61 a)), (65, conF (cOne (cI .i64)) (rOne (cI .i64)) (fun a => f65 a))]) 1000 Tryd.f64 ((cOne (cI .i64)).enc a) (glMem gl) gG (rOne (cI .i64)).dec = f64 a := evg64 f61 f65 a
theorem sp64 : VE.Spec Tryd.prog gG gl 64 (conF (cOne (cI .i64)) (rOne (cI .i64)) (fun a => f64 a)) := spec_of ok64 Tryd.func64 Tryd.call64 1000 (cOne_ok (cI_ok _)) (rOne_ok (cI_ok _)) ev64
noncomputable abbrev con64 : List (Nat × (List AV → Option ConR)) := [(61, conF (cOne (cI .i64)) (rOne (cI .i64)) (fun a => f61 a)), (65, conF (cOne (cI .i64)) (rOne (cI .i64)) (fun a => f65 a))]

/-- aim.Vector -/
noncomputable def f50 (a : Nat → Int) (b : Int) : Option ((Nat → Int) × Int) :=
 Option.bind (f43 0 a) (fun r2 =>
 cond (!decide (r2 = 0)) (
 some ((nthI [0, 0, 0], r2))) (
 Option.bind (f61 b) (fun r3 =>
 Option.bind (f64 (a 1)) (fun r4 =>
 Option.bind (f65 (IntKind.i64.wrap (a 0 + r3))) (fun r5 =>
 Option.bind (f49 (IntKind.i64.wrap (r4 * r5)) 16384) (fun r6 =>
 Option.bind (f64 (IntKind.i64.wrap (a 0 + r3))) (fun r7 =>
 Option.bind (f49 (IntKind.i64.wrap (r4 * r7)) 16384) (fun r8 =>
 Option.bind (f65 (a 1)) (fun r9 =>
 some ((nthI [r6.fst, r8.fst, r9], 0)))))))))))
theorem evg50 (f43 : (Int) → (Nat → Int) → Option (Int)) (f49 : (Int) → (Int) → Option (Int × Int)) (f61 : (Int) → Option (Int)) (f64 : (Int) → Option (Int)) (f65 : (Int) → Option (Int)) (xx : (cCons (cA .i64 3) (cOne (cI .i64))).T) : evF (R := (rTup (cCons (cA .i64 3) (cOne (cI .i64)))).T) (cx [(43, conF (cCons (cI .i64) (cOne (cA .i64 3))) (rOne (cI .i64)) (fun a => f43 a.1 a.2)), (49, conF (cCons (cI .i64) (cOne (cI .i64))) (rTup (cCons (cI .i64) (cOne (cI .i64)))) (fun a => f49 a.1 a.2)), (61, conF (cOne (cI .i64)) (rOne (cI .i64)) (fun a => f61 a)), (64, conF (cOne (cI .i64)) (rOne (cI .i64)) (fun a => f64 a)), (65, conF (cOne (cI .i64)) (rOne (cI .i64)) (fun a => f65 a))]) 1000 Tryd.f50 ((cCons (cA .i64 3) (cOne (cI .i64))).enc xx) (glMem gl) gG (rTup (cCons (cA .i64 3) (cOne (cI .i64)))).dec =
 (fun (a : Nat → Int) (b : Int) =>
 (( Option.bind (f43 0 (nthI [a 0, a 1, a 2])) (fun r2 =>
 cond (!decide (r2 = 0)) (
 some ((nthI [0, 0, 0], r2))) (
 Option.bind (f61 b) (fun r3 =>
 Option.bind (f64 (a 1)) (fun r4 =>
 Option.bind (f65 (IntKind.i64.wrap (a 0 + r3))) (fun r5 =>
 Option.bind (f49 (IntKind.i64.wrap (r4 * r5)) 16384) (fun r6 =>
 Option.bind (f64 (IntKind.i64.wrap (a 0 + r3))) (fun r7 =>
 Option.bind (f49 (IntKind.i64.wrap (r4 * r7)) 16384) (fun r8 =>
 Option.bind (f65 (a 1)) (fun r9 =>
 some ((nthI [r6.fst, r8.fst, r9], 0)))))))))))) : Option ((Nat → Int) × Int))) xx.1 xx.2 := by kernel_rfl
theorem ok50 : CtxOK Tryd.prog (cx [(43, conF (cCons (cI .i64) (cOne (cA .i64 3))) (rOne (cI .i64)) (fun a => f43 a.1 a.2)), (49, conF (cCons (cI .i64) (cOne (cI .i64))) (rTup (cCons (cI .i64) (cOne (cI .i64)))) (fun a => f49 a.1 a.2)), (61, conF (cOne (cI .i64)) (rOne (cI .i64)) (fun a => f61 a)), (64, conF (cOne (cI .i64)) (rOne (cI .i64)) (fun a => f64 a)), (65, conF (cOne (cI .i64)) (rOne (cI .i64)) (fun a => f65 a))]) gl := ctx_of tyOk moOk (show SpecL Tryd.prog gG gl [(43, conF (cCons (cI .i64) (cOne (cA .i64 3))) (rOne (cI .i64)) (fun a => f43 a.1 a.2)), (49, conF (cCons (cI .i64) (cOne (cI .i64))) (rTup (cCons (cI .i64) (cOne (cI .i64)))) (fun a => f49 a.1 a.2)), (61, conF (cOne (cI .i64)) (rOne (cI .i64)) (fun a => f61 a)), (64, conF (cOne (cI .i64)) (rOne (cI .i64)) (fun a => f64 a)), (65, conF (cOne (cI .i64)) (rOne (cI .i64)) (fun a => f65 a))] from ⟨sp43, sp49, sp61, sp64, sp65, trivial⟩) fnOk
noncomputable def g50 (a : Nat → Int) (b : Int) : Option ((Nat → Int) × Int) :=
 Option.bind (f43 0 (nthI [a 0, a 1, a 2])) (fun r2 =>
 cond (!decide (r2 = 0)) (
 some ((nthI [0, 0, 0], r2))) (
 Option.bind (f61 b) (fun r3 =>
 Option.bind (f64 (a 1)) (fun r4 =>
 Option.bind (f65 (IntKind.i64.wrap (a 0 + r3))) (fun r5 =>
 Option.bind (f49 (IntKind.i64.wrap (r4 * r5)) 16384) (fun r6 =>
 Option.bind (f64 (IntKind.i64.wrap (a 0 + r3))) (fun r7 =>
 Option.bind (f49 (IntKind.i64.wrap (r4 * r7)) 16384) (fun r8 =>
 Option.bind (f65 (a 1)) (fun r9 =>
 some ((nthI [r6.fst, r8.fst, r9], 0)))))))))))
theorem fg50 (a : Nat → Int) (b : Int) : g50 a b = f50 a b := by kernel_rfl
theorem ev50 (a : (cCons (cA .i64 3) (cOne (cI .i64))).T) : evF (R := (rTup (cCons (cA .i64 3) (cOne (cI .i64)))).T) (cx [(43, conF (cCons (cI .i64) (cOne (cA .i64 3))) (rOne (cI .i64)) (fun a => f43 a.1 a.2)), (49, conF (cCons (cI .i64) (cOne (cI .i64))) (rTup (cCons (cI .i64) (cOne (cI .i64)))) (fun a => f49 a.1 a.2)), (61, conF (cOne (cI .i64)) (rOne (cI .i64)) (fun a => f61 a)), (64, conF (cOne (cI .i64)) (rOne (cI .i64)) (fun a => f64 a)), (65, conF (cOne (cI .i64)) (rOne (cI .i64)) (fun a => f65 a))]) 1000 Tryd.f50 ((cCons (cA .i64 3) (cOne (cI .i64))).enc a) (glMem gl) gG (rTup (cCons (cA .i64 3) (cOne (cI .i64)))).dec = f50 a.1 a.2 := (show evF (R := (rTup (cCons (cA .i64 3) (cOne (cI .i64)))).T) (cx [(43, conF (cCons (cI .i64) (cOne (cA .i64 3))) (rOne (cI .i64)) (fun a => f43 a.1 a.2)), (49, conF (cCons (cI .i64) (cOne (cI .i64))) (rTup (cCons (cI .i64) (cOne (cI .i64)))) (fun a => f49 a.1 a.2)), (61, conF (cOne (cI .i64)) (rOne (cI .i64)) (fun a => f61 a)), (64, conF (cOne (cI .i64)) (rOne (cI .i64)) (fun a => f64 a)), (65, conF (cOne (cI .i64)) (rOne (cI .i64)) (fun a => f65 a))]) 1000 Tryd.f50 ((cCons (cA .i64 3) (cOne (cI .i64))).enc a) (glMem gl) gG (rTup (cCons (cA .i64 3) (cOne (cI .i64)))).dec = g50 a.1 a.2 from evg50 f43 f49 f61 f64 f65 a).trans (fg50 a.1 a.2)
theorem sp50 : VE.Spec Tryd.prog gG gl 50 (conF (cCons (cA .i64 3) (cOne (cI .i64))) (rTup (cCons (cA .i64 3) (cOne (cI .i64)))) (fun a => f50 a.1 a.2)) := spec_of ok50 Tryd.func50 Tryd.call50 1000 (cCons_ok (cA_ok _ _) (cOne_ok (cI_ok _))) (rTup_ok (cCons_ok (cA_ok _ _) (cOne_ok (cI_ok _)))) ev50
noncomputable abbrev con50 : List (Nat × (List AV → Option ConR)) := [(43, conF (cCons (cI .i64) (cOne (cA .i64 3))) (rOne (cI .i64)) (fun a => f43 a.1 a.2)), (49, conF (cCons (cI .i64) (cOne (cI .i64))) (rTup (cCons (cI .i64) (cOne (cI .i64)))) (fun a => f49 a.1 a.2)), (61, conF (cOne (cI .i64)) (rOne (cI .i64)) (fun a => f61 a)), (64, conF (cOne (cI .i64)) (rOne (cI .i64)) (fun a => f64 a)), (65, conF (cOne (cI .i64)) (rOne (cI .i64)) (fun a => f65 a))]

/-- joints.along -/
noncomputable def f30 (a : Int) (b : Nat → Int) (c : Int) : Option ((Nat → Int)) :=
 Option.bind (f50 b c) (fun r3 =>
 Option.bind (f49 (IntKind.i64.wrap (IntKind.i64.wrap (a * IntKind.i64.wrap (8 - b 2)) * r3.fst 0)) 131072) (fun r4 =>
 Option.bind (f49 (IntKind.i64.wrap (IntKind.i64.wrap (a * IntKind.i64.wrap (8 - b 2)) * r3.fst 1)) 131072) (fun r5 =>
 Option.bind (f49 (IntKind.i64.wrap (IntKind.i64.wrap (a * IntKind.i64.wrap (8 - b 2)) * r3.fst 2)) 131072) (fun r6 =>
 some (nthI [r4.fst, r5.fst, r6.fst])))))
theorem evg30 (f49 : (Int) → (Int) → Option (Int × Int)) (f50 : (Nat → Int) → (Int) → Option ((Nat → Int) × Int)) (xx : (cCons (cI .i64) (cCons (cA .i64 3) (cOne (cI .i64)))).T) : evF (R := (rOne (cA .i64 3)).T) (cx [(49, conF (cCons (cI .i64) (cOne (cI .i64))) (rTup (cCons (cI .i64) (cOne (cI .i64)))) (fun a => f49 a.1 a.2)), (50, conF (cCons (cA .i64 3) (cOne (cI .i64))) (rTup (cCons (cA .i64 3) (cOne (cI .i64)))) (fun a => f50 a.1 a.2))]) 1000 Tryd.f30 ((cCons (cI .i64) (cCons (cA .i64 3) (cOne (cI .i64)))).enc xx) (glMem gl) gG (rOne (cA .i64 3)).dec =
 (fun (a : Int) (b : Nat → Int) (c : Int) =>
 (( Option.bind (f50 (nthI [b 0, b 1, b 2]) c) (fun r3 =>
 Option.bind (f49 (IntKind.i64.wrap (IntKind.i64.wrap (a * IntKind.i64.wrap (8 - b 2)) * r3.fst 0)) 131072) (fun r4 =>
 Option.bind (f49 (IntKind.i64.wrap (IntKind.i64.wrap (a * IntKind.i64.wrap (8 - b 2)) * r3.fst 1)) 131072) (fun r5 =>
 Option.bind (f49 (IntKind.i64.wrap (IntKind.i64.wrap (a * IntKind.i64.wrap (8 - b 2)) * r3.fst 2)) 131072) (fun r6 =>
 some (nthI [r4.fst, r5.fst, r6.fst])))))) : Option ((Nat → Int)))) xx.1 xx.2.1 xx.2.2 := by kernel_rfl
theorem ok30 : CtxOK Tryd.prog (cx [(49, conF (cCons (cI .i64) (cOne (cI .i64))) (rTup (cCons (cI .i64) (cOne (cI .i64)))) (fun a => f49 a.1 a.2)), (50, conF (cCons (cA .i64 3) (cOne (cI .i64))) (rTup (cCons (cA .i64 3) (cOne (cI .i64)))) (fun a => f50 a.1 a.2))]) gl := ctx_of tyOk moOk (show SpecL Tryd.prog gG gl [(49, conF (cCons (cI .i64) (cOne (cI .i64))) (rTup (cCons (cI .i64) (cOne (cI .i64)))) (fun a => f49 a.1 a.2)), (50, conF (cCons (cA .i64 3) (cOne (cI .i64))) (rTup (cCons (cA .i64 3) (cOne (cI .i64)))) (fun a => f50 a.1 a.2))] from ⟨sp49, sp50, trivial⟩) fnOk
noncomputable def g30 (a : Int) (b : Nat → Int) (c : Int) : Option ((Nat → Int)) :=
 Option.bind (f50 (nthI [b 0, b 1, b 2]) c) (fun r3 =>
 Option.bind (f49 (IntKind.i64.wrap (IntKind.i64.wrap (a * IntKind.i64.wrap (8 - b 2)) * r3.fst 0)) 131072) (fun r4 =>
 Option.bind (f49 (IntKind.i64.wrap (IntKind.i64.wrap (a * IntKind.i64.wrap (8 - b 2)) * r3.fst 1)) 131072) (fun r5 =>
 Option.bind (f49 (IntKind.i64.wrap (IntKind.i64.wrap (a * IntKind.i64.wrap (8 - b 2)) * r3.fst 2)) 131072) (fun r6 =>
 some (nthI [r4.fst, r5.fst, r6.fst])))))
theorem fg30 (a : Int) (b : Nat → Int) (c : Int) : g30 a b c = f30 a b c := by kernel_rfl
theorem ev30 (a : (cCons (cI .i64) (cCons (cA .i64 3) (cOne (cI .i64)))).T) : evF (R := (rOne (cA .i64 3)).T) (cx [(49, conF (cCons (cI .i64) (cOne (cI .i64))) (rTup (cCons (cI .i64) (cOne (cI .i64)))) (fun a => f49 a.1 a.2)), (50, conF (cCons (cA .i64 3) (cOne (cI .i64))) (rTup (cCons (cA .i64 3) (cOne (cI .i64)))) (fun a => f50 a.1 a.2))]) 1000 Tryd.f30 ((cCons (cI .i64) (cCons (cA .i64 3) (cOne (cI .i64)))).enc a) (glMem gl) gG (rOne (cA .i64 3)).dec = f30 a.1 a.2.1 a.2.2 := (show evF (R := (rOne (cA .i64 3)).T) (cx [(49, conF (cCons (cI .i64) (cOne (cI .i64))) (rTup (cCons (cI .i64) (cOne (cI .i64)))) (fun a => f49 a.1 a.2)), (50, conF (cCons (cA .i64 3) (cOne (cI .i64))) (rTup (cCons (cA .i64 3) (cOne (cI .i64)))) (fun a => f50 a.1 a.2))]) 1000 Tryd.f30 ((cCons (cI .i64) (cCons (cA .i64 3) (cOne (cI .i64)))).enc a) (glMem gl) gG (rOne (cA .i64 3)).dec = g30 a.1 a.2.1 a.2.2 from evg30 f49 f50 a).trans (fg30 a.1 a.2.1 a.2.2)
theorem sp30 : VE.Spec Tryd.prog gG gl 30 (conF (cCons (cI .i64) (cCons (cA .i64 3) (cOne (cI .i64)))) (rOne (cA .i64 3)) (fun a => f30 a.1 a.2.1 a.2.2)) := spec_of ok30 Tryd.func30 Tryd.call30 1000 (cCons_ok (cI_ok _) (cCons_ok (cA_ok _ _) (cOne_ok (cI_ok _)))) (rOne_ok (cA_ok _ _)) ev30
noncomputable abbrev con30 : List (Nat × (List AV → Option ConR)) := [(49, conF (cCons (cI .i64) (cOne (cI .i64))) (rTup (cCons (cI .i64) (cOne (cI .i64)))) (fun a => f49 a.1 a.2)), (50, conF (cCons (cA .i64 3) (cOne (cI .i64))) (rTup (cCons (cA .i64 3) (cOne (cI .i64)))) (fun a => f50 a.1 a.2))]

/-- angle.Turned -/
noncomputable def f52 (a : Nat → Int) (b : Int) : Option ((Nat → Int) × Int) :=
 cond (decide (a 0 < -32768)) (
 some ((nthI [0, 0], 1))) (
 cond (decide (32768 < a 0)) (
 some ((nthI [0, 0], 1))) (
 cond (decide (a 1 < -32768)) (
 some ((nthI [0, 0], 1))) (
 cond (decide (32768 < a 1)) (
 some ((nthI [0, 0], 1))) (
 Option.bind (f64 b) (fun r2 =>
 Option.bind (f65 b) (fun r3 =>
 Option.bind (f49 (IntKind.i64.wrap (IntKind.i64.wrap (a 0 * r2) + IntKind.i64.wrap (a 1 * r3))) 16384) (fun r4 =>
 cond (!decide (r4.snd = 0)) (
 some ((nthI [0, 0], r4.snd))) (
 Option.bind (f64 b) (fun r5 =>
 Option.bind (f65 b) (fun r6 =>
 Option.bind (f49 (IntKind.i64.wrap (IntKind.i64.wrap (a 1 * r5) - IntKind.i64.wrap (a 0 * r6))) 16384) (fun r7 =>
 cond (!decide (r7.snd = 0)) (
 some ((nthI [0, 0], r7.snd))) (
 some ((nthI [r4.fst, r7.fst], 0))))))))))))))
theorem evg52 (f49 : (Int) → (Int) → Option (Int × Int)) (f64 : (Int) → Option (Int)) (f65 : (Int) → Option (Int)) (xx : (cCons (cA .i64 2) (cOne (cI .i64))).T) : evF (R := (rTup (cCons (cA .i64 2) (cOne (cI .i64)))).T) (cx [(49, conF (cCons (cI .i64) (cOne (cI .i64))) (rTup (cCons (cI .i64) (cOne (cI .i64)))) (fun a => f49 a.1 a.2)), (64, conF (cOne (cI .i64)) (rOne (cI .i64)) (fun a => f64 a)), (65, conF (cOne (cI .i64)) (rOne (cI .i64)) (fun a => f65 a))]) 1000 Tryd.f52 ((cCons (cA .i64 2) (cOne (cI .i64))).enc xx) (glMem gl) gG (rTup (cCons (cA .i64 2) (cOne (cI .i64)))).dec =
 (fun (a : Nat → Int) (b : Int) =>
 (( cond (decide (a 0 < -32768)) (
 some ((nthI [0, 0], 1))) (
 cond (decide (32768 < a 0)) (
 some ((nthI [0, 0], 1))) (
 cond (decide (a 1 < -32768)) (
 some ((nthI [0, 0], 1))) (
 cond (decide (32768 < a 1)) (
 some ((nthI [0, 0], 1))) (
 Option.bind (f64 b) (fun r2 =>
 Option.bind (f65 b) (fun r3 =>
 Option.bind (f49 (IntKind.i64.wrap (IntKind.i64.wrap (a 0 * r2) + IntKind.i64.wrap (a 1 * r3))) 16384) (fun r4 =>
 cond (!decide (r4.snd = 0)) (
 some ((nthI [0, 0], r4.snd))) (
 Option.bind (f64 b) (fun r5 =>
 Option.bind (f65 b) (fun r6 =>
 Option.bind (f49 (IntKind.i64.wrap (IntKind.i64.wrap (a 1 * r5) - IntKind.i64.wrap (a 0 * r6))) 16384) (fun r7 =>
 cond (!decide (r7.snd = 0)) (
 some ((nthI [0, 0], r7.snd))) (
 some ((nthI [r4.fst, r7.fst], 0))))))))))))))) : Option ((Nat → Int) × Int))) xx.1 xx.2 := by kernel_rfl
theorem ok52 : CtxOK Tryd.prog (cx [(49, conF (cCons (cI .i64) (cOne (cI .i64))) (rTup (cCons (cI .i64) (cOne (cI .i64)))) (fun a => f49 a.1 a.2)), (64, conF (cOne (cI .i64)) (rOne (cI .i64)) (fun a => f64 a)), (65, conF (cOne (cI .i64)) (rOne (cI .i64)) (fun a => f65 a))]) gl := ctx_of tyOk moOk (show SpecL Tryd.prog gG gl [(49, conF (cCons (cI .i64) (cOne (cI .i64))) (rTup (cCons (cI .i64) (cOne (cI .i64)))) (fun a => f49 a.1 a.2)), (64, conF (cOne (cI .i64)) (rOne (cI .i64)) (fun a => f64 a)), (65, conF (cOne (cI .i64)) (rOne (cI .i64)) (fun a => f65 a))] from ⟨sp49, sp64, sp65, trivial⟩) fnOk
theorem ev52 (a : (cCons (cA .i64 2) (cOne (cI .i64))).T) : evF (R := (rTup (cCons (cA .i64 2) (cOne (cI .i64)))).T) (cx [(49, conF (cCons (cI .i64) (cOne (cI .i64))) (rTup (cCons (cI .i64) (cOne (cI .i64)))) (fun a => f49 a.1 a.2)), (64, conF (cOne (cI .i64)) (rOne (cI .i64)) (fun a => f64 a)), (65, conF (cOne (cI .i64)) (rOne (cI .i64)) (fun a => f65 a))]) 1000 Tryd.f52 ((cCons (cA .i64 2) (cOne (cI .i64))).enc a) (glMem gl) gG (rTup (cCons (cA .i64 2) (cOne (cI .i64)))).dec = f52 a.1 a.2 := evg52 f49 f64 f65 a
theorem sp52 : VE.Spec Tryd.prog gG gl 52 (conF (cCons (cA .i64 2) (cOne (cI .i64))) (rTup (cCons (cA .i64 2) (cOne (cI .i64)))) (fun a => f52 a.1 a.2)) := spec_of ok52 Tryd.func52 Tryd.call52 1000 (cCons_ok (cA_ok _ _) (cOne_ok (cI_ok _))) (rTup_ok (cCons_ok (cA_ok _ _) (cOne_ok (cI_ok _)))) ev52
noncomputable abbrev con52 : List (Nat × (List AV → Option ConR)) := [(49, conF (cCons (cI .i64) (cOne (cI .i64))) (rTup (cCons (cI .i64) (cOne (cI .i64)))) (fun a => f49 a.1 a.2)), (64, conF (cOne (cI .i64)) (rOne (cI .i64)) (fun a => f64 a)), (65, conF (cOne (cI .i64)) (rOne (cI .i64)) (fun a => f65 a))]

/-- joints.sides -/
noncomputable def f31 (a : Int) (b : Int) : Option ((Nat → Int)) :=
 Option.bind (f52 (nthI [IntKind.i64.wrap (0 - a), 0]) b) (fun r2 =>
 Option.bind (f52 (nthI [a, 0]) b) (fun r3 =>
 some (nthI [r2.fst 0, r2.fst 1, 0, r3.fst 0, r3.fst 1, 0])))
theorem evg31 (f52 : (Nat → Int) → (Int) → Option ((Nat → Int) × Int)) (xx : (cCons (cI .i64) (cOne (cI .i64))).T) : evF (R := (rOne (cA .i64 6)).T) (cx [(52, conF (cCons (cA .i64 2) (cOne (cI .i64))) (rTup (cCons (cA .i64 2) (cOne (cI .i64)))) (fun a => f52 a.1 a.2))]) 1000 Tryd.f31 ((cCons (cI .i64) (cOne (cI .i64))).enc xx) (glMem gl) gG (rOne (cA .i64 6)).dec =
 (fun (a : Int) (b : Int) =>
 (( Option.bind (f52 (nthI [IntKind.i64.wrap (0 - a), 0]) b) (fun r2 =>
 Option.bind (f52 (nthI [a, 0]) b) (fun r3 =>
 some (nthI [r2.fst 0, r2.fst 1, 0, r3.fst 0, r3.fst 1, 0])))) : Option ((Nat → Int)))) xx.1 xx.2 := by kernel_rfl
theorem ok31 : CtxOK Tryd.prog (cx [(52, conF (cCons (cA .i64 2) (cOne (cI .i64))) (rTup (cCons (cA .i64 2) (cOne (cI .i64)))) (fun a => f52 a.1 a.2))]) gl := ctx_of tyOk moOk (show SpecL Tryd.prog gG gl [(52, conF (cCons (cA .i64 2) (cOne (cI .i64))) (rTup (cCons (cA .i64 2) (cOne (cI .i64)))) (fun a => f52 a.1 a.2))] from ⟨sp52, trivial⟩) fnOk
theorem ev31 (a : (cCons (cI .i64) (cOne (cI .i64))).T) : evF (R := (rOne (cA .i64 6)).T) (cx [(52, conF (cCons (cA .i64 2) (cOne (cI .i64))) (rTup (cCons (cA .i64 2) (cOne (cI .i64)))) (fun a => f52 a.1 a.2))]) 1000 Tryd.f31 ((cCons (cI .i64) (cOne (cI .i64))).enc a) (glMem gl) gG (rOne (cA .i64 6)).dec = f31 a.1 a.2 := evg31 f52 a
theorem sp31 : VE.Spec Tryd.prog gG gl 31 (conF (cCons (cI .i64) (cOne (cI .i64))) (rOne (cA .i64 6)) (fun a => f31 a.1 a.2)) := spec_of ok31 Tryd.func31 Tryd.call31 1000 (cCons_ok (cI_ok _) (cOne_ok (cI_ok _))) (rOne_ok (cA_ok _ _)) ev31
noncomputable abbrev con31 : List (Nat × (List AV → Option ConR)) := [(52, conF (cCons (cA .i64 2) (cOne (cI .i64))) (rTup (cCons (cA .i64 2) (cOne (cI .i64)))) (fun a => f52 a.1 a.2))]

/-- joints.Of -/
noncomputable def f10 (a : Nat → Int) (b : Nat → Int) (c : Int) : Option ((Nat → Int) × Int) :=
 Option.bind (f14 a) (fun r3 =>
 cond (!decide (r3 = 0)) (
 some ((nthI tab1, r3))) (
 Option.bind (f15 b) (fun r4 =>
 cond (!decide (r4 = 0)) (
 some ((nthI tab1, r4))) (
 cond (decide (c < 0)) (
 some ((nthI tab1, 1))) (
 cond (decide (3 < c)) (
 some ((nthI tab1, 1))) (
 Option.bind (f28 a (b 3)) (fun r5 =>
 Option.bind (f30 (a 1) (nthI [b 10, b 11, b 12]) (b 2)) (fun r6 =>
 Option.bind (f29 (nthI [b 0, b 1, r5]) r6) (fun r7 =>
 Option.bind (f30 (a 2) (nthI [b 19, b 20, b 21]) (b 2)) (fun r8 =>
 Option.bind (f29 r7 r8) (fun r9 =>
 Option.bind (f31 (a 4) (b 2)) (fun r10 =>
 Option.bind (f31 (a 5) (b 2)) (fun r11 =>
 Option.bind (f29 (nthI [b 0, b 1, r5]) r10) (fun r12 =>
 Option.bind (f29 r7 r11) (fun r13 =>
 Option.bind (f30 (a 3) (nthI [b 13, b 14, b 15]) (b 2)) (fun r14 =>
 Option.bind (f29 r13 r14) (fun r15 =>
 cond (!decide (bitsI BinOp.and IntKind.i64 c 1 = 0)) (
 Option.bind (f29 (nthI [b 0, b 1, r5]) (nthI [r10 3, r10 4, r10 5])) (fun r16 =>
 Option.bind (f29 r7 (nthI [r11 3, r11 4, r11 5])) (fun r17 =>
 Option.bind (f30 (a 3) (nthI [b 16, b 17, b 18]) (b 2)) (fun r18 =>
 Option.bind (f29 r17 r18) (fun r19 =>
 cond (!decide (bitsI BinOp.and IntKind.i64 c 2 = 0)) (
 some ((nthI [b 0, b 1, r5, r7 0, r7 1, r7 2, r9 0, r9 1, r9 2, r12 0, r12 1, r12 2, r16 0, r16 1, r16 2, r13 0, r13 1, r13 2, r17 0, r17 1, r17 2, r15 0, r15 1, r15 2, r19 0, r19 1, r19 2, r12 0, r12 1, 0, r16 0, r16 1, 0], 0))) (
 Option.bind (f30 (a 0) (nthI [b 7, b 8, b 9]) (b 2)) (fun r20 =>
 Option.bind (f29 r16 r20) (fun r21 =>
 some ((nthI [b 0, b 1, r5, r7 0, r7 1, r7 2, r9 0, r9 1, r9 2, r12 0, r12 1, r12 2, r16 0, r16 1, r16 2, r13 0, r13 1, r13 2, r17 0, r17 1, r17 2, r15 0, r15 1, r15 2, r19 0, r19 1, r19 2, r12 0, r12 1, 0, r21 0, r21 1, r21 2], 0)))))))))) (
 Option.bind (f30 (a 0) (nthI [b 4, b 5, b 6]) (b 2)) (fun r16 =>
 Option.bind (f29 r12 r16) (fun r17 =>
 Option.bind (f29 (nthI [b 0, b 1, r5]) (nthI [r10 3, r10 4, r10 5])) (fun r18 =>
 Option.bind (f29 r7 (nthI [r11 3, r11 4, r11 5])) (fun r19 =>
 Option.bind (f30 (a 3) (nthI [b 16, b 17, b 18]) (b 2)) (fun r20 =>
 Option.bind (f29 r19 r20) (fun r21 =>
 cond (!decide (bitsI BinOp.and IntKind.i64 c 2 = 0)) (
 some ((nthI [b 0, b 1, r5, r7 0, r7 1, r7 2, r9 0, r9 1, r9 2, r12 0, r12 1, r12 2, r18 0, r18 1, r18 2, r13 0, r13 1, r13 2, r19 0, r19 1, r19 2, r15 0, r15 1, r15 2, r21 0, r21 1, r21 2, r17 0, r17 1, r17 2, r18 0, r18 1, 0], 0))) (
 Option.bind (f30 (a 0) (nthI [b 7, b 8, b 9]) (b 2)) (fun r22 =>
 Option.bind (f29 r18 r22) (fun r23 =>
 some ((nthI [b 0, b 1, r5, r7 0, r7 1, r7 2, r9 0, r9 1, r9 2, r12 0, r12 1, r12 2, r18 0, r18 1, r18 2, r13 0, r13 1, r13 2, r19 0, r19 1, r19 2, r15 0, r15 1, r15 2, r21 0, r21 1, r21 2, r17 0, r17 1, r17 2, r23 0, r23 1, r23 2], 0)))))))))))))))))))))))))))))
theorem evg10 (f14 : (Nat → Int) → Option (Int)) (f15 : (Nat → Int) → Option (Int)) (f28 : (Nat → Int) → (Int) → Option (Int)) (f29 : (Nat → Int) → (Nat → Int) → Option ((Nat → Int))) (f30 : (Int) → (Nat → Int) → (Int) → Option ((Nat → Int))) (f31 : (Int) → (Int) → Option ((Nat → Int))) (xx : (cCons (cA .i64 15) (cCons (cA .i64 22) (cOne (cI .i64)))).T) : evF (R := (rTup (cCons (cA .i64 33) (cOne (cI .i64)))).T) (cx [(14, conF (cOne (cA .i64 15)) (rOne (cI .i64)) (fun a => f14 a)), (15, conF (cOne (cA .i64 22)) (rOne (cI .i64)) (fun a => f15 a)), (28, conF (cCons (cA .i64 15) (cOne (cI .i64))) (rOne (cI .i64)) (fun a => f28 a.1 a.2)), (29, conF (cCons (cA .i64 3) (cOne (cA .i64 3))) (rOne (cA .i64 3)) (fun a => f29 a.1 a.2)), (30, conF (cCons (cI .i64) (cCons (cA .i64 3) (cOne (cI .i64)))) (rOne (cA .i64 3)) (fun a => f30 a.1 a.2.1 a.2.2)), (31, conF (cCons (cI .i64) (cOne (cI .i64))) (rOne (cA .i64 6)) (fun a => f31 a.1 a.2))]) 1000 Tryd.f10 ((cCons (cA .i64 15) (cCons (cA .i64 22) (cOne (cI .i64)))).enc xx) (glMem gl) gG (rTup (cCons (cA .i64 33) (cOne (cI .i64)))).dec =
 (fun (a : Nat → Int) (b : Nat → Int) (c : Int) =>
 (( Option.bind (f14 (nthI [a 0, a 1, a 2, a 3, a 4, a 5, a 6, a 7, a 8, a 9, a 10, a 11, a 12, a 13, a 14])) (fun r3 =>
 cond (!decide (r3 = 0)) (
 some ((nthI tab1, r3))) (
 Option.bind (f15 (nthI [b 0, b 1, b 2, b 3, b 4, b 5, b 6, b 7, b 8, b 9, b 10, b 11, b 12, b 13, b 14, b 15, b 16, b 17, b 18, b 19, b 20, b 21])) (fun r4 =>
 cond (!decide (r4 = 0)) (
 some ((nthI tab1, r4))) (
 cond (decide (c < 0)) (
 some ((nthI tab1, 1))) (
 cond (decide (3 < c)) (
 some ((nthI tab1, 1))) (
 Option.bind (f28 (nthI [a 0, a 1, a 2, a 3, a 4, a 5, a 6, a 7, a 8, a 9, a 10, a 11, a 12, a 13, a 14]) (b 3)) (fun r5 =>
 Option.bind (f30 (a 1) (nthI [b 10, b 11, b 12]) (b 2)) (fun r6 =>
 Option.bind (f29 (nthI [b 0, b 1, r5]) (nthI [r6 0, r6 1, r6 2])) (fun r7 =>
 Option.bind (f30 (a 2) (nthI [b 19, b 20, b 21]) (b 2)) (fun r8 =>
 Option.bind (f29 (nthI [r7 0, r7 1, r7 2]) (nthI [r8 0, r8 1, r8 2])) (fun r9 =>
 Option.bind (f31 (a 4) (b 2)) (fun r10 =>
 Option.bind (f31 (a 5) (b 2)) (fun r11 =>
 Option.bind (f29 (nthI [b 0, b 1, r5]) (nthI [r10 0, r10 1, r10 2])) (fun r12 =>
 Option.bind (f29 (nthI [r7 0, r7 1, r7 2]) (nthI [r11 0, r11 1, r11 2])) (fun r13 =>
 Option.bind (f30 (a 3) (nthI [b 13, b 14, b 15]) (b 2)) (fun r14 =>
 Option.bind (f29 (nthI [r13 0, r13 1, r13 2]) (nthI [r14 0, r14 1, r14 2])) (fun r15 =>
 cond (!decide (bitsI BinOp.and IntKind.i64 c 1 = 0)) (
 Option.bind (f29 (nthI [b 0, b 1, r5]) (nthI [r10 3, r10 4, r10 5])) (fun r16 =>
 Option.bind (f29 (nthI [r7 0, r7 1, r7 2]) (nthI [r11 3, r11 4, r11 5])) (fun r17 =>
 Option.bind (f30 (a 3) (nthI [b 16, b 17, b 18]) (b 2)) (fun r18 =>
 Option.bind (f29 (nthI [r17 0, r17 1, r17 2]) (nthI [r18 0, r18 1, r18 2])) (fun r19 =>
 cond (!decide (bitsI BinOp.and IntKind.i64 c 2 = 0)) (
 some ((nthI [b 0, b 1, r5, r7 0, r7 1, r7 2, r9 0, r9 1, r9 2, r12 0, r12 1, r12 2, r16 0, r16 1, r16 2, r13 0, r13 1, r13 2, r17 0, r17 1, r17 2, r15 0, r15 1, r15 2, r19 0, r19 1, r19 2, r12 0, r12 1, 0, r16 0, r16 1, 0], 0))) (
 Option.bind (f30 (a 0) (nthI [b 7, b 8, b 9]) (b 2)) (fun r20 =>
 Option.bind (f29 (nthI [r16 0, r16 1, r16 2]) (nthI [r20 0, r20 1, r20 2])) (fun r21 =>
 some ((nthI [b 0, b 1, r5, r7 0, r7 1, r7 2, r9 0, r9 1, r9 2, r12 0, r12 1, r12 2, r16 0, r16 1, r16 2, r13 0, r13 1, r13 2, r17 0, r17 1, r17 2, r15 0, r15 1, r15 2, r19 0, r19 1, r19 2, r12 0, r12 1, 0, r21 0, r21 1, r21 2], 0)))))))))) (
 Option.bind (f30 (a 0) (nthI [b 4, b 5, b 6]) (b 2)) (fun r16 =>
 Option.bind (f29 (nthI [r12 0, r12 1, r12 2]) (nthI [r16 0, r16 1, r16 2])) (fun r17 =>
 Option.bind (f29 (nthI [b 0, b 1, r5]) (nthI [r10 3, r10 4, r10 5])) (fun r18 =>
 Option.bind (f29 (nthI [r7 0, r7 1, r7 2]) (nthI [r11 3, r11 4, r11 5])) (fun r19 =>
 Option.bind (f30 (a 3) (nthI [b 16, b 17, b 18]) (b 2)) (fun r20 =>
 Option.bind (f29 (nthI [r19 0, r19 1, r19 2]) (nthI [r20 0, r20 1, r20 2])) (fun r21 =>
 cond (!decide (bitsI BinOp.and IntKind.i64 c 2 = 0)) (
 some ((nthI [b 0, b 1, r5, r7 0, r7 1, r7 2, r9 0, r9 1, r9 2, r12 0, r12 1, r12 2, r18 0, r18 1, r18 2, r13 0, r13 1, r13 2, r19 0, r19 1, r19 2, r15 0, r15 1, r15 2, r21 0, r21 1, r21 2, r17 0, r17 1, r17 2, r18 0, r18 1, 0], 0))) (
 Option.bind (f30 (a 0) (nthI [b 7, b 8, b 9]) (b 2)) (fun r22 =>
 Option.bind (f29 (nthI [r18 0, r18 1, r18 2]) (nthI [r22 0, r22 1, r22 2])) (fun r23 =>
 some ((nthI [b 0, b 1, r5, r7 0, r7 1, r7 2, r9 0, r9 1, r9 2, r12 0, r12 1, r12 2, r18 0, r18 1, r18 2, r13 0, r13 1, r13 2, r19 0, r19 1, r19 2, r15 0, r15 1, r15 2, r21 0, r21 1, r21 2, r17 0, r17 1, r17 2, r23 0, r23 1, r23 2], 0)))))))))))))))))))))))))))))) : Option ((Nat → Int) × Int))) xx.1 xx.2.1 xx.2.2 := by kernel_rfl
theorem ok10 : CtxOK Tryd.prog (cx [(14, conF (cOne (cA .i64 15)) (rOne (cI .i64)) (fun a => f14 a)), (15, conF (cOne (cA .i64 22)) (rOne (cI .i64)) (fun a => f15 a)), (28, conF (cCons (cA .i64 15) (cOne (cI .i64))) (rOne (cI .i64)) (fun a => f28 a.1 a.2)), (29, conF (cCons (cA .i64 3) (cOne (cA .i64 3))) (rOne (cA .i64 3)) (fun a => f29 a.1 a.2)), (30, conF (cCons (cI .i64) (cCons (cA .i64 3) (cOne (cI .i64)))) (rOne (cA .i64 3)) (fun a => f30 a.1 a.2.1 a.2.2)), (31, conF (cCons (cI .i64) (cOne (cI .i64))) (rOne (cA .i64 6)) (fun a => f31 a.1 a.2))]) gl := ctx_of tyOk moOk (show SpecL Tryd.prog gG gl [(14, conF (cOne (cA .i64 15)) (rOne (cI .i64)) (fun a => f14 a)), (15, conF (cOne (cA .i64 22)) (rOne (cI .i64)) (fun a => f15 a)), (28, conF (cCons (cA .i64 15) (cOne (cI .i64))) (rOne (cI .i64)) (fun a => f28 a.1 a.2)), (29, conF (cCons (cA .i64 3) (cOne (cA .i64 3))) (rOne (cA .i64 3)) (fun a => f29 a.1 a.2)), (30, conF (cCons (cI .i64) (cCons (cA .i64 3) (cOne (cI .i64)))) (rOne (cA .i64 3)) (fun a => f30 a.1 a.2.1 a.2.2)), (31, conF (cCons (cI .i64) (cOne (cI .i64))) (rOne (cA .i64 6)) (fun a => f31 a.1 a.2))] from ⟨sp14, sp15, sp28, sp29, sp30, sp31, trivial⟩) fnOk
noncomputable def g10 (a : Nat → Int) (b : Nat → Int) (c : Int) : Option ((Nat → Int) × Int) :=
 Option.bind (f14 (nthI [a 0, a 1, a 2, a 3, a 4, a 5, a 6, a 7, a 8, a 9, a 10, a 11, a 12, a 13, a 14])) (fun r3 =>
 cond (!decide (r3 = 0)) (
 some ((nthI tab1, r3))) (
 Option.bind (f15 (nthI [b 0, b 1, b 2, b 3, b 4, b 5, b 6, b 7, b 8, b 9, b 10, b 11, b 12, b 13, b 14, b 15, b 16, b 17, b 18, b 19, b 20, b 21])) (fun r4 =>
 cond (!decide (r4 = 0)) (
 some ((nthI tab1, r4))) (
 cond (decide (c < 0)) (
 some ((nthI tab1, 1))) (
 cond (decide (3 < c)) (
 some ((nthI tab1, 1))) (
 Option.bind (f28 (nthI [a 0, a 1, a 2, a 3, a 4, a 5, a 6, a 7, a 8, a 9, a 10, a 11, a 12, a 13, a 14]) (b 3)) (fun r5 =>
 Option.bind (f30 (a 1) (nthI [b 10, b 11, b 12]) (b 2)) (fun r6 =>
 Option.bind (f29 (nthI [b 0, b 1, r5]) (nthI [r6 0, r6 1, r6 2])) (fun r7 =>
 Option.bind (f30 (a 2) (nthI [b 19, b 20, b 21]) (b 2)) (fun r8 =>
 Option.bind (f29 (nthI [r7 0, r7 1, r7 2]) (nthI [r8 0, r8 1, r8 2])) (fun r9 =>
 Option.bind (f31 (a 4) (b 2)) (fun r10 =>
 Option.bind (f31 (a 5) (b 2)) (fun r11 =>
 Option.bind (f29 (nthI [b 0, b 1, r5]) (nthI [r10 0, r10 1, r10 2])) (fun r12 =>
 Option.bind (f29 (nthI [r7 0, r7 1, r7 2]) (nthI [r11 0, r11 1, r11 2])) (fun r13 =>
 Option.bind (f30 (a 3) (nthI [b 13, b 14, b 15]) (b 2)) (fun r14 =>
 Option.bind (f29 (nthI [r13 0, r13 1, r13 2]) (nthI [r14 0, r14 1, r14 2])) (fun r15 =>
 cond (!decide (bitsI BinOp.and IntKind.i64 c 1 = 0)) (
 Option.bind (f29 (nthI [b 0, b 1, r5]) (nthI [r10 3, r10 4, r10 5])) (fun r16 =>
 Option.bind (f29 (nthI [r7 0, r7 1, r7 2]) (nthI [r11 3, r11 4, r11 5])) (fun r17 =>
 Option.bind (f30 (a 3) (nthI [b 16, b 17, b 18]) (b 2)) (fun r18 =>
 Option.bind (f29 (nthI [r17 0, r17 1, r17 2]) (nthI [r18 0, r18 1, r18 2])) (fun r19 =>
 cond (!decide (bitsI BinOp.and IntKind.i64 c 2 = 0)) (
 some ((nthI [b 0, b 1, r5, r7 0, r7 1, r7 2, r9 0, r9 1, r9 2, r12 0, r12 1, r12 2, r16 0, r16 1, r16 2, r13 0, r13 1, r13 2, r17 0, r17 1, r17 2, r15 0, r15 1, r15 2, r19 0, r19 1, r19 2, r12 0, r12 1, 0, r16 0, r16 1, 0], 0))) (
 Option.bind (f30 (a 0) (nthI [b 7, b 8, b 9]) (b 2)) (fun r20 =>
 Option.bind (f29 (nthI [r16 0, r16 1, r16 2]) (nthI [r20 0, r20 1, r20 2])) (fun r21 =>
 some ((nthI [b 0, b 1, r5, r7 0, r7 1, r7 2, r9 0, r9 1, r9 2, r12 0, r12 1, r12 2, r16 0, r16 1, r16 2, r13 0, r13 1, r13 2, r17 0, r17 1, r17 2, r15 0, r15 1, r15 2, r19 0, r19 1, r19 2, r12 0, r12 1, 0, r21 0, r21 1, r21 2], 0)))))))))) (
 Option.bind (f30 (a 0) (nthI [b 4, b 5, b 6]) (b 2)) (fun r16 =>
 Option.bind (f29 (nthI [r12 0, r12 1, r12 2]) (nthI [r16 0, r16 1, r16 2])) (fun r17 =>
 Option.bind (f29 (nthI [b 0, b 1, r5]) (nthI [r10 3, r10 4, r10 5])) (fun r18 =>
 Option.bind (f29 (nthI [r7 0, r7 1, r7 2]) (nthI [r11 3, r11 4, r11 5])) (fun r19 =>
 Option.bind (f30 (a 3) (nthI [b 16, b 17, b 18]) (b 2)) (fun r20 =>
 Option.bind (f29 (nthI [r19 0, r19 1, r19 2]) (nthI [r20 0, r20 1, r20 2])) (fun r21 =>
 cond (!decide (bitsI BinOp.and IntKind.i64 c 2 = 0)) (
 some ((nthI [b 0, b 1, r5, r7 0, r7 1, r7 2, r9 0, r9 1, r9 2, r12 0, r12 1, r12 2, r18 0, r18 1, r18 2, r13 0, r13 1, r13 2, r19 0, r19 1, r19 2, r15 0, r15 1, r15 2, r21 0, r21 1, r21 2, r17 0, r17 1, r17 2, r18 0, r18 1, 0], 0))) (
 Option.bind (f30 (a 0) (nthI [b 7, b 8, b 9]) (b 2)) (fun r22 =>
 Option.bind (f29 (nthI [r18 0, r18 1, r18 2]) (nthI [r22 0, r22 1, r22 2])) (fun r23 =>
 some ((nthI [b 0, b 1, r5, r7 0, r7 1, r7 2, r9 0, r9 1, r9 2, r12 0, r12 1, r12 2, r18 0, r18 1, r18 2, r13 0, r13 1, r13 2, r19 0, r19 1, r19 2, r15 0, r15 1, r15 2, r21 0, r21 1, r21 2, r17 0, r17 1, r17 2, r23 0, r23 1, r23 2], 0)))))))))))))))))))))))))))))
theorem fg10 (a : Nat → Int) (b : Nat → Int) (c : Int) : g10 a b c = f10 a b c := by kernel_rfl
theorem ev10 (a : (cCons (cA .i64 15) (cCons (cA .i64 22) (cOne (cI .i64)))).T) : evF (R := (rTup (cCons (cA .i64 33) (cOne (cI .i64)))).T) (cx [(14, conF (cOne (cA .i64 15)) (rOne (cI .i64)) (fun a => f14 a)), (15, conF (cOne (cA .i64 22)) (rOne (cI .i64)) (fun a => f15 a)), (28, conF (cCons (cA .i64 15) (cOne (cI .i64))) (rOne (cI .i64)) (fun a => f28 a.1 a.2)), (29, conF (cCons (cA .i64 3) (cOne (cA .i64 3))) (rOne (cA .i64 3)) (fun a => f29 a.1 a.2)), (30, conF (cCons (cI .i64) (cCons (cA .i64 3) (cOne (cI .i64)))) (rOne (cA .i64 3)) (fun a => f30 a.1 a.2.1 a.2.2)), (31, conF (cCons (cI .i64) (cOne (cI .i64))) (rOne (cA .i64 6)) (fun a => f31 a.1 a.2))]) 1000 Tryd.f10 ((cCons (cA .i64 15) (cCons (cA .i64 22) (cOne (cI .i64)))).enc a) (glMem gl) gG (rTup (cCons (cA .i64 33) (cOne (cI .i64)))).dec = f10 a.1 a.2.1 a.2.2 := (show evF (R := (rTup (cCons (cA .i64 33) (cOne (cI .i64)))).T) (cx [(14, conF (cOne (cA .i64 15)) (rOne (cI .i64)) (fun a => f14 a)), (15, conF (cOne (cA .i64 22)) (rOne (cI .i64)) (fun a => f15 a)), (28, conF (cCons (cA .i64 15) (cOne (cI .i64))) (rOne (cI .i64)) (fun a => f28 a.1 a.2)), (29, conF (cCons (cA .i64 3) (cOne (cA .i64 3))) (rOne (cA .i64 3)) (fun a => f29 a.1 a.2)), (30, conF (cCons (cI .i64) (cCons (cA .i64 3) (cOne (cI .i64)))) (rOne (cA .i64 3)) (fun a => f30 a.1 a.2.1 a.2.2)), (31, conF (cCons (cI .i64) (cOne (cI .i64))) (rOne (cA .i64 6)) (fun a => f31 a.1 a.2))]) 1000 Tryd.f10 ((cCons (cA .i64 15) (cCons (cA .i64 22) (cOne (cI .i64)))).enc a) (glMem gl) gG (rTup (cCons (cA .i64 33) (cOne (cI .i64)))).dec = g10 a.1 a.2.1 a.2.2 from evg10 f14 f15 f28 f29 f30 f31 a).trans (fg10 a.1 a.2.1 a.2.2)
theorem sp10 : VE.Spec Tryd.prog gG gl 10 (conF (cCons (cA .i64 15) (cCons (cA .i64 22) (cOne (cI .i64)))) (rTup (cCons (cA .i64 33) (cOne (cI .i64)))) (fun a => f10 a.1 a.2.1 a.2.2)) := spec_of ok10 Tryd.func10 Tryd.call10 1000 (cCons_ok (cA_ok _ _) (cCons_ok (cA_ok _ _) (cOne_ok (cI_ok _)))) (rTup_ok (cCons_ok (cA_ok _ _) (cOne_ok (cI_ok _)))) ev10
noncomputable abbrev con10 : List (Nat × (List AV → Option ConR)) := [(14, conF (cOne (cA .i64 15)) (rOne (cI .i64)) (fun a => f14 a)), (15, conF (cOne (cA .i64 22)) (rOne (cI .i64)) (fun a => f15 a)), (28, conF (cCons (cA .i64 15) (cOne (cI .i64))) (rOne (cI .i64)) (fun a => f28 a.1 a.2)), (29, conF (cCons (cA .i64 3) (cOne (cA .i64 3))) (rOne (cA .i64 3)) (fun a => f29 a.1 a.2)), (30, conF (cCons (cI .i64) (cCons (cA .i64 3) (cOne (cI .i64)))) (rOne (cA .i64 3)) (fun a => f30 a.1 a.2.1 a.2.2)), (31, conF (cCons (cI .i64) (cOne (cI .i64))) (rOne (cA .i64 6)) (fun a => f31 a.1 a.2))]

/-- dancestudioref17.in -/
noncomputable def f53 (a : Int) (b : Int) (c : Int) : Option (Bool) :=
 cond (decide (b ≤ a)) (
 some (decide (a ≤ c))) (
 some (false))
theorem evg53  (xx : (cCons (cI .i64) (cCons (cI .i64) (cOne (cI .i64)))).T) : evF (R := (rOne (cB)).T) (cx []) 1000 Tryd.f53 ((cCons (cI .i64) (cCons (cI .i64) (cOne (cI .i64)))).enc xx) (glMem gl) gG (rOne (cB)).dec =
 (fun (a : Int) (b : Int) (c : Int) =>
 (( cond (decide (b ≤ a)) (
 some (decide (a ≤ c))) (
 some (false))) : Option (Bool))) xx.1 xx.2.1 xx.2.2 := by kernel_rfl
theorem ok53 : CtxOK Tryd.prog (cx []) gl := ctx_of tyOk moOk trivial fnOk
theorem ev53 (a : (cCons (cI .i64) (cCons (cI .i64) (cOne (cI .i64)))).T) : evF (R := (rOne (cB)).T) (cx []) 1000 Tryd.f53 ((cCons (cI .i64) (cCons (cI .i64) (cOne (cI .i64)))).enc a) (glMem gl) gG (rOne (cB)).dec = f53 a.1 a.2.1 a.2.2 := evg53  a
theorem sp53 : VE.Spec Tryd.prog gG gl 53 (conF (cCons (cI .i64) (cCons (cI .i64) (cOne (cI .i64)))) (rOne (cB)) (fun a => f53 a.1 a.2.1 a.2.2)) := spec_of ok53 Tryd.func53 Tryd.call53 1000 (cCons_ok (cI_ok _) (cCons_ok (cI_ok _) (cOne_ok (cI_ok _)))) (rOne_ok (cB_ok)) ev53
noncomputable abbrev con53 : List (Nat × (List AV → Option ConR)) := []

/-- dancestudioref17.Check -/
noncomputable def f32 (a : Nat → Int) : Option (Int) :=
 Option.bind (f53 (a 0) 400 1500) (fun r1 =>
 cond (!r1) (
 some (23)) (
 Option.bind (f53 (a 1) 200 1000) (fun r2 =>
 cond (!r2) (
 some (23)) (
 Option.bind (f53 (a 2) 50 500) (fun r3 =>
 cond (!r3) (
 some (23)) (
 Option.bind (f53 (a 3) 200 1200) (fun r4 =>
 cond (!r4) (
 some (23)) (
 Option.bind (f53 (a 4) 20 300) (fun r5 =>
 cond (!r5) (
 some (23)) (
 Option.bind (f53 (a 5) 50 400) (fun r6 =>
 cond (!r6) (
 some (23)) (
 Option.bind (f53 (a 6) 100 1200) (fun r7 =>
 cond (!r7) (
 some (23)) (
 Option.bind (f53 (a 7) 0 200) (fun r8 =>
 cond (!r8) (
 some (23)) (
 Option.bind (f53 (a 8) 0 200) (fun r9 =>
 cond (!r9) (
 some (23)) (
 Option.bind (f53 (a 9) 20 300) (fun r10 =>
 cond (!r10) (
 some (23)) (
 Option.bind (f53 (a 10) 100 1000) (fun r11 =>
 cond (!r11) (
 some (23)) (
 Option.bind (f53 (a 11) 1 200000) (fun r12 =>
 cond (!r12) (
 some (23)) (
 Option.bind (f53 (a 12) 1 200000) (fun r13 =>
 cond (!r13) (
 some (23)) (
 Option.bind (f53 (a 13) 1 200000) (fun r14 =>
 cond (!r14) (
 some (23)) (
 Option.bind (f53 (a 14) 1 200000) (fun r15 =>
 cond (!r15) (
 some (23)) (
 some (0)))))))))))))))))))))))))))))))
theorem evg32 (f53 : (Int) → (Int) → (Int) → Option (Bool)) (xx : (cOne (cA .i64 15)).T) : evF (R := (rOne (cI .i64)).T) (cx [(53, conF (cCons (cI .i64) (cCons (cI .i64) (cOne (cI .i64)))) (rOne (cB)) (fun a => f53 a.1 a.2.1 a.2.2))]) 1000 Tryd.f32 ((cOne (cA .i64 15)).enc xx) (glMem gl) gG (rOne (cI .i64)).dec =
 (fun (a : Nat → Int) =>
 (( Option.bind (f53 (a 0) 400 1500) (fun r1 =>
 cond (!r1) (
 some (23)) (
 Option.bind (f53 (a 1) 200 1000) (fun r2 =>
 cond (!r2) (
 some (23)) (
 Option.bind (f53 (a 2) 50 500) (fun r3 =>
 cond (!r3) (
 some (23)) (
 Option.bind (f53 (a 3) 200 1200) (fun r4 =>
 cond (!r4) (
 some (23)) (
 Option.bind (f53 (a 4) 20 300) (fun r5 =>
 cond (!r5) (
 some (23)) (
 Option.bind (f53 (a 5) 50 400) (fun r6 =>
 cond (!r6) (
 some (23)) (
 Option.bind (f53 (a 6) 100 1200) (fun r7 =>
 cond (!r7) (
 some (23)) (
 Option.bind (f53 (a 7) 0 200) (fun r8 =>
 cond (!r8) (
 some (23)) (
 Option.bind (f53 (a 8) 0 200) (fun r9 =>
 cond (!r9) (
 some (23)) (
 Option.bind (f53 (a 9) 20 300) (fun r10 =>
 cond (!r10) (
 some (23)) (
 Option.bind (f53 (a 10) 100 1000) (fun r11 =>
 cond (!r11) (
 some (23)) (
 Option.bind (f53 (a 11) 1 200000) (fun r12 =>
 cond (!r12) (
 some (23)) (
 Option.bind (f53 (a 12) 1 200000) (fun r13 =>
 cond (!r13) (
 some (23)) (
 Option.bind (f53 (a 13) 1 200000) (fun r14 =>
 cond (!r14) (
 some (23)) (
 Option.bind (f53 (a 14) 1 200000) (fun r15 =>
 cond (!r15) (
 some (23)) (
 some (0)))))))))))))))))))))))))))))))) : Option (Int))) xx := by kernel_rfl
theorem ok32 : CtxOK Tryd.prog (cx [(53, conF (cCons (cI .i64) (cCons (cI .i64) (cOne (cI .i64)))) (rOne (cB)) (fun a => f53 a.1 a.2.1 a.2.2))]) gl := ctx_of tyOk moOk (show SpecL Tryd.prog gG gl [(53, conF (cCons (cI .i64) (cCons (cI .i64) (cOne (cI .i64)))) (rOne (cB)) (fun a => f53 a.1 a.2.1 a.2.2))] from ⟨sp53, trivial⟩) fnOk
theorem ev32 (a : (cOne (cA .i64 15)).T) : evF (R := (rOne (cI .i64)).T) (cx [(53, conF (cCons (cI .i64) (cCons (cI .i64) (cOne (cI .i64)))) (rOne (cB)) (fun a => f53 a.1 a.2.1 a.2.2))]) 1000 Tryd.f32 ((cOne (cA .i64 15)).enc a) (glMem gl) gG (rOne (cI .i64)).dec = f32 a := evg32 f53 a
theorem sp32 : VE.Spec Tryd.prog gG gl 32 (conF (cOne (cA .i64 15)) (rOne (cI .i64)) (fun a => f32 a)) := spec_of ok32 Tryd.func32 Tryd.call32 1000 (cOne_ok (cA_ok _ _)) (rOne_ok (cI_ok _)) ev32
noncomputable abbrev con32 : List (Nat × (List AV → Option ConR)) := [(53, conF (cCons (cI .i64) (cCons (cI .i64) (cOne (cI .i64)))) (rOne (cB)) (fun a => f53 a.1 a.2.1 a.2.2))]

/-- dancestudioref19.On -/
noncomputable def f54 (a : Int) : Option (Bool) :=
 cond (decide (-32768 ≤ a)) (
 some (decide (a ≤ 32768))) (
 some (false))
theorem evg54  (xx : (cOne (cI .i64)).T) : evF (R := (rOne (cB)).T) (cx []) 1000 Tryd.f54 ((cOne (cI .i64)).enc xx) (glMem gl) gG (rOne (cB)).dec =
 (fun (a : Int) =>
 (( cond (decide (-32768 ≤ a)) (
 some (decide (a ≤ 32768))) (
 some (false))) : Option (Bool))) xx := by kernel_rfl
theorem ok54 : CtxOK Tryd.prog (cx []) gl := ctx_of tyOk moOk trivial fnOk
theorem ev54 (a : (cOne (cI .i64)).T) : evF (R := (rOne (cB)).T) (cx []) 1000 Tryd.f54 ((cOne (cI .i64)).enc a) (glMem gl) gG (rOne (cB)).dec = f54 a := evg54  a
theorem sp54 : VE.Spec Tryd.prog gG gl 54 (conF (cOne (cI .i64)) (rOne (cB)) (fun a => f54 a)) := spec_of ok54 Tryd.func54 Tryd.call54 1000 (cOne_ok (cI_ok _)) (rOne_ok (cB_ok)) ev54
noncomputable abbrev con54 : List (Nat × (List AV → Option ConR)) := []

/-- dancestudioref18.limbed -/
noncomputable def f66 (a : Int) : Option (Bool) :=
 cond (decide (0 ≤ a)) (
 some (decide (a < 6))) (
 some (false))
theorem evg66  (xx : (cOne (cI .i64)).T) : evF (R := (rOne (cB)).T) (cx []) 1000 Tryd.f66 ((cOne (cI .i64)).enc xx) (glMem gl) gG (rOne (cB)).dec =
 (fun (a : Int) =>
 (( cond (decide (0 ≤ a)) (
 some (decide (a < 6))) (
 some (false))) : Option (Bool))) xx := by kernel_rfl
theorem ok66 : CtxOK Tryd.prog (cx []) gl := ctx_of tyOk moOk trivial fnOk
theorem ev66 (a : (cOne (cI .i64)).T) : evF (R := (rOne (cB)).T) (cx []) 1000 Tryd.f66 ((cOne (cI .i64)).enc a) (glMem gl) gG (rOne (cB)).dec = f66 a := evg66  a
theorem sp66 : VE.Spec Tryd.prog gG gl 66 (conF (cOne (cI .i64)) (rOne (cB)) (fun a => f66 a)) := spec_of ok66 Tryd.func66 Tryd.call66 1000 (cOne_ok (cI_ok _)) (rOne_ok (cB_ok)) ev66
noncomputable abbrev con66 : List (Nat × (List AV → Option ConR)) := []

/-- dancestudioref18.Pole -/
noncomputable def f67 (a : Nat → Int) : Option (Bool) :=
 cond (decide (a 1 = 64)) (
 some (true)) (
 some (decide (a 1 = -64)))
theorem evg67  (xx : (cOne (cA .i64 3)).T) : evF (R := (rOne (cB)).T) (cx []) 1000 Tryd.f67 ((cOne (cA .i64 3)).enc xx) (glMem gl) gG (rOne (cB)).dec =
 (fun (a : Nat → Int) =>
 (( cond (decide (a 1 = 64)) (
 some (true)) (
 some (decide (a 1 = -64)))) : Option (Bool))) xx := by kernel_rfl
theorem ok67 : CtxOK Tryd.prog (cx []) gl := ctx_of tyOk moOk trivial fnOk
theorem ev67 (a : (cOne (cA .i64 3)).T) : evF (R := (rOne (cB)).T) (cx []) 1000 Tryd.f67 ((cOne (cA .i64 3)).enc a) (glMem gl) gG (rOne (cB)).dec = f67 a := evg67  a
theorem sp67 : VE.Spec Tryd.prog gG gl 67 (conF (cOne (cA .i64 3)) (rOne (cB)) (fun a => f67 a)) := spec_of ok67 Tryd.func67 Tryd.call67 1000 (cOne_ok (cA_ok _ _)) (rOne_ok (cB_ok)) ev67
noncomputable abbrev con67 : List (Nat × (List AV → Option ConR)) := []

/-- dancestudioref18.Check -/
noncomputable def f55 (a : Int) (b : Nat → Int) : Option (Int) :=
 Option.bind (f66 a) (fun r2 =>
 cond (!r2) (
 some (9)) (
 cond (decide (b 0 < 0)) (
 some (1)) (
 cond (decide (255 < b 0)) (
 some (1)) (
 cond (decide (b 1 < -64)) (
 some (1)) (
 cond (decide (64 < b 1)) (
 some (1)) (
 cond (decide (b 2 < 0)) (
 some (1)) (
 cond (decide (6 < b 2)) (
 some (1)) (
 Option.bind (f67 b) (fun r3 =>
 cond (r3) (
 cond (!decide (b 0 = 0)) (
 some (2)) (
 some (0))) (
 some (0)))))))))))
theorem evg55 (f66 : (Int) → Option (Bool)) (f67 : (Nat → Int) → Option (Bool)) (xx : (cCons (cI .i64) (cOne (cA .i64 3))).T) : evF (R := (rOne (cI .i64)).T) (cx [(66, conF (cOne (cI .i64)) (rOne (cB)) (fun a => f66 a)), (67, conF (cOne (cA .i64 3)) (rOne (cB)) (fun a => f67 a))]) 1000 Tryd.f55 ((cCons (cI .i64) (cOne (cA .i64 3))).enc xx) (glMem gl) gG (rOne (cI .i64)).dec =
 (fun (a : Int) (b : Nat → Int) =>
 (( Option.bind (f66 a) (fun r2 =>
 cond (!r2) (
 some (9)) (
 cond (decide (b 0 < 0)) (
 some (1)) (
 cond (decide (255 < b 0)) (
 some (1)) (
 cond (decide (b 1 < -64)) (
 some (1)) (
 cond (decide (64 < b 1)) (
 some (1)) (
 cond (decide (b 2 < 0)) (
 some (1)) (
 cond (decide (6 < b 2)) (
 some (1)) (
 Option.bind (f67 (nthI [b 0, b 1, b 2])) (fun r3 =>
 cond (r3) (
 cond (!decide (b 0 = 0)) (
 some (2)) (
 some (0))) (
 some (0)))))))))))) : Option (Int))) xx.1 xx.2 := by kernel_rfl
theorem ok55 : CtxOK Tryd.prog (cx [(66, conF (cOne (cI .i64)) (rOne (cB)) (fun a => f66 a)), (67, conF (cOne (cA .i64 3)) (rOne (cB)) (fun a => f67 a))]) gl := ctx_of tyOk moOk (show SpecL Tryd.prog gG gl [(66, conF (cOne (cI .i64)) (rOne (cB)) (fun a => f66 a)), (67, conF (cOne (cA .i64 3)) (rOne (cB)) (fun a => f67 a))] from ⟨sp66, sp67, trivial⟩) fnOk
noncomputable def g55 (a : Int) (b : Nat → Int) : Option (Int) :=
 Option.bind (f66 a) (fun r2 =>
 cond (!r2) (
 some (9)) (
 cond (decide (b 0 < 0)) (
 some (1)) (
 cond (decide (255 < b 0)) (
 some (1)) (
 cond (decide (b 1 < -64)) (
 some (1)) (
 cond (decide (64 < b 1)) (
 some (1)) (
 cond (decide (b 2 < 0)) (
 some (1)) (
 cond (decide (6 < b 2)) (
 some (1)) (
 Option.bind (f67 (nthI [b 0, b 1, b 2])) (fun r3 =>
 cond (r3) (
 cond (!decide (b 0 = 0)) (
 some (2)) (
 some (0))) (
 some (0)))))))))))
theorem fg55 (a : Int) (b : Nat → Int) : g55 a b = f55 a b := by kernel_rfl
theorem ev55 (a : (cCons (cI .i64) (cOne (cA .i64 3))).T) : evF (R := (rOne (cI .i64)).T) (cx [(66, conF (cOne (cI .i64)) (rOne (cB)) (fun a => f66 a)), (67, conF (cOne (cA .i64 3)) (rOne (cB)) (fun a => f67 a))]) 1000 Tryd.f55 ((cCons (cI .i64) (cOne (cA .i64 3))).enc a) (glMem gl) gG (rOne (cI .i64)).dec = f55 a.1 a.2 := (show evF (R := (rOne (cI .i64)).T) (cx [(66, conF (cOne (cI .i64)) (rOne (cB)) (fun a => f66 a)), (67, conF (cOne (cA .i64 3)) (rOne (cB)) (fun a => f67 a))]) 1000 Tryd.f55 ((cCons (cI .i64) (cOne (cA .i64 3))).enc a) (glMem gl) gG (rOne (cI .i64)).dec = g55 a.1 a.2 from evg55 f66 f67 a).trans (fg55 a.1 a.2)
theorem sp55 : VE.Spec Tryd.prog gG gl 55 (conF (cCons (cI .i64) (cOne (cA .i64 3))) (rOne (cI .i64)) (fun a => f55 a.1 a.2)) := spec_of ok55 Tryd.func55 Tryd.call55 1000 (cCons_ok (cI_ok _) (cOne_ok (cA_ok _ _))) (rOne_ok (cI_ok _)) ev55
noncomputable abbrev con55 : List (Nat × (List AV → Option ConR)) := [(66, conF (cOne (cI .i64)) (rOne (cB)) (fun a => f66 a)), (67, conF (cOne (cA .i64 3)) (rOne (cB)) (fun a => f67 a))]

/-- dancestudioref19.Valid -/
noncomputable def f33 (a : Nat → Int) : Option (Int) :=
 Option.bind (f54 (a 0)) (fun r1 =>
 cond (!r1) (
 some (1)) (
 Option.bind (f54 (a 1)) (fun r2 =>
 cond (!r2) (
 some (1)) (
 cond (decide (a 2 < 0)) (
 some (1)) (
 cond (decide (255 < a 2)) (
 some (1)) (
 cond (decide (a 3 < -8)) (
 some (1)) (
 cond (decide (8 < a 3)) (
 some (1)) (
 Option.bind (f55 0 (nthI [a 4, a 5, a 6])) (fun r3 =>
 cond (!decide (r3 = 0)) (
 some (r3)) (
 Option.bind (f55 1 (nthI [a 7, a 8, a 9])) (fun r4 =>
 cond (!decide (r4 = 0)) (
 some (r4)) (
 Option.bind (f55 2 (nthI [a 10, a 11, a 12])) (fun r5 =>
 cond (!decide (r5 = 0)) (
 some (r5)) (
 Option.bind (f55 3 (nthI [a 13, a 14, a 15])) (fun r6 =>
 cond (!decide (r6 = 0)) (
 some (r6)) (
 Option.bind (f55 4 (nthI [a 16, a 17, a 18])) (fun r7 =>
 cond (!decide (r7 = 0)) (
 some (r7)) (
 Option.bind (f55 5 (nthI [a 19, a 20, a 21])) (fun r8 =>
 cond (!decide (r8 = 0)) (
 some (r8)) (
 some (0)))))))))))))))))))))
theorem evg33 (f54 : (Int) → Option (Bool)) (f55 : (Int) → (Nat → Int) → Option (Int)) (xx : (cOne (cA .i64 22)).T) : evF (R := (rOne (cI .i64)).T) (cx [(54, conF (cOne (cI .i64)) (rOne (cB)) (fun a => f54 a)), (55, conF (cCons (cI .i64) (cOne (cA .i64 3))) (rOne (cI .i64)) (fun a => f55 a.1 a.2))]) 1000 Tryd.f33 ((cOne (cA .i64 22)).enc xx) (glMem gl) gG (rOne (cI .i64)).dec =
 (fun (a : Nat → Int) =>
 (( Option.bind (f54 (a 0)) (fun r1 =>
 cond (!r1) (
 some (1)) (
 Option.bind (f54 (a 1)) (fun r2 =>
 cond (!r2) (
 some (1)) (
 cond (decide (a 2 < 0)) (
 some (1)) (
 cond (decide (255 < a 2)) (
 some (1)) (
 cond (decide (a 3 < -8)) (
 some (1)) (
 cond (decide (8 < a 3)) (
 some (1)) (
 Option.bind (f55 0 (nthI [a 4, a 5, a 6])) (fun r3 =>
 cond (!decide (r3 = 0)) (
 some (r3)) (
 Option.bind (f55 1 (nthI [a 7, a 8, a 9])) (fun r4 =>
 cond (!decide (r4 = 0)) (
 some (r4)) (
 Option.bind (f55 2 (nthI [a 10, a 11, a 12])) (fun r5 =>
 cond (!decide (r5 = 0)) (
 some (r5)) (
 Option.bind (f55 3 (nthI [a 13, a 14, a 15])) (fun r6 =>
 cond (!decide (r6 = 0)) (
 some (r6)) (
 Option.bind (f55 4 (nthI [a 16, a 17, a 18])) (fun r7 =>
 cond (!decide (r7 = 0)) (
 some (r7)) (
 Option.bind (f55 5 (nthI [a 19, a 20, a 21])) (fun r8 =>
 cond (!decide (r8 = 0)) (
 some (r8)) (
 some (0)))))))))))))))))))))) : Option (Int))) xx := by kernel_rfl
theorem ok33 : CtxOK Tryd.prog (cx [(54, conF (cOne (cI .i64)) (rOne (cB)) (fun a => f54 a)), (55, conF (cCons (cI .i64) (cOne (cA .i64 3))) (rOne (cI .i64)) (fun a => f55 a.1 a.2))]) gl := ctx_of tyOk moOk (show SpecL Tryd.prog gG gl [(54, conF (cOne (cI .i64)) (rOne (cB)) (fun a => f54 a)), (55, conF (cCons (cI .i64) (cOne (cA .i64 3))) (rOne (cI .i64)) (fun a => f55 a.1 a.2))] from ⟨sp54, sp55, trivial⟩) fnOk
theorem ev33 (a : (cOne (cA .i64 22)).T) : evF (R := (rOne (cI .i64)).T) (cx [(54, conF (cOne (cI .i64)) (rOne (cB)) (fun a => f54 a)), (55, conF (cCons (cI .i64) (cOne (cA .i64 3))) (rOne (cI .i64)) (fun a => f55 a.1 a.2))]) 1000 Tryd.f33 ((cOne (cA .i64 22)).enc a) (glMem gl) gG (rOne (cI .i64)).dec = f33 a := evg33 f54 f55 a
theorem sp33 : VE.Spec Tryd.prog gG gl 33 (conF (cOne (cA .i64 22)) (rOne (cI .i64)) (fun a => f33 a)) := spec_of ok33 Tryd.func33 Tryd.call33 1000 (cOne_ok (cA_ok _ _)) (rOne_ok (cI_ok _)) ev33
noncomputable abbrev con33 : List (Nat × (List AV → Option ConR)) := [(54, conF (cOne (cI .i64)) (rOne (cB)) (fun a => f54 a)), (55, conF (cCons (cI .i64) (cOne (cA .i64 3))) (rOne (cI .i64)) (fun a => f55 a.1 a.2))]

/-- dancestudioref01.Small -/
noncomputable def f68 (a : Int) : Option (Bool) :=
 cond (decide (-1125899906842624 ≤ a)) (
 some (decide (a ≤ 1125899906842624))) (
 some (false))
theorem evg68  (xx : (cOne (cI .i64)).T) : evF (R := (rOne (cB)).T) (cx []) 1000 Tryd.f68 ((cOne (cI .i64)).enc xx) (glMem gl) gG (rOne (cB)).dec =
 (fun (a : Int) =>
 (( cond (decide (-1125899906842624 ≤ a)) (
 some (decide (a ≤ 1125899906842624))) (
 some (false))) : Option (Bool))) xx := by kernel_rfl
theorem ok68 : CtxOK Tryd.prog (cx []) gl := ctx_of tyOk moOk trivial fnOk
theorem ev68 (a : (cOne (cI .i64)).T) : evF (R := (rOne (cB)).T) (cx []) 1000 Tryd.f68 ((cOne (cI .i64)).enc a) (glMem gl) gG (rOne (cB)).dec = f68 a := evg68  a
theorem sp68 : VE.Spec Tryd.prog gG gl 68 (conF (cOne (cI .i64)) (rOne (cB)) (fun a => f68 a)) := spec_of ok68 Tryd.func68 Tryd.call68 1000 (cOne_ok (cI_ok _)) (rOne_ok (cB_ok)) ev68
noncomputable abbrev con68 : List (Nat × (List AV → Option ConR)) := []

/-- dancestudioref01.down -/
noncomputable def f75 (a : Int) (b : Int) : Option (Int × Int) :=
 cond (decide (b = 0)) none (
 cond (decide (b = 0)) none (
 cond (decide (a.tmod b < 0)) (
 some ((IntKind.i64.wrap (IntKind.i64.wrap (a.tdiv b) - 1), IntKind.i64.wrap (a.tmod b + b)))) (
 some ((IntKind.i64.wrap (a.tdiv b), a.tmod b)))))
theorem evg75  (xx : (cCons (cI .i64) (cOne (cI .i64))).T) : evF (R := (rTup (cCons (cI .i64) (cOne (cI .i64)))).T) (cx []) 1000 Tryd.f75 ((cCons (cI .i64) (cOne (cI .i64))).enc xx) (glMem gl) gG (rTup (cCons (cI .i64) (cOne (cI .i64)))).dec =
 (fun (a : Int) (b : Int) =>
 (( cond (decide (b = 0)) none (
 cond (decide (b = 0)) none (
 cond (decide (a.tmod b < 0)) (
 some ((IntKind.i64.wrap (IntKind.i64.wrap (a.tdiv b) - 1), IntKind.i64.wrap (a.tmod b + b)))) (
 some ((IntKind.i64.wrap (a.tdiv b), a.tmod b)))))) : Option (Int × Int))) xx.1 xx.2 := by kernel_rfl
theorem ok75 : CtxOK Tryd.prog (cx []) gl := ctx_of tyOk moOk trivial fnOk
theorem ev75 (a : (cCons (cI .i64) (cOne (cI .i64))).T) : evF (R := (rTup (cCons (cI .i64) (cOne (cI .i64)))).T) (cx []) 1000 Tryd.f75 ((cCons (cI .i64) (cOne (cI .i64))).enc a) (glMem gl) gG (rTup (cCons (cI .i64) (cOne (cI .i64)))).dec = f75 a.1 a.2 := evg75  a
theorem sp75 : VE.Spec Tryd.prog gG gl 75 (conF (cCons (cI .i64) (cOne (cI .i64))) (rTup (cCons (cI .i64) (cOne (cI .i64)))) (fun a => f75 a.1 a.2)) := spec_of ok75 Tryd.func75 Tryd.call75 1000 (cCons_ok (cI_ok _) (cOne_ok (cI_ok _))) (rTup_ok (cCons_ok (cI_ok _) (cOne_ok (cI_ok _)))) ev75
noncomputable abbrev con75 : List (Nat × (List AV → Option ConR)) := []

/-- dancestudioref01.nearest -/
noncomputable def f69 (a : Int) (b : Int) : Option (Int) :=
 Option.bind (f75 a b) (fun r2 =>
 cond (decide (IntKind.i64.wrap (b - r2.snd) < r2.snd)) (
 some (IntKind.i64.wrap (r2.fst + 1))) (
 cond (decide (r2.snd = IntKind.i64.wrap (b - r2.snd))) (
 cond (!decide (r2.fst.tmod 2 = 0)) (
 some (IntKind.i64.wrap (r2.fst + 1))) (
 some (r2.fst))) (
 some (r2.fst))))
theorem evg69 (f75 : (Int) → (Int) → Option (Int × Int)) (xx : (cCons (cI .i64) (cOne (cI .i64))).T) : evF (R := (rOne (cI .i64)).T) (cx [(75, conF (cCons (cI .i64) (cOne (cI .i64))) (rTup (cCons (cI .i64) (cOne (cI .i64)))) (fun a => f75 a.1 a.2))]) 1000 Tryd.f69 ((cCons (cI .i64) (cOne (cI .i64))).enc xx) (glMem gl) gG (rOne (cI .i64)).dec =
 (fun (a : Int) (b : Int) =>
 (( Option.bind (f75 a b) (fun r2 =>
 cond (decide (IntKind.i64.wrap (b - r2.snd) < r2.snd)) (
 some (IntKind.i64.wrap (r2.fst + 1))) (
 cond (decide (r2.snd = IntKind.i64.wrap (b - r2.snd))) (
 cond (!decide (r2.fst.tmod 2 = 0)) (
 some (IntKind.i64.wrap (r2.fst + 1))) (
 some (r2.fst))) (
 some (r2.fst))))) : Option (Int))) xx.1 xx.2 := by kernel_rfl
theorem ok69 : CtxOK Tryd.prog (cx [(75, conF (cCons (cI .i64) (cOne (cI .i64))) (rTup (cCons (cI .i64) (cOne (cI .i64)))) (fun a => f75 a.1 a.2))]) gl := ctx_of tyOk moOk (show SpecL Tryd.prog gG gl [(75, conF (cCons (cI .i64) (cOne (cI .i64))) (rTup (cCons (cI .i64) (cOne (cI .i64)))) (fun a => f75 a.1 a.2))] from ⟨sp75, trivial⟩) fnOk
theorem ev69 (a : (cCons (cI .i64) (cOne (cI .i64))).T) : evF (R := (rOne (cI .i64)).T) (cx [(75, conF (cCons (cI .i64) (cOne (cI .i64))) (rTup (cCons (cI .i64) (cOne (cI .i64)))) (fun a => f75 a.1 a.2))]) 1000 Tryd.f69 ((cCons (cI .i64) (cOne (cI .i64))).enc a) (glMem gl) gG (rOne (cI .i64)).dec = f69 a.1 a.2 := evg69 f75 a
theorem sp69 : VE.Spec Tryd.prog gG gl 69 (conF (cCons (cI .i64) (cOne (cI .i64))) (rOne (cI .i64)) (fun a => f69 a.1 a.2)) := spec_of ok69 Tryd.func69 Tryd.call69 1000 (cCons_ok (cI_ok _) (cOne_ok (cI_ok _))) (rOne_ok (cI_ok _)) ev69
noncomputable abbrev con69 : List (Nat × (List AV → Option ConR)) := [(75, conF (cCons (cI .i64) (cOne (cI .i64))) (rTup (cCons (cI .i64) (cOne (cI .i64)))) (fun a => f75 a.1 a.2))]

/-- dancestudioref01.Round -/
noncomputable def f56 (a : Int) (b : Int) : Option (Int × Int) :=
 Option.bind (f68 a) (fun r2 =>
 cond (!r2) (
 some ((0, 1))) (
 Option.bind (f68 b) (fun r3 =>
 cond (!r3) (
 some ((0, 1))) (
 cond (decide (b = 0)) (
 some ((0, 11))) (
 cond (decide (b < 0)) (
 Option.bind (f69 (IntKind.i64.wrap (0 - a)) (IntKind.i64.wrap (0 - b))) (fun r4 =>
 some ((r4, 0)))) (
 Option.bind (f69 a b) (fun r4 =>
 some ((r4, 0)))))))))
theorem evg56 (f68 : (Int) → Option (Bool)) (f69 : (Int) → (Int) → Option (Int)) (xx : (cCons (cI .i64) (cOne (cI .i64))).T) : evF (R := (rTup (cCons (cI .i64) (cOne (cI .i64)))).T) (cx [(68, conF (cOne (cI .i64)) (rOne (cB)) (fun a => f68 a)), (69, conF (cCons (cI .i64) (cOne (cI .i64))) (rOne (cI .i64)) (fun a => f69 a.1 a.2))]) 1000 Tryd.f56 ((cCons (cI .i64) (cOne (cI .i64))).enc xx) (glMem gl) gG (rTup (cCons (cI .i64) (cOne (cI .i64)))).dec =
 (fun (a : Int) (b : Int) =>
 (( Option.bind (f68 a) (fun r2 =>
 cond (!r2) (
 some ((0, 1))) (
 Option.bind (f68 b) (fun r3 =>
 cond (!r3) (
 some ((0, 1))) (
 cond (decide (b = 0)) (
 some ((0, 11))) (
 cond (decide (b < 0)) (
 Option.bind (f69 (IntKind.i64.wrap (0 - a)) (IntKind.i64.wrap (0 - b))) (fun r4 =>
 some ((r4, 0)))) (
 Option.bind (f69 a b) (fun r4 =>
 some ((r4, 0)))))))))) : Option (Int × Int))) xx.1 xx.2 := by kernel_rfl
theorem ok56 : CtxOK Tryd.prog (cx [(68, conF (cOne (cI .i64)) (rOne (cB)) (fun a => f68 a)), (69, conF (cCons (cI .i64) (cOne (cI .i64))) (rOne (cI .i64)) (fun a => f69 a.1 a.2))]) gl := ctx_of tyOk moOk (show SpecL Tryd.prog gG gl [(68, conF (cOne (cI .i64)) (rOne (cB)) (fun a => f68 a)), (69, conF (cCons (cI .i64) (cOne (cI .i64))) (rOne (cI .i64)) (fun a => f69 a.1 a.2))] from ⟨sp68, sp69, trivial⟩) fnOk
theorem ev56 (a : (cCons (cI .i64) (cOne (cI .i64))).T) : evF (R := (rTup (cCons (cI .i64) (cOne (cI .i64)))).T) (cx [(68, conF (cOne (cI .i64)) (rOne (cB)) (fun a => f68 a)), (69, conF (cCons (cI .i64) (cOne (cI .i64))) (rOne (cI .i64)) (fun a => f69 a.1 a.2))]) 1000 Tryd.f56 ((cCons (cI .i64) (cOne (cI .i64))).enc a) (glMem gl) gG (rTup (cCons (cI .i64) (cOne (cI .i64)))).dec = f56 a.1 a.2 := evg56 f68 f69 a
theorem sp56 : VE.Spec Tryd.prog gG gl 56 (conF (cCons (cI .i64) (cOne (cI .i64))) (rTup (cCons (cI .i64) (cOne (cI .i64)))) (fun a => f56 a.1 a.2)) := spec_of ok56 Tryd.func56 Tryd.call56 1000 (cCons_ok (cI_ok _) (cOne_ok (cI_ok _))) (rTup_ok (cCons_ok (cI_ok _) (cOne_ok (cI_ok _)))) ev56
noncomputable abbrev con56 : List (Nat × (List AV → Option ConR)) := [(68, conF (cOne (cI .i64)) (rOne (cB)) (fun a => f68 a)), (69, conF (cCons (cI .i64) (cOne (cI .i64))) (rOne (cI .i64)) (fun a => f69 a.1 a.2))]

/-- dancestudioref20.round -/
noncomputable def f34 (a : Int) (b : Int) : Option (Int) :=
 Option.bind (f56 a b) (fun r2 =>
 some (r2.fst))
theorem evg34 (f56 : (Int) → (Int) → Option (Int × Int)) (xx : (cCons (cI .i64) (cOne (cI .i64))).T) : evF (R := (rOne (cI .i64)).T) (cx [(56, conF (cCons (cI .i64) (cOne (cI .i64))) (rTup (cCons (cI .i64) (cOne (cI .i64)))) (fun a => f56 a.1 a.2))]) 1000 Tryd.f34 ((cCons (cI .i64) (cOne (cI .i64))).enc xx) (glMem gl) gG (rOne (cI .i64)).dec =
 (fun (a : Int) (b : Int) =>
 (( Option.bind (f56 a b) (fun r2 =>
 some (r2.fst))) : Option (Int))) xx.1 xx.2 := by kernel_rfl
theorem ok34 : CtxOK Tryd.prog (cx [(56, conF (cCons (cI .i64) (cOne (cI .i64))) (rTup (cCons (cI .i64) (cOne (cI .i64)))) (fun a => f56 a.1 a.2))]) gl := ctx_of tyOk moOk (show SpecL Tryd.prog gG gl [(56, conF (cCons (cI .i64) (cOne (cI .i64))) (rTup (cCons (cI .i64) (cOne (cI .i64)))) (fun a => f56 a.1 a.2))] from ⟨sp56, trivial⟩) fnOk
theorem ev34 (a : (cCons (cI .i64) (cOne (cI .i64))).T) : evF (R := (rOne (cI .i64)).T) (cx [(56, conF (cCons (cI .i64) (cOne (cI .i64))) (rTup (cCons (cI .i64) (cOne (cI .i64)))) (fun a => f56 a.1 a.2))]) 1000 Tryd.f34 ((cCons (cI .i64) (cOne (cI .i64))).enc a) (glMem gl) gG (rOne (cI .i64)).dec = f34 a.1 a.2 := evg34 f56 a
theorem sp34 : VE.Spec Tryd.prog gG gl 34 (conF (cCons (cI .i64) (cOne (cI .i64))) (rOne (cI .i64)) (fun a => f34 a.1 a.2)) := spec_of ok34 Tryd.func34 Tryd.call34 1000 (cCons_ok (cI_ok _) (cOne_ok (cI_ok _))) (rOne_ok (cI_ok _)) ev34
noncomputable abbrev con34 : List (Nat × (List AV → Option ConR)) := [(56, conF (cCons (cI .i64) (cOne (cI .i64))) (rTup (cCons (cI .i64) (cOne (cI .i64)))) (fun a => f56 a.1 a.2))]

/-- dancestudioref20.plus -/
noncomputable def f35 (a : Nat → Int) (b : Nat → Int) : Option ((Nat → Int)) :=
 some (nthI [IntKind.i64.wrap (a 0 + b 0), IntKind.i64.wrap (a 1 + b 1), IntKind.i64.wrap (a 2 + b 2)])
theorem evg35  (xx : (cCons (cA .i64 3) (cOne (cA .i64 3))).T) : evF (R := (rOne (cA .i64 3)).T) (cx []) 1000 Tryd.f35 ((cCons (cA .i64 3) (cOne (cA .i64 3))).enc xx) (glMem gl) gG (rOne (cA .i64 3)).dec =
 (fun (a : Nat → Int) (b : Nat → Int) =>
 (( some (nthI [IntKind.i64.wrap (a 0 + b 0), IntKind.i64.wrap (a 1 + b 1), IntKind.i64.wrap (a 2 + b 2)])) : Option ((Nat → Int)))) xx.1 xx.2 := by kernel_rfl
theorem ok35 : CtxOK Tryd.prog (cx []) gl := ctx_of tyOk moOk trivial fnOk
theorem ev35 (a : (cCons (cA .i64 3) (cOne (cA .i64 3))).T) : evF (R := (rOne (cA .i64 3)).T) (cx []) 1000 Tryd.f35 ((cCons (cA .i64 3) (cOne (cA .i64 3))).enc a) (glMem gl) gG (rOne (cA .i64 3)).dec = f35 a.1 a.2 := evg35  a
theorem sp35 : VE.Spec Tryd.prog gG gl 35 (conF (cCons (cA .i64 3) (cOne (cA .i64 3))) (rOne (cA .i64 3)) (fun a => f35 a.1 a.2)) := spec_of ok35 Tryd.func35 Tryd.call35 1000 (cCons_ok (cA_ok _ _) (cOne_ok (cA_ok _ _))) (rOne_ok (cA_ok _ _)) ev35
noncomputable abbrev con35 : List (Nat × (List AV → Option ConR)) := []

/-- dancestudioref02.Norm -/
noncomputable def f70 (a : Int) : Option (Int) :=
 cond (decide (a.tmod 256 < 0)) (
 some (IntKind.i64.wrap (a.tmod 256 + 256))) (
 some (a.tmod 256))
theorem evg70  (xx : (cOne (cI .i64)).T) : evF (R := (rOne (cI .i64)).T) (cx []) 1000 Tryd.f70 ((cOne (cI .i64)).enc xx) (glMem gl) gG (rOne (cI .i64)).dec =
 (fun (a : Int) =>
 (( cond (decide (a.tmod 256 < 0)) (
 some (IntKind.i64.wrap (a.tmod 256 + 256))) (
 some (a.tmod 256))) : Option (Int))) xx := by kernel_rfl
theorem ok70 : CtxOK Tryd.prog (cx []) gl := ctx_of tyOk moOk trivial fnOk
theorem ev70 (a : (cOne (cI .i64)).T) : evF (R := (rOne (cI .i64)).T) (cx []) 1000 Tryd.f70 ((cOne (cI .i64)).enc a) (glMem gl) gG (rOne (cI .i64)).dec = f70 a := evg70  a
theorem sp70 : VE.Spec Tryd.prog gG gl 70 (conF (cOne (cI .i64)) (rOne (cI .i64)) (fun a => f70 a)) := spec_of ok70 Tryd.func70 Tryd.call70 1000 (cOne_ok (cI_ok _)) (rOne_ok (cI_ok _)) ev70
noncomputable abbrev con70 : List (Nat × (List AV → Option ConR)) := []

/-- dancestudioref02.table -/
noncomputable def f76  : Option ((Nat → Int)) :=
 some (nthI tab0)
theorem evg76  (xx : (cNil).T) : evF (R := (rOne (cA .i64 65)).T) (cx []) 1000 Tryd.f76 ((cNil).enc xx) (glMem gl) gG (rOne (cA .i64 65)).dec =
 (( some (nthI tab0)) : Option ((Nat → Int))) := by kernel_rfl
theorem ok76 : CtxOK Tryd.prog (cx []) gl := ctx_of tyOk moOk trivial fnOk
theorem ev76 (a : (cNil).T) : evF (R := (rOne (cA .i64 65)).T) (cx []) 1000 Tryd.f76 ((cNil).enc a) (glMem gl) gG (rOne (cA .i64 65)).dec = f76 := evg76  a
theorem sp76 : VE.Spec Tryd.prog gG gl 76 (conF (cNil) (rOne (cA .i64 65)) (fun a => f76)) := spec_of ok76 Tryd.func76 Tryd.call76 1000 (cNil_ok) (rOne_ok (cA_ok _ _)) ev76
noncomputable abbrev con76 : List (Nat × (List AV → Option ConR)) := []

/-- dancestudioref02.Sin -/
noncomputable def f72 (a : Int) : Option (Int) :=
 Option.bind (f70 a) (fun r1 =>
 cond (decide (r1 ≤ 64)) (
 cond (decide (0 ≤ r1)) (
 cond (decide (r1 < 65)) (
 some (tab0.getD r1.toNat 0)) none) none) (
 cond (decide (r1 ≤ 128)) (
 cond (decide (0 ≤ IntKind.i64.wrap (128 - r1))) (
 cond (decide (IntKind.i64.wrap (128 - r1) < 65)) (
 some (tab0.getD (IntKind.i64.wrap (128 - r1)).toNat 0)) none) none) (
 cond (decide (r1 ≤ 192)) (
 cond (decide (0 ≤ IntKind.i64.wrap (r1 - 128))) (
 cond (decide (IntKind.i64.wrap (r1 - 128) < 65)) (
 some (IntKind.i64.wrap (0 - tab0.getD (IntKind.i64.wrap (r1 - 128)).toNat 0))) none) none) (
 cond (decide (0 ≤ IntKind.i64.wrap (256 - r1))) (
 cond (decide (IntKind.i64.wrap (256 - r1) < 65)) (
 some (IntKind.i64.wrap (0 - tab0.getD (IntKind.i64.wrap (256 - r1)).toNat 0))) none) none))))
theorem evg72 (f70 : (Int) → Option (Int)) (xx : (cOne (cI .i64)).T) : evF (R := (rOne (cI .i64)).T) (cx [(70, conF (cOne (cI .i64)) (rOne (cI .i64)) (fun a => f70 a)), (76, conF (cNil) (rOne (cA .i64 65)) (fun a => f76))]) 1000 Tryd.f72 ((cOne (cI .i64)).enc xx) (glMem gl) gG (rOne (cI .i64)).dec =
 (fun (a : Int) =>
 (( Option.bind (f70 a) (fun r1 =>
 cond (decide (r1 ≤ 64)) (
 cond (decide (0 ≤ r1)) (
 cond (decide (r1 < 65)) (
 some (tab0.getD r1.toNat 0)) none) none) (
 cond (decide (r1 ≤ 128)) (
 cond (decide (0 ≤ IntKind.i64.wrap (128 - r1))) (
 cond (decide (IntKind.i64.wrap (128 - r1) < 65)) (
 some (tab0.getD (IntKind.i64.wrap (128 - r1)).toNat 0)) none) none) (
 cond (decide (r1 ≤ 192)) (
 cond (decide (0 ≤ IntKind.i64.wrap (r1 - 128))) (
 cond (decide (IntKind.i64.wrap (r1 - 128) < 65)) (
 some (IntKind.i64.wrap (0 - tab0.getD (IntKind.i64.wrap (r1 - 128)).toNat 0))) none) none) (
 cond (decide (0 ≤ IntKind.i64.wrap (256 - r1))) (
 cond (decide (IntKind.i64.wrap (256 - r1) < 65)) (
 some (IntKind.i64.wrap (0 - tab0.getD (IntKind.i64.wrap (256 - r1)).toNat 0))) none) none))))) : Option (Int))) xx := by kernel_rfl
theorem ok72 : CtxOK Tryd.prog (cx [(70, conF (cOne (cI .i64)) (rOne (cI .i64)) (fun a => f70 a)), (76, conF (cNil) (rOne (cA .i64 65)) (fun a => f76))]) gl := ctx_of tyOk moOk (show SpecL Tryd.prog gG gl [(70, conF (cOne (cI .i64)) (rOne (cI .i64)) (fun a => f70 a)), (76, conF (cNil) (rOne (cA .i64 65)) (fun a => f76))] from ⟨sp70, sp76, trivial⟩) fnOk
theorem ev72 (a : (cOne (cI .i64)).T) : evF (R := (rOne (cI .i64)).T) (cx [(70, conF (cOne (cI .i64)) (rOne (cI .i64)) (fun a => f70 a)), (76, conF (cNil) (rOne (cA .i64 65)) (fun a => f76))]) 1000 Tryd.f72 ((cOne (cI .i64)).enc a) (glMem gl) gG (rOne (cI .i64)).dec = f72 a := evg72 f70 a
theorem sp72 : VE.Spec Tryd.prog gG gl 72 (conF (cOne (cI .i64)) (rOne (cI .i64)) (fun a => f72 a)) := spec_of ok72 Tryd.func72 Tryd.call72 1000 (cOne_ok (cI_ok _)) (rOne_ok (cI_ok _)) ev72
noncomputable abbrev con72 : List (Nat × (List AV → Option ConR)) := [(70, conF (cOne (cI .i64)) (rOne (cI .i64)) (fun a => f70 a)), (76, conF (cNil) (rOne (cA .i64 65)) (fun a => f76))]

/-- dancestudioref02.Cos -/
noncomputable def f71 (a : Int) : Option (Int) :=
 Option.bind (f70 a) (fun r1 =>
 Option.bind (f72 (IntKind.i64.wrap (r1 + 64))) (fun r2 =>
 some (r2)))
theorem evg71 (f70 : (Int) → Option (Int)) (f72 : (Int) → Option (Int)) (xx : (cOne (cI .i64)).T) : evF (R := (rOne (cI .i64)).T) (cx [(70, conF (cOne (cI .i64)) (rOne (cI .i64)) (fun a => f70 a)), (72, conF (cOne (cI .i64)) (rOne (cI .i64)) (fun a => f72 a))]) 1000 Tryd.f71 ((cOne (cI .i64)).enc xx) (glMem gl) gG (rOne (cI .i64)).dec =
 (fun (a : Int) =>
 (( Option.bind (f70 a) (fun r1 =>
 Option.bind (f72 (IntKind.i64.wrap (r1 + 64))) (fun r2 =>
 some (r2)))) : Option (Int))) xx := by kernel_rfl
theorem ok71 : CtxOK Tryd.prog (cx [(70, conF (cOne (cI .i64)) (rOne (cI .i64)) (fun a => f70 a)), (72, conF (cOne (cI .i64)) (rOne (cI .i64)) (fun a => f72 a))]) gl := ctx_of tyOk moOk (show SpecL Tryd.prog gG gl [(70, conF (cOne (cI .i64)) (rOne (cI .i64)) (fun a => f70 a)), (72, conF (cOne (cI .i64)) (rOne (cI .i64)) (fun a => f72 a))] from ⟨sp70, sp72, trivial⟩) fnOk
theorem ev71 (a : (cOne (cI .i64)).T) : evF (R := (rOne (cI .i64)).T) (cx [(70, conF (cOne (cI .i64)) (rOne (cI .i64)) (fun a => f70 a)), (72, conF (cOne (cI .i64)) (rOne (cI .i64)) (fun a => f72 a))]) 1000 Tryd.f71 ((cOne (cI .i64)).enc a) (glMem gl) gG (rOne (cI .i64)).dec = f71 a := evg71 f70 f72 a
theorem sp71 : VE.Spec Tryd.prog gG gl 71 (conF (cOne (cI .i64)) (rOne (cI .i64)) (fun a => f71 a)) := spec_of ok71 Tryd.func71 Tryd.call71 1000 (cOne_ok (cI_ok _)) (rOne_ok (cI_ok _)) ev71
noncomputable abbrev con71 : List (Nat × (List AV → Option ConR)) := [(70, conF (cOne (cI .i64)) (rOne (cI .i64)) (fun a => f70 a)), (72, conF (cOne (cI .i64)) (rOne (cI .i64)) (fun a => f72 a))]

/-- dancestudioref18.Vector -/
noncomputable def f57 (a : Nat → Int) (b : Int) : Option ((Nat → Int) × Int) :=
 Option.bind (f55 0 a) (fun r2 =>
 cond (!decide (r2 = 0)) (
 some ((nthI [0, 0, 0], r2))) (
 Option.bind (f70 b) (fun r3 =>
 Option.bind (f71 (a 1)) (fun r4 =>
 Option.bind (f72 (IntKind.i64.wrap (a 0 + r3))) (fun r5 =>
 Option.bind (f56 (IntKind.i64.wrap (r4 * r5)) 16384) (fun r6 =>
 Option.bind (f71 (a 1)) (fun r7 =>
 Option.bind (f71 (IntKind.i64.wrap (a 0 + r3))) (fun r8 =>
 Option.bind (f56 (IntKind.i64.wrap (r7 * r8)) 16384) (fun r9 =>
 Option.bind (f72 (a 1)) (fun r10 =>
 some ((nthI [r6.fst, r9.fst, r10], 0))))))))))))
theorem evg57 (f55 : (Int) → (Nat → Int) → Option (Int)) (f56 : (Int) → (Int) → Option (Int × Int)) (f70 : (Int) → Option (Int)) (f71 : (Int) → Option (Int)) (f72 : (Int) → Option (Int)) (xx : (cCons (cA .i64 3) (cOne (cI .i64))).T) : evF (R := (rTup (cCons (cA .i64 3) (cOne (cI .i64)))).T) (cx [(55, conF (cCons (cI .i64) (cOne (cA .i64 3))) (rOne (cI .i64)) (fun a => f55 a.1 a.2)), (56, conF (cCons (cI .i64) (cOne (cI .i64))) (rTup (cCons (cI .i64) (cOne (cI .i64)))) (fun a => f56 a.1 a.2)), (70, conF (cOne (cI .i64)) (rOne (cI .i64)) (fun a => f70 a)), (71, conF (cOne (cI .i64)) (rOne (cI .i64)) (fun a => f71 a)), (72, conF (cOne (cI .i64)) (rOne (cI .i64)) (fun a => f72 a))]) 1000 Tryd.f57 ((cCons (cA .i64 3) (cOne (cI .i64))).enc xx) (glMem gl) gG (rTup (cCons (cA .i64 3) (cOne (cI .i64)))).dec =
 (fun (a : Nat → Int) (b : Int) =>
 (( Option.bind (f55 0 (nthI [a 0, a 1, a 2])) (fun r2 =>
 cond (!decide (r2 = 0)) (
 some ((nthI [0, 0, 0], r2))) (
 Option.bind (f70 b) (fun r3 =>
 Option.bind (f71 (a 1)) (fun r4 =>
 Option.bind (f72 (IntKind.i64.wrap (a 0 + r3))) (fun r5 =>
 Option.bind (f56 (IntKind.i64.wrap (r4 * r5)) 16384) (fun r6 =>
 Option.bind (f71 (a 1)) (fun r7 =>
 Option.bind (f71 (IntKind.i64.wrap (a 0 + r3))) (fun r8 =>
 Option.bind (f56 (IntKind.i64.wrap (r7 * r8)) 16384) (fun r9 =>
 Option.bind (f72 (a 1)) (fun r10 =>
 some ((nthI [r6.fst, r9.fst, r10], 0))))))))))))) : Option ((Nat → Int) × Int))) xx.1 xx.2 := by kernel_rfl
theorem ok57 : CtxOK Tryd.prog (cx [(55, conF (cCons (cI .i64) (cOne (cA .i64 3))) (rOne (cI .i64)) (fun a => f55 a.1 a.2)), (56, conF (cCons (cI .i64) (cOne (cI .i64))) (rTup (cCons (cI .i64) (cOne (cI .i64)))) (fun a => f56 a.1 a.2)), (70, conF (cOne (cI .i64)) (rOne (cI .i64)) (fun a => f70 a)), (71, conF (cOne (cI .i64)) (rOne (cI .i64)) (fun a => f71 a)), (72, conF (cOne (cI .i64)) (rOne (cI .i64)) (fun a => f72 a))]) gl := ctx_of tyOk moOk (show SpecL Tryd.prog gG gl [(55, conF (cCons (cI .i64) (cOne (cA .i64 3))) (rOne (cI .i64)) (fun a => f55 a.1 a.2)), (56, conF (cCons (cI .i64) (cOne (cI .i64))) (rTup (cCons (cI .i64) (cOne (cI .i64)))) (fun a => f56 a.1 a.2)), (70, conF (cOne (cI .i64)) (rOne (cI .i64)) (fun a => f70 a)), (71, conF (cOne (cI .i64)) (rOne (cI .i64)) (fun a => f71 a)), (72, conF (cOne (cI .i64)) (rOne (cI .i64)) (fun a => f72 a))] from ⟨sp55, sp56, sp70, sp71, sp72, trivial⟩) fnOk
noncomputable def g57 (a : Nat → Int) (b : Int) : Option ((Nat → Int) × Int) :=
 Option.bind (f55 0 (nthI [a 0, a 1, a 2])) (fun r2 =>
 cond (!decide (r2 = 0)) (
 some ((nthI [0, 0, 0], r2))) (
 Option.bind (f70 b) (fun r3 =>
 Option.bind (f71 (a 1)) (fun r4 =>
 Option.bind (f72 (IntKind.i64.wrap (a 0 + r3))) (fun r5 =>
 Option.bind (f56 (IntKind.i64.wrap (r4 * r5)) 16384) (fun r6 =>
 Option.bind (f71 (a 1)) (fun r7 =>
 Option.bind (f71 (IntKind.i64.wrap (a 0 + r3))) (fun r8 =>
 Option.bind (f56 (IntKind.i64.wrap (r7 * r8)) 16384) (fun r9 =>
 Option.bind (f72 (a 1)) (fun r10 =>
 some ((nthI [r6.fst, r9.fst, r10], 0))))))))))))
theorem fg57 (a : Nat → Int) (b : Int) : g57 a b = f57 a b := by kernel_rfl
theorem ev57 (a : (cCons (cA .i64 3) (cOne (cI .i64))).T) : evF (R := (rTup (cCons (cA .i64 3) (cOne (cI .i64)))).T) (cx [(55, conF (cCons (cI .i64) (cOne (cA .i64 3))) (rOne (cI .i64)) (fun a => f55 a.1 a.2)), (56, conF (cCons (cI .i64) (cOne (cI .i64))) (rTup (cCons (cI .i64) (cOne (cI .i64)))) (fun a => f56 a.1 a.2)), (70, conF (cOne (cI .i64)) (rOne (cI .i64)) (fun a => f70 a)), (71, conF (cOne (cI .i64)) (rOne (cI .i64)) (fun a => f71 a)), (72, conF (cOne (cI .i64)) (rOne (cI .i64)) (fun a => f72 a))]) 1000 Tryd.f57 ((cCons (cA .i64 3) (cOne (cI .i64))).enc a) (glMem gl) gG (rTup (cCons (cA .i64 3) (cOne (cI .i64)))).dec = f57 a.1 a.2 := (show evF (R := (rTup (cCons (cA .i64 3) (cOne (cI .i64)))).T) (cx [(55, conF (cCons (cI .i64) (cOne (cA .i64 3))) (rOne (cI .i64)) (fun a => f55 a.1 a.2)), (56, conF (cCons (cI .i64) (cOne (cI .i64))) (rTup (cCons (cI .i64) (cOne (cI .i64)))) (fun a => f56 a.1 a.2)), (70, conF (cOne (cI .i64)) (rOne (cI .i64)) (fun a => f70 a)), (71, conF (cOne (cI .i64)) (rOne (cI .i64)) (fun a => f71 a)), (72, conF (cOne (cI .i64)) (rOne (cI .i64)) (fun a => f72 a))]) 1000 Tryd.f57 ((cCons (cA .i64 3) (cOne (cI .i64))).enc a) (glMem gl) gG (rTup (cCons (cA .i64 3) (cOne (cI .i64)))).dec = g57 a.1 a.2 from evg57 f55 f56 f70 f71 f72 a).trans (fg57 a.1 a.2)
theorem sp57 : VE.Spec Tryd.prog gG gl 57 (conF (cCons (cA .i64 3) (cOne (cI .i64))) (rTup (cCons (cA .i64 3) (cOne (cI .i64)))) (fun a => f57 a.1 a.2)) := spec_of ok57 Tryd.func57 Tryd.call57 1000 (cCons_ok (cA_ok _ _) (cOne_ok (cI_ok _))) (rTup_ok (cCons_ok (cA_ok _ _) (cOne_ok (cI_ok _)))) ev57
noncomputable abbrev con57 : List (Nat × (List AV → Option ConR)) := [(55, conF (cCons (cI .i64) (cOne (cA .i64 3))) (rOne (cI .i64)) (fun a => f55 a.1 a.2)), (56, conF (cCons (cI .i64) (cOne (cI .i64))) (rTup (cCons (cI .i64) (cOne (cI .i64)))) (fun a => f56 a.1 a.2)), (70, conF (cOne (cI .i64)) (rOne (cI .i64)) (fun a => f70 a)), (71, conF (cOne (cI .i64)) (rOne (cI .i64)) (fun a => f71 a)), (72, conF (cOne (cI .i64)) (rOne (cI .i64)) (fun a => f72 a))]

/-- dancestudioref20.along -/
noncomputable def f36 (a : Int) (b : Nat → Int) (c : Int) : Option ((Nat → Int)) :=
 Option.bind (f57 b c) (fun r3 =>
 Option.bind (f34 (IntKind.i64.wrap (IntKind.i64.wrap (a * IntKind.i64.wrap (8 - b 2)) * r3.fst 0)) 131072) (fun r4 =>
 Option.bind (f34 (IntKind.i64.wrap (IntKind.i64.wrap (a * IntKind.i64.wrap (8 - b 2)) * r3.fst 1)) 131072) (fun r5 =>
 Option.bind (f34 (IntKind.i64.wrap (IntKind.i64.wrap (a * IntKind.i64.wrap (8 - b 2)) * r3.fst 2)) 131072) (fun r6 =>
 some (nthI [r4, r5, r6])))))
theorem evg36 (f34 : (Int) → (Int) → Option (Int)) (f57 : (Nat → Int) → (Int) → Option ((Nat → Int) × Int)) (xx : (cCons (cI .i64) (cCons (cA .i64 3) (cOne (cI .i64)))).T) : evF (R := (rOne (cA .i64 3)).T) (cx [(34, conF (cCons (cI .i64) (cOne (cI .i64))) (rOne (cI .i64)) (fun a => f34 a.1 a.2)), (57, conF (cCons (cA .i64 3) (cOne (cI .i64))) (rTup (cCons (cA .i64 3) (cOne (cI .i64)))) (fun a => f57 a.1 a.2))]) 1000 Tryd.f36 ((cCons (cI .i64) (cCons (cA .i64 3) (cOne (cI .i64)))).enc xx) (glMem gl) gG (rOne (cA .i64 3)).dec =
 (fun (a : Int) (b : Nat → Int) (c : Int) =>
 (( Option.bind (f57 (nthI [b 0, b 1, b 2]) c) (fun r3 =>
 Option.bind (f34 (IntKind.i64.wrap (IntKind.i64.wrap (a * IntKind.i64.wrap (8 - b 2)) * r3.fst 0)) 131072) (fun r4 =>
 Option.bind (f34 (IntKind.i64.wrap (IntKind.i64.wrap (a * IntKind.i64.wrap (8 - b 2)) * r3.fst 1)) 131072) (fun r5 =>
 Option.bind (f34 (IntKind.i64.wrap (IntKind.i64.wrap (a * IntKind.i64.wrap (8 - b 2)) * r3.fst 2)) 131072) (fun r6 =>
 some (nthI [r4, r5, r6])))))) : Option ((Nat → Int)))) xx.1 xx.2.1 xx.2.2 := by kernel_rfl
theorem ok36 : CtxOK Tryd.prog (cx [(34, conF (cCons (cI .i64) (cOne (cI .i64))) (rOne (cI .i64)) (fun a => f34 a.1 a.2)), (57, conF (cCons (cA .i64 3) (cOne (cI .i64))) (rTup (cCons (cA .i64 3) (cOne (cI .i64)))) (fun a => f57 a.1 a.2))]) gl := ctx_of tyOk moOk (show SpecL Tryd.prog gG gl [(34, conF (cCons (cI .i64) (cOne (cI .i64))) (rOne (cI .i64)) (fun a => f34 a.1 a.2)), (57, conF (cCons (cA .i64 3) (cOne (cI .i64))) (rTup (cCons (cA .i64 3) (cOne (cI .i64)))) (fun a => f57 a.1 a.2))] from ⟨sp34, sp57, trivial⟩) fnOk
noncomputable def g36 (a : Int) (b : Nat → Int) (c : Int) : Option ((Nat → Int)) :=
 Option.bind (f57 (nthI [b 0, b 1, b 2]) c) (fun r3 =>
 Option.bind (f34 (IntKind.i64.wrap (IntKind.i64.wrap (a * IntKind.i64.wrap (8 - b 2)) * r3.fst 0)) 131072) (fun r4 =>
 Option.bind (f34 (IntKind.i64.wrap (IntKind.i64.wrap (a * IntKind.i64.wrap (8 - b 2)) * r3.fst 1)) 131072) (fun r5 =>
 Option.bind (f34 (IntKind.i64.wrap (IntKind.i64.wrap (a * IntKind.i64.wrap (8 - b 2)) * r3.fst 2)) 131072) (fun r6 =>
 some (nthI [r4, r5, r6])))))
theorem fg36 (a : Int) (b : Nat → Int) (c : Int) : g36 a b c = f36 a b c := by kernel_rfl
theorem ev36 (a : (cCons (cI .i64) (cCons (cA .i64 3) (cOne (cI .i64)))).T) : evF (R := (rOne (cA .i64 3)).T) (cx [(34, conF (cCons (cI .i64) (cOne (cI .i64))) (rOne (cI .i64)) (fun a => f34 a.1 a.2)), (57, conF (cCons (cA .i64 3) (cOne (cI .i64))) (rTup (cCons (cA .i64 3) (cOne (cI .i64)))) (fun a => f57 a.1 a.2))]) 1000 Tryd.f36 ((cCons (cI .i64) (cCons (cA .i64 3) (cOne (cI .i64)))).enc a) (glMem gl) gG (rOne (cA .i64 3)).dec = f36 a.1 a.2.1 a.2.2 := (show evF (R := (rOne (cA .i64 3)).T) (cx [(34, conF (cCons (cI .i64) (cOne (cI .i64))) (rOne (cI .i64)) (fun a => f34 a.1 a.2)), (57, conF (cCons (cA .i64 3) (cOne (cI .i64))) (rTup (cCons (cA .i64 3) (cOne (cI .i64)))) (fun a => f57 a.1 a.2))]) 1000 Tryd.f36 ((cCons (cI .i64) (cCons (cA .i64 3) (cOne (cI .i64)))).enc a) (glMem gl) gG (rOne (cA .i64 3)).dec = g36 a.1 a.2.1 a.2.2 from evg36 f34 f57 a).trans (fg36 a.1 a.2.1 a.2.2)
theorem sp36 : VE.Spec Tryd.prog gG gl 36 (conF (cCons (cI .i64) (cCons (cA .i64 3) (cOne (cI .i64)))) (rOne (cA .i64 3)) (fun a => f36 a.1 a.2.1 a.2.2)) := spec_of ok36 Tryd.func36 Tryd.call36 1000 (cCons_ok (cI_ok _) (cCons_ok (cA_ok _ _) (cOne_ok (cI_ok _)))) (rOne_ok (cA_ok _ _)) ev36
noncomputable abbrev con36 : List (Nat × (List AV → Option ConR)) := [(34, conF (cCons (cI .i64) (cOne (cI .i64))) (rOne (cI .i64)) (fun a => f34 a.1 a.2)), (57, conF (cCons (cA .i64 3) (cOne (cI .i64))) (rTup (cCons (cA .i64 3) (cOne (cI .i64)))) (fun a => f57 a.1 a.2))]

/-- dancestudioref02.far -/
noncomputable def f73 (a : Nat → Int) : Option (Bool) :=
 cond (decide (a 0 < -32768)) (
 some (true)) (
 cond (decide (32768 < a 0)) (
 some (true)) (
 cond (decide (a 1 < -32768)) (
 some (true)) (
 some (decide (32768 < a 1)))))
theorem evg73  (xx : (cOne (cA .i64 2)).T) : evF (R := (rOne (cB)).T) (cx []) 1000 Tryd.f73 ((cOne (cA .i64 2)).enc xx) (glMem gl) gG (rOne (cB)).dec =
 (fun (a : Nat → Int) =>
 (( cond (decide (a 0 < -32768)) (
 some (true)) (
 cond (decide (32768 < a 0)) (
 some (true)) (
 cond (decide (a 1 < -32768)) (
 some (true)) (
 some (decide (32768 < a 1)))))) : Option (Bool))) xx := by kernel_rfl
theorem ok73 : CtxOK Tryd.prog (cx []) gl := ctx_of tyOk moOk trivial fnOk
theorem ev73 (a : (cOne (cA .i64 2)).T) : evF (R := (rOne (cB)).T) (cx []) 1000 Tryd.f73 ((cOne (cA .i64 2)).enc a) (glMem gl) gG (rOne (cB)).dec = f73 a := evg73  a
theorem sp73 : VE.Spec Tryd.prog gG gl 73 (conF (cOne (cA .i64 2)) (rOne (cB)) (fun a => f73 a)) := spec_of ok73 Tryd.func73 Tryd.call73 1000 (cOne_ok (cA_ok _ _)) (rOne_ok (cB_ok)) ev73
noncomputable abbrev con73 : List (Nat × (List AV → Option ConR)) := []

/-- dancestudioref02.Turned -/
noncomputable def f58 (a : Nat → Int) (b : Int) : Option ((Nat → Int) × Int) :=
 Option.bind (f73 a) (fun r2 =>
 cond (r2) (
 some ((nthI [0, 0], 1))) (
 Option.bind (f71 b) (fun r3 =>
 Option.bind (f72 b) (fun r4 =>
 Option.bind (f56 (IntKind.i64.wrap (IntKind.i64.wrap (a 0 * r3) + IntKind.i64.wrap (a 1 * r4))) 16384) (fun r5 =>
 Option.bind (f71 b) (fun r6 =>
 Option.bind (f72 b) (fun r7 =>
 Option.bind (f56 (IntKind.i64.wrap (IntKind.i64.wrap (a 1 * r6) - IntKind.i64.wrap (a 0 * r7))) 16384) (fun r8 =>
 some ((nthI [r5.fst, r8.fst], 0))))))))))
theorem evg58 (f56 : (Int) → (Int) → Option (Int × Int)) (f71 : (Int) → Option (Int)) (f72 : (Int) → Option (Int)) (f73 : (Nat → Int) → Option (Bool)) (xx : (cCons (cA .i64 2) (cOne (cI .i64))).T) : evF (R := (rTup (cCons (cA .i64 2) (cOne (cI .i64)))).T) (cx [(56, conF (cCons (cI .i64) (cOne (cI .i64))) (rTup (cCons (cI .i64) (cOne (cI .i64)))) (fun a => f56 a.1 a.2)), (71, conF (cOne (cI .i64)) (rOne (cI .i64)) (fun a => f71 a)), (72, conF (cOne (cI .i64)) (rOne (cI .i64)) (fun a => f72 a)), (73, conF (cOne (cA .i64 2)) (rOne (cB)) (fun a => f73 a))]) 1000 Tryd.f58 ((cCons (cA .i64 2) (cOne (cI .i64))).enc xx) (glMem gl) gG (rTup (cCons (cA .i64 2) (cOne (cI .i64)))).dec =
 (fun (a : Nat → Int) (b : Int) =>
 (( Option.bind (f73 (nthI [a 0, a 1])) (fun r2 =>
 cond (r2) (
 some ((nthI [0, 0], 1))) (
 Option.bind (f71 b) (fun r3 =>
 Option.bind (f72 b) (fun r4 =>
 Option.bind (f56 (IntKind.i64.wrap (IntKind.i64.wrap (a 0 * r3) + IntKind.i64.wrap (a 1 * r4))) 16384) (fun r5 =>
 Option.bind (f71 b) (fun r6 =>
 Option.bind (f72 b) (fun r7 =>
 Option.bind (f56 (IntKind.i64.wrap (IntKind.i64.wrap (a 1 * r6) - IntKind.i64.wrap (a 0 * r7))) 16384) (fun r8 =>
 some ((nthI [r5.fst, r8.fst], 0))))))))))) : Option ((Nat → Int) × Int))) xx.1 xx.2 := by kernel_rfl
theorem ok58 : CtxOK Tryd.prog (cx [(56, conF (cCons (cI .i64) (cOne (cI .i64))) (rTup (cCons (cI .i64) (cOne (cI .i64)))) (fun a => f56 a.1 a.2)), (71, conF (cOne (cI .i64)) (rOne (cI .i64)) (fun a => f71 a)), (72, conF (cOne (cI .i64)) (rOne (cI .i64)) (fun a => f72 a)), (73, conF (cOne (cA .i64 2)) (rOne (cB)) (fun a => f73 a))]) gl := ctx_of tyOk moOk (show SpecL Tryd.prog gG gl [(56, conF (cCons (cI .i64) (cOne (cI .i64))) (rTup (cCons (cI .i64) (cOne (cI .i64)))) (fun a => f56 a.1 a.2)), (71, conF (cOne (cI .i64)) (rOne (cI .i64)) (fun a => f71 a)), (72, conF (cOne (cI .i64)) (rOne (cI .i64)) (fun a => f72 a)), (73, conF (cOne (cA .i64 2)) (rOne (cB)) (fun a => f73 a))] from ⟨sp56, sp71, sp72, sp73, trivial⟩) fnOk
noncomputable def g58 (a : Nat → Int) (b : Int) : Option ((Nat → Int) × Int) :=
 Option.bind (f73 (nthI [a 0, a 1])) (fun r2 =>
 cond (r2) (
 some ((nthI [0, 0], 1))) (
 Option.bind (f71 b) (fun r3 =>
 Option.bind (f72 b) (fun r4 =>
 Option.bind (f56 (IntKind.i64.wrap (IntKind.i64.wrap (a 0 * r3) + IntKind.i64.wrap (a 1 * r4))) 16384) (fun r5 =>
 Option.bind (f71 b) (fun r6 =>
 Option.bind (f72 b) (fun r7 =>
 Option.bind (f56 (IntKind.i64.wrap (IntKind.i64.wrap (a 1 * r6) - IntKind.i64.wrap (a 0 * r7))) 16384) (fun r8 =>
 some ((nthI [r5.fst, r8.fst], 0))))))))))
theorem fg58 (a : Nat → Int) (b : Int) : g58 a b = f58 a b := by kernel_rfl
theorem ev58 (a : (cCons (cA .i64 2) (cOne (cI .i64))).T) : evF (R := (rTup (cCons (cA .i64 2) (cOne (cI .i64)))).T) (cx [(56, conF (cCons (cI .i64) (cOne (cI .i64))) (rTup (cCons (cI .i64) (cOne (cI .i64)))) (fun a => f56 a.1 a.2)), (71, conF (cOne (cI .i64)) (rOne (cI .i64)) (fun a => f71 a)), (72, conF (cOne (cI .i64)) (rOne (cI .i64)) (fun a => f72 a)), (73, conF (cOne (cA .i64 2)) (rOne (cB)) (fun a => f73 a))]) 1000 Tryd.f58 ((cCons (cA .i64 2) (cOne (cI .i64))).enc a) (glMem gl) gG (rTup (cCons (cA .i64 2) (cOne (cI .i64)))).dec = f58 a.1 a.2 := (show evF (R := (rTup (cCons (cA .i64 2) (cOne (cI .i64)))).T) (cx [(56, conF (cCons (cI .i64) (cOne (cI .i64))) (rTup (cCons (cI .i64) (cOne (cI .i64)))) (fun a => f56 a.1 a.2)), (71, conF (cOne (cI .i64)) (rOne (cI .i64)) (fun a => f71 a)), (72, conF (cOne (cI .i64)) (rOne (cI .i64)) (fun a => f72 a)), (73, conF (cOne (cA .i64 2)) (rOne (cB)) (fun a => f73 a))]) 1000 Tryd.f58 ((cCons (cA .i64 2) (cOne (cI .i64))).enc a) (glMem gl) gG (rTup (cCons (cA .i64 2) (cOne (cI .i64)))).dec = g58 a.1 a.2 from evg58 f56 f71 f72 f73 a).trans (fg58 a.1 a.2)
theorem sp58 : VE.Spec Tryd.prog gG gl 58 (conF (cCons (cA .i64 2) (cOne (cI .i64))) (rTup (cCons (cA .i64 2) (cOne (cI .i64)))) (fun a => f58 a.1 a.2)) := spec_of ok58 Tryd.func58 Tryd.call58 1000 (cCons_ok (cA_ok _ _) (cOne_ok (cI_ok _))) (rTup_ok (cCons_ok (cA_ok _ _) (cOne_ok (cI_ok _)))) ev58
noncomputable abbrev con58 : List (Nat × (List AV → Option ConR)) := [(56, conF (cCons (cI .i64) (cOne (cI .i64))) (rTup (cCons (cI .i64) (cOne (cI .i64)))) (fun a => f56 a.1 a.2)), (71, conF (cOne (cI .i64)) (rOne (cI .i64)) (fun a => f71 a)), (72, conF (cOne (cI .i64)) (rOne (cI .i64)) (fun a => f72 a)), (73, conF (cOne (cA .i64 2)) (rOne (cB)) (fun a => f73 a))]

/-- dancestudioref20.side -/
noncomputable def f37 (a : Int) (b : Int) (c : Int) : Option ((Nat → Int)) :=
 Option.bind (f58 (nthI [IntKind.i64.wrap (b * a), 0]) c) (fun r3 =>
 some (nthI [r3.fst 0, r3.fst 1, 0]))
theorem evg37 (f58 : (Nat → Int) → (Int) → Option ((Nat → Int) × Int)) (xx : (cCons (cI .i64) (cCons (cI .i64) (cOne (cI .i64)))).T) : evF (R := (rOne (cA .i64 3)).T) (cx [(58, conF (cCons (cA .i64 2) (cOne (cI .i64))) (rTup (cCons (cA .i64 2) (cOne (cI .i64)))) (fun a => f58 a.1 a.2))]) 1000 Tryd.f37 ((cCons (cI .i64) (cCons (cI .i64) (cOne (cI .i64)))).enc xx) (glMem gl) gG (rOne (cA .i64 3)).dec =
 (fun (a : Int) (b : Int) (c : Int) =>
 (( Option.bind (f58 (nthI [IntKind.i64.wrap (b * a), 0]) c) (fun r3 =>
 some (nthI [r3.fst 0, r3.fst 1, 0]))) : Option ((Nat → Int)))) xx.1 xx.2.1 xx.2.2 := by kernel_rfl
theorem ok37 : CtxOK Tryd.prog (cx [(58, conF (cCons (cA .i64 2) (cOne (cI .i64))) (rTup (cCons (cA .i64 2) (cOne (cI .i64)))) (fun a => f58 a.1 a.2))]) gl := ctx_of tyOk moOk (show SpecL Tryd.prog gG gl [(58, conF (cCons (cA .i64 2) (cOne (cI .i64))) (rTup (cCons (cA .i64 2) (cOne (cI .i64)))) (fun a => f58 a.1 a.2))] from ⟨sp58, trivial⟩) fnOk
theorem ev37 (a : (cCons (cI .i64) (cCons (cI .i64) (cOne (cI .i64)))).T) : evF (R := (rOne (cA .i64 3)).T) (cx [(58, conF (cCons (cA .i64 2) (cOne (cI .i64))) (rTup (cCons (cA .i64 2) (cOne (cI .i64)))) (fun a => f58 a.1 a.2))]) 1000 Tryd.f37 ((cCons (cI .i64) (cCons (cI .i64) (cOne (cI .i64)))).enc a) (glMem gl) gG (rOne (cA .i64 3)).dec = f37 a.1 a.2.1 a.2.2 := evg37 f58 a
theorem sp37 : VE.Spec Tryd.prog gG gl 37 (conF (cCons (cI .i64) (cCons (cI .i64) (cOne (cI .i64)))) (rOne (cA .i64 3)) (fun a => f37 a.1 a.2.1 a.2.2)) := spec_of ok37 Tryd.func37 Tryd.call37 1000 (cCons_ok (cI_ok _) (cCons_ok (cI_ok _) (cOne_ok (cI_ok _)))) (rOne_ok (cA_ok _ _)) ev37
noncomputable abbrev con37 : List (Nat × (List AV → Option ConR)) := [(58, conF (cCons (cA .i64 2) (cOne (cI .i64))) (rTup (cCons (cA .i64 2) (cOne (cI .i64)))) (fun a => f58 a.1 a.2))]

/-- dancestudioref20.Of -/
noncomputable def f11 (a : Nat → Int) (b : Nat → Int) (c : Int) : Option ((Nat → Int) × Int) :=
 Option.bind (f32 a) (fun r3 =>
 cond (!decide (r3 = 0)) (
 some ((nthI tab1, r3))) (
 Option.bind (f33 b) (fun r4 =>
 cond (!decide (r4 = 0)) (
 some ((nthI tab1, r4))) (
 cond (decide (c < 0)) (
 some ((nthI tab1, 1))) (
 cond (decide (3 < c)) (
 some ((nthI tab1, 1))) (
 Option.bind (f34 (IntKind.i64.wrap (a 8 * b 3)) 8) (fun r5 =>
 cond (decide (b 3 < 0)) (
 Option.bind (f34 (IntKind.i64.wrap (a 7 * b 3)) 8) (fun r6 =>
 Option.bind (f36 (a 1) (nthI [b 10, b 11, b 12]) (b 2)) (fun r7 =>
 Option.bind (f35 (nthI [b 0, b 1, IntKind.i64.wrap (a 0 + r6)]) r7) (fun r8 =>
 Option.bind (f36 (a 2) (nthI [b 19, b 20, b 21]) (b 2)) (fun r9 =>
 Option.bind (f35 r8 r9) (fun r10 =>
 Option.bind (f37 (a 4) (-1) (b 2)) (fun r11 =>
 Option.bind (f35 (nthI [b 0, b 1, IntKind.i64.wrap (a 0 + r6)]) r11) (fun r12 =>
 Option.bind (f37 (a 5) (-1) (b 2)) (fun r13 =>
 Option.bind (f35 r8 r13) (fun r14 =>
 Option.bind (f36 (a 3) (nthI [b 13, b 14, b 15]) (b 2)) (fun r15 =>
 Option.bind (f35 r14 r15) (fun r16 =>
 cond (!decide (bitsI BinOp.and IntKind.i64 c 1 = 0)) (
 Option.bind (f37 (a 4) 1 (b 2)) (fun r17 =>
 Option.bind (f35 (nthI [b 0, b 1, IntKind.i64.wrap (a 0 + r6)]) r17) (fun r18 =>
 Option.bind (f37 (a 5) 1 (b 2)) (fun r19 =>
 Option.bind (f35 r8 r19) (fun r20 =>
 Option.bind (f36 (a 3) (nthI [b 16, b 17, b 18]) (b 2)) (fun r21 =>
 Option.bind (f35 r20 r21) (fun r22 =>
 cond (!decide (bitsI BinOp.and IntKind.i64 c 2 = 0)) (
 some ((nthI [b 0, b 1, IntKind.i64.wrap (a 0 + r6), r8 0, r8 1, r8 2, r10 0, r10 1, r10 2, r12 0, r12 1, r12 2, r18 0, r18 1, r18 2, r14 0, r14 1, r14 2, r20 0, r20 1, r20 2, r16 0, r16 1, r16 2, r22 0, r22 1, r22 2, r12 0, r12 1, 0, r18 0, r18 1, 0], 0))) (
 Option.bind (f36 (a 0) (nthI [b 7, b 8, b 9]) (b 2)) (fun r23 =>
 Option.bind (f35 r18 r23) (fun r24 =>
 some ((nthI [b 0, b 1, IntKind.i64.wrap (a 0 + r6), r8 0, r8 1, r8 2, r10 0, r10 1, r10 2, r12 0, r12 1, r12 2, r18 0, r18 1, r18 2, r14 0, r14 1, r14 2, r20 0, r20 1, r20 2, r16 0, r16 1, r16 2, r22 0, r22 1, r22 2, r12 0, r12 1, 0, r24 0, r24 1, r24 2], 0)))))))))))) (
 Option.bind (f36 (a 0) (nthI [b 4, b 5, b 6]) (b 2)) (fun r17 =>
 Option.bind (f35 r12 r17) (fun r18 =>
 Option.bind (f37 (a 4) 1 (b 2)) (fun r19 =>
 Option.bind (f35 (nthI [b 0, b 1, IntKind.i64.wrap (a 0 + r6)]) r19) (fun r20 =>
 Option.bind (f37 (a 5) 1 (b 2)) (fun r21 =>
 Option.bind (f35 r8 r21) (fun r22 =>
 Option.bind (f36 (a 3) (nthI [b 16, b 17, b 18]) (b 2)) (fun r23 =>
 Option.bind (f35 r22 r23) (fun r24 =>
 cond (!decide (bitsI BinOp.and IntKind.i64 c 2 = 0)) (
 some ((nthI [b 0, b 1, IntKind.i64.wrap (a 0 + r6), r8 0, r8 1, r8 2, r10 0, r10 1, r10 2, r12 0, r12 1, r12 2, r20 0, r20 1, r20 2, r14 0, r14 1, r14 2, r22 0, r22 1, r22 2, r16 0, r16 1, r16 2, r24 0, r24 1, r24 2, r18 0, r18 1, r18 2, r20 0, r20 1, 0], 0))) (
 Option.bind (f36 (a 0) (nthI [b 7, b 8, b 9]) (b 2)) (fun r25 =>
 Option.bind (f35 r20 r25) (fun r26 =>
 some ((nthI [b 0, b 1, IntKind.i64.wrap (a 0 + r6), r8 0, r8 1, r8 2, r10 0, r10 1, r10 2, r12 0, r12 1, r12 2, r20 0, r20 1, r20 2, r14 0, r14 1, r14 2, r22 0, r22 1, r22 2, r16 0, r16 1, r16 2, r24 0, r24 1, r24 2, r18 0, r18 1, r18 2, r26 0, r26 1, r26 2], 0)))))))))))))))))))))))))) (
 Option.bind (f36 (a 1) (nthI [b 10, b 11, b 12]) (b 2)) (fun r6 =>
 Option.bind (f35 (nthI [b 0, b 1, IntKind.i64.wrap (a 0 + r5)]) r6) (fun r7 =>
 Option.bind (f36 (a 2) (nthI [b 19, b 20, b 21]) (b 2)) (fun r8 =>
 Option.bind (f35 r7 r8) (fun r9 =>
 Option.bind (f37 (a 4) (-1) (b 2)) (fun r10 =>
 Option.bind (f35 (nthI [b 0, b 1, IntKind.i64.wrap (a 0 + r5)]) r10) (fun r11 =>
 Option.bind (f37 (a 5) (-1) (b 2)) (fun r12 =>
 Option.bind (f35 r7 r12) (fun r13 =>
 Option.bind (f36 (a 3) (nthI [b 13, b 14, b 15]) (b 2)) (fun r14 =>
 Option.bind (f35 r13 r14) (fun r15 =>
 cond (!decide (bitsI BinOp.and IntKind.i64 c 1 = 0)) (
 Option.bind (f37 (a 4) 1 (b 2)) (fun r16 =>
 Option.bind (f35 (nthI [b 0, b 1, IntKind.i64.wrap (a 0 + r5)]) r16) (fun r17 =>
 Option.bind (f37 (a 5) 1 (b 2)) (fun r18 =>
 Option.bind (f35 r7 r18) (fun r19 =>
 Option.bind (f36 (a 3) (nthI [b 16, b 17, b 18]) (b 2)) (fun r20 =>
 Option.bind (f35 r19 r20) (fun r21 =>
 cond (!decide (bitsI BinOp.and IntKind.i64 c 2 = 0)) (
 some ((nthI [b 0, b 1, IntKind.i64.wrap (a 0 + r5), r7 0, r7 1, r7 2, r9 0, r9 1, r9 2, r11 0, r11 1, r11 2, r17 0, r17 1, r17 2, r13 0, r13 1, r13 2, r19 0, r19 1, r19 2, r15 0, r15 1, r15 2, r21 0, r21 1, r21 2, r11 0, r11 1, 0, r17 0, r17 1, 0], 0))) (
 Option.bind (f36 (a 0) (nthI [b 7, b 8, b 9]) (b 2)) (fun r22 =>
 Option.bind (f35 r17 r22) (fun r23 =>
 some ((nthI [b 0, b 1, IntKind.i64.wrap (a 0 + r5), r7 0, r7 1, r7 2, r9 0, r9 1, r9 2, r11 0, r11 1, r11 2, r17 0, r17 1, r17 2, r13 0, r13 1, r13 2, r19 0, r19 1, r19 2, r15 0, r15 1, r15 2, r21 0, r21 1, r21 2, r11 0, r11 1, 0, r23 0, r23 1, r23 2], 0)))))))))))) (
 Option.bind (f36 (a 0) (nthI [b 4, b 5, b 6]) (b 2)) (fun r16 =>
 Option.bind (f35 r11 r16) (fun r17 =>
 Option.bind (f37 (a 4) 1 (b 2)) (fun r18 =>
 Option.bind (f35 (nthI [b 0, b 1, IntKind.i64.wrap (a 0 + r5)]) r18) (fun r19 =>
 Option.bind (f37 (a 5) 1 (b 2)) (fun r20 =>
 Option.bind (f35 r7 r20) (fun r21 =>
 Option.bind (f36 (a 3) (nthI [b 16, b 17, b 18]) (b 2)) (fun r22 =>
 Option.bind (f35 r21 r22) (fun r23 =>
 cond (!decide (bitsI BinOp.and IntKind.i64 c 2 = 0)) (
 some ((nthI [b 0, b 1, IntKind.i64.wrap (a 0 + r5), r7 0, r7 1, r7 2, r9 0, r9 1, r9 2, r11 0, r11 1, r11 2, r19 0, r19 1, r19 2, r13 0, r13 1, r13 2, r21 0, r21 1, r21 2, r15 0, r15 1, r15 2, r23 0, r23 1, r23 2, r17 0, r17 1, r17 2, r19 0, r19 1, 0], 0))) (
 Option.bind (f36 (a 0) (nthI [b 7, b 8, b 9]) (b 2)) (fun r24 =>
 Option.bind (f35 r19 r24) (fun r25 =>
 some ((nthI [b 0, b 1, IntKind.i64.wrap (a 0 + r5), r7 0, r7 1, r7 2, r9 0, r9 1, r9 2, r11 0, r11 1, r11 2, r19 0, r19 1, r19 2, r13 0, r13 1, r13 2, r21 0, r21 1, r21 2, r15 0, r15 1, r15 2, r23 0, r23 1, r23 2, r17 0, r17 1, r17 2, r25 0, r25 1, r25 2], 0))))))))))))))))))))))))))))))))
theorem evg11 (f32 : (Nat → Int) → Option (Int)) (f33 : (Nat → Int) → Option (Int)) (f34 : (Int) → (Int) → Option (Int)) (f35 : (Nat → Int) → (Nat → Int) → Option ((Nat → Int))) (f36 : (Int) → (Nat → Int) → (Int) → Option ((Nat → Int))) (f37 : (Int) → (Int) → (Int) → Option ((Nat → Int))) (xx : (cCons (cA .i64 15) (cCons (cA .i64 22) (cOne (cI .i64)))).T) : evF (R := (rTup (cCons (cA .i64 33) (cOne (cI .i64)))).T) (cx [(32, conF (cOne (cA .i64 15)) (rOne (cI .i64)) (fun a => f32 a)), (33, conF (cOne (cA .i64 22)) (rOne (cI .i64)) (fun a => f33 a)), (34, conF (cCons (cI .i64) (cOne (cI .i64))) (rOne (cI .i64)) (fun a => f34 a.1 a.2)), (35, conF (cCons (cA .i64 3) (cOne (cA .i64 3))) (rOne (cA .i64 3)) (fun a => f35 a.1 a.2)), (36, conF (cCons (cI .i64) (cCons (cA .i64 3) (cOne (cI .i64)))) (rOne (cA .i64 3)) (fun a => f36 a.1 a.2.1 a.2.2)), (37, conF (cCons (cI .i64) (cCons (cI .i64) (cOne (cI .i64)))) (rOne (cA .i64 3)) (fun a => f37 a.1 a.2.1 a.2.2))]) 1000 Tryd.f11 ((cCons (cA .i64 15) (cCons (cA .i64 22) (cOne (cI .i64)))).enc xx) (glMem gl) gG (rTup (cCons (cA .i64 33) (cOne (cI .i64)))).dec =
 (fun (a : Nat → Int) (b : Nat → Int) (c : Int) =>
 (( Option.bind (f32 (nthI [a 0, a 1, a 2, a 3, a 4, a 5, a 6, a 7, a 8, a 9, a 10, a 11, a 12, a 13, a 14])) (fun r3 =>
 cond (!decide (r3 = 0)) (
 some ((nthI tab1, r3))) (
 Option.bind (f33 (nthI [b 0, b 1, b 2, b 3, b 4, b 5, b 6, b 7, b 8, b 9, b 10, b 11, b 12, b 13, b 14, b 15, b 16, b 17, b 18, b 19, b 20, b 21])) (fun r4 =>
 cond (!decide (r4 = 0)) (
 some ((nthI tab1, r4))) (
 cond (decide (c < 0)) (
 some ((nthI tab1, 1))) (
 cond (decide (3 < c)) (
 some ((nthI tab1, 1))) (
 Option.bind (f34 (IntKind.i64.wrap (a 8 * b 3)) 8) (fun r5 =>
 cond (decide (b 3 < 0)) (
 Option.bind (f34 (IntKind.i64.wrap (a 7 * b 3)) 8) (fun r6 =>
 Option.bind (f36 (a 1) (nthI [b 10, b 11, b 12]) (b 2)) (fun r7 =>
 Option.bind (f35 (nthI [b 0, b 1, IntKind.i64.wrap (a 0 + r6)]) (nthI [r7 0, r7 1, r7 2])) (fun r8 =>
 Option.bind (f36 (a 2) (nthI [b 19, b 20, b 21]) (b 2)) (fun r9 =>
 Option.bind (f35 (nthI [r8 0, r8 1, r8 2]) (nthI [r9 0, r9 1, r9 2])) (fun r10 =>
 Option.bind (f37 (a 4) (-1) (b 2)) (fun r11 =>
 Option.bind (f35 (nthI [b 0, b 1, IntKind.i64.wrap (a 0 + r6)]) (nthI [r11 0, r11 1, r11 2])) (fun r12 =>
 Option.bind (f37 (a 5) (-1) (b 2)) (fun r13 =>
 Option.bind (f35 (nthI [r8 0, r8 1, r8 2]) (nthI [r13 0, r13 1, r13 2])) (fun r14 =>
 Option.bind (f36 (a 3) (nthI [b 13, b 14, b 15]) (b 2)) (fun r15 =>
 Option.bind (f35 (nthI [r14 0, r14 1, r14 2]) (nthI [r15 0, r15 1, r15 2])) (fun r16 =>
 cond (!decide (bitsI BinOp.and IntKind.i64 c 1 = 0)) (
 Option.bind (f37 (a 4) 1 (b 2)) (fun r17 =>
 Option.bind (f35 (nthI [b 0, b 1, IntKind.i64.wrap (a 0 + r6)]) (nthI [r17 0, r17 1, r17 2])) (fun r18 =>
 Option.bind (f37 (a 5) 1 (b 2)) (fun r19 =>
 Option.bind (f35 (nthI [r8 0, r8 1, r8 2]) (nthI [r19 0, r19 1, r19 2])) (fun r20 =>
 Option.bind (f36 (a 3) (nthI [b 16, b 17, b 18]) (b 2)) (fun r21 =>
 Option.bind (f35 (nthI [r20 0, r20 1, r20 2]) (nthI [r21 0, r21 1, r21 2])) (fun r22 =>
 cond (!decide (bitsI BinOp.and IntKind.i64 c 2 = 0)) (
 some ((nthI [b 0, b 1, IntKind.i64.wrap (a 0 + r6), r8 0, r8 1, r8 2, r10 0, r10 1, r10 2, r12 0, r12 1, r12 2, r18 0, r18 1, r18 2, r14 0, r14 1, r14 2, r20 0, r20 1, r20 2, r16 0, r16 1, r16 2, r22 0, r22 1, r22 2, r12 0, r12 1, 0, r18 0, r18 1, 0], 0))) (
 Option.bind (f36 (a 0) (nthI [b 7, b 8, b 9]) (b 2)) (fun r23 =>
 Option.bind (f35 (nthI [r18 0, r18 1, r18 2]) (nthI [r23 0, r23 1, r23 2])) (fun r24 =>
 some ((nthI [b 0, b 1, IntKind.i64.wrap (a 0 + r6), r8 0, r8 1, r8 2, r10 0, r10 1, r10 2, r12 0, r12 1, r12 2, r18 0, r18 1, r18 2, r14 0, r14 1, r14 2, r20 0, r20 1, r20 2, r16 0, r16 1, r16 2, r22 0, r22 1, r22 2, r12 0, r12 1, 0, r24 0, r24 1, r24 2], 0)))))))))))) (
 Option.bind (f36 (a 0) (nthI [b 4, b 5, b 6]) (b 2)) (fun r17 =>
 Option.bind (f35 (nthI [r12 0, r12 1, r12 2]) (nthI [r17 0, r17 1, r17 2])) (fun r18 =>
 Option.bind (f37 (a 4) 1 (b 2)) (fun r19 =>
 Option.bind (f35 (nthI [b 0, b 1, IntKind.i64.wrap (a 0 + r6)]) (nthI [r19 0, r19 1, r19 2])) (fun r20 =>
 Option.bind (f37 (a 5) 1 (b 2)) (fun r21 =>
 Option.bind (f35 (nthI [r8 0, r8 1, r8 2]) (nthI [r21 0, r21 1, r21 2])) (fun r22 =>
 Option.bind (f36 (a 3) (nthI [b 16, b 17, b 18]) (b 2)) (fun r23 =>
 Option.bind (f35 (nthI [r22 0, r22 1, r22 2]) (nthI [r23 0, r23 1, r23 2])) (fun r24 =>
 cond (!decide (bitsI BinOp.and IntKind.i64 c 2 = 0)) (
 some ((nthI [b 0, b 1, IntKind.i64.wrap (a 0 + r6), r8 0, r8 1, r8 2, r10 0, r10 1, r10 2, r12 0, r12 1, r12 2, r20 0, r20 1, r20 2, r14 0, r14 1, r14 2, r22 0, r22 1, r22 2, r16 0, r16 1, r16 2, r24 0, r24 1, r24 2, r18 0, r18 1, r18 2, r20 0, r20 1, 0], 0))) (
 Option.bind (f36 (a 0) (nthI [b 7, b 8, b 9]) (b 2)) (fun r25 =>
 Option.bind (f35 (nthI [r20 0, r20 1, r20 2]) (nthI [r25 0, r25 1, r25 2])) (fun r26 =>
 some ((nthI [b 0, b 1, IntKind.i64.wrap (a 0 + r6), r8 0, r8 1, r8 2, r10 0, r10 1, r10 2, r12 0, r12 1, r12 2, r20 0, r20 1, r20 2, r14 0, r14 1, r14 2, r22 0, r22 1, r22 2, r16 0, r16 1, r16 2, r24 0, r24 1, r24 2, r18 0, r18 1, r18 2, r26 0, r26 1, r26 2], 0)))))))))))))))))))))))))) (
 Option.bind (f36 (a 1) (nthI [b 10, b 11, b 12]) (b 2)) (fun r6 =>
 Option.bind (f35 (nthI [b 0, b 1, IntKind.i64.wrap (a 0 + r5)]) (nthI [r6 0, r6 1, r6 2])) (fun r7 =>
 Option.bind (f36 (a 2) (nthI [b 19, b 20, b 21]) (b 2)) (fun r8 =>
 Option.bind (f35 (nthI [r7 0, r7 1, r7 2]) (nthI [r8 0, r8 1, r8 2])) (fun r9 =>
 Option.bind (f37 (a 4) (-1) (b 2)) (fun r10 =>
 Option.bind (f35 (nthI [b 0, b 1, IntKind.i64.wrap (a 0 + r5)]) (nthI [r10 0, r10 1, r10 2])) (fun r11 =>
 Option.bind (f37 (a 5) (-1) (b 2)) (fun r12 =>
 Option.bind (f35 (nthI [r7 0, r7 1, r7 2]) (nthI [r12 0, r12 1, r12 2])) (fun r13 =>
 Option.bind (f36 (a 3) (nthI [b 13, b 14, b 15]) (b 2)) (fun r14 =>
 Option.bind (f35 (nthI [r13 0, r13 1, r13 2]) (nthI [r14 0, r14 1, r14 2])) (fun r15 =>
 cond (!decide (bitsI BinOp.and IntKind.i64 c 1 = 0)) (
 Option.bind (f37 (a 4) 1 (b 2)) (fun r16 =>
 Option.bind (f35 (nthI [b 0, b 1, IntKind.i64.wrap (a 0 + r5)]) (nthI [r16 0, r16 1, r16 2])) (fun r17 =>
 Option.bind (f37 (a 5) 1 (b 2)) (fun r18 =>
 Option.bind (f35 (nthI [r7 0, r7 1, r7 2]) (nthI [r18 0, r18 1, r18 2])) (fun r19 =>
 Option.bind (f36 (a 3) (nthI [b 16, b 17, b 18]) (b 2)) (fun r20 =>
 Option.bind (f35 (nthI [r19 0, r19 1, r19 2]) (nthI [r20 0, r20 1, r20 2])) (fun r21 =>
 cond (!decide (bitsI BinOp.and IntKind.i64 c 2 = 0)) (
 some ((nthI [b 0, b 1, IntKind.i64.wrap (a 0 + r5), r7 0, r7 1, r7 2, r9 0, r9 1, r9 2, r11 0, r11 1, r11 2, r17 0, r17 1, r17 2, r13 0, r13 1, r13 2, r19 0, r19 1, r19 2, r15 0, r15 1, r15 2, r21 0, r21 1, r21 2, r11 0, r11 1, 0, r17 0, r17 1, 0], 0))) (
 Option.bind (f36 (a 0) (nthI [b 7, b 8, b 9]) (b 2)) (fun r22 =>
 Option.bind (f35 (nthI [r17 0, r17 1, r17 2]) (nthI [r22 0, r22 1, r22 2])) (fun r23 =>
 some ((nthI [b 0, b 1, IntKind.i64.wrap (a 0 + r5), r7 0, r7 1, r7 2, r9 0, r9 1, r9 2, r11 0, r11 1, r11 2, r17 0, r17 1, r17 2, r13 0, r13 1, r13 2, r19 0, r19 1, r19 2, r15 0, r15 1, r15 2, r21 0, r21 1, r21 2, r11 0, r11 1, 0, r23 0, r23 1, r23 2], 0)))))))))))) (
 Option.bind (f36 (a 0) (nthI [b 4, b 5, b 6]) (b 2)) (fun r16 =>
 Option.bind (f35 (nthI [r11 0, r11 1, r11 2]) (nthI [r16 0, r16 1, r16 2])) (fun r17 =>
 Option.bind (f37 (a 4) 1 (b 2)) (fun r18 =>
 Option.bind (f35 (nthI [b 0, b 1, IntKind.i64.wrap (a 0 + r5)]) (nthI [r18 0, r18 1, r18 2])) (fun r19 =>
 Option.bind (f37 (a 5) 1 (b 2)) (fun r20 =>
 Option.bind (f35 (nthI [r7 0, r7 1, r7 2]) (nthI [r20 0, r20 1, r20 2])) (fun r21 =>
 Option.bind (f36 (a 3) (nthI [b 16, b 17, b 18]) (b 2)) (fun r22 =>
 Option.bind (f35 (nthI [r21 0, r21 1, r21 2]) (nthI [r22 0, r22 1, r22 2])) (fun r23 =>
 cond (!decide (bitsI BinOp.and IntKind.i64 c 2 = 0)) (
 some ((nthI [b 0, b 1, IntKind.i64.wrap (a 0 + r5), r7 0, r7 1, r7 2, r9 0, r9 1, r9 2, r11 0, r11 1, r11 2, r19 0, r19 1, r19 2, r13 0, r13 1, r13 2, r21 0, r21 1, r21 2, r15 0, r15 1, r15 2, r23 0, r23 1, r23 2, r17 0, r17 1, r17 2, r19 0, r19 1, 0], 0))) (
 Option.bind (f36 (a 0) (nthI [b 7, b 8, b 9]) (b 2)) (fun r24 =>
 Option.bind (f35 (nthI [r19 0, r19 1, r19 2]) (nthI [r24 0, r24 1, r24 2])) (fun r25 =>
 some ((nthI [b 0, b 1, IntKind.i64.wrap (a 0 + r5), r7 0, r7 1, r7 2, r9 0, r9 1, r9 2, r11 0, r11 1, r11 2, r19 0, r19 1, r19 2, r13 0, r13 1, r13 2, r21 0, r21 1, r21 2, r15 0, r15 1, r15 2, r23 0, r23 1, r23 2, r17 0, r17 1, r17 2, r25 0, r25 1, r25 2], 0))))))))))))))))))))))))))))))))) : Option ((Nat → Int) × Int))) xx.1 xx.2.1 xx.2.2 := by kernel_rfl
theorem ok11 : CtxOK Tryd.prog (cx [(32, conF (cOne (cA .i64 15)) (rOne (cI .i64)) (fun a => f32 a)), (33, conF (cOne (cA .i64 22)) (rOne (cI .i64)) (fun a => f33 a)), (34, conF (cCons (cI .i64) (cOne (cI .i64))) (rOne (cI .i64)) (fun a => f34 a.1 a.2)), (35, conF (cCons (cA .i64 3) (cOne (cA .i64 3))) (rOne (cA .i64 3)) (fun a => f35 a.1 a.2)), (36, conF (cCons (cI .i64) (cCons (cA .i64 3) (cOne (cI .i64)))) (rOne (cA .i64 3)) (fun a => f36 a.1 a.2.1 a.2.2)), (37, conF (cCons (cI .i64) (cCons (cI .i64) (cOne (cI .i64)))) (rOne (cA .i64 3)) (fun a => f37 a.1 a.2.1 a.2.2))]) gl := ctx_of tyOk moOk (show SpecL Tryd.prog gG gl [(32, conF (cOne (cA .i64 15)) (rOne (cI .i64)) (fun a => f32 a)), (33, conF (cOne (cA .i64 22)) (rOne (cI .i64)) (fun a => f33 a)), (34, conF (cCons (cI .i64) (cOne (cI .i64))) (rOne (cI .i64)) (fun a => f34 a.1 a.2)), (35, conF (cCons (cA .i64 3) (cOne (cA .i64 3))) (rOne (cA .i64 3)) (fun a => f35 a.1 a.2)), (36, conF (cCons (cI .i64) (cCons (cA .i64 3) (cOne (cI .i64)))) (rOne (cA .i64 3)) (fun a => f36 a.1 a.2.1 a.2.2)), (37, conF (cCons (cI .i64) (cCons (cI .i64) (cOne (cI .i64)))) (rOne (cA .i64 3)) (fun a => f37 a.1 a.2.1 a.2.2))] from ⟨sp32, sp33, sp34, sp35, sp36, sp37, trivial⟩) fnOk
noncomputable def g11 (a : Nat → Int) (b : Nat → Int) (c : Int) : Option ((Nat → Int) × Int) :=
 Option.bind (f32 (nthI [a 0, a 1, a 2, a 3, a 4, a 5, a 6, a 7, a 8, a 9, a 10, a 11, a 12, a 13, a 14])) (fun r3 =>
 cond (!decide (r3 = 0)) (
 some ((nthI tab1, r3))) (
 Option.bind (f33 (nthI [b 0, b 1, b 2, b 3, b 4, b 5, b 6, b 7, b 8, b 9, b 10, b 11, b 12, b 13, b 14, b 15, b 16, b 17, b 18, b 19, b 20, b 21])) (fun r4 =>
 cond (!decide (r4 = 0)) (
 some ((nthI tab1, r4))) (
 cond (decide (c < 0)) (
 some ((nthI tab1, 1))) (
 cond (decide (3 < c)) (
 some ((nthI tab1, 1))) (
 Option.bind (f34 (IntKind.i64.wrap (a 8 * b 3)) 8) (fun r5 =>
 cond (decide (b 3 < 0)) (
 Option.bind (f34 (IntKind.i64.wrap (a 7 * b 3)) 8) (fun r6 =>
 Option.bind (f36 (a 1) (nthI [b 10, b 11, b 12]) (b 2)) (fun r7 =>
 Option.bind (f35 (nthI [b 0, b 1, IntKind.i64.wrap (a 0 + r6)]) (nthI [r7 0, r7 1, r7 2])) (fun r8 =>
 Option.bind (f36 (a 2) (nthI [b 19, b 20, b 21]) (b 2)) (fun r9 =>
 Option.bind (f35 (nthI [r8 0, r8 1, r8 2]) (nthI [r9 0, r9 1, r9 2])) (fun r10 =>
 Option.bind (f37 (a 4) (-1) (b 2)) (fun r11 =>
 Option.bind (f35 (nthI [b 0, b 1, IntKind.i64.wrap (a 0 + r6)]) (nthI [r11 0, r11 1, r11 2])) (fun r12 =>
 Option.bind (f37 (a 5) (-1) (b 2)) (fun r13 =>
 Option.bind (f35 (nthI [r8 0, r8 1, r8 2]) (nthI [r13 0, r13 1, r13 2])) (fun r14 =>
 Option.bind (f36 (a 3) (nthI [b 13, b 14, b 15]) (b 2)) (fun r15 =>
 Option.bind (f35 (nthI [r14 0, r14 1, r14 2]) (nthI [r15 0, r15 1, r15 2])) (fun r16 =>
 cond (!decide (bitsI BinOp.and IntKind.i64 c 1 = 0)) (
 Option.bind (f37 (a 4) 1 (b 2)) (fun r17 =>
 Option.bind (f35 (nthI [b 0, b 1, IntKind.i64.wrap (a 0 + r6)]) (nthI [r17 0, r17 1, r17 2])) (fun r18 =>
 Option.bind (f37 (a 5) 1 (b 2)) (fun r19 =>
 Option.bind (f35 (nthI [r8 0, r8 1, r8 2]) (nthI [r19 0, r19 1, r19 2])) (fun r20 =>
 Option.bind (f36 (a 3) (nthI [b 16, b 17, b 18]) (b 2)) (fun r21 =>
 Option.bind (f35 (nthI [r20 0, r20 1, r20 2]) (nthI [r21 0, r21 1, r21 2])) (fun r22 =>
 cond (!decide (bitsI BinOp.and IntKind.i64 c 2 = 0)) (
 some ((nthI [b 0, b 1, IntKind.i64.wrap (a 0 + r6), r8 0, r8 1, r8 2, r10 0, r10 1, r10 2, r12 0, r12 1, r12 2, r18 0, r18 1, r18 2, r14 0, r14 1, r14 2, r20 0, r20 1, r20 2, r16 0, r16 1, r16 2, r22 0, r22 1, r22 2, r12 0, r12 1, 0, r18 0, r18 1, 0], 0))) (
 Option.bind (f36 (a 0) (nthI [b 7, b 8, b 9]) (b 2)) (fun r23 =>
 Option.bind (f35 (nthI [r18 0, r18 1, r18 2]) (nthI [r23 0, r23 1, r23 2])) (fun r24 =>
 some ((nthI [b 0, b 1, IntKind.i64.wrap (a 0 + r6), r8 0, r8 1, r8 2, r10 0, r10 1, r10 2, r12 0, r12 1, r12 2, r18 0, r18 1, r18 2, r14 0, r14 1, r14 2, r20 0, r20 1, r20 2, r16 0, r16 1, r16 2, r22 0, r22 1, r22 2, r12 0, r12 1, 0, r24 0, r24 1, r24 2], 0)))))))))))) (
 Option.bind (f36 (a 0) (nthI [b 4, b 5, b 6]) (b 2)) (fun r17 =>
 Option.bind (f35 (nthI [r12 0, r12 1, r12 2]) (nthI [r17 0, r17 1, r17 2])) (fun r18 =>
 Option.bind (f37 (a 4) 1 (b 2)) (fun r19 =>
 Option.bind (f35 (nthI [b 0, b 1, IntKind.i64.wrap (a 0 + r6)]) (nthI [r19 0, r19 1, r19 2])) (fun r20 =>
 Option.bind (f37 (a 5) 1 (b 2)) (fun r21 =>
 Option.bind (f35 (nthI [r8 0, r8 1, r8 2]) (nthI [r21 0, r21 1, r21 2])) (fun r22 =>
 Option.bind (f36 (a 3) (nthI [b 16, b 17, b 18]) (b 2)) (fun r23 =>
 Option.bind (f35 (nthI [r22 0, r22 1, r22 2]) (nthI [r23 0, r23 1, r23 2])) (fun r24 =>
 cond (!decide (bitsI BinOp.and IntKind.i64 c 2 = 0)) (
 some ((nthI [b 0, b 1, IntKind.i64.wrap (a 0 + r6), r8 0, r8 1, r8 2, r10 0, r10 1, r10 2, r12 0, r12 1, r12 2, r20 0, r20 1, r20 2, r14 0, r14 1, r14 2, r22 0, r22 1, r22 2, r16 0, r16 1, r16 2, r24 0, r24 1, r24 2, r18 0, r18 1, r18 2, r20 0, r20 1, 0], 0))) (
 Option.bind (f36 (a 0) (nthI [b 7, b 8, b 9]) (b 2)) (fun r25 =>
 Option.bind (f35 (nthI [r20 0, r20 1, r20 2]) (nthI [r25 0, r25 1, r25 2])) (fun r26 =>
 some ((nthI [b 0, b 1, IntKind.i64.wrap (a 0 + r6), r8 0, r8 1, r8 2, r10 0, r10 1, r10 2, r12 0, r12 1, r12 2, r20 0, r20 1, r20 2, r14 0, r14 1, r14 2, r22 0, r22 1, r22 2, r16 0, r16 1, r16 2, r24 0, r24 1, r24 2, r18 0, r18 1, r18 2, r26 0, r26 1, r26 2], 0)))))))))))))))))))))))))) (
 Option.bind (f36 (a 1) (nthI [b 10, b 11, b 12]) (b 2)) (fun r6 =>
 Option.bind (f35 (nthI [b 0, b 1, IntKind.i64.wrap (a 0 + r5)]) (nthI [r6 0, r6 1, r6 2])) (fun r7 =>
 Option.bind (f36 (a 2) (nthI [b 19, b 20, b 21]) (b 2)) (fun r8 =>
 Option.bind (f35 (nthI [r7 0, r7 1, r7 2]) (nthI [r8 0, r8 1, r8 2])) (fun r9 =>
 Option.bind (f37 (a 4) (-1) (b 2)) (fun r10 =>
 Option.bind (f35 (nthI [b 0, b 1, IntKind.i64.wrap (a 0 + r5)]) (nthI [r10 0, r10 1, r10 2])) (fun r11 =>
 Option.bind (f37 (a 5) (-1) (b 2)) (fun r12 =>
 Option.bind (f35 (nthI [r7 0, r7 1, r7 2]) (nthI [r12 0, r12 1, r12 2])) (fun r13 =>
 Option.bind (f36 (a 3) (nthI [b 13, b 14, b 15]) (b 2)) (fun r14 =>
 Option.bind (f35 (nthI [r13 0, r13 1, r13 2]) (nthI [r14 0, r14 1, r14 2])) (fun r15 =>
 cond (!decide (bitsI BinOp.and IntKind.i64 c 1 = 0)) (
 Option.bind (f37 (a 4) 1 (b 2)) (fun r16 =>
 Option.bind (f35 (nthI [b 0, b 1, IntKind.i64.wrap (a 0 + r5)]) (nthI [r16 0, r16 1, r16 2])) (fun r17 =>
 Option.bind (f37 (a 5) 1 (b 2)) (fun r18 =>
 Option.bind (f35 (nthI [r7 0, r7 1, r7 2]) (nthI [r18 0, r18 1, r18 2])) (fun r19 =>
 Option.bind (f36 (a 3) (nthI [b 16, b 17, b 18]) (b 2)) (fun r20 =>
 Option.bind (f35 (nthI [r19 0, r19 1, r19 2]) (nthI [r20 0, r20 1, r20 2])) (fun r21 =>
 cond (!decide (bitsI BinOp.and IntKind.i64 c 2 = 0)) (
 some ((nthI [b 0, b 1, IntKind.i64.wrap (a 0 + r5), r7 0, r7 1, r7 2, r9 0, r9 1, r9 2, r11 0, r11 1, r11 2, r17 0, r17 1, r17 2, r13 0, r13 1, r13 2, r19 0, r19 1, r19 2, r15 0, r15 1, r15 2, r21 0, r21 1, r21 2, r11 0, r11 1, 0, r17 0, r17 1, 0], 0))) (
 Option.bind (f36 (a 0) (nthI [b 7, b 8, b 9]) (b 2)) (fun r22 =>
 Option.bind (f35 (nthI [r17 0, r17 1, r17 2]) (nthI [r22 0, r22 1, r22 2])) (fun r23 =>
 some ((nthI [b 0, b 1, IntKind.i64.wrap (a 0 + r5), r7 0, r7 1, r7 2, r9 0, r9 1, r9 2, r11 0, r11 1, r11 2, r17 0, r17 1, r17 2, r13 0, r13 1, r13 2, r19 0, r19 1, r19 2, r15 0, r15 1, r15 2, r21 0, r21 1, r21 2, r11 0, r11 1, 0, r23 0, r23 1, r23 2], 0)))))))))))) (
 Option.bind (f36 (a 0) (nthI [b 4, b 5, b 6]) (b 2)) (fun r16 =>
 Option.bind (f35 (nthI [r11 0, r11 1, r11 2]) (nthI [r16 0, r16 1, r16 2])) (fun r17 =>
 Option.bind (f37 (a 4) 1 (b 2)) (fun r18 =>
 Option.bind (f35 (nthI [b 0, b 1, IntKind.i64.wrap (a 0 + r5)]) (nthI [r18 0, r18 1, r18 2])) (fun r19 =>
 Option.bind (f37 (a 5) 1 (b 2)) (fun r20 =>
 Option.bind (f35 (nthI [r7 0, r7 1, r7 2]) (nthI [r20 0, r20 1, r20 2])) (fun r21 =>
 Option.bind (f36 (a 3) (nthI [b 16, b 17, b 18]) (b 2)) (fun r22 =>
 Option.bind (f35 (nthI [r21 0, r21 1, r21 2]) (nthI [r22 0, r22 1, r22 2])) (fun r23 =>
 cond (!decide (bitsI BinOp.and IntKind.i64 c 2 = 0)) (
 some ((nthI [b 0, b 1, IntKind.i64.wrap (a 0 + r5), r7 0, r7 1, r7 2, r9 0, r9 1, r9 2, r11 0, r11 1, r11 2, r19 0, r19 1, r19 2, r13 0, r13 1, r13 2, r21 0, r21 1, r21 2, r15 0, r15 1, r15 2, r23 0, r23 1, r23 2, r17 0, r17 1, r17 2, r19 0, r19 1, 0], 0))) (
 Option.bind (f36 (a 0) (nthI [b 7, b 8, b 9]) (b 2)) (fun r24 =>
 Option.bind (f35 (nthI [r19 0, r19 1, r19 2]) (nthI [r24 0, r24 1, r24 2])) (fun r25 =>
 some ((nthI [b 0, b 1, IntKind.i64.wrap (a 0 + r5), r7 0, r7 1, r7 2, r9 0, r9 1, r9 2, r11 0, r11 1, r11 2, r19 0, r19 1, r19 2, r13 0, r13 1, r13 2, r21 0, r21 1, r21 2, r15 0, r15 1, r15 2, r23 0, r23 1, r23 2, r17 0, r17 1, r17 2, r25 0, r25 1, r25 2], 0))))))))))))))))))))))))))))))))
theorem fg11 (a : Nat → Int) (b : Nat → Int) (c : Int) : g11 a b c = f11 a b c := by kernel_rfl
theorem ev11 (a : (cCons (cA .i64 15) (cCons (cA .i64 22) (cOne (cI .i64)))).T) : evF (R := (rTup (cCons (cA .i64 33) (cOne (cI .i64)))).T) (cx [(32, conF (cOne (cA .i64 15)) (rOne (cI .i64)) (fun a => f32 a)), (33, conF (cOne (cA .i64 22)) (rOne (cI .i64)) (fun a => f33 a)), (34, conF (cCons (cI .i64) (cOne (cI .i64))) (rOne (cI .i64)) (fun a => f34 a.1 a.2)), (35, conF (cCons (cA .i64 3) (cOne (cA .i64 3))) (rOne (cA .i64 3)) (fun a => f35 a.1 a.2)), (36, conF (cCons (cI .i64) (cCons (cA .i64 3) (cOne (cI .i64)))) (rOne (cA .i64 3)) (fun a => f36 a.1 a.2.1 a.2.2)), (37, conF (cCons (cI .i64) (cCons (cI .i64) (cOne (cI .i64)))) (rOne (cA .i64 3)) (fun a => f37 a.1 a.2.1 a.2.2))]) 1000 Tryd.f11 ((cCons (cA .i64 15) (cCons (cA .i64 22) (cOne (cI .i64)))).enc a) (glMem gl) gG (rTup (cCons (cA .i64 33) (cOne (cI .i64)))).dec = f11 a.1 a.2.1 a.2.2 := (show evF (R := (rTup (cCons (cA .i64 33) (cOne (cI .i64)))).T) (cx [(32, conF (cOne (cA .i64 15)) (rOne (cI .i64)) (fun a => f32 a)), (33, conF (cOne (cA .i64 22)) (rOne (cI .i64)) (fun a => f33 a)), (34, conF (cCons (cI .i64) (cOne (cI .i64))) (rOne (cI .i64)) (fun a => f34 a.1 a.2)), (35, conF (cCons (cA .i64 3) (cOne (cA .i64 3))) (rOne (cA .i64 3)) (fun a => f35 a.1 a.2)), (36, conF (cCons (cI .i64) (cCons (cA .i64 3) (cOne (cI .i64)))) (rOne (cA .i64 3)) (fun a => f36 a.1 a.2.1 a.2.2)), (37, conF (cCons (cI .i64) (cCons (cI .i64) (cOne (cI .i64)))) (rOne (cA .i64 3)) (fun a => f37 a.1 a.2.1 a.2.2))]) 1000 Tryd.f11 ((cCons (cA .i64 15) (cCons (cA .i64 22) (cOne (cI .i64)))).enc a) (glMem gl) gG (rTup (cCons (cA .i64 33) (cOne (cI .i64)))).dec = g11 a.1 a.2.1 a.2.2 from evg11 f32 f33 f34 f35 f36 f37 a).trans (fg11 a.1 a.2.1 a.2.2)
theorem sp11 : VE.Spec Tryd.prog gG gl 11 (conF (cCons (cA .i64 15) (cCons (cA .i64 22) (cOne (cI .i64)))) (rTup (cCons (cA .i64 33) (cOne (cI .i64)))) (fun a => f11 a.1 a.2.1 a.2.2)) := spec_of ok11 Tryd.func11 Tryd.call11 1000 (cCons_ok (cA_ok _ _) (cCons_ok (cA_ok _ _) (cOne_ok (cI_ok _)))) (rTup_ok (cCons_ok (cA_ok _ _) (cOne_ok (cI_ok _)))) ev11
noncomputable abbrev con11 : List (Nat × (List AV → Option ConR)) := [(32, conF (cOne (cA .i64 15)) (rOne (cI .i64)) (fun a => f32 a)), (33, conF (cOne (cA .i64 22)) (rOne (cI .i64)) (fun a => f33 a)), (34, conF (cCons (cI .i64) (cOne (cI .i64))) (rOne (cI .i64)) (fun a => f34 a.1 a.2)), (35, conF (cCons (cA .i64 3) (cOne (cA .i64 3))) (rOne (cA .i64 3)) (fun a => f35 a.1 a.2)), (36, conF (cCons (cI .i64) (cCons (cA .i64 3) (cOne (cI .i64)))) (rOne (cA .i64 3)) (fun a => f36 a.1 a.2.1 a.2.2)), (37, conF (cCons (cI .i64) (cCons (cI .i64) (cOne (cI .i64)))) (rOne (cA .i64 3)) (fun a => f37 a.1 a.2.1 a.2.2))]

/-- joints.Dist2 -/
noncomputable def f16 (a : Nat → Int) (b : Nat → Int) : Option (Int × Int) :=
 cond (decide (a 0 < -65536)) (
 some ((0, 1))) (
 cond (decide (65536 < a 0)) (
 some ((0, 1))) (
 cond (decide (a 1 < -65536)) (
 some ((0, 1))) (
 cond (decide (65536 < a 1)) (
 some ((0, 1))) (
 cond (decide (a 2 < -65536)) (
 some ((0, 1))) (
 cond (decide (65536 < a 2)) (
 some ((0, 1))) (
 cond (decide (b 0 < -65536)) (
 some ((0, 1))) (
 cond (decide (65536 < b 0)) (
 some ((0, 1))) (
 cond (decide (b 1 < -65536)) (
 some ((0, 1))) (
 cond (decide (65536 < b 1)) (
 some ((0, 1))) (
 cond (decide (b 2 < -65536)) (
 some ((0, 1))) (
 cond (decide (65536 < b 2)) (
 some ((0, 1))) (
 some ((IntKind.i64.wrap (IntKind.i64.wrap (IntKind.i64.wrap (0 + IntKind.i64.wrap (IntKind.i64.wrap (a 0 - b 0) * IntKind.i64.wrap (a 0 - b 0))) + IntKind.i64.wrap (IntKind.i64.wrap (a 1 - b 1) * IntKind.i64.wrap (a 1 - b 1))) + IntKind.i64.wrap (IntKind.i64.wrap (a 2 - b 2) * IntKind.i64.wrap (a 2 - b 2))), 0))))))))))))))
theorem evg16  (xx : (cCons (cA .i64 3) (cOne (cA .i64 3))).T) : evF (R := (rTup (cCons (cI .i64) (cOne (cI .i64)))).T) (cx []) 1000 Tryd.f16 ((cCons (cA .i64 3) (cOne (cA .i64 3))).enc xx) (glMem gl) gG (rTup (cCons (cI .i64) (cOne (cI .i64)))).dec =
 (fun (a : Nat → Int) (b : Nat → Int) =>
 (( cond (decide (a 0 < -65536)) (
 some ((0, 1))) (
 cond (decide (65536 < a 0)) (
 some ((0, 1))) (
 cond (decide (a 1 < -65536)) (
 some ((0, 1))) (
 cond (decide (65536 < a 1)) (
 some ((0, 1))) (
 cond (decide (a 2 < -65536)) (
 some ((0, 1))) (
 cond (decide (65536 < a 2)) (
 some ((0, 1))) (
 cond (decide (b 0 < -65536)) (
 some ((0, 1))) (
 cond (decide (65536 < b 0)) (
 some ((0, 1))) (
 cond (decide (b 1 < -65536)) (
 some ((0, 1))) (
 cond (decide (65536 < b 1)) (
 some ((0, 1))) (
 cond (decide (b 2 < -65536)) (
 some ((0, 1))) (
 cond (decide (65536 < b 2)) (
 some ((0, 1))) (
 some ((IntKind.i64.wrap (IntKind.i64.wrap (IntKind.i64.wrap (0 + IntKind.i64.wrap (IntKind.i64.wrap (a 0 - b 0) * IntKind.i64.wrap (a 0 - b 0))) + IntKind.i64.wrap (IntKind.i64.wrap (a 1 - b 1) * IntKind.i64.wrap (a 1 - b 1))) + IntKind.i64.wrap (IntKind.i64.wrap (a 2 - b 2) * IntKind.i64.wrap (a 2 - b 2))), 0))))))))))))))) : Option (Int × Int))) xx.1 xx.2 := by kernel_rfl
theorem ok16 : CtxOK Tryd.prog (cx []) gl := ctx_of tyOk moOk trivial fnOk
theorem ev16 (a : (cCons (cA .i64 3) (cOne (cA .i64 3))).T) : evF (R := (rTup (cCons (cI .i64) (cOne (cI .i64)))).T) (cx []) 1000 Tryd.f16 ((cCons (cA .i64 3) (cOne (cA .i64 3))).enc a) (glMem gl) gG (rTup (cCons (cI .i64) (cOne (cI .i64)))).dec = f16 a.1 a.2 := evg16  a
theorem sp16 : VE.Spec Tryd.prog gG gl 16 (conF (cCons (cA .i64 3) (cOne (cA .i64 3))) (rTup (cCons (cI .i64) (cOne (cI .i64)))) (fun a => f16 a.1 a.2)) := spec_of ok16 Tryd.func16 Tryd.call16 1000 (cCons_ok (cA_ok _ _) (cOne_ok (cA_ok _ _))) (rTup_ok (cCons_ok (cI_ok _) (cOne_ok (cI_ok _)))) ev16
noncomputable abbrev con16 : List (Nat × (List AV → Option ConR)) := []

/-- joints.End -/
noncomputable def f17 (a : Nat → Int) (b : Int) : Option ((Nat → Int) × Int) :=
 cond (decide (b < 0)) (
 some ((nthI [0, 0, 0], 9))) (
 cond (decide (6 ≤ b)) (
 some ((nthI [0, 0, 0], 9))) (
 cond (decide (0 ≤ b)) (
 cond (decide (b < 6)) (
 some ((nthI [[a 27, a 30, a 3, a 21, a 24, a 6].getD b.toNat 0, [a 28, a 31, a 4, a 22, a 25, a 7].getD b.toNat 0, [a 29, a 32, a 5, a 23, a 26, a 8].getD b.toNat 0], 0))) none) none))
theorem evg17  (xx : (cCons (cA .i64 33) (cOne (cI .i64))).T) : evF (R := (rTup (cCons (cA .i64 3) (cOne (cI .i64)))).T) (cx []) 1000 Tryd.f17 ((cCons (cA .i64 33) (cOne (cI .i64))).enc xx) (glMem gl) gG (rTup (cCons (cA .i64 3) (cOne (cI .i64)))).dec =
 (fun (a : Nat → Int) (b : Int) =>
 (( cond (decide (b < 0)) (
 some ((nthI [0, 0, 0], 9))) (
 cond (decide (6 ≤ b)) (
 some ((nthI [0, 0, 0], 9))) (
 cond (decide (0 ≤ b)) (
 cond (decide (b < 6)) (
 some ((nthI [[a 27, a 30, a 3, a 21, a 24, a 6].getD b.toNat 0, [a 28, a 31, a 4, a 22, a 25, a 7].getD b.toNat 0, [a 29, a 32, a 5, a 23, a 26, a 8].getD b.toNat 0], 0))) none) none))) : Option ((Nat → Int) × Int))) xx.1 xx.2 := by kernel_rfl
theorem ok17 : CtxOK Tryd.prog (cx []) gl := ctx_of tyOk moOk trivial fnOk
theorem ev17 (a : (cCons (cA .i64 33) (cOne (cI .i64))).T) : evF (R := (rTup (cCons (cA .i64 3) (cOne (cI .i64)))).T) (cx []) 1000 Tryd.f17 ((cCons (cA .i64 33) (cOne (cI .i64))).enc a) (glMem gl) gG (rTup (cCons (cA .i64 3) (cOne (cI .i64)))).dec = f17 a.1 a.2 := evg17  a
theorem sp17 : VE.Spec Tryd.prog gG gl 17 (conF (cCons (cA .i64 33) (cOne (cI .i64))) (rTup (cCons (cA .i64 3) (cOne (cI .i64)))) (fun a => f17 a.1 a.2)) := spec_of ok17 Tryd.func17 Tryd.call17 1000 (cCons_ok (cA_ok _ _) (cOne_ok (cI_ok _))) (rTup_ok (cCons_ok (cA_ok _ _) (cOne_ok (cI_ok _)))) ev17
noncomputable abbrev con17 : List (Nat × (List AV → Option ConR)) := []

/-- joints.Low -/
noncomputable def f19 (a : Nat → Int) : Option (Int) :=
 some (minI (minI (minI (minI (minI (a 29) (a 32)) (a 23)) (a 26)) (a 5)) (a 8))
theorem evg19  (xx : (cOne (cA .i64 33)).T) : evF (R := (rOne (cI .i64)).T) (cx []) 1000 Tryd.f19 ((cOne (cA .i64 33)).enc xx) (glMem gl) gG (rOne (cI .i64)).dec =
 (fun (a : Nat → Int) =>
 (( some (minI (minI (minI (minI (minI (a 29) (a 32)) (a 23)) (a 26)) (a 5)) (a 8))) : Option (Int))) xx := by kernel_rfl
theorem ok19 : CtxOK Tryd.prog (cx []) gl := ctx_of tyOk moOk trivial fnOk
theorem ev19 (a : (cOne (cA .i64 33)).T) : evF (R := (rOne (cI .i64)).T) (cx []) 1000 Tryd.f19 ((cOne (cA .i64 33)).enc a) (glMem gl) gG (rOne (cI .i64)).dec = f19 a := evg19  a
theorem sp19 : VE.Spec Tryd.prog gG gl 19 (conF (cOne (cA .i64 33)) (rOne (cI .i64)) (fun a => f19 a)) := spec_of ok19 Tryd.func19 Tryd.call19 1000 (cOne_ok (cA_ok _ _)) (rOne_ok (cI_ok _)) ev19
noncomputable abbrev con19 : List (Nat × (List AV → Option ConR)) := []

/-- dancestudiolaw20.body -/
noncomputable def f38  : Option ((Nat → Int)) :=
 some (nthI tab2)
theorem evg38  (xx : (cNil).T) : evF (R := (rOne (cA .i64 15)).T) (cx []) 1000 Tryd.f38 ((cNil).enc xx) (glMem gl) gG (rOne (cA .i64 15)).dec =
 (( some (nthI tab2)) : Option ((Nat → Int))) := by kernel_rfl
theorem ok38 : CtxOK Tryd.prog (cx []) gl := ctx_of tyOk moOk trivial fnOk
theorem ev38 (a : (cNil).T) : evF (R := (rOne (cA .i64 15)).T) (cx []) 1000 Tryd.f38 ((cNil).enc a) (glMem gl) gG (rOne (cA .i64 15)).dec = f38 := evg38  a
theorem sp38 : VE.Spec Tryd.prog gG gl 38 (conF (cNil) (rOne (cA .i64 15)) (fun a => f38)) := spec_of ok38 Tryd.func38 Tryd.call38 1000 (cNil_ok) (rOne_ok (cA_ok _ _)) ev38
noncomputable abbrev con38 : List (Nat × (List AV → Option ConR)) := []

/-- dancestudiolaw20.straight -/
noncomputable def f39  : Option ((Nat → Int)) :=
 some (nthI tab3)
theorem evg39  (xx : (cNil).T) : evF (R := (rOne (cA .i64 22)).T) (cx []) 1000 Tryd.f39 ((cNil).enc xx) (glMem gl) gG (rOne (cA .i64 22)).dec =
 (( some (nthI tab3)) : Option ((Nat → Int))) := by kernel_rfl
theorem ok39 : CtxOK Tryd.prog (cx []) gl := ctx_of tyOk moOk trivial fnOk
theorem ev39 (a : (cNil).T) : evF (R := (rOne (cA .i64 22)).T) (cx []) 1000 Tryd.f39 ((cNil).enc a) (glMem gl) gG (rOne (cA .i64 22)).dec = f39 := evg39  a
theorem sp39 : VE.Spec Tryd.prog gG gl 39 (conF (cNil) (rOne (cA .i64 22)) (fun a => f39)) := spec_of ok39 Tryd.func39 Tryd.call39 1000 (cNil_ok) (rOne_ok (cA_ok _ _)) ev39
noncomputable abbrev con39 : List (Nat × (List AV → Option ConR)) := []

/-- dancestudiolaw20.vec -/
noncomputable def f40 (a : Int) (b : Int) (c : Int) : Option ((Nat → Int)) :=
 some (nthI [a, b, c])
theorem evg40  (xx : (cCons (cI .i64) (cCons (cI .i64) (cOne (cI .i64)))).T) : evF (R := (rOne (cA .i64 3)).T) (cx []) 1000 Tryd.f40 ((cCons (cI .i64) (cCons (cI .i64) (cOne (cI .i64)))).enc xx) (glMem gl) gG (rOne (cA .i64 3)).dec =
 (fun (a : Int) (b : Int) (c : Int) =>
 (( some (nthI [a, b, c])) : Option ((Nat → Int)))) xx.1 xx.2.1 xx.2.2 := by kernel_rfl
theorem ok40 : CtxOK Tryd.prog (cx []) gl := ctx_of tyOk moOk trivial fnOk
theorem ev40 (a : (cCons (cI .i64) (cCons (cI .i64) (cOne (cI .i64)))).T) : evF (R := (rOne (cA .i64 3)).T) (cx []) 1000 Tryd.f40 ((cCons (cI .i64) (cCons (cI .i64) (cOne (cI .i64)))).enc a) (glMem gl) gG (rOne (cA .i64 3)).dec = f40 a.1 a.2.1 a.2.2 := evg40  a
theorem sp40 : VE.Spec Tryd.prog gG gl 40 (conF (cCons (cI .i64) (cCons (cI .i64) (cOne (cI .i64)))) (rOne (cA .i64 3)) (fun a => f40 a.1 a.2.1 a.2.2)) := spec_of ok40 Tryd.func40 Tryd.call40 1000 (cCons_ok (cI_ok _) (cCons_ok (cI_ok _) (cOne_ok (cI_ok _)))) (rOne_ok (cA_ok _ _)) ev40
noncomputable abbrev con40 : List (Nat × (List AV → Option ConR)) := []

/-- dancestudiolaw20.awake -/
noncomputable def f12  : Option (Bool) :=
 some (true)
theorem evg12  (xx : (cNil).T) : evF (R := (rOne (cB)).T) (cx [(10, conF (cCons (cA .i64 15) (cCons (cA .i64 22) (cOne (cI .i64)))) (rTup (cCons (cA .i64 33) (cOne (cI .i64)))) (fun a => f10 a.1 a.2.1 a.2.2)), (16, conF (cCons (cA .i64 3) (cOne (cA .i64 3))) (rTup (cCons (cI .i64) (cOne (cI .i64)))) (fun a => f16 a.1 a.2)), (17, conF (cCons (cA .i64 33) (cOne (cI .i64))) (rTup (cCons (cA .i64 3) (cOne (cI .i64)))) (fun a => f17 a.1 a.2)), (19, conF (cOne (cA .i64 33)) (rOne (cI .i64)) (fun a => f19 a)), (38, conF (cNil) (rOne (cA .i64 15)) (fun a => f38)), (39, conF (cNil) (rOne (cA .i64 22)) (fun a => f39)), (40, conF (cCons (cI .i64) (cCons (cI .i64) (cOne (cI .i64)))) (rOne (cA .i64 3)) (fun a => f40 a.1 a.2.1 a.2.2))]) 1000 Tryd.f12 ((cNil).enc xx) (glMem gl) gG (rOne (cB)).dec =
 (( some (true)) : Option (Bool)) := by kernel_rfl
theorem ok12 : CtxOK Tryd.prog (cx [(10, conF (cCons (cA .i64 15) (cCons (cA .i64 22) (cOne (cI .i64)))) (rTup (cCons (cA .i64 33) (cOne (cI .i64)))) (fun a => f10 a.1 a.2.1 a.2.2)), (16, conF (cCons (cA .i64 3) (cOne (cA .i64 3))) (rTup (cCons (cI .i64) (cOne (cI .i64)))) (fun a => f16 a.1 a.2)), (17, conF (cCons (cA .i64 33) (cOne (cI .i64))) (rTup (cCons (cA .i64 3) (cOne (cI .i64)))) (fun a => f17 a.1 a.2)), (19, conF (cOne (cA .i64 33)) (rOne (cI .i64)) (fun a => f19 a)), (38, conF (cNil) (rOne (cA .i64 15)) (fun a => f38)), (39, conF (cNil) (rOne (cA .i64 22)) (fun a => f39)), (40, conF (cCons (cI .i64) (cCons (cI .i64) (cOne (cI .i64)))) (rOne (cA .i64 3)) (fun a => f40 a.1 a.2.1 a.2.2))]) gl := ctx_of tyOk moOk (show SpecL Tryd.prog gG gl [(10, conF (cCons (cA .i64 15) (cCons (cA .i64 22) (cOne (cI .i64)))) (rTup (cCons (cA .i64 33) (cOne (cI .i64)))) (fun a => f10 a.1 a.2.1 a.2.2)), (16, conF (cCons (cA .i64 3) (cOne (cA .i64 3))) (rTup (cCons (cI .i64) (cOne (cI .i64)))) (fun a => f16 a.1 a.2)), (17, conF (cCons (cA .i64 33) (cOne (cI .i64))) (rTup (cCons (cA .i64 3) (cOne (cI .i64)))) (fun a => f17 a.1 a.2)), (19, conF (cOne (cA .i64 33)) (rOne (cI .i64)) (fun a => f19 a)), (38, conF (cNil) (rOne (cA .i64 15)) (fun a => f38)), (39, conF (cNil) (rOne (cA .i64 22)) (fun a => f39)), (40, conF (cCons (cI .i64) (cCons (cI .i64) (cOne (cI .i64)))) (rOne (cA .i64 3)) (fun a => f40 a.1 a.2.1 a.2.2))] from ⟨sp10, sp16, sp17, sp19, sp38, sp39, sp40, trivial⟩) fnOk
theorem ev12 (a : (cNil).T) : evF (R := (rOne (cB)).T) (cx [(10, conF (cCons (cA .i64 15) (cCons (cA .i64 22) (cOne (cI .i64)))) (rTup (cCons (cA .i64 33) (cOne (cI .i64)))) (fun a => f10 a.1 a.2.1 a.2.2)), (16, conF (cCons (cA .i64 3) (cOne (cA .i64 3))) (rTup (cCons (cI .i64) (cOne (cI .i64)))) (fun a => f16 a.1 a.2)), (17, conF (cCons (cA .i64 33) (cOne (cI .i64))) (rTup (cCons (cA .i64 3) (cOne (cI .i64)))) (fun a => f17 a.1 a.2)), (19, conF (cOne (cA .i64 33)) (rOne (cI .i64)) (fun a => f19 a)), (38, conF (cNil) (rOne (cA .i64 15)) (fun a => f38)), (39, conF (cNil) (rOne (cA .i64 22)) (fun a => f39)), (40, conF (cCons (cI .i64) (cCons (cI .i64) (cOne (cI .i64)))) (rOne (cA .i64 3)) (fun a => f40 a.1 a.2.1 a.2.2))]) 1000 Tryd.f12 ((cNil).enc a) (glMem gl) gG (rOne (cB)).dec = f12 := evg12  a
theorem sp12 : VE.Spec Tryd.prog gG gl 12 (conF (cNil) (rOne (cB)) (fun a => f12)) := spec_of ok12 Tryd.func12 Tryd.call12 1000 (cNil_ok) (rOne_ok (cB_ok)) ev12
noncomputable abbrev con12 : List (Nat × (List AV → Option ConR)) := [(10, conF (cCons (cA .i64 15) (cCons (cA .i64 22) (cOne (cI .i64)))) (rTup (cCons (cA .i64 33) (cOne (cI .i64)))) (fun a => f10 a.1 a.2.1 a.2.2)), (16, conF (cCons (cA .i64 3) (cOne (cA .i64 3))) (rTup (cCons (cI .i64) (cOne (cI .i64)))) (fun a => f16 a.1 a.2)), (17, conF (cCons (cA .i64 33) (cOne (cI .i64))) (rTup (cCons (cA .i64 3) (cOne (cI .i64)))) (fun a => f17 a.1 a.2)), (19, conF (cOne (cA .i64 33)) (rOne (cI .i64)) (fun a => f19 a)), (38, conF (cNil) (rOne (cA .i64 15)) (fun a => f38)), (39, conF (cNil) (rOne (cA .i64 22)) (fun a => f39)), (40, conF (cCons (cI .i64) (cCons (cI .i64) (cOne (cI .i64)))) (rOne (cA .i64 3)) (fun a => f40 a.1 a.2.1 a.2.2))]

/-- dancestudiolaw20.JointsOf -/
noncomputable def f3 (a : Nat → Int) (b : Nat → Int) (c : Int) : Option (Bool) :=
 Option.bind (f10 a b c) (fun r3 =>
 Option.bind (f11 a b c) (fun r4 =>
 cond (decide (r3.fst 0 = r4.fst 0) && (decide (r3.fst 1 = r4.fst 1) && decide (r3.fst 2 = r4.fst 2)) && (decide (r3.fst 3 = r4.fst 3) && (decide (r3.fst 4 = r4.fst 4) && decide (r3.fst 5 = r4.fst 5)) && (decide (r3.fst 6 = r4.fst 6) && (decide (r3.fst 7 = r4.fst 7) && decide (r3.fst 8 = r4.fst 8)) && (decide (r3.fst 9 = r4.fst 9) && (decide (r3.fst 10 = r4.fst 10) && decide (r3.fst 11 = r4.fst 11)) && (decide (r3.fst 12 = r4.fst 12) && (decide (r3.fst 13 = r4.fst 13) && decide (r3.fst 14 = r4.fst 14))) && (decide (r3.fst 15 = r4.fst 15) && (decide (r3.fst 16 = r4.fst 16) && decide (r3.fst 17 = r4.fst 17)) && (decide (r3.fst 18 = r4.fst 18) && (decide (r3.fst 19 = r4.fst 19) && decide (r3.fst 20 = r4.fst 20))) && (decide (r3.fst 21 = r4.fst 21) && (decide (r3.fst 22 = r4.fst 22) && decide (r3.fst 23 = r4.fst 23)) && (decide (r3.fst 24 = r4.fst 24) && (decide (r3.fst 25 = r4.fst 25) && decide (r3.fst 26 = r4.fst 26))) && (decide (r3.fst 27 = r4.fst 27) && (decide (r3.fst 28 = r4.fst 28) && decide (r3.fst 29 = r4.fst 29)) && (decide (r3.fst 30 = r4.fst 30) && (decide (r3.fst 31 = r4.fst 31) && decide (r3.fst 32 = r4.fst 32)))))))))) (
 cond (decide (r3.snd = r4.snd)) (
 some (true)) (
 some (false))) (
 some (false))))
theorem evg3 (f10 : (Nat → Int) → (Nat → Int) → (Int) → Option ((Nat → Int) × Int)) (f11 : (Nat → Int) → (Nat → Int) → (Int) → Option ((Nat → Int) × Int)) (xx : (cCons (cA .i64 15) (cCons (cA .i64 22) (cOne (cI .i64)))).T) : evF (R := (rOne (cB)).T) (cx [(10, conF (cCons (cA .i64 15) (cCons (cA .i64 22) (cOne (cI .i64)))) (rTup (cCons (cA .i64 33) (cOne (cI .i64)))) (fun a => f10 a.1 a.2.1 a.2.2)), (11, conF (cCons (cA .i64 15) (cCons (cA .i64 22) (cOne (cI .i64)))) (rTup (cCons (cA .i64 33) (cOne (cI .i64)))) (fun a => f11 a.1 a.2.1 a.2.2)), (12, conF (cNil) (rOne (cB)) (fun a => f12))]) 1000 Tryd.f3 ((cCons (cA .i64 15) (cCons (cA .i64 22) (cOne (cI .i64)))).enc xx) (glMem gl) gG (rOne (cB)).dec =
 (fun (a : Nat → Int) (b : Nat → Int) (c : Int) =>
 (( Option.bind (f10 (nthI [a 0, a 1, a 2, a 3, a 4, a 5, a 6, a 7, a 8, a 9, a 10, a 11, a 12, a 13, a 14]) (nthI [b 0, b 1, b 2, b 3, b 4, b 5, b 6, b 7, b 8, b 9, b 10, b 11, b 12, b 13, b 14, b 15, b 16, b 17, b 18, b 19, b 20, b 21]) c) (fun r3 =>
 Option.bind (f11 (nthI [a 0, a 1, a 2, a 3, a 4, a 5, a 6, a 7, a 8, a 9, a 10, a 11, a 12, a 13, a 14]) (nthI [b 0, b 1, b 2, b 3, b 4, b 5, b 6, b 7, b 8, b 9, b 10, b 11, b 12, b 13, b 14, b 15, b 16, b 17, b 18, b 19, b 20, b 21]) c) (fun r4 =>
 cond (decide (r3.fst 0 = r4.fst 0) && (decide (r3.fst 1 = r4.fst 1) && decide (r3.fst 2 = r4.fst 2)) && (decide (r3.fst 3 = r4.fst 3) && (decide (r3.fst 4 = r4.fst 4) && decide (r3.fst 5 = r4.fst 5)) && (decide (r3.fst 6 = r4.fst 6) && (decide (r3.fst 7 = r4.fst 7) && decide (r3.fst 8 = r4.fst 8)) && (decide (r3.fst 9 = r4.fst 9) && (decide (r3.fst 10 = r4.fst 10) && decide (r3.fst 11 = r4.fst 11)) && (decide (r3.fst 12 = r4.fst 12) && (decide (r3.fst 13 = r4.fst 13) && decide (r3.fst 14 = r4.fst 14))) && (decide (r3.fst 15 = r4.fst 15) && (decide (r3.fst 16 = r4.fst 16) && decide (r3.fst 17 = r4.fst 17)) && (decide (r3.fst 18 = r4.fst 18) && (decide (r3.fst 19 = r4.fst 19) && decide (r3.fst 20 = r4.fst 20))) && (decide (r3.fst 21 = r4.fst 21) && (decide (r3.fst 22 = r4.fst 22) && decide (r3.fst 23 = r4.fst 23)) && (decide (r3.fst 24 = r4.fst 24) && (decide (r3.fst 25 = r4.fst 25) && decide (r3.fst 26 = r4.fst 26))) && (decide (r3.fst 27 = r4.fst 27) && (decide (r3.fst 28 = r4.fst 28) && decide (r3.fst 29 = r4.fst 29)) && (decide (r3.fst 30 = r4.fst 30) && (decide (r3.fst 31 = r4.fst 31) && decide (r3.fst 32 = r4.fst 32)))))))))) (
 cond (decide (r3.snd = r4.snd)) (
 some (true)) (
 some (false))) (
 some (false))))) : Option (Bool))) xx.1 xx.2.1 xx.2.2 := by kernel_rfl
theorem ok3 : CtxOK Tryd.prog (cx [(10, conF (cCons (cA .i64 15) (cCons (cA .i64 22) (cOne (cI .i64)))) (rTup (cCons (cA .i64 33) (cOne (cI .i64)))) (fun a => f10 a.1 a.2.1 a.2.2)), (11, conF (cCons (cA .i64 15) (cCons (cA .i64 22) (cOne (cI .i64)))) (rTup (cCons (cA .i64 33) (cOne (cI .i64)))) (fun a => f11 a.1 a.2.1 a.2.2)), (12, conF (cNil) (rOne (cB)) (fun a => f12))]) gl := ctx_of tyOk moOk (show SpecL Tryd.prog gG gl [(10, conF (cCons (cA .i64 15) (cCons (cA .i64 22) (cOne (cI .i64)))) (rTup (cCons (cA .i64 33) (cOne (cI .i64)))) (fun a => f10 a.1 a.2.1 a.2.2)), (11, conF (cCons (cA .i64 15) (cCons (cA .i64 22) (cOne (cI .i64)))) (rTup (cCons (cA .i64 33) (cOne (cI .i64)))) (fun a => f11 a.1 a.2.1 a.2.2)), (12, conF (cNil) (rOne (cB)) (fun a => f12))] from ⟨sp10, sp11, sp12, trivial⟩) fnOk
noncomputable def g3 (a : Nat → Int) (b : Nat → Int) (c : Int) : Option (Bool) :=
 Option.bind (f10 (nthI [a 0, a 1, a 2, a 3, a 4, a 5, a 6, a 7, a 8, a 9, a 10, a 11, a 12, a 13, a 14]) (nthI [b 0, b 1, b 2, b 3, b 4, b 5, b 6, b 7, b 8, b 9, b 10, b 11, b 12, b 13, b 14, b 15, b 16, b 17, b 18, b 19, b 20, b 21]) c) (fun r3 =>
 Option.bind (f11 (nthI [a 0, a 1, a 2, a 3, a 4, a 5, a 6, a 7, a 8, a 9, a 10, a 11, a 12, a 13, a 14]) (nthI [b 0, b 1, b 2, b 3, b 4, b 5, b 6, b 7, b 8, b 9, b 10, b 11, b 12, b 13, b 14, b 15, b 16, b 17, b 18, b 19, b 20, b 21]) c) (fun r4 =>
 cond (decide (r3.fst 0 = r4.fst 0) && (decide (r3.fst 1 = r4.fst 1) && decide (r3.fst 2 = r4.fst 2)) && (decide (r3.fst 3 = r4.fst 3) && (decide (r3.fst 4 = r4.fst 4) && decide (r3.fst 5 = r4.fst 5)) && (decide (r3.fst 6 = r4.fst 6) && (decide (r3.fst 7 = r4.fst 7) && decide (r3.fst 8 = r4.fst 8)) && (decide (r3.fst 9 = r4.fst 9) && (decide (r3.fst 10 = r4.fst 10) && decide (r3.fst 11 = r4.fst 11)) && (decide (r3.fst 12 = r4.fst 12) && (decide (r3.fst 13 = r4.fst 13) && decide (r3.fst 14 = r4.fst 14))) && (decide (r3.fst 15 = r4.fst 15) && (decide (r3.fst 16 = r4.fst 16) && decide (r3.fst 17 = r4.fst 17)) && (decide (r3.fst 18 = r4.fst 18) && (decide (r3.fst 19 = r4.fst 19) && decide (r3.fst 20 = r4.fst 20))) && (decide (r3.fst 21 = r4.fst 21) && (decide (r3.fst 22 = r4.fst 22) && decide (r3.fst 23 = r4.fst 23)) && (decide (r3.fst 24 = r4.fst 24) && (decide (r3.fst 25 = r4.fst 25) && decide (r3.fst 26 = r4.fst 26))) && (decide (r3.fst 27 = r4.fst 27) && (decide (r3.fst 28 = r4.fst 28) && decide (r3.fst 29 = r4.fst 29)) && (decide (r3.fst 30 = r4.fst 30) && (decide (r3.fst 31 = r4.fst 31) && decide (r3.fst 32 = r4.fst 32)))))))))) (
 cond (decide (r3.snd = r4.snd)) (
 some (true)) (
 some (false))) (
 some (false))))
theorem fg3 (a : Nat → Int) (b : Nat → Int) (c : Int) : g3 a b c = f3 a b c := by kernel_rfl
theorem ev3 (a : (cCons (cA .i64 15) (cCons (cA .i64 22) (cOne (cI .i64)))).T) : evF (R := (rOne (cB)).T) (cx [(10, conF (cCons (cA .i64 15) (cCons (cA .i64 22) (cOne (cI .i64)))) (rTup (cCons (cA .i64 33) (cOne (cI .i64)))) (fun a => f10 a.1 a.2.1 a.2.2)), (11, conF (cCons (cA .i64 15) (cCons (cA .i64 22) (cOne (cI .i64)))) (rTup (cCons (cA .i64 33) (cOne (cI .i64)))) (fun a => f11 a.1 a.2.1 a.2.2)), (12, conF (cNil) (rOne (cB)) (fun a => f12))]) 1000 Tryd.f3 ((cCons (cA .i64 15) (cCons (cA .i64 22) (cOne (cI .i64)))).enc a) (glMem gl) gG (rOne (cB)).dec = f3 a.1 a.2.1 a.2.2 := (show evF (R := (rOne (cB)).T) (cx [(10, conF (cCons (cA .i64 15) (cCons (cA .i64 22) (cOne (cI .i64)))) (rTup (cCons (cA .i64 33) (cOne (cI .i64)))) (fun a => f10 a.1 a.2.1 a.2.2)), (11, conF (cCons (cA .i64 15) (cCons (cA .i64 22) (cOne (cI .i64)))) (rTup (cCons (cA .i64 33) (cOne (cI .i64)))) (fun a => f11 a.1 a.2.1 a.2.2)), (12, conF (cNil) (rOne (cB)) (fun a => f12))]) 1000 Tryd.f3 ((cCons (cA .i64 15) (cCons (cA .i64 22) (cOne (cI .i64)))).enc a) (glMem gl) gG (rOne (cB)).dec = g3 a.1 a.2.1 a.2.2 from evg3 f10 f11 a).trans (fg3 a.1 a.2.1 a.2.2)
theorem sp3 : VE.Spec Tryd.prog gG gl 3 (conF (cCons (cA .i64 15) (cCons (cA .i64 22) (cOne (cI .i64)))) (rOne (cB)) (fun a => f3 a.1 a.2.1 a.2.2)) := spec_of ok3 Tryd.func3 Tryd.call3 1000 (cCons_ok (cA_ok _ _) (cCons_ok (cA_ok _ _) (cOne_ok (cI_ok _)))) (rOne_ok (cB_ok)) ev3
noncomputable abbrev con3 : List (Nat × (List AV → Option ConR)) := [(10, conF (cCons (cA .i64 15) (cCons (cA .i64 22) (cOne (cI .i64)))) (rTup (cCons (cA .i64 33) (cOne (cI .i64)))) (fun a => f10 a.1 a.2.1 a.2.2)), (11, conF (cCons (cA .i64 15) (cCons (cA .i64 22) (cOne (cI .i64)))) (rTup (cCons (cA .i64 33) (cOne (cI .i64)))) (fun a => f11 a.1 a.2.1 a.2.2)), (12, conF (cNil) (rOne (cB)) (fun a => f12))]

/-- dancestudiolaw20.less -/
noncomputable def f13 (a : Nat → Int) (b : Nat → Int) : Option ((Nat → Int)) :=
 some (nthI [IntKind.i64.wrap (a 0 - b 0), IntKind.i64.wrap (a 1 - b 1), IntKind.i64.wrap (a 2 - b 2)])
theorem evg13  (xx : (cCons (cA .i64 3) (cOne (cA .i64 3))).T) : evF (R := (rOne (cA .i64 3)).T) (cx []) 1000 Tryd.f13 ((cCons (cA .i64 3) (cOne (cA .i64 3))).enc xx) (glMem gl) gG (rOne (cA .i64 3)).dec =
 (fun (a : Nat → Int) (b : Nat → Int) =>
 (( some (nthI [IntKind.i64.wrap (a 0 - b 0), IntKind.i64.wrap (a 1 - b 1), IntKind.i64.wrap (a 2 - b 2)])) : Option ((Nat → Int)))) xx.1 xx.2 := by kernel_rfl
theorem ok13 : CtxOK Tryd.prog (cx []) gl := ctx_of tyOk moOk trivial fnOk
theorem ev13 (a : (cCons (cA .i64 3) (cOne (cA .i64 3))).T) : evF (R := (rOne (cA .i64 3)).T) (cx []) 1000 Tryd.f13 ((cCons (cA .i64 3) (cOne (cA .i64 3))).enc a) (glMem gl) gG (rOne (cA .i64 3)).dec = f13 a.1 a.2 := evg13  a
theorem sp13 : VE.Spec Tryd.prog gG gl 13 (conF (cCons (cA .i64 3) (cOne (cA .i64 3))) (rOne (cA .i64 3)) (fun a => f13 a.1 a.2)) := spec_of ok13 Tryd.func13 Tryd.call13 1000 (cCons_ok (cA_ok _ _) (cOne_ok (cA_ok _ _))) (rOne_ok (cA_ok _ _)) ev13
noncomputable abbrev con13 : List (Nat × (List AV → Option ConR)) := []

/-- dancestudiolaw20.JointsMoved -/
noncomputable def f4 (a : Nat → Int) (b : Nat → Int) (c : Int) (d : Nat → Int) : Option (Bool) :=
 Option.bind (f10 a b (IntKind.i64.wrap (c.tmod 4))) (fun r4 =>
 Option.bind (f10 a (nthI [d 0, d 1, b 2, b 3, b 4, b 5, b 6, b 7, b 8, b 9, b 10, b 11, b 12, b 13, b 14, b 15, b 16, b 17, b 18, b 19, b 20, b 21]) (IntKind.i64.wrap (c.tmod 4))) (fun r5 =>
 cond (!decide (r4.snd = 0)) (
 some (true)) (
 cond (!decide (r5.snd = 0)) (
 some (true)) (
 Option.bind (f13 r5.fst r4.fst) (fun r6 =>
 cond (!(decide (r6 0 = IntKind.i64.wrap (d 0 - b 0)) && (decide (r6 1 = IntKind.i64.wrap (d 1 - b 1)) && decide (r6 2 = 0)))) (
 some (false)) (
 Option.bind (f13 (nthI [r5.fst 3, r5.fst 4, r5.fst 5]) (nthI [r4.fst 3, r4.fst 4, r4.fst 5])) (fun r7 =>
 cond (!(decide (r7 0 = IntKind.i64.wrap (d 0 - b 0)) && (decide (r7 1 = IntKind.i64.wrap (d 1 - b 1)) && decide (r7 2 = 0)))) (
 some (false)) (
 Option.bind (f13 (nthI [r5.fst 6, r5.fst 7, r5.fst 8]) (nthI [r4.fst 6, r4.fst 7, r4.fst 8])) (fun r8 =>
 cond (!(decide (r8 0 = IntKind.i64.wrap (d 0 - b 0)) && (decide (r8 1 = IntKind.i64.wrap (d 1 - b 1)) && decide (r8 2 = 0)))) (
 some (false)) (
 Option.bind (f13 (nthI [r5.fst 9, r5.fst 10, r5.fst 11]) (nthI [r4.fst 9, r4.fst 10, r4.fst 11])) (fun r9 =>
 cond (!(decide (r9 0 = IntKind.i64.wrap (d 0 - b 0)) && (decide (r9 1 = IntKind.i64.wrap (d 1 - b 1)) && decide (r9 2 = 0)))) (
 some (false)) (
 Option.bind (f13 (nthI [r5.fst 27, r5.fst 28, r5.fst 29]) (nthI [r4.fst 27, r4.fst 28, r4.fst 29])) (fun r10 =>
 cond (!(decide (r10 0 = IntKind.i64.wrap (d 0 - b 0)) && (decide (r10 1 = IntKind.i64.wrap (d 1 - b 1)) && decide (r10 2 = 0)))) (
 some (false)) (
 Option.bind (f13 (nthI [r5.fst 15, r5.fst 16, r5.fst 17]) (nthI [r4.fst 15, r4.fst 16, r4.fst 17])) (fun r11 =>
 cond (!(decide (r11 0 = IntKind.i64.wrap (d 0 - b 0)) && (decide (r11 1 = IntKind.i64.wrap (d 1 - b 1)) && decide (r11 2 = 0)))) (
 some (false)) (
 Option.bind (f13 (nthI [r5.fst 21, r5.fst 22, r5.fst 23]) (nthI [r4.fst 21, r4.fst 22, r4.fst 23])) (fun r12 =>
 cond (!(decide (r12 0 = IntKind.i64.wrap (d 0 - b 0)) && (decide (r12 1 = IntKind.i64.wrap (d 1 - b 1)) && decide (r12 2 = 0)))) (
 some (false)) (
 Option.bind (f13 (nthI [r5.fst 12, r5.fst 13, r5.fst 14]) (nthI [r4.fst 12, r4.fst 13, r4.fst 14])) (fun r13 =>
 cond (!(decide (r13 0 = IntKind.i64.wrap (d 0 - b 0)) && (decide (r13 1 = IntKind.i64.wrap (d 1 - b 1)) && decide (r13 2 = 0)))) (
 some (false)) (
 Option.bind (f13 (nthI [r5.fst 30, r5.fst 31, r5.fst 32]) (nthI [r4.fst 30, r4.fst 31, r4.fst 32])) (fun r14 =>
 cond (!(decide (r14 0 = IntKind.i64.wrap (d 0 - b 0)) && (decide (r14 1 = IntKind.i64.wrap (d 1 - b 1)) && decide (r14 2 = 0)))) (
 some (false)) (
 Option.bind (f13 (nthI [r5.fst 18, r5.fst 19, r5.fst 20]) (nthI [r4.fst 18, r4.fst 19, r4.fst 20])) (fun r15 =>
 cond (!(decide (r15 0 = IntKind.i64.wrap (d 0 - b 0)) && (decide (r15 1 = IntKind.i64.wrap (d 1 - b 1)) && decide (r15 2 = 0)))) (
 some (false)) (
 Option.bind (f13 (nthI [r5.fst 24, r5.fst 25, r5.fst 26]) (nthI [r4.fst 24, r4.fst 25, r4.fst 26])) (fun r16 =>
 cond (!(decide (r16 0 = IntKind.i64.wrap (d 0 - b 0)) && (decide (r16 1 = IntKind.i64.wrap (d 1 - b 1)) && decide (r16 2 = 0)))) (
 some (false)) (
 some (true)))))))))))))))))))))))))))
theorem evg4 (f10 : (Nat → Int) → (Nat → Int) → (Int) → Option ((Nat → Int) × Int)) (f13 : (Nat → Int) → (Nat → Int) → Option ((Nat → Int))) (xx : (cCons (cA .i64 15) (cCons (cA .i64 22) (cCons (cI .u8) (cOne (cA .i64 2))))).T) : evF (R := (rOne (cB)).T) (cx [(10, conF (cCons (cA .i64 15) (cCons (cA .i64 22) (cOne (cI .i64)))) (rTup (cCons (cA .i64 33) (cOne (cI .i64)))) (fun a => f10 a.1 a.2.1 a.2.2)), (12, conF (cNil) (rOne (cB)) (fun a => f12)), (13, conF (cCons (cA .i64 3) (cOne (cA .i64 3))) (rOne (cA .i64 3)) (fun a => f13 a.1 a.2))]) 1000 Tryd.f4 ((cCons (cA .i64 15) (cCons (cA .i64 22) (cCons (cI .u8) (cOne (cA .i64 2))))).enc xx) (glMem gl) gG (rOne (cB)).dec =
 (fun (a : Nat → Int) (b : Nat → Int) (c : Int) (d : Nat → Int) =>
 (( Option.bind (f10 (nthI [a 0, a 1, a 2, a 3, a 4, a 5, a 6, a 7, a 8, a 9, a 10, a 11, a 12, a 13, a 14]) (nthI [b 0, b 1, b 2, b 3, b 4, b 5, b 6, b 7, b 8, b 9, b 10, b 11, b 12, b 13, b 14, b 15, b 16, b 17, b 18, b 19, b 20, b 21]) (IntKind.i64.wrap (c.tmod 4))) (fun r4 =>
 Option.bind (f10 (nthI [a 0, a 1, a 2, a 3, a 4, a 5, a 6, a 7, a 8, a 9, a 10, a 11, a 12, a 13, a 14]) (nthI [d 0, d 1, b 2, b 3, b 4, b 5, b 6, b 7, b 8, b 9, b 10, b 11, b 12, b 13, b 14, b 15, b 16, b 17, b 18, b 19, b 20, b 21]) (IntKind.i64.wrap (c.tmod 4))) (fun r5 =>
 cond (!decide (r4.snd = 0)) (
 some (true)) (
 cond (!decide (r5.snd = 0)) (
 some (true)) (
 Option.bind (f13 (nthI [r5.fst 0, r5.fst 1, r5.fst 2]) (nthI [r4.fst 0, r4.fst 1, r4.fst 2])) (fun r6 =>
 cond (!(decide (r6 0 = IntKind.i64.wrap (d 0 - b 0)) && (decide (r6 1 = IntKind.i64.wrap (d 1 - b 1)) && decide (r6 2 = 0)))) (
 some (false)) (
 Option.bind (f13 (nthI [r5.fst 3, r5.fst 4, r5.fst 5]) (nthI [r4.fst 3, r4.fst 4, r4.fst 5])) (fun r7 =>
 cond (!(decide (r7 0 = IntKind.i64.wrap (d 0 - b 0)) && (decide (r7 1 = IntKind.i64.wrap (d 1 - b 1)) && decide (r7 2 = 0)))) (
 some (false)) (
 Option.bind (f13 (nthI [r5.fst 6, r5.fst 7, r5.fst 8]) (nthI [r4.fst 6, r4.fst 7, r4.fst 8])) (fun r8 =>
 cond (!(decide (r8 0 = IntKind.i64.wrap (d 0 - b 0)) && (decide (r8 1 = IntKind.i64.wrap (d 1 - b 1)) && decide (r8 2 = 0)))) (
 some (false)) (
 Option.bind (f13 (nthI [r5.fst 9, r5.fst 10, r5.fst 11]) (nthI [r4.fst 9, r4.fst 10, r4.fst 11])) (fun r9 =>
 cond (!(decide (r9 0 = IntKind.i64.wrap (d 0 - b 0)) && (decide (r9 1 = IntKind.i64.wrap (d 1 - b 1)) && decide (r9 2 = 0)))) (
 some (false)) (
 Option.bind (f13 (nthI [r5.fst 27, r5.fst 28, r5.fst 29]) (nthI [r4.fst 27, r4.fst 28, r4.fst 29])) (fun r10 =>
 cond (!(decide (r10 0 = IntKind.i64.wrap (d 0 - b 0)) && (decide (r10 1 = IntKind.i64.wrap (d 1 - b 1)) && decide (r10 2 = 0)))) (
 some (false)) (
 Option.bind (f13 (nthI [r5.fst 15, r5.fst 16, r5.fst 17]) (nthI [r4.fst 15, r4.fst 16, r4.fst 17])) (fun r11 =>
 cond (!(decide (r11 0 = IntKind.i64.wrap (d 0 - b 0)) && (decide (r11 1 = IntKind.i64.wrap (d 1 - b 1)) && decide (r11 2 = 0)))) (
 some (false)) (
 Option.bind (f13 (nthI [r5.fst 21, r5.fst 22, r5.fst 23]) (nthI [r4.fst 21, r4.fst 22, r4.fst 23])) (fun r12 =>
 cond (!(decide (r12 0 = IntKind.i64.wrap (d 0 - b 0)) && (decide (r12 1 = IntKind.i64.wrap (d 1 - b 1)) && decide (r12 2 = 0)))) (
 some (false)) (
 Option.bind (f13 (nthI [r5.fst 12, r5.fst 13, r5.fst 14]) (nthI [r4.fst 12, r4.fst 13, r4.fst 14])) (fun r13 =>
 cond (!(decide (r13 0 = IntKind.i64.wrap (d 0 - b 0)) && (decide (r13 1 = IntKind.i64.wrap (d 1 - b 1)) && decide (r13 2 = 0)))) (
 some (false)) (
 Option.bind (f13 (nthI [r5.fst 30, r5.fst 31, r5.fst 32]) (nthI [r4.fst 30, r4.fst 31, r4.fst 32])) (fun r14 =>
 cond (!(decide (r14 0 = IntKind.i64.wrap (d 0 - b 0)) && (decide (r14 1 = IntKind.i64.wrap (d 1 - b 1)) && decide (r14 2 = 0)))) (
 some (false)) (
 Option.bind (f13 (nthI [r5.fst 18, r5.fst 19, r5.fst 20]) (nthI [r4.fst 18, r4.fst 19, r4.fst 20])) (fun r15 =>
 cond (!(decide (r15 0 = IntKind.i64.wrap (d 0 - b 0)) && (decide (r15 1 = IntKind.i64.wrap (d 1 - b 1)) && decide (r15 2 = 0)))) (
 some (false)) (
 Option.bind (f13 (nthI [r5.fst 24, r5.fst 25, r5.fst 26]) (nthI [r4.fst 24, r4.fst 25, r4.fst 26])) (fun r16 =>
 cond (!(decide (r16 0 = IntKind.i64.wrap (d 0 - b 0)) && (decide (r16 1 = IntKind.i64.wrap (d 1 - b 1)) && decide (r16 2 = 0)))) (
 some (false)) (
 some (true)))))))))))))))))))))))))))) : Option (Bool))) xx.1 xx.2.1 xx.2.2.1 xx.2.2.2 := by kernel_rfl
theorem ok4 : CtxOK Tryd.prog (cx [(10, conF (cCons (cA .i64 15) (cCons (cA .i64 22) (cOne (cI .i64)))) (rTup (cCons (cA .i64 33) (cOne (cI .i64)))) (fun a => f10 a.1 a.2.1 a.2.2)), (12, conF (cNil) (rOne (cB)) (fun a => f12)), (13, conF (cCons (cA .i64 3) (cOne (cA .i64 3))) (rOne (cA .i64 3)) (fun a => f13 a.1 a.2))]) gl := ctx_of tyOk moOk (show SpecL Tryd.prog gG gl [(10, conF (cCons (cA .i64 15) (cCons (cA .i64 22) (cOne (cI .i64)))) (rTup (cCons (cA .i64 33) (cOne (cI .i64)))) (fun a => f10 a.1 a.2.1 a.2.2)), (12, conF (cNil) (rOne (cB)) (fun a => f12)), (13, conF (cCons (cA .i64 3) (cOne (cA .i64 3))) (rOne (cA .i64 3)) (fun a => f13 a.1 a.2))] from ⟨sp10, sp12, sp13, trivial⟩) fnOk
noncomputable def g4 (a : Nat → Int) (b : Nat → Int) (c : Int) (d : Nat → Int) : Option (Bool) :=
 Option.bind (f10 (nthI [a 0, a 1, a 2, a 3, a 4, a 5, a 6, a 7, a 8, a 9, a 10, a 11, a 12, a 13, a 14]) (nthI [b 0, b 1, b 2, b 3, b 4, b 5, b 6, b 7, b 8, b 9, b 10, b 11, b 12, b 13, b 14, b 15, b 16, b 17, b 18, b 19, b 20, b 21]) (IntKind.i64.wrap (c.tmod 4))) (fun r4 =>
 Option.bind (f10 (nthI [a 0, a 1, a 2, a 3, a 4, a 5, a 6, a 7, a 8, a 9, a 10, a 11, a 12, a 13, a 14]) (nthI [d 0, d 1, b 2, b 3, b 4, b 5, b 6, b 7, b 8, b 9, b 10, b 11, b 12, b 13, b 14, b 15, b 16, b 17, b 18, b 19, b 20, b 21]) (IntKind.i64.wrap (c.tmod 4))) (fun r5 =>
 cond (!decide (r4.snd = 0)) (
 some (true)) (
 cond (!decide (r5.snd = 0)) (
 some (true)) (
 Option.bind (f13 (nthI [r5.fst 0, r5.fst 1, r5.fst 2]) (nthI [r4.fst 0, r4.fst 1, r4.fst 2])) (fun r6 =>
 cond (!(decide (r6 0 = IntKind.i64.wrap (d 0 - b 0)) && (decide (r6 1 = IntKind.i64.wrap (d 1 - b 1)) && decide (r6 2 = 0)))) (
 some (false)) (
 Option.bind (f13 (nthI [r5.fst 3, r5.fst 4, r5.fst 5]) (nthI [r4.fst 3, r4.fst 4, r4.fst 5])) (fun r7 =>
 cond (!(decide (r7 0 = IntKind.i64.wrap (d 0 - b 0)) && (decide (r7 1 = IntKind.i64.wrap (d 1 - b 1)) && decide (r7 2 = 0)))) (
 some (false)) (
 Option.bind (f13 (nthI [r5.fst 6, r5.fst 7, r5.fst 8]) (nthI [r4.fst 6, r4.fst 7, r4.fst 8])) (fun r8 =>
 cond (!(decide (r8 0 = IntKind.i64.wrap (d 0 - b 0)) && (decide (r8 1 = IntKind.i64.wrap (d 1 - b 1)) && decide (r8 2 = 0)))) (
 some (false)) (
 Option.bind (f13 (nthI [r5.fst 9, r5.fst 10, r5.fst 11]) (nthI [r4.fst 9, r4.fst 10, r4.fst 11])) (fun r9 =>
 cond (!(decide (r9 0 = IntKind.i64.wrap (d 0 - b 0)) && (decide (r9 1 = IntKind.i64.wrap (d 1 - b 1)) && decide (r9 2 = 0)))) (
 some (false)) (
 Option.bind (f13 (nthI [r5.fst 27, r5.fst 28, r5.fst 29]) (nthI [r4.fst 27, r4.fst 28, r4.fst 29])) (fun r10 =>
 cond (!(decide (r10 0 = IntKind.i64.wrap (d 0 - b 0)) && (decide (r10 1 = IntKind.i64.wrap (d 1 - b 1)) && decide (r10 2 = 0)))) (
 some (false)) (
 Option.bind (f13 (nthI [r5.fst 15, r5.fst 16, r5.fst 17]) (nthI [r4.fst 15, r4.fst 16, r4.fst 17])) (fun r11 =>
 cond (!(decide (r11 0 = IntKind.i64.wrap (d 0 - b 0)) && (decide (r11 1 = IntKind.i64.wrap (d 1 - b 1)) && decide (r11 2 = 0)))) (
 some (false)) (
 Option.bind (f13 (nthI [r5.fst 21, r5.fst 22, r5.fst 23]) (nthI [r4.fst 21, r4.fst 22, r4.fst 23])) (fun r12 =>
 cond (!(decide (r12 0 = IntKind.i64.wrap (d 0 - b 0)) && (decide (r12 1 = IntKind.i64.wrap (d 1 - b 1)) && decide (r12 2 = 0)))) (
 some (false)) (
 Option.bind (f13 (nthI [r5.fst 12, r5.fst 13, r5.fst 14]) (nthI [r4.fst 12, r4.fst 13, r4.fst 14])) (fun r13 =>
 cond (!(decide (r13 0 = IntKind.i64.wrap (d 0 - b 0)) && (decide (r13 1 = IntKind.i64.wrap (d 1 - b 1)) && decide (r13 2 = 0)))) (
 some (false)) (
 Option.bind (f13 (nthI [r5.fst 30, r5.fst 31, r5.fst 32]) (nthI [r4.fst 30, r4.fst 31, r4.fst 32])) (fun r14 =>
 cond (!(decide (r14 0 = IntKind.i64.wrap (d 0 - b 0)) && (decide (r14 1 = IntKind.i64.wrap (d 1 - b 1)) && decide (r14 2 = 0)))) (
 some (false)) (
 Option.bind (f13 (nthI [r5.fst 18, r5.fst 19, r5.fst 20]) (nthI [r4.fst 18, r4.fst 19, r4.fst 20])) (fun r15 =>
 cond (!(decide (r15 0 = IntKind.i64.wrap (d 0 - b 0)) && (decide (r15 1 = IntKind.i64.wrap (d 1 - b 1)) && decide (r15 2 = 0)))) (
 some (false)) (
 Option.bind (f13 (nthI [r5.fst 24, r5.fst 25, r5.fst 26]) (nthI [r4.fst 24, r4.fst 25, r4.fst 26])) (fun r16 =>
 cond (!(decide (r16 0 = IntKind.i64.wrap (d 0 - b 0)) && (decide (r16 1 = IntKind.i64.wrap (d 1 - b 1)) && decide (r16 2 = 0)))) (
 some (false)) (
 some (true)))))))))))))))))))))))))))
theorem fg4 (a : Nat → Int) (b : Nat → Int) (c : Int) (d : Nat → Int) : g4 a b c d = f4 a b c d := by kernel_rfl
theorem ev4 (a : (cCons (cA .i64 15) (cCons (cA .i64 22) (cCons (cI .u8) (cOne (cA .i64 2))))).T) : evF (R := (rOne (cB)).T) (cx [(10, conF (cCons (cA .i64 15) (cCons (cA .i64 22) (cOne (cI .i64)))) (rTup (cCons (cA .i64 33) (cOne (cI .i64)))) (fun a => f10 a.1 a.2.1 a.2.2)), (12, conF (cNil) (rOne (cB)) (fun a => f12)), (13, conF (cCons (cA .i64 3) (cOne (cA .i64 3))) (rOne (cA .i64 3)) (fun a => f13 a.1 a.2))]) 1000 Tryd.f4 ((cCons (cA .i64 15) (cCons (cA .i64 22) (cCons (cI .u8) (cOne (cA .i64 2))))).enc a) (glMem gl) gG (rOne (cB)).dec = f4 a.1 a.2.1 a.2.2.1 a.2.2.2 := (show evF (R := (rOne (cB)).T) (cx [(10, conF (cCons (cA .i64 15) (cCons (cA .i64 22) (cOne (cI .i64)))) (rTup (cCons (cA .i64 33) (cOne (cI .i64)))) (fun a => f10 a.1 a.2.1 a.2.2)), (12, conF (cNil) (rOne (cB)) (fun a => f12)), (13, conF (cCons (cA .i64 3) (cOne (cA .i64 3))) (rOne (cA .i64 3)) (fun a => f13 a.1 a.2))]) 1000 Tryd.f4 ((cCons (cA .i64 15) (cCons (cA .i64 22) (cCons (cI .u8) (cOne (cA .i64 2))))).enc a) (glMem gl) gG (rOne (cB)).dec = g4 a.1 a.2.1 a.2.2.1 a.2.2.2 from evg4 f10 f13 a).trans (fg4 a.1 a.2.1 a.2.2.1 a.2.2.2)
theorem sp4 : VE.Spec Tryd.prog gG gl 4 (conF (cCons (cA .i64 15) (cCons (cA .i64 22) (cCons (cI .u8) (cOne (cA .i64 2))))) (rOne (cB)) (fun a => f4 a.1 a.2.1 a.2.2.1 a.2.2.2)) := spec_of ok4 Tryd.func4 Tryd.call4 1000 (cCons_ok (cA_ok _ _) (cCons_ok (cA_ok _ _) (cCons_ok (cI_ok _) (cOne_ok (cA_ok _ _))))) (rOne_ok (cB_ok)) ev4
noncomputable abbrev con4 : List (Nat × (List AV → Option ConR)) := [(10, conF (cCons (cA .i64 15) (cCons (cA .i64 22) (cOne (cI .i64)))) (rTup (cCons (cA .i64 33) (cOne (cI .i64)))) (fun a => f10 a.1 a.2.1 a.2.2)), (12, conF (cNil) (rOne (cB)) (fun a => f12)), (13, conF (cCons (cA .i64 3) (cOne (cA .i64 3))) (rOne (cA .i64 3)) (fun a => f13 a.1 a.2))]
end Go.Proofs.YtmcbhieaacinpaaDoor
