/-
  THE CONTRACTS of this program's functions: what each answers, as a plain function, by its evaluation.
-/
import Derived.Test.YtggiamcgkiaicaaDoorVEo
import Derived.Test.YtggiamcgkiaicaaDoorE17
import Derived.Test.YtggiamcgkiaicaaDoorChecked
open Go Go.VE Go.Proofs
set_option maxRecDepth 1000000
set_option maxHeartbeats 0
set_option linter.unusedVariables false
namespace Go.Proofs.YtggiamcgkiaicaaDoor
def tyL : List (TypeId × TyI) := [
 (3, ⟨.int .i64, 1, [.int .i64 0], 8⟩),
 (4, ⟨.bool, 1, [.bool false], 1⟩),
 (22, ⟨.array 4 3, 4, [.int .i64 0, .int .i64 0, .int .i64 0, .int .i64 0], 32⟩),
 (24, ⟨.struct [(3, 0), (3, 1), (3, 2), (3, 3), (3, 4), (3, 5), (3, 6), (3, 7), (3, 8), (3, 9), (3, 10), (22, 11)], 15, [.int .i64 0, .int .i64 0, .int .i64 0, .int .i64 0, .int .i64 0, .int .i64 0, .int .i64 0, .int .i64 0, .int .i64 0, .int .i64 0, .int .i64 0, .int .i64 0, .int .i64 0, .int .i64 0, .int .i64 0], 120⟩),
 (26, ⟨.struct [(3, 0), (3, 1)], 2, [.int .i64 0, .int .i64 0], 16⟩),
 (28, ⟨.struct [(3, 0), (3, 1), (3, 2)], 3, [.int .i64 0, .int .i64 0, .int .i64 0], 24⟩),
 (29, ⟨.array 6 28, 18, [.int .i64 0, .int .i64 0, .int .i64 0, .int .i64 0, .int .i64 0, .int .i64 0, .int .i64 0, .int .i64 0, .int .i64 0, .int .i64 0, .int .i64 0, .int .i64 0, .int .i64 0, .int .i64 0, .int .i64 0, .int .i64 0, .int .i64 0, .int .i64 0], 144⟩),
 (31, ⟨.struct [(26, 0), (3, 2), (3, 3), (29, 4)], 22, [.int .i64 0, .int .i64 0, .int .i64 0, .int .i64 0, .int .i64 0, .int .i64 0, .int .i64 0, .int .i64 0, .int .i64 0, .int .i64 0, .int .i64 0, .int .i64 0, .int .i64 0, .int .i64 0, .int .i64 0, .int .i64 0, .int .i64 0, .int .i64 0, .int .i64 0, .int .i64 0, .int .i64 0, .int .i64 0], 176⟩),
 (32, ⟨.int .i64, 1, [.int .i64 0], 8⟩),
 (41, ⟨.slice 31, 1, [.nils], 24⟩),
 (42, ⟨.slice 3, 1, [.nils], 24⟩),
 (44, ⟨.struct [(41, 0), (42, 1)], 2, [.nils, .nils], 48⟩),
 (47, ⟨.array 3 3, 3, [.int .i64 0, .int .i64 0, .int .i64 0], 24⟩),
 (56, ⟨.struct [(3, 0), (3, 1), (3, 2)], 3, [.int .i64 0, .int .i64 0, .int .i64 0], 24⟩),
 (57, ⟨.array 2 56, 6, [.int .i64 0, .int .i64 0, .int .i64 0, .int .i64 0, .int .i64 0, .int .i64 0], 48⟩),
 (59, ⟨.struct [(56, 0), (56, 3), (56, 6), (57, 9), (57, 15), (57, 21), (57, 27)], 33, [.int .i64 0, .int .i64 0, .int .i64 0, .int .i64 0, .int .i64 0, .int .i64 0, .int .i64 0, .int .i64 0, .int .i64 0, .int .i64 0, .int .i64 0, .int .i64 0, .int .i64 0, .int .i64 0, .int .i64 0, .int .i64 0, .int .i64 0, .int .i64 0, .int .i64 0, .int .i64 0, .int .i64 0, .int .i64 0, .int .i64 0, .int .i64 0, .int .i64 0, .int .i64 0, .int .i64 0, .int .i64 0, .int .i64 0, .int .i64 0, .int .i64 0, .int .i64 0, .int .i64 0], 264⟩),
 (77, ⟨.ptr 3, 1, [.nilp], 8⟩),
 (78, ⟨.array 11 77, 11, [.nilp, .nilp, .nilp, .nilp, .nilp, .nilp, .nilp, .nilp, .nilp, .nilp, .nilp], 88⟩),
 (80, ⟨.ptr 24, 1, [.nilp], 8⟩),
 (81, ⟨.array 2 3, 2, [.int .i64 0, .int .i64 0], 16⟩),
 (82, ⟨.array 11 81, 22, [.int .i64 0, .int .i64 0, .int .i64 0, .int .i64 0, .int .i64 0, .int .i64 0, .int .i64 0, .int .i64 0, .int .i64 0, .int .i64 0, .int .i64 0, .int .i64 0, .int .i64 0, .int .i64 0, .int .i64 0, .int .i64 0, .int .i64 0, .int .i64 0, .int .i64 0, .int .i64 0, .int .i64 0, .int .i64 0], 176⟩),
 (94, ⟨.slice 97, 1, [.nils], 24⟩),
 (97, ⟨.struct [(3, 0), (56, 1), (56, 4)], 7, [.int .i64 0, .int .i64 0, .int .i64 0, .int .i64 0, .int .i64 0, .int .i64 0, .int .i64 0], 56⟩),
 (116, ⟨.struct [(3, 0), (3, 1), (3, 2)], 3, [.int .i64 0, .int .i64 0, .int .i64 0], 24⟩),
 (119, ⟨.struct [(3, 0), (3, 1), (3, 2)], 3, [.int .i64 0, .int .i64 0, .int .i64 0], 24⟩),
 (121, ⟨.array 65 3, 65, [.int .i64 0, .int .i64 0, .int .i64 0, .int .i64 0, .int .i64 0, .int .i64 0, .int .i64 0, .int .i64 0, .int .i64 0, .int .i64 0, .int .i64 0, .int .i64 0, .int .i64 0, .int .i64 0, .int .i64 0, .int .i64 0, .int .i64 0, .int .i64 0, .int .i64 0, .int .i64 0, .int .i64 0, .int .i64 0, .int .i64 0, .int .i64 0, .int .i64 0, .int .i64 0, .int .i64 0, .int .i64 0, .int .i64 0, .int .i64 0, .int .i64 0, .int .i64 0, .int .i64 0, .int .i64 0, .int .i64 0, .int .i64 0, .int .i64 0, .int .i64 0, .int .i64 0, .int .i64 0, .int .i64 0, .int .i64 0, .int .i64 0, .int .i64 0, .int .i64 0, .int .i64 0, .int .i64 0, .int .i64 0, .int .i64 0, .int .i64 0, .int .i64 0, .int .i64 0, .int .i64 0, .int .i64 0, .int .i64 0, .int .i64 0, .int .i64 0, .int .i64 0, .int .i64 0, .int .i64 0, .int .i64 0, .int .i64 0, .int .i64 0, .int .i64 0, .int .i64 0], 520⟩)]
def gl : List (Nat × List AV) := [(1, [.int .i64 (0), .int .i64 (402), .int .i64 (804), .int .i64 (1205), .int .i64 (1606), .int .i64 (2006), .int .i64 (2404), .int .i64 (2801), .int .i64 (3196), .int .i64 (3590), .int .i64 (3981), .int .i64 (4370), .int .i64 (4756), .int .i64 (5139), .int .i64 (5520), .int .i64 (5897), .int .i64 (6270), .int .i64 (6639), .int .i64 (7005), .int .i64 (7366), .int .i64 (7723), .int .i64 (8076), .int .i64 (8423), .int .i64 (8765), .int .i64 (9102), .int .i64 (9434), .int .i64 (9760), .int .i64 (10080), .int .i64 (10394), .int .i64 (10702), .int .i64 (11003), .int .i64 (11297), .int .i64 (11585), .int .i64 (11866), .int .i64 (12140), .int .i64 (12406), .int .i64 (12665), .int .i64 (12916), .int .i64 (13160), .int .i64 (13395), .int .i64 (13623), .int .i64 (13842), .int .i64 (14053), .int .i64 (14256), .int .i64 (14449), .int .i64 (14635), .int .i64 (14811), .int .i64 (14978), .int .i64 (15137), .int .i64 (15286), .int .i64 (15426), .int .i64 (15557), .int .i64 (15679), .int .i64 (15791), .int .i64 (15893), .int .i64 (15986), .int .i64 (16069), .int .i64 (16143), .int .i64 (16207), .int .i64 (16261), .int .i64 (16305), .int .i64 (16340), .int .i64 (16364), .int .i64 (16379), .int .i64 (16384)]),
 (0, [.int .i64 (400), .int .i64 (1500), .int .i64 (200), .int .i64 (1000), .int .i64 (50), .int .i64 (500), .int .i64 (200), .int .i64 (1200), .int .i64 (20), .int .i64 (300), .int .i64 (50), .int .i64 (400), .int .i64 (100), .int .i64 (1200), .int .i64 (0), .int .i64 (200), .int .i64 (0), .int .i64 (200), .int .i64 (20), .int .i64 (300), .int .i64 (100), .int .i64 (1000)])]
def gG : Nat := 2
def kx3 : List (Option IntKind) := [some .i64]
def kx4 : List (Option IntKind) := [none]
def kx22 : List (Option IntKind) := [some .i64, some .i64, some .i64, some .i64]
def kx24 : List (Option IntKind) := [some .i64, some .i64, some .i64, some .i64, some .i64, some .i64, some .i64, some .i64, some .i64, some .i64, some .i64, some .i64, some .i64, some .i64, some .i64]
def kx26 : List (Option IntKind) := [some .i64, some .i64]
def kx28 : List (Option IntKind) := [some .i64, some .i64, some .i64]
def kx29 : List (Option IntKind) := [some .i64, some .i64, some .i64, some .i64, some .i64, some .i64, some .i64, some .i64, some .i64, some .i64, some .i64, some .i64, some .i64, some .i64, some .i64, some .i64, some .i64, some .i64]
def kx31 : List (Option IntKind) := [some .i64, some .i64, some .i64, some .i64, some .i64, some .i64, some .i64, some .i64, some .i64, some .i64, some .i64, some .i64, some .i64, some .i64, some .i64, some .i64, some .i64, some .i64, some .i64, some .i64, some .i64, some .i64]
def kx32 : List (Option IntKind) := [some .i64]
def kx47 : List (Option IntKind) := [some .i64, some .i64, some .i64]
def kx56 : List (Option IntKind) := [some .i64, some .i64, some .i64]
def kx57 : List (Option IntKind) := [some .i64, some .i64, some .i64, some .i64, some .i64, some .i64]
def kx59 : List (Option IntKind) := [some .i64, some .i64, some .i64, some .i64, some .i64, some .i64, some .i64, some .i64, some .i64, some .i64, some .i64, some .i64, some .i64, some .i64, some .i64, some .i64, some .i64, some .i64, some .i64, some .i64, some .i64, some .i64, some .i64, some .i64, some .i64, some .i64, some .i64, some .i64, some .i64, some .i64, some .i64, some .i64, some .i64]
def kx81 : List (Option IntKind) := [some .i64, some .i64]
def kx82 : List (Option IntKind) := [some .i64, some .i64, some .i64, some .i64, some .i64, some .i64, some .i64, some .i64, some .i64, some .i64, some .i64, some .i64, some .i64, some .i64, some .i64, some .i64, some .i64, some .i64, some .i64, some .i64, some .i64, some .i64]
def kx97 : List (Option IntKind) := [some .i64, some .i64, some .i64, some .i64, some .i64, some .i64, some .i64]
def kx116 : List (Option IntKind) := [some .i64, some .i64, some .i64]
def kx119 : List (Option IntKind) := [some .i64, some .i64, some .i64]
def kx121 : List (Option IntKind) := [some .i64, some .i64, some .i64, some .i64, some .i64, some .i64, some .i64, some .i64, some .i64, some .i64, some .i64, some .i64, some .i64, some .i64, some .i64, some .i64, some .i64, some .i64, some .i64, some .i64, some .i64, some .i64, some .i64, some .i64, some .i64, some .i64, some .i64, some .i64, some .i64, some .i64, some .i64, some .i64, some .i64, some .i64, some .i64, some .i64, some .i64, some .i64, some .i64, some .i64, some .i64, some .i64, some .i64, some .i64, some .i64, some .i64, some .i64, some .i64, some .i64, some .i64, some .i64, some .i64, some .i64, some .i64, some .i64, some .i64, some .i64, some .i64, some .i64, some .i64, some .i64, some .i64, some .i64, some .i64, some .i64]
def joins : List (Nat × CodJ) := []
noncomputable abbrev cx (fns : List (Nat × Func)) (con : List (Nat × (List AV → Option ConR))) (lps : List (Nat × LoopC) := []) (jc : Bool := false) : Ctx := { ty := assoc tyL, join := assoc joins, jc := jc, con := assoc con, lp := assoc lps, fns := assoc fns, G := gG }
def tab0 : List Int := [0, 402, 804, 1205, 1606, 2006, 2404, 2801, 3196, 3590, 3981, 4370, 4756, 5139, 5520, 5897, 6270, 6639, 7005, 7366, 7723, 8076, 8423, 8765, 9102, 9434, 9760, 10080, 10394, 10702, 11003, 11297, 11585, 11866, 12140, 12406, 12665, 12916, 13160, 13395, 13623, 13842, 14053, 14256, 14449, 14635, 14811, 14978, 15137, 15286, 15426, 15557, 15679, 15791, 15893, 15986, 16069, 16143, 16207, 16261, 16305, 16340, 16364, 16379, 16384]
def tab1 : List Int := [0, 0, 0, 0, 0, -64, 0, 0, -64, 0, 0, 64, 0, 0, -64, 0, 0, -64, 0, 0, 64, 0]
def tab2 : List Int := [800, 500, 200, 600, 100, 200, 600, 100, 50, 100, 300, 30000, 5000, 4000, 10000]
theorem tyOk : ∀ t i, assoc tyL t = some i → tyOf Tryd.prog t = some i := tys_of (by kernel_rfl)
theorem moOk : Tryd.prog.follows .mixedOrders = true := by kernel_rfl
theorem joinOk : JoinL joins := trivial

/-- posture.on -/
theorem ok36 : CtxOK Tryd.prog (cx [] [] []) gl := ctx_of tyOk moOk (show SpecL Tryd.prog gG gl [] from trivial) (show FnL Tryd.prog [] from trivial) (fnLp_nil _) joinOk
noncomputable def f36 (a : Nat → Int) : Option (Bool) :=
 cond (decide (-32768 ≤ a 0)) (
 cond (decide (a 0 ≤ 32768)) (
 cond (decide (-32768 ≤ a 1)) (
 some (decide (a 1 ≤ 32768))) (
 some (false))) (
 some (false))) (
 some (false))
theorem evg36   (xx : (aOne (pC (cA .i64 2))).T) : evF (R := (rOne (cB)).T) (cx [] [] []) 1000 Tryd.f36 ((aOne (pC (cA .i64 2))).enc gG xx) (glMem gl) 2 (rOne (cB)).dec =
 (fun (a : Nat → Int) =>
 (( cond (decide (-32768 ≤ a 0)) (
 cond (decide (a 0 ≤ 32768)) (
 cond (decide (-32768 ≤ a 1)) (
 some (decide (a 1 ≤ 32768))) (
 some (false))) (
 some (false))) (
 some (false))) : Option (Bool))) xx := by kernel_rfl
theorem ev36 (a : (aOne (pC (cA .i64 2))).T) : evF (R := (rOne (cB)).T) (cx [] [] []) 1000 Tryd.f36 ((aOne (pC (cA .i64 2))).enc gG a) (glMem gl) 2 (rOne (cB)).dec = f36 a := evg36   a
theorem sp36 : VE.Spec Tryd.prog gG gl 36 (conF (aOne (pC (cA .i64 2))) (rOne (cB)) (fun a => f36 a)) := spec_of ok36 Tryd.func36 Tryd.call36 (lpAll_nil rfl) 1000 (aOne_ok (pC_ok (cA_ok _ _))) (rOne_ok (cB_ok)) ev36

/-- aim.known -/
theorem ok64 : CtxOK Tryd.prog (cx [] [] []) gl := ctx_of tyOk moOk (show SpecL Tryd.prog gG gl [] from trivial) (show FnL Tryd.prog [] from trivial) (fnLp_nil _) joinOk
noncomputable def f64 (a : Int) : Option (Bool) :=
 cond (decide (0 ≤ a)) (
 some (decide (a < 6))) (
 some (false))
theorem evg64   (xx : (aOne (pC (cI .i64))).T) : evF (R := (rOne (cB)).T) (cx [] [] []) 1000 Tryd.f64 ((aOne (pC (cI .i64))).enc gG xx) (glMem gl) 2 (rOne (cB)).dec =
 (fun (a : Int) =>
 (( cond (decide (0 ≤ a)) (
 some (decide (a < 6))) (
 some (false))) : Option (Bool))) xx := by kernel_rfl
theorem ev64 (a : (aOne (pC (cI .i64))).T) : evF (R := (rOne (cB)).T) (cx [] [] []) 1000 Tryd.f64 ((aOne (pC (cI .i64))).enc gG a) (glMem gl) 2 (rOne (cB)).dec = f64 a := evg64   a
theorem sp64 : VE.Spec Tryd.prog gG gl 64 (conF (aOne (pC (cI .i64))) (rOne (cB)) (fun a => f64 a)) := spec_of ok64 Tryd.func64 Tryd.call64 (lpAll_nil rfl) 1000 (aOne_ok (pC_ok (cI_ok _))) (rOne_ok (cB_ok)) ev64

/-- aim.upright -/
theorem ok65 : CtxOK Tryd.prog (cx [] [] []) gl := ctx_of tyOk moOk (show SpecL Tryd.prog gG gl [] from trivial) (show FnL Tryd.prog [] from trivial) (fnLp_nil _) joinOk
noncomputable def f65 (a : Nat → Int) : Option (Bool) :=
 cond (decide (a 1 = 64)) (
 some (true)) (
 some (decide (a 1 = -64)))
theorem evg65   (xx : (aOne (pC (cA .i64 3))).T) : evF (R := (rOne (cB)).T) (cx [] [] []) 1000 Tryd.f65 ((aOne (pC (cA .i64 3))).enc gG xx) (glMem gl) 2 (rOne (cB)).dec =
 (fun (a : Nat → Int) =>
 (( cond (decide (a 1 = 64)) (
 some (true)) (
 some (decide (a 1 = -64)))) : Option (Bool))) xx := by kernel_rfl
theorem ev65 (a : (aOne (pC (cA .i64 3))).T) : evF (R := (rOne (cB)).T) (cx [] [] []) 1000 Tryd.f65 ((aOne (pC (cA .i64 3))).enc gG a) (glMem gl) 2 (rOne (cB)).dec = f65 a := evg65   a
theorem sp65 : VE.Spec Tryd.prog gG gl 65 (conF (aOne (pC (cA .i64 3))) (rOne (cB)) (fun a => f65 a)) := spec_of ok65 Tryd.func65 Tryd.call65 (lpAll_nil rfl) 1000 (aOne_ok (pC_ok (cA_ok _ _))) (rOne_ok (cB_ok)) ev65

/-- aim.Check -/
theorem ok37 : CtxOK Tryd.prog (cx [] [(64, conF (aOne (pC (cI .i64))) (rOne (cB)) (fun a => f64 a)), (65, conF (aOne (pC (cA .i64 3))) (rOne (cB)) (fun a => f65 a))] []) gl := ctx_of tyOk moOk (show SpecL Tryd.prog gG gl [(64, conF (aOne (pC (cI .i64))) (rOne (cB)) (fun a => f64 a)), (65, conF (aOne (pC (cA .i64 3))) (rOne (cB)) (fun a => f65 a))] from ⟨sp64, sp65, trivial⟩) (show FnL Tryd.prog [] from trivial) (fnLp_nil _) joinOk
noncomputable def f37 (a : Int) (b : Nat → Int) : Option (Int) :=
 Option.bind (f64 a) (fun r2 =>
 cond (!r2) (
 some (9)) (
 cond (decide (b 0 < 0)) (
 some (1)) (
 cond (decide (255 < b 0)) (
 some (1)) (
 cond (decide (b 1 < -64)) (
 some (1)) (
 cond (decide (64 < b 1)) (
 some (1)) (
 cond (decide (b 2 < 0)) (
 some (1)) (
 cond (decide (6 < b 2)) (
 some (1)) (
 Option.bind (f65 b) (fun r3 =>
 cond (r3) (
 cond (!decide (b 0 = 0)) (
 some (2)) (
 some (0))) (
 some (0)))))))))))
theorem evg37 (f64 : (Int) → Option (Bool)) (f65 : (Nat → Int) → Option (Bool))  (xx : (aCons (pC (cI .i64)) (aOne (pC (cA .i64 3)))).T) : evF (R := (rOne (cI .i64)).T) (cx [] [(64, conF (aOne (pC (cI .i64))) (rOne (cB)) (fun a => f64 a)), (65, conF (aOne (pC (cA .i64 3))) (rOne (cB)) (fun a => f65 a))] []) 1000 Tryd.f37 ((aCons (pC (cI .i64)) (aOne (pC (cA .i64 3)))).enc gG xx) (glMem gl) 2 (rOne (cI .i64)).dec =
 (fun (a : Int) (b : Nat → Int) =>
 (( Option.bind (f64 a) (fun r2 =>
 cond (!r2) (
 some (9)) (
 cond (decide (b 0 < 0)) (
 some (1)) (
 cond (decide (255 < b 0)) (
 some (1)) (
 cond (decide (b 1 < -64)) (
 some (1)) (
 cond (decide (64 < b 1)) (
 some (1)) (
 cond (decide (b 2 < 0)) (
 some (1)) (
 cond (decide (6 < b 2)) (
 some (1)) (
 Option.bind (f65 (nthI [b 0, b 1, b 2])) (fun r3 =>
 cond (r3) (
 cond (!decide (b 0 = 0)) (
 some (2)) (
 some (0))) (
 some (0)))))))))))) : Option (Int))) xx.1 xx.2 := by kernel_rfl
noncomputable def g37 (a : Int) (b : Nat → Int) : Option (Int) :=
 Option.bind (f64 a) (fun r2 =>
 cond (!r2) (
 some (9)) (
 cond (decide (b 0 < 0)) (
 some (1)) (
 cond (decide (255 < b 0)) (
 some (1)) (
 cond (decide (b 1 < -64)) (
 some (1)) (
 cond (decide (64 < b 1)) (
 some (1)) (
 cond (decide (b 2 < 0)) (
 some (1)) (
 cond (decide (6 < b 2)) (
 some (1)) (
 Option.bind (f65 (nthI [b 0, b 1, b 2])) (fun r3 =>
 cond (r3) (
 cond (!decide (b 0 = 0)) (
 some (2)) (
 some (0))) (
 some (0)))))))))))
theorem fg37 (a : Int) (b : Nat → Int) : g37 a b = f37 a b := by kernel_rfl
theorem ev37 (a : (aCons (pC (cI .i64)) (aOne (pC (cA .i64 3)))).T) : evF (R := (rOne (cI .i64)).T) (cx [] [(64, conF (aOne (pC (cI .i64))) (rOne (cB)) (fun a => f64 a)), (65, conF (aOne (pC (cA .i64 3))) (rOne (cB)) (fun a => f65 a))] []) 1000 Tryd.f37 ((aCons (pC (cI .i64)) (aOne (pC (cA .i64 3)))).enc gG a) (glMem gl) 2 (rOne (cI .i64)).dec = f37 a.1 a.2 := (show evF (R := (rOne (cI .i64)).T) (cx [] [(64, conF (aOne (pC (cI .i64))) (rOne (cB)) (fun a => f64 a)), (65, conF (aOne (pC (cA .i64 3))) (rOne (cB)) (fun a => f65 a))] []) 1000 Tryd.f37 ((aCons (pC (cI .i64)) (aOne (pC (cA .i64 3)))).enc gG a) (glMem gl) 2 (rOne (cI .i64)).dec = g37 a.1 a.2 from evg37 f64 f65  a).trans (fg37 a.1 a.2)
theorem sp37 : VE.Spec Tryd.prog gG gl 37 (conF (aCons (pC (cI .i64)) (aOne (pC (cA .i64 3)))) (rOne (cI .i64)) (fun a => f37 a.1 a.2)) := spec_of ok37 Tryd.func37 Tryd.call37 (lpAll_nil rfl) 1000 (aCons_ok (pC_ok (cI_ok _)) (aOne_ok (pC_ok (cA_ok _ _)))) (rOne_ok (cI_ok _)) ev37

/-- posture.Valid -/
theorem ok19 : CtxOK Tryd.prog (cx [] [(36, conF (aOne (pC (cA .i64 2))) (rOne (cB)) (fun a => f36 a)), (37, conF (aCons (pC (cI .i64)) (aOne (pC (cA .i64 3)))) (rOne (cI .i64)) (fun a => f37 (a.1) (a.2)))] []) gl := ctx_of tyOk moOk (show SpecL Tryd.prog gG gl [(36, conF (aOne (pC (cA .i64 2))) (rOne (cB)) (fun a => f36 a)), (37, conF (aCons (pC (cI .i64)) (aOne (pC (cA .i64 3)))) (rOne (cI .i64)) (fun a => f37 (a.1) (a.2)))] from ⟨sp36, sp37, trivial⟩) (show FnL Tryd.prog [] from trivial) (fnLp_nil _) joinOk
noncomputable def f19 (a : Nat → Int) : Option (Int) :=
 Option.bind (f36 a) (fun r1 =>
 cond (!r1) (
 some (1)) (
 cond (decide (a 2 < 0)) (
 some (1)) (
 cond (decide (255 < a 2)) (
 some (1)) (
 cond (decide (a 3 < -8)) (
 some (1)) (
 cond (decide (8 < a 3)) (
 some (1)) (
 Option.bind (f37 0 (nthI [a 4, a 5, a 6])) (fun r2 =>
 cond (!decide (r2 = 0)) (
 some (r2)) (
 Option.bind (f37 1 (nthI [a 7, a 8, a 9])) (fun r3 =>
 cond (!decide (r3 = 0)) (
 some (r3)) (
 Option.bind (f37 2 (nthI [a 10, a 11, a 12])) (fun r4 =>
 cond (!decide (r4 = 0)) (
 some (r4)) (
 Option.bind (f37 3 (nthI [a 13, a 14, a 15])) (fun r5 =>
 cond (!decide (r5 = 0)) (
 some (r5)) (
 Option.bind (f37 4 (nthI [a 16, a 17, a 18])) (fun r6 =>
 cond (!decide (r6 = 0)) (
 some (r6)) (
 Option.bind (f37 5 (nthI [a 19, a 20, a 21])) (fun r7 =>
 cond (!decide (r7 = 0)) (
 some (r7)) (
 some (0)))))))))))))))))))
theorem evg19 (f36 : (Nat → Int) → Option (Bool)) (f37 : (Int) → (Nat → Int) → Option (Int))  (xx : (aOne (pC (cA .i64 22))).T) : evF (R := (rOne (cI .i64)).T) (cx [] [(36, conF (aOne (pC (cA .i64 2))) (rOne (cB)) (fun a => f36 a)), (37, conF (aCons (pC (cI .i64)) (aOne (pC (cA .i64 3)))) (rOne (cI .i64)) (fun a => f37 (a.1) (a.2)))] []) 1000 Tryd.f19 ((aOne (pC (cA .i64 22))).enc gG xx) (glMem gl) 2 (rOne (cI .i64)).dec =
 (fun (a : Nat → Int) =>
 (( Option.bind (f36 (nthI [a 0, a 1])) (fun r1 =>
 cond (!r1) (
 some (1)) (
 cond (decide (a 2 < 0)) (
 some (1)) (
 cond (decide (255 < a 2)) (
 some (1)) (
 cond (decide (a 3 < -8)) (
 some (1)) (
 cond (decide (8 < a 3)) (
 some (1)) (
 Option.bind (f37 0 (nthI [a 4, a 5, a 6])) (fun r2 =>
 cond (!decide (r2 = 0)) (
 some (r2)) (
 Option.bind (f37 1 (nthI [a 7, a 8, a 9])) (fun r3 =>
 cond (!decide (r3 = 0)) (
 some (r3)) (
 Option.bind (f37 2 (nthI [a 10, a 11, a 12])) (fun r4 =>
 cond (!decide (r4 = 0)) (
 some (r4)) (
 Option.bind (f37 3 (nthI [a 13, a 14, a 15])) (fun r5 =>
 cond (!decide (r5 = 0)) (
 some (r5)) (
 Option.bind (f37 4 (nthI [a 16, a 17, a 18])) (fun r6 =>
 cond (!decide (r6 = 0)) (
 some (r6)) (
 Option.bind (f37 5 (nthI [a 19, a 20, a 21])) (fun r7 =>
 cond (!decide (r7 = 0)) (
 some (r7)) (
 some (0)))))))))))))))))))) : Option (Int))) xx := by kernel_rfl
noncomputable def g19 (a : Nat → Int) : Option (Int) :=
 Option.bind (f36 (nthI [a 0, a 1])) (fun r1 =>
 cond (!r1) (
 some (1)) (
 cond (decide (a 2 < 0)) (
 some (1)) (
 cond (decide (255 < a 2)) (
 some (1)) (
 cond (decide (a 3 < -8)) (
 some (1)) (
 cond (decide (8 < a 3)) (
 some (1)) (
 Option.bind (f37 0 (nthI [a 4, a 5, a 6])) (fun r2 =>
 cond (!decide (r2 = 0)) (
 some (r2)) (
 Option.bind (f37 1 (nthI [a 7, a 8, a 9])) (fun r3 =>
 cond (!decide (r3 = 0)) (
 some (r3)) (
 Option.bind (f37 2 (nthI [a 10, a 11, a 12])) (fun r4 =>
 cond (!decide (r4 = 0)) (
 some (r4)) (
 Option.bind (f37 3 (nthI [a 13, a 14, a 15])) (fun r5 =>
 cond (!decide (r5 = 0)) (
 some (r5)) (
 Option.bind (f37 4 (nthI [a 16, a 17, a 18])) (fun r6 =>
 cond (!decide (r6 = 0)) (
 some (r6)) (
 Option.bind (f37 5 (nthI [a 19, a 20, a 21])) (fun r7 =>
 cond (!decide (r7 = 0)) (
 some (r7)) (
 some (0)))))))))))))))))))
theorem fg19 (a : Nat → Int) : g19 a = f19 a := by kernel_rfl
theorem ev19 (a : (aOne (pC (cA .i64 22))).T) : evF (R := (rOne (cI .i64)).T) (cx [] [(36, conF (aOne (pC (cA .i64 2))) (rOne (cB)) (fun a => f36 a)), (37, conF (aCons (pC (cI .i64)) (aOne (pC (cA .i64 3)))) (rOne (cI .i64)) (fun a => f37 (a.1) (a.2)))] []) 1000 Tryd.f19 ((aOne (pC (cA .i64 22))).enc gG a) (glMem gl) 2 (rOne (cI .i64)).dec = f19 a := (show evF (R := (rOne (cI .i64)).T) (cx [] [(36, conF (aOne (pC (cA .i64 2))) (rOne (cB)) (fun a => f36 a)), (37, conF (aCons (pC (cI .i64)) (aOne (pC (cA .i64 3)))) (rOne (cI .i64)) (fun a => f37 (a.1) (a.2)))] []) 1000 Tryd.f19 ((aOne (pC (cA .i64 22))).enc gG a) (glMem gl) 2 (rOne (cI .i64)).dec = g19 a from evg19 f36 f37  a).trans (fg19 a)
theorem sp19 : VE.Spec Tryd.prog gG gl 19 (conF (aOne (pC (cA .i64 22))) (rOne (cI .i64)) (fun a => f19 a)) := spec_of ok19 Tryd.func19 Tryd.call19 (lpAll_nil rfl) 1000 (aOne_ok (pC_ok (cA_ok _ _))) (rOne_ok (cI_ok _)) ev19

/-- build.Check -/
theorem ok20 : CtxOK Tryd.prog (cx [(38, Tryd.f38)] [] []) gl := ctx_of tyOk moOk (show SpecL Tryd.prog gG gl [] from trivial) (show FnL Tryd.prog [(38, Tryd.f38)] from ⟨⟨Tryd.func38, Tryd.call38⟩, trivial⟩) (fnLp_nil _) joinOk
noncomputable def f20 (a : Nat → Int) : Option (Int) :=
 cond (decide (a 0 < 400)) (
 some (23)) (
 cond (decide (1500 < a 0)) (
 some (23)) (
 cond (decide (a 1 < 200)) (
 some (23)) (
 cond (decide (1000 < a 1)) (
 some (23)) (
 cond (decide (a 2 < 50)) (
 some (23)) (
 cond (decide (500 < a 2)) (
 some (23)) (
 cond (decide (a 3 < 200)) (
 some (23)) (
 cond (decide (1200 < a 3)) (
 some (23)) (
 cond (decide (a 4 < 20)) (
 some (23)) (
 cond (decide (300 < a 4)) (
 some (23)) (
 cond (decide (a 5 < 50)) (
 some (23)) (
 cond (decide (400 < a 5)) (
 some (23)) (
 cond (decide (a 6 < 100)) (
 some (23)) (
 cond (decide (1200 < a 6)) (
 some (23)) (
 cond (decide (a 7 < 0)) (
 some (23)) (
 cond (decide (200 < a 7)) (
 some (23)) (
 cond (decide (a 8 < 0)) (
 some (23)) (
 cond (decide (200 < a 8)) (
 some (23)) (
 cond (decide (a 9 < 20)) (
 some (23)) (
 cond (decide (300 < a 9)) (
 some (23)) (
 cond (decide (a 10 < 100)) (
 some (23)) (
 cond (decide (1000 < a 10)) (
 some (23)) (
 cond (decide (a 11 < 1)) (
 some (23)) (
 cond (decide (200000 < a 11)) (
 some (23)) (
 cond (decide (a 12 < 1)) (
 some (23)) (
 cond (decide (200000 < a 12)) (
 some (23)) (
 cond (decide (a 13 < 1)) (
 some (23)) (
 cond (decide (200000 < a 13)) (
 some (23)) (
 cond (decide (a 14 < 1)) (
 some (23)) (
 cond (decide (200000 < a 14)) (
 some (23)) (
 some (0)))))))))))))))))))))))))))))))
theorem evg20   (xx : (aOne (pC (cA .i64 15))).T) : evF (R := (rOne (cI .i64)).T) (cx [(38, Tryd.f38)] [] []) 1000 Tryd.f20 ((aOne (pC (cA .i64 15))).enc gG xx) (glMem gl) 2 (rOne (cI .i64)).dec =
 (fun (a : Nat → Int) =>
 (( cond (decide (a 0 < 400)) (
 some (23)) (
 cond (decide (1500 < a 0)) (
 some (23)) (
 cond (decide (a 1 < 200)) (
 some (23)) (
 cond (decide (1000 < a 1)) (
 some (23)) (
 cond (decide (a 2 < 50)) (
 some (23)) (
 cond (decide (500 < a 2)) (
 some (23)) (
 cond (decide (a 3 < 200)) (
 some (23)) (
 cond (decide (1200 < a 3)) (
 some (23)) (
 cond (decide (a 4 < 20)) (
 some (23)) (
 cond (decide (300 < a 4)) (
 some (23)) (
 cond (decide (a 5 < 50)) (
 some (23)) (
 cond (decide (400 < a 5)) (
 some (23)) (
 cond (decide (a 6 < 100)) (
 some (23)) (
 cond (decide (1200 < a 6)) (
 some (23)) (
 cond (decide (a 7 < 0)) (
 some (23)) (
 cond (decide (200 < a 7)) (
 some (23)) (
 cond (decide (a 8 < 0)) (
 some (23)) (
 cond (decide (200 < a 8)) (
 some (23)) (
 cond (decide (a 9 < 20)) (
 some (23)) (
 cond (decide (300 < a 9)) (
 some (23)) (
 cond (decide (a 10 < 100)) (
 some (23)) (
 cond (decide (1000 < a 10)) (
 some (23)) (
 cond (decide (a 11 < 1)) (
 some (23)) (
 cond (decide (200000 < a 11)) (
 some (23)) (
 cond (decide (a 12 < 1)) (
 some (23)) (
 cond (decide (200000 < a 12)) (
 some (23)) (
 cond (decide (a 13 < 1)) (
 some (23)) (
 cond (decide (200000 < a 13)) (
 some (23)) (
 cond (decide (a 14 < 1)) (
 some (23)) (
 cond (decide (200000 < a 14)) (
 some (23)) (
 some (0)))))))))))))))))))))))))))))))) : Option (Int))) xx := by kernel_rfl
theorem ev20 (a : (aOne (pC (cA .i64 15))).T) : evF (R := (rOne (cI .i64)).T) (cx [(38, Tryd.f38)] [] []) 1000 Tryd.f20 ((aOne (pC (cA .i64 15))).enc gG a) (glMem gl) 2 (rOne (cI .i64)).dec = f20 a := evg20   a
theorem sp20 : VE.Spec Tryd.prog gG gl 20 (conF (aOne (pC (cA .i64 15))) (rOne (cI .i64)) (fun a => f20 a)) := spec_of ok20 Tryd.func20 Tryd.call20 (lpAll_nil rfl) 1000 (aOne_ok (pC_ok (cA_ok _ _))) (rOne_ok (cI_ok _)) ev20

/-- num.divide -/
theorem ok86 : CtxOK Tryd.prog (cx [] [] []) gl := ctx_of tyOk moOk (show SpecL Tryd.prog gG gl [] from trivial) (show FnL Tryd.prog [] from trivial) (fnLp_nil _) joinOk
noncomputable def f86 (a : Int) (b : Int) : Option (Int × Int) :=
 cond (decide (b = 0)) none (
 cond (decide (b = 0)) none (
 cond (decide (a.tmod b < 0)) (
 some ((IntKind.i64.wrap (IntKind.i64.wrap (a.tdiv b) - 1), IntKind.i64.wrap (a.tmod b + b)))) (
 some ((IntKind.i64.wrap (a.tdiv b), a.tmod b)))))
theorem evg86   (xx : (aCons (pC (cI .i64)) (aOne (pC (cI .i64)))).T) : evF (R := (rTup (cCons (cI .i64) (cOne (cI .i64)))).T) (cx [] [] []) 1000 Tryd.f86 ((aCons (pC (cI .i64)) (aOne (pC (cI .i64)))).enc gG xx) (glMem gl) 2 (rTup (cCons (cI .i64) (cOne (cI .i64)))).dec =
 (fun (a : Int) (b : Int) =>
 (( cond (decide (b = 0)) none (
 cond (decide (b = 0)) none (
 cond (decide (a.tmod b < 0)) (
 some ((IntKind.i64.wrap (IntKind.i64.wrap (a.tdiv b) - 1), IntKind.i64.wrap (a.tmod b + b)))) (
 some ((IntKind.i64.wrap (a.tdiv b), a.tmod b)))))) : Option (Int × Int))) xx.1 xx.2 := by kernel_rfl
theorem ev86 (a : (aCons (pC (cI .i64)) (aOne (pC (cI .i64)))).T) : evF (R := (rTup (cCons (cI .i64) (cOne (cI .i64)))).T) (cx [] [] []) 1000 Tryd.f86 ((aCons (pC (cI .i64)) (aOne (pC (cI .i64)))).enc gG a) (glMem gl) 2 (rTup (cCons (cI .i64) (cOne (cI .i64)))).dec = f86 a.1 a.2 := evg86   a
theorem sp86 : VE.Spec Tryd.prog gG gl 86 (conF (aCons (pC (cI .i64)) (aOne (pC (cI .i64)))) (rTup (cCons (cI .i64) (cOne (cI .i64)))) (fun a => f86 a.1 a.2)) := spec_of ok86 Tryd.func86 Tryd.call86 (lpAll_nil rfl) 1000 (aCons_ok (pC_ok (cI_ok _)) (aOne_ok (pC_ok (cI_ok _)))) (rTup_ok (cCons_ok (cI_ok _) (cOne_ok (cI_ok _)))) ev86

/-- num.nearest -/
theorem ok71 : CtxOK Tryd.prog (cx [] [(86, conF (aCons (pC (cI .i64)) (aOne (pC (cI .i64)))) (rTup (cCons (cI .i64) (cOne (cI .i64)))) (fun a => f86 (a.1) (a.2)))] []) gl := ctx_of tyOk moOk (show SpecL Tryd.prog gG gl [(86, conF (aCons (pC (cI .i64)) (aOne (pC (cI .i64)))) (rTup (cCons (cI .i64) (cOne (cI .i64)))) (fun a => f86 (a.1) (a.2)))] from ⟨sp86, trivial⟩) (show FnL Tryd.prog [] from trivial) (fnLp_nil _) joinOk
noncomputable def f71 (a : Int) (b : Int) : Option (Int) :=
 Option.bind (f86 a b) (fun r2 =>
 cond (decide (b < IntKind.i64.wrap (2 * r2.snd))) (
 some (IntKind.i64.wrap (r2.fst + 1))) (
 cond (decide (IntKind.i64.wrap (2 * r2.snd) = b)) (
 cond (!decide (r2.fst.tmod 2 = 0)) (
 some (IntKind.i64.wrap (r2.fst + 1))) (
 some (r2.fst))) (
 some (r2.fst))))
theorem evg71 (f86 : (Int) → (Int) → Option (Int × Int))  (xx : (aCons (pC (cI .i64)) (aOne (pC (cI .i64)))).T) : evF (R := (rOne (cI .i64)).T) (cx [] [(86, conF (aCons (pC (cI .i64)) (aOne (pC (cI .i64)))) (rTup (cCons (cI .i64) (cOne (cI .i64)))) (fun a => f86 (a.1) (a.2)))] []) 1000 Tryd.f71 ((aCons (pC (cI .i64)) (aOne (pC (cI .i64)))).enc gG xx) (glMem gl) 2 (rOne (cI .i64)).dec =
 (fun (a : Int) (b : Int) =>
 (( Option.bind (f86 a b) (fun r2 =>
 cond (decide (b < IntKind.i64.wrap (2 * r2.snd))) (
 some (IntKind.i64.wrap (r2.fst + 1))) (
 cond (decide (IntKind.i64.wrap (2 * r2.snd) = b)) (
 cond (!decide (r2.fst.tmod 2 = 0)) (
 some (IntKind.i64.wrap (r2.fst + 1))) (
 some (r2.fst))) (
 some (r2.fst))))) : Option (Int))) xx.1 xx.2 := by kernel_rfl
theorem ev71 (a : (aCons (pC (cI .i64)) (aOne (pC (cI .i64)))).T) : evF (R := (rOne (cI .i64)).T) (cx [] [(86, conF (aCons (pC (cI .i64)) (aOne (pC (cI .i64)))) (rTup (cCons (cI .i64) (cOne (cI .i64)))) (fun a => f86 (a.1) (a.2)))] []) 1000 Tryd.f71 ((aCons (pC (cI .i64)) (aOne (pC (cI .i64)))).enc gG a) (glMem gl) 2 (rOne (cI .i64)).dec = f71 a.1 a.2 := evg71 f86  a
theorem sp71 : VE.Spec Tryd.prog gG gl 71 (conF (aCons (pC (cI .i64)) (aOne (pC (cI .i64)))) (rOne (cI .i64)) (fun a => f71 a.1 a.2)) := spec_of ok71 Tryd.func71 Tryd.call71 (lpAll_nil rfl) 1000 (aCons_ok (pC_ok (cI_ok _)) (aOne_ok (pC_ok (cI_ok _)))) (rOne_ok (cI_ok _)) ev71

/-- num.Round -/
theorem ok50 : CtxOK Tryd.prog (cx [(70, Tryd.f70)] [(71, conF (aCons (pC (cI .i64)) (aOne (pC (cI .i64)))) (rOne (cI .i64)) (fun a => f71 (a.1) (a.2)))] []) gl := ctx_of tyOk moOk (show SpecL Tryd.prog gG gl [(71, conF (aCons (pC (cI .i64)) (aOne (pC (cI .i64)))) (rOne (cI .i64)) (fun a => f71 (a.1) (a.2)))] from ⟨sp71, trivial⟩) (show FnL Tryd.prog [(70, Tryd.f70)] from ⟨⟨Tryd.func70, Tryd.call70⟩, trivial⟩) (fnLp_nil _) joinOk
noncomputable def f50 (a : Int) (b : Int) : Option (Int × Int) :=
 cond (decide (a < -1125899906842624)) (
 some ((0, 1))) (
 cond (decide (1125899906842624 < a)) (
 some ((0, 1))) (
 cond (decide (b < -1125899906842624)) (
 some ((0, 1))) (
 cond (decide (1125899906842624 < b)) (
 some ((0, 1))) (
 cond (decide (b = 0)) (
 some ((0, 11))) (
 cond (decide (b < 0)) (
 Option.bind (f71 (IntKind.i64.wrap (0 - a)) (IntKind.i64.wrap (0 - b))) (fun r2 =>
 some ((r2, 0)))) (
 Option.bind (f71 a b) (fun r2 =>
 some ((r2, 0)))))))))
theorem evg50 (f71 : (Int) → (Int) → Option (Int))  (xx : (aCons (pC (cI .i64)) (aOne (pC (cI .i64)))).T) : evF (R := (rTup (cCons (cI .i64) (cOne (cI .i64)))).T) (cx [(70, Tryd.f70)] [(71, conF (aCons (pC (cI .i64)) (aOne (pC (cI .i64)))) (rOne (cI .i64)) (fun a => f71 (a.1) (a.2)))] []) 1000 Tryd.f50 ((aCons (pC (cI .i64)) (aOne (pC (cI .i64)))).enc gG xx) (glMem gl) 2 (rTup (cCons (cI .i64) (cOne (cI .i64)))).dec =
 (fun (a : Int) (b : Int) =>
 (( cond (decide (a < -1125899906842624)) (
 some ((0, 1))) (
 cond (decide (1125899906842624 < a)) (
 some ((0, 1))) (
 cond (decide (b < -1125899906842624)) (
 some ((0, 1))) (
 cond (decide (1125899906842624 < b)) (
 some ((0, 1))) (
 cond (decide (b = 0)) (
 some ((0, 11))) (
 cond (decide (b < 0)) (
 Option.bind (f71 (IntKind.i64.wrap (0 - a)) (IntKind.i64.wrap (0 - b))) (fun r2 =>
 some ((r2, 0)))) (
 Option.bind (f71 a b) (fun r2 =>
 some ((r2, 0)))))))))) : Option (Int × Int))) xx.1 xx.2 := by kernel_rfl
theorem ev50 (a : (aCons (pC (cI .i64)) (aOne (pC (cI .i64)))).T) : evF (R := (rTup (cCons (cI .i64) (cOne (cI .i64)))).T) (cx [(70, Tryd.f70)] [(71, conF (aCons (pC (cI .i64)) (aOne (pC (cI .i64)))) (rOne (cI .i64)) (fun a => f71 (a.1) (a.2)))] []) 1000 Tryd.f50 ((aCons (pC (cI .i64)) (aOne (pC (cI .i64)))).enc gG a) (glMem gl) 2 (rTup (cCons (cI .i64) (cOne (cI .i64)))).dec = f50 a.1 a.2 := evg50 f71  a
theorem sp50 : VE.Spec Tryd.prog gG gl 50 (conF (aCons (pC (cI .i64)) (aOne (pC (cI .i64)))) (rTup (cCons (cI .i64) (cOne (cI .i64)))) (fun a => f50 a.1 a.2)) := spec_of ok50 Tryd.func50 Tryd.call50 (lpAll_nil rfl) 1000 (aCons_ok (pC_ok (cI_ok _)) (aOne_ok (pC_ok (cI_ok _)))) (rTup_ok (cCons_ok (cI_ok _) (cOne_ok (cI_ok _)))) ev50

/-- joints.height -/
theorem ok43 : CtxOK Tryd.prog (cx [] [(50, conF (aCons (pC (cI .i64)) (aOne (pC (cI .i64)))) (rTup (cCons (cI .i64) (cOne (cI .i64)))) (fun a => f50 (a.1) (a.2)))] []) gl := ctx_of tyOk moOk (show SpecL Tryd.prog gG gl [(50, conF (aCons (pC (cI .i64)) (aOne (pC (cI .i64)))) (rTup (cCons (cI .i64) (cOne (cI .i64)))) (fun a => f50 (a.1) (a.2)))] from ⟨sp50, trivial⟩) (show FnL Tryd.prog [] from trivial) (fnLp_nil _) joinOk
noncomputable def f43 (a : Nat → Int) (b : Int) : Option (Int) :=
 cond (decide (b < 0)) (
 Option.bind (f50 (IntKind.i64.wrap (a 7 * b)) 8) (fun r2 =>
 some (IntKind.i64.wrap (a 0 + r2.fst)))) (
 Option.bind (f50 (IntKind.i64.wrap (a 8 * b)) 8) (fun r2 =>
 some (IntKind.i64.wrap (a 0 + r2.fst))))
theorem evg43 (f50 : (Int) → (Int) → Option (Int × Int))  (xx : (aCons (pC (cA .i64 15)) (aOne (pC (cI .i64)))).T) : evF (R := (rOne (cI .i64)).T) (cx [] [(50, conF (aCons (pC (cI .i64)) (aOne (pC (cI .i64)))) (rTup (cCons (cI .i64) (cOne (cI .i64)))) (fun a => f50 (a.1) (a.2)))] []) 1000 Tryd.f43 ((aCons (pC (cA .i64 15)) (aOne (pC (cI .i64)))).enc gG xx) (glMem gl) 2 (rOne (cI .i64)).dec =
 (fun (a : Nat → Int) (b : Int) =>
 (( cond (decide (b < 0)) (
 Option.bind (f50 (IntKind.i64.wrap (a 7 * b)) 8) (fun r2 =>
 some (IntKind.i64.wrap (a 0 + r2.fst)))) (
 Option.bind (f50 (IntKind.i64.wrap (a 8 * b)) 8) (fun r2 =>
 some (IntKind.i64.wrap (a 0 + r2.fst))))) : Option (Int))) xx.1 xx.2 := by kernel_rfl
theorem ev43 (a : (aCons (pC (cA .i64 15)) (aOne (pC (cI .i64)))).T) : evF (R := (rOne (cI .i64)).T) (cx [] [(50, conF (aCons (pC (cI .i64)) (aOne (pC (cI .i64)))) (rTup (cCons (cI .i64) (cOne (cI .i64)))) (fun a => f50 (a.1) (a.2)))] []) 1000 Tryd.f43 ((aCons (pC (cA .i64 15)) (aOne (pC (cI .i64)))).enc gG a) (glMem gl) 2 (rOne (cI .i64)).dec = f43 a.1 a.2 := evg43 f50  a
theorem sp43 : VE.Spec Tryd.prog gG gl 43 (conF (aCons (pC (cA .i64 15)) (aOne (pC (cI .i64)))) (rOne (cI .i64)) (fun a => f43 a.1 a.2)) := spec_of ok43 Tryd.func43 Tryd.call43 (lpAll_nil rfl) 1000 (aCons_ok (pC_ok (cA_ok _ _)) (aOne_ok (pC_ok (cI_ok _)))) (rOne_ok (cI_ok _)) ev43

/-- joints.plus -/
theorem ok44 : CtxOK Tryd.prog (cx [] [] []) gl := ctx_of tyOk moOk (show SpecL Tryd.prog gG gl [] from trivial) (show FnL Tryd.prog [] from trivial) (fnLp_nil _) joinOk
noncomputable def f44 (a : Nat → Int) (b : Nat → Int) : Option ((Nat → Int)) :=
 some (nthI [IntKind.i64.wrap (a 0 + b 0), IntKind.i64.wrap (a 1 + b 1), IntKind.i64.wrap (a 2 + b 2)])
theorem evg44   (xx : (aCons (pC (cA .i64 3)) (aOne (pC (cA .i64 3)))).T) : evF (R := (rOne (cA .i64 3)).T) (cx [] [] []) 1000 Tryd.f44 ((aCons (pC (cA .i64 3)) (aOne (pC (cA .i64 3)))).enc gG xx) (glMem gl) 2 (rOne (cA .i64 3)).dec =
 (fun (a : Nat → Int) (b : Nat → Int) =>
 (( some (nthI [IntKind.i64.wrap (a 0 + b 0), IntKind.i64.wrap (a 1 + b 1), IntKind.i64.wrap (a 2 + b 2)])) : Option ((Nat → Int)))) xx.1 xx.2 := by kernel_rfl
theorem ev44 (a : (aCons (pC (cA .i64 3)) (aOne (pC (cA .i64 3)))).T) : evF (R := (rOne (cA .i64 3)).T) (cx [] [] []) 1000 Tryd.f44 ((aCons (pC (cA .i64 3)) (aOne (pC (cA .i64 3)))).enc gG a) (glMem gl) 2 (rOne (cA .i64 3)).dec = f44 a.1 a.2 := evg44   a
theorem sp44 : VE.Spec Tryd.prog gG gl 44 (conF (aCons (pC (cA .i64 3)) (aOne (pC (cA .i64 3)))) (rOne (cA .i64 3)) (fun a => f44 a.1 a.2)) := spec_of ok44 Tryd.func44 Tryd.call44 (lpAll_nil rfl) 1000 (aCons_ok (pC_ok (cA_ok _ _)) (aOne_ok (pC_ok (cA_ok _ _)))) (rOne_ok (cA_ok _ _)) ev44

/-- angle.Norm -/
theorem ok66 : CtxOK Tryd.prog (cx [] [] []) gl := ctx_of tyOk moOk (show SpecL Tryd.prog gG gl [] from trivial) (show FnL Tryd.prog [] from trivial) (fnLp_nil _) joinOk
noncomputable def f66 (a : Int) : Option (Int) :=
 some ((IntKind.i64.wrap (a.tmod 256 + 256)).tmod 256)
theorem evg66   (xx : (aOne (pC (cI .i64))).T) : evF (R := (rOne (cI .i64)).T) (cx [] [] []) 1000 Tryd.f66 ((aOne (pC (cI .i64))).enc gG xx) (glMem gl) 2 (rOne (cI .i64)).dec =
 (fun (a : Int) =>
 (( some ((IntKind.i64.wrap (a.tmod 256 + 256)).tmod 256)) : Option (Int))) xx := by kernel_rfl
theorem ev66 (a : (aOne (pC (cI .i64))).T) : evF (R := (rOne (cI .i64)).T) (cx [] [] []) 1000 Tryd.f66 ((aOne (pC (cI .i64))).enc gG a) (glMem gl) 2 (rOne (cI .i64)).dec = f66 a := evg66   a
theorem sp66 : VE.Spec Tryd.prog gG gl 66 (conF (aOne (pC (cI .i64))) (rOne (cI .i64)) (fun a => f66 a)) := spec_of ok66 Tryd.func66 Tryd.call66 (lpAll_nil rfl) 1000 (aOne_ok (pC_ok (cI_ok _))) (rOne_ok (cI_ok _)) ev66

/-- angle.Sin -/
theorem ok85 : CtxOK Tryd.prog (cx [] [(66, conF (aOne (pC (cI .i64))) (rOne (cI .i64)) (fun a => f66 a))] []) gl := ctx_of tyOk moOk (show SpecL Tryd.prog gG gl [(66, conF (aOne (pC (cI .i64))) (rOne (cI .i64)) (fun a => f66 a))] from ⟨sp66, trivial⟩) (show FnL Tryd.prog [] from trivial) (fnLp_nil _) joinOk
noncomputable def f85 (a : Int) : Option (Int) :=
 Option.bind (f66 a) (fun r1 =>
 cond (decide (r1 ≤ 64)) (
 cond (decide (0 ≤ r1)) (
 cond (decide (r1 < 65)) (
 some (tab0.getD r1.toNat 0)) none) none) (
 cond (decide (r1 ≤ 128)) (
 cond (decide (0 ≤ IntKind.i64.wrap (128 - r1))) (
 cond (decide (IntKind.i64.wrap (128 - r1) < 65)) (
 some (tab0.getD (IntKind.i64.wrap (128 - r1)).toNat 0)) none) none) (
 cond (decide (r1 ≤ 192)) (
 cond (decide (0 ≤ IntKind.i64.wrap (r1 - 128))) (
 cond (decide (IntKind.i64.wrap (r1 - 128) < 65)) (
 some (IntKind.i64.wrap (0 - tab0.getD (IntKind.i64.wrap (r1 - 128)).toNat 0))) none) none) (
 cond (decide (0 ≤ IntKind.i64.wrap (256 - r1))) (
 cond (decide (IntKind.i64.wrap (256 - r1) < 65)) (
 some (IntKind.i64.wrap (0 - tab0.getD (IntKind.i64.wrap (256 - r1)).toNat 0))) none) none))))
theorem evg85 (f66 : (Int) → Option (Int))  (xx : (aOne (pC (cI .i64))).T) : evF (R := (rOne (cI .i64)).T) (cx [] [(66, conF (aOne (pC (cI .i64))) (rOne (cI .i64)) (fun a => f66 a))] []) 1000 Tryd.f85 ((aOne (pC (cI .i64))).enc gG xx) (glMem gl) 2 (rOne (cI .i64)).dec =
 (fun (a : Int) =>
 (( Option.bind (f66 a) (fun r1 =>
 cond (decide (r1 ≤ 64)) (
 cond (decide (0 ≤ r1)) (
 cond (decide (r1 < 65)) (
 some (tab0.getD r1.toNat 0)) none) none) (
 cond (decide (r1 ≤ 128)) (
 cond (decide (0 ≤ IntKind.i64.wrap (128 - r1))) (
 cond (decide (IntKind.i64.wrap (128 - r1) < 65)) (
 some (tab0.getD (IntKind.i64.wrap (128 - r1)).toNat 0)) none) none) (
 cond (decide (r1 ≤ 192)) (
 cond (decide (0 ≤ IntKind.i64.wrap (r1 - 128))) (
 cond (decide (IntKind.i64.wrap (r1 - 128) < 65)) (
 some (IntKind.i64.wrap (0 - tab0.getD (IntKind.i64.wrap (r1 - 128)).toNat 0))) none) none) (
 cond (decide (0 ≤ IntKind.i64.wrap (256 - r1))) (
 cond (decide (IntKind.i64.wrap (256 - r1) < 65)) (
 some (IntKind.i64.wrap (0 - tab0.getD (IntKind.i64.wrap (256 - r1)).toNat 0))) none) none))))) : Option (Int))) xx := by kernel_rfl
theorem ev85 (a : (aOne (pC (cI .i64))).T) : evF (R := (rOne (cI .i64)).T) (cx [] [(66, conF (aOne (pC (cI .i64))) (rOne (cI .i64)) (fun a => f66 a))] []) 1000 Tryd.f85 ((aOne (pC (cI .i64))).enc gG a) (glMem gl) 2 (rOne (cI .i64)).dec = f85 a := evg85 f66  a
theorem sp85 : VE.Spec Tryd.prog gG gl 85 (conF (aOne (pC (cI .i64))) (rOne (cI .i64)) (fun a => f85 a)) := spec_of ok85 Tryd.func85 Tryd.call85 (lpAll_nil rfl) 1000 (aOne_ok (pC_ok (cI_ok _))) (rOne_ok (cI_ok _)) ev85

/-- angle.Cos -/
theorem ok84 : CtxOK Tryd.prog (cx [] [(66, conF (aOne (pC (cI .i64))) (rOne (cI .i64)) (fun a => f66 a)), (85, conF (aOne (pC (cI .i64))) (rOne (cI .i64)) (fun a => f85 a))] []) gl := ctx_of tyOk moOk (show SpecL Tryd.prog gG gl [(66, conF (aOne (pC (cI .i64))) (rOne (cI .i64)) (fun a => f66 a)), (85, conF (aOne (pC (cI .i64))) (rOne (cI .i64)) (fun a => f85 a))] from ⟨sp66, sp85, trivial⟩) (show FnL Tryd.prog [] from trivial) (fnLp_nil _) joinOk
noncomputable def f84 (a : Int) : Option (Int) :=
 Option.bind (f66 a) (fun r1 =>
 Option.bind (f85 (IntKind.i64.wrap (r1 + 64))) (fun r2 =>
 some (r2)))
theorem evg84 (f66 : (Int) → Option (Int)) (f85 : (Int) → Option (Int))  (xx : (aOne (pC (cI .i64))).T) : evF (R := (rOne (cI .i64)).T) (cx [] [(66, conF (aOne (pC (cI .i64))) (rOne (cI .i64)) (fun a => f66 a)), (85, conF (aOne (pC (cI .i64))) (rOne (cI .i64)) (fun a => f85 a))] []) 1000 Tryd.f84 ((aOne (pC (cI .i64))).enc gG xx) (glMem gl) 2 (rOne (cI .i64)).dec =
 (fun (a : Int) =>
 (( Option.bind (f66 a) (fun r1 =>
 Option.bind (f85 (IntKind.i64.wrap (r1 + 64))) (fun r2 =>
 some (r2)))) : Option (Int))) xx := by kernel_rfl
theorem ev84 (a : (aOne (pC (cI .i64))).T) : evF (R := (rOne (cI .i64)).T) (cx [] [(66, conF (aOne (pC (cI .i64))) (rOne (cI .i64)) (fun a => f66 a)), (85, conF (aOne (pC (cI .i64))) (rOne (cI .i64)) (fun a => f85 a))] []) 1000 Tryd.f84 ((aOne (pC (cI .i64))).enc gG a) (glMem gl) 2 (rOne (cI .i64)).dec = f84 a := evg84 f66 f85  a
theorem sp84 : VE.Spec Tryd.prog gG gl 84 (conF (aOne (pC (cI .i64))) (rOne (cI .i64)) (fun a => f84 a)) := spec_of ok84 Tryd.func84 Tryd.call84 (lpAll_nil rfl) 1000 (aOne_ok (pC_ok (cI_ok _))) (rOne_ok (cI_ok _)) ev84

/-- aim.Vector -/
theorem ok67 : CtxOK Tryd.prog (cx [] [(37, conF (aCons (pC (cI .i64)) (aOne (pC (cA .i64 3)))) (rOne (cI .i64)) (fun a => f37 (a.1) (a.2))), (50, conF (aCons (pC (cI .i64)) (aOne (pC (cI .i64)))) (rTup (cCons (cI .i64) (cOne (cI .i64)))) (fun a => f50 (a.1) (a.2))), (66, conF (aOne (pC (cI .i64))) (rOne (cI .i64)) (fun a => f66 a)), (84, conF (aOne (pC (cI .i64))) (rOne (cI .i64)) (fun a => f84 a)), (85, conF (aOne (pC (cI .i64))) (rOne (cI .i64)) (fun a => f85 a))] []) gl := ctx_of tyOk moOk (show SpecL Tryd.prog gG gl [(37, conF (aCons (pC (cI .i64)) (aOne (pC (cA .i64 3)))) (rOne (cI .i64)) (fun a => f37 (a.1) (a.2))), (50, conF (aCons (pC (cI .i64)) (aOne (pC (cI .i64)))) (rTup (cCons (cI .i64) (cOne (cI .i64)))) (fun a => f50 (a.1) (a.2))), (66, conF (aOne (pC (cI .i64))) (rOne (cI .i64)) (fun a => f66 a)), (84, conF (aOne (pC (cI .i64))) (rOne (cI .i64)) (fun a => f84 a)), (85, conF (aOne (pC (cI .i64))) (rOne (cI .i64)) (fun a => f85 a))] from ⟨sp37, sp50, sp66, sp84, sp85, trivial⟩) (show FnL Tryd.prog [] from trivial) (fnLp_nil _) joinOk
noncomputable def f67 (a : Nat → Int) (b : Int) : Option ((Nat → Int) × Int) :=
 Option.bind (f37 0 a) (fun r2 =>
 cond (!decide (r2 = 0)) (
 some ((nthI [0, 0, 0], r2))) (
 Option.bind (f66 b) (fun r3 =>
 Option.bind (f84 (a 1)) (fun r4 =>
 Option.bind (f85 (IntKind.i64.wrap (a 0 + r3))) (fun r5 =>
 Option.bind (f50 (IntKind.i64.wrap (r4 * r5)) 16384) (fun r6 =>
 Option.bind (f84 (IntKind.i64.wrap (a 0 + r3))) (fun r7 =>
 Option.bind (f50 (IntKind.i64.wrap (r4 * r7)) 16384) (fun r8 =>
 Option.bind (f85 (a 1)) (fun r9 =>
 some ((nthI [r6.fst, r8.fst, r9], 0)))))))))))
theorem evg67 (f37 : (Int) → (Nat → Int) → Option (Int)) (f50 : (Int) → (Int) → Option (Int × Int)) (f66 : (Int) → Option (Int)) (f84 : (Int) → Option (Int)) (f85 : (Int) → Option (Int))  (xx : (aCons (pC (cA .i64 3)) (aOne (pC (cI .i64)))).T) : evF (R := (rTup (cCons (cA .i64 3) (cOne (cI .i64)))).T) (cx [] [(37, conF (aCons (pC (cI .i64)) (aOne (pC (cA .i64 3)))) (rOne (cI .i64)) (fun a => f37 (a.1) (a.2))), (50, conF (aCons (pC (cI .i64)) (aOne (pC (cI .i64)))) (rTup (cCons (cI .i64) (cOne (cI .i64)))) (fun a => f50 (a.1) (a.2))), (66, conF (aOne (pC (cI .i64))) (rOne (cI .i64)) (fun a => f66 a)), (84, conF (aOne (pC (cI .i64))) (rOne (cI .i64)) (fun a => f84 a)), (85, conF (aOne (pC (cI .i64))) (rOne (cI .i64)) (fun a => f85 a))] []) 1000 Tryd.f67 ((aCons (pC (cA .i64 3)) (aOne (pC (cI .i64)))).enc gG xx) (glMem gl) 2 (rTup (cCons (cA .i64 3) (cOne (cI .i64)))).dec =
 (fun (a : Nat → Int) (b : Int) =>
 (( Option.bind (f37 0 (nthI [a 0, a 1, a 2])) (fun r2 =>
 cond (!decide (r2 = 0)) (
 some ((nthI [0, 0, 0], r2))) (
 Option.bind (f66 b) (fun r3 =>
 Option.bind (f84 (a 1)) (fun r4 =>
 Option.bind (f85 (IntKind.i64.wrap (a 0 + r3))) (fun r5 =>
 Option.bind (f50 (IntKind.i64.wrap (r4 * r5)) 16384) (fun r6 =>
 Option.bind (f84 (IntKind.i64.wrap (a 0 + r3))) (fun r7 =>
 Option.bind (f50 (IntKind.i64.wrap (r4 * r7)) 16384) (fun r8 =>
 Option.bind (f85 (a 1)) (fun r9 =>
 some ((nthI [r6.fst, r8.fst, r9], 0)))))))))))) : Option ((Nat → Int) × Int))) xx.1 xx.2 := by kernel_rfl
noncomputable def g67 (a : Nat → Int) (b : Int) : Option ((Nat → Int) × Int) :=
 Option.bind (f37 0 (nthI [a 0, a 1, a 2])) (fun r2 =>
 cond (!decide (r2 = 0)) (
 some ((nthI [0, 0, 0], r2))) (
 Option.bind (f66 b) (fun r3 =>
 Option.bind (f84 (a 1)) (fun r4 =>
 Option.bind (f85 (IntKind.i64.wrap (a 0 + r3))) (fun r5 =>
 Option.bind (f50 (IntKind.i64.wrap (r4 * r5)) 16384) (fun r6 =>
 Option.bind (f84 (IntKind.i64.wrap (a 0 + r3))) (fun r7 =>
 Option.bind (f50 (IntKind.i64.wrap (r4 * r7)) 16384) (fun r8 =>
 Option.bind (f85 (a 1)) (fun r9 =>
 some ((nthI [r6.fst, r8.fst, r9], 0)))))))))))
theorem fg67 (a : Nat → Int) (b : Int) : g67 a b = f67 a b := by kernel_rfl
theorem ev67 (a : (aCons (pC (cA .i64 3)) (aOne (pC (cI .i64)))).T) : evF (R := (rTup (cCons (cA .i64 3) (cOne (cI .i64)))).T) (cx [] [(37, conF (aCons (pC (cI .i64)) (aOne (pC (cA .i64 3)))) (rOne (cI .i64)) (fun a => f37 (a.1) (a.2))), (50, conF (aCons (pC (cI .i64)) (aOne (pC (cI .i64)))) (rTup (cCons (cI .i64) (cOne (cI .i64)))) (fun a => f50 (a.1) (a.2))), (66, conF (aOne (pC (cI .i64))) (rOne (cI .i64)) (fun a => f66 a)), (84, conF (aOne (pC (cI .i64))) (rOne (cI .i64)) (fun a => f84 a)), (85, conF (aOne (pC (cI .i64))) (rOne (cI .i64)) (fun a => f85 a))] []) 1000 Tryd.f67 ((aCons (pC (cA .i64 3)) (aOne (pC (cI .i64)))).enc gG a) (glMem gl) 2 (rTup (cCons (cA .i64 3) (cOne (cI .i64)))).dec = f67 a.1 a.2 := (show evF (R := (rTup (cCons (cA .i64 3) (cOne (cI .i64)))).T) (cx [] [(37, conF (aCons (pC (cI .i64)) (aOne (pC (cA .i64 3)))) (rOne (cI .i64)) (fun a => f37 (a.1) (a.2))), (50, conF (aCons (pC (cI .i64)) (aOne (pC (cI .i64)))) (rTup (cCons (cI .i64) (cOne (cI .i64)))) (fun a => f50 (a.1) (a.2))), (66, conF (aOne (pC (cI .i64))) (rOne (cI .i64)) (fun a => f66 a)), (84, conF (aOne (pC (cI .i64))) (rOne (cI .i64)) (fun a => f84 a)), (85, conF (aOne (pC (cI .i64))) (rOne (cI .i64)) (fun a => f85 a))] []) 1000 Tryd.f67 ((aCons (pC (cA .i64 3)) (aOne (pC (cI .i64)))).enc gG a) (glMem gl) 2 (rTup (cCons (cA .i64 3) (cOne (cI .i64)))).dec = g67 a.1 a.2 from evg67 f37 f50 f66 f84 f85  a).trans (fg67 a.1 a.2)
theorem sp67 : VE.Spec Tryd.prog gG gl 67 (conF (aCons (pC (cA .i64 3)) (aOne (pC (cI .i64)))) (rTup (cCons (cA .i64 3) (cOne (cI .i64)))) (fun a => f67 a.1 a.2)) := spec_of ok67 Tryd.func67 Tryd.call67 (lpAll_nil rfl) 1000 (aCons_ok (pC_ok (cA_ok _ _)) (aOne_ok (pC_ok (cI_ok _)))) (rTup_ok (cCons_ok (cA_ok _ _) (cOne_ok (cI_ok _)))) ev67

/-- joints.along -/
theorem ok45 : CtxOK Tryd.prog (cx [(68, Tryd.f68)] [(50, conF (aCons (pC (cI .i64)) (aOne (pC (cI .i64)))) (rTup (cCons (cI .i64) (cOne (cI .i64)))) (fun a => f50 (a.1) (a.2))), (67, conF (aCons (pC (cA .i64 3)) (aOne (pC (cI .i64)))) (rTup (cCons (cA .i64 3) (cOne (cI .i64)))) (fun a => f67 (a.1) (a.2)))] []) gl := ctx_of tyOk moOk (show SpecL Tryd.prog gG gl [(50, conF (aCons (pC (cI .i64)) (aOne (pC (cI .i64)))) (rTup (cCons (cI .i64) (cOne (cI .i64)))) (fun a => f50 (a.1) (a.2))), (67, conF (aCons (pC (cA .i64 3)) (aOne (pC (cI .i64)))) (rTup (cCons (cA .i64 3) (cOne (cI .i64)))) (fun a => f67 (a.1) (a.2)))] from ⟨sp50, sp67, trivial⟩) (show FnL Tryd.prog [(68, Tryd.f68)] from ⟨⟨Tryd.func68, Tryd.call68⟩, trivial⟩) (fnLp_nil _) joinOk
noncomputable def f45 (a : Int) (b : Nat → Int) (c : Int) : Option ((Nat → Int)) :=
 Option.bind (f67 b c) (fun r3 =>
 Option.bind (f50 (IntKind.i64.wrap (IntKind.i64.wrap (a * IntKind.i64.wrap (8 - b 2)) * r3.fst 0)) 131072) (fun r4 =>
 Option.bind (f50 (IntKind.i64.wrap (IntKind.i64.wrap (a * IntKind.i64.wrap (8 - b 2)) * r3.fst 1)) 131072) (fun r5 =>
 Option.bind (f50 (IntKind.i64.wrap (IntKind.i64.wrap (a * IntKind.i64.wrap (8 - b 2)) * r3.fst 2)) 131072) (fun r6 =>
 some (nthI [r4.fst, r5.fst, r6.fst])))))
theorem evg45 (f50 : (Int) → (Int) → Option (Int × Int)) (f67 : (Nat → Int) → (Int) → Option ((Nat → Int) × Int))  (xx : (aCons (pC (cI .i64)) (aCons (pC (cA .i64 3)) (aOne (pC (cI .i64))))).T) : evF (R := (rOne (cA .i64 3)).T) (cx [(68, Tryd.f68)] [(50, conF (aCons (pC (cI .i64)) (aOne (pC (cI .i64)))) (rTup (cCons (cI .i64) (cOne (cI .i64)))) (fun a => f50 (a.1) (a.2))), (67, conF (aCons (pC (cA .i64 3)) (aOne (pC (cI .i64)))) (rTup (cCons (cA .i64 3) (cOne (cI .i64)))) (fun a => f67 (a.1) (a.2)))] []) 1000 Tryd.f45 ((aCons (pC (cI .i64)) (aCons (pC (cA .i64 3)) (aOne (pC (cI .i64))))).enc gG xx) (glMem gl) 2 (rOne (cA .i64 3)).dec =
 (fun (a : Int) (b : Nat → Int) (c : Int) =>
 (( Option.bind (f67 (nthI [b 0, b 1, b 2]) c) (fun r3 =>
 Option.bind (f50 (IntKind.i64.wrap (IntKind.i64.wrap (a * IntKind.i64.wrap (8 - b 2)) * r3.fst 0)) 131072) (fun r4 =>
 Option.bind (f50 (IntKind.i64.wrap (IntKind.i64.wrap (a * IntKind.i64.wrap (8 - b 2)) * r3.fst 1)) 131072) (fun r5 =>
 Option.bind (f50 (IntKind.i64.wrap (IntKind.i64.wrap (a * IntKind.i64.wrap (8 - b 2)) * r3.fst 2)) 131072) (fun r6 =>
 some (nthI [r4.fst, r5.fst, r6.fst])))))) : Option ((Nat → Int)))) xx.1 xx.2.1 xx.2.2 := by kernel_rfl
noncomputable def g45 (a : Int) (b : Nat → Int) (c : Int) : Option ((Nat → Int)) :=
 Option.bind (f67 (nthI [b 0, b 1, b 2]) c) (fun r3 =>
 Option.bind (f50 (IntKind.i64.wrap (IntKind.i64.wrap (a * IntKind.i64.wrap (8 - b 2)) * r3.fst 0)) 131072) (fun r4 =>
 Option.bind (f50 (IntKind.i64.wrap (IntKind.i64.wrap (a * IntKind.i64.wrap (8 - b 2)) * r3.fst 1)) 131072) (fun r5 =>
 Option.bind (f50 (IntKind.i64.wrap (IntKind.i64.wrap (a * IntKind.i64.wrap (8 - b 2)) * r3.fst 2)) 131072) (fun r6 =>
 some (nthI [r4.fst, r5.fst, r6.fst])))))
theorem fg45 (a : Int) (b : Nat → Int) (c : Int) : g45 a b c = f45 a b c := by kernel_rfl
theorem ev45 (a : (aCons (pC (cI .i64)) (aCons (pC (cA .i64 3)) (aOne (pC (cI .i64))))).T) : evF (R := (rOne (cA .i64 3)).T) (cx [(68, Tryd.f68)] [(50, conF (aCons (pC (cI .i64)) (aOne (pC (cI .i64)))) (rTup (cCons (cI .i64) (cOne (cI .i64)))) (fun a => f50 (a.1) (a.2))), (67, conF (aCons (pC (cA .i64 3)) (aOne (pC (cI .i64)))) (rTup (cCons (cA .i64 3) (cOne (cI .i64)))) (fun a => f67 (a.1) (a.2)))] []) 1000 Tryd.f45 ((aCons (pC (cI .i64)) (aCons (pC (cA .i64 3)) (aOne (pC (cI .i64))))).enc gG a) (glMem gl) 2 (rOne (cA .i64 3)).dec = f45 a.1 a.2.1 a.2.2 := (show evF (R := (rOne (cA .i64 3)).T) (cx [(68, Tryd.f68)] [(50, conF (aCons (pC (cI .i64)) (aOne (pC (cI .i64)))) (rTup (cCons (cI .i64) (cOne (cI .i64)))) (fun a => f50 (a.1) (a.2))), (67, conF (aCons (pC (cA .i64 3)) (aOne (pC (cI .i64)))) (rTup (cCons (cA .i64 3) (cOne (cI .i64)))) (fun a => f67 (a.1) (a.2)))] []) 1000 Tryd.f45 ((aCons (pC (cI .i64)) (aCons (pC (cA .i64 3)) (aOne (pC (cI .i64))))).enc gG a) (glMem gl) 2 (rOne (cA .i64 3)).dec = g45 a.1 a.2.1 a.2.2 from evg45 f50 f67  a).trans (fg45 a.1 a.2.1 a.2.2)
theorem sp45 : VE.Spec Tryd.prog gG gl 45 (conF (aCons (pC (cI .i64)) (aCons (pC (cA .i64 3)) (aOne (pC (cI .i64))))) (rOne (cA .i64 3)) (fun a => f45 a.1 a.2.1 a.2.2)) := spec_of ok45 Tryd.func45 Tryd.call45 (lpAll_nil rfl) 1000 (aCons_ok (pC_ok (cI_ok _)) (aCons_ok (pC_ok (cA_ok _ _)) (aOne_ok (pC_ok (cI_ok _))))) (rOne_ok (cA_ok _ _)) ev45

/-- angle.Turned -/
theorem ok69 : CtxOK Tryd.prog (cx [] [(50, conF (aCons (pC (cI .i64)) (aOne (pC (cI .i64)))) (rTup (cCons (cI .i64) (cOne (cI .i64)))) (fun a => f50 (a.1) (a.2))), (84, conF (aOne (pC (cI .i64))) (rOne (cI .i64)) (fun a => f84 a)), (85, conF (aOne (pC (cI .i64))) (rOne (cI .i64)) (fun a => f85 a))] []) gl := ctx_of tyOk moOk (show SpecL Tryd.prog gG gl [(50, conF (aCons (pC (cI .i64)) (aOne (pC (cI .i64)))) (rTup (cCons (cI .i64) (cOne (cI .i64)))) (fun a => f50 (a.1) (a.2))), (84, conF (aOne (pC (cI .i64))) (rOne (cI .i64)) (fun a => f84 a)), (85, conF (aOne (pC (cI .i64))) (rOne (cI .i64)) (fun a => f85 a))] from ⟨sp50, sp84, sp85, trivial⟩) (show FnL Tryd.prog [] from trivial) (fnLp_nil _) joinOk
noncomputable def f69 (a : Nat → Int) (b : Int) : Option ((Nat → Int) × Int) :=
 cond (decide (a 0 < -32768)) (
 some ((nthI [0, 0], 1))) (
 cond (decide (32768 < a 0)) (
 some ((nthI [0, 0], 1))) (
 cond (decide (a 1 < -32768)) (
 some ((nthI [0, 0], 1))) (
 cond (decide (32768 < a 1)) (
 some ((nthI [0, 0], 1))) (
 Option.bind (f84 b) (fun r2 =>
 Option.bind (f85 b) (fun r3 =>
 Option.bind (f50 (IntKind.i64.wrap (IntKind.i64.wrap (a 0 * r2) + IntKind.i64.wrap (a 1 * r3))) 16384) (fun r4 =>
 cond (!decide (r4.snd = 0)) (
 some ((nthI [0, 0], r4.snd))) (
 Option.bind (f84 b) (fun r5 =>
 Option.bind (f85 b) (fun r6 =>
 Option.bind (f50 (IntKind.i64.wrap (IntKind.i64.wrap (a 1 * r5) - IntKind.i64.wrap (a 0 * r6))) 16384) (fun r7 =>
 cond (!decide (r7.snd = 0)) (
 some ((nthI [0, 0], r7.snd))) (
 some ((nthI [r4.fst, r7.fst], 0))))))))))))))
theorem evg69 (f50 : (Int) → (Int) → Option (Int × Int)) (f84 : (Int) → Option (Int)) (f85 : (Int) → Option (Int))  (xx : (aCons (pC (cA .i64 2)) (aOne (pC (cI .i64)))).T) : evF (R := (rTup (cCons (cA .i64 2) (cOne (cI .i64)))).T) (cx [] [(50, conF (aCons (pC (cI .i64)) (aOne (pC (cI .i64)))) (rTup (cCons (cI .i64) (cOne (cI .i64)))) (fun a => f50 (a.1) (a.2))), (84, conF (aOne (pC (cI .i64))) (rOne (cI .i64)) (fun a => f84 a)), (85, conF (aOne (pC (cI .i64))) (rOne (cI .i64)) (fun a => f85 a))] []) 1000 Tryd.f69 ((aCons (pC (cA .i64 2)) (aOne (pC (cI .i64)))).enc gG xx) (glMem gl) 2 (rTup (cCons (cA .i64 2) (cOne (cI .i64)))).dec =
 (fun (a : Nat → Int) (b : Int) =>
 (( cond (decide (a 0 < -32768)) (
 some ((nthI [0, 0], 1))) (
 cond (decide (32768 < a 0)) (
 some ((nthI [0, 0], 1))) (
 cond (decide (a 1 < -32768)) (
 some ((nthI [0, 0], 1))) (
 cond (decide (32768 < a 1)) (
 some ((nthI [0, 0], 1))) (
 Option.bind (f84 b) (fun r2 =>
 Option.bind (f85 b) (fun r3 =>
 Option.bind (f50 (IntKind.i64.wrap (IntKind.i64.wrap (a 0 * r2) + IntKind.i64.wrap (a 1 * r3))) 16384) (fun r4 =>
 cond (!decide (r4.snd = 0)) (
 some ((nthI [0, 0], r4.snd))) (
 Option.bind (f84 b) (fun r5 =>
 Option.bind (f85 b) (fun r6 =>
 Option.bind (f50 (IntKind.i64.wrap (IntKind.i64.wrap (a 1 * r5) - IntKind.i64.wrap (a 0 * r6))) 16384) (fun r7 =>
 cond (!decide (r7.snd = 0)) (
 some ((nthI [0, 0], r7.snd))) (
 some ((nthI [r4.fst, r7.fst], 0))))))))))))))) : Option ((Nat → Int) × Int))) xx.1 xx.2 := by kernel_rfl
theorem ev69 (a : (aCons (pC (cA .i64 2)) (aOne (pC (cI .i64)))).T) : evF (R := (rTup (cCons (cA .i64 2) (cOne (cI .i64)))).T) (cx [] [(50, conF (aCons (pC (cI .i64)) (aOne (pC (cI .i64)))) (rTup (cCons (cI .i64) (cOne (cI .i64)))) (fun a => f50 (a.1) (a.2))), (84, conF (aOne (pC (cI .i64))) (rOne (cI .i64)) (fun a => f84 a)), (85, conF (aOne (pC (cI .i64))) (rOne (cI .i64)) (fun a => f85 a))] []) 1000 Tryd.f69 ((aCons (pC (cA .i64 2)) (aOne (pC (cI .i64)))).enc gG a) (glMem gl) 2 (rTup (cCons (cA .i64 2) (cOne (cI .i64)))).dec = f69 a.1 a.2 := evg69 f50 f84 f85  a
theorem sp69 : VE.Spec Tryd.prog gG gl 69 (conF (aCons (pC (cA .i64 2)) (aOne (pC (cI .i64)))) (rTup (cCons (cA .i64 2) (cOne (cI .i64)))) (fun a => f69 a.1 a.2)) := spec_of ok69 Tryd.func69 Tryd.call69 (lpAll_nil rfl) 1000 (aCons_ok (pC_ok (cA_ok _ _)) (aOne_ok (pC_ok (cI_ok _)))) (rTup_ok (cCons_ok (cA_ok _ _) (cOne_ok (cI_ok _)))) ev69

/-- joints.sides -/
theorem ok46 : CtxOK Tryd.prog (cx [] [(69, conF (aCons (pC (cA .i64 2)) (aOne (pC (cI .i64)))) (rTup (cCons (cA .i64 2) (cOne (cI .i64)))) (fun a => f69 (a.1) (a.2)))] []) gl := ctx_of tyOk moOk (show SpecL Tryd.prog gG gl [(69, conF (aCons (pC (cA .i64 2)) (aOne (pC (cI .i64)))) (rTup (cCons (cA .i64 2) (cOne (cI .i64)))) (fun a => f69 (a.1) (a.2)))] from ⟨sp69, trivial⟩) (show FnL Tryd.prog [] from trivial) (fnLp_nil _) joinOk
noncomputable def f46 (a : Int) (b : Int) : Option ((Nat → Int)) :=
 Option.bind (f69 (nthI [IntKind.i64.wrap (0 - a), 0]) b) (fun r2 =>
 Option.bind (f69 (nthI [a, 0]) b) (fun r3 =>
 some (nthI [r2.fst 0, r2.fst 1, 0, r3.fst 0, r3.fst 1, 0])))
theorem evg46 (f69 : (Nat → Int) → (Int) → Option ((Nat → Int) × Int))  (xx : (aCons (pC (cI .i64)) (aOne (pC (cI .i64)))).T) : evF (R := (rOne (cA .i64 6)).T) (cx [] [(69, conF (aCons (pC (cA .i64 2)) (aOne (pC (cI .i64)))) (rTup (cCons (cA .i64 2) (cOne (cI .i64)))) (fun a => f69 (a.1) (a.2)))] []) 1000 Tryd.f46 ((aCons (pC (cI .i64)) (aOne (pC (cI .i64)))).enc gG xx) (glMem gl) 2 (rOne (cA .i64 6)).dec =
 (fun (a : Int) (b : Int) =>
 (( Option.bind (f69 (nthI [IntKind.i64.wrap (0 - a), 0]) b) (fun r2 =>
 Option.bind (f69 (nthI [a, 0]) b) (fun r3 =>
 some (nthI [r2.fst 0, r2.fst 1, 0, r3.fst 0, r3.fst 1, 0])))) : Option ((Nat → Int)))) xx.1 xx.2 := by kernel_rfl
theorem ev46 (a : (aCons (pC (cI .i64)) (aOne (pC (cI .i64)))).T) : evF (R := (rOne (cA .i64 6)).T) (cx [] [(69, conF (aCons (pC (cA .i64 2)) (aOne (pC (cI .i64)))) (rTup (cCons (cA .i64 2) (cOne (cI .i64)))) (fun a => f69 (a.1) (a.2)))] []) 1000 Tryd.f46 ((aCons (pC (cI .i64)) (aOne (pC (cI .i64)))).enc gG a) (glMem gl) 2 (rOne (cA .i64 6)).dec = f46 a.1 a.2 := evg46 f69  a
theorem sp46 : VE.Spec Tryd.prog gG gl 46 (conF (aCons (pC (cI .i64)) (aOne (pC (cI .i64)))) (rOne (cA .i64 6)) (fun a => f46 a.1 a.2)) := spec_of ok46 Tryd.func46 Tryd.call46 (lpAll_nil rfl) 1000 (aCons_ok (pC_ok (cI_ok _)) (aOne_ok (pC_ok (cI_ok _)))) (rOne_ok (cA_ok _ _)) ev46

/-- joints.Of -/
theorem ok24 : CtxOK Tryd.prog (cx [] [(19, conF (aOne (pC (cA .i64 22))) (rOne (cI .i64)) (fun a => f19 a)), (20, conF (aOne (pC (cA .i64 15))) (rOne (cI .i64)) (fun a => f20 a)), (43, conF (aCons (pC (cA .i64 15)) (aOne (pC (cI .i64)))) (rOne (cI .i64)) (fun a => f43 (a.1) (a.2))), (44, conF (aCons (pC (cA .i64 3)) (aOne (pC (cA .i64 3)))) (rOne (cA .i64 3)) (fun a => f44 (a.1) (a.2))), (45, conF (aCons (pC (cI .i64)) (aCons (pC (cA .i64 3)) (aOne (pC (cI .i64))))) (rOne (cA .i64 3)) (fun a => f45 (a.1) (a.2.1) (a.2.2))), (46, conF (aCons (pC (cI .i64)) (aOne (pC (cI .i64)))) (rOne (cA .i64 6)) (fun a => f46 (a.1) (a.2)))] []) gl := ctx_of tyOk moOk (show SpecL Tryd.prog gG gl [(19, conF (aOne (pC (cA .i64 22))) (rOne (cI .i64)) (fun a => f19 a)), (20, conF (aOne (pC (cA .i64 15))) (rOne (cI .i64)) (fun a => f20 a)), (43, conF (aCons (pC (cA .i64 15)) (aOne (pC (cI .i64)))) (rOne (cI .i64)) (fun a => f43 (a.1) (a.2))), (44, conF (aCons (pC (cA .i64 3)) (aOne (pC (cA .i64 3)))) (rOne (cA .i64 3)) (fun a => f44 (a.1) (a.2))), (45, conF (aCons (pC (cI .i64)) (aCons (pC (cA .i64 3)) (aOne (pC (cI .i64))))) (rOne (cA .i64 3)) (fun a => f45 (a.1) (a.2.1) (a.2.2))), (46, conF (aCons (pC (cI .i64)) (aOne (pC (cI .i64)))) (rOne (cA .i64 6)) (fun a => f46 (a.1) (a.2)))] from ⟨sp19, sp20, sp43, sp44, sp45, sp46, trivial⟩) (show FnL Tryd.prog [] from trivial) (fnLp_nil _) joinOk
noncomputable def f24 (a : Nat → Int) (b : Nat → Int) (c : Int) : Option ((Nat → Int) × Int) :=
 Option.bind (f20 a) (fun r3 =>
 cond (!decide (r3 = 0)) (
 some ((nthI [0, 0, 0, 0, 0, 0, 0, 0, 0, 0, 0, 0, 0, 0, 0, 0, 0, 0, 0, 0, 0, 0, 0, 0, 0, 0, 0, 0, 0, 0, 0, 0, 0], r3))) (
 Option.bind (f19 b) (fun r4 =>
 cond (!decide (r4 = 0)) (
 some ((nthI [0, 0, 0, 0, 0, 0, 0, 0, 0, 0, 0, 0, 0, 0, 0, 0, 0, 0, 0, 0, 0, 0, 0, 0, 0, 0, 0, 0, 0, 0, 0, 0, 0], r4))) (
 cond (decide (c < 0)) (
 some ((nthI [0, 0, 0, 0, 0, 0, 0, 0, 0, 0, 0, 0, 0, 0, 0, 0, 0, 0, 0, 0, 0, 0, 0, 0, 0, 0, 0, 0, 0, 0, 0, 0, 0], 1))) (
 cond (decide (3 < c)) (
 some ((nthI [0, 0, 0, 0, 0, 0, 0, 0, 0, 0, 0, 0, 0, 0, 0, 0, 0, 0, 0, 0, 0, 0, 0, 0, 0, 0, 0, 0, 0, 0, 0, 0, 0], 1))) (
 Option.bind (f43 a (b 3)) (fun r5 =>
 Option.bind (f45 (a 1) (nthI [b 10, b 11, b 12]) (b 2)) (fun r6 =>
 Option.bind (f44 (nthI [b 0, b 1, r5]) r6) (fun r7 =>
 Option.bind (f45 (a 2) (nthI [b 19, b 20, b 21]) (b 2)) (fun r8 =>
 Option.bind (f44 r7 r8) (fun r9 =>
 Option.bind (f46 (a 4) (b 2)) (fun r10 =>
 Option.bind (f46 (a 5) (b 2)) (fun r11 =>
 Option.bind (f44 (nthI [b 0, b 1, r5]) r10) (fun r12 =>
 Option.bind (f44 r7 r11) (fun r13 =>
 Option.bind (f45 (a 3) (nthI [b 13, b 14, b 15]) (b 2)) (fun r14 =>
 Option.bind (f44 r13 r14) (fun r15 =>
 cond (!decide (bitsI BinOp.and IntKind.i64 c 1 = 0)) (
 Option.bind (f44 (nthI [b 0, b 1, r5]) (nthI [r10 3, r10 4, r10 5])) (fun r16 =>
 Option.bind (f44 r7 (nthI [r11 3, r11 4, r11 5])) (fun r17 =>
 Option.bind (f45 (a 3) (nthI [b 16, b 17, b 18]) (b 2)) (fun r18 =>
 Option.bind (f44 r17 r18) (fun r19 =>
 cond (!decide (bitsI BinOp.and IntKind.i64 c 2 = 0)) (
 some ((nthI [b 0, b 1, r5, r7 0, r7 1, r7 2, r9 0, r9 1, r9 2, r12 0, r12 1, r12 2, r16 0, r16 1, r16 2, r13 0, r13 1, r13 2, r17 0, r17 1, r17 2, r15 0, r15 1, r15 2, r19 0, r19 1, r19 2, r12 0, r12 1, 0, r16 0, r16 1, 0], 0))) (
 Option.bind (f45 (a 0) (nthI [b 7, b 8, b 9]) (b 2)) (fun r20 =>
 Option.bind (f44 r16 r20) (fun r21 =>
 some ((nthI [b 0, b 1, r5, r7 0, r7 1, r7 2, r9 0, r9 1, r9 2, r12 0, r12 1, r12 2, r16 0, r16 1, r16 2, r13 0, r13 1, r13 2, r17 0, r17 1, r17 2, r15 0, r15 1, r15 2, r19 0, r19 1, r19 2, r12 0, r12 1, 0, r21 0, r21 1, r21 2], 0)))))))))) (
 Option.bind (f45 (a 0) (nthI [b 4, b 5, b 6]) (b 2)) (fun r16 =>
 Option.bind (f44 r12 r16) (fun r17 =>
 Option.bind (f44 (nthI [b 0, b 1, r5]) (nthI [r10 3, r10 4, r10 5])) (fun r18 =>
 Option.bind (f44 r7 (nthI [r11 3, r11 4, r11 5])) (fun r19 =>
 Option.bind (f45 (a 3) (nthI [b 16, b 17, b 18]) (b 2)) (fun r20 =>
 Option.bind (f44 r19 r20) (fun r21 =>
 cond (!decide (bitsI BinOp.and IntKind.i64 c 2 = 0)) (
 some ((nthI [b 0, b 1, r5, r7 0, r7 1, r7 2, r9 0, r9 1, r9 2, r12 0, r12 1, r12 2, r18 0, r18 1, r18 2, r13 0, r13 1, r13 2, r19 0, r19 1, r19 2, r15 0, r15 1, r15 2, r21 0, r21 1, r21 2, r17 0, r17 1, r17 2, r18 0, r18 1, 0], 0))) (
 Option.bind (f45 (a 0) (nthI [b 7, b 8, b 9]) (b 2)) (fun r22 =>
 Option.bind (f44 r18 r22) (fun r23 =>
 some ((nthI [b 0, b 1, r5, r7 0, r7 1, r7 2, r9 0, r9 1, r9 2, r12 0, r12 1, r12 2, r18 0, r18 1, r18 2, r13 0, r13 1, r13 2, r19 0, r19 1, r19 2, r15 0, r15 1, r15 2, r21 0, r21 1, r21 2, r17 0, r17 1, r17 2, r23 0, r23 1, r23 2], 0)))))))))))))))))))))))))))))
theorem evg24 (f19 : (Nat → Int) → Option (Int)) (f20 : (Nat → Int) → Option (Int)) (f43 : (Nat → Int) → (Int) → Option (Int)) (f44 : (Nat → Int) → (Nat → Int) → Option ((Nat → Int))) (f45 : (Int) → (Nat → Int) → (Int) → Option ((Nat → Int))) (f46 : (Int) → (Int) → Option ((Nat → Int)))  (xx : (aCons (pC (cA .i64 15)) (aCons (pC (cA .i64 22)) (aOne (pC (cI .i64))))).T) : evF (R := (rTup (cCons (cA .i64 33) (cOne (cI .i64)))).T) (cx [] [(19, conF (aOne (pC (cA .i64 22))) (rOne (cI .i64)) (fun a => f19 a)), (20, conF (aOne (pC (cA .i64 15))) (rOne (cI .i64)) (fun a => f20 a)), (43, conF (aCons (pC (cA .i64 15)) (aOne (pC (cI .i64)))) (rOne (cI .i64)) (fun a => f43 (a.1) (a.2))), (44, conF (aCons (pC (cA .i64 3)) (aOne (pC (cA .i64 3)))) (rOne (cA .i64 3)) (fun a => f44 (a.1) (a.2))), (45, conF (aCons (pC (cI .i64)) (aCons (pC (cA .i64 3)) (aOne (pC (cI .i64))))) (rOne (cA .i64 3)) (fun a => f45 (a.1) (a.2.1) (a.2.2))), (46, conF (aCons (pC (cI .i64)) (aOne (pC (cI .i64)))) (rOne (cA .i64 6)) (fun a => f46 (a.1) (a.2)))] []) 1000 Tryd.f24 ((aCons (pC (cA .i64 15)) (aCons (pC (cA .i64 22)) (aOne (pC (cI .i64))))).enc gG xx) (glMem gl) 2 (rTup (cCons (cA .i64 33) (cOne (cI .i64)))).dec =
 (fun (a : Nat → Int) (b : Nat → Int) (c : Int) =>
 (( Option.bind (f20 (nthI [a 0, a 1, a 2, a 3, a 4, a 5, a 6, a 7, a 8, a 9, a 10, a 11, a 12, a 13, a 14])) (fun r3 =>
 cond (!decide (r3 = 0)) (
 some ((nthI [0, 0, 0, 0, 0, 0, 0, 0, 0, 0, 0, 0, 0, 0, 0, 0, 0, 0, 0, 0, 0, 0, 0, 0, 0, 0, 0, 0, 0, 0, 0, 0, 0], r3))) (
 Option.bind (f19 (nthI [b 0, b 1, b 2, b 3, b 4, b 5, b 6, b 7, b 8, b 9, b 10, b 11, b 12, b 13, b 14, b 15, b 16, b 17, b 18, b 19, b 20, b 21])) (fun r4 =>
 cond (!decide (r4 = 0)) (
 some ((nthI [0, 0, 0, 0, 0, 0, 0, 0, 0, 0, 0, 0, 0, 0, 0, 0, 0, 0, 0, 0, 0, 0, 0, 0, 0, 0, 0, 0, 0, 0, 0, 0, 0], r4))) (
 cond (decide (c < 0)) (
 some ((nthI [0, 0, 0, 0, 0, 0, 0, 0, 0, 0, 0, 0, 0, 0, 0, 0, 0, 0, 0, 0, 0, 0, 0, 0, 0, 0, 0, 0, 0, 0, 0, 0, 0], 1))) (
 cond (decide (3 < c)) (
 some ((nthI [0, 0, 0, 0, 0, 0, 0, 0, 0, 0, 0, 0, 0, 0, 0, 0, 0, 0, 0, 0, 0, 0, 0, 0, 0, 0, 0, 0, 0, 0, 0, 0, 0], 1))) (
 Option.bind (f43 (nthI [a 0, a 1, a 2, a 3, a 4, a 5, a 6, a 7, a 8, a 9, a 10, a 11, a 12, a 13, a 14]) (b 3)) (fun r5 =>
 Option.bind (f45 (a 1) (nthI [b 10, b 11, b 12]) (b 2)) (fun r6 =>
 Option.bind (f44 (nthI [b 0, b 1, r5]) (nthI [r6 0, r6 1, r6 2])) (fun r7 =>
 Option.bind (f45 (a 2) (nthI [b 19, b 20, b 21]) (b 2)) (fun r8 =>
 Option.bind (f44 (nthI [r7 0, r7 1, r7 2]) (nthI [r8 0, r8 1, r8 2])) (fun r9 =>
 Option.bind (f46 (a 4) (b 2)) (fun r10 =>
 Option.bind (f46 (a 5) (b 2)) (fun r11 =>
 Option.bind (f44 (nthI [b 0, b 1, r5]) (nthI [r10 0, r10 1, r10 2])) (fun r12 =>
 Option.bind (f44 (nthI [r7 0, r7 1, r7 2]) (nthI [r11 0, r11 1, r11 2])) (fun r13 =>
 Option.bind (f45 (a 3) (nthI [b 13, b 14, b 15]) (b 2)) (fun r14 =>
 Option.bind (f44 (nthI [r13 0, r13 1, r13 2]) (nthI [r14 0, r14 1, r14 2])) (fun r15 =>
 cond (!decide (bitsI BinOp.and IntKind.i64 c 1 = 0)) (
 Option.bind (f44 (nthI [b 0, b 1, r5]) (nthI [r10 3, r10 4, r10 5])) (fun r16 =>
 Option.bind (f44 (nthI [r7 0, r7 1, r7 2]) (nthI [r11 3, r11 4, r11 5])) (fun r17 =>
 Option.bind (f45 (a 3) (nthI [b 16, b 17, b 18]) (b 2)) (fun r18 =>
 Option.bind (f44 (nthI [r17 0, r17 1, r17 2]) (nthI [r18 0, r18 1, r18 2])) (fun r19 =>
 cond (!decide (bitsI BinOp.and IntKind.i64 c 2 = 0)) (
 some ((nthI [b 0, b 1, r5, r7 0, r7 1, r7 2, r9 0, r9 1, r9 2, r12 0, r12 1, r12 2, r16 0, r16 1, r16 2, r13 0, r13 1, r13 2, r17 0, r17 1, r17 2, r15 0, r15 1, r15 2, r19 0, r19 1, r19 2, r12 0, r12 1, 0, r16 0, r16 1, 0], 0))) (
 Option.bind (f45 (a 0) (nthI [b 7, b 8, b 9]) (b 2)) (fun r20 =>
 Option.bind (f44 (nthI [r16 0, r16 1, r16 2]) (nthI [r20 0, r20 1, r20 2])) (fun r21 =>
 some ((nthI [b 0, b 1, r5, r7 0, r7 1, r7 2, r9 0, r9 1, r9 2, r12 0, r12 1, r12 2, r16 0, r16 1, r16 2, r13 0, r13 1, r13 2, r17 0, r17 1, r17 2, r15 0, r15 1, r15 2, r19 0, r19 1, r19 2, r12 0, r12 1, 0, r21 0, r21 1, r21 2], 0)))))))))) (
 Option.bind (f45 (a 0) (nthI [b 4, b 5, b 6]) (b 2)) (fun r16 =>
 Option.bind (f44 (nthI [r12 0, r12 1, r12 2]) (nthI [r16 0, r16 1, r16 2])) (fun r17 =>
 Option.bind (f44 (nthI [b 0, b 1, r5]) (nthI [r10 3, r10 4, r10 5])) (fun r18 =>
 Option.bind (f44 (nthI [r7 0, r7 1, r7 2]) (nthI [r11 3, r11 4, r11 5])) (fun r19 =>
 Option.bind (f45 (a 3) (nthI [b 16, b 17, b 18]) (b 2)) (fun r20 =>
 Option.bind (f44 (nthI [r19 0, r19 1, r19 2]) (nthI [r20 0, r20 1, r20 2])) (fun r21 =>
 cond (!decide (bitsI BinOp.and IntKind.i64 c 2 = 0)) (
 some ((nthI [b 0, b 1, r5, r7 0, r7 1, r7 2, r9 0, r9 1, r9 2, r12 0, r12 1, r12 2, r18 0, r18 1, r18 2, r13 0, r13 1, r13 2, r19 0, r19 1, r19 2, r15 0, r15 1, r15 2, r21 0, r21 1, r21 2, r17 0, r17 1, r17 2, r18 0, r18 1, 0], 0))) (
 Option.bind (f45 (a 0) (nthI [b 7, b 8, b 9]) (b 2)) (fun r22 =>
 Option.bind (f44 (nthI [r18 0, r18 1, r18 2]) (nthI [r22 0, r22 1, r22 2])) (fun r23 =>
 some ((nthI [b 0, b 1, r5, r7 0, r7 1, r7 2, r9 0, r9 1, r9 2, r12 0, r12 1, r12 2, r18 0, r18 1, r18 2, r13 0, r13 1, r13 2, r19 0, r19 1, r19 2, r15 0, r15 1, r15 2, r21 0, r21 1, r21 2, r17 0, r17 1, r17 2, r23 0, r23 1, r23 2], 0)))))))))))))))))))))))))))))) : Option ((Nat → Int) × Int))) xx.1 xx.2.1 xx.2.2 := by kernel_rfl
noncomputable def g24 (a : Nat → Int) (b : Nat → Int) (c : Int) : Option ((Nat → Int) × Int) :=
 Option.bind (f20 (nthI [a 0, a 1, a 2, a 3, a 4, a 5, a 6, a 7, a 8, a 9, a 10, a 11, a 12, a 13, a 14])) (fun r3 =>
 cond (!decide (r3 = 0)) (
 some ((nthI [0, 0, 0, 0, 0, 0, 0, 0, 0, 0, 0, 0, 0, 0, 0, 0, 0, 0, 0, 0, 0, 0, 0, 0, 0, 0, 0, 0, 0, 0, 0, 0, 0], r3))) (
 Option.bind (f19 (nthI [b 0, b 1, b 2, b 3, b 4, b 5, b 6, b 7, b 8, b 9, b 10, b 11, b 12, b 13, b 14, b 15, b 16, b 17, b 18, b 19, b 20, b 21])) (fun r4 =>
 cond (!decide (r4 = 0)) (
 some ((nthI [0, 0, 0, 0, 0, 0, 0, 0, 0, 0, 0, 0, 0, 0, 0, 0, 0, 0, 0, 0, 0, 0, 0, 0, 0, 0, 0, 0, 0, 0, 0, 0, 0], r4))) (
 cond (decide (c < 0)) (
 some ((nthI [0, 0, 0, 0, 0, 0, 0, 0, 0, 0, 0, 0, 0, 0, 0, 0, 0, 0, 0, 0, 0, 0, 0, 0, 0, 0, 0, 0, 0, 0, 0, 0, 0], 1))) (
 cond (decide (3 < c)) (
 some ((nthI [0, 0, 0, 0, 0, 0, 0, 0, 0, 0, 0, 0, 0, 0, 0, 0, 0, 0, 0, 0, 0, 0, 0, 0, 0, 0, 0, 0, 0, 0, 0, 0, 0], 1))) (
 Option.bind (f43 (nthI [a 0, a 1, a 2, a 3, a 4, a 5, a 6, a 7, a 8, a 9, a 10, a 11, a 12, a 13, a 14]) (b 3)) (fun r5 =>
 Option.bind (f45 (a 1) (nthI [b 10, b 11, b 12]) (b 2)) (fun r6 =>
 Option.bind (f44 (nthI [b 0, b 1, r5]) (nthI [r6 0, r6 1, r6 2])) (fun r7 =>
 Option.bind (f45 (a 2) (nthI [b 19, b 20, b 21]) (b 2)) (fun r8 =>
 Option.bind (f44 (nthI [r7 0, r7 1, r7 2]) (nthI [r8 0, r8 1, r8 2])) (fun r9 =>
 Option.bind (f46 (a 4) (b 2)) (fun r10 =>
 Option.bind (f46 (a 5) (b 2)) (fun r11 =>
 Option.bind (f44 (nthI [b 0, b 1, r5]) (nthI [r10 0, r10 1, r10 2])) (fun r12 =>
 Option.bind (f44 (nthI [r7 0, r7 1, r7 2]) (nthI [r11 0, r11 1, r11 2])) (fun r13 =>
 Option.bind (f45 (a 3) (nthI [b 13, b 14, b 15]) (b 2)) (fun r14 =>
 Option.bind (f44 (nthI [r13 0, r13 1, r13 2]) (nthI [r14 0, r14 1, r14 2])) (fun r15 =>
 cond (!decide (bitsI BinOp.and IntKind.i64 c 1 = 0)) (
 Option.bind (f44 (nthI [b 0, b 1, r5]) (nthI [r10 3, r10 4, r10 5])) (fun r16 =>
 Option.bind (f44 (nthI [r7 0, r7 1, r7 2]) (nthI [r11 3, r11 4, r11 5])) (fun r17 =>
 Option.bind (f45 (a 3) (nthI [b 16, b 17, b 18]) (b 2)) (fun r18 =>
 Option.bind (f44 (nthI [r17 0, r17 1, r17 2]) (nthI [r18 0, r18 1, r18 2])) (fun r19 =>
 cond (!decide (bitsI BinOp.and IntKind.i64 c 2 = 0)) (
 some ((nthI [b 0, b 1, r5, r7 0, r7 1, r7 2, r9 0, r9 1, r9 2, r12 0, r12 1, r12 2, r16 0, r16 1, r16 2, r13 0, r13 1, r13 2, r17 0, r17 1, r17 2, r15 0, r15 1, r15 2, r19 0, r19 1, r19 2, r12 0, r12 1, 0, r16 0, r16 1, 0], 0))) (
 Option.bind (f45 (a 0) (nthI [b 7, b 8, b 9]) (b 2)) (fun r20 =>
 Option.bind (f44 (nthI [r16 0, r16 1, r16 2]) (nthI [r20 0, r20 1, r20 2])) (fun r21 =>
 some ((nthI [b 0, b 1, r5, r7 0, r7 1, r7 2, r9 0, r9 1, r9 2, r12 0, r12 1, r12 2, r16 0, r16 1, r16 2, r13 0, r13 1, r13 2, r17 0, r17 1, r17 2, r15 0, r15 1, r15 2, r19 0, r19 1, r19 2, r12 0, r12 1, 0, r21 0, r21 1, r21 2], 0)))))))))) (
 Option.bind (f45 (a 0) (nthI [b 4, b 5, b 6]) (b 2)) (fun r16 =>
 Option.bind (f44 (nthI [r12 0, r12 1, r12 2]) (nthI [r16 0, r16 1, r16 2])) (fun r17 =>
 Option.bind (f44 (nthI [b 0, b 1, r5]) (nthI [r10 3, r10 4, r10 5])) (fun r18 =>
 Option.bind (f44 (nthI [r7 0, r7 1, r7 2]) (nthI [r11 3, r11 4, r11 5])) (fun r19 =>
 Option.bind (f45 (a 3) (nthI [b 16, b 17, b 18]) (b 2)) (fun r20 =>
 Option.bind (f44 (nthI [r19 0, r19 1, r19 2]) (nthI [r20 0, r20 1, r20 2])) (fun r21 =>
 cond (!decide (bitsI BinOp.and IntKind.i64 c 2 = 0)) (
 some ((nthI [b 0, b 1, r5, r7 0, r7 1, r7 2, r9 0, r9 1, r9 2, r12 0, r12 1, r12 2, r18 0, r18 1, r18 2, r13 0, r13 1, r13 2, r19 0, r19 1, r19 2, r15 0, r15 1, r15 2, r21 0, r21 1, r21 2, r17 0, r17 1, r17 2, r18 0, r18 1, 0], 0))) (
 Option.bind (f45 (a 0) (nthI [b 7, b 8, b 9]) (b 2)) (fun r22 =>
 Option.bind (f44 (nthI [r18 0, r18 1, r18 2]) (nthI [r22 0, r22 1, r22 2])) (fun r23 =>
 some ((nthI [b 0, b 1, r5, r7 0, r7 1, r7 2, r9 0, r9 1, r9 2, r12 0, r12 1, r12 2, r18 0, r18 1, r18 2, r13 0, r13 1, r13 2, r19 0, r19 1, r19 2, r15 0, r15 1, r15 2, r21 0, r21 1, r21 2, r17 0, r17 1, r17 2, r23 0, r23 1, r23 2], 0)))))))))))))))))))))))))))))
theorem fg24 (a : Nat → Int) (b : Nat → Int) (c : Int) : g24 a b c = f24 a b c := by kernel_rfl
theorem ev24 (a : (aCons (pC (cA .i64 15)) (aCons (pC (cA .i64 22)) (aOne (pC (cI .i64))))).T) : evF (R := (rTup (cCons (cA .i64 33) (cOne (cI .i64)))).T) (cx [] [(19, conF (aOne (pC (cA .i64 22))) (rOne (cI .i64)) (fun a => f19 a)), (20, conF (aOne (pC (cA .i64 15))) (rOne (cI .i64)) (fun a => f20 a)), (43, conF (aCons (pC (cA .i64 15)) (aOne (pC (cI .i64)))) (rOne (cI .i64)) (fun a => f43 (a.1) (a.2))), (44, conF (aCons (pC (cA .i64 3)) (aOne (pC (cA .i64 3)))) (rOne (cA .i64 3)) (fun a => f44 (a.1) (a.2))), (45, conF (aCons (pC (cI .i64)) (aCons (pC (cA .i64 3)) (aOne (pC (cI .i64))))) (rOne (cA .i64 3)) (fun a => f45 (a.1) (a.2.1) (a.2.2))), (46, conF (aCons (pC (cI .i64)) (aOne (pC (cI .i64)))) (rOne (cA .i64 6)) (fun a => f46 (a.1) (a.2)))] []) 1000 Tryd.f24 ((aCons (pC (cA .i64 15)) (aCons (pC (cA .i64 22)) (aOne (pC (cI .i64))))).enc gG a) (glMem gl) 2 (rTup (cCons (cA .i64 33) (cOne (cI .i64)))).dec = f24 a.1 a.2.1 a.2.2 := (show evF (R := (rTup (cCons (cA .i64 33) (cOne (cI .i64)))).T) (cx [] [(19, conF (aOne (pC (cA .i64 22))) (rOne (cI .i64)) (fun a => f19 a)), (20, conF (aOne (pC (cA .i64 15))) (rOne (cI .i64)) (fun a => f20 a)), (43, conF (aCons (pC (cA .i64 15)) (aOne (pC (cI .i64)))) (rOne (cI .i64)) (fun a => f43 (a.1) (a.2))), (44, conF (aCons (pC (cA .i64 3)) (aOne (pC (cA .i64 3)))) (rOne (cA .i64 3)) (fun a => f44 (a.1) (a.2))), (45, conF (aCons (pC (cI .i64)) (aCons (pC (cA .i64 3)) (aOne (pC (cI .i64))))) (rOne (cA .i64 3)) (fun a => f45 (a.1) (a.2.1) (a.2.2))), (46, conF (aCons (pC (cI .i64)) (aOne (pC (cI .i64)))) (rOne (cA .i64 6)) (fun a => f46 (a.1) (a.2)))] []) 1000 Tryd.f24 ((aCons (pC (cA .i64 15)) (aCons (pC (cA .i64 22)) (aOne (pC (cI .i64))))).enc gG a) (glMem gl) 2 (rTup (cCons (cA .i64 33) (cOne (cI .i64)))).dec = g24 a.1 a.2.1 a.2.2 from evg24 f19 f20 f43 f44 f45 f46  a).trans (fg24 a.1 a.2.1 a.2.2)
theorem sp24 : VE.Spec Tryd.prog gG gl 24 (conF (aCons (pC (cA .i64 15)) (aCons (pC (cA .i64 22)) (aOne (pC (cI .i64))))) (rTup (cCons (cA .i64 33) (cOne (cI .i64)))) (fun a => f24 a.1 a.2.1 a.2.2)) := spec_of ok24 Tryd.func24 Tryd.call24 (lpAll_nil rfl) 1000 (aCons_ok (pC_ok (cA_ok _ _)) (aCons_ok (pC_ok (cA_ok _ _)) (aOne_ok (pC_ok (cI_ok _))))) (rTup_ok (cCons_ok (cA_ok _ _) (cOne_ok (cI_ok _)))) ev24

/-- build.Mass -/
theorem ok47 : CtxOK Tryd.prog (cx [] [(20, conF (aOne (pC (cA .i64 15))) (rOne (cI .i64)) (fun a => f20 a))] []) gl := ctx_of tyOk moOk (show SpecL Tryd.prog gG gl [(20, conF (aOne (pC (cA .i64 15))) (rOne (cI .i64)) (fun a => f20 a))] from ⟨sp20, trivial⟩) (show FnL Tryd.prog [] from trivial) (fnLp_nil _) joinOk
noncomputable def f47 (a : Nat → Int) : Option (Int × Int) :=
 Option.bind (f20 a) (fun r1 =>
 cond (!decide (r1 = 0)) (
 some ((0, r1))) (
 some ((IntKind.i64.wrap (IntKind.i64.wrap (IntKind.i64.wrap (a 11 + a 12) + IntKind.i64.wrap (2 * a 13)) + IntKind.i64.wrap (2 * a 14)), 0))))
theorem evg47 (f20 : (Nat → Int) → Option (Int))  (xx : (aOne (pC (cA .i64 15))).T) : evF (R := (rTup (cCons (cI .i64) (cOne (cI .i64)))).T) (cx [] [(20, conF (aOne (pC (cA .i64 15))) (rOne (cI .i64)) (fun a => f20 a))] []) 1000 Tryd.f47 ((aOne (pC (cA .i64 15))).enc gG xx) (glMem gl) 2 (rTup (cCons (cI .i64) (cOne (cI .i64)))).dec =
 (fun (a : Nat → Int) =>
 (( Option.bind (f20 (nthI [a 0, a 1, a 2, a 3, a 4, a 5, a 6, a 7, a 8, a 9, a 10, a 11, a 12, a 13, a 14])) (fun r1 =>
 cond (!decide (r1 = 0)) (
 some ((0, r1))) (
 some ((IntKind.i64.wrap (IntKind.i64.wrap (IntKind.i64.wrap (a 11 + a 12) + IntKind.i64.wrap (2 * a 13)) + IntKind.i64.wrap (2 * a 14)), 0))))) : Option (Int × Int))) xx := by kernel_rfl
noncomputable def g47 (a : Nat → Int) : Option (Int × Int) :=
 Option.bind (f20 (nthI [a 0, a 1, a 2, a 3, a 4, a 5, a 6, a 7, a 8, a 9, a 10, a 11, a 12, a 13, a 14])) (fun r1 =>
 cond (!decide (r1 = 0)) (
 some ((0, r1))) (
 some ((IntKind.i64.wrap (IntKind.i64.wrap (IntKind.i64.wrap (a 11 + a 12) + IntKind.i64.wrap (2 * a 13)) + IntKind.i64.wrap (2 * a 14)), 0))))
theorem fg47 (a : Nat → Int) : g47 a = f47 a := by kernel_rfl
theorem ev47 (a : (aOne (pC (cA .i64 15))).T) : evF (R := (rTup (cCons (cI .i64) (cOne (cI .i64)))).T) (cx [] [(20, conF (aOne (pC (cA .i64 15))) (rOne (cI .i64)) (fun a => f20 a))] []) 1000 Tryd.f47 ((aOne (pC (cA .i64 15))).enc gG a) (glMem gl) 2 (rTup (cCons (cI .i64) (cOne (cI .i64)))).dec = f47 a := (show evF (R := (rTup (cCons (cI .i64) (cOne (cI .i64)))).T) (cx [] [(20, conF (aOne (pC (cA .i64 15))) (rOne (cI .i64)) (fun a => f20 a))] []) 1000 Tryd.f47 ((aOne (pC (cA .i64 15))).enc gG a) (glMem gl) 2 (rTup (cCons (cI .i64) (cOne (cI .i64)))).dec = g47 a from evg47 f20  a).trans (fg47 a)
theorem sp47 : VE.Spec Tryd.prog gG gl 47 (conF (aOne (pC (cA .i64 15))) (rTup (cCons (cI .i64) (cOne (cI .i64)))) (fun a => f47 a)) := spec_of ok47 Tryd.func47 Tryd.call47 (lpAll_nil rfl) 1000 (aOne_ok (pC_ok (cA_ok _ _))) (rTup_ok (cCons_ok (cI_ok _) (cOne_ok (cI_ok _)))) ev47

/-- balance.center$2 -/
theorem ok51 : CtxOK Tryd.prog (cx [] [] []) gl := ctx_of tyOk moOk (show SpecL Tryd.prog gG gl [] from trivial) (show FnL Tryd.prog [] from trivial) (fnLp_nil _) joinOk
noncomputable def f51 (a : Nat → Int) : Option (Int) :=
 some (a 0)
theorem evg51   (xx : (aOne (pC (cA .i64 3))).T) : evF (R := (rOne (cI .i64)).T) (cx [] [] []) 1000 Tryd.f51 ((aOne (pC (cA .i64 3))).enc gG xx) (glMem gl) 2 (rOne (cI .i64)).dec =
 (fun (a : Nat → Int) =>
 (( some (a 0)) : Option (Int))) xx := by kernel_rfl
theorem ev51 (a : (aOne (pC (cA .i64 3))).T) : evF (R := (rOne (cI .i64)).T) (cx [] [] []) 1000 Tryd.f51 ((aOne (pC (cA .i64 3))).enc gG a) (glMem gl) 2 (rOne (cI .i64)).dec = f51 a := evg51   a
theorem sp51 : VE.Spec Tryd.prog gG gl 51 (conF (aOne (pC (cA .i64 3))) (rOne (cI .i64)) (fun a => f51 a)) := spec_of ok51 Tryd.func51 Tryd.call51 (lpAll_nil rfl) 1000 (aOne_ok (pC_ok (cA_ok _ _))) (rOne_ok (cI_ok _)) ev51

/-- balance.center$3 -/
theorem ok52 : CtxOK Tryd.prog (cx [] [] []) gl := ctx_of tyOk moOk (show SpecL Tryd.prog gG gl [] from trivial) (show FnL Tryd.prog [] from trivial) (fnLp_nil _) joinOk
noncomputable def f52 (a : Nat → Int) : Option (Int) :=
 some (a 1)
theorem evg52   (xx : (aOne (pC (cA .i64 3))).T) : evF (R := (rOne (cI .i64)).T) (cx [] [] []) 1000 Tryd.f52 ((aOne (pC (cA .i64 3))).enc gG xx) (glMem gl) 2 (rOne (cI .i64)).dec =
 (fun (a : Nat → Int) =>
 (( some (a 1)) : Option (Int))) xx := by kernel_rfl
theorem ev52 (a : (aOne (pC (cA .i64 3))).T) : evF (R := (rOne (cI .i64)).T) (cx [] [] []) 1000 Tryd.f52 ((aOne (pC (cA .i64 3))).enc gG a) (glMem gl) 2 (rOne (cI .i64)).dec = f52 a := evg52   a
theorem sp52 : VE.Spec Tryd.prog gG gl 52 (conF (aOne (pC (cA .i64 3))) (rOne (cI .i64)) (fun a => f52 a)) := spec_of ok52 Tryd.func52 Tryd.call52 (lpAll_nil rfl) 1000 (aOne_ok (pC_ok (cA_ok _ _))) (rOne_ok (cI_ok _)) ev52

/-- balance.center -/
theorem ok25 : CtxOK Tryd.prog (cx [(48, Tryd.f48), (49, Tryd.f49)] [(47, conF (aOne (pC (cA .i64 15))) (rTup (cCons (cI .i64) (cOne (cI .i64)))) (fun a => f47 a)), (50, conF (aCons (pC (cI .i64)) (aOne (pC (cI .i64)))) (rTup (cCons (cI .i64) (cOne (cI .i64)))) (fun a => f50 (a.1) (a.2))), (51, conF (aOne (pC (cA .i64 3))) (rOne (cI .i64)) (fun a => f51 a)), (52, conF (aOne (pC (cA .i64 3))) (rOne (cI .i64)) (fun a => f52 a))] []) gl := ctx_of tyOk moOk (show SpecL Tryd.prog gG gl [(47, conF (aOne (pC (cA .i64 15))) (rTup (cCons (cI .i64) (cOne (cI .i64)))) (fun a => f47 a)), (50, conF (aCons (pC (cI .i64)) (aOne (pC (cI .i64)))) (rTup (cCons (cI .i64) (cOne (cI .i64)))) (fun a => f50 (a.1) (a.2))), (51, conF (aOne (pC (cA .i64 3))) (rOne (cI .i64)) (fun a => f51 a)), (52, conF (aOne (pC (cA .i64 3))) (rOne (cI .i64)) (fun a => f52 a))] from ⟨sp47, sp50, sp51, sp52, trivial⟩) (show FnL Tryd.prog [(48, Tryd.f48), (49, Tryd.f49)] from ⟨⟨Tryd.func48, Tryd.call48⟩, ⟨Tryd.func49, Tryd.call49⟩, trivial⟩) (fnLp_nil _) joinOk
noncomputable def f25 (a : Nat → Int) (b : Nat → Int) : Option ((Nat → Int)) :=
 Option.bind (f47 a) (fun r2 =>
 Option.bind (f51 b) (fun r3 =>
 Option.bind (f51 (nthI [b 3, b 4, b 5])) (fun r4 =>
 Option.bind (f51 (nthI [b 3, b 4, b 5])) (fun r5 =>
 Option.bind (f51 (nthI [b 6, b 7, b 8])) (fun r6 =>
 Option.bind (f51 (nthI [b 15, b 16, b 17])) (fun r7 =>
 Option.bind (f51 (nthI [b 21, b 22, b 23])) (fun r8 =>
 Option.bind (f51 (nthI [b 9, b 10, b 11])) (fun r9 =>
 Option.bind (f51 (nthI [b 27, b 28, b 29])) (fun r10 =>
 Option.bind (f51 (nthI [b 18, b 19, b 20])) (fun r11 =>
 Option.bind (f51 (nthI [b 24, b 25, b 26])) (fun r12 =>
 Option.bind (f51 (nthI [b 12, b 13, b 14])) (fun r13 =>
 Option.bind (f51 (nthI [b 30, b 31, b 32])) (fun r14 =>
 Option.bind (f50 (IntKind.i64.wrap (IntKind.i64.wrap (IntKind.i64.wrap (IntKind.i64.wrap (IntKind.i64.wrap (IntKind.i64.wrap (0 + IntKind.i64.wrap (a 11 * IntKind.i64.wrap (r3 + r4))) + IntKind.i64.wrap (a 12 * IntKind.i64.wrap (r5 + r6))) + IntKind.i64.wrap (a 13 * IntKind.i64.wrap (r7 + r8))) + IntKind.i64.wrap (a 14 * IntKind.i64.wrap (r9 + r10))) + IntKind.i64.wrap (a 13 * IntKind.i64.wrap (r11 + r12))) + IntKind.i64.wrap (a 14 * IntKind.i64.wrap (r13 + r14)))) (IntKind.i64.wrap (2 * r2.fst))) (fun r15 =>
 Option.bind (f52 b) (fun r16 =>
 Option.bind (f52 (nthI [b 3, b 4, b 5])) (fun r17 =>
 Option.bind (f52 (nthI [b 3, b 4, b 5])) (fun r18 =>
 Option.bind (f52 (nthI [b 6, b 7, b 8])) (fun r19 =>
 Option.bind (f52 (nthI [b 15, b 16, b 17])) (fun r20 =>
 Option.bind (f52 (nthI [b 21, b 22, b 23])) (fun r21 =>
 Option.bind (f52 (nthI [b 9, b 10, b 11])) (fun r22 =>
 Option.bind (f52 (nthI [b 27, b 28, b 29])) (fun r23 =>
 Option.bind (f52 (nthI [b 18, b 19, b 20])) (fun r24 =>
 Option.bind (f52 (nthI [b 24, b 25, b 26])) (fun r25 =>
 Option.bind (f52 (nthI [b 12, b 13, b 14])) (fun r26 =>
 Option.bind (f52 (nthI [b 30, b 31, b 32])) (fun r27 =>
 Option.bind (f50 (IntKind.i64.wrap (IntKind.i64.wrap (IntKind.i64.wrap (IntKind.i64.wrap (IntKind.i64.wrap (IntKind.i64.wrap (0 + IntKind.i64.wrap (a 11 * IntKind.i64.wrap (r16 + r17))) + IntKind.i64.wrap (a 12 * IntKind.i64.wrap (r18 + r19))) + IntKind.i64.wrap (a 13 * IntKind.i64.wrap (r20 + r21))) + IntKind.i64.wrap (a 14 * IntKind.i64.wrap (r22 + r23))) + IntKind.i64.wrap (a 13 * IntKind.i64.wrap (r24 + r25))) + IntKind.i64.wrap (a 14 * IntKind.i64.wrap (r26 + r27)))) (IntKind.i64.wrap (2 * r2.fst))) (fun r28 =>
 some (nthI [r15.fst, r28.fst]))))))))))))))))))))))))))))
theorem evg25 (f47 : (Nat → Int) → Option (Int × Int)) (f50 : (Int) → (Int) → Option (Int × Int)) (f51 : (Nat → Int) → Option (Int)) (f52 : (Nat → Int) → Option (Int))  (xx : (aCons (pC (cA .i64 15)) (aOne (pC (cA .i64 33)))).T) : evF (R := (rOne (cA .i64 2)).T) (cx [(48, Tryd.f48), (49, Tryd.f49)] [(47, conF (aOne (pC (cA .i64 15))) (rTup (cCons (cI .i64) (cOne (cI .i64)))) (fun a => f47 a)), (50, conF (aCons (pC (cI .i64)) (aOne (pC (cI .i64)))) (rTup (cCons (cI .i64) (cOne (cI .i64)))) (fun a => f50 (a.1) (a.2))), (51, conF (aOne (pC (cA .i64 3))) (rOne (cI .i64)) (fun a => f51 a)), (52, conF (aOne (pC (cA .i64 3))) (rOne (cI .i64)) (fun a => f52 a))] []) 1000 Tryd.f25 ((aCons (pC (cA .i64 15)) (aOne (pC (cA .i64 33)))).enc gG xx) (glMem gl) 2 (rOne (cA .i64 2)).dec =
 (fun (a : Nat → Int) (b : Nat → Int) =>
 (( Option.bind (f47 (nthI [a 0, a 1, a 2, a 3, a 4, a 5, a 6, a 7, a 8, a 9, a 10, a 11, a 12, a 13, a 14])) (fun r2 =>
 Option.bind (f51 (nthI [b 0, b 1, b 2])) (fun r3 =>
 Option.bind (f51 (nthI [b 3, b 4, b 5])) (fun r4 =>
 Option.bind (f51 (nthI [b 3, b 4, b 5])) (fun r5 =>
 Option.bind (f51 (nthI [b 6, b 7, b 8])) (fun r6 =>
 Option.bind (f51 (nthI [b 15, b 16, b 17])) (fun r7 =>
 Option.bind (f51 (nthI [b 21, b 22, b 23])) (fun r8 =>
 Option.bind (f51 (nthI [b 9, b 10, b 11])) (fun r9 =>
 Option.bind (f51 (nthI [b 27, b 28, b 29])) (fun r10 =>
 Option.bind (f51 (nthI [b 18, b 19, b 20])) (fun r11 =>
 Option.bind (f51 (nthI [b 24, b 25, b 26])) (fun r12 =>
 Option.bind (f51 (nthI [b 12, b 13, b 14])) (fun r13 =>
 Option.bind (f51 (nthI [b 30, b 31, b 32])) (fun r14 =>
 Option.bind (f50 (IntKind.i64.wrap (IntKind.i64.wrap (IntKind.i64.wrap (IntKind.i64.wrap (IntKind.i64.wrap (IntKind.i64.wrap (0 + IntKind.i64.wrap (a 11 * IntKind.i64.wrap (r3 + r4))) + IntKind.i64.wrap (a 12 * IntKind.i64.wrap (r5 + r6))) + IntKind.i64.wrap (a 13 * IntKind.i64.wrap (r7 + r8))) + IntKind.i64.wrap (a 14 * IntKind.i64.wrap (r9 + r10))) + IntKind.i64.wrap (a 13 * IntKind.i64.wrap (r11 + r12))) + IntKind.i64.wrap (a 14 * IntKind.i64.wrap (r13 + r14)))) (IntKind.i64.wrap (2 * r2.fst))) (fun r15 =>
 Option.bind (f52 (nthI [b 0, b 1, b 2])) (fun r16 =>
 Option.bind (f52 (nthI [b 3, b 4, b 5])) (fun r17 =>
 Option.bind (f52 (nthI [b 3, b 4, b 5])) (fun r18 =>
 Option.bind (f52 (nthI [b 6, b 7, b 8])) (fun r19 =>
 Option.bind (f52 (nthI [b 15, b 16, b 17])) (fun r20 =>
 Option.bind (f52 (nthI [b 21, b 22, b 23])) (fun r21 =>
 Option.bind (f52 (nthI [b 9, b 10, b 11])) (fun r22 =>
 Option.bind (f52 (nthI [b 27, b 28, b 29])) (fun r23 =>
 Option.bind (f52 (nthI [b 18, b 19, b 20])) (fun r24 =>
 Option.bind (f52 (nthI [b 24, b 25, b 26])) (fun r25 =>
 Option.bind (f52 (nthI [b 12, b 13, b 14])) (fun r26 =>
 Option.bind (f52 (nthI [b 30, b 31, b 32])) (fun r27 =>
 Option.bind (f50 (IntKind.i64.wrap (IntKind.i64.wrap (IntKind.i64.wrap (IntKind.i64.wrap (IntKind.i64.wrap (IntKind.i64.wrap (0 + IntKind.i64.wrap (a 11 * IntKind.i64.wrap (r16 + r17))) + IntKind.i64.wrap (a 12 * IntKind.i64.wrap (r18 + r19))) + IntKind.i64.wrap (a 13 * IntKind.i64.wrap (r20 + r21))) + IntKind.i64.wrap (a 14 * IntKind.i64.wrap (r22 + r23))) + IntKind.i64.wrap (a 13 * IntKind.i64.wrap (r24 + r25))) + IntKind.i64.wrap (a 14 * IntKind.i64.wrap (r26 + r27)))) (IntKind.i64.wrap (2 * r2.fst))) (fun r28 =>
 some (nthI [r15.fst, r28.fst]))))))))))))))))))))))))))))) : Option ((Nat → Int)))) xx.1 xx.2 := by kernel_rfl
noncomputable def g25 (a : Nat → Int) (b : Nat → Int) : Option ((Nat → Int)) :=
 Option.bind (f47 (nthI [a 0, a 1, a 2, a 3, a 4, a 5, a 6, a 7, a 8, a 9, a 10, a 11, a 12, a 13, a 14])) (fun r2 =>
 Option.bind (f51 (nthI [b 0, b 1, b 2])) (fun r3 =>
 Option.bind (f51 (nthI [b 3, b 4, b 5])) (fun r4 =>
 Option.bind (f51 (nthI [b 3, b 4, b 5])) (fun r5 =>
 Option.bind (f51 (nthI [b 6, b 7, b 8])) (fun r6 =>
 Option.bind (f51 (nthI [b 15, b 16, b 17])) (fun r7 =>
 Option.bind (f51 (nthI [b 21, b 22, b 23])) (fun r8 =>
 Option.bind (f51 (nthI [b 9, b 10, b 11])) (fun r9 =>
 Option.bind (f51 (nthI [b 27, b 28, b 29])) (fun r10 =>
 Option.bind (f51 (nthI [b 18, b 19, b 20])) (fun r11 =>
 Option.bind (f51 (nthI [b 24, b 25, b 26])) (fun r12 =>
 Option.bind (f51 (nthI [b 12, b 13, b 14])) (fun r13 =>
 Option.bind (f51 (nthI [b 30, b 31, b 32])) (fun r14 =>
 Option.bind (f50 (IntKind.i64.wrap (IntKind.i64.wrap (IntKind.i64.wrap (IntKind.i64.wrap (IntKind.i64.wrap (IntKind.i64.wrap (0 + IntKind.i64.wrap (a 11 * IntKind.i64.wrap (r3 + r4))) + IntKind.i64.wrap (a 12 * IntKind.i64.wrap (r5 + r6))) + IntKind.i64.wrap (a 13 * IntKind.i64.wrap (r7 + r8))) + IntKind.i64.wrap (a 14 * IntKind.i64.wrap (r9 + r10))) + IntKind.i64.wrap (a 13 * IntKind.i64.wrap (r11 + r12))) + IntKind.i64.wrap (a 14 * IntKind.i64.wrap (r13 + r14)))) (IntKind.i64.wrap (2 * r2.fst))) (fun r15 =>
 Option.bind (f52 (nthI [b 0, b 1, b 2])) (fun r16 =>
 Option.bind (f52 (nthI [b 3, b 4, b 5])) (fun r17 =>
 Option.bind (f52 (nthI [b 3, b 4, b 5])) (fun r18 =>
 Option.bind (f52 (nthI [b 6, b 7, b 8])) (fun r19 =>
 Option.bind (f52 (nthI [b 15, b 16, b 17])) (fun r20 =>
 Option.bind (f52 (nthI [b 21, b 22, b 23])) (fun r21 =>
 Option.bind (f52 (nthI [b 9, b 10, b 11])) (fun r22 =>
 Option.bind (f52 (nthI [b 27, b 28, b 29])) (fun r23 =>
 Option.bind (f52 (nthI [b 18, b 19, b 20])) (fun r24 =>
 Option.bind (f52 (nthI [b 24, b 25, b 26])) (fun r25 =>
 Option.bind (f52 (nthI [b 12, b 13, b 14])) (fun r26 =>
 Option.bind (f52 (nthI [b 30, b 31, b 32])) (fun r27 =>
 Option.bind (f50 (IntKind.i64.wrap (IntKind.i64.wrap (IntKind.i64.wrap (IntKind.i64.wrap (IntKind.i64.wrap (IntKind.i64.wrap (0 + IntKind.i64.wrap (a 11 * IntKind.i64.wrap (r16 + r17))) + IntKind.i64.wrap (a 12 * IntKind.i64.wrap (r18 + r19))) + IntKind.i64.wrap (a 13 * IntKind.i64.wrap (r20 + r21))) + IntKind.i64.wrap (a 14 * IntKind.i64.wrap (r22 + r23))) + IntKind.i64.wrap (a 13 * IntKind.i64.wrap (r24 + r25))) + IntKind.i64.wrap (a 14 * IntKind.i64.wrap (r26 + r27)))) (IntKind.i64.wrap (2 * r2.fst))) (fun r28 =>
 some (nthI [r15.fst, r28.fst]))))))))))))))))))))))))))))
theorem fg25 (a : Nat → Int) (b : Nat → Int) : g25 a b = f25 a b := by kernel_rfl
theorem ev25 (a : (aCons (pC (cA .i64 15)) (aOne (pC (cA .i64 33)))).T) : evF (R := (rOne (cA .i64 2)).T) (cx [(48, Tryd.f48), (49, Tryd.f49)] [(47, conF (aOne (pC (cA .i64 15))) (rTup (cCons (cI .i64) (cOne (cI .i64)))) (fun a => f47 a)), (50, conF (aCons (pC (cI .i64)) (aOne (pC (cI .i64)))) (rTup (cCons (cI .i64) (cOne (cI .i64)))) (fun a => f50 (a.1) (a.2))), (51, conF (aOne (pC (cA .i64 3))) (rOne (cI .i64)) (fun a => f51 a)), (52, conF (aOne (pC (cA .i64 3))) (rOne (cI .i64)) (fun a => f52 a))] []) 1000 Tryd.f25 ((aCons (pC (cA .i64 15)) (aOne (pC (cA .i64 33)))).enc gG a) (glMem gl) 2 (rOne (cA .i64 2)).dec = f25 a.1 a.2 := (show evF (R := (rOne (cA .i64 2)).T) (cx [(48, Tryd.f48), (49, Tryd.f49)] [(47, conF (aOne (pC (cA .i64 15))) (rTup (cCons (cI .i64) (cOne (cI .i64)))) (fun a => f47 a)), (50, conF (aCons (pC (cI .i64)) (aOne (pC (cI .i64)))) (rTup (cCons (cI .i64) (cOne (cI .i64)))) (fun a => f50 (a.1) (a.2))), (51, conF (aOne (pC (cA .i64 3))) (rOne (cI .i64)) (fun a => f51 a)), (52, conF (aOne (pC (cA .i64 3))) (rOne (cI .i64)) (fun a => f52 a))] []) 1000 Tryd.f25 ((aCons (pC (cA .i64 15)) (aOne (pC (cA .i64 33)))).enc gG a) (glMem gl) 2 (rOne (cA .i64 2)).dec = g25 a.1 a.2 from evg25 f47 f50 f51 f52  a).trans (fg25 a.1 a.2)
theorem sp25 : VE.Spec Tryd.prog gG gl 25 (conF (aCons (pC (cA .i64 15)) (aOne (pC (cA .i64 33)))) (rOne (cA .i64 2)) (fun a => f25 a.1 a.2)) := spec_of ok25 Tryd.func25 Tryd.call25 (lpAll_nil rfl) 1000 (aCons_ok (pC_ok (cA_ok _ _)) (aOne_ok (pC_ok (cA_ok _ _)))) (rOne_ok (cA_ok _ _)) ev25

/-- balance.Center -/
theorem ok10 : CtxOK Tryd.prog (cx [] [(24, conF (aCons (pC (cA .i64 15)) (aCons (pC (cA .i64 22)) (aOne (pC (cI .i64))))) (rTup (cCons (cA .i64 33) (cOne (cI .i64)))) (fun a => f24 (a.1) (a.2.1) (a.2.2))), (25, conF (aCons (pC (cA .i64 15)) (aOne (pC (cA .i64 33)))) (rOne (cA .i64 2)) (fun a => f25 (a.1) (a.2)))] []) gl := ctx_of tyOk moOk (show SpecL Tryd.prog gG gl [(24, conF (aCons (pC (cA .i64 15)) (aCons (pC (cA .i64 22)) (aOne (pC (cI .i64))))) (rTup (cCons (cA .i64 33) (cOne (cI .i64)))) (fun a => f24 (a.1) (a.2.1) (a.2.2))), (25, conF (aCons (pC (cA .i64 15)) (aOne (pC (cA .i64 33)))) (rOne (cA .i64 2)) (fun a => f25 (a.1) (a.2)))] from ⟨sp24, sp25, trivial⟩) (show FnL Tryd.prog [] from trivial) (fnLp_nil _) joinOk
noncomputable def f10 (a : Nat → Int) (b : Nat → Int) (c : Int) : Option ((Nat → Int) × Int) :=
 Option.bind (f24 a b c) (fun r3 =>
 cond (!decide (r3.snd = 0)) (
 some ((nthI [0, 0], r3.snd))) (
 Option.bind (f25 a r3.fst) (fun r4 =>
 some ((nthI [r4 0, r4 1], 0)))))
theorem evg10 (f24 : (Nat → Int) → (Nat → Int) → (Int) → Option ((Nat → Int) × Int)) (f25 : (Nat → Int) → (Nat → Int) → Option ((Nat → Int)))  (xx : (aCons (pC (cA .i64 15)) (aCons (pC (cA .i64 22)) (aOne (pC (cI .i64))))).T) : evF (R := (rTup (cCons (cA .i64 2) (cOne (cI .i64)))).T) (cx [] [(24, conF (aCons (pC (cA .i64 15)) (aCons (pC (cA .i64 22)) (aOne (pC (cI .i64))))) (rTup (cCons (cA .i64 33) (cOne (cI .i64)))) (fun a => f24 (a.1) (a.2.1) (a.2.2))), (25, conF (aCons (pC (cA .i64 15)) (aOne (pC (cA .i64 33)))) (rOne (cA .i64 2)) (fun a => f25 (a.1) (a.2)))] []) 1000 Tryd.f10 ((aCons (pC (cA .i64 15)) (aCons (pC (cA .i64 22)) (aOne (pC (cI .i64))))).enc gG xx) (glMem gl) 2 (rTup (cCons (cA .i64 2) (cOne (cI .i64)))).dec =
 (fun (a : Nat → Int) (b : Nat → Int) (c : Int) =>
 (( Option.bind (f24 (nthI [a 0, a 1, a 2, a 3, a 4, a 5, a 6, a 7, a 8, a 9, a 10, a 11, a 12, a 13, a 14]) (nthI [b 0, b 1, b 2, b 3, b 4, b 5, b 6, b 7, b 8, b 9, b 10, b 11, b 12, b 13, b 14, b 15, b 16, b 17, b 18, b 19, b 20, b 21]) c) (fun r3 =>
 cond (!decide (r3.snd = 0)) (
 some ((nthI [0, 0], r3.snd))) (
 Option.bind (f25 (nthI [a 0, a 1, a 2, a 3, a 4, a 5, a 6, a 7, a 8, a 9, a 10, a 11, a 12, a 13, a 14]) (nthI [r3.fst 0, r3.fst 1, r3.fst 2, r3.fst 3, r3.fst 4, r3.fst 5, r3.fst 6, r3.fst 7, r3.fst 8, r3.fst 9, r3.fst 10, r3.fst 11, r3.fst 12, r3.fst 13, r3.fst 14, r3.fst 15, r3.fst 16, r3.fst 17, r3.fst 18, r3.fst 19, r3.fst 20, r3.fst 21, r3.fst 22, r3.fst 23, r3.fst 24, r3.fst 25, r3.fst 26, r3.fst 27, r3.fst 28, r3.fst 29, r3.fst 30, r3.fst 31, r3.fst 32])) (fun r4 =>
 some ((nthI [r4 0, r4 1], 0)))))) : Option ((Nat → Int) × Int))) xx.1 xx.2.1 xx.2.2 := by kernel_rfl
noncomputable def g10 (a : Nat → Int) (b : Nat → Int) (c : Int) : Option ((Nat → Int) × Int) :=
 Option.bind (f24 (nthI [a 0, a 1, a 2, a 3, a 4, a 5, a 6, a 7, a 8, a 9, a 10, a 11, a 12, a 13, a 14]) (nthI [b 0, b 1, b 2, b 3, b 4, b 5, b 6, b 7, b 8, b 9, b 10, b 11, b 12, b 13, b 14, b 15, b 16, b 17, b 18, b 19, b 20, b 21]) c) (fun r3 =>
 cond (!decide (r3.snd = 0)) (
 some ((nthI [0, 0], r3.snd))) (
 Option.bind (f25 (nthI [a 0, a 1, a 2, a 3, a 4, a 5, a 6, a 7, a 8, a 9, a 10, a 11, a 12, a 13, a 14]) (nthI [r3.fst 0, r3.fst 1, r3.fst 2, r3.fst 3, r3.fst 4, r3.fst 5, r3.fst 6, r3.fst 7, r3.fst 8, r3.fst 9, r3.fst 10, r3.fst 11, r3.fst 12, r3.fst 13, r3.fst 14, r3.fst 15, r3.fst 16, r3.fst 17, r3.fst 18, r3.fst 19, r3.fst 20, r3.fst 21, r3.fst 22, r3.fst 23, r3.fst 24, r3.fst 25, r3.fst 26, r3.fst 27, r3.fst 28, r3.fst 29, r3.fst 30, r3.fst 31, r3.fst 32])) (fun r4 =>
 some ((nthI [r4 0, r4 1], 0)))))
theorem fg10 (a : Nat → Int) (b : Nat → Int) (c : Int) : g10 a b c = f10 a b c := by kernel_rfl
theorem ev10 (a : (aCons (pC (cA .i64 15)) (aCons (pC (cA .i64 22)) (aOne (pC (cI .i64))))).T) : evF (R := (rTup (cCons (cA .i64 2) (cOne (cI .i64)))).T) (cx [] [(24, conF (aCons (pC (cA .i64 15)) (aCons (pC (cA .i64 22)) (aOne (pC (cI .i64))))) (rTup (cCons (cA .i64 33) (cOne (cI .i64)))) (fun a => f24 (a.1) (a.2.1) (a.2.2))), (25, conF (aCons (pC (cA .i64 15)) (aOne (pC (cA .i64 33)))) (rOne (cA .i64 2)) (fun a => f25 (a.1) (a.2)))] []) 1000 Tryd.f10 ((aCons (pC (cA .i64 15)) (aCons (pC (cA .i64 22)) (aOne (pC (cI .i64))))).enc gG a) (glMem gl) 2 (rTup (cCons (cA .i64 2) (cOne (cI .i64)))).dec = f10 a.1 a.2.1 a.2.2 := (show evF (R := (rTup (cCons (cA .i64 2) (cOne (cI .i64)))).T) (cx [] [(24, conF (aCons (pC (cA .i64 15)) (aCons (pC (cA .i64 22)) (aOne (pC (cI .i64))))) (rTup (cCons (cA .i64 33) (cOne (cI .i64)))) (fun a => f24 (a.1) (a.2.1) (a.2.2))), (25, conF (aCons (pC (cA .i64 15)) (aOne (pC (cA .i64 33)))) (rOne (cA .i64 2)) (fun a => f25 (a.1) (a.2)))] []) 1000 Tryd.f10 ((aCons (pC (cA .i64 15)) (aCons (pC (cA .i64 22)) (aOne (pC (cI .i64))))).enc gG a) (glMem gl) 2 (rTup (cCons (cA .i64 2) (cOne (cI .i64)))).dec = g10 a.1 a.2.1 a.2.2 from evg10 f24 f25  a).trans (fg10 a.1 a.2.1 a.2.2)
theorem sp10 : VE.Spec Tryd.prog gG gl 10 (conF (aCons (pC (cA .i64 15)) (aCons (pC (cA .i64 22)) (aOne (pC (cI .i64))))) (rTup (cCons (cA .i64 2) (cOne (cI .i64)))) (fun a => f10 a.1 a.2.1 a.2.2)) := spec_of ok10 Tryd.func10 Tryd.call10 (lpAll_nil rfl) 1000 (aCons_ok (pC_ok (cA_ok _ _)) (aCons_ok (pC_ok (cA_ok _ _)) (aOne_ok (pC_ok (cI_ok _))))) (rTup_ok (cCons_ok (cA_ok _ _) (cOne_ok (cI_ok _)))) ev10

/-- dancestudioref17.in -/
theorem ok72 : CtxOK Tryd.prog (cx [] [] []) gl := ctx_of tyOk moOk (show SpecL Tryd.prog gG gl [] from trivial) (show FnL Tryd.prog [] from trivial) (fnLp_nil _) joinOk
noncomputable def f72 (a : Int) (b : Int) (c : Int) : Option (Bool) :=
 cond (decide (b ≤ a)) (
 some (decide (a ≤ c))) (
 some (false))
theorem evg72   (xx : (aCons (pC (cI .i64)) (aCons (pC (cI .i64)) (aOne (pC (cI .i64))))).T) : evF (R := (rOne (cB)).T) (cx [] [] []) 1000 Tryd.f72 ((aCons (pC (cI .i64)) (aCons (pC (cI .i64)) (aOne (pC (cI .i64))))).enc gG xx) (glMem gl) 2 (rOne (cB)).dec =
 (fun (a : Int) (b : Int) (c : Int) =>
 (( cond (decide (b ≤ a)) (
 some (decide (a ≤ c))) (
 some (false))) : Option (Bool))) xx.1 xx.2.1 xx.2.2 := by kernel_rfl
theorem ev72 (a : (aCons (pC (cI .i64)) (aCons (pC (cI .i64)) (aOne (pC (cI .i64))))).T) : evF (R := (rOne (cB)).T) (cx [] [] []) 1000 Tryd.f72 ((aCons (pC (cI .i64)) (aCons (pC (cI .i64)) (aOne (pC (cI .i64))))).enc gG a) (glMem gl) 2 (rOne (cB)).dec = f72 a.1 a.2.1 a.2.2 := evg72   a
theorem sp72 : VE.Spec Tryd.prog gG gl 72 (conF (aCons (pC (cI .i64)) (aCons (pC (cI .i64)) (aOne (pC (cI .i64))))) (rOne (cB)) (fun a => f72 a.1 a.2.1 a.2.2)) := spec_of ok72 Tryd.func72 Tryd.call72 (lpAll_nil rfl) 1000 (aCons_ok (pC_ok (cI_ok _)) (aCons_ok (pC_ok (cI_ok _)) (aOne_ok (pC_ok (cI_ok _))))) (rOne_ok (cB_ok)) ev72

/-- dancestudioref17.Check -/
theorem ok53 : CtxOK Tryd.prog (cx [] [(72, conF (aCons (pC (cI .i64)) (aCons (pC (cI .i64)) (aOne (pC (cI .i64))))) (rOne (cB)) (fun a => f72 (a.1) (a.2.1) (a.2.2)))] []) gl := ctx_of tyOk moOk (show SpecL Tryd.prog gG gl [(72, conF (aCons (pC (cI .i64)) (aCons (pC (cI .i64)) (aOne (pC (cI .i64))))) (rOne (cB)) (fun a => f72 (a.1) (a.2.1) (a.2.2)))] from ⟨sp72, trivial⟩) (show FnL Tryd.prog [] from trivial) (fnLp_nil _) joinOk
noncomputable def f53 (a : Nat → Int) : Option (Int) :=
 Option.bind (f72 (a 0) 400 1500) (fun r1 =>
 cond (!r1) (
 some (23)) (
 Option.bind (f72 (a 1) 200 1000) (fun r2 =>
 cond (!r2) (
 some (23)) (
 Option.bind (f72 (a 2) 50 500) (fun r3 =>
 cond (!r3) (
 some (23)) (
 Option.bind (f72 (a 3) 200 1200) (fun r4 =>
 cond (!r4) (
 some (23)) (
 Option.bind (f72 (a 4) 20 300) (fun r5 =>
 cond (!r5) (
 some (23)) (
 Option.bind (f72 (a 5) 50 400) (fun r6 =>
 cond (!r6) (
 some (23)) (
 Option.bind (f72 (a 6) 100 1200) (fun r7 =>
 cond (!r7) (
 some (23)) (
 Option.bind (f72 (a 7) 0 200) (fun r8 =>
 cond (!r8) (
 some (23)) (
 Option.bind (f72 (a 8) 0 200) (fun r9 =>
 cond (!r9) (
 some (23)) (
 Option.bind (f72 (a 9) 20 300) (fun r10 =>
 cond (!r10) (
 some (23)) (
 Option.bind (f72 (a 10) 100 1000) (fun r11 =>
 cond (!r11) (
 some (23)) (
 Option.bind (f72 (a 11) 1 200000) (fun r12 =>
 cond (!r12) (
 some (23)) (
 Option.bind (f72 (a 12) 1 200000) (fun r13 =>
 cond (!r13) (
 some (23)) (
 Option.bind (f72 (a 13) 1 200000) (fun r14 =>
 cond (!r14) (
 some (23)) (
 Option.bind (f72 (a 14) 1 200000) (fun r15 =>
 cond (!r15) (
 some (23)) (
 some (0)))))))))))))))))))))))))))))))
theorem evg53 (f72 : (Int) → (Int) → (Int) → Option (Bool))  (xx : (aOne (pC (cA .i64 15))).T) : evF (R := (rOne (cI .i64)).T) (cx [] [(72, conF (aCons (pC (cI .i64)) (aCons (pC (cI .i64)) (aOne (pC (cI .i64))))) (rOne (cB)) (fun a => f72 (a.1) (a.2.1) (a.2.2)))] []) 1000 Tryd.f53 ((aOne (pC (cA .i64 15))).enc gG xx) (glMem gl) 2 (rOne (cI .i64)).dec =
 (fun (a : Nat → Int) =>
 (( Option.bind (f72 (a 0) 400 1500) (fun r1 =>
 cond (!r1) (
 some (23)) (
 Option.bind (f72 (a 1) 200 1000) (fun r2 =>
 cond (!r2) (
 some (23)) (
 Option.bind (f72 (a 2) 50 500) (fun r3 =>
 cond (!r3) (
 some (23)) (
 Option.bind (f72 (a 3) 200 1200) (fun r4 =>
 cond (!r4) (
 some (23)) (
 Option.bind (f72 (a 4) 20 300) (fun r5 =>
 cond (!r5) (
 some (23)) (
 Option.bind (f72 (a 5) 50 400) (fun r6 =>
 cond (!r6) (
 some (23)) (
 Option.bind (f72 (a 6) 100 1200) (fun r7 =>
 cond (!r7) (
 some (23)) (
 Option.bind (f72 (a 7) 0 200) (fun r8 =>
 cond (!r8) (
 some (23)) (
 Option.bind (f72 (a 8) 0 200) (fun r9 =>
 cond (!r9) (
 some (23)) (
 Option.bind (f72 (a 9) 20 300) (fun r10 =>
 cond (!r10) (
 some (23)) (
 Option.bind (f72 (a 10) 100 1000) (fun r11 =>
 cond (!r11) (
 some (23)) (
 Option.bind (f72 (a 11) 1 200000) (fun r12 =>
 cond (!r12) (
 some (23)) (
 Option.bind (f72 (a 12) 1 200000) (fun r13 =>
 cond (!r13) (
 some (23)) (
 Option.bind (f72 (a 13) 1 200000) (fun r14 =>
 cond (!r14) (
 some (23)) (
 Option.bind (f72 (a 14) 1 200000) (fun r15 =>
 cond (!r15) (
 some (23)) (
 some (0)))))))))))))))))))))))))))))))) : Option (Int))) xx := by kernel_rfl
theorem ev53 (a : (aOne (pC (cA .i64 15))).T) : evF (R := (rOne (cI .i64)).T) (cx [] [(72, conF (aCons (pC (cI .i64)) (aCons (pC (cI .i64)) (aOne (pC (cI .i64))))) (rOne (cB)) (fun a => f72 (a.1) (a.2.1) (a.2.2)))] []) 1000 Tryd.f53 ((aOne (pC (cA .i64 15))).enc gG a) (glMem gl) 2 (rOne (cI .i64)).dec = f53 a := evg53 f72  a
theorem sp53 : VE.Spec Tryd.prog gG gl 53 (conF (aOne (pC (cA .i64 15))) (rOne (cI .i64)) (fun a => f53 a)) := spec_of ok53 Tryd.func53 Tryd.call53 (lpAll_nil rfl) 1000 (aOne_ok (pC_ok (cA_ok _ _))) (rOne_ok (cI_ok _)) ev53

/-- dancestudioref19.On -/
theorem ok73 : CtxOK Tryd.prog (cx [] [] []) gl := ctx_of tyOk moOk (show SpecL Tryd.prog gG gl [] from trivial) (show FnL Tryd.prog [] from trivial) (fnLp_nil _) joinOk
noncomputable def f73 (a : Int) : Option (Bool) :=
 cond (decide (-32768 ≤ a)) (
 some (decide (a ≤ 32768))) (
 some (false))
theorem evg73   (xx : (aOne (pC (cI .i64))).T) : evF (R := (rOne (cB)).T) (cx [] [] []) 1000 Tryd.f73 ((aOne (pC (cI .i64))).enc gG xx) (glMem gl) 2 (rOne (cB)).dec =
 (fun (a : Int) =>
 (( cond (decide (-32768 ≤ a)) (
 some (decide (a ≤ 32768))) (
 some (false))) : Option (Bool))) xx := by kernel_rfl
theorem ev73 (a : (aOne (pC (cI .i64))).T) : evF (R := (rOne (cB)).T) (cx [] [] []) 1000 Tryd.f73 ((aOne (pC (cI .i64))).enc gG a) (glMem gl) 2 (rOne (cB)).dec = f73 a := evg73   a
theorem sp73 : VE.Spec Tryd.prog gG gl 73 (conF (aOne (pC (cI .i64))) (rOne (cB)) (fun a => f73 a)) := spec_of ok73 Tryd.func73 Tryd.call73 (lpAll_nil rfl) 1000 (aOne_ok (pC_ok (cI_ok _))) (rOne_ok (cB_ok)) ev73

/-- dancestudioref18.limbed -/
theorem ok87 : CtxOK Tryd.prog (cx [] [] []) gl := ctx_of tyOk moOk (show SpecL Tryd.prog gG gl [] from trivial) (show FnL Tryd.prog [] from trivial) (fnLp_nil _) joinOk
noncomputable def f87 (a : Int) : Option (Bool) :=
 cond (decide (0 ≤ a)) (
 some (decide (a < 6))) (
 some (false))
theorem evg87   (xx : (aOne (pC (cI .i64))).T) : evF (R := (rOne (cB)).T) (cx [] [] []) 1000 Tryd.f87 ((aOne (pC (cI .i64))).enc gG xx) (glMem gl) 2 (rOne (cB)).dec =
 (fun (a : Int) =>
 (( cond (decide (0 ≤ a)) (
 some (decide (a < 6))) (
 some (false))) : Option (Bool))) xx := by kernel_rfl
theorem ev87 (a : (aOne (pC (cI .i64))).T) : evF (R := (rOne (cB)).T) (cx [] [] []) 1000 Tryd.f87 ((aOne (pC (cI .i64))).enc gG a) (glMem gl) 2 (rOne (cB)).dec = f87 a := evg87   a
theorem sp87 : VE.Spec Tryd.prog gG gl 87 (conF (aOne (pC (cI .i64))) (rOne (cB)) (fun a => f87 a)) := spec_of ok87 Tryd.func87 Tryd.call87 (lpAll_nil rfl) 1000 (aOne_ok (pC_ok (cI_ok _))) (rOne_ok (cB_ok)) ev87

/-- dancestudioref18.Pole -/
theorem ok88 : CtxOK Tryd.prog (cx [] [] []) gl := ctx_of tyOk moOk (show SpecL Tryd.prog gG gl [] from trivial) (show FnL Tryd.prog [] from trivial) (fnLp_nil _) joinOk
noncomputable def f88 (a : Nat → Int) : Option (Bool) :=
 cond (decide (a 1 = 64)) (
 some (true)) (
 some (decide (a 1 = -64)))
theorem evg88   (xx : (aOne (pC (cA .i64 3))).T) : evF (R := (rOne (cB)).T) (cx [] [] []) 1000 Tryd.f88 ((aOne (pC (cA .i64 3))).enc gG xx) (glMem gl) 2 (rOne (cB)).dec =
 (fun (a : Nat → Int) =>
 (( cond (decide (a 1 = 64)) (
 some (true)) (
 some (decide (a 1 = -64)))) : Option (Bool))) xx := by kernel_rfl
theorem ev88 (a : (aOne (pC (cA .i64 3))).T) : evF (R := (rOne (cB)).T) (cx [] [] []) 1000 Tryd.f88 ((aOne (pC (cA .i64 3))).enc gG a) (glMem gl) 2 (rOne (cB)).dec = f88 a := evg88   a
theorem sp88 : VE.Spec Tryd.prog gG gl 88 (conF (aOne (pC (cA .i64 3))) (rOne (cB)) (fun a => f88 a)) := spec_of ok88 Tryd.func88 Tryd.call88 (lpAll_nil rfl) 1000 (aOne_ok (pC_ok (cA_ok _ _))) (rOne_ok (cB_ok)) ev88

/-- dancestudioref18.Check -/
theorem ok74 : CtxOK Tryd.prog (cx [] [(87, conF (aOne (pC (cI .i64))) (rOne (cB)) (fun a => f87 a)), (88, conF (aOne (pC (cA .i64 3))) (rOne (cB)) (fun a => f88 a))] []) gl := ctx_of tyOk moOk (show SpecL Tryd.prog gG gl [(87, conF (aOne (pC (cI .i64))) (rOne (cB)) (fun a => f87 a)), (88, conF (aOne (pC (cA .i64 3))) (rOne (cB)) (fun a => f88 a))] from ⟨sp87, sp88, trivial⟩) (show FnL Tryd.prog [] from trivial) (fnLp_nil _) joinOk
noncomputable def f74 (a : Int) (b : Nat → Int) : Option (Int) :=
 Option.bind (f87 a) (fun r2 =>
 cond (!r2) (
 some (9)) (
 cond (decide (b 0 < 0)) (
 some (1)) (
 cond (decide (255 < b 0)) (
 some (1)) (
 cond (decide (b 1 < -64)) (
 some (1)) (
 cond (decide (64 < b 1)) (
 some (1)) (
 cond (decide (b 2 < 0)) (
 some (1)) (
 cond (decide (6 < b 2)) (
 some (1)) (
 Option.bind (f88 b) (fun r3 =>
 cond (r3) (
 cond (!decide (b 0 = 0)) (
 some (2)) (
 some (0))) (
 some (0)))))))))))
theorem evg74 (f87 : (Int) → Option (Bool)) (f88 : (Nat → Int) → Option (Bool))  (xx : (aCons (pC (cI .i64)) (aOne (pC (cA .i64 3)))).T) : evF (R := (rOne (cI .i64)).T) (cx [] [(87, conF (aOne (pC (cI .i64))) (rOne (cB)) (fun a => f87 a)), (88, conF (aOne (pC (cA .i64 3))) (rOne (cB)) (fun a => f88 a))] []) 1000 Tryd.f74 ((aCons (pC (cI .i64)) (aOne (pC (cA .i64 3)))).enc gG xx) (glMem gl) 2 (rOne (cI .i64)).dec =
 (fun (a : Int) (b : Nat → Int) =>
 (( Option.bind (f87 a) (fun r2 =>
 cond (!r2) (
 some (9)) (
 cond (decide (b 0 < 0)) (
 some (1)) (
 cond (decide (255 < b 0)) (
 some (1)) (
 cond (decide (b 1 < -64)) (
 some (1)) (
 cond (decide (64 < b 1)) (
 some (1)) (
 cond (decide (b 2 < 0)) (
 some (1)) (
 cond (decide (6 < b 2)) (
 some (1)) (
 Option.bind (f88 (nthI [b 0, b 1, b 2])) (fun r3 =>
 cond (r3) (
 cond (!decide (b 0 = 0)) (
 some (2)) (
 some (0))) (
 some (0)))))))))))) : Option (Int))) xx.1 xx.2 := by kernel_rfl
noncomputable def g74 (a : Int) (b : Nat → Int) : Option (Int) :=
 Option.bind (f87 a) (fun r2 =>
 cond (!r2) (
 some (9)) (
 cond (decide (b 0 < 0)) (
 some (1)) (
 cond (decide (255 < b 0)) (
 some (1)) (
 cond (decide (b 1 < -64)) (
 some (1)) (
 cond (decide (64 < b 1)) (
 some (1)) (
 cond (decide (b 2 < 0)) (
 some (1)) (
 cond (decide (6 < b 2)) (
 some (1)) (
 Option.bind (f88 (nthI [b 0, b 1, b 2])) (fun r3 =>
 cond (r3) (
 cond (!decide (b 0 = 0)) (
 some (2)) (
 some (0))) (
 some (0)))))))))))
theorem fg74 (a : Int) (b : Nat → Int) : g74 a b = f74 a b := by kernel_rfl
theorem ev74 (a : (aCons (pC (cI .i64)) (aOne (pC (cA .i64 3)))).T) : evF (R := (rOne (cI .i64)).T) (cx [] [(87, conF (aOne (pC (cI .i64))) (rOne (cB)) (fun a => f87 a)), (88, conF (aOne (pC (cA .i64 3))) (rOne (cB)) (fun a => f88 a))] []) 1000 Tryd.f74 ((aCons (pC (cI .i64)) (aOne (pC (cA .i64 3)))).enc gG a) (glMem gl) 2 (rOne (cI .i64)).dec = f74 a.1 a.2 := (show evF (R := (rOne (cI .i64)).T) (cx [] [(87, conF (aOne (pC (cI .i64))) (rOne (cB)) (fun a => f87 a)), (88, conF (aOne (pC (cA .i64 3))) (rOne (cB)) (fun a => f88 a))] []) 1000 Tryd.f74 ((aCons (pC (cI .i64)) (aOne (pC (cA .i64 3)))).enc gG a) (glMem gl) 2 (rOne (cI .i64)).dec = g74 a.1 a.2 from evg74 f87 f88  a).trans (fg74 a.1 a.2)
theorem sp74 : VE.Spec Tryd.prog gG gl 74 (conF (aCons (pC (cI .i64)) (aOne (pC (cA .i64 3)))) (rOne (cI .i64)) (fun a => f74 a.1 a.2)) := spec_of ok74 Tryd.func74 Tryd.call74 (lpAll_nil rfl) 1000 (aCons_ok (pC_ok (cI_ok _)) (aOne_ok (pC_ok (cA_ok _ _)))) (rOne_ok (cI_ok _)) ev74

/-- dancestudioref19.Valid -/
theorem ok54 : CtxOK Tryd.prog (cx [] [(73, conF (aOne (pC (cI .i64))) (rOne (cB)) (fun a => f73 a)), (74, conF (aCons (pC (cI .i64)) (aOne (pC (cA .i64 3)))) (rOne (cI .i64)) (fun a => f74 (a.1) (a.2)))] []) gl := ctx_of tyOk moOk (show SpecL Tryd.prog gG gl [(73, conF (aOne (pC (cI .i64))) (rOne (cB)) (fun a => f73 a)), (74, conF (aCons (pC (cI .i64)) (aOne (pC (cA .i64 3)))) (rOne (cI .i64)) (fun a => f74 (a.1) (a.2)))] from ⟨sp73, sp74, trivial⟩) (show FnL Tryd.prog [] from trivial) (fnLp_nil _) joinOk
noncomputable def f54 (a : Nat → Int) : Option (Int) :=
 Option.bind (f73 (a 0)) (fun r1 =>
 cond (!r1) (
 some (1)) (
 Option.bind (f73 (a 1)) (fun r2 =>
 cond (!r2) (
 some (1)) (
 cond (decide (a 2 < 0)) (
 some (1)) (
 cond (decide (255 < a 2)) (
 some (1)) (
 cond (decide (a 3 < -8)) (
 some (1)) (
 cond (decide (8 < a 3)) (
 some (1)) (
 Option.bind (f74 0 (nthI [a 4, a 5, a 6])) (fun r3 =>
 cond (!decide (r3 = 0)) (
 some (r3)) (
 Option.bind (f74 1 (nthI [a 7, a 8, a 9])) (fun r4 =>
 cond (!decide (r4 = 0)) (
 some (r4)) (
 Option.bind (f74 2 (nthI [a 10, a 11, a 12])) (fun r5 =>
 cond (!decide (r5 = 0)) (
 some (r5)) (
 Option.bind (f74 3 (nthI [a 13, a 14, a 15])) (fun r6 =>
 cond (!decide (r6 = 0)) (
 some (r6)) (
 Option.bind (f74 4 (nthI [a 16, a 17, a 18])) (fun r7 =>
 cond (!decide (r7 = 0)) (
 some (r7)) (
 Option.bind (f74 5 (nthI [a 19, a 20, a 21])) (fun r8 =>
 cond (!decide (r8 = 0)) (
 some (r8)) (
 some (0)))))))))))))))))))))
theorem evg54 (f73 : (Int) → Option (Bool)) (f74 : (Int) → (Nat → Int) → Option (Int))  (xx : (aOne (pC (cA .i64 22))).T) : evF (R := (rOne (cI .i64)).T) (cx [] [(73, conF (aOne (pC (cI .i64))) (rOne (cB)) (fun a => f73 a)), (74, conF (aCons (pC (cI .i64)) (aOne (pC (cA .i64 3)))) (rOne (cI .i64)) (fun a => f74 (a.1) (a.2)))] []) 1000 Tryd.f54 ((aOne (pC (cA .i64 22))).enc gG xx) (glMem gl) 2 (rOne (cI .i64)).dec =
 (fun (a : Nat → Int) =>
 (( Option.bind (f73 (a 0)) (fun r1 =>
 cond (!r1) (
 some (1)) (
 Option.bind (f73 (a 1)) (fun r2 =>
 cond (!r2) (
 some (1)) (
 cond (decide (a 2 < 0)) (
 some (1)) (
 cond (decide (255 < a 2)) (
 some (1)) (
 cond (decide (a 3 < -8)) (
 some (1)) (
 cond (decide (8 < a 3)) (
 some (1)) (
 Option.bind (f74 0 (nthI [a 4, a 5, a 6])) (fun r3 =>
 cond (!decide (r3 = 0)) (
 some (r3)) (
 Option.bind (f74 1 (nthI [a 7, a 8, a 9])) (fun r4 =>
 cond (!decide (r4 = 0)) (
 some (r4)) (
 Option.bind (f74 2 (nthI [a 10, a 11, a 12])) (fun r5 =>
 cond (!decide (r5 = 0)) (
 some (r5)) (
 Option.bind (f74 3 (nthI [a 13, a 14, a 15])) (fun r6 =>
 cond (!decide (r6 = 0)) (
 some (r6)) (
 Option.bind (f74 4 (nthI [a 16, a 17, a 18])) (fun r7 =>
 cond (!decide (r7 = 0)) (
 some (r7)) (
 Option.bind (f74 5 (nthI [a 19, a 20, a 21])) (fun r8 =>
 cond (!decide (r8 = 0)) (
 some (r8)) (
 some (0)))))))))))))))))))))) : Option (Int))) xx := by kernel_rfl
theorem ev54 (a : (aOne (pC (cA .i64 22))).T) : evF (R := (rOne (cI .i64)).T) (cx [] [(73, conF (aOne (pC (cI .i64))) (rOne (cB)) (fun a => f73 a)), (74, conF (aCons (pC (cI .i64)) (aOne (pC (cA .i64 3)))) (rOne (cI .i64)) (fun a => f74 (a.1) (a.2)))] []) 1000 Tryd.f54 ((aOne (pC (cA .i64 22))).enc gG a) (glMem gl) 2 (rOne (cI .i64)).dec = f54 a := evg54 f73 f74  a
theorem sp54 : VE.Spec Tryd.prog gG gl 54 (conF (aOne (pC (cA .i64 22))) (rOne (cI .i64)) (fun a => f54 a)) := spec_of ok54 Tryd.func54 Tryd.call54 (lpAll_nil rfl) 1000 (aOne_ok (pC_ok (cA_ok _ _))) (rOne_ok (cI_ok _)) ev54

/-- dancestudioref01.Small -/
theorem ok59 : CtxOK Tryd.prog (cx [] [] []) gl := ctx_of tyOk moOk (show SpecL Tryd.prog gG gl [] from trivial) (show FnL Tryd.prog [] from trivial) (fnLp_nil _) joinOk
noncomputable def f59 (a : Int) : Option (Bool) :=
 cond (decide (-1125899906842624 ≤ a)) (
 some (decide (a ≤ 1125899906842624))) (
 some (false))
theorem evg59   (xx : (aOne (pC (cI .i64))).T) : evF (R := (rOne (cB)).T) (cx [] [] []) 1000 Tryd.f59 ((aOne (pC (cI .i64))).enc gG xx) (glMem gl) 2 (rOne (cB)).dec =
 (fun (a : Int) =>
 (( cond (decide (-1125899906842624 ≤ a)) (
 some (decide (a ≤ 1125899906842624))) (
 some (false))) : Option (Bool))) xx := by kernel_rfl
theorem ev59 (a : (aOne (pC (cI .i64))).T) : evF (R := (rOne (cB)).T) (cx [] [] []) 1000 Tryd.f59 ((aOne (pC (cI .i64))).enc gG a) (glMem gl) 2 (rOne (cB)).dec = f59 a := evg59   a
theorem sp59 : VE.Spec Tryd.prog gG gl 59 (conF (aOne (pC (cI .i64))) (rOne (cB)) (fun a => f59 a)) := spec_of ok59 Tryd.func59 Tryd.call59 (lpAll_nil rfl) 1000 (aOne_ok (pC_ok (cI_ok _))) (rOne_ok (cB_ok)) ev59

/-- dancestudioref01.down -/
theorem ok77 : CtxOK Tryd.prog (cx [] [] []) gl := ctx_of tyOk moOk (show SpecL Tryd.prog gG gl [] from trivial) (show FnL Tryd.prog [] from trivial) (fnLp_nil _) joinOk
noncomputable def f77 (a : Int) (b : Int) : Option (Int × Int) :=
 cond (decide (b = 0)) none (
 cond (decide (b = 0)) none (
 cond (decide (a.tmod b < 0)) (
 some ((IntKind.i64.wrap (IntKind.i64.wrap (a.tdiv b) - 1), IntKind.i64.wrap (a.tmod b + b)))) (
 some ((IntKind.i64.wrap (a.tdiv b), a.tmod b)))))
theorem evg77   (xx : (aCons (pC (cI .i64)) (aOne (pC (cI .i64)))).T) : evF (R := (rTup (cCons (cI .i64) (cOne (cI .i64)))).T) (cx [] [] []) 1000 Tryd.f77 ((aCons (pC (cI .i64)) (aOne (pC (cI .i64)))).enc gG xx) (glMem gl) 2 (rTup (cCons (cI .i64) (cOne (cI .i64)))).dec =
 (fun (a : Int) (b : Int) =>
 (( cond (decide (b = 0)) none (
 cond (decide (b = 0)) none (
 cond (decide (a.tmod b < 0)) (
 some ((IntKind.i64.wrap (IntKind.i64.wrap (a.tdiv b) - 1), IntKind.i64.wrap (a.tmod b + b)))) (
 some ((IntKind.i64.wrap (a.tdiv b), a.tmod b)))))) : Option (Int × Int))) xx.1 xx.2 := by kernel_rfl
theorem ev77 (a : (aCons (pC (cI .i64)) (aOne (pC (cI .i64)))).T) : evF (R := (rTup (cCons (cI .i64) (cOne (cI .i64)))).T) (cx [] [] []) 1000 Tryd.f77 ((aCons (pC (cI .i64)) (aOne (pC (cI .i64)))).enc gG a) (glMem gl) 2 (rTup (cCons (cI .i64) (cOne (cI .i64)))).dec = f77 a.1 a.2 := evg77   a
theorem sp77 : VE.Spec Tryd.prog gG gl 77 (conF (aCons (pC (cI .i64)) (aOne (pC (cI .i64)))) (rTup (cCons (cI .i64) (cOne (cI .i64)))) (fun a => f77 a.1 a.2)) := spec_of ok77 Tryd.func77 Tryd.call77 (lpAll_nil rfl) 1000 (aCons_ok (pC_ok (cI_ok _)) (aOne_ok (pC_ok (cI_ok _)))) (rTup_ok (cCons_ok (cI_ok _) (cOne_ok (cI_ok _)))) ev77

/-- dancestudioref01.nearest -/
theorem ok60 : CtxOK Tryd.prog (cx [] [(77, conF (aCons (pC (cI .i64)) (aOne (pC (cI .i64)))) (rTup (cCons (cI .i64) (cOne (cI .i64)))) (fun a => f77 (a.1) (a.2)))] []) gl := ctx_of tyOk moOk (show SpecL Tryd.prog gG gl [(77, conF (aCons (pC (cI .i64)) (aOne (pC (cI .i64)))) (rTup (cCons (cI .i64) (cOne (cI .i64)))) (fun a => f77 (a.1) (a.2)))] from ⟨sp77, trivial⟩) (show FnL Tryd.prog [] from trivial) (fnLp_nil _) joinOk
noncomputable def f60 (a : Int) (b : Int) : Option (Int) :=
 Option.bind (f77 a b) (fun r2 =>
 cond (decide (IntKind.i64.wrap (b - r2.snd) < r2.snd)) (
 some (IntKind.i64.wrap (r2.fst + 1))) (
 cond (decide (r2.snd = IntKind.i64.wrap (b - r2.snd))) (
 cond (!decide (r2.fst.tmod 2 = 0)) (
 some (IntKind.i64.wrap (r2.fst + 1))) (
 some (r2.fst))) (
 some (r2.fst))))
theorem evg60 (f77 : (Int) → (Int) → Option (Int × Int))  (xx : (aCons (pC (cI .i64)) (aOne (pC (cI .i64)))).T) : evF (R := (rOne (cI .i64)).T) (cx [] [(77, conF (aCons (pC (cI .i64)) (aOne (pC (cI .i64)))) (rTup (cCons (cI .i64) (cOne (cI .i64)))) (fun a => f77 (a.1) (a.2)))] []) 1000 Tryd.f60 ((aCons (pC (cI .i64)) (aOne (pC (cI .i64)))).enc gG xx) (glMem gl) 2 (rOne (cI .i64)).dec =
 (fun (a : Int) (b : Int) =>
 (( Option.bind (f77 a b) (fun r2 =>
 cond (decide (IntKind.i64.wrap (b - r2.snd) < r2.snd)) (
 some (IntKind.i64.wrap (r2.fst + 1))) (
 cond (decide (r2.snd = IntKind.i64.wrap (b - r2.snd))) (
 cond (!decide (r2.fst.tmod 2 = 0)) (
 some (IntKind.i64.wrap (r2.fst + 1))) (
 some (r2.fst))) (
 some (r2.fst))))) : Option (Int))) xx.1 xx.2 := by kernel_rfl
theorem ev60 (a : (aCons (pC (cI .i64)) (aOne (pC (cI .i64)))).T) : evF (R := (rOne (cI .i64)).T) (cx [] [(77, conF (aCons (pC (cI .i64)) (aOne (pC (cI .i64)))) (rTup (cCons (cI .i64) (cOne (cI .i64)))) (fun a => f77 (a.1) (a.2)))] []) 1000 Tryd.f60 ((aCons (pC (cI .i64)) (aOne (pC (cI .i64)))).enc gG a) (glMem gl) 2 (rOne (cI .i64)).dec = f60 a.1 a.2 := evg60 f77  a
theorem sp60 : VE.Spec Tryd.prog gG gl 60 (conF (aCons (pC (cI .i64)) (aOne (pC (cI .i64)))) (rOne (cI .i64)) (fun a => f60 a.1 a.2)) := spec_of ok60 Tryd.func60 Tryd.call60 (lpAll_nil rfl) 1000 (aCons_ok (pC_ok (cI_ok _)) (aOne_ok (pC_ok (cI_ok _)))) (rOne_ok (cI_ok _)) ev60

/-- dancestudioref01.Round -/
theorem ok29 : CtxOK Tryd.prog (cx [] [(59, conF (aOne (pC (cI .i64))) (rOne (cB)) (fun a => f59 a)), (60, conF (aCons (pC (cI .i64)) (aOne (pC (cI .i64)))) (rOne (cI .i64)) (fun a => f60 (a.1) (a.2)))] []) gl := ctx_of tyOk moOk (show SpecL Tryd.prog gG gl [(59, conF (aOne (pC (cI .i64))) (rOne (cB)) (fun a => f59 a)), (60, conF (aCons (pC (cI .i64)) (aOne (pC (cI .i64)))) (rOne (cI .i64)) (fun a => f60 (a.1) (a.2)))] from ⟨sp59, sp60, trivial⟩) (show FnL Tryd.prog [] from trivial) (fnLp_nil _) joinOk
noncomputable def f29 (a : Int) (b : Int) : Option (Int × Int) :=
 Option.bind (f59 a) (fun r2 =>
 cond (!r2) (
 some ((0, 1))) (
 Option.bind (f59 b) (fun r3 =>
 cond (!r3) (
 some ((0, 1))) (
 cond (decide (b = 0)) (
 some ((0, 11))) (
 cond (decide (b < 0)) (
 Option.bind (f60 (IntKind.i64.wrap (0 - a)) (IntKind.i64.wrap (0 - b))) (fun r4 =>
 some ((r4, 0)))) (
 Option.bind (f60 a b) (fun r4 =>
 some ((r4, 0)))))))))
theorem evg29 (f59 : (Int) → Option (Bool)) (f60 : (Int) → (Int) → Option (Int))  (xx : (aCons (pC (cI .i64)) (aOne (pC (cI .i64)))).T) : evF (R := (rTup (cCons (cI .i64) (cOne (cI .i64)))).T) (cx [] [(59, conF (aOne (pC (cI .i64))) (rOne (cB)) (fun a => f59 a)), (60, conF (aCons (pC (cI .i64)) (aOne (pC (cI .i64)))) (rOne (cI .i64)) (fun a => f60 (a.1) (a.2)))] []) 1000 Tryd.f29 ((aCons (pC (cI .i64)) (aOne (pC (cI .i64)))).enc gG xx) (glMem gl) 2 (rTup (cCons (cI .i64) (cOne (cI .i64)))).dec =
 (fun (a : Int) (b : Int) =>
 (( Option.bind (f59 a) (fun r2 =>
 cond (!r2) (
 some ((0, 1))) (
 Option.bind (f59 b) (fun r3 =>
 cond (!r3) (
 some ((0, 1))) (
 cond (decide (b = 0)) (
 some ((0, 11))) (
 cond (decide (b < 0)) (
 Option.bind (f60 (IntKind.i64.wrap (0 - a)) (IntKind.i64.wrap (0 - b))) (fun r4 =>
 some ((r4, 0)))) (
 Option.bind (f60 a b) (fun r4 =>
 some ((r4, 0)))))))))) : Option (Int × Int))) xx.1 xx.2 := by kernel_rfl
theorem ev29 (a : (aCons (pC (cI .i64)) (aOne (pC (cI .i64)))).T) : evF (R := (rTup (cCons (cI .i64) (cOne (cI .i64)))).T) (cx [] [(59, conF (aOne (pC (cI .i64))) (rOne (cB)) (fun a => f59 a)), (60, conF (aCons (pC (cI .i64)) (aOne (pC (cI .i64)))) (rOne (cI .i64)) (fun a => f60 (a.1) (a.2)))] []) 1000 Tryd.f29 ((aCons (pC (cI .i64)) (aOne (pC (cI .i64)))).enc gG a) (glMem gl) 2 (rTup (cCons (cI .i64) (cOne (cI .i64)))).dec = f29 a.1 a.2 := evg29 f59 f60  a
theorem sp29 : VE.Spec Tryd.prog gG gl 29 (conF (aCons (pC (cI .i64)) (aOne (pC (cI .i64)))) (rTup (cCons (cI .i64) (cOne (cI .i64)))) (fun a => f29 a.1 a.2)) := spec_of ok29 Tryd.func29 Tryd.call29 (lpAll_nil rfl) 1000 (aCons_ok (pC_ok (cI_ok _)) (aOne_ok (pC_ok (cI_ok _)))) (rTup_ok (cCons_ok (cI_ok _) (cOne_ok (cI_ok _)))) ev29

/-- dancestudioref20.round -/
theorem ok55 : CtxOK Tryd.prog (cx [] [(29, conF (aCons (pC (cI .i64)) (aOne (pC (cI .i64)))) (rTup (cCons (cI .i64) (cOne (cI .i64)))) (fun a => f29 (a.1) (a.2)))] []) gl := ctx_of tyOk moOk (show SpecL Tryd.prog gG gl [(29, conF (aCons (pC (cI .i64)) (aOne (pC (cI .i64)))) (rTup (cCons (cI .i64) (cOne (cI .i64)))) (fun a => f29 (a.1) (a.2)))] from ⟨sp29, trivial⟩) (show FnL Tryd.prog [] from trivial) (fnLp_nil _) joinOk
noncomputable def f55 (a : Int) (b : Int) : Option (Int) :=
 Option.bind (f29 a b) (fun r2 =>
 some (r2.fst))
theorem evg55 (f29 : (Int) → (Int) → Option (Int × Int))  (xx : (aCons (pC (cI .i64)) (aOne (pC (cI .i64)))).T) : evF (R := (rOne (cI .i64)).T) (cx [] [(29, conF (aCons (pC (cI .i64)) (aOne (pC (cI .i64)))) (rTup (cCons (cI .i64) (cOne (cI .i64)))) (fun a => f29 (a.1) (a.2)))] []) 1000 Tryd.f55 ((aCons (pC (cI .i64)) (aOne (pC (cI .i64)))).enc gG xx) (glMem gl) 2 (rOne (cI .i64)).dec =
 (fun (a : Int) (b : Int) =>
 (( Option.bind (f29 a b) (fun r2 =>
 some (r2.fst))) : Option (Int))) xx.1 xx.2 := by kernel_rfl
theorem ev55 (a : (aCons (pC (cI .i64)) (aOne (pC (cI .i64)))).T) : evF (R := (rOne (cI .i64)).T) (cx [] [(29, conF (aCons (pC (cI .i64)) (aOne (pC (cI .i64)))) (rTup (cCons (cI .i64) (cOne (cI .i64)))) (fun a => f29 (a.1) (a.2)))] []) 1000 Tryd.f55 ((aCons (pC (cI .i64)) (aOne (pC (cI .i64)))).enc gG a) (glMem gl) 2 (rOne (cI .i64)).dec = f55 a.1 a.2 := evg55 f29  a
theorem sp55 : VE.Spec Tryd.prog gG gl 55 (conF (aCons (pC (cI .i64)) (aOne (pC (cI .i64)))) (rOne (cI .i64)) (fun a => f55 a.1 a.2)) := spec_of ok55 Tryd.func55 Tryd.call55 (lpAll_nil rfl) 1000 (aCons_ok (pC_ok (cI_ok _)) (aOne_ok (pC_ok (cI_ok _)))) (rOne_ok (cI_ok _)) ev55

/-- dancestudioref20.plus -/
theorem ok56 : CtxOK Tryd.prog (cx [] [] []) gl := ctx_of tyOk moOk (show SpecL Tryd.prog gG gl [] from trivial) (show FnL Tryd.prog [] from trivial) (fnLp_nil _) joinOk
noncomputable def f56 (a : Nat → Int) (b : Nat → Int) : Option ((Nat → Int)) :=
 some (nthI [IntKind.i64.wrap (a 0 + b 0), IntKind.i64.wrap (a 1 + b 1), IntKind.i64.wrap (a 2 + b 2)])
theorem evg56   (xx : (aCons (pC (cA .i64 3)) (aOne (pC (cA .i64 3)))).T) : evF (R := (rOne (cA .i64 3)).T) (cx [] [] []) 1000 Tryd.f56 ((aCons (pC (cA .i64 3)) (aOne (pC (cA .i64 3)))).enc gG xx) (glMem gl) 2 (rOne (cA .i64 3)).dec =
 (fun (a : Nat → Int) (b : Nat → Int) =>
 (( some (nthI [IntKind.i64.wrap (a 0 + b 0), IntKind.i64.wrap (a 1 + b 1), IntKind.i64.wrap (a 2 + b 2)])) : Option ((Nat → Int)))) xx.1 xx.2 := by kernel_rfl
theorem ev56 (a : (aCons (pC (cA .i64 3)) (aOne (pC (cA .i64 3)))).T) : evF (R := (rOne (cA .i64 3)).T) (cx [] [] []) 1000 Tryd.f56 ((aCons (pC (cA .i64 3)) (aOne (pC (cA .i64 3)))).enc gG a) (glMem gl) 2 (rOne (cA .i64 3)).dec = f56 a.1 a.2 := evg56   a
theorem sp56 : VE.Spec Tryd.prog gG gl 56 (conF (aCons (pC (cA .i64 3)) (aOne (pC (cA .i64 3)))) (rOne (cA .i64 3)) (fun a => f56 a.1 a.2)) := spec_of ok56 Tryd.func56 Tryd.call56 (lpAll_nil rfl) 1000 (aCons_ok (pC_ok (cA_ok _ _)) (aOne_ok (pC_ok (cA_ok _ _)))) (rOne_ok (cA_ok _ _)) ev56

/-- dancestudioref02.Norm -/
theorem ok89 : CtxOK Tryd.prog (cx [] [] []) gl := ctx_of tyOk moOk (show SpecL Tryd.prog gG gl [] from trivial) (show FnL Tryd.prog [] from trivial) (fnLp_nil _) joinOk
noncomputable def f89 (a : Int) : Option (Int) :=
 cond (decide (a.tmod 256 < 0)) (
 some (IntKind.i64.wrap (a.tmod 256 + 256))) (
 some (a.tmod 256))
theorem evg89   (xx : (aOne (pC (cI .i64))).T) : evF (R := (rOne (cI .i64)).T) (cx [] [] []) 1000 Tryd.f89 ((aOne (pC (cI .i64))).enc gG xx) (glMem gl) 2 (rOne (cI .i64)).dec =
 (fun (a : Int) =>
 (( cond (decide (a.tmod 256 < 0)) (
 some (IntKind.i64.wrap (a.tmod 256 + 256))) (
 some (a.tmod 256))) : Option (Int))) xx := by kernel_rfl
theorem ev89 (a : (aOne (pC (cI .i64))).T) : evF (R := (rOne (cI .i64)).T) (cx [] [] []) 1000 Tryd.f89 ((aOne (pC (cI .i64))).enc gG a) (glMem gl) 2 (rOne (cI .i64)).dec = f89 a := evg89   a
theorem sp89 : VE.Spec Tryd.prog gG gl 89 (conF (aOne (pC (cI .i64))) (rOne (cI .i64)) (fun a => f89 a)) := spec_of ok89 Tryd.func89 Tryd.call89 (lpAll_nil rfl) 1000 (aOne_ok (pC_ok (cI_ok _))) (rOne_ok (cI_ok _)) ev89

/-- dancestudioref02.table -/
theorem ok99 : CtxOK Tryd.prog (cx [] [] []) gl := ctx_of tyOk moOk (show SpecL Tryd.prog gG gl [] from trivial) (show FnL Tryd.prog [] from trivial) (fnLp_nil _) joinOk
noncomputable def f99  : Option ((Nat → Int)) :=
 some (nthI tab0)
theorem evg99   (xx : (aNil).T) : evF (R := (rOne (cA .i64 65)).T) (cx [] [] []) 1000 Tryd.f99 ((aNil).enc gG xx) (glMem gl) 2 (rOne (cA .i64 65)).dec =
 (( some (nthI tab0)) : Option ((Nat → Int))) := by kernel_rfl
theorem ev99 (a : (aNil).T) : evF (R := (rOne (cA .i64 65)).T) (cx [] [] []) 1000 Tryd.f99 ((aNil).enc gG a) (glMem gl) 2 (rOne (cA .i64 65)).dec = f99 := evg99   a
theorem sp99 : VE.Spec Tryd.prog gG gl 99 (conF (aNil) (rOne (cA .i64 65)) (fun a => f99)) := spec_of ok99 Tryd.func99 Tryd.call99 (lpAll_nil rfl) 1000 (aNil_ok) (rOne_ok (cA_ok _ _)) ev99

/-- dancestudioref02.Sin -/
theorem ok91 : CtxOK Tryd.prog (cx [] [(89, conF (aOne (pC (cI .i64))) (rOne (cI .i64)) (fun a => f89 a)), (99, conF (aNil) (rOne (cA .i64 65)) (fun a => f99))] []) gl := ctx_of tyOk moOk (show SpecL Tryd.prog gG gl [(89, conF (aOne (pC (cI .i64))) (rOne (cI .i64)) (fun a => f89 a)), (99, conF (aNil) (rOne (cA .i64 65)) (fun a => f99))] from ⟨sp89, sp99, trivial⟩) (show FnL Tryd.prog [] from trivial) (fnLp_nil _) joinOk
noncomputable def f91 (a : Int) : Option (Int) :=
 Option.bind (f89 a) (fun r1 =>
 Option.bind (f99) (fun r2 =>
 cond (decide (r1 ≤ 64)) (
 cond (decide (0 ≤ r1)) (
 cond (decide (r1 < 65)) (
 some ([r2 0, r2 1, r2 2, r2 3, r2 4, r2 5, r2 6, r2 7, r2 8, r2 9, r2 10, r2 11, r2 12, r2 13, r2 14, r2 15, r2 16, r2 17, r2 18, r2 19, r2 20, r2 21, r2 22, r2 23, r2 24, r2 25, r2 26, r2 27, r2 28, r2 29, r2 30, r2 31, r2 32, r2 33, r2 34, r2 35, r2 36, r2 37, r2 38, r2 39, r2 40, r2 41, r2 42, r2 43, r2 44, r2 45, r2 46, r2 47, r2 48, r2 49, r2 50, r2 51, r2 52, r2 53, r2 54, r2 55, r2 56, r2 57, r2 58, r2 59, r2 60, r2 61, r2 62, r2 63, r2 64].getD r1.toNat 0)) none) none) (
 cond (decide (r1 ≤ 128)) (
 cond (decide (0 ≤ IntKind.i64.wrap (128 - r1))) (
 cond (decide (IntKind.i64.wrap (128 - r1) < 65)) (
 some ([r2 0, r2 1, r2 2, r2 3, r2 4, r2 5, r2 6, r2 7, r2 8, r2 9, r2 10, r2 11, r2 12, r2 13, r2 14, r2 15, r2 16, r2 17, r2 18, r2 19, r2 20, r2 21, r2 22, r2 23, r2 24, r2 25, r2 26, r2 27, r2 28, r2 29, r2 30, r2 31, r2 32, r2 33, r2 34, r2 35, r2 36, r2 37, r2 38, r2 39, r2 40, r2 41, r2 42, r2 43, r2 44, r2 45, r2 46, r2 47, r2 48, r2 49, r2 50, r2 51, r2 52, r2 53, r2 54, r2 55, r2 56, r2 57, r2 58, r2 59, r2 60, r2 61, r2 62, r2 63, r2 64].getD (IntKind.i64.wrap (128 - r1)).toNat 0)) none) none) (
 cond (decide (r1 ≤ 192)) (
 cond (decide (0 ≤ IntKind.i64.wrap (r1 - 128))) (
 cond (decide (IntKind.i64.wrap (r1 - 128) < 65)) (
 some (IntKind.i64.wrap (0 - [r2 0, r2 1, r2 2, r2 3, r2 4, r2 5, r2 6, r2 7, r2 8, r2 9, r2 10, r2 11, r2 12, r2 13, r2 14, r2 15, r2 16, r2 17, r2 18, r2 19, r2 20, r2 21, r2 22, r2 23, r2 24, r2 25, r2 26, r2 27, r2 28, r2 29, r2 30, r2 31, r2 32, r2 33, r2 34, r2 35, r2 36, r2 37, r2 38, r2 39, r2 40, r2 41, r2 42, r2 43, r2 44, r2 45, r2 46, r2 47, r2 48, r2 49, r2 50, r2 51, r2 52, r2 53, r2 54, r2 55, r2 56, r2 57, r2 58, r2 59, r2 60, r2 61, r2 62, r2 63, r2 64].getD (IntKind.i64.wrap (r1 - 128)).toNat 0))) none) none) (
 cond (decide (0 ≤ IntKind.i64.wrap (256 - r1))) (
 cond (decide (IntKind.i64.wrap (256 - r1) < 65)) (
 some (IntKind.i64.wrap (0 - [r2 0, r2 1, r2 2, r2 3, r2 4, r2 5, r2 6, r2 7, r2 8, r2 9, r2 10, r2 11, r2 12, r2 13, r2 14, r2 15, r2 16, r2 17, r2 18, r2 19, r2 20, r2 21, r2 22, r2 23, r2 24, r2 25, r2 26, r2 27, r2 28, r2 29, r2 30, r2 31, r2 32, r2 33, r2 34, r2 35, r2 36, r2 37, r2 38, r2 39, r2 40, r2 41, r2 42, r2 43, r2 44, r2 45, r2 46, r2 47, r2 48, r2 49, r2 50, r2 51, r2 52, r2 53, r2 54, r2 55, r2 56, r2 57, r2 58, r2 59, r2 60, r2 61, r2 62, r2 63, r2 64].getD (IntKind.i64.wrap (256 - r1)).toNat 0))) none) none)))))
theorem evg91 (f89 : (Int) → Option (Int)) (f99 : Option ((Nat → Int)))  (xx : (aOne (pC (cI .i64))).T) : evF (R := (rOne (cI .i64)).T) (cx [] [(89, conF (aOne (pC (cI .i64))) (rOne (cI .i64)) (fun a => f89 a)), (99, conF (aNil) (rOne (cA .i64 65)) (fun a => f99))] []) 1000 Tryd.f91 ((aOne (pC (cI .i64))).enc gG xx) (glMem gl) 2 (rOne (cI .i64)).dec =
 (fun (a : Int) =>
 (( Option.bind (f89 a) (fun r1 =>
 Option.bind (f99) (fun r2 =>
 cond (decide (r1 ≤ 64)) (
 cond (decide (0 ≤ r1)) (
 cond (decide (r1 < 65)) (
 some ([r2 0, r2 1, r2 2, r2 3, r2 4, r2 5, r2 6, r2 7, r2 8, r2 9, r2 10, r2 11, r2 12, r2 13, r2 14, r2 15, r2 16, r2 17, r2 18, r2 19, r2 20, r2 21, r2 22, r2 23, r2 24, r2 25, r2 26, r2 27, r2 28, r2 29, r2 30, r2 31, r2 32, r2 33, r2 34, r2 35, r2 36, r2 37, r2 38, r2 39, r2 40, r2 41, r2 42, r2 43, r2 44, r2 45, r2 46, r2 47, r2 48, r2 49, r2 50, r2 51, r2 52, r2 53, r2 54, r2 55, r2 56, r2 57, r2 58, r2 59, r2 60, r2 61, r2 62, r2 63, r2 64].getD r1.toNat 0)) none) none) (
 cond (decide (r1 ≤ 128)) (
 cond (decide (0 ≤ IntKind.i64.wrap (128 - r1))) (
 cond (decide (IntKind.i64.wrap (128 - r1) < 65)) (
 some ([r2 0, r2 1, r2 2, r2 3, r2 4, r2 5, r2 6, r2 7, r2 8, r2 9, r2 10, r2 11, r2 12, r2 13, r2 14, r2 15, r2 16, r2 17, r2 18, r2 19, r2 20, r2 21, r2 22, r2 23, r2 24, r2 25, r2 26, r2 27, r2 28, r2 29, r2 30, r2 31, r2 32, r2 33, r2 34, r2 35, r2 36, r2 37, r2 38, r2 39, r2 40, r2 41, r2 42, r2 43, r2 44, r2 45, r2 46, r2 47, r2 48, r2 49, r2 50, r2 51, r2 52, r2 53, r2 54, r2 55, r2 56, r2 57, r2 58, r2 59, r2 60, r2 61, r2 62, r2 63, r2 64].getD (IntKind.i64.wrap (128 - r1)).toNat 0)) none) none) (
 cond (decide (r1 ≤ 192)) (
 cond (decide (0 ≤ IntKind.i64.wrap (r1 - 128))) (
 cond (decide (IntKind.i64.wrap (r1 - 128) < 65)) (
 some (IntKind.i64.wrap (0 - [r2 0, r2 1, r2 2, r2 3, r2 4, r2 5, r2 6, r2 7, r2 8, r2 9, r2 10, r2 11, r2 12, r2 13, r2 14, r2 15, r2 16, r2 17, r2 18, r2 19, r2 20, r2 21, r2 22, r2 23, r2 24, r2 25, r2 26, r2 27, r2 28, r2 29, r2 30, r2 31, r2 32, r2 33, r2 34, r2 35, r2 36, r2 37, r2 38, r2 39, r2 40, r2 41, r2 42, r2 43, r2 44, r2 45, r2 46, r2 47, r2 48, r2 49, r2 50, r2 51, r2 52, r2 53, r2 54, r2 55, r2 56, r2 57, r2 58, r2 59, r2 60, r2 61, r2 62, r2 63, r2 64].getD (IntKind.i64.wrap (r1 - 128)).toNat 0))) none) none) (
 cond (decide (0 ≤ IntKind.i64.wrap (256 - r1))) (
 cond (decide (IntKind.i64.wrap (256 - r1) < 65)) (
 some (IntKind.i64.wrap (0 - [r2 0, r2 1, r2 2, r2 3, r2 4, r2 5, r2 6, r2 7, r2 8, r2 9, r2 10, r2 11, r2 12, r2 13, r2 14, r2 15, r2 16, r2 17, r2 18, r2 19, r2 20, r2 21, r2 22, r2 23, r2 24, r2 25, r2 26, r2 27, r2 28, r2 29, r2 30, r2 31, r2 32, r2 33, r2 34, r2 35, r2 36, r2 37, r2 38, r2 39, r2 40, r2 41, r2 42, r2 43, r2 44, r2 45, r2 46, r2 47, r2 48, r2 49, r2 50, r2 51, r2 52, r2 53, r2 54, r2 55, r2 56, r2 57, r2 58, r2 59, r2 60, r2 61, r2 62, r2 63, r2 64].getD (IntKind.i64.wrap (256 - r1)).toNat 0))) none) none)))))) : Option (Int))) xx := by kernel_rfl
theorem ev91 (a : (aOne (pC (cI .i64))).T) : evF (R := (rOne (cI .i64)).T) (cx [] [(89, conF (aOne (pC (cI .i64))) (rOne (cI .i64)) (fun a => f89 a)), (99, conF (aNil) (rOne (cA .i64 65)) (fun a => f99))] []) 1000 Tryd.f91 ((aOne (pC (cI .i64))).enc gG a) (glMem gl) 2 (rOne (cI .i64)).dec = f91 a := evg91 f89 f99  a
theorem sp91 : VE.Spec Tryd.prog gG gl 91 (conF (aOne (pC (cI .i64))) (rOne (cI .i64)) (fun a => f91 a)) := spec_of ok91 Tryd.func91 Tryd.call91 (lpAll_nil rfl) 1000 (aOne_ok (pC_ok (cI_ok _))) (rOne_ok (cI_ok _)) ev91

/-- dancestudioref02.Cos -/
theorem ok90 : CtxOK Tryd.prog (cx [] [(89, conF (aOne (pC (cI .i64))) (rOne (cI .i64)) (fun a => f89 a)), (91, conF (aOne (pC (cI .i64))) (rOne (cI .i64)) (fun a => f91 a))] []) gl := ctx_of tyOk moOk (show SpecL Tryd.prog gG gl [(89, conF (aOne (pC (cI .i64))) (rOne (cI .i64)) (fun a => f89 a)), (91, conF (aOne (pC (cI .i64))) (rOne (cI .i64)) (fun a => f91 a))] from ⟨sp89, sp91, trivial⟩) (show FnL Tryd.prog [] from trivial) (fnLp_nil _) joinOk
noncomputable def f90 (a : Int) : Option (Int) :=
 Option.bind (f89 a) (fun r1 =>
 Option.bind (f91 (IntKind.i64.wrap (r1 + 64))) (fun r2 =>
 some (r2)))
theorem evg90 (f89 : (Int) → Option (Int)) (f91 : (Int) → Option (Int))  (xx : (aOne (pC (cI .i64))).T) : evF (R := (rOne (cI .i64)).T) (cx [] [(89, conF (aOne (pC (cI .i64))) (rOne (cI .i64)) (fun a => f89 a)), (91, conF (aOne (pC (cI .i64))) (rOne (cI .i64)) (fun a => f91 a))] []) 1000 Tryd.f90 ((aOne (pC (cI .i64))).enc gG xx) (glMem gl) 2 (rOne (cI .i64)).dec =
 (fun (a : Int) =>
 (( Option.bind (f89 a) (fun r1 =>
 Option.bind (f91 (IntKind.i64.wrap (r1 + 64))) (fun r2 =>
 some (r2)))) : Option (Int))) xx := by kernel_rfl
theorem ev90 (a : (aOne (pC (cI .i64))).T) : evF (R := (rOne (cI .i64)).T) (cx [] [(89, conF (aOne (pC (cI .i64))) (rOne (cI .i64)) (fun a => f89 a)), (91, conF (aOne (pC (cI .i64))) (rOne (cI .i64)) (fun a => f91 a))] []) 1000 Tryd.f90 ((aOne (pC (cI .i64))).enc gG a) (glMem gl) 2 (rOne (cI .i64)).dec = f90 a := evg90 f89 f91  a
theorem sp90 : VE.Spec Tryd.prog gG gl 90 (conF (aOne (pC (cI .i64))) (rOne (cI .i64)) (fun a => f90 a)) := spec_of ok90 Tryd.func90 Tryd.call90 (lpAll_nil rfl) 1000 (aOne_ok (pC_ok (cI_ok _))) (rOne_ok (cI_ok _)) ev90

/-- dancestudioref18.Vector -/
theorem ok75 : CtxOK Tryd.prog (cx [] [(29, conF (aCons (pC (cI .i64)) (aOne (pC (cI .i64)))) (rTup (cCons (cI .i64) (cOne (cI .i64)))) (fun a => f29 (a.1) (a.2))), (74, conF (aCons (pC (cI .i64)) (aOne (pC (cA .i64 3)))) (rOne (cI .i64)) (fun a => f74 (a.1) (a.2))), (89, conF (aOne (pC (cI .i64))) (rOne (cI .i64)) (fun a => f89 a)), (90, conF (aOne (pC (cI .i64))) (rOne (cI .i64)) (fun a => f90 a)), (91, conF (aOne (pC (cI .i64))) (rOne (cI .i64)) (fun a => f91 a))] []) gl := ctx_of tyOk moOk (show SpecL Tryd.prog gG gl [(29, conF (aCons (pC (cI .i64)) (aOne (pC (cI .i64)))) (rTup (cCons (cI .i64) (cOne (cI .i64)))) (fun a => f29 (a.1) (a.2))), (74, conF (aCons (pC (cI .i64)) (aOne (pC (cA .i64 3)))) (rOne (cI .i64)) (fun a => f74 (a.1) (a.2))), (89, conF (aOne (pC (cI .i64))) (rOne (cI .i64)) (fun a => f89 a)), (90, conF (aOne (pC (cI .i64))) (rOne (cI .i64)) (fun a => f90 a)), (91, conF (aOne (pC (cI .i64))) (rOne (cI .i64)) (fun a => f91 a))] from ⟨sp29, sp74, sp89, sp90, sp91, trivial⟩) (show FnL Tryd.prog [] from trivial) (fnLp_nil _) joinOk
noncomputable def f75 (a : Nat → Int) (b : Int) : Option ((Nat → Int) × Int) :=
 Option.bind (f74 0 a) (fun r2 =>
 cond (!decide (r2 = 0)) (
 some ((nthI [0, 0, 0], r2))) (
 Option.bind (f89 b) (fun r3 =>
 Option.bind (f90 (a 1)) (fun r4 =>
 Option.bind (f91 (IntKind.i64.wrap (a 0 + r3))) (fun r5 =>
 Option.bind (f29 (IntKind.i64.wrap (r4 * r5)) 16384) (fun r6 =>
 Option.bind (f90 (a 1)) (fun r7 =>
 Option.bind (f90 (IntKind.i64.wrap (a 0 + r3))) (fun r8 =>
 Option.bind (f29 (IntKind.i64.wrap (r7 * r8)) 16384) (fun r9 =>
 Option.bind (f91 (a 1)) (fun r10 =>
 some ((nthI [r6.fst, r9.fst, r10], 0))))))))))))
theorem evg75 (f29 : (Int) → (Int) → Option (Int × Int)) (f74 : (Int) → (Nat → Int) → Option (Int)) (f89 : (Int) → Option (Int)) (f90 : (Int) → Option (Int)) (f91 : (Int) → Option (Int))  (xx : (aCons (pC (cA .i64 3)) (aOne (pC (cI .i64)))).T) : evF (R := (rTup (cCons (cA .i64 3) (cOne (cI .i64)))).T) (cx [] [(29, conF (aCons (pC (cI .i64)) (aOne (pC (cI .i64)))) (rTup (cCons (cI .i64) (cOne (cI .i64)))) (fun a => f29 (a.1) (a.2))), (74, conF (aCons (pC (cI .i64)) (aOne (pC (cA .i64 3)))) (rOne (cI .i64)) (fun a => f74 (a.1) (a.2))), (89, conF (aOne (pC (cI .i64))) (rOne (cI .i64)) (fun a => f89 a)), (90, conF (aOne (pC (cI .i64))) (rOne (cI .i64)) (fun a => f90 a)), (91, conF (aOne (pC (cI .i64))) (rOne (cI .i64)) (fun a => f91 a))] []) 1000 Tryd.f75 ((aCons (pC (cA .i64 3)) (aOne (pC (cI .i64)))).enc gG xx) (glMem gl) 2 (rTup (cCons (cA .i64 3) (cOne (cI .i64)))).dec =
 (fun (a : Nat → Int) (b : Int) =>
 (( Option.bind (f74 0 (nthI [a 0, a 1, a 2])) (fun r2 =>
 cond (!decide (r2 = 0)) (
 some ((nthI [0, 0, 0], r2))) (
 Option.bind (f89 b) (fun r3 =>
 Option.bind (f90 (a 1)) (fun r4 =>
 Option.bind (f91 (IntKind.i64.wrap (a 0 + r3))) (fun r5 =>
 Option.bind (f29 (IntKind.i64.wrap (r4 * r5)) 16384) (fun r6 =>
 Option.bind (f90 (a 1)) (fun r7 =>
 Option.bind (f90 (IntKind.i64.wrap (a 0 + r3))) (fun r8 =>
 Option.bind (f29 (IntKind.i64.wrap (r7 * r8)) 16384) (fun r9 =>
 Option.bind (f91 (a 1)) (fun r10 =>
 some ((nthI [r6.fst, r9.fst, r10], 0))))))))))))) : Option ((Nat → Int) × Int))) xx.1 xx.2 := by kernel_rfl
noncomputable def g75 (a : Nat → Int) (b : Int) : Option ((Nat → Int) × Int) :=
 Option.bind (f74 0 (nthI [a 0, a 1, a 2])) (fun r2 =>
 cond (!decide (r2 = 0)) (
 some ((nthI [0, 0, 0], r2))) (
 Option.bind (f89 b) (fun r3 =>
 Option.bind (f90 (a 1)) (fun r4 =>
 Option.bind (f91 (IntKind.i64.wrap (a 0 + r3))) (fun r5 =>
 Option.bind (f29 (IntKind.i64.wrap (r4 * r5)) 16384) (fun r6 =>
 Option.bind (f90 (a 1)) (fun r7 =>
 Option.bind (f90 (IntKind.i64.wrap (a 0 + r3))) (fun r8 =>
 Option.bind (f29 (IntKind.i64.wrap (r7 * r8)) 16384) (fun r9 =>
 Option.bind (f91 (a 1)) (fun r10 =>
 some ((nthI [r6.fst, r9.fst, r10], 0))))))))))))
theorem fg75 (a : Nat → Int) (b : Int) : g75 a b = f75 a b := by kernel_rfl
theorem ev75 (a : (aCons (pC (cA .i64 3)) (aOne (pC (cI .i64)))).T) : evF (R := (rTup (cCons (cA .i64 3) (cOne (cI .i64)))).T) (cx [] [(29, conF (aCons (pC (cI .i64)) (aOne (pC (cI .i64)))) (rTup (cCons (cI .i64) (cOne (cI .i64)))) (fun a => f29 (a.1) (a.2))), (74, conF (aCons (pC (cI .i64)) (aOne (pC (cA .i64 3)))) (rOne (cI .i64)) (fun a => f74 (a.1) (a.2))), (89, conF (aOne (pC (cI .i64))) (rOne (cI .i64)) (fun a => f89 a)), (90, conF (aOne (pC (cI .i64))) (rOne (cI .i64)) (fun a => f90 a)), (91, conF (aOne (pC (cI .i64))) (rOne (cI .i64)) (fun a => f91 a))] []) 1000 Tryd.f75 ((aCons (pC (cA .i64 3)) (aOne (pC (cI .i64)))).enc gG a) (glMem gl) 2 (rTup (cCons (cA .i64 3) (cOne (cI .i64)))).dec = f75 a.1 a.2 := (show evF (R := (rTup (cCons (cA .i64 3) (cOne (cI .i64)))).T) (cx [] [(29, conF (aCons (pC (cI .i64)) (aOne (pC (cI .i64)))) (rTup (cCons (cI .i64) (cOne (cI .i64)))) (fun a => f29 (a.1) (a.2))), (74, conF (aCons (pC (cI .i64)) (aOne (pC (cA .i64 3)))) (rOne (cI .i64)) (fun a => f74 (a.1) (a.2))), (89, conF (aOne (pC (cI .i64))) (rOne (cI .i64)) (fun a => f89 a)), (90, conF (aOne (pC (cI .i64))) (rOne (cI .i64)) (fun a => f90 a)), (91, conF (aOne (pC (cI .i64))) (rOne (cI .i64)) (fun a => f91 a))] []) 1000 Tryd.f75 ((aCons (pC (cA .i64 3)) (aOne (pC (cI .i64)))).enc gG a) (glMem gl) 2 (rTup (cCons (cA .i64 3) (cOne (cI .i64)))).dec = g75 a.1 a.2 from evg75 f29 f74 f89 f90 f91  a).trans (fg75 a.1 a.2)
theorem sp75 : VE.Spec Tryd.prog gG gl 75 (conF (aCons (pC (cA .i64 3)) (aOne (pC (cI .i64)))) (rTup (cCons (cA .i64 3) (cOne (cI .i64)))) (fun a => f75 a.1 a.2)) := spec_of ok75 Tryd.func75 Tryd.call75 (lpAll_nil rfl) 1000 (aCons_ok (pC_ok (cA_ok _ _)) (aOne_ok (pC_ok (cI_ok _)))) (rTup_ok (cCons_ok (cA_ok _ _) (cOne_ok (cI_ok _)))) ev75

/-- dancestudioref20.along -/
theorem ok57 : CtxOK Tryd.prog (cx [] [(55, conF (aCons (pC (cI .i64)) (aOne (pC (cI .i64)))) (rOne (cI .i64)) (fun a => f55 (a.1) (a.2))), (75, conF (aCons (pC (cA .i64 3)) (aOne (pC (cI .i64)))) (rTup (cCons (cA .i64 3) (cOne (cI .i64)))) (fun a => f75 (a.1) (a.2)))] []) gl := ctx_of tyOk moOk (show SpecL Tryd.prog gG gl [(55, conF (aCons (pC (cI .i64)) (aOne (pC (cI .i64)))) (rOne (cI .i64)) (fun a => f55 (a.1) (a.2))), (75, conF (aCons (pC (cA .i64 3)) (aOne (pC (cI .i64)))) (rTup (cCons (cA .i64 3) (cOne (cI .i64)))) (fun a => f75 (a.1) (a.2)))] from ⟨sp55, sp75, trivial⟩) (show FnL Tryd.prog [] from trivial) (fnLp_nil _) joinOk
noncomputable def f57 (a : Int) (b : Nat → Int) (c : Int) : Option ((Nat → Int)) :=
 Option.bind (f75 b c) (fun r3 =>
 Option.bind (f55 (IntKind.i64.wrap (IntKind.i64.wrap (a * IntKind.i64.wrap (8 - b 2)) * r3.fst 0)) 131072) (fun r4 =>
 Option.bind (f55 (IntKind.i64.wrap (IntKind.i64.wrap (a * IntKind.i64.wrap (8 - b 2)) * r3.fst 1)) 131072) (fun r5 =>
 Option.bind (f55 (IntKind.i64.wrap (IntKind.i64.wrap (a * IntKind.i64.wrap (8 - b 2)) * r3.fst 2)) 131072) (fun r6 =>
 some (nthI [r4, r5, r6])))))
theorem evg57 (f55 : (Int) → (Int) → Option (Int)) (f75 : (Nat → Int) → (Int) → Option ((Nat → Int) × Int))  (xx : (aCons (pC (cI .i64)) (aCons (pC (cA .i64 3)) (aOne (pC (cI .i64))))).T) : evF (R := (rOne (cA .i64 3)).T) (cx [] [(55, conF (aCons (pC (cI .i64)) (aOne (pC (cI .i64)))) (rOne (cI .i64)) (fun a => f55 (a.1) (a.2))), (75, conF (aCons (pC (cA .i64 3)) (aOne (pC (cI .i64)))) (rTup (cCons (cA .i64 3) (cOne (cI .i64)))) (fun a => f75 (a.1) (a.2)))] []) 1000 Tryd.f57 ((aCons (pC (cI .i64)) (aCons (pC (cA .i64 3)) (aOne (pC (cI .i64))))).enc gG xx) (glMem gl) 2 (rOne (cA .i64 3)).dec =
 (fun (a : Int) (b : Nat → Int) (c : Int) =>
 (( Option.bind (f75 (nthI [b 0, b 1, b 2]) c) (fun r3 =>
 Option.bind (f55 (IntKind.i64.wrap (IntKind.i64.wrap (a * IntKind.i64.wrap (8 - b 2)) * r3.fst 0)) 131072) (fun r4 =>
 Option.bind (f55 (IntKind.i64.wrap (IntKind.i64.wrap (a * IntKind.i64.wrap (8 - b 2)) * r3.fst 1)) 131072) (fun r5 =>
 Option.bind (f55 (IntKind.i64.wrap (IntKind.i64.wrap (a * IntKind.i64.wrap (8 - b 2)) * r3.fst 2)) 131072) (fun r6 =>
 some (nthI [r4, r5, r6])))))) : Option ((Nat → Int)))) xx.1 xx.2.1 xx.2.2 := by kernel_rfl
noncomputable def g57 (a : Int) (b : Nat → Int) (c : Int) : Option ((Nat → Int)) :=
 Option.bind (f75 (nthI [b 0, b 1, b 2]) c) (fun r3 =>
 Option.bind (f55 (IntKind.i64.wrap (IntKind.i64.wrap (a * IntKind.i64.wrap (8 - b 2)) * r3.fst 0)) 131072) (fun r4 =>
 Option.bind (f55 (IntKind.i64.wrap (IntKind.i64.wrap (a * IntKind.i64.wrap (8 - b 2)) * r3.fst 1)) 131072) (fun r5 =>
 Option.bind (f55 (IntKind.i64.wrap (IntKind.i64.wrap (a * IntKind.i64.wrap (8 - b 2)) * r3.fst 2)) 131072) (fun r6 =>
 some (nthI [r4, r5, r6])))))
theorem fg57 (a : Int) (b : Nat → Int) (c : Int) : g57 a b c = f57 a b c := by kernel_rfl
theorem ev57 (a : (aCons (pC (cI .i64)) (aCons (pC (cA .i64 3)) (aOne (pC (cI .i64))))).T) : evF (R := (rOne (cA .i64 3)).T) (cx [] [(55, conF (aCons (pC (cI .i64)) (aOne (pC (cI .i64)))) (rOne (cI .i64)) (fun a => f55 (a.1) (a.2))), (75, conF (aCons (pC (cA .i64 3)) (aOne (pC (cI .i64)))) (rTup (cCons (cA .i64 3) (cOne (cI .i64)))) (fun a => f75 (a.1) (a.2)))] []) 1000 Tryd.f57 ((aCons (pC (cI .i64)) (aCons (pC (cA .i64 3)) (aOne (pC (cI .i64))))).enc gG a) (glMem gl) 2 (rOne (cA .i64 3)).dec = f57 a.1 a.2.1 a.2.2 := (show evF (R := (rOne (cA .i64 3)).T) (cx [] [(55, conF (aCons (pC (cI .i64)) (aOne (pC (cI .i64)))) (rOne (cI .i64)) (fun a => f55 (a.1) (a.2))), (75, conF (aCons (pC (cA .i64 3)) (aOne (pC (cI .i64)))) (rTup (cCons (cA .i64 3) (cOne (cI .i64)))) (fun a => f75 (a.1) (a.2)))] []) 1000 Tryd.f57 ((aCons (pC (cI .i64)) (aCons (pC (cA .i64 3)) (aOne (pC (cI .i64))))).enc gG a) (glMem gl) 2 (rOne (cA .i64 3)).dec = g57 a.1 a.2.1 a.2.2 from evg57 f55 f75  a).trans (fg57 a.1 a.2.1 a.2.2)
theorem sp57 : VE.Spec Tryd.prog gG gl 57 (conF (aCons (pC (cI .i64)) (aCons (pC (cA .i64 3)) (aOne (pC (cI .i64))))) (rOne (cA .i64 3)) (fun a => f57 a.1 a.2.1 a.2.2)) := spec_of ok57 Tryd.func57 Tryd.call57 (lpAll_nil rfl) 1000 (aCons_ok (pC_ok (cI_ok _)) (aCons_ok (pC_ok (cA_ok _ _)) (aOne_ok (pC_ok (cI_ok _))))) (rOne_ok (cA_ok _ _)) ev57

/-- dancestudioref02.far -/
theorem ok92 : CtxOK Tryd.prog (cx [] [] []) gl := ctx_of tyOk moOk (show SpecL Tryd.prog gG gl [] from trivial) (show FnL Tryd.prog [] from trivial) (fnLp_nil _) joinOk
noncomputable def f92 (a : Nat → Int) : Option (Bool) :=
 cond (decide (a 0 < -32768)) (
 some (true)) (
 cond (decide (32768 < a 0)) (
 some (true)) (
 cond (decide (a 1 < -32768)) (
 some (true)) (
 some (decide (32768 < a 1)))))
theorem evg92   (xx : (aOne (pC (cA .i64 2))).T) : evF (R := (rOne (cB)).T) (cx [] [] []) 1000 Tryd.f92 ((aOne (pC (cA .i64 2))).enc gG xx) (glMem gl) 2 (rOne (cB)).dec =
 (fun (a : Nat → Int) =>
 (( cond (decide (a 0 < -32768)) (
 some (true)) (
 cond (decide (32768 < a 0)) (
 some (true)) (
 cond (decide (a 1 < -32768)) (
 some (true)) (
 some (decide (32768 < a 1)))))) : Option (Bool))) xx := by kernel_rfl
theorem ev92 (a : (aOne (pC (cA .i64 2))).T) : evF (R := (rOne (cB)).T) (cx [] [] []) 1000 Tryd.f92 ((aOne (pC (cA .i64 2))).enc gG a) (glMem gl) 2 (rOne (cB)).dec = f92 a := evg92   a
theorem sp92 : VE.Spec Tryd.prog gG gl 92 (conF (aOne (pC (cA .i64 2))) (rOne (cB)) (fun a => f92 a)) := spec_of ok92 Tryd.func92 Tryd.call92 (lpAll_nil rfl) 1000 (aOne_ok (pC_ok (cA_ok _ _))) (rOne_ok (cB_ok)) ev92

/-- dancestudioref02.Turned -/
theorem ok76 : CtxOK Tryd.prog (cx [] [(29, conF (aCons (pC (cI .i64)) (aOne (pC (cI .i64)))) (rTup (cCons (cI .i64) (cOne (cI .i64)))) (fun a => f29 (a.1) (a.2))), (90, conF (aOne (pC (cI .i64))) (rOne (cI .i64)) (fun a => f90 a)), (91, conF (aOne (pC (cI .i64))) (rOne (cI .i64)) (fun a => f91 a)), (92, conF (aOne (pC (cA .i64 2))) (rOne (cB)) (fun a => f92 a))] []) gl := ctx_of tyOk moOk (show SpecL Tryd.prog gG gl [(29, conF (aCons (pC (cI .i64)) (aOne (pC (cI .i64)))) (rTup (cCons (cI .i64) (cOne (cI .i64)))) (fun a => f29 (a.1) (a.2))), (90, conF (aOne (pC (cI .i64))) (rOne (cI .i64)) (fun a => f90 a)), (91, conF (aOne (pC (cI .i64))) (rOne (cI .i64)) (fun a => f91 a)), (92, conF (aOne (pC (cA .i64 2))) (rOne (cB)) (fun a => f92 a))] from ⟨sp29, sp90, sp91, sp92, trivial⟩) (show FnL Tryd.prog [] from trivial) (fnLp_nil _) joinOk
noncomputable def f76 (a : Nat → Int) (b : Int) : Option ((Nat → Int) × Int) :=
 Option.bind (f92 a) (fun r2 =>
 cond (r2) (
 some ((nthI [0, 0], 1))) (
 Option.bind (f90 b) (fun r3 =>
 Option.bind (f91 b) (fun r4 =>
 Option.bind (f29 (IntKind.i64.wrap (IntKind.i64.wrap (a 0 * r3) + IntKind.i64.wrap (a 1 * r4))) 16384) (fun r5 =>
 Option.bind (f90 b) (fun r6 =>
 Option.bind (f91 b) (fun r7 =>
 Option.bind (f29 (IntKind.i64.wrap (IntKind.i64.wrap (a 1 * r6) - IntKind.i64.wrap (a 0 * r7))) 16384) (fun r8 =>
 some ((nthI [r5.fst, r8.fst], 0))))))))))
theorem evg76 (f29 : (Int) → (Int) → Option (Int × Int)) (f90 : (Int) → Option (Int)) (f91 : (Int) → Option (Int)) (f92 : (Nat → Int) → Option (Bool))  (xx : (aCons (pC (cA .i64 2)) (aOne (pC (cI .i64)))).T) : evF (R := (rTup (cCons (cA .i64 2) (cOne (cI .i64)))).T) (cx [] [(29, conF (aCons (pC (cI .i64)) (aOne (pC (cI .i64)))) (rTup (cCons (cI .i64) (cOne (cI .i64)))) (fun a => f29 (a.1) (a.2))), (90, conF (aOne (pC (cI .i64))) (rOne (cI .i64)) (fun a => f90 a)), (91, conF (aOne (pC (cI .i64))) (rOne (cI .i64)) (fun a => f91 a)), (92, conF (aOne (pC (cA .i64 2))) (rOne (cB)) (fun a => f92 a))] []) 1000 Tryd.f76 ((aCons (pC (cA .i64 2)) (aOne (pC (cI .i64)))).enc gG xx) (glMem gl) 2 (rTup (cCons (cA .i64 2) (cOne (cI .i64)))).dec =
 (fun (a : Nat → Int) (b : Int) =>
 (( Option.bind (f92 (nthI [a 0, a 1])) (fun r2 =>
 cond (r2) (
 some ((nthI [0, 0], 1))) (
 Option.bind (f90 b) (fun r3 =>
 Option.bind (f91 b) (fun r4 =>
 Option.bind (f29 (IntKind.i64.wrap (IntKind.i64.wrap (a 0 * r3) + IntKind.i64.wrap (a 1 * r4))) 16384) (fun r5 =>
 Option.bind (f90 b) (fun r6 =>
 Option.bind (f91 b) (fun r7 =>
 Option.bind (f29 (IntKind.i64.wrap (IntKind.i64.wrap (a 1 * r6) - IntKind.i64.wrap (a 0 * r7))) 16384) (fun r8 =>
 some ((nthI [r5.fst, r8.fst], 0))))))))))) : Option ((Nat → Int) × Int))) xx.1 xx.2 := by kernel_rfl
noncomputable def g76 (a : Nat → Int) (b : Int) : Option ((Nat → Int) × Int) :=
 Option.bind (f92 (nthI [a 0, a 1])) (fun r2 =>
 cond (r2) (
 some ((nthI [0, 0], 1))) (
 Option.bind (f90 b) (fun r3 =>
 Option.bind (f91 b) (fun r4 =>
 Option.bind (f29 (IntKind.i64.wrap (IntKind.i64.wrap (a 0 * r3) + IntKind.i64.wrap (a 1 * r4))) 16384) (fun r5 =>
 Option.bind (f90 b) (fun r6 =>
 Option.bind (f91 b) (fun r7 =>
 Option.bind (f29 (IntKind.i64.wrap (IntKind.i64.wrap (a 1 * r6) - IntKind.i64.wrap (a 0 * r7))) 16384) (fun r8 =>
 some ((nthI [r5.fst, r8.fst], 0))))))))))
theorem fg76 (a : Nat → Int) (b : Int) : g76 a b = f76 a b := by kernel_rfl
theorem ev76 (a : (aCons (pC (cA .i64 2)) (aOne (pC (cI .i64)))).T) : evF (R := (rTup (cCons (cA .i64 2) (cOne (cI .i64)))).T) (cx [] [(29, conF (aCons (pC (cI .i64)) (aOne (pC (cI .i64)))) (rTup (cCons (cI .i64) (cOne (cI .i64)))) (fun a => f29 (a.1) (a.2))), (90, conF (aOne (pC (cI .i64))) (rOne (cI .i64)) (fun a => f90 a)), (91, conF (aOne (pC (cI .i64))) (rOne (cI .i64)) (fun a => f91 a)), (92, conF (aOne (pC (cA .i64 2))) (rOne (cB)) (fun a => f92 a))] []) 1000 Tryd.f76 ((aCons (pC (cA .i64 2)) (aOne (pC (cI .i64)))).enc gG a) (glMem gl) 2 (rTup (cCons (cA .i64 2) (cOne (cI .i64)))).dec = f76 a.1 a.2 := (show evF (R := (rTup (cCons (cA .i64 2) (cOne (cI .i64)))).T) (cx [] [(29, conF (aCons (pC (cI .i64)) (aOne (pC (cI .i64)))) (rTup (cCons (cI .i64) (cOne (cI .i64)))) (fun a => f29 (a.1) (a.2))), (90, conF (aOne (pC (cI .i64))) (rOne (cI .i64)) (fun a => f90 a)), (91, conF (aOne (pC (cI .i64))) (rOne (cI .i64)) (fun a => f91 a)), (92, conF (aOne (pC (cA .i64 2))) (rOne (cB)) (fun a => f92 a))] []) 1000 Tryd.f76 ((aCons (pC (cA .i64 2)) (aOne (pC (cI .i64)))).enc gG a) (glMem gl) 2 (rTup (cCons (cA .i64 2) (cOne (cI .i64)))).dec = g76 a.1 a.2 from evg76 f29 f90 f91 f92  a).trans (fg76 a.1 a.2)
theorem sp76 : VE.Spec Tryd.prog gG gl 76 (conF (aCons (pC (cA .i64 2)) (aOne (pC (cI .i64)))) (rTup (cCons (cA .i64 2) (cOne (cI .i64)))) (fun a => f76 a.1 a.2)) := spec_of ok76 Tryd.func76 Tryd.call76 (lpAll_nil rfl) 1000 (aCons_ok (pC_ok (cA_ok _ _)) (aOne_ok (pC_ok (cI_ok _)))) (rTup_ok (cCons_ok (cA_ok _ _) (cOne_ok (cI_ok _)))) ev76

/-- dancestudioref20.side -/
theorem ok58 : CtxOK Tryd.prog (cx [] [(76, conF (aCons (pC (cA .i64 2)) (aOne (pC (cI .i64)))) (rTup (cCons (cA .i64 2) (cOne (cI .i64)))) (fun a => f76 (a.1) (a.2)))] []) gl := ctx_of tyOk moOk (show SpecL Tryd.prog gG gl [(76, conF (aCons (pC (cA .i64 2)) (aOne (pC (cI .i64)))) (rTup (cCons (cA .i64 2) (cOne (cI .i64)))) (fun a => f76 (a.1) (a.2)))] from ⟨sp76, trivial⟩) (show FnL Tryd.prog [] from trivial) (fnLp_nil _) joinOk
noncomputable def f58 (a : Int) (b : Int) (c : Int) : Option ((Nat → Int)) :=
 Option.bind (f76 (nthI [IntKind.i64.wrap (b * a), 0]) c) (fun r3 =>
 some (nthI [r3.fst 0, r3.fst 1, 0]))
theorem evg58 (f76 : (Nat → Int) → (Int) → Option ((Nat → Int) × Int))  (xx : (aCons (pC (cI .i64)) (aCons (pC (cI .i64)) (aOne (pC (cI .i64))))).T) : evF (R := (rOne (cA .i64 3)).T) (cx [] [(76, conF (aCons (pC (cA .i64 2)) (aOne (pC (cI .i64)))) (rTup (cCons (cA .i64 2) (cOne (cI .i64)))) (fun a => f76 (a.1) (a.2)))] []) 1000 Tryd.f58 ((aCons (pC (cI .i64)) (aCons (pC (cI .i64)) (aOne (pC (cI .i64))))).enc gG xx) (glMem gl) 2 (rOne (cA .i64 3)).dec =
 (fun (a : Int) (b : Int) (c : Int) =>
 (( Option.bind (f76 (nthI [IntKind.i64.wrap (b * a), 0]) c) (fun r3 =>
 some (nthI [r3.fst 0, r3.fst 1, 0]))) : Option ((Nat → Int)))) xx.1 xx.2.1 xx.2.2 := by kernel_rfl
theorem ev58 (a : (aCons (pC (cI .i64)) (aCons (pC (cI .i64)) (aOne (pC (cI .i64))))).T) : evF (R := (rOne (cA .i64 3)).T) (cx [] [(76, conF (aCons (pC (cA .i64 2)) (aOne (pC (cI .i64)))) (rTup (cCons (cA .i64 2) (cOne (cI .i64)))) (fun a => f76 (a.1) (a.2)))] []) 1000 Tryd.f58 ((aCons (pC (cI .i64)) (aCons (pC (cI .i64)) (aOne (pC (cI .i64))))).enc gG a) (glMem gl) 2 (rOne (cA .i64 3)).dec = f58 a.1 a.2.1 a.2.2 := evg58 f76  a
theorem sp58 : VE.Spec Tryd.prog gG gl 58 (conF (aCons (pC (cI .i64)) (aCons (pC (cI .i64)) (aOne (pC (cI .i64))))) (rOne (cA .i64 3)) (fun a => f58 a.1 a.2.1 a.2.2)) := spec_of ok58 Tryd.func58 Tryd.call58 (lpAll_nil rfl) 1000 (aCons_ok (pC_ok (cI_ok _)) (aCons_ok (pC_ok (cI_ok _)) (aOne_ok (pC_ok (cI_ok _))))) (rOne_ok (cA_ok _ _)) ev58

/-- dancestudioref20.Of -/
theorem ok26 : CtxOK Tryd.prog (cx [] [(53, conF (aOne (pC (cA .i64 15))) (rOne (cI .i64)) (fun a => f53 a)), (54, conF (aOne (pC (cA .i64 22))) (rOne (cI .i64)) (fun a => f54 a)), (55, conF (aCons (pC (cI .i64)) (aOne (pC (cI .i64)))) (rOne (cI .i64)) (fun a => f55 (a.1) (a.2))), (56, conF (aCons (pC (cA .i64 3)) (aOne (pC (cA .i64 3)))) (rOne (cA .i64 3)) (fun a => f56 (a.1) (a.2))), (57, conF (aCons (pC (cI .i64)) (aCons (pC (cA .i64 3)) (aOne (pC (cI .i64))))) (rOne (cA .i64 3)) (fun a => f57 (a.1) (a.2.1) (a.2.2))), (58, conF (aCons (pC (cI .i64)) (aCons (pC (cI .i64)) (aOne (pC (cI .i64))))) (rOne (cA .i64 3)) (fun a => f58 (a.1) (a.2.1) (a.2.2)))] []) gl := ctx_of tyOk moOk (show SpecL Tryd.prog gG gl [(53, conF (aOne (pC (cA .i64 15))) (rOne (cI .i64)) (fun a => f53 a)), (54, conF (aOne (pC (cA .i64 22))) (rOne (cI .i64)) (fun a => f54 a)), (55, conF (aCons (pC (cI .i64)) (aOne (pC (cI .i64)))) (rOne (cI .i64)) (fun a => f55 (a.1) (a.2))), (56, conF (aCons (pC (cA .i64 3)) (aOne (pC (cA .i64 3)))) (rOne (cA .i64 3)) (fun a => f56 (a.1) (a.2))), (57, conF (aCons (pC (cI .i64)) (aCons (pC (cA .i64 3)) (aOne (pC (cI .i64))))) (rOne (cA .i64 3)) (fun a => f57 (a.1) (a.2.1) (a.2.2))), (58, conF (aCons (pC (cI .i64)) (aCons (pC (cI .i64)) (aOne (pC (cI .i64))))) (rOne (cA .i64 3)) (fun a => f58 (a.1) (a.2.1) (a.2.2)))] from ⟨sp53, sp54, sp55, sp56, sp57, sp58, trivial⟩) (show FnL Tryd.prog [] from trivial) (fnLp_nil _) joinOk
noncomputable def f26 (a : Nat → Int) (b : Nat → Int) (c : Int) : Option ((Nat → Int) × Int) :=
 Option.bind (f53 a) (fun r3 =>
 cond (!decide (r3 = 0)) (
 some ((nthI [0, 0, 0, 0, 0, 0, 0, 0, 0, 0, 0, 0, 0, 0, 0, 0, 0, 0, 0, 0, 0, 0, 0, 0, 0, 0, 0, 0, 0, 0, 0, 0, 0], r3))) (
 Option.bind (f54 b) (fun r4 =>
 cond (!decide (r4 = 0)) (
 some ((nthI [0, 0, 0, 0, 0, 0, 0, 0, 0, 0, 0, 0, 0, 0, 0, 0, 0, 0, 0, 0, 0, 0, 0, 0, 0, 0, 0, 0, 0, 0, 0, 0, 0], r4))) (
 cond (decide (c < 0)) (
 some ((nthI [0, 0, 0, 0, 0, 0, 0, 0, 0, 0, 0, 0, 0, 0, 0, 0, 0, 0, 0, 0, 0, 0, 0, 0, 0, 0, 0, 0, 0, 0, 0, 0, 0], 1))) (
 cond (decide (3 < c)) (
 some ((nthI [0, 0, 0, 0, 0, 0, 0, 0, 0, 0, 0, 0, 0, 0, 0, 0, 0, 0, 0, 0, 0, 0, 0, 0, 0, 0, 0, 0, 0, 0, 0, 0, 0], 1))) (
 Option.bind (f55 (IntKind.i64.wrap (a 8 * b 3)) 8) (fun r5 =>
 cond (decide (b 3 < 0)) (
 Option.bind (f55 (IntKind.i64.wrap (a 7 * b 3)) 8) (fun r6 =>
 Option.bind (f57 (a 1) (nthI [b 10, b 11, b 12]) (b 2)) (fun r7 =>
 Option.bind (f56 (nthI [b 0, b 1, IntKind.i64.wrap (a 0 + r6)]) r7) (fun r8 =>
 Option.bind (f57 (a 2) (nthI [b 19, b 20, b 21]) (b 2)) (fun r9 =>
 Option.bind (f56 r8 r9) (fun r10 =>
 Option.bind (f58 (a 4) (-1) (b 2)) (fun r11 =>
 Option.bind (f56 (nthI [b 0, b 1, IntKind.i64.wrap (a 0 + r6)]) r11) (fun r12 =>
 Option.bind (f58 (a 5) (-1) (b 2)) (fun r13 =>
 Option.bind (f56 r8 r13) (fun r14 =>
 Option.bind (f57 (a 3) (nthI [b 13, b 14, b 15]) (b 2)) (fun r15 =>
 Option.bind (f56 r14 r15) (fun r16 =>
 cond (!decide (bitsI BinOp.and IntKind.i64 c 1 = 0)) (
 Option.bind (f58 (a 4) 1 (b 2)) (fun r17 =>
 Option.bind (f56 (nthI [b 0, b 1, IntKind.i64.wrap (a 0 + r6)]) r17) (fun r18 =>
 Option.bind (f58 (a 5) 1 (b 2)) (fun r19 =>
 Option.bind (f56 r8 r19) (fun r20 =>
 Option.bind (f57 (a 3) (nthI [b 16, b 17, b 18]) (b 2)) (fun r21 =>
 Option.bind (f56 r20 r21) (fun r22 =>
 cond (!decide (bitsI BinOp.and IntKind.i64 c 2 = 0)) (
 some ((nthI [b 0, b 1, IntKind.i64.wrap (a 0 + r6), r8 0, r8 1, r8 2, r10 0, r10 1, r10 2, r12 0, r12 1, r12 2, r18 0, r18 1, r18 2, r14 0, r14 1, r14 2, r20 0, r20 1, r20 2, r16 0, r16 1, r16 2, r22 0, r22 1, r22 2, r12 0, r12 1, 0, r18 0, r18 1, 0], 0))) (
 Option.bind (f57 (a 0) (nthI [b 7, b 8, b 9]) (b 2)) (fun r23 =>
 Option.bind (f56 r18 r23) (fun r24 =>
 some ((nthI [b 0, b 1, IntKind.i64.wrap (a 0 + r6), r8 0, r8 1, r8 2, r10 0, r10 1, r10 2, r12 0, r12 1, r12 2, r18 0, r18 1, r18 2, r14 0, r14 1, r14 2, r20 0, r20 1, r20 2, r16 0, r16 1, r16 2, r22 0, r22 1, r22 2, r12 0, r12 1, 0, r24 0, r24 1, r24 2], 0)))))))))))) (
 Option.bind (f57 (a 0) (nthI [b 4, b 5, b 6]) (b 2)) (fun r17 =>
 Option.bind (f56 r12 r17) (fun r18 =>
 Option.bind (f58 (a 4) 1 (b 2)) (fun r19 =>
 Option.bind (f56 (nthI [b 0, b 1, IntKind.i64.wrap (a 0 + r6)]) r19) (fun r20 =>
 Option.bind (f58 (a 5) 1 (b 2)) (fun r21 =>
 Option.bind (f56 r8 r21) (fun r22 =>
 Option.bind (f57 (a 3) (nthI [b 16, b 17, b 18]) (b 2)) (fun r23 =>
 Option.bind (f56 r22 r23) (fun r24 =>
 cond (!decide (bitsI BinOp.and IntKind.i64 c 2 = 0)) (
 some ((nthI [b 0, b 1, IntKind.i64.wrap (a 0 + r6), r8 0, r8 1, r8 2, r10 0, r10 1, r10 2, r12 0, r12 1, r12 2, r20 0, r20 1, r20 2, r14 0, r14 1, r14 2, r22 0, r22 1, r22 2, r16 0, r16 1, r16 2, r24 0, r24 1, r24 2, r18 0, r18 1, r18 2, r20 0, r20 1, 0], 0))) (
 Option.bind (f57 (a 0) (nthI [b 7, b 8, b 9]) (b 2)) (fun r25 =>
 Option.bind (f56 r20 r25) (fun r26 =>
 some ((nthI [b 0, b 1, IntKind.i64.wrap (a 0 + r6), r8 0, r8 1, r8 2, r10 0, r10 1, r10 2, r12 0, r12 1, r12 2, r20 0, r20 1, r20 2, r14 0, r14 1, r14 2, r22 0, r22 1, r22 2, r16 0, r16 1, r16 2, r24 0, r24 1, r24 2, r18 0, r18 1, r18 2, r26 0, r26 1, r26 2], 0)))))))))))))))))))))))))) (
 Option.bind (f57 (a 1) (nthI [b 10, b 11, b 12]) (b 2)) (fun r6 =>
 Option.bind (f56 (nthI [b 0, b 1, IntKind.i64.wrap (a 0 + r5)]) r6) (fun r7 =>
 Option.bind (f57 (a 2) (nthI [b 19, b 20, b 21]) (b 2)) (fun r8 =>
 Option.bind (f56 r7 r8) (fun r9 =>
 Option.bind (f58 (a 4) (-1) (b 2)) (fun r10 =>
 Option.bind (f56 (nthI [b 0, b 1, IntKind.i64.wrap (a 0 + r5)]) r10) (fun r11 =>
 Option.bind (f58 (a 5) (-1) (b 2)) (fun r12 =>
 Option.bind (f56 r7 r12) (fun r13 =>
 Option.bind (f57 (a 3) (nthI [b 13, b 14, b 15]) (b 2)) (fun r14 =>
 Option.bind (f56 r13 r14) (fun r15 =>
 cond (!decide (bitsI BinOp.and IntKind.i64 c 1 = 0)) (
 Option.bind (f58 (a 4) 1 (b 2)) (fun r16 =>
 Option.bind (f56 (nthI [b 0, b 1, IntKind.i64.wrap (a 0 + r5)]) r16) (fun r17 =>
 Option.bind (f58 (a 5) 1 (b 2)) (fun r18 =>
 Option.bind (f56 r7 r18) (fun r19 =>
 Option.bind (f57 (a 3) (nthI [b 16, b 17, b 18]) (b 2)) (fun r20 =>
 Option.bind (f56 r19 r20) (fun r21 =>
 cond (!decide (bitsI BinOp.and IntKind.i64 c 2 = 0)) (
 some ((nthI [b 0, b 1, IntKind.i64.wrap (a 0 + r5), r7 0, r7 1, r7 2, r9 0, r9 1, r9 2, r11 0, r11 1, r11 2, r17 0, r17 1, r17 2, r13 0, r13 1, r13 2, r19 0, r19 1, r19 2, r15 0, r15 1, r15 2, r21 0, r21 1, r21 2, r11 0, r11 1, 0, r17 0, r17 1, 0], 0))) (
 Option.bind (f57 (a 0) (nthI [b 7, b 8, b 9]) (b 2)) (fun r22 =>
 Option.bind (f56 r17 r22) (fun r23 =>
 some ((nthI [b 0, b 1, IntKind.i64.wrap (a 0 + r5), r7 0, r7 1, r7 2, r9 0, r9 1, r9 2, r11 0, r11 1, r11 2, r17 0, r17 1, r17 2, r13 0, r13 1, r13 2, r19 0, r19 1, r19 2, r15 0, r15 1, r15 2, r21 0, r21 1, r21 2, r11 0, r11 1, 0, r23 0, r23 1, r23 2], 0)))))))))))) (
 Option.bind (f57 (a 0) (nthI [b 4, b 5, b 6]) (b 2)) (fun r16 =>
 Option.bind (f56 r11 r16) (fun r17 =>
 Option.bind (f58 (a 4) 1 (b 2)) (fun r18 =>
 Option.bind (f56 (nthI [b 0, b 1, IntKind.i64.wrap (a 0 + r5)]) r18) (fun r19 =>
 Option.bind (f58 (a 5) 1 (b 2)) (fun r20 =>
 Option.bind (f56 r7 r20) (fun r21 =>
 Option.bind (f57 (a 3) (nthI [b 16, b 17, b 18]) (b 2)) (fun r22 =>
 Option.bind (f56 r21 r22) (fun r23 =>
 cond (!decide (bitsI BinOp.and IntKind.i64 c 2 = 0)) (
 some ((nthI [b 0, b 1, IntKind.i64.wrap (a 0 + r5), r7 0, r7 1, r7 2, r9 0, r9 1, r9 2, r11 0, r11 1, r11 2, r19 0, r19 1, r19 2, r13 0, r13 1, r13 2, r21 0, r21 1, r21 2, r15 0, r15 1, r15 2, r23 0, r23 1, r23 2, r17 0, r17 1, r17 2, r19 0, r19 1, 0], 0))) (
 Option.bind (f57 (a 0) (nthI [b 7, b 8, b 9]) (b 2)) (fun r24 =>
 Option.bind (f56 r19 r24) (fun r25 =>
 some ((nthI [b 0, b 1, IntKind.i64.wrap (a 0 + r5), r7 0, r7 1, r7 2, r9 0, r9 1, r9 2, r11 0, r11 1, r11 2, r19 0, r19 1, r19 2, r13 0, r13 1, r13 2, r21 0, r21 1, r21 2, r15 0, r15 1, r15 2, r23 0, r23 1, r23 2, r17 0, r17 1, r17 2, r25 0, r25 1, r25 2], 0))))))))))))))))))))))))))))))))
theorem evg26 (f53 : (Nat → Int) → Option (Int)) (f54 : (Nat → Int) → Option (Int)) (f55 : (Int) → (Int) → Option (Int)) (f56 : (Nat → Int) → (Nat → Int) → Option ((Nat → Int))) (f57 : (Int) → (Nat → Int) → (Int) → Option ((Nat → Int))) (f58 : (Int) → (Int) → (Int) → Option ((Nat → Int)))  (xx : (aCons (pC (cA .i64 15)) (aCons (pC (cA .i64 22)) (aOne (pC (cI .i64))))).T) : evF (R := (rTup (cCons (cA .i64 33) (cOne (cI .i64)))).T) (cx [] [(53, conF (aOne (pC (cA .i64 15))) (rOne (cI .i64)) (fun a => f53 a)), (54, conF (aOne (pC (cA .i64 22))) (rOne (cI .i64)) (fun a => f54 a)), (55, conF (aCons (pC (cI .i64)) (aOne (pC (cI .i64)))) (rOne (cI .i64)) (fun a => f55 (a.1) (a.2))), (56, conF (aCons (pC (cA .i64 3)) (aOne (pC (cA .i64 3)))) (rOne (cA .i64 3)) (fun a => f56 (a.1) (a.2))), (57, conF (aCons (pC (cI .i64)) (aCons (pC (cA .i64 3)) (aOne (pC (cI .i64))))) (rOne (cA .i64 3)) (fun a => f57 (a.1) (a.2.1) (a.2.2))), (58, conF (aCons (pC (cI .i64)) (aCons (pC (cI .i64)) (aOne (pC (cI .i64))))) (rOne (cA .i64 3)) (fun a => f58 (a.1) (a.2.1) (a.2.2)))] []) 1000 Tryd.f26 ((aCons (pC (cA .i64 15)) (aCons (pC (cA .i64 22)) (aOne (pC (cI .i64))))).enc gG xx) (glMem gl) 2 (rTup (cCons (cA .i64 33) (cOne (cI .i64)))).dec =
 (fun (a : Nat → Int) (b : Nat → Int) (c : Int) =>
 (( Option.bind (f53 (nthI [a 0, a 1, a 2, a 3, a 4, a 5, a 6, a 7, a 8, a 9, a 10, a 11, a 12, a 13, a 14])) (fun r3 =>
 cond (!decide (r3 = 0)) (
 some ((nthI [0, 0, 0, 0, 0, 0, 0, 0, 0, 0, 0, 0, 0, 0, 0, 0, 0, 0, 0, 0, 0, 0, 0, 0, 0, 0, 0, 0, 0, 0, 0, 0, 0], r3))) (
 Option.bind (f54 (nthI [b 0, b 1, b 2, b 3, b 4, b 5, b 6, b 7, b 8, b 9, b 10, b 11, b 12, b 13, b 14, b 15, b 16, b 17, b 18, b 19, b 20, b 21])) (fun r4 =>
 cond (!decide (r4 = 0)) (
 some ((nthI [0, 0, 0, 0, 0, 0, 0, 0, 0, 0, 0, 0, 0, 0, 0, 0, 0, 0, 0, 0, 0, 0, 0, 0, 0, 0, 0, 0, 0, 0, 0, 0, 0], r4))) (
 cond (decide (c < 0)) (
 some ((nthI [0, 0, 0, 0, 0, 0, 0, 0, 0, 0, 0, 0, 0, 0, 0, 0, 0, 0, 0, 0, 0, 0, 0, 0, 0, 0, 0, 0, 0, 0, 0, 0, 0], 1))) (
 cond (decide (3 < c)) (
 some ((nthI [0, 0, 0, 0, 0, 0, 0, 0, 0, 0, 0, 0, 0, 0, 0, 0, 0, 0, 0, 0, 0, 0, 0, 0, 0, 0, 0, 0, 0, 0, 0, 0, 0], 1))) (
 Option.bind (f55 (IntKind.i64.wrap (a 8 * b 3)) 8) (fun r5 =>
 cond (decide (b 3 < 0)) (
 Option.bind (f55 (IntKind.i64.wrap (a 7 * b 3)) 8) (fun r6 =>
 Option.bind (f57 (a 1) (nthI [b 10, b 11, b 12]) (b 2)) (fun r7 =>
 Option.bind (f56 (nthI [b 0, b 1, IntKind.i64.wrap (a 0 + r6)]) (nthI [r7 0, r7 1, r7 2])) (fun r8 =>
 Option.bind (f57 (a 2) (nthI [b 19, b 20, b 21]) (b 2)) (fun r9 =>
 Option.bind (f56 (nthI [r8 0, r8 1, r8 2]) (nthI [r9 0, r9 1, r9 2])) (fun r10 =>
 Option.bind (f58 (a 4) (-1) (b 2)) (fun r11 =>
 Option.bind (f56 (nthI [b 0, b 1, IntKind.i64.wrap (a 0 + r6)]) (nthI [r11 0, r11 1, r11 2])) (fun r12 =>
 Option.bind (f58 (a 5) (-1) (b 2)) (fun r13 =>
 Option.bind (f56 (nthI [r8 0, r8 1, r8 2]) (nthI [r13 0, r13 1, r13 2])) (fun r14 =>
 Option.bind (f57 (a 3) (nthI [b 13, b 14, b 15]) (b 2)) (fun r15 =>
 Option.bind (f56 (nthI [r14 0, r14 1, r14 2]) (nthI [r15 0, r15 1, r15 2])) (fun r16 =>
 cond (!decide (bitsI BinOp.and IntKind.i64 c 1 = 0)) (
 Option.bind (f58 (a 4) 1 (b 2)) (fun r17 =>
 Option.bind (f56 (nthI [b 0, b 1, IntKind.i64.wrap (a 0 + r6)]) (nthI [r17 0, r17 1, r17 2])) (fun r18 =>
 Option.bind (f58 (a 5) 1 (b 2)) (fun r19 =>
 Option.bind (f56 (nthI [r8 0, r8 1, r8 2]) (nthI [r19 0, r19 1, r19 2])) (fun r20 =>
 Option.bind (f57 (a 3) (nthI [b 16, b 17, b 18]) (b 2)) (fun r21 =>
 Option.bind (f56 (nthI [r20 0, r20 1, r20 2]) (nthI [r21 0, r21 1, r21 2])) (fun r22 =>
 cond (!decide (bitsI BinOp.and IntKind.i64 c 2 = 0)) (
 some ((nthI [b 0, b 1, IntKind.i64.wrap (a 0 + r6), r8 0, r8 1, r8 2, r10 0, r10 1, r10 2, r12 0, r12 1, r12 2, r18 0, r18 1, r18 2, r14 0, r14 1, r14 2, r20 0, r20 1, r20 2, r16 0, r16 1, r16 2, r22 0, r22 1, r22 2, r12 0, r12 1, 0, r18 0, r18 1, 0], 0))) (
 Option.bind (f57 (a 0) (nthI [b 7, b 8, b 9]) (b 2)) (fun r23 =>
 Option.bind (f56 (nthI [r18 0, r18 1, r18 2]) (nthI [r23 0, r23 1, r23 2])) (fun r24 =>
 some ((nthI [b 0, b 1, IntKind.i64.wrap (a 0 + r6), r8 0, r8 1, r8 2, r10 0, r10 1, r10 2, r12 0, r12 1, r12 2, r18 0, r18 1, r18 2, r14 0, r14 1, r14 2, r20 0, r20 1, r20 2, r16 0, r16 1, r16 2, r22 0, r22 1, r22 2, r12 0, r12 1, 0, r24 0, r24 1, r24 2], 0)))))))))))) (
 Option.bind (f57 (a 0) (nthI [b 4, b 5, b 6]) (b 2)) (fun r17 =>
 Option.bind (f56 (nthI [r12 0, r12 1, r12 2]) (nthI [r17 0, r17 1, r17 2])) (fun r18 =>
 Option.bind (f58 (a 4) 1 (b 2)) (fun r19 =>
 Option.bind (f56 (nthI [b 0, b 1, IntKind.i64.wrap (a 0 + r6)]) (nthI [r19 0, r19 1, r19 2])) (fun r20 =>
 Option.bind (f58 (a 5) 1 (b 2)) (fun r21 =>
 Option.bind (f56 (nthI [r8 0, r8 1, r8 2]) (nthI [r21 0, r21 1, r21 2])) (fun r22 =>
 Option.bind (f57 (a 3) (nthI [b 16, b 17, b 18]) (b 2)) (fun r23 =>
 Option.bind (f56 (nthI [r22 0, r22 1, r22 2]) (nthI [r23 0, r23 1, r23 2])) (fun r24 =>
 cond (!decide (bitsI BinOp.and IntKind.i64 c 2 = 0)) (
 some ((nthI [b 0, b 1, IntKind.i64.wrap (a 0 + r6), r8 0, r8 1, r8 2, r10 0, r10 1, r10 2, r12 0, r12 1, r12 2, r20 0, r20 1, r20 2, r14 0, r14 1, r14 2, r22 0, r22 1, r22 2, r16 0, r16 1, r16 2, r24 0, r24 1, r24 2, r18 0, r18 1, r18 2, r20 0, r20 1, 0], 0))) (
 Option.bind (f57 (a 0) (nthI [b 7, b 8, b 9]) (b 2)) (fun r25 =>
 Option.bind (f56 (nthI [r20 0, r20 1, r20 2]) (nthI [r25 0, r25 1, r25 2])) (fun r26 =>
 some ((nthI [b 0, b 1, IntKind.i64.wrap (a 0 + r6), r8 0, r8 1, r8 2, r10 0, r10 1, r10 2, r12 0, r12 1, r12 2, r20 0, r20 1, r20 2, r14 0, r14 1, r14 2, r22 0, r22 1, r22 2, r16 0, r16 1, r16 2, r24 0, r24 1, r24 2, r18 0, r18 1, r18 2, r26 0, r26 1, r26 2], 0)))))))))))))))))))))))))) (
 Option.bind (f57 (a 1) (nthI [b 10, b 11, b 12]) (b 2)) (fun r6 =>
 Option.bind (f56 (nthI [b 0, b 1, IntKind.i64.wrap (a 0 + r5)]) (nthI [r6 0, r6 1, r6 2])) (fun r7 =>
 Option.bind (f57 (a 2) (nthI [b 19, b 20, b 21]) (b 2)) (fun r8 =>
 Option.bind (f56 (nthI [r7 0, r7 1, r7 2]) (nthI [r8 0, r8 1, r8 2])) (fun r9 =>
 Option.bind (f58 (a 4) (-1) (b 2)) (fun r10 =>
 Option.bind (f56 (nthI [b 0, b 1, IntKind.i64.wrap (a 0 + r5)]) (nthI [r10 0, r10 1, r10 2])) (fun r11 =>
 Option.bind (f58 (a 5) (-1) (b 2)) (fun r12 =>
 Option.bind (f56 (nthI [r7 0, r7 1, r7 2]) (nthI [r12 0, r12 1, r12 2])) (fun r13 =>
 Option.bind (f57 (a 3) (nthI [b 13, b 14, b 15]) (b 2)) (fun r14 =>
 Option.bind (f56 (nthI [r13 0, r13 1, r13 2]) (nthI [r14 0, r14 1, r14 2])) (fun r15 =>
 cond (!decide (bitsI BinOp.and IntKind.i64 c 1 = 0)) (
 Option.bind (f58 (a 4) 1 (b 2)) (fun r16 =>
 Option.bind (f56 (nthI [b 0, b 1, IntKind.i64.wrap (a 0 + r5)]) (nthI [r16 0, r16 1, r16 2])) (fun r17 =>
 Option.bind (f58 (a 5) 1 (b 2)) (fun r18 =>
 Option.bind (f56 (nthI [r7 0, r7 1, r7 2]) (nthI [r18 0, r18 1, r18 2])) (fun r19 =>
 Option.bind (f57 (a 3) (nthI [b 16, b 17, b 18]) (b 2)) (fun r20 =>
 Option.bind (f56 (nthI [r19 0, r19 1, r19 2]) (nthI [r20 0, r20 1, r20 2])) (fun r21 =>
 cond (!decide (bitsI BinOp.and IntKind.i64 c 2 = 0)) (
 some ((nthI [b 0, b 1, IntKind.i64.wrap (a 0 + r5), r7 0, r7 1, r7 2, r9 0, r9 1, r9 2, r11 0, r11 1, r11 2, r17 0, r17 1, r17 2, r13 0, r13 1, r13 2, r19 0, r19 1, r19 2, r15 0, r15 1, r15 2, r21 0, r21 1, r21 2, r11 0, r11 1, 0, r17 0, r17 1, 0], 0))) (
 Option.bind (f57 (a 0) (nthI [b 7, b 8, b 9]) (b 2)) (fun r22 =>
 Option.bind (f56 (nthI [r17 0, r17 1, r17 2]) (nthI [r22 0, r22 1, r22 2])) (fun r23 =>
 some ((nthI [b 0, b 1, IntKind.i64.wrap (a 0 + r5), r7 0, r7 1, r7 2, r9 0, r9 1, r9 2, r11 0, r11 1, r11 2, r17 0, r17 1, r17 2, r13 0, r13 1, r13 2, r19 0, r19 1, r19 2, r15 0, r15 1, r15 2, r21 0, r21 1, r21 2, r11 0, r11 1, 0, r23 0, r23 1, r23 2], 0)))))))))))) (
 Option.bind (f57 (a 0) (nthI [b 4, b 5, b 6]) (b 2)) (fun r16 =>
 Option.bind (f56 (nthI [r11 0, r11 1, r11 2]) (nthI [r16 0, r16 1, r16 2])) (fun r17 =>
 Option.bind (f58 (a 4) 1 (b 2)) (fun r18 =>
 Option.bind (f56 (nthI [b 0, b 1, IntKind.i64.wrap (a 0 + r5)]) (nthI [r18 0, r18 1, r18 2])) (fun r19 =>
 Option.bind (f58 (a 5) 1 (b 2)) (fun r20 =>
 Option.bind (f56 (nthI [r7 0, r7 1, r7 2]) (nthI [r20 0, r20 1, r20 2])) (fun r21 =>
 Option.bind (f57 (a 3) (nthI [b 16, b 17, b 18]) (b 2)) (fun r22 =>
 Option.bind (f56 (nthI [r21 0, r21 1, r21 2]) (nthI [r22 0, r22 1, r22 2])) (fun r23 =>
 cond (!decide (bitsI BinOp.and IntKind.i64 c 2 = 0)) (
 some ((nthI [b 0, b 1, IntKind.i64.wrap (a 0 + r5), r7 0, r7 1, r7 2, r9 0, r9 1, r9 2, r11 0, r11 1, r11 2, r19 0, r19 1, r19 2, r13 0, r13 1, r13 2, r21 0, r21 1, r21 2, r15 0, r15 1, r15 2, r23 0, r23 1, r23 2, r17 0, r17 1, r17 2, r19 0, r19 1, 0], 0))) (
 Option.bind (f57 (a 0) (nthI [b 7, b 8, b 9]) (b 2)) (fun r24 =>
 Option.bind (f56 (nthI [r19 0, r19 1, r19 2]) (nthI [r24 0, r24 1, r24 2])) (fun r25 =>
 some ((nthI [b 0, b 1, IntKind.i64.wrap (a 0 + r5), r7 0, r7 1, r7 2, r9 0, r9 1, r9 2, r11 0, r11 1, r11 2, r19 0, r19 1, r19 2, r13 0, r13 1, r13 2, r21 0, r21 1, r21 2, r15 0, r15 1, r15 2, r23 0, r23 1, r23 2, r17 0, r17 1, r17 2, r25 0, r25 1, r25 2], 0))))))))))))))))))))))))))))))))) : Option ((Nat → Int) × Int))) xx.1 xx.2.1 xx.2.2 := by kernel_rfl
noncomputable def g26 (a : Nat → Int) (b : Nat → Int) (c : Int) : Option ((Nat → Int) × Int) :=
 Option.bind (f53 (nthI [a 0, a 1, a 2, a 3, a 4, a 5, a 6, a 7, a 8, a 9, a 10, a 11, a 12, a 13, a 14])) (fun r3 =>
 cond (!decide (r3 = 0)) (
 some ((nthI [0, 0, 0, 0, 0, 0, 0, 0, 0, 0, 0, 0, 0, 0, 0, 0, 0, 0, 0, 0, 0, 0, 0, 0, 0, 0, 0, 0, 0, 0, 0, 0, 0], r3))) (
 Option.bind (f54 (nthI [b 0, b 1, b 2, b 3, b 4, b 5, b 6, b 7, b 8, b 9, b 10, b 11, b 12, b 13, b 14, b 15, b 16, b 17, b 18, b 19, b 20, b 21])) (fun r4 =>
 cond (!decide (r4 = 0)) (
 some ((nthI [0, 0, 0, 0, 0, 0, 0, 0, 0, 0, 0, 0, 0, 0, 0, 0, 0, 0, 0, 0, 0, 0, 0, 0, 0, 0, 0, 0, 0, 0, 0, 0, 0], r4))) (
 cond (decide (c < 0)) (
 some ((nthI [0, 0, 0, 0, 0, 0, 0, 0, 0, 0, 0, 0, 0, 0, 0, 0, 0, 0, 0, 0, 0, 0, 0, 0, 0, 0, 0, 0, 0, 0, 0, 0, 0], 1))) (
 cond (decide (3 < c)) (
 some ((nthI [0, 0, 0, 0, 0, 0, 0, 0, 0, 0, 0, 0, 0, 0, 0, 0, 0, 0, 0, 0, 0, 0, 0, 0, 0, 0, 0, 0, 0, 0, 0, 0, 0], 1))) (
 Option.bind (f55 (IntKind.i64.wrap (a 8 * b 3)) 8) (fun r5 =>
 cond (decide (b 3 < 0)) (
 Option.bind (f55 (IntKind.i64.wrap (a 7 * b 3)) 8) (fun r6 =>
 Option.bind (f57 (a 1) (nthI [b 10, b 11, b 12]) (b 2)) (fun r7 =>
 Option.bind (f56 (nthI [b 0, b 1, IntKind.i64.wrap (a 0 + r6)]) (nthI [r7 0, r7 1, r7 2])) (fun r8 =>
 Option.bind (f57 (a 2) (nthI [b 19, b 20, b 21]) (b 2)) (fun r9 =>
 Option.bind (f56 (nthI [r8 0, r8 1, r8 2]) (nthI [r9 0, r9 1, r9 2])) (fun r10 =>
 Option.bind (f58 (a 4) (-1) (b 2)) (fun r11 =>
 Option.bind (f56 (nthI [b 0, b 1, IntKind.i64.wrap (a 0 + r6)]) (nthI [r11 0, r11 1, r11 2])) (fun r12 =>
 Option.bind (f58 (a 5) (-1) (b 2)) (fun r13 =>
 Option.bind (f56 (nthI [r8 0, r8 1, r8 2]) (nthI [r13 0, r13 1, r13 2])) (fun r14 =>
 Option.bind (f57 (a 3) (nthI [b 13, b 14, b 15]) (b 2)) (fun r15 =>
 Option.bind (f56 (nthI [r14 0, r14 1, r14 2]) (nthI [r15 0, r15 1, r15 2])) (fun r16 =>
 cond (!decide (bitsI BinOp.and IntKind.i64 c 1 = 0)) (
 Option.bind (f58 (a 4) 1 (b 2)) (fun r17 =>
 Option.bind (f56 (nthI [b 0, b 1, IntKind.i64.wrap (a 0 + r6)]) (nthI [r17 0, r17 1, r17 2])) (fun r18 =>
 Option.bind (f58 (a 5) 1 (b 2)) (fun r19 =>
 Option.bind (f56 (nthI [r8 0, r8 1, r8 2]) (nthI [r19 0, r19 1, r19 2])) (fun r20 =>
 Option.bind (f57 (a 3) (nthI [b 16, b 17, b 18]) (b 2)) (fun r21 =>
 Option.bind (f56 (nthI [r20 0, r20 1, r20 2]) (nthI [r21 0, r21 1, r21 2])) (fun r22 =>
 cond (!decide (bitsI BinOp.and IntKind.i64 c 2 = 0)) (
 some ((nthI [b 0, b 1, IntKind.i64.wrap (a 0 + r6), r8 0, r8 1, r8 2, r10 0, r10 1, r10 2, r12 0, r12 1, r12 2, r18 0, r18 1, r18 2, r14 0, r14 1, r14 2, r20 0, r20 1, r20 2, r16 0, r16 1, r16 2, r22 0, r22 1, r22 2, r12 0, r12 1, 0, r18 0, r18 1, 0], 0))) (
 Option.bind (f57 (a 0) (nthI [b 7, b 8, b 9]) (b 2)) (fun r23 =>
 Option.bind (f56 (nthI [r18 0, r18 1, r18 2]) (nthI [r23 0, r23 1, r23 2])) (fun r24 =>
 some ((nthI [b 0, b 1, IntKind.i64.wrap (a 0 + r6), r8 0, r8 1, r8 2, r10 0, r10 1, r10 2, r12 0, r12 1, r12 2, r18 0, r18 1, r18 2, r14 0, r14 1, r14 2, r20 0, r20 1, r20 2, r16 0, r16 1, r16 2, r22 0, r22 1, r22 2, r12 0, r12 1, 0, r24 0, r24 1, r24 2], 0)))))))))))) (
 Option.bind (f57 (a 0) (nthI [b 4, b 5, b 6]) (b 2)) (fun r17 =>
 Option.bind (f56 (nthI [r12 0, r12 1, r12 2]) (nthI [r17 0, r17 1, r17 2])) (fun r18 =>
 Option.bind (f58 (a 4) 1 (b 2)) (fun r19 =>
 Option.bind (f56 (nthI [b 0, b 1, IntKind.i64.wrap (a 0 + r6)]) (nthI [r19 0, r19 1, r19 2])) (fun r20 =>
 Option.bind (f58 (a 5) 1 (b 2)) (fun r21 =>
 Option.bind (f56 (nthI [r8 0, r8 1, r8 2]) (nthI [r21 0, r21 1, r21 2])) (fun r22 =>
 Option.bind (f57 (a 3) (nthI [b 16, b 17, b 18]) (b 2)) (fun r23 =>
 Option.bind (f56 (nthI [r22 0, r22 1, r22 2]) (nthI [r23 0, r23 1, r23 2])) (fun r24 =>
 cond (!decide (bitsI BinOp.and IntKind.i64 c 2 = 0)) (
 some ((nthI [b 0, b 1, IntKind.i64.wrap (a 0 + r6), r8 0, r8 1, r8 2, r10 0, r10 1, r10 2, r12 0, r12 1, r12 2, r20 0, r20 1, r20 2, r14 0, r14 1, r14 2, r22 0, r22 1, r22 2, r16 0, r16 1, r16 2, r24 0, r24 1, r24 2, r18 0, r18 1, r18 2, r20 0, r20 1, 0], 0))) (
 Option.bind (f57 (a 0) (nthI [b 7, b 8, b 9]) (b 2)) (fun r25 =>
 Option.bind (f56 (nthI [r20 0, r20 1, r20 2]) (nthI [r25 0, r25 1, r25 2])) (fun r26 =>
 some ((nthI [b 0, b 1, IntKind.i64.wrap (a 0 + r6), r8 0, r8 1, r8 2, r10 0, r10 1, r10 2, r12 0, r12 1, r12 2, r20 0, r20 1, r20 2, r14 0, r14 1, r14 2, r22 0, r22 1, r22 2, r16 0, r16 1, r16 2, r24 0, r24 1, r24 2, r18 0, r18 1, r18 2, r26 0, r26 1, r26 2], 0)))))))))))))))))))))))))) (
 Option.bind (f57 (a 1) (nthI [b 10, b 11, b 12]) (b 2)) (fun r6 =>
 Option.bind (f56 (nthI [b 0, b 1, IntKind.i64.wrap (a 0 + r5)]) (nthI [r6 0, r6 1, r6 2])) (fun r7 =>
 Option.bind (f57 (a 2) (nthI [b 19, b 20, b 21]) (b 2)) (fun r8 =>
 Option.bind (f56 (nthI [r7 0, r7 1, r7 2]) (nthI [r8 0, r8 1, r8 2])) (fun r9 =>
 Option.bind (f58 (a 4) (-1) (b 2)) (fun r10 =>
 Option.bind (f56 (nthI [b 0, b 1, IntKind.i64.wrap (a 0 + r5)]) (nthI [r10 0, r10 1, r10 2])) (fun r11 =>
 Option.bind (f58 (a 5) (-1) (b 2)) (fun r12 =>
 Option.bind (f56 (nthI [r7 0, r7 1, r7 2]) (nthI [r12 0, r12 1, r12 2])) (fun r13 =>
 Option.bind (f57 (a 3) (nthI [b 13, b 14, b 15]) (b 2)) (fun r14 =>
 Option.bind (f56 (nthI [r13 0, r13 1, r13 2]) (nthI [r14 0, r14 1, r14 2])) (fun r15 =>
 cond (!decide (bitsI BinOp.and IntKind.i64 c 1 = 0)) (
 Option.bind (f58 (a 4) 1 (b 2)) (fun r16 =>
 Option.bind (f56 (nthI [b 0, b 1, IntKind.i64.wrap (a 0 + r5)]) (nthI [r16 0, r16 1, r16 2])) (fun r17 =>
 Option.bind (f58 (a 5) 1 (b 2)) (fun r18 =>
 Option.bind (f56 (nthI [r7 0, r7 1, r7 2]) (nthI [r18 0, r18 1, r18 2])) (fun r19 =>
 Option.bind (f57 (a 3) (nthI [b 16, b 17, b 18]) (b 2)) (fun r20 =>
 Option.bind (f56 (nthI [r19 0, r19 1, r19 2]) (nthI [r20 0, r20 1, r20 2])) (fun r21 =>
 cond (!decide (bitsI BinOp.and IntKind.i64 c 2 = 0)) (
 some ((nthI [b 0, b 1, IntKind.i64.wrap (a 0 + r5), r7 0, r7 1, r7 2, r9 0, r9 1, r9 2, r11 0, r11 1, r11 2, r17 0, r17 1, r17 2, r13 0, r13 1, r13 2, r19 0, r19 1, r19 2, r15 0, r15 1, r15 2, r21 0, r21 1, r21 2, r11 0, r11 1, 0, r17 0, r17 1, 0], 0))) (
 Option.bind (f57 (a 0) (nthI [b 7, b 8, b 9]) (b 2)) (fun r22 =>
 Option.bind (f56 (nthI [r17 0, r17 1, r17 2]) (nthI [r22 0, r22 1, r22 2])) (fun r23 =>
 some ((nthI [b 0, b 1, IntKind.i64.wrap (a 0 + r5), r7 0, r7 1, r7 2, r9 0, r9 1, r9 2, r11 0, r11 1, r11 2, r17 0, r17 1, r17 2, r13 0, r13 1, r13 2, r19 0, r19 1, r19 2, r15 0, r15 1, r15 2, r21 0, r21 1, r21 2, r11 0, r11 1, 0, r23 0, r23 1, r23 2], 0)))))))))))) (
 Option.bind (f57 (a 0) (nthI [b 4, b 5, b 6]) (b 2)) (fun r16 =>
 Option.bind (f56 (nthI [r11 0, r11 1, r11 2]) (nthI [r16 0, r16 1, r16 2])) (fun r17 =>
 Option.bind (f58 (a 4) 1 (b 2)) (fun r18 =>
 Option.bind (f56 (nthI [b 0, b 1, IntKind.i64.wrap (a 0 + r5)]) (nthI [r18 0, r18 1, r18 2])) (fun r19 =>
 Option.bind (f58 (a 5) 1 (b 2)) (fun r20 =>
 Option.bind (f56 (nthI [r7 0, r7 1, r7 2]) (nthI [r20 0, r20 1, r20 2])) (fun r21 =>
 Option.bind (f57 (a 3) (nthI [b 16, b 17, b 18]) (b 2)) (fun r22 =>
 Option.bind (f56 (nthI [r21 0, r21 1, r21 2]) (nthI [r22 0, r22 1, r22 2])) (fun r23 =>
 cond (!decide (bitsI BinOp.and IntKind.i64 c 2 = 0)) (
 some ((nthI [b 0, b 1, IntKind.i64.wrap (a 0 + r5), r7 0, r7 1, r7 2, r9 0, r9 1, r9 2, r11 0, r11 1, r11 2, r19 0, r19 1, r19 2, r13 0, r13 1, r13 2, r21 0, r21 1, r21 2, r15 0, r15 1, r15 2, r23 0, r23 1, r23 2, r17 0, r17 1, r17 2, r19 0, r19 1, 0], 0))) (
 Option.bind (f57 (a 0) (nthI [b 7, b 8, b 9]) (b 2)) (fun r24 =>
 Option.bind (f56 (nthI [r19 0, r19 1, r19 2]) (nthI [r24 0, r24 1, r24 2])) (fun r25 =>
 some ((nthI [b 0, b 1, IntKind.i64.wrap (a 0 + r5), r7 0, r7 1, r7 2, r9 0, r9 1, r9 2, r11 0, r11 1, r11 2, r19 0, r19 1, r19 2, r13 0, r13 1, r13 2, r21 0, r21 1, r21 2, r15 0, r15 1, r15 2, r23 0, r23 1, r23 2, r17 0, r17 1, r17 2, r25 0, r25 1, r25 2], 0))))))))))))))))))))))))))))))))
theorem fg26 (a : Nat → Int) (b : Nat → Int) (c : Int) : g26 a b c = f26 a b c := by kernel_rfl
theorem ev26 (a : (aCons (pC (cA .i64 15)) (aCons (pC (cA .i64 22)) (aOne (pC (cI .i64))))).T) : evF (R := (rTup (cCons (cA .i64 33) (cOne (cI .i64)))).T) (cx [] [(53, conF (aOne (pC (cA .i64 15))) (rOne (cI .i64)) (fun a => f53 a)), (54, conF (aOne (pC (cA .i64 22))) (rOne (cI .i64)) (fun a => f54 a)), (55, conF (aCons (pC (cI .i64)) (aOne (pC (cI .i64)))) (rOne (cI .i64)) (fun a => f55 (a.1) (a.2))), (56, conF (aCons (pC (cA .i64 3)) (aOne (pC (cA .i64 3)))) (rOne (cA .i64 3)) (fun a => f56 (a.1) (a.2))), (57, conF (aCons (pC (cI .i64)) (aCons (pC (cA .i64 3)) (aOne (pC (cI .i64))))) (rOne (cA .i64 3)) (fun a => f57 (a.1) (a.2.1) (a.2.2))), (58, conF (aCons (pC (cI .i64)) (aCons (pC (cI .i64)) (aOne (pC (cI .i64))))) (rOne (cA .i64 3)) (fun a => f58 (a.1) (a.2.1) (a.2.2)))] []) 1000 Tryd.f26 ((aCons (pC (cA .i64 15)) (aCons (pC (cA .i64 22)) (aOne (pC (cI .i64))))).enc gG a) (glMem gl) 2 (rTup (cCons (cA .i64 33) (cOne (cI .i64)))).dec = f26 a.1 a.2.1 a.2.2 := (show evF (R := (rTup (cCons (cA .i64 33) (cOne (cI .i64)))).T) (cx [] [(53, conF (aOne (pC (cA .i64 15))) (rOne (cI .i64)) (fun a => f53 a)), (54, conF (aOne (pC (cA .i64 22))) (rOne (cI .i64)) (fun a => f54 a)), (55, conF (aCons (pC (cI .i64)) (aOne (pC (cI .i64)))) (rOne (cI .i64)) (fun a => f55 (a.1) (a.2))), (56, conF (aCons (pC (cA .i64 3)) (aOne (pC (cA .i64 3)))) (rOne (cA .i64 3)) (fun a => f56 (a.1) (a.2))), (57, conF (aCons (pC (cI .i64)) (aCons (pC (cA .i64 3)) (aOne (pC (cI .i64))))) (rOne (cA .i64 3)) (fun a => f57 (a.1) (a.2.1) (a.2.2))), (58, conF (aCons (pC (cI .i64)) (aCons (pC (cI .i64)) (aOne (pC (cI .i64))))) (rOne (cA .i64 3)) (fun a => f58 (a.1) (a.2.1) (a.2.2)))] []) 1000 Tryd.f26 ((aCons (pC (cA .i64 15)) (aCons (pC (cA .i64 22)) (aOne (pC (cI .i64))))).enc gG a) (glMem gl) 2 (rTup (cCons (cA .i64 33) (cOne (cI .i64)))).dec = g26 a.1 a.2.1 a.2.2 from evg26 f53 f54 f55 f56 f57 f58  a).trans (fg26 a.1 a.2.1 a.2.2)
theorem sp26 : VE.Spec Tryd.prog gG gl 26 (conF (aCons (pC (cA .i64 15)) (aCons (pC (cA .i64 22)) (aOne (pC (cI .i64))))) (rTup (cCons (cA .i64 33) (cOne (cI .i64)))) (fun a => f26 a.1 a.2.1 a.2.2)) := spec_of ok26 Tryd.func26 Tryd.call26 (lpAll_nil rfl) 1000 (aCons_ok (pC_ok (cA_ok _ _)) (aCons_ok (pC_ok (cA_ok _ _)) (aOne_ok (pC_ok (cI_ok _))))) (rTup_ok (cCons_ok (cA_ok _ _) (cOne_ok (cI_ok _)))) ev26

/-- dancestudioref17.Mass -/
theorem ok27 : CtxOK Tryd.prog (cx [] [(53, conF (aOne (pC (cA .i64 15))) (rOne (cI .i64)) (fun a => f53 a))] []) gl := ctx_of tyOk moOk (show SpecL Tryd.prog gG gl [(53, conF (aOne (pC (cA .i64 15))) (rOne (cI .i64)) (fun a => f53 a))] from ⟨sp53, trivial⟩) (show FnL Tryd.prog [] from trivial) (fnLp_nil _) joinOk
noncomputable def f27 (a : Nat → Int) : Option (Int × Int) :=
 Option.bind (f53 a) (fun r1 =>
 cond (!decide (r1 = 0)) (
 some ((0, r1))) (
 some ((IntKind.i64.wrap (IntKind.i64.wrap (IntKind.i64.wrap (a 11 + a 12) + IntKind.i64.wrap (2 * a 13)) + IntKind.i64.wrap (2 * a 14)), 0))))
theorem evg27 (f53 : (Nat → Int) → Option (Int))  (xx : (aOne (pC (cA .i64 15))).T) : evF (R := (rTup (cCons (cI .i64) (cOne (cI .i64)))).T) (cx [] [(53, conF (aOne (pC (cA .i64 15))) (rOne (cI .i64)) (fun a => f53 a))] []) 1000 Tryd.f27 ((aOne (pC (cA .i64 15))).enc gG xx) (glMem gl) 2 (rTup (cCons (cI .i64) (cOne (cI .i64)))).dec =
 (fun (a : Nat → Int) =>
 (( Option.bind (f53 (nthI [a 0, a 1, a 2, a 3, a 4, a 5, a 6, a 7, a 8, a 9, a 10, a 11, a 12, a 13, a 14])) (fun r1 =>
 cond (!decide (r1 = 0)) (
 some ((0, r1))) (
 some ((IntKind.i64.wrap (IntKind.i64.wrap (IntKind.i64.wrap (a 11 + a 12) + IntKind.i64.wrap (2 * a 13)) + IntKind.i64.wrap (2 * a 14)), 0))))) : Option (Int × Int))) xx := by kernel_rfl
noncomputable def g27 (a : Nat → Int) : Option (Int × Int) :=
 Option.bind (f53 (nthI [a 0, a 1, a 2, a 3, a 4, a 5, a 6, a 7, a 8, a 9, a 10, a 11, a 12, a 13, a 14])) (fun r1 =>
 cond (!decide (r1 = 0)) (
 some ((0, r1))) (
 some ((IntKind.i64.wrap (IntKind.i64.wrap (IntKind.i64.wrap (a 11 + a 12) + IntKind.i64.wrap (2 * a 13)) + IntKind.i64.wrap (2 * a 14)), 0))))
theorem fg27 (a : Nat → Int) : g27 a = f27 a := by kernel_rfl
theorem ev27 (a : (aOne (pC (cA .i64 15))).T) : evF (R := (rTup (cCons (cI .i64) (cOne (cI .i64)))).T) (cx [] [(53, conF (aOne (pC (cA .i64 15))) (rOne (cI .i64)) (fun a => f53 a))] []) 1000 Tryd.f27 ((aOne (pC (cA .i64 15))).enc gG a) (glMem gl) 2 (rTup (cCons (cI .i64) (cOne (cI .i64)))).dec = f27 a := (show evF (R := (rTup (cCons (cI .i64) (cOne (cI .i64)))).T) (cx [] [(53, conF (aOne (pC (cA .i64 15))) (rOne (cI .i64)) (fun a => f53 a))] []) 1000 Tryd.f27 ((aOne (pC (cA .i64 15))).enc gG a) (glMem gl) 2 (rTup (cCons (cI .i64) (cOne (cI .i64)))).dec = g27 a from evg27 f53  a).trans (fg27 a)
theorem sp27 : VE.Spec Tryd.prog gG gl 27 (conF (aOne (pC (cA .i64 15))) (rTup (cCons (cI .i64) (cOne (cI .i64)))) (fun a => f27 a)) := spec_of ok27 Tryd.func27 Tryd.call27 (lpAll_nil rfl) 1000 (aOne_ok (pC_ok (cA_ok _ _))) (rTup_ok (cCons_ok (cI_ok _) (cOne_ok (cI_ok _)))) ev27

/-- dancestudioref21.middle -/
theorem ok28 : CtxOK Tryd.prog (cx [] [] []) gl := ctx_of tyOk moOk (show SpecL Tryd.prog gG gl [] from trivial) (show FnL Tryd.prog [] from trivial) (fnLp_nil _) joinOk
noncomputable def f28 (a : Nat → Int) (b : Nat → Int) : Option (Int × Int) :=
 some ((IntKind.i64.wrap (IntKind.i64.wrap (IntKind.i64.wrap (IntKind.i64.wrap (IntKind.i64.wrap (IntKind.i64.wrap (a 11 * IntKind.i64.wrap (b 0 + b 3)) + IntKind.i64.wrap (a 12 * IntKind.i64.wrap (b 3 + b 6))) + IntKind.i64.wrap (a 13 * IntKind.i64.wrap (b 15 + b 21))) + IntKind.i64.wrap (a 14 * IntKind.i64.wrap (b 9 + b 27))) + IntKind.i64.wrap (a 13 * IntKind.i64.wrap (b 18 + b 24))) + IntKind.i64.wrap (a 14 * IntKind.i64.wrap (b 12 + b 30))), IntKind.i64.wrap (IntKind.i64.wrap (IntKind.i64.wrap (IntKind.i64.wrap (IntKind.i64.wrap (IntKind.i64.wrap (a 11 * IntKind.i64.wrap (b 1 + b 4)) + IntKind.i64.wrap (a 12 * IntKind.i64.wrap (b 4 + b 7))) + IntKind.i64.wrap (a 13 * IntKind.i64.wrap (b 16 + b 22))) + IntKind.i64.wrap (a 14 * IntKind.i64.wrap (b 10 + b 28))) + IntKind.i64.wrap (a 13 * IntKind.i64.wrap (b 19 + b 25))) + IntKind.i64.wrap (a 14 * IntKind.i64.wrap (b 13 + b 31)))))
theorem evg28   (xx : (aCons (pC (cA .i64 15)) (aOne (pC (cA .i64 33)))).T) : evF (R := (rTup (cCons (cI .i64) (cOne (cI .i64)))).T) (cx [] [] []) 1000 Tryd.f28 ((aCons (pC (cA .i64 15)) (aOne (pC (cA .i64 33)))).enc gG xx) (glMem gl) 2 (rTup (cCons (cI .i64) (cOne (cI .i64)))).dec =
 (fun (a : Nat → Int) (b : Nat → Int) =>
 (( some ((IntKind.i64.wrap (IntKind.i64.wrap (IntKind.i64.wrap (IntKind.i64.wrap (IntKind.i64.wrap (IntKind.i64.wrap (a 11 * IntKind.i64.wrap (b 0 + b 3)) + IntKind.i64.wrap (a 12 * IntKind.i64.wrap (b 3 + b 6))) + IntKind.i64.wrap (a 13 * IntKind.i64.wrap (b 15 + b 21))) + IntKind.i64.wrap (a 14 * IntKind.i64.wrap (b 9 + b 27))) + IntKind.i64.wrap (a 13 * IntKind.i64.wrap (b 18 + b 24))) + IntKind.i64.wrap (a 14 * IntKind.i64.wrap (b 12 + b 30))), IntKind.i64.wrap (IntKind.i64.wrap (IntKind.i64.wrap (IntKind.i64.wrap (IntKind.i64.wrap (IntKind.i64.wrap (a 11 * IntKind.i64.wrap (b 1 + b 4)) + IntKind.i64.wrap (a 12 * IntKind.i64.wrap (b 4 + b 7))) + IntKind.i64.wrap (a 13 * IntKind.i64.wrap (b 16 + b 22))) + IntKind.i64.wrap (a 14 * IntKind.i64.wrap (b 10 + b 28))) + IntKind.i64.wrap (a 13 * IntKind.i64.wrap (b 19 + b 25))) + IntKind.i64.wrap (a 14 * IntKind.i64.wrap (b 13 + b 31)))))) : Option (Int × Int))) xx.1 xx.2 := by kernel_rfl
theorem ev28 (a : (aCons (pC (cA .i64 15)) (aOne (pC (cA .i64 33)))).T) : evF (R := (rTup (cCons (cI .i64) (cOne (cI .i64)))).T) (cx [] [] []) 1000 Tryd.f28 ((aCons (pC (cA .i64 15)) (aOne (pC (cA .i64 33)))).enc gG a) (glMem gl) 2 (rTup (cCons (cI .i64) (cOne (cI .i64)))).dec = f28 a.1 a.2 := evg28   a
theorem sp28 : VE.Spec Tryd.prog gG gl 28 (conF (aCons (pC (cA .i64 15)) (aOne (pC (cA .i64 33)))) (rTup (cCons (cI .i64) (cOne (cI .i64)))) (fun a => f28 a.1 a.2)) := spec_of ok28 Tryd.func28 Tryd.call28 (lpAll_nil rfl) 1000 (aCons_ok (pC_ok (cA_ok _ _)) (aOne_ok (pC_ok (cA_ok _ _)))) (rTup_ok (cCons_ok (cI_ok _) (cOne_ok (cI_ok _)))) ev28

/-- dancestudioref21.Center -/
theorem ok11 : CtxOK Tryd.prog (cx [] [(26, conF (aCons (pC (cA .i64 15)) (aCons (pC (cA .i64 22)) (aOne (pC (cI .i64))))) (rTup (cCons (cA .i64 33) (cOne (cI .i64)))) (fun a => f26 (a.1) (a.2.1) (a.2.2))), (27, conF (aOne (pC (cA .i64 15))) (rTup (cCons (cI .i64) (cOne (cI .i64)))) (fun a => f27 a)), (28, conF (aCons (pC (cA .i64 15)) (aOne (pC (cA .i64 33)))) (rTup (cCons (cI .i64) (cOne (cI .i64)))) (fun a => f28 (a.1) (a.2))), (29, conF (aCons (pC (cI .i64)) (aOne (pC (cI .i64)))) (rTup (cCons (cI .i64) (cOne (cI .i64)))) (fun a => f29 (a.1) (a.2)))] []) gl := ctx_of tyOk moOk (show SpecL Tryd.prog gG gl [(26, conF (aCons (pC (cA .i64 15)) (aCons (pC (cA .i64 22)) (aOne (pC (cI .i64))))) (rTup (cCons (cA .i64 33) (cOne (cI .i64)))) (fun a => f26 (a.1) (a.2.1) (a.2.2))), (27, conF (aOne (pC (cA .i64 15))) (rTup (cCons (cI .i64) (cOne (cI .i64)))) (fun a => f27 a)), (28, conF (aCons (pC (cA .i64 15)) (aOne (pC (cA .i64 33)))) (rTup (cCons (cI .i64) (cOne (cI .i64)))) (fun a => f28 (a.1) (a.2))), (29, conF (aCons (pC (cI .i64)) (aOne (pC (cI .i64)))) (rTup (cCons (cI .i64) (cOne (cI .i64)))) (fun a => f29 (a.1) (a.2)))] from ⟨sp26, sp27, sp28, sp29, trivial⟩) (show FnL Tryd.prog [] from trivial) (fnLp_nil _) joinOk
noncomputable def f11 (a : Nat → Int) (b : Nat → Int) (c : Int) : Option ((Nat → Int) × Int) :=
 Option.bind (f26 a b c) (fun r3 =>
 cond (!decide (r3.snd = 0)) (
 some ((nthI [0, 0], r3.snd))) (
 Option.bind (f27 a) (fun r4 =>
 Option.bind (f28 a r3.fst) (fun r5 =>
 Option.bind (f29 r5.fst (IntKind.i64.wrap (2 * r4.fst))) (fun r6 =>
 Option.bind (f29 r5.snd (IntKind.i64.wrap (2 * r4.fst))) (fun r7 =>
 some ((nthI [r6.fst, r7.fst], 0))))))))
theorem evg11 (f26 : (Nat → Int) → (Nat → Int) → (Int) → Option ((Nat → Int) × Int)) (f27 : (Nat → Int) → Option (Int × Int)) (f28 : (Nat → Int) → (Nat → Int) → Option (Int × Int)) (f29 : (Int) → (Int) → Option (Int × Int))  (xx : (aCons (pC (cA .i64 15)) (aCons (pC (cA .i64 22)) (aOne (pC (cI .i64))))).T) : evF (R := (rTup (cCons (cA .i64 2) (cOne (cI .i64)))).T) (cx [] [(26, conF (aCons (pC (cA .i64 15)) (aCons (pC (cA .i64 22)) (aOne (pC (cI .i64))))) (rTup (cCons (cA .i64 33) (cOne (cI .i64)))) (fun a => f26 (a.1) (a.2.1) (a.2.2))), (27, conF (aOne (pC (cA .i64 15))) (rTup (cCons (cI .i64) (cOne (cI .i64)))) (fun a => f27 a)), (28, conF (aCons (pC (cA .i64 15)) (aOne (pC (cA .i64 33)))) (rTup (cCons (cI .i64) (cOne (cI .i64)))) (fun a => f28 (a.1) (a.2))), (29, conF (aCons (pC (cI .i64)) (aOne (pC (cI .i64)))) (rTup (cCons (cI .i64) (cOne (cI .i64)))) (fun a => f29 (a.1) (a.2)))] []) 1000 Tryd.f11 ((aCons (pC (cA .i64 15)) (aCons (pC (cA .i64 22)) (aOne (pC (cI .i64))))).enc gG xx) (glMem gl) 2 (rTup (cCons (cA .i64 2) (cOne (cI .i64)))).dec =
 (fun (a : Nat → Int) (b : Nat → Int) (c : Int) =>
 (( Option.bind (f26 (nthI [a 0, a 1, a 2, a 3, a 4, a 5, a 6, a 7, a 8, a 9, a 10, a 11, a 12, a 13, a 14]) (nthI [b 0, b 1, b 2, b 3, b 4, b 5, b 6, b 7, b 8, b 9, b 10, b 11, b 12, b 13, b 14, b 15, b 16, b 17, b 18, b 19, b 20, b 21]) c) (fun r3 =>
 cond (!decide (r3.snd = 0)) (
 some ((nthI [0, 0], r3.snd))) (
 Option.bind (f27 (nthI [a 0, a 1, a 2, a 3, a 4, a 5, a 6, a 7, a 8, a 9, a 10, a 11, a 12, a 13, a 14])) (fun r4 =>
 Option.bind (f28 (nthI [a 0, a 1, a 2, a 3, a 4, a 5, a 6, a 7, a 8, a 9, a 10, a 11, a 12, a 13, a 14]) (nthI [r3.fst 0, r3.fst 1, r3.fst 2, r3.fst 3, r3.fst 4, r3.fst 5, r3.fst 6, r3.fst 7, r3.fst 8, r3.fst 9, r3.fst 10, r3.fst 11, r3.fst 12, r3.fst 13, r3.fst 14, r3.fst 15, r3.fst 16, r3.fst 17, r3.fst 18, r3.fst 19, r3.fst 20, r3.fst 21, r3.fst 22, r3.fst 23, r3.fst 24, r3.fst 25, r3.fst 26, r3.fst 27, r3.fst 28, r3.fst 29, r3.fst 30, r3.fst 31, r3.fst 32])) (fun r5 =>
 Option.bind (f29 r5.fst (IntKind.i64.wrap (2 * r4.fst))) (fun r6 =>
 Option.bind (f29 r5.snd (IntKind.i64.wrap (2 * r4.fst))) (fun r7 =>
 some ((nthI [r6.fst, r7.fst], 0))))))))) : Option ((Nat → Int) × Int))) xx.1 xx.2.1 xx.2.2 := by kernel_rfl
noncomputable def g11 (a : Nat → Int) (b : Nat → Int) (c : Int) : Option ((Nat → Int) × Int) :=
 Option.bind (f26 (nthI [a 0, a 1, a 2, a 3, a 4, a 5, a 6, a 7, a 8, a 9, a 10, a 11, a 12, a 13, a 14]) (nthI [b 0, b 1, b 2, b 3, b 4, b 5, b 6, b 7, b 8, b 9, b 10, b 11, b 12, b 13, b 14, b 15, b 16, b 17, b 18, b 19, b 20, b 21]) c) (fun r3 =>
 cond (!decide (r3.snd = 0)) (
 some ((nthI [0, 0], r3.snd))) (
 Option.bind (f27 (nthI [a 0, a 1, a 2, a 3, a 4, a 5, a 6, a 7, a 8, a 9, a 10, a 11, a 12, a 13, a 14])) (fun r4 =>
 Option.bind (f28 (nthI [a 0, a 1, a 2, a 3, a 4, a 5, a 6, a 7, a 8, a 9, a 10, a 11, a 12, a 13, a 14]) (nthI [r3.fst 0, r3.fst 1, r3.fst 2, r3.fst 3, r3.fst 4, r3.fst 5, r3.fst 6, r3.fst 7, r3.fst 8, r3.fst 9, r3.fst 10, r3.fst 11, r3.fst 12, r3.fst 13, r3.fst 14, r3.fst 15, r3.fst 16, r3.fst 17, r3.fst 18, r3.fst 19, r3.fst 20, r3.fst 21, r3.fst 22, r3.fst 23, r3.fst 24, r3.fst 25, r3.fst 26, r3.fst 27, r3.fst 28, r3.fst 29, r3.fst 30, r3.fst 31, r3.fst 32])) (fun r5 =>
 Option.bind (f29 r5.fst (IntKind.i64.wrap (2 * r4.fst))) (fun r6 =>
 Option.bind (f29 r5.snd (IntKind.i64.wrap (2 * r4.fst))) (fun r7 =>
 some ((nthI [r6.fst, r7.fst], 0))))))))
theorem fg11 (a : Nat → Int) (b : Nat → Int) (c : Int) : g11 a b c = f11 a b c := by kernel_rfl
theorem ev11 (a : (aCons (pC (cA .i64 15)) (aCons (pC (cA .i64 22)) (aOne (pC (cI .i64))))).T) : evF (R := (rTup (cCons (cA .i64 2) (cOne (cI .i64)))).T) (cx [] [(26, conF (aCons (pC (cA .i64 15)) (aCons (pC (cA .i64 22)) (aOne (pC (cI .i64))))) (rTup (cCons (cA .i64 33) (cOne (cI .i64)))) (fun a => f26 (a.1) (a.2.1) (a.2.2))), (27, conF (aOne (pC (cA .i64 15))) (rTup (cCons (cI .i64) (cOne (cI .i64)))) (fun a => f27 a)), (28, conF (aCons (pC (cA .i64 15)) (aOne (pC (cA .i64 33)))) (rTup (cCons (cI .i64) (cOne (cI .i64)))) (fun a => f28 (a.1) (a.2))), (29, conF (aCons (pC (cI .i64)) (aOne (pC (cI .i64)))) (rTup (cCons (cI .i64) (cOne (cI .i64)))) (fun a => f29 (a.1) (a.2)))] []) 1000 Tryd.f11 ((aCons (pC (cA .i64 15)) (aCons (pC (cA .i64 22)) (aOne (pC (cI .i64))))).enc gG a) (glMem gl) 2 (rTup (cCons (cA .i64 2) (cOne (cI .i64)))).dec = f11 a.1 a.2.1 a.2.2 := (show evF (R := (rTup (cCons (cA .i64 2) (cOne (cI .i64)))).T) (cx [] [(26, conF (aCons (pC (cA .i64 15)) (aCons (pC (cA .i64 22)) (aOne (pC (cI .i64))))) (rTup (cCons (cA .i64 33) (cOne (cI .i64)))) (fun a => f26 (a.1) (a.2.1) (a.2.2))), (27, conF (aOne (pC (cA .i64 15))) (rTup (cCons (cI .i64) (cOne (cI .i64)))) (fun a => f27 a)), (28, conF (aCons (pC (cA .i64 15)) (aOne (pC (cA .i64 33)))) (rTup (cCons (cI .i64) (cOne (cI .i64)))) (fun a => f28 (a.1) (a.2))), (29, conF (aCons (pC (cI .i64)) (aOne (pC (cI .i64)))) (rTup (cCons (cI .i64) (cOne (cI .i64)))) (fun a => f29 (a.1) (a.2)))] []) 1000 Tryd.f11 ((aCons (pC (cA .i64 15)) (aCons (pC (cA .i64 22)) (aOne (pC (cI .i64))))).enc gG a) (glMem gl) 2 (rTup (cCons (cA .i64 2) (cOne (cI .i64)))).dec = g11 a.1 a.2.1 a.2.2 from evg11 f26 f27 f28 f29  a).trans (fg11 a.1 a.2.1 a.2.2)
theorem sp11 : VE.Spec Tryd.prog gG gl 11 (conF (aCons (pC (cA .i64 15)) (aCons (pC (cA .i64 22)) (aOne (pC (cI .i64))))) (rTup (cCons (cA .i64 2) (cOne (cI .i64)))) (fun a => f11 a.1 a.2.1 a.2.2)) := spec_of ok11 Tryd.func11 Tryd.call11 (lpAll_nil rfl) 1000 (aCons_ok (pC_ok (cA_ok _ _)) (aCons_ok (pC_ok (cA_ok _ _)) (aOne_ok (pC_ok (cI_ok _))))) (rTup_ok (cCons_ok (cA_ok _ _) (cOne_ok (cI_ok _)))) ev11

/-- num.abs -/
theorem ok100 : CtxOK Tryd.prog (cx [] [] []) gl := ctx_of tyOk moOk (show SpecL Tryd.prog gG gl [] from trivial) (show FnL Tryd.prog [] from trivial) (fnLp_nil _) joinOk
noncomputable def f100 (a : Int) : Option (Int) :=
 some (maxI a (IntKind.i64.wrap (0 - a)))
theorem evg100   (xx : (aOne (pC (cI .i64))).T) : evF (R := (rOne (cI .i64)).T) (cx [] [] []) 1000 Tryd.f100 ((aOne (pC (cI .i64))).enc gG xx) (glMem gl) 2 (rOne (cI .i64)).dec =
 (fun (a : Int) =>
 (( some (maxI a (IntKind.i64.wrap (0 - a)))) : Option (Int))) xx := by kernel_rfl
theorem ev100 (a : (aOne (pC (cI .i64))).T) : evF (R := (rOne (cI .i64)).T) (cx [] [] []) 1000 Tryd.f100 ((aOne (pC (cI .i64))).enc gG a) (glMem gl) 2 (rOne (cI .i64)).dec = f100 a := evg100   a
theorem sp100 : VE.Spec Tryd.prog gG gl 100 (conF (aOne (pC (cI .i64))) (rOne (cI .i64)) (fun a => f100 a)) := spec_of ok100 Tryd.func100 Tryd.call100 (lpAll_nil rfl) 1000 (aOne_ok (pC_ok (cI_ok _))) (rOne_ok (cI_ok _)) ev100

/-- num.times -/
theorem ok93 : CtxOK Tryd.prog (cx [] [(100, conF (aOne (pC (cI .i64))) (rOne (cI .i64)) (fun a => f100 a))] []) gl := ctx_of tyOk moOk (show SpecL Tryd.prog gG gl [(100, conF (aOne (pC (cI .i64))) (rOne (cI .i64)) (fun a => f100 a))] from ⟨sp100, trivial⟩) (show FnL Tryd.prog [] from trivial) (fnLp_nil _) joinOk
noncomputable def f93 (a : Int) (b : Int) : Option ((Nat → Int)) :=
 Option.bind (f100 a) (fun r2 =>
 Option.bind (f100 b) (fun r3 =>
 cond (decide (r2 = 0)) (
 some (nthI [0, 0, 0])) (
 cond (decide (r3 = 0)) (
 some (nthI [0, 0, 0])) (
 cond (!decide (a < 0) == decide (b < 0)) (
 some (nthI [-1, IntKind.i64.wrap (IntKind.i64.wrap (IntKind.i64.wrap (IntKind.i64.wrap (r2.tdiv 33554432) * IntKind.i64.wrap (r3.tdiv 33554432)) + IntKind.i64.wrap ((IntKind.i64.wrap (IntKind.i64.wrap (IntKind.i64.wrap (r2.tdiv 33554432) * r3.tmod 33554432) + IntKind.i64.wrap (r2.tmod 33554432 * IntKind.i64.wrap (r3.tdiv 33554432)))).tdiv 33554432)) + IntKind.i64.wrap ((IntKind.i64.wrap (IntKind.i64.wrap (r2.tmod 33554432 * r3.tmod 33554432) + IntKind.i64.wrap ((IntKind.i64.wrap (IntKind.i64.wrap (IntKind.i64.wrap (r2.tdiv 33554432) * r3.tmod 33554432) + IntKind.i64.wrap (r2.tmod 33554432 * IntKind.i64.wrap (r3.tdiv 33554432)))).tmod 33554432 * 33554432))).tdiv 1125899906842624)), (IntKind.i64.wrap (IntKind.i64.wrap (r2.tmod 33554432 * r3.tmod 33554432) + IntKind.i64.wrap ((IntKind.i64.wrap (IntKind.i64.wrap (IntKind.i64.wrap (r2.tdiv 33554432) * r3.tmod 33554432) + IntKind.i64.wrap (r2.tmod 33554432 * IntKind.i64.wrap (r3.tdiv 33554432)))).tmod 33554432 * 33554432))).tmod 1125899906842624])) (
 some (nthI [1, IntKind.i64.wrap (IntKind.i64.wrap (IntKind.i64.wrap (IntKind.i64.wrap (r2.tdiv 33554432) * IntKind.i64.wrap (r3.tdiv 33554432)) + IntKind.i64.wrap ((IntKind.i64.wrap (IntKind.i64.wrap (IntKind.i64.wrap (r2.tdiv 33554432) * r3.tmod 33554432) + IntKind.i64.wrap (r2.tmod 33554432 * IntKind.i64.wrap (r3.tdiv 33554432)))).tdiv 33554432)) + IntKind.i64.wrap ((IntKind.i64.wrap (IntKind.i64.wrap (r2.tmod 33554432 * r3.tmod 33554432) + IntKind.i64.wrap ((IntKind.i64.wrap (IntKind.i64.wrap (IntKind.i64.wrap (r2.tdiv 33554432) * r3.tmod 33554432) + IntKind.i64.wrap (r2.tmod 33554432 * IntKind.i64.wrap (r3.tdiv 33554432)))).tmod 33554432 * 33554432))).tdiv 1125899906842624)), (IntKind.i64.wrap (IntKind.i64.wrap (r2.tmod 33554432 * r3.tmod 33554432) + IntKind.i64.wrap ((IntKind.i64.wrap (IntKind.i64.wrap (IntKind.i64.wrap (r2.tdiv 33554432) * r3.tmod 33554432) + IntKind.i64.wrap (r2.tmod 33554432 * IntKind.i64.wrap (r3.tdiv 33554432)))).tmod 33554432 * 33554432))).tmod 1125899906842624]))))))
theorem evg93 (f100 : (Int) → Option (Int))  (xx : (aCons (pC (cI .i64)) (aOne (pC (cI .i64)))).T) : evF (R := (rOne (cA .i64 3)).T) (cx [] [(100, conF (aOne (pC (cI .i64))) (rOne (cI .i64)) (fun a => f100 a))] []) 1000 Tryd.f93 ((aCons (pC (cI .i64)) (aOne (pC (cI .i64)))).enc gG xx) (glMem gl) 2 (rOne (cA .i64 3)).dec =
 (fun (a : Int) (b : Int) =>
 (( Option.bind (f100 a) (fun r2 =>
 Option.bind (f100 b) (fun r3 =>
 cond (decide (r2 = 0)) (
 some (nthI [0, 0, 0])) (
 cond (decide (r3 = 0)) (
 some (nthI [0, 0, 0])) (
 cond (!decide (a < 0) == decide (b < 0)) (
 some (nthI [-1, IntKind.i64.wrap (IntKind.i64.wrap (IntKind.i64.wrap (IntKind.i64.wrap (r2.tdiv 33554432) * IntKind.i64.wrap (r3.tdiv 33554432)) + IntKind.i64.wrap ((IntKind.i64.wrap (IntKind.i64.wrap (IntKind.i64.wrap (r2.tdiv 33554432) * r3.tmod 33554432) + IntKind.i64.wrap (r2.tmod 33554432 * IntKind.i64.wrap (r3.tdiv 33554432)))).tdiv 33554432)) + IntKind.i64.wrap ((IntKind.i64.wrap (IntKind.i64.wrap (r2.tmod 33554432 * r3.tmod 33554432) + IntKind.i64.wrap ((IntKind.i64.wrap (IntKind.i64.wrap (IntKind.i64.wrap (r2.tdiv 33554432) * r3.tmod 33554432) + IntKind.i64.wrap (r2.tmod 33554432 * IntKind.i64.wrap (r3.tdiv 33554432)))).tmod 33554432 * 33554432))).tdiv 1125899906842624)), (IntKind.i64.wrap (IntKind.i64.wrap (r2.tmod 33554432 * r3.tmod 33554432) + IntKind.i64.wrap ((IntKind.i64.wrap (IntKind.i64.wrap (IntKind.i64.wrap (r2.tdiv 33554432) * r3.tmod 33554432) + IntKind.i64.wrap (r2.tmod 33554432 * IntKind.i64.wrap (r3.tdiv 33554432)))).tmod 33554432 * 33554432))).tmod 1125899906842624])) (
 some (nthI [1, IntKind.i64.wrap (IntKind.i64.wrap (IntKind.i64.wrap (IntKind.i64.wrap (r2.tdiv 33554432) * IntKind.i64.wrap (r3.tdiv 33554432)) + IntKind.i64.wrap ((IntKind.i64.wrap (IntKind.i64.wrap (IntKind.i64.wrap (r2.tdiv 33554432) * r3.tmod 33554432) + IntKind.i64.wrap (r2.tmod 33554432 * IntKind.i64.wrap (r3.tdiv 33554432)))).tdiv 33554432)) + IntKind.i64.wrap ((IntKind.i64.wrap (IntKind.i64.wrap (r2.tmod 33554432 * r3.tmod 33554432) + IntKind.i64.wrap ((IntKind.i64.wrap (IntKind.i64.wrap (IntKind.i64.wrap (r2.tdiv 33554432) * r3.tmod 33554432) + IntKind.i64.wrap (r2.tmod 33554432 * IntKind.i64.wrap (r3.tdiv 33554432)))).tmod 33554432 * 33554432))).tdiv 1125899906842624)), (IntKind.i64.wrap (IntKind.i64.wrap (r2.tmod 33554432 * r3.tmod 33554432) + IntKind.i64.wrap ((IntKind.i64.wrap (IntKind.i64.wrap (IntKind.i64.wrap (r2.tdiv 33554432) * r3.tmod 33554432) + IntKind.i64.wrap (r2.tmod 33554432 * IntKind.i64.wrap (r3.tdiv 33554432)))).tmod 33554432 * 33554432))).tmod 1125899906842624]))))))) : Option ((Nat → Int)))) xx.1 xx.2 := by kernel_rfl
theorem ev93 (a : (aCons (pC (cI .i64)) (aOne (pC (cI .i64)))).T) : evF (R := (rOne (cA .i64 3)).T) (cx [] [(100, conF (aOne (pC (cI .i64))) (rOne (cI .i64)) (fun a => f100 a))] []) 1000 Tryd.f93 ((aCons (pC (cI .i64)) (aOne (pC (cI .i64)))).enc gG a) (glMem gl) 2 (rOne (cA .i64 3)).dec = f93 a.1 a.2 := evg93 f100  a
theorem sp93 : VE.Spec Tryd.prog gG gl 93 (conF (aCons (pC (cI .i64)) (aOne (pC (cI .i64)))) (rOne (cA .i64 3)) (fun a => f93 a.1 a.2)) := spec_of ok93 Tryd.func93 Tryd.call93 (lpAll_nil rfl) 1000 (aCons_ok (pC_ok (cI_ok _)) (aOne_ok (pC_ok (cI_ok _)))) (rOne_ok (cA_ok _ _)) ev93

/-- num.order -/
theorem ok94 : CtxOK Tryd.prog (cx [] [] []) gl := ctx_of tyOk moOk (show SpecL Tryd.prog gG gl [] from trivial) (show FnL Tryd.prog [] from trivial) (fnLp_nil _) joinOk
noncomputable def f94 (a : Int) (b : Int) : Option (Int) :=
 cond (decide (a < b)) (
 some (-1)) (
 cond (decide (b < a)) (
 some (1)) (
 some (0)))
theorem evg94   (xx : (aCons (pC (cI .i64)) (aOne (pC (cI .i64)))).T) : evF (R := (rOne (cI .i64)).T) (cx [] [] []) 1000 Tryd.f94 ((aCons (pC (cI .i64)) (aOne (pC (cI .i64)))).enc gG xx) (glMem gl) 2 (rOne (cI .i64)).dec =
 (fun (a : Int) (b : Int) =>
 (( cond (decide (a < b)) (
 some (-1)) (
 cond (decide (b < a)) (
 some (1)) (
 some (0)))) : Option (Int))) xx.1 xx.2 := by kernel_rfl
theorem ev94 (a : (aCons (pC (cI .i64)) (aOne (pC (cI .i64)))).T) : evF (R := (rOne (cI .i64)).T) (cx [] [] []) 1000 Tryd.f94 ((aCons (pC (cI .i64)) (aOne (pC (cI .i64)))).enc gG a) (glMem gl) 2 (rOne (cI .i64)).dec = f94 a.1 a.2 := evg94   a
theorem sp94 : VE.Spec Tryd.prog gG gl 94 (conF (aCons (pC (cI .i64)) (aOne (pC (cI .i64)))) (rOne (cI .i64)) (fun a => f94 a.1 a.2)) := spec_of ok94 Tryd.func94 Tryd.call94 (lpAll_nil rfl) 1000 (aCons_ok (pC_ok (cI_ok _)) (aOne_ok (pC_ok (cI_ok _)))) (rOne_ok (cI_ok _)) ev94
end Go.Proofs.YtggiamcgkiaicaaDoor
