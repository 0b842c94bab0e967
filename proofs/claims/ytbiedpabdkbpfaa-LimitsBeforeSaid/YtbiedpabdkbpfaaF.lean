/-
  THE CONTRACTS of this program's functions: what each answers, as a plain function, by its evaluation.
-/
import Derived.Test.YtbiedpabdkbpfaaVEo
import Derived.Test.YtbiedpabdkbpfaaChecked
open Go Go.VE Go.Proofs
set_option maxRecDepth 1000000
set_option maxHeartbeats 0
set_option linter.unusedVariables false
namespace Go.Proofs.Ytbiedpabdkbpfaa
def tyL : List (TypeId × TyI) := [
 (3, ⟨.int .i64, 1, [.int .i64 0]⟩),
 (4, ⟨.bool, 1, [.bool false]⟩),
 (23, ⟨.struct [(3, 0), (3, 1), (3, 2), (3, 3), (3, 4), (3, 5)], 6, [.int .i64 0, .int .i64 0, .int .i64 0, .int .i64 0, .int .i64 0, .int .i64 0]⟩),
 (24, ⟨.array 6 23, 36, [.int .i64 0, .int .i64 0, .int .i64 0, .int .i64 0, .int .i64 0, .int .i64 0, .int .i64 0, .int .i64 0, .int .i64 0, .int .i64 0, .int .i64 0, .int .i64 0, .int .i64 0, .int .i64 0, .int .i64 0, .int .i64 0, .int .i64 0, .int .i64 0, .int .i64 0, .int .i64 0, .int .i64 0, .int .i64 0, .int .i64 0, .int .i64 0, .int .i64 0, .int .i64 0, .int .i64 0, .int .i64 0, .int .i64 0, .int .i64 0, .int .i64 0, .int .i64 0, .int .i64 0, .int .i64 0, .int .i64 0, .int .i64 0]⟩),
 (26, ⟨.struct [(24, 0), (4, 36), (4, 37), (3, 38), (3, 39)], 40, [.int .i64 0, .int .i64 0, .int .i64 0, .int .i64 0, .int .i64 0, .int .i64 0, .int .i64 0, .int .i64 0, .int .i64 0, .int .i64 0, .int .i64 0, .int .i64 0, .int .i64 0, .int .i64 0, .int .i64 0, .int .i64 0, .int .i64 0, .int .i64 0, .int .i64 0, .int .i64 0, .int .i64 0, .int .i64 0, .int .i64 0, .int .i64 0, .int .i64 0, .int .i64 0, .int .i64 0, .int .i64 0, .int .i64 0, .int .i64 0, .int .i64 0, .int .i64 0, .int .i64 0, .int .i64 0, .int .i64 0, .int .i64 0, .bool false, .bool false, .int .i64 0, .int .i64 0]⟩),
 (27, ⟨.int .i64, 1, [.int .i64 0]⟩),
 (34, ⟨.struct [(3, 0), (3, 1), (3, 2)], 3, [.int .i64 0, .int .i64 0, .int .i64 0]⟩),
 (41, ⟨.struct [(3, 0), (34, 1)], 4, [.int .i64 0, .int .i64 0, .int .i64 0, .int .i64 0]⟩),
 (45, ⟨.slice 59, 1, [.nils]⟩),
 (46, ⟨.slice 3, 1, [.nils]⟩),
 (48, ⟨.struct [(45, 0), (46, 1)], 2, [.nils, .nils]⟩),
 (51, ⟨.struct [(27, 0), (3, 1), (3, 2)], 3, [.int .i64 0, .int .i64 0, .int .i64 0]⟩),
 (56, ⟨.struct [(3, 0), (3, 1)], 2, [.int .i64 0, .int .i64 0]⟩),
 (57, ⟨.array 6 34, 18, [.int .i64 0, .int .i64 0, .int .i64 0, .int .i64 0, .int .i64 0, .int .i64 0, .int .i64 0, .int .i64 0, .int .i64 0, .int .i64 0, .int .i64 0, .int .i64 0, .int .i64 0, .int .i64 0, .int .i64 0, .int .i64 0, .int .i64 0, .int .i64 0]⟩),
 (59, ⟨.struct [(56, 0), (3, 2), (3, 3), (57, 4)], 22, [.int .i64 0, .int .i64 0, .int .i64 0, .int .i64 0, .int .i64 0, .int .i64 0, .int .i64 0, .int .i64 0, .int .i64 0, .int .i64 0, .int .i64 0, .int .i64 0, .int .i64 0, .int .i64 0, .int .i64 0, .int .i64 0, .int .i64 0, .int .i64 0, .int .i64 0, .int .i64 0, .int .i64 0, .int .i64 0]⟩)]
def gl : List (Nat × List AV) := []
def gG : Nat := 0
def kx3 : List (Option IntKind) := [some .i64]
def kx4 : List (Option IntKind) := [none]
def kx23 : List (Option IntKind) := [some .i64, some .i64, some .i64, some .i64, some .i64, some .i64]
def kx24 : List (Option IntKind) := [some .i64, some .i64, some .i64, some .i64, some .i64, some .i64, some .i64, some .i64, some .i64, some .i64, some .i64, some .i64, some .i64, some .i64, some .i64, some .i64, some .i64, some .i64, some .i64, some .i64, some .i64, some .i64, some .i64, some .i64, some .i64, some .i64, some .i64, some .i64, some .i64, some .i64, some .i64, some .i64, some .i64, some .i64, some .i64, some .i64]
def kx26 : List (Option IntKind) := [some .i64, some .i64, some .i64, some .i64, some .i64, some .i64, some .i64, some .i64, some .i64, some .i64, some .i64, some .i64, some .i64, some .i64, some .i64, some .i64, some .i64, some .i64, some .i64, some .i64, some .i64, some .i64, some .i64, some .i64, some .i64, some .i64, some .i64, some .i64, some .i64, some .i64, some .i64, some .i64, some .i64, some .i64, some .i64, some .i64, none, none, some .i64, some .i64]
def kx27 : List (Option IntKind) := [some .i64]
def kx34 : List (Option IntKind) := [some .i64, some .i64, some .i64]
def kx41 : List (Option IntKind) := [some .i64, some .i64, some .i64, some .i64]
def kx51 : List (Option IntKind) := [some .i64, some .i64, some .i64]
def kx56 : List (Option IntKind) := [some .i64, some .i64]
def kx57 : List (Option IntKind) := [some .i64, some .i64, some .i64, some .i64, some .i64, some .i64, some .i64, some .i64, some .i64, some .i64, some .i64, some .i64, some .i64, some .i64, some .i64, some .i64, some .i64, some .i64]
def kx59 : List (Option IntKind) := [some .i64, some .i64, some .i64, some .i64, some .i64, some .i64, some .i64, some .i64, some .i64, some .i64, some .i64, some .i64, some .i64, some .i64, some .i64, some .i64, some .i64, some .i64, some .i64, some .i64, some .i64, some .i64]
def joins : List (Nat × CodJ) := []
noncomputable abbrev cx (fns : List (Nat × Func)) (con : List (Nat × (List AV → Option ConR))) (lps : List (Nat × LoopC) := []) (jc : Bool := false) : Ctx := { ty := assoc tyL, join := assoc joins, jc := jc, con := assoc con, lp := assoc lps, fns := assoc fns, G := gG }
def tab0 : List Int := [-64, 64, 0, 255, 6, 128, -64, 64, 0, 255, 6, 128, -64, 64, 0, 255, 6, 128, -64, 64, 0, 255, 6, 128, -64, 64, 0, 255, 6, 128, -64, 64, 0, 255, 6, 128, 1, 1, 8192, 128]
theorem tyOk : ∀ t i, assoc tyL t = some i → tyOf Try.prog t = some i := tys_of (by kernel_rfl)
theorem moOk : Try.prog.follows .mixedOrders = true := by kernel_rfl
theorem joinOk : JoinL joins := trivial

/-- limits.Check -/
theorem ok14 : CtxOK Try.prog (cx [] [] []) gl := ctx_of tyOk moOk (show SpecL Try.prog gG gl [] from trivial) (show FnL Try.prog [] from trivial) (fnLp_nil _) joinOk
noncomputable def f14 (a : Nat → Int) : Option (Int) :=
 cond (decide (a 0 < -64)) (
 some (1)) (
 cond (decide (a 1 < a 0)) (
 some (1)) (
 cond (decide (64 < a 1)) (
 some (1)) (
 cond (decide (a 2 < 0)) (
 some (1)) (
 cond (decide (255 < a 2)) (
 some (1)) (
 cond (decide (a 3 < 0)) (
 some (1)) (
 cond (decide (255 < a 3)) (
 some (1)) (
 cond (decide (a 4 < 0)) (
 some (1)) (
 cond (decide (6 < a 4)) (
 some (1)) (
 cond (decide (a 5 < 1)) (
 some (1)) (
 cond (decide (128 < a 5)) (
 some (1)) (
 cond (decide (a 6 < -64)) (
 some (1)) (
 cond (decide (a 7 < a 6)) (
 some (1)) (
 cond (decide (64 < a 7)) (
 some (1)) (
 cond (decide (a 8 < 0)) (
 some (1)) (
 cond (decide (255 < a 8)) (
 some (1)) (
 cond (decide (a 9 < 0)) (
 some (1)) (
 cond (decide (255 < a 9)) (
 some (1)) (
 cond (decide (a 10 < 0)) (
 some (1)) (
 cond (decide (6 < a 10)) (
 some (1)) (
 cond (decide (a 11 < 1)) (
 some (1)) (
 cond (decide (128 < a 11)) (
 some (1)) (
 cond (decide (a 12 < -64)) (
 some (1)) (
 cond (decide (a 13 < a 12)) (
 some (1)) (
 cond (decide (64 < a 13)) (
 some (1)) (
 cond (decide (a 14 < 0)) (
 some (1)) (
 cond (decide (255 < a 14)) (
 some (1)) (
 cond (decide (a 15 < 0)) (
 some (1)) (
 cond (decide (255 < a 15)) (
 some (1)) (
 cond (decide (a 16 < 0)) (
 some (1)) (
 cond (decide (6 < a 16)) (
 some (1)) (
 cond (decide (a 17 < 1)) (
 some (1)) (
 cond (decide (128 < a 17)) (
 some (1)) (
 cond (decide (a 18 < -64)) (
 some (1)) (
 cond (decide (a 19 < a 18)) (
 some (1)) (
 cond (decide (64 < a 19)) (
 some (1)) (
 cond (decide (a 20 < 0)) (
 some (1)) (
 cond (decide (255 < a 20)) (
 some (1)) (
 cond (decide (a 21 < 0)) (
 some (1)) (
 cond (decide (255 < a 21)) (
 some (1)) (
 cond (decide (a 22 < 0)) (
 some (1)) (
 cond (decide (6 < a 22)) (
 some (1)) (
 cond (decide (a 23 < 1)) (
 some (1)) (
 cond (decide (128 < a 23)) (
 some (1)) (
 cond (decide (a 24 < -64)) (
 some (1)) (
 cond (decide (a 25 < a 24)) (
 some (1)) (
 cond (decide (64 < a 25)) (
 some (1)) (
 cond (decide (a 26 < 0)) (
 some (1)) (
 cond (decide (255 < a 26)) (
 some (1)) (
 cond (decide (a 27 < 0)) (
 some (1)) (
 cond (decide (255 < a 27)) (
 some (1)) (
 cond (decide (a 28 < 0)) (
 some (1)) (
 cond (decide (6 < a 28)) (
 some (1)) (
 cond (decide (a 29 < 1)) (
 some (1)) (
 cond (decide (128 < a 29)) (
 some (1)) (
 cond (decide (a 30 < -64)) (
 some (1)) (
 cond (decide (a 31 < a 30)) (
 some (1)) (
 cond (decide (64 < a 31)) (
 some (1)) (
 cond (decide (a 32 < 0)) (
 some (1)) (
 cond (decide (255 < a 32)) (
 some (1)) (
 cond (decide (a 33 < 0)) (
 some (1)) (
 cond (decide (255 < a 33)) (
 some (1)) (
 cond (decide (a 34 < 0)) (
 some (1)) (
 cond (decide (6 < a 34)) (
 some (1)) (
 cond (decide (a 35 < 1)) (
 some (1)) (
 cond (decide (128 < a 35)) (
 some (1)) (
 cond (decide (a 38 < 0)) (
 some (1)) (
 cond (decide (8192 < a 38)) (
 some (1)) (
 cond (decide (a 39 < 1)) (
 some (1)) (
 cond (decide (128 < a 39)) (
 some (1)) (
 some (0)))))))))))))))))))))))))))))))))))))))))))))))))))))))))))))))))))))))
theorem evg14   (xx : (aOne (pC (cX kx26))).T) : evF (R := (rOne (cI .i64)).T) (cx [] [] []) 1000 Try.f14 ((aOne (pC (cX kx26))).enc gG xx) (glMem gl) 0 (rOne (cI .i64)).dec =
 (fun (a : Nat → Int) =>
 (( cond (decide (a 0 < -64)) (
 some (1)) (
 cond (decide (a 1 < a 0)) (
 some (1)) (
 cond (decide (64 < a 1)) (
 some (1)) (
 cond (decide (a 2 < 0)) (
 some (1)) (
 cond (decide (255 < a 2)) (
 some (1)) (
 cond (decide (a 3 < 0)) (
 some (1)) (
 cond (decide (255 < a 3)) (
 some (1)) (
 cond (decide (a 4 < 0)) (
 some (1)) (
 cond (decide (6 < a 4)) (
 some (1)) (
 cond (decide (a 5 < 1)) (
 some (1)) (
 cond (decide (128 < a 5)) (
 some (1)) (
 cond (decide (a 6 < -64)) (
 some (1)) (
 cond (decide (a 7 < a 6)) (
 some (1)) (
 cond (decide (64 < a 7)) (
 some (1)) (
 cond (decide (a 8 < 0)) (
 some (1)) (
 cond (decide (255 < a 8)) (
 some (1)) (
 cond (decide (a 9 < 0)) (
 some (1)) (
 cond (decide (255 < a 9)) (
 some (1)) (
 cond (decide (a 10 < 0)) (
 some (1)) (
 cond (decide (6 < a 10)) (
 some (1)) (
 cond (decide (a 11 < 1)) (
 some (1)) (
 cond (decide (128 < a 11)) (
 some (1)) (
 cond (decide (a 12 < -64)) (
 some (1)) (
 cond (decide (a 13 < a 12)) (
 some (1)) (
 cond (decide (64 < a 13)) (
 some (1)) (
 cond (decide (a 14 < 0)) (
 some (1)) (
 cond (decide (255 < a 14)) (
 some (1)) (
 cond (decide (a 15 < 0)) (
 some (1)) (
 cond (decide (255 < a 15)) (
 some (1)) (
 cond (decide (a 16 < 0)) (
 some (1)) (
 cond (decide (6 < a 16)) (
 some (1)) (
 cond (decide (a 17 < 1)) (
 some (1)) (
 cond (decide (128 < a 17)) (
 some (1)) (
 cond (decide (a 18 < -64)) (
 some (1)) (
 cond (decide (a 19 < a 18)) (
 some (1)) (
 cond (decide (64 < a 19)) (
 some (1)) (
 cond (decide (a 20 < 0)) (
 some (1)) (
 cond (decide (255 < a 20)) (
 some (1)) (
 cond (decide (a 21 < 0)) (
 some (1)) (
 cond (decide (255 < a 21)) (
 some (1)) (
 cond (decide (a 22 < 0)) (
 some (1)) (
 cond (decide (6 < a 22)) (
 some (1)) (
 cond (decide (a 23 < 1)) (
 some (1)) (
 cond (decide (128 < a 23)) (
 some (1)) (
 cond (decide (a 24 < -64)) (
 some (1)) (
 cond (decide (a 25 < a 24)) (
 some (1)) (
 cond (decide (64 < a 25)) (
 some (1)) (
 cond (decide (a 26 < 0)) (
 some (1)) (
 cond (decide (255 < a 26)) (
 some (1)) (
 cond (decide (a 27 < 0)) (
 some (1)) (
 cond (decide (255 < a 27)) (
 some (1)) (
 cond (decide (a 28 < 0)) (
 some (1)) (
 cond (decide (6 < a 28)) (
 some (1)) (
 cond (decide (a 29 < 1)) (
 some (1)) (
 cond (decide (128 < a 29)) (
 some (1)) (
 cond (decide (a 30 < -64)) (
 some (1)) (
 cond (decide (a 31 < a 30)) (
 some (1)) (
 cond (decide (64 < a 31)) (
 some (1)) (
 cond (decide (a 32 < 0)) (
 some (1)) (
 cond (decide (255 < a 32)) (
 some (1)) (
 cond (decide (a 33 < 0)) (
 some (1)) (
 cond (decide (255 < a 33)) (
 some (1)) (
 cond (decide (a 34 < 0)) (
 some (1)) (
 cond (decide (6 < a 34)) (
 some (1)) (
 cond (decide (a 35 < 1)) (
 some (1)) (
 cond (decide (128 < a 35)) (
 some (1)) (
 cond (decide (a 38 < 0)) (
 some (1)) (
 cond (decide (8192 < a 38)) (
 some (1)) (
 cond (decide (a 39 < 1)) (
 some (1)) (
 cond (decide (128 < a 39)) (
 some (1)) (
 some (0)))))))))))))))))))))))))))))))))))))))))))))))))))))))))))))))))))))))) : Option (Int))) xx := by kernel_rfl
theorem ev14 (a : (aOne (pC (cX kx26))).T) : evF (R := (rOne (cI .i64)).T) (cx [] [] []) 1000 Try.f14 ((aOne (pC (cX kx26))).enc gG a) (glMem gl) 0 (rOne (cI .i64)).dec = f14 a := evg14   a
theorem sp14 : VE.Spec Try.prog gG gl 14 (conF (aOne (pC (cX kx26))) (rOne (cI .i64)) (fun a => f14 a)) := spec_of ok14 Try.func14 Try.call14 (lpAll_nil rfl) 1000 (aOne_ok (pC_ok (cX_ok _))) (rOne_ok (cI_ok _)) ev14

/-- angle.Norm -/
theorem ok45 : CtxOK Try.prog (cx [] [] []) gl := ctx_of tyOk moOk (show SpecL Try.prog gG gl [] from trivial) (show FnL Try.prog [] from trivial) (fnLp_nil _) joinOk
noncomputable def f45 (a : Int) : Option (Int) :=
 some ((IntKind.i64.wrap (a.tmod 256 + 256)).tmod 256)
theorem evg45   (xx : (aOne (pC (cI .i64))).T) : evF (R := (rOne (cI .i64)).T) (cx [] [] []) 1000 Try.f45 ((aOne (pC (cI .i64))).enc gG xx) (glMem gl) 0 (rOne (cI .i64)).dec =
 (fun (a : Int) =>
 (( some ((IntKind.i64.wrap (a.tmod 256 + 256)).tmod 256)) : Option (Int))) xx := by kernel_rfl
theorem ev45 (a : (aOne (pC (cI .i64))).T) : evF (R := (rOne (cI .i64)).T) (cx [] [] []) 1000 Try.f45 ((aOne (pC (cI .i64))).enc gG a) (glMem gl) 0 (rOne (cI .i64)).dec = f45 a := evg45   a
theorem sp45 : VE.Spec Try.prog gG gl 45 (conF (aOne (pC (cI .i64))) (rOne (cI .i64)) (fun a => f45 a)) := spec_of ok45 Try.func45 Try.call45 (lpAll_nil rfl) 1000 (aOne_ok (pC_ok (cI_ok _))) (rOne_ok (cI_ok _)) ev45

/-- angle.Mirror -/
theorem ok28 : CtxOK Try.prog (cx [] [(45, conF (aOne (pC (cI .i64))) (rOne (cI .i64)) (fun a => f45 a))] []) gl := ctx_of tyOk moOk (show SpecL Try.prog gG gl [(45, conF (aOne (pC (cI .i64))) (rOne (cI .i64)) (fun a => f45 a))] from ⟨sp45, trivial⟩) (show FnL Try.prog [] from trivial) (fnLp_nil _) joinOk
noncomputable def f28 (a : Int) : Option (Int) :=
 Option.bind (f45 a) (fun r1 =>
 Option.bind (f45 (IntKind.i64.wrap (0 - r1))) (fun r2 =>
 some (r2)))
theorem evg28 (f45 : (Int) → Option (Int))  (xx : (aOne (pC (cI .i64))).T) : evF (R := (rOne (cI .i64)).T) (cx [] [(45, conF (aOne (pC (cI .i64))) (rOne (cI .i64)) (fun a => f45 a))] []) 1000 Try.f28 ((aOne (pC (cI .i64))).enc gG xx) (glMem gl) 0 (rOne (cI .i64)).dec =
 (fun (a : Int) =>
 (( Option.bind (f45 a) (fun r1 =>
 Option.bind (f45 (IntKind.i64.wrap (0 - r1))) (fun r2 =>
 some (r2)))) : Option (Int))) xx := by kernel_rfl
theorem ev28 (a : (aOne (pC (cI .i64))).T) : evF (R := (rOne (cI .i64)).T) (cx [] [(45, conF (aOne (pC (cI .i64))) (rOne (cI .i64)) (fun a => f45 a))] []) 1000 Try.f28 ((aOne (pC (cI .i64))).enc gG a) (glMem gl) 0 (rOne (cI .i64)).dec = f28 a := evg28 f45  a
theorem sp28 : VE.Spec Try.prog gG gl 28 (conF (aOne (pC (cI .i64))) (rOne (cI .i64)) (fun a => f28 a)) := spec_of ok28 Try.func28 Try.call28 (lpAll_nil rfl) 1000 (aOne_ok (pC_ok (cI_ok _))) (rOne_ok (cI_ok _)) ev28

/-- limits.Mirror -/
theorem ok12 : CtxOK Try.prog (cx [(26, Try.f26)] [(14, conF (aOne (pC (cX kx26))) (rOne (cI .i64)) (fun a => f14 a)), (28, conF (aOne (pC (cI .i64))) (rOne (cI .i64)) (fun a => f28 a))] []) gl := ctx_of tyOk moOk (show SpecL Try.prog gG gl [(14, conF (aOne (pC (cX kx26))) (rOne (cI .i64)) (fun a => f14 a)), (28, conF (aOne (pC (cI .i64))) (rOne (cI .i64)) (fun a => f28 a))] from ⟨sp14, sp28, trivial⟩) (show FnL Try.prog [(26, Try.f26)] from ⟨⟨Try.func26, Try.call26⟩, trivial⟩) (fnLp_nil _) joinOk
noncomputable def f12 (a : Nat → Int) : Option ((Nat → Int) × Int) :=
 Option.bind (f14 (nthI [a 0, a 1, a 2, a 3, a 4, a 5, a 6, a 7, a 8, a 9, a 10, a 11, a 12, a 13, a 14, a 15, a 16, a 17, a 18, a 19, a 20, a 21, a 22, a 23, a 24, a 25, a 26, a 27, a 28, a 29, a 30, a 31, a 32, a 33, a 34, a 35, bif !decide (a 36 = 0) then 1 else 0, bif !decide (a 37 = 0) then 1 else 0, a 38, a 39])) (fun r1 =>
 cond (!decide (r1 = 0)) (
 some ((nthI [0, 0, 0, 0, 0, 0, 0, 0, 0, 0, 0, 0, 0, 0, 0, 0, 0, 0, 0, 0, 0, 0, 0, 0, 0, 0, 0, 0, 0, 0, 0, 0, 0, 0, 0, 0, 0, 0, 0, 0], r1))) (
 Option.bind (f28 (IntKind.i64.wrap (a 2 + a 3))) (fun r2 =>
 Option.bind (f28 (IntKind.i64.wrap (a 8 + a 9))) (fun r3 =>
 Option.bind (f28 (IntKind.i64.wrap (a 14 + a 15))) (fun r4 =>
 Option.bind (f28 (IntKind.i64.wrap (a 20 + a 21))) (fun r5 =>
 Option.bind (f28 (IntKind.i64.wrap (a 26 + a 27))) (fun r6 =>
 Option.bind (f28 (IntKind.i64.wrap (a 32 + a 33))) (fun r7 =>
 some ((nthI [a 6, a 7, r3, a 9, a 10, a 11, a 0, a 1, r2, a 3, a 4, a 5, a 12, a 13, r4, a 15, a 16, a 17, a 24, a 25, r6, a 27, a 28, a 29, a 18, a 19, r5, a 21, a 22, a 23, a 30, a 31, r7, a 33, a 34, a 35, bif !decide (a 36 = 0) then 1 else 0, bif !decide (a 37 = 0) then 1 else 0, a 38, a 39], 0))))))))))
theorem evg12 (f14 : (Nat → Int) → Option (Int)) (f28 : (Int) → Option (Int))  (xx : (aOne (pC (cX kx26))).T) : evF (R := (rTup (cCons (cX kx26) (cOne (cI .i64)))).T) (cx [(26, Try.f26)] [(14, conF (aOne (pC (cX kx26))) (rOne (cI .i64)) (fun a => f14 a)), (28, conF (aOne (pC (cI .i64))) (rOne (cI .i64)) (fun a => f28 a))] []) 1000 Try.f12 ((aOne (pC (cX kx26))).enc gG xx) (glMem gl) 0 (rTup (cCons (cX kx26) (cOne (cI .i64)))).dec =
 (fun (a : Nat → Int) =>
 (( Option.bind (f14 (nthI [a 0, a 1, a 2, a 3, a 4, a 5, a 6, a 7, a 8, a 9, a 10, a 11, a 12, a 13, a 14, a 15, a 16, a 17, a 18, a 19, a 20, a 21, a 22, a 23, a 24, a 25, a 26, a 27, a 28, a 29, a 30, a 31, a 32, a 33, a 34, a 35, bif !decide (a 36 = 0) then 1 else 0, bif !decide (a 37 = 0) then 1 else 0, a 38, a 39])) (fun r1 =>
 cond (!decide (r1 = 0)) (
 some ((nthI [0, 0, 0, 0, 0, 0, 0, 0, 0, 0, 0, 0, 0, 0, 0, 0, 0, 0, 0, 0, 0, 0, 0, 0, 0, 0, 0, 0, 0, 0, 0, 0, 0, 0, 0, 0, 0, 0, 0, 0], r1))) (
 Option.bind (f28 (IntKind.i64.wrap (a 2 + a 3))) (fun r2 =>
 Option.bind (f28 (IntKind.i64.wrap (a 8 + a 9))) (fun r3 =>
 Option.bind (f28 (IntKind.i64.wrap (a 14 + a 15))) (fun r4 =>
 Option.bind (f28 (IntKind.i64.wrap (a 20 + a 21))) (fun r5 =>
 Option.bind (f28 (IntKind.i64.wrap (a 26 + a 27))) (fun r6 =>
 Option.bind (f28 (IntKind.i64.wrap (a 32 + a 33))) (fun r7 =>
 some ((nthI [a 6, a 7, r3, a 9, a 10, a 11, a 0, a 1, r2, a 3, a 4, a 5, a 12, a 13, r4, a 15, a 16, a 17, a 24, a 25, r6, a 27, a 28, a 29, a 18, a 19, r5, a 21, a 22, a 23, a 30, a 31, r7, a 33, a 34, a 35, bif !decide (a 36 = 0) then 1 else 0, bif !decide (a 37 = 0) then 1 else 0, a 38, a 39], 0))))))))))) : Option ((Nat → Int) × Int))) xx := by kernel_rfl
theorem ev12 (a : (aOne (pC (cX kx26))).T) : evF (R := (rTup (cCons (cX kx26) (cOne (cI .i64)))).T) (cx [(26, Try.f26)] [(14, conF (aOne (pC (cX kx26))) (rOne (cI .i64)) (fun a => f14 a)), (28, conF (aOne (pC (cI .i64))) (rOne (cI .i64)) (fun a => f28 a))] []) 1000 Try.f12 ((aOne (pC (cX kx26))).enc gG a) (glMem gl) 0 (rTup (cCons (cX kx26) (cOne (cI .i64)))).dec = f12 a := evg12 f14 f28  a
theorem sp12 : VE.Spec Try.prog gG gl 12 (conF (aOne (pC (cX kx26))) (rTup (cCons (cX kx26) (cOne (cI .i64)))) (fun a => f12 a)) := spec_of ok12 Try.func12 Try.call12 (lpAll_nil rfl) 1000 (aOne_ok (pC_ok (cX_ok _))) (rTup_ok (cCons_ok (cX_ok _) (cOne_ok (cI_ok _)))) ev12

/-- dancestudioref22.Check -/
theorem ok15 : CtxOK Try.prog (cx [] [] []) gl := ctx_of tyOk moOk (show SpecL Try.prog gG gl [] from trivial) (show FnL Try.prog [] from trivial) (fnLp_nil _) joinOk
noncomputable def f15 (a : Nat → Int) : Option (Int) :=
 cond (decide (a 0 < -64)) (
 some (1)) (
 cond (decide (a 1 < a 0)) (
 some (1)) (
 cond (decide (64 < a 1)) (
 some (1)) (
 cond (decide (a 2 < 0)) (
 some (1)) (
 cond (decide (255 < a 2)) (
 some (1)) (
 cond (decide (a 3 < 0)) (
 some (1)) (
 cond (decide (255 < a 3)) (
 some (1)) (
 cond (decide (a 4 < 0)) (
 some (1)) (
 cond (decide (6 < a 4)) (
 some (1)) (
 cond (decide (a 5 < 1)) (
 some (1)) (
 cond (decide (128 < a 5)) (
 some (1)) (
 cond (decide (a 6 < -64)) (
 some (1)) (
 cond (decide (a 7 < a 6)) (
 some (1)) (
 cond (decide (64 < a 7)) (
 some (1)) (
 cond (decide (a 8 < 0)) (
 some (1)) (
 cond (decide (255 < a 8)) (
 some (1)) (
 cond (decide (a 9 < 0)) (
 some (1)) (
 cond (decide (255 < a 9)) (
 some (1)) (
 cond (decide (a 10 < 0)) (
 some (1)) (
 cond (decide (6 < a 10)) (
 some (1)) (
 cond (decide (a 11 < 1)) (
 some (1)) (
 cond (decide (128 < a 11)) (
 some (1)) (
 cond (decide (a 12 < -64)) (
 some (1)) (
 cond (decide (a 13 < a 12)) (
 some (1)) (
 cond (decide (64 < a 13)) (
 some (1)) (
 cond (decide (a 14 < 0)) (
 some (1)) (
 cond (decide (255 < a 14)) (
 some (1)) (
 cond (decide (a 15 < 0)) (
 some (1)) (
 cond (decide (255 < a 15)) (
 some (1)) (
 cond (decide (a 16 < 0)) (
 some (1)) (
 cond (decide (6 < a 16)) (
 some (1)) (
 cond (decide (a 17 < 1)) (
 some (1)) (
 cond (decide (128 < a 17)) (
 some (1)) (
 cond (decide (a 18 < -64)) (
 some (1)) (
 cond (decide (a 19 < a 18)) (
 some (1)) (
 cond (decide (64 < a 19)) (
 some (1)) (
 cond (decide (a 20 < 0)) (
 some (1)) (
 cond (decide (255 < a 20)) (
 some (1)) (
 cond (decide (a 21 < 0)) (
 some (1)) (
 cond (decide (255 < a 21)) (
 some (1)) (
 cond (decide (a 22 < 0)) (
 some (1)) (
 cond (decide (6 < a 22)) (
 some (1)) (
 cond (decide (a 23 < 1)) (
 some (1)) (
 cond (decide (128 < a 23)) (
 some (1)) (
 cond (decide (a 24 < -64)) (
 some (1)) (
 cond (decide (a 25 < a 24)) (
 some (1)) (
 cond (decide (64 < a 25)) (
 some (1)) (
 cond (decide (a 26 < 0)) (
 some (1)) (
 cond (decide (255 < a 26)) (
 some (1)) (
 cond (decide (a 27 < 0)) (
 some (1)) (
 cond (decide (255 < a 27)) (
 some (1)) (
 cond (decide (a 28 < 0)) (
 some (1)) (
 cond (decide (6 < a 28)) (
 some (1)) (
 cond (decide (a 29 < 1)) (
 some (1)) (
 cond (decide (128 < a 29)) (
 some (1)) (
 cond (decide (a 30 < -64)) (
 some (1)) (
 cond (decide (a 31 < a 30)) (
 some (1)) (
 cond (decide (64 < a 31)) (
 some (1)) (
 cond (decide (a 32 < 0)) (
 some (1)) (
 cond (decide (255 < a 32)) (
 some (1)) (
 cond (decide (a 33 < 0)) (
 some (1)) (
 cond (decide (255 < a 33)) (
 some (1)) (
 cond (decide (a 34 < 0)) (
 some (1)) (
 cond (decide (6 < a 34)) (
 some (1)) (
 cond (decide (a 35 < 1)) (
 some (1)) (
 cond (decide (128 < a 35)) (
 some (1)) (
 cond (decide (a 38 < 0)) (
 some (1)) (
 cond (decide (8192 < a 38)) (
 some (1)) (
 cond (decide (a 39 < 1)) (
 some (1)) (
 cond (decide (128 < a 39)) (
 some (1)) (
 some (0)))))))))))))))))))))))))))))))))))))))))))))))))))))))))))))))))))))))
theorem evg15   (xx : (aOne (pC (cX kx26))).T) : evF (R := (rOne (cI .i64)).T) (cx [] [] []) 1000 Try.f15 ((aOne (pC (cX kx26))).enc gG xx) (glMem gl) 0 (rOne (cI .i64)).dec =
 (fun (a : Nat → Int) =>
 (( cond (decide (a 0 < -64)) (
 some (1)) (
 cond (decide (a 1 < a 0)) (
 some (1)) (
 cond (decide (64 < a 1)) (
 some (1)) (
 cond (decide (a 2 < 0)) (
 some (1)) (
 cond (decide (255 < a 2)) (
 some (1)) (
 cond (decide (a 3 < 0)) (
 some (1)) (
 cond (decide (255 < a 3)) (
 some (1)) (
 cond (decide (a 4 < 0)) (
 some (1)) (
 cond (decide (6 < a 4)) (
 some (1)) (
 cond (decide (a 5 < 1)) (
 some (1)) (
 cond (decide (128 < a 5)) (
 some (1)) (
 cond (decide (a 6 < -64)) (
 some (1)) (
 cond (decide (a 7 < a 6)) (
 some (1)) (
 cond (decide (64 < a 7)) (
 some (1)) (
 cond (decide (a 8 < 0)) (
 some (1)) (
 cond (decide (255 < a 8)) (
 some (1)) (
 cond (decide (a 9 < 0)) (
 some (1)) (
 cond (decide (255 < a 9)) (
 some (1)) (
 cond (decide (a 10 < 0)) (
 some (1)) (
 cond (decide (6 < a 10)) (
 some (1)) (
 cond (decide (a 11 < 1)) (
 some (1)) (
 cond (decide (128 < a 11)) (
 some (1)) (
 cond (decide (a 12 < -64)) (
 some (1)) (
 cond (decide (a 13 < a 12)) (
 some (1)) (
 cond (decide (64 < a 13)) (
 some (1)) (
 cond (decide (a 14 < 0)) (
 some (1)) (
 cond (decide (255 < a 14)) (
 some (1)) (
 cond (decide (a 15 < 0)) (
 some (1)) (
 cond (decide (255 < a 15)) (
 some (1)) (
 cond (decide (a 16 < 0)) (
 some (1)) (
 cond (decide (6 < a 16)) (
 some (1)) (
 cond (decide (a 17 < 1)) (
 some (1)) (
 cond (decide (128 < a 17)) (
 some (1)) (
 cond (decide (a 18 < -64)) (
 some (1)) (
 cond (decide (a 19 < a 18)) (
 some (1)) (
 cond (decide (64 < a 19)) (
 some (1)) (
 cond (decide (a 20 < 0)) (
 some (1)) (
 cond (decide (255 < a 20)) (
 some (1)) (
 cond (decide (a 21 < 0)) (
 some (1)) (
 cond (decide (255 < a 21)) (
 some (1)) (
 cond (decide (a 22 < 0)) (
 some (1)) (
 cond (decide (6 < a 22)) (
 some (1)) (
 cond (decide (a 23 < 1)) (
 some (1)) (
 cond (decide (128 < a 23)) (
 some (1)) (
 cond (decide (a 24 < -64)) (
 some (1)) (
 cond (decide (a 25 < a 24)) (
 some (1)) (
 cond (decide (64 < a 25)) (
 some (1)) (
 cond (decide (a 26 < 0)) (
 some (1)) (
 cond (decide (255 < a 26)) (
 some (1)) (
 cond (decide (a 27 < 0)) (
 some (1)) (
 cond (decide (255 < a 27)) (
 some (1)) (
 cond (decide (a 28 < 0)) (
 some (1)) (
 cond (decide (6 < a 28)) (
 some (1)) (
 cond (decide (a 29 < 1)) (
 some (1)) (
 cond (decide (128 < a 29)) (
 some (1)) (
 cond (decide (a 30 < -64)) (
 some (1)) (
 cond (decide (a 31 < a 30)) (
 some (1)) (
 cond (decide (64 < a 31)) (
 some (1)) (
 cond (decide (a 32 < 0)) (
 some (1)) (
 cond (decide (255 < a 32)) (
 some (1)) (
 cond (decide (a 33 < 0)) (
 some (1)) (
 cond (decide (255 < a 33)) (
 some (1)) (
 cond (decide (a 34 < 0)) (
 some (1)) (
 cond (decide (6 < a 34)) (
 some (1)) (
 cond (decide (a 35 < 1)) (
 some (1)) (
 cond (decide (128 < a 35)) (
 some (1)) (
 cond (decide (a 38 < 0)) (
 some (1)) (
 cond (decide (8192 < a 38)) (
 some (1)) (
 cond (decide (a 39 < 1)) (
 some (1)) (
 cond (decide (128 < a 39)) (
 some (1)) (
 some (0)))))))))))))))))))))))))))))))))))))))))))))))))))))))))))))))))))))))) : Option (Int))) xx := by kernel_rfl
theorem ev15 (a : (aOne (pC (cX kx26))).T) : evF (R := (rOne (cI .i64)).T) (cx [] [] []) 1000 Try.f15 ((aOne (pC (cX kx26))).enc gG a) (glMem gl) 0 (rOne (cI .i64)).dec = f15 a := evg15   a
theorem sp15 : VE.Spec Try.prog gG gl 15 (conF (aOne (pC (cX kx26))) (rOne (cI .i64)) (fun a => f15 a)) := spec_of ok15 Try.func15 Try.call15 (lpAll_nil rfl) 1000 (aOne_ok (pC_ok (cX_ok _))) (rOne_ok (cI_ok _)) ev15

/-- dancestudioref02.Norm -/
theorem ok30 : CtxOK Try.prog (cx [] [] []) gl := ctx_of tyOk moOk (show SpecL Try.prog gG gl [] from trivial) (show FnL Try.prog [] from trivial) (fnLp_nil _) joinOk
noncomputable def f30 (a : Int) : Option (Int) :=
 cond (decide (a.tmod 256 < 0)) (
 some (IntKind.i64.wrap (a.tmod 256 + 256))) (
 some (a.tmod 256))
theorem evg30   (xx : (aOne (pC (cI .i64))).T) : evF (R := (rOne (cI .i64)).T) (cx [] [] []) 1000 Try.f30 ((aOne (pC (cI .i64))).enc gG xx) (glMem gl) 0 (rOne (cI .i64)).dec =
 (fun (a : Int) =>
 (( cond (decide (a.tmod 256 < 0)) (
 some (IntKind.i64.wrap (a.tmod 256 + 256))) (
 some (a.tmod 256))) : Option (Int))) xx := by kernel_rfl
theorem ev30 (a : (aOne (pC (cI .i64))).T) : evF (R := (rOne (cI .i64)).T) (cx [] [] []) 1000 Try.f30 ((aOne (pC (cI .i64))).enc gG a) (glMem gl) 0 (rOne (cI .i64)).dec = f30 a := evg30   a
theorem sp30 : VE.Spec Try.prog gG gl 30 (conF (aOne (pC (cI .i64))) (rOne (cI .i64)) (fun a => f30 a)) := spec_of ok30 Try.func30 Try.call30 (lpAll_nil rfl) 1000 (aOne_ok (pC_ok (cI_ok _))) (rOne_ok (cI_ok _)) ev30

/-- dancestudioref22.Mirror -/
theorem ok13 : CtxOK Try.prog (cx [(29, Try.f29), (46, Try.f46)] [(15, conF (aOne (pC (cX kx26))) (rOne (cI .i64)) (fun a => f15 a)), (30, conF (aOne (pC (cI .i64))) (rOne (cI .i64)) (fun a => f30 a))] []) gl := ctx_of tyOk moOk (show SpecL Try.prog gG gl [(15, conF (aOne (pC (cX kx26))) (rOne (cI .i64)) (fun a => f15 a)), (30, conF (aOne (pC (cI .i64))) (rOne (cI .i64)) (fun a => f30 a))] from ⟨sp15, sp30, trivial⟩) (show FnL Try.prog [(29, Try.f29), (46, Try.f46)] from ⟨⟨Try.func29, Try.call29⟩, ⟨Try.func46, Try.call46⟩, trivial⟩) (fnLp_nil _) joinOk
noncomputable def f13 (a : Nat → Int) : Option ((Nat → Int) × Int) :=
 Option.bind (f15 (nthI [a 0, a 1, a 2, a 3, a 4, a 5, a 6, a 7, a 8, a 9, a 10, a 11, a 12, a 13, a 14, a 15, a 16, a 17, a 18, a 19, a 20, a 21, a 22, a 23, a 24, a 25, a 26, a 27, a 28, a 29, a 30, a 31, a 32, a 33, a 34, a 35, bif !decide (a 36 = 0) then 1 else 0, bif !decide (a 37 = 0) then 1 else 0, a 38, a 39])) (fun r1 =>
 cond (!decide (r1 = 0)) (
 some ((nthI [0, 0, 0, 0, 0, 0, 0, 0, 0, 0, 0, 0, 0, 0, 0, 0, 0, 0, 0, 0, 0, 0, 0, 0, 0, 0, 0, 0, 0, 0, 0, 0, 0, 0, 0, 0, 0, 0, 0, 0], r1))) (
 Option.bind (f30 (IntKind.i64.wrap (IntKind.i64.wrap (0 - a 8) - a 9))) (fun r2 =>
 Option.bind (f30 (IntKind.i64.wrap (IntKind.i64.wrap (0 - a 2) - a 3))) (fun r3 =>
 Option.bind (f30 (IntKind.i64.wrap (IntKind.i64.wrap (0 - a 14) - a 15))) (fun r4 =>
 Option.bind (f30 (IntKind.i64.wrap (IntKind.i64.wrap (0 - a 26) - a 27))) (fun r5 =>
 Option.bind (f30 (IntKind.i64.wrap (IntKind.i64.wrap (0 - a 20) - a 21))) (fun r6 =>
 Option.bind (f30 (IntKind.i64.wrap (IntKind.i64.wrap (0 - a 32) - a 33))) (fun r7 =>
 some ((nthI [a 6, a 7, r2, a 9, a 10, a 11, a 0, a 1, r3, a 3, a 4, a 5, a 12, a 13, r4, a 15, a 16, a 17, a 24, a 25, r5, a 27, a 28, a 29, a 18, a 19, r6, a 21, a 22, a 23, a 30, a 31, r7, a 33, a 34, a 35, bif !decide (a 36 = 0) then 1 else 0, bif !decide (a 37 = 0) then 1 else 0, a 38, a 39], 0))))))))))
theorem evg13 (f15 : (Nat → Int) → Option (Int)) (f30 : (Int) → Option (Int))  (xx : (aOne (pC (cX kx26))).T) : evF (R := (rTup (cCons (cX kx26) (cOne (cI .i64)))).T) (cx [(29, Try.f29), (46, Try.f46)] [(15, conF (aOne (pC (cX kx26))) (rOne (cI .i64)) (fun a => f15 a)), (30, conF (aOne (pC (cI .i64))) (rOne (cI .i64)) (fun a => f30 a))] []) 1000 Try.f13 ((aOne (pC (cX kx26))).enc gG xx) (glMem gl) 0 (rTup (cCons (cX kx26) (cOne (cI .i64)))).dec =
 (fun (a : Nat → Int) =>
 (( Option.bind (f15 (nthI [a 0, a 1, a 2, a 3, a 4, a 5, a 6, a 7, a 8, a 9, a 10, a 11, a 12, a 13, a 14, a 15, a 16, a 17, a 18, a 19, a 20, a 21, a 22, a 23, a 24, a 25, a 26, a 27, a 28, a 29, a 30, a 31, a 32, a 33, a 34, a 35, bif !decide (a 36 = 0) then 1 else 0, bif !decide (a 37 = 0) then 1 else 0, a 38, a 39])) (fun r1 =>
 cond (!decide (r1 = 0)) (
 some ((nthI [0, 0, 0, 0, 0, 0, 0, 0, 0, 0, 0, 0, 0, 0, 0, 0, 0, 0, 0, 0, 0, 0, 0, 0, 0, 0, 0, 0, 0, 0, 0, 0, 0, 0, 0, 0, 0, 0, 0, 0], r1))) (
 Option.bind (f30 (IntKind.i64.wrap (IntKind.i64.wrap (0 - a 8) - a 9))) (fun r2 =>
 Option.bind (f30 (IntKind.i64.wrap (IntKind.i64.wrap (0 - a 2) - a 3))) (fun r3 =>
 Option.bind (f30 (IntKind.i64.wrap (IntKind.i64.wrap (0 - a 14) - a 15))) (fun r4 =>
 Option.bind (f30 (IntKind.i64.wrap (IntKind.i64.wrap (0 - a 26) - a 27))) (fun r5 =>
 Option.bind (f30 (IntKind.i64.wrap (IntKind.i64.wrap (0 - a 20) - a 21))) (fun r6 =>
 Option.bind (f30 (IntKind.i64.wrap (IntKind.i64.wrap (0 - a 32) - a 33))) (fun r7 =>
 some ((nthI [a 6, a 7, r2, a 9, a 10, a 11, a 0, a 1, r3, a 3, a 4, a 5, a 12, a 13, r4, a 15, a 16, a 17, a 24, a 25, r5, a 27, a 28, a 29, a 18, a 19, r6, a 21, a 22, a 23, a 30, a 31, r7, a 33, a 34, a 35, bif !decide (a 36 = 0) then 1 else 0, bif !decide (a 37 = 0) then 1 else 0, a 38, a 39], 0))))))))))) : Option ((Nat → Int) × Int))) xx := by kernel_rfl
theorem ev13 (a : (aOne (pC (cX kx26))).T) : evF (R := (rTup (cCons (cX kx26) (cOne (cI .i64)))).T) (cx [(29, Try.f29), (46, Try.f46)] [(15, conF (aOne (pC (cX kx26))) (rOne (cI .i64)) (fun a => f15 a)), (30, conF (aOne (pC (cI .i64))) (rOne (cI .i64)) (fun a => f30 a))] []) 1000 Try.f13 ((aOne (pC (cX kx26))).enc gG a) (glMem gl) 0 (rTup (cCons (cX kx26) (cOne (cI .i64)))).dec = f13 a := evg13 f15 f30  a
theorem sp13 : VE.Spec Try.prog gG gl 13 (conF (aOne (pC (cX kx26))) (rTup (cCons (cX kx26) (cOne (cI .i64)))) (fun a => f13 a)) := spec_of ok13 Try.func13 Try.call13 (lpAll_nil rfl) 1000 (aOne_ok (pC_ok (cX_ok _))) (rTup_ok (cCons_ok (cX_ok _) (cOne_ok (cI_ok _)))) ev13

/-- dancestudiolaw22.wide -/
theorem ok22 : CtxOK Try.prog (cx [] [] []) gl := ctx_of tyOk moOk (show SpecL Try.prog gG gl [] from trivial) (show FnL Try.prog [] from trivial) (fnLp_nil _) joinOk
noncomputable def f22  : Option ((Nat → Int)) :=
 some (nthI tab0)
theorem evg22   (xx : (aNil).T) : evF (R := (rOne (cX kx26)).T) (cx [] [] []) 1000 Try.f22 ((aNil).enc gG xx) (glMem gl) 0 (rOne (cX kx26)).dec =
 (( some (nthI tab0)) : Option ((Nat → Int))) := by kernel_rfl
theorem ev22 (a : (aNil).T) : evF (R := (rOne (cX kx26)).T) (cx [] [] []) 1000 Try.f22 ((aNil).enc gG a) (glMem gl) 0 (rOne (cX kx26)).dec = f22 := evg22   a
theorem sp22 : VE.Spec Try.prog gG gl 22 (conF (aNil) (rOne (cX kx26)) (fun a => f22)) := spec_of ok22 Try.func22 Try.call22 (lpAll_nil rfl) 1000 (aNil_ok) (rOne_ok (cX_ok _)) ev22

/-- aim.known -/
theorem ok47 : CtxOK Try.prog (cx [] [] []) gl := ctx_of tyOk moOk (show SpecL Try.prog gG gl [] from trivial) (show FnL Try.prog [] from trivial) (fnLp_nil _) joinOk
noncomputable def f47 (a : Int) : Option (Bool) :=
 cond (decide (0 ≤ a)) (
 some (decide (a < 6))) (
 some (false))
theorem evg47   (xx : (aOne (pC (cI .i64))).T) : evF (R := (rOne (cB)).T) (cx [] [] []) 1000 Try.f47 ((aOne (pC (cI .i64))).enc gG xx) (glMem gl) 0 (rOne (cB)).dec =
 (fun (a : Int) =>
 (( cond (decide (0 ≤ a)) (
 some (decide (a < 6))) (
 some (false))) : Option (Bool))) xx := by kernel_rfl
theorem ev47 (a : (aOne (pC (cI .i64))).T) : evF (R := (rOne (cB)).T) (cx [] [] []) 1000 Try.f47 ((aOne (pC (cI .i64))).enc gG a) (glMem gl) 0 (rOne (cB)).dec = f47 a := evg47   a
theorem sp47 : VE.Spec Try.prog gG gl 47 (conF (aOne (pC (cI .i64))) (rOne (cB)) (fun a => f47 a)) := spec_of ok47 Try.func47 Try.call47 (lpAll_nil rfl) 1000 (aOne_ok (pC_ok (cI_ok _))) (rOne_ok (cB_ok)) ev47

/-- aim.upright -/
theorem ok48 : CtxOK Try.prog (cx [] [] []) gl := ctx_of tyOk moOk (show SpecL Try.prog gG gl [] from trivial) (show FnL Try.prog [] from trivial) (fnLp_nil _) joinOk
noncomputable def f48 (a : Nat → Int) : Option (Bool) :=
 cond (decide (a 1 = 64)) (
 some (true)) (
 some (decide (a 1 = -64)))
theorem evg48   (xx : (aOne (pC (cA .i64 3))).T) : evF (R := (rOne (cB)).T) (cx [] [] []) 1000 Try.f48 ((aOne (pC (cA .i64 3))).enc gG xx) (glMem gl) 0 (rOne (cB)).dec =
 (fun (a : Nat → Int) =>
 (( cond (decide (a 1 = 64)) (
 some (true)) (
 some (decide (a 1 = -64)))) : Option (Bool))) xx := by kernel_rfl
theorem ev48 (a : (aOne (pC (cA .i64 3))).T) : evF (R := (rOne (cB)).T) (cx [] [] []) 1000 Try.f48 ((aOne (pC (cA .i64 3))).enc gG a) (glMem gl) 0 (rOne (cB)).dec = f48 a := evg48   a
theorem sp48 : VE.Spec Try.prog gG gl 48 (conF (aOne (pC (cA .i64 3))) (rOne (cB)) (fun a => f48 a)) := spec_of ok48 Try.func48 Try.call48 (lpAll_nil rfl) 1000 (aOne_ok (pC_ok (cA_ok _ _))) (rOne_ok (cB_ok)) ev48

/-- aim.Check -/
theorem ok33 : CtxOK Try.prog (cx [] [(47, conF (aOne (pC (cI .i64))) (rOne (cB)) (fun a => f47 a)), (48, conF (aOne (pC (cA .i64 3))) (rOne (cB)) (fun a => f48 a))] []) gl := ctx_of tyOk moOk (show SpecL Try.prog gG gl [(47, conF (aOne (pC (cI .i64))) (rOne (cB)) (fun a => f47 a)), (48, conF (aOne (pC (cA .i64 3))) (rOne (cB)) (fun a => f48 a))] from ⟨sp47, sp48, trivial⟩) (show FnL Try.prog [] from trivial) (fnLp_nil _) joinOk
noncomputable def f33 (a : Int) (b : Nat → Int) : Option (Int) :=
 Option.bind (f47 a) (fun r2 =>
 cond (!r2) (
 some (9)) (
 cond (decide (b 0 < 0)) (
 some (1)) (
 cond (decide (255 < b 0)) (
 some (1)) (
 cond (decide (b 1 < -64)) (
 some (1)) (
 cond (decide (64 < b 1)) (
 some (1)) (
 cond (decide (b 2 < 0)) (
 some (1)) (
 cond (decide (6 < b 2)) (
 some (1)) (
 Option.bind (f48 b) (fun r3 =>
 cond (r3) (
 cond (!decide (b 0 = 0)) (
 some (2)) (
 some (0))) (
 some (0)))))))))))
theorem evg33 (f47 : (Int) → Option (Bool)) (f48 : (Nat → Int) → Option (Bool))  (xx : (aCons (pC (cI .i64)) (aOne (pC (cA .i64 3)))).T) : evF (R := (rOne (cI .i64)).T) (cx [] [(47, conF (aOne (pC (cI .i64))) (rOne (cB)) (fun a => f47 a)), (48, conF (aOne (pC (cA .i64 3))) (rOne (cB)) (fun a => f48 a))] []) 1000 Try.f33 ((aCons (pC (cI .i64)) (aOne (pC (cA .i64 3)))).enc gG xx) (glMem gl) 0 (rOne (cI .i64)).dec =
 (fun (a : Int) (b : Nat → Int) =>
 (( Option.bind (f47 a) (fun r2 =>
 cond (!r2) (
 some (9)) (
 cond (decide (b 0 < 0)) (
 some (1)) (
 cond (decide (255 < b 0)) (
 some (1)) (
 cond (decide (b 1 < -64)) (
 some (1)) (
 cond (decide (64 < b 1)) (
 some (1)) (
 cond (decide (b 2 < 0)) (
 some (1)) (
 cond (decide (6 < b 2)) (
 some (1)) (
 Option.bind (f48 (nthI [b 0, b 1, b 2])) (fun r3 =>
 cond (r3) (
 cond (!decide (b 0 = 0)) (
 some (2)) (
 some (0))) (
 some (0)))))))))))) : Option (Int))) xx.1 xx.2 := by kernel_rfl
noncomputable def g33 (a : Int) (b : Nat → Int) : Option (Int) :=
 Option.bind (f47 a) (fun r2 =>
 cond (!r2) (
 some (9)) (
 cond (decide (b 0 < 0)) (
 some (1)) (
 cond (decide (255 < b 0)) (
 some (1)) (
 cond (decide (b 1 < -64)) (
 some (1)) (
 cond (decide (64 < b 1)) (
 some (1)) (
 cond (decide (b 2 < 0)) (
 some (1)) (
 cond (decide (6 < b 2)) (
 some (1)) (
 Option.bind (f48 (nthI [b 0, b 1, b 2])) (fun r3 =>
 cond (r3) (
 cond (!decide (b 0 = 0)) (
 some (2)) (
 some (0))) (
 some (0)))))))))))
theorem fg33 (a : Int) (b : Nat → Int) : g33 a b = f33 a b := by kernel_rfl
theorem ev33 (a : (aCons (pC (cI .i64)) (aOne (pC (cA .i64 3)))).T) : evF (R := (rOne (cI .i64)).T) (cx [] [(47, conF (aOne (pC (cI .i64))) (rOne (cB)) (fun a => f47 a)), (48, conF (aOne (pC (cA .i64 3))) (rOne (cB)) (fun a => f48 a))] []) 1000 Try.f33 ((aCons (pC (cI .i64)) (aOne (pC (cA .i64 3)))).enc gG a) (glMem gl) 0 (rOne (cI .i64)).dec = f33 a.1 a.2 := (show evF (R := (rOne (cI .i64)).T) (cx [] [(47, conF (aOne (pC (cI .i64))) (rOne (cB)) (fun a => f47 a)), (48, conF (aOne (pC (cA .i64 3))) (rOne (cB)) (fun a => f48 a))] []) 1000 Try.f33 ((aCons (pC (cI .i64)) (aOne (pC (cA .i64 3)))).enc gG a) (glMem gl) 0 (rOne (cI .i64)).dec = g33 a.1 a.2 from evg33 f47 f48  a).trans (fg33 a.1 a.2)
theorem sp33 : VE.Spec Try.prog gG gl 33 (conF (aCons (pC (cI .i64)) (aOne (pC (cA .i64 3)))) (rOne (cI .i64)) (fun a => f33 a.1 a.2)) := spec_of ok33 Try.func33 Try.call33 (lpAll_nil rfl) 1000 (aCons_ok (pC_ok (cI_ok _)) (aOne_ok (pC_ok (cA_ok _ _)))) (rOne_ok (cI_ok _)) ev33

/-- limits.pole -/
theorem ok49 : CtxOK Try.prog (cx [] [] []) gl := ctx_of tyOk moOk (show SpecL Try.prog gG gl [] from trivial) (show FnL Try.prog [] from trivial) (fnLp_nil _) joinOk
noncomputable def f49 (a : Nat → Int) : Option (Bool) :=
 cond (decide (a 1 = 64)) (
 some (true)) (
 some (decide (a 1 = -64)))
theorem evg49   (xx : (aOne (pC (cA .i64 3))).T) : evF (R := (rOne (cB)).T) (cx [] [] []) 1000 Try.f49 ((aOne (pC (cA .i64 3))).enc gG xx) (glMem gl) 0 (rOne (cB)).dec =
 (fun (a : Nat → Int) =>
 (( cond (decide (a 1 = 64)) (
 some (true)) (
 some (decide (a 1 = -64)))) : Option (Bool))) xx := by kernel_rfl
theorem ev49 (a : (aOne (pC (cA .i64 3))).T) : evF (R := (rOne (cB)).T) (cx [] [] []) 1000 Try.f49 ((aOne (pC (cA .i64 3))).enc gG a) (glMem gl) 0 (rOne (cB)).dec = f49 a := evg49   a
theorem sp49 : VE.Spec Try.prog gG gl 49 (conF (aOne (pC (cA .i64 3))) (rOne (cB)) (fun a => f49 a)) := spec_of ok49 Try.func49 Try.call49 (lpAll_nil rfl) 1000 (aOne_ok (pC_ok (cA_ok _ _))) (rOne_ok (cB_ok)) ev49

/-- limits.sector -/
theorem ok50 : CtxOK Try.prog (cx [] [(45, conF (aOne (pC (cI .i64))) (rOne (cI .i64)) (fun a => f45 a))] []) gl := ctx_of tyOk moOk (show SpecL Try.prog gG gl [(45, conF (aOne (pC (cI .i64))) (rOne (cI .i64)) (fun a => f45 a))] from ⟨sp45, trivial⟩) (show FnL Try.prog [] from trivial) (fnLp_nil _) joinOk
noncomputable def f50 (a : Nat → Int) (b : Int) : Option (Bool) :=
 Option.bind (f45 (IntKind.i64.wrap (b - a 2))) (fun r2 =>
 some (decide (r2 ≤ a 3)))
theorem evg50 (f45 : (Int) → Option (Int))  (xx : (aCons (pC (cA .i64 6)) (aOne (pC (cI .i64)))).T) : evF (R := (rOne (cB)).T) (cx [] [(45, conF (aOne (pC (cI .i64))) (rOne (cI .i64)) (fun a => f45 a))] []) 1000 Try.f50 ((aCons (pC (cA .i64 6)) (aOne (pC (cI .i64)))).enc gG xx) (glMem gl) 0 (rOne (cB)).dec =
 (fun (a : Nat → Int) (b : Int) =>
 (( Option.bind (f45 (IntKind.i64.wrap (b - a 2))) (fun r2 =>
 some (decide (r2 ≤ a 3)))) : Option (Bool))) xx.1 xx.2 := by kernel_rfl
theorem ev50 (a : (aCons (pC (cA .i64 6)) (aOne (pC (cI .i64)))).T) : evF (R := (rOne (cB)).T) (cx [] [(45, conF (aOne (pC (cI .i64))) (rOne (cI .i64)) (fun a => f45 a))] []) 1000 Try.f50 ((aCons (pC (cA .i64 6)) (aOne (pC (cI .i64)))).enc gG a) (glMem gl) 0 (rOne (cB)).dec = f50 a.1 a.2 := evg50 f45  a
theorem sp50 : VE.Spec Try.prog gG gl 50 (conF (aCons (pC (cA .i64 6)) (aOne (pC (cI .i64)))) (rOne (cB)) (fun a => f50 a.1 a.2)) := spec_of ok50 Try.func50 Try.call50 (lpAll_nil rfl) 1000 (aCons_ok (pC_ok (cA_ok _ _)) (aOne_ok (pC_ok (cI_ok _)))) (rOne_ok (cB_ok)) ev50

/-- limits.allows -/
theorem ok34 : CtxOK Try.prog (cx [] [(49, conF (aOne (pC (cA .i64 3))) (rOne (cB)) (fun a => f49 a)), (50, conF (aCons (pC (cA .i64 6)) (aOne (pC (cI .i64)))) (rOne (cB)) (fun a => f50 (a.1) (a.2)))] []) gl := ctx_of tyOk moOk (show SpecL Try.prog gG gl [(49, conF (aOne (pC (cA .i64 3))) (rOne (cB)) (fun a => f49 a)), (50, conF (aCons (pC (cA .i64 6)) (aOne (pC (cI .i64)))) (rOne (cB)) (fun a => f50 (a.1) (a.2)))] from ⟨sp49, sp50, trivial⟩) (show FnL Try.prog [] from trivial) (fnLp_nil _) joinOk
noncomputable def f34 (a : Nat → Int) (b : Nat → Int) : Option (Bool) :=
 cond (decide (a 0 ≤ b 1)) (
 cond (decide (b 1 ≤ a 1)) (
 cond (decide (b 2 ≤ a 4)) (
 Option.bind (f49 b) (fun r2 =>
 cond (r2) (
 some (true)) (
 Option.bind (f50 a (b 0)) (fun r3 =>
 some (r3))))) (
 some (false))) (
 some (false))) (
 some (false))
theorem evg34 (f49 : (Nat → Int) → Option (Bool)) (f50 : (Nat → Int) → (Int) → Option (Bool))  (xx : (aCons (pC (cA .i64 6)) (aOne (pC (cA .i64 3)))).T) : evF (R := (rOne (cB)).T) (cx [] [(49, conF (aOne (pC (cA .i64 3))) (rOne (cB)) (fun a => f49 a)), (50, conF (aCons (pC (cA .i64 6)) (aOne (pC (cI .i64)))) (rOne (cB)) (fun a => f50 (a.1) (a.2)))] []) 1000 Try.f34 ((aCons (pC (cA .i64 6)) (aOne (pC (cA .i64 3)))).enc gG xx) (glMem gl) 0 (rOne (cB)).dec =
 (fun (a : Nat → Int) (b : Nat → Int) =>
 (( cond (decide (a 0 ≤ b 1)) (
 cond (decide (b 1 ≤ a 1)) (
 cond (decide (b 2 ≤ a 4)) (
 Option.bind (f49 (nthI [b 0, b 1, b 2])) (fun r2 =>
 cond (r2) (
 some (true)) (
 Option.bind (f50 (nthI [a 0, a 1, a 2, a 3, a 4, a 5]) (b 0)) (fun r3 =>
 some (r3))))) (
 some (false))) (
 some (false))) (
 some (false))) : Option (Bool))) xx.1 xx.2 := by kernel_rfl
noncomputable def g34 (a : Nat → Int) (b : Nat → Int) : Option (Bool) :=
 cond (decide (a 0 ≤ b 1)) (
 cond (decide (b 1 ≤ a 1)) (
 cond (decide (b 2 ≤ a 4)) (
 Option.bind (f49 (nthI [b 0, b 1, b 2])) (fun r2 =>
 cond (r2) (
 some (true)) (
 Option.bind (f50 (nthI [a 0, a 1, a 2, a 3, a 4, a 5]) (b 0)) (fun r3 =>
 some (r3))))) (
 some (false))) (
 some (false))) (
 some (false))
theorem fg34 (a : Nat → Int) (b : Nat → Int) : g34 a b = f34 a b := by kernel_rfl
theorem ev34 (a : (aCons (pC (cA .i64 6)) (aOne (pC (cA .i64 3)))).T) : evF (R := (rOne (cB)).T) (cx [] [(49, conF (aOne (pC (cA .i64 3))) (rOne (cB)) (fun a => f49 a)), (50, conF (aCons (pC (cA .i64 6)) (aOne (pC (cI .i64)))) (rOne (cB)) (fun a => f50 (a.1) (a.2)))] []) 1000 Try.f34 ((aCons (pC (cA .i64 6)) (aOne (pC (cA .i64 3)))).enc gG a) (glMem gl) 0 (rOne (cB)).dec = f34 a.1 a.2 := (show evF (R := (rOne (cB)).T) (cx [] [(49, conF (aOne (pC (cA .i64 3))) (rOne (cB)) (fun a => f49 a)), (50, conF (aCons (pC (cA .i64 6)) (aOne (pC (cI .i64)))) (rOne (cB)) (fun a => f50 (a.1) (a.2)))] []) 1000 Try.f34 ((aCons (pC (cA .i64 6)) (aOne (pC (cA .i64 3)))).enc gG a) (glMem gl) 0 (rOne (cB)).dec = g34 a.1 a.2 from evg34 f49 f50  a).trans (fg34 a.1 a.2)
theorem sp34 : VE.Spec Try.prog gG gl 34 (conF (aCons (pC (cA .i64 6)) (aOne (pC (cA .i64 3)))) (rOne (cB)) (fun a => f34 a.1 a.2)) := spec_of ok34 Try.func34 Try.call34 (lpAll_nil rfl) 1000 (aCons_ok (pC_ok (cA_ok _ _)) (aOne_ok (pC_ok (cA_ok _ _)))) (rOne_ok (cB_ok)) ev34

/-- limits.Allows -/
theorem ok17 : CtxOK Try.prog (cx [] [(14, conF (aOne (pC (cX kx26))) (rOne (cI .i64)) (fun a => f14 a)), (33, conF (aCons (pC (cI .i64)) (aOne (pC (cA .i64 3)))) (rOne (cI .i64)) (fun a => f33 (a.1) (a.2))), (34, conF (aCons (pC (cA .i64 6)) (aOne (pC (cA .i64 3)))) (rOne (cB)) (fun a => f34 (a.1) (a.2)))] []) gl := ctx_of tyOk moOk (show SpecL Try.prog gG gl [(14, conF (aOne (pC (cX kx26))) (rOne (cI .i64)) (fun a => f14 a)), (33, conF (aCons (pC (cI .i64)) (aOne (pC (cA .i64 3)))) (rOne (cI .i64)) (fun a => f33 (a.1) (a.2))), (34, conF (aCons (pC (cA .i64 6)) (aOne (pC (cA .i64 3)))) (rOne (cB)) (fun a => f34 (a.1) (a.2)))] from ⟨sp14, sp33, sp34, trivial⟩) (show FnL Try.prog [] from trivial) (fnLp_nil _) joinOk
noncomputable def f17 (a : Nat → Int) (b : Int) (c : Nat → Int) : Option (Bool × Int) :=
 Option.bind (f14 (nthI [a 0, a 1, a 2, a 3, a 4, a 5, a 6, a 7, a 8, a 9, a 10, a 11, a 12, a 13, a 14, a 15, a 16, a 17, a 18, a 19, a 20, a 21, a 22, a 23, a 24, a 25, a 26, a 27, a 28, a 29, a 30, a 31, a 32, a 33, a 34, a 35, bif !decide (a 36 = 0) then 1 else 0, bif !decide (a 37 = 0) then 1 else 0, a 38, a 39])) (fun r3 =>
 cond (!decide (r3 = 0)) (
 some ((false, r3))) (
 Option.bind (f33 b c) (fun r4 =>
 cond (!decide (r4 = 0)) (
 some ((false, r4))) (
 cond (decide (0 ≤ b)) (
 cond (decide (b < 6)) (
 Option.bind (f34 (nthI [[a 0, a 6, a 12, a 18, a 24, a 30].getD b.toNat 0, [a 1, a 7, a 13, a 19, a 25, a 31].getD b.toNat 0, [a 2, a 8, a 14, a 20, a 26, a 32].getD b.toNat 0, [a 3, a 9, a 15, a 21, a 27, a 33].getD b.toNat 0, [a 4, a 10, a 16, a 22, a 28, a 34].getD b.toNat 0, [a 5, a 11, a 17, a 23, a 29, a 35].getD b.toNat 0]) c) (fun r5 =>
 some ((r5, 0)))) none) none))))
theorem evg17 (f14 : (Nat → Int) → Option (Int)) (f33 : (Int) → (Nat → Int) → Option (Int)) (f34 : (Nat → Int) → (Nat → Int) → Option (Bool))  (xx : (aCons (pC (cX kx26)) (aCons (pC (cI .i64)) (aOne (pC (cA .i64 3))))).T) : evF (R := (rTup (cCons (cB) (cOne (cI .i64)))).T) (cx [] [(14, conF (aOne (pC (cX kx26))) (rOne (cI .i64)) (fun a => f14 a)), (33, conF (aCons (pC (cI .i64)) (aOne (pC (cA .i64 3)))) (rOne (cI .i64)) (fun a => f33 (a.1) (a.2))), (34, conF (aCons (pC (cA .i64 6)) (aOne (pC (cA .i64 3)))) (rOne (cB)) (fun a => f34 (a.1) (a.2)))] []) 1000 Try.f17 ((aCons (pC (cX kx26)) (aCons (pC (cI .i64)) (aOne (pC (cA .i64 3))))).enc gG xx) (glMem gl) 0 (rTup (cCons (cB) (cOne (cI .i64)))).dec =
 (fun (a : Nat → Int) (b : Int) (c : Nat → Int) =>
 (( Option.bind (f14 (nthI [a 0, a 1, a 2, a 3, a 4, a 5, a 6, a 7, a 8, a 9, a 10, a 11, a 12, a 13, a 14, a 15, a 16, a 17, a 18, a 19, a 20, a 21, a 22, a 23, a 24, a 25, a 26, a 27, a 28, a 29, a 30, a 31, a 32, a 33, a 34, a 35, bif !decide (a 36 = 0) then 1 else 0, bif !decide (a 37 = 0) then 1 else 0, a 38, a 39])) (fun r3 =>
 cond (!decide (r3 = 0)) (
 some ((false, r3))) (
 Option.bind (f33 b (nthI [c 0, c 1, c 2])) (fun r4 =>
 cond (!decide (r4 = 0)) (
 some ((false, r4))) (
 cond (decide (0 ≤ b)) (
 cond (decide (b < 6)) (
 Option.bind (f34 (nthI [[a 0, a 6, a 12, a 18, a 24, a 30].getD b.toNat 0, [a 1, a 7, a 13, a 19, a 25, a 31].getD b.toNat 0, [a 2, a 8, a 14, a 20, a 26, a 32].getD b.toNat 0, [a 3, a 9, a 15, a 21, a 27, a 33].getD b.toNat 0, [a 4, a 10, a 16, a 22, a 28, a 34].getD b.toNat 0, [a 5, a 11, a 17, a 23, a 29, a 35].getD b.toNat 0]) (nthI [c 0, c 1, c 2])) (fun r5 =>
 some ((r5, 0)))) none) none))))) : Option (Bool × Int))) xx.1 xx.2.1 xx.2.2 := by kernel_rfl
noncomputable def g17 (a : Nat → Int) (b : Int) (c : Nat → Int) : Option (Bool × Int) :=
 Option.bind (f14 (nthI [a 0, a 1, a 2, a 3, a 4, a 5, a 6, a 7, a 8, a 9, a 10, a 11, a 12, a 13, a 14, a 15, a 16, a 17, a 18, a 19, a 20, a 21, a 22, a 23, a 24, a 25, a 26, a 27, a 28, a 29, a 30, a 31, a 32, a 33, a 34, a 35, bif !decide (a 36 = 0) then 1 else 0, bif !decide (a 37 = 0) then 1 else 0, a 38, a 39])) (fun r3 =>
 cond (!decide (r3 = 0)) (
 some ((false, r3))) (
 Option.bind (f33 b (nthI [c 0, c 1, c 2])) (fun r4 =>
 cond (!decide (r4 = 0)) (
 some ((false, r4))) (
 cond (decide (0 ≤ b)) (
 cond (decide (b < 6)) (
 Option.bind (f34 (nthI [[a 0, a 6, a 12, a 18, a 24, a 30].getD b.toNat 0, [a 1, a 7, a 13, a 19, a 25, a 31].getD b.toNat 0, [a 2, a 8, a 14, a 20, a 26, a 32].getD b.toNat 0, [a 3, a 9, a 15, a 21, a 27, a 33].getD b.toNat 0, [a 4, a 10, a 16, a 22, a 28, a 34].getD b.toNat 0, [a 5, a 11, a 17, a 23, a 29, a 35].getD b.toNat 0]) (nthI [c 0, c 1, c 2])) (fun r5 =>
 some ((r5, 0)))) none) none))))
theorem fg17 (a : Nat → Int) (b : Int) (c : Nat → Int) : g17 a b c = f17 a b c := by kernel_rfl
theorem ev17 (a : (aCons (pC (cX kx26)) (aCons (pC (cI .i64)) (aOne (pC (cA .i64 3))))).T) : evF (R := (rTup (cCons (cB) (cOne (cI .i64)))).T) (cx [] [(14, conF (aOne (pC (cX kx26))) (rOne (cI .i64)) (fun a => f14 a)), (33, conF (aCons (pC (cI .i64)) (aOne (pC (cA .i64 3)))) (rOne (cI .i64)) (fun a => f33 (a.1) (a.2))), (34, conF (aCons (pC (cA .i64 6)) (aOne (pC (cA .i64 3)))) (rOne (cB)) (fun a => f34 (a.1) (a.2)))] []) 1000 Try.f17 ((aCons (pC (cX kx26)) (aCons (pC (cI .i64)) (aOne (pC (cA .i64 3))))).enc gG a) (glMem gl) 0 (rTup (cCons (cB) (cOne (cI .i64)))).dec = f17 a.1 a.2.1 a.2.2 := (show evF (R := (rTup (cCons (cB) (cOne (cI .i64)))).T) (cx [] [(14, conF (aOne (pC (cX kx26))) (rOne (cI .i64)) (fun a => f14 a)), (33, conF (aCons (pC (cI .i64)) (aOne (pC (cA .i64 3)))) (rOne (cI .i64)) (fun a => f33 (a.1) (a.2))), (34, conF (aCons (pC (cA .i64 6)) (aOne (pC (cA .i64 3)))) (rOne (cB)) (fun a => f34 (a.1) (a.2)))] []) 1000 Try.f17 ((aCons (pC (cX kx26)) (aCons (pC (cI .i64)) (aOne (pC (cA .i64 3))))).enc gG a) (glMem gl) 0 (rTup (cCons (cB) (cOne (cI .i64)))).dec = g17 a.1 a.2.1 a.2.2 from evg17 f14 f33 f34  a).trans (fg17 a.1 a.2.1 a.2.2)
theorem sp17 : VE.Spec Try.prog gG gl 17 (conF (aCons (pC (cX kx26)) (aCons (pC (cI .i64)) (aOne (pC (cA .i64 3))))) (rTup (cCons (cB) (cOne (cI .i64)))) (fun a => f17 a.1 a.2.1 a.2.2)) := spec_of ok17 Try.func17 Try.call17 (lpAll_nil rfl) 1000 (aCons_ok (pC_ok (cX_ok _)) (aCons_ok (pC_ok (cI_ok _)) (aOne_ok (pC_ok (cA_ok _ _))))) (rTup_ok (cCons_ok (cB_ok) (cOne_ok (cI_ok _)))) ev17

/-- dancestudiolaw22.allows -/
theorem ok31 : CtxOK Try.prog (cx [] [(17, conF (aCons (pC (cX kx26)) (aCons (pC (cI .i64)) (aOne (pC (cA .i64 3))))) (rTup (cCons (cB) (cOne (cI .i64)))) (fun a => f17 (a.1) (a.2.1) (a.2.2)))] []) gl := ctx_of tyOk moOk (show SpecL Try.prog gG gl [(17, conF (aCons (pC (cX kx26)) (aCons (pC (cI .i64)) (aOne (pC (cA .i64 3))))) (rTup (cCons (cB) (cOne (cI .i64)))) (fun a => f17 (a.1) (a.2.1) (a.2.2)))] from ⟨sp17, trivial⟩) (show FnL Try.prog [] from trivial) (fnLp_nil _) joinOk
noncomputable def f31 (a : Nat → Int) (b : Nat → Int) : Option (Bool) :=
 Option.bind (f17 (nthI [a 0, a 1, a 2, a 3, a 4, a 5, a 6, a 7, a 8, a 9, a 10, a 11, a 12, a 13, a 14, a 15, a 16, a 17, a 18, a 19, a 20, a 21, a 22, a 23, a 24, a 25, a 26, a 27, a 28, a 29, a 30, a 31, a 32, a 33, a 34, a 35, bif !decide (a 36 = 0) then 1 else 0, bif !decide (a 37 = 0) then 1 else 0, a 38, a 39]) 3 b) (fun r2 =>
 cond (r2.fst) (
 some (decide (r2.snd = 0))) (
 some (false)))
theorem evg31 (f17 : (Nat → Int) → (Int) → (Nat → Int) → Option (Bool × Int))  (xx : (aCons (pC (cX kx26)) (aOne (pC (cA .i64 3)))).T) : evF (R := (rOne (cB)).T) (cx [] [(17, conF (aCons (pC (cX kx26)) (aCons (pC (cI .i64)) (aOne (pC (cA .i64 3))))) (rTup (cCons (cB) (cOne (cI .i64)))) (fun a => f17 (a.1) (a.2.1) (a.2.2)))] []) 1000 Try.f31 ((aCons (pC (cX kx26)) (aOne (pC (cA .i64 3)))).enc gG xx) (glMem gl) 0 (rOne (cB)).dec =
 (fun (a : Nat → Int) (b : Nat → Int) =>
 (( Option.bind (f17 (nthI [a 0, a 1, a 2, a 3, a 4, a 5, a 6, a 7, a 8, a 9, a 10, a 11, a 12, a 13, a 14, a 15, a 16, a 17, a 18, a 19, a 20, a 21, a 22, a 23, a 24, a 25, a 26, a 27, a 28, a 29, a 30, a 31, a 32, a 33, a 34, a 35, bif !decide (a 36 = 0) then 1 else 0, bif !decide (a 37 = 0) then 1 else 0, a 38, a 39]) 3 (nthI [b 0, b 1, b 2])) (fun r2 =>
 cond (r2.fst) (
 some (decide (r2.snd = 0))) (
 some (false)))) : Option (Bool))) xx.1 xx.2 := by kernel_rfl
noncomputable def g31 (a : Nat → Int) (b : Nat → Int) : Option (Bool) :=
 Option.bind (f17 (nthI [a 0, a 1, a 2, a 3, a 4, a 5, a 6, a 7, a 8, a 9, a 10, a 11, a 12, a 13, a 14, a 15, a 16, a 17, a 18, a 19, a 20, a 21, a 22, a 23, a 24, a 25, a 26, a 27, a 28, a 29, a 30, a 31, a 32, a 33, a 34, a 35, bif !decide (a 36 = 0) then 1 else 0, bif !decide (a 37 = 0) then 1 else 0, a 38, a 39]) 3 (nthI [b 0, b 1, b 2])) (fun r2 =>
 cond (r2.fst) (
 some (decide (r2.snd = 0))) (
 some (false)))
theorem fg31 (a : Nat → Int) (b : Nat → Int) : g31 a b = f31 a b := by kernel_rfl
theorem ev31 (a : (aCons (pC (cX kx26)) (aOne (pC (cA .i64 3)))).T) : evF (R := (rOne (cB)).T) (cx [] [(17, conF (aCons (pC (cX kx26)) (aCons (pC (cI .i64)) (aOne (pC (cA .i64 3))))) (rTup (cCons (cB) (cOne (cI .i64)))) (fun a => f17 (a.1) (a.2.1) (a.2.2)))] []) 1000 Try.f31 ((aCons (pC (cX kx26)) (aOne (pC (cA .i64 3)))).enc gG a) (glMem gl) 0 (rOne (cB)).dec = f31 a.1 a.2 := (show evF (R := (rOne (cB)).T) (cx [] [(17, conF (aCons (pC (cX kx26)) (aCons (pC (cI .i64)) (aOne (pC (cA .i64 3))))) (rTup (cCons (cB) (cOne (cI .i64)))) (fun a => f17 (a.1) (a.2.1) (a.2.2)))] []) 1000 Try.f31 ((aCons (pC (cX kx26)) (aOne (pC (cA .i64 3)))).enc gG a) (glMem gl) 0 (rOne (cB)).dec = g31 a.1 a.2 from evg31 f17  a).trans (fg31 a.1 a.2)
theorem sp31 : VE.Spec Try.prog gG gl 31 (conF (aCons (pC (cX kx26)) (aOne (pC (cA .i64 3)))) (rOne (cB)) (fun a => f31 a.1 a.2)) := spec_of ok31 Try.func31 Try.call31 (lpAll_nil rfl) 1000 (aCons_ok (pC_ok (cX_ok _)) (aOne_ok (pC_ok (cA_ok _ _)))) (rOne_ok (cB_ok)) ev31

/-- dancestudiolaw22.pose -/
theorem ok32 : CtxOK Try.prog (cx [] [] []) gl := ctx_of tyOk moOk (show SpecL Try.prog gG gl [] from trivial) (show FnL Try.prog [] from trivial) (fnLp_nil _) joinOk
noncomputable def f32 (a : Nat → Int) : Option ((Nat → Int)) :=
 some (nthI [0, 0, 0, 0, 0, -64, 0, 0, -64, 0, 0, 64, 0, a 0, a 1, a 2, 0, -64, 0, 0, 64, 0])
theorem evg32   (xx : (aOne (pC (cA .i64 3))).T) : evF (R := (rOne (cA .i64 22)).T) (cx [] [] []) 1000 Try.f32 ((aOne (pC (cA .i64 3))).enc gG xx) (glMem gl) 0 (rOne (cA .i64 22)).dec =
 (fun (a : Nat → Int) =>
 (( some (nthI [0, 0, 0, 0, 0, -64, 0, 0, -64, 0, 0, 64, 0, a 0, a 1, a 2, 0, -64, 0, 0, 64, 0])) : Option ((Nat → Int)))) xx := by kernel_rfl
theorem ev32 (a : (aOne (pC (cA .i64 3))).T) : evF (R := (rOne (cA .i64 22)).T) (cx [] [] []) 1000 Try.f32 ((aOne (pC (cA .i64 3))).enc gG a) (glMem gl) 0 (rOne (cA .i64 22)).dec = f32 a := evg32   a
theorem sp32 : VE.Spec Try.prog gG gl 32 (conF (aOne (pC (cA .i64 3))) (rOne (cA .i64 22)) (fun a => f32 a)) := spec_of ok32 Try.func32 Try.call32 (lpAll_nil rfl) 1000 (aOne_ok (pC_ok (cA_ok _ _))) (rOne_ok (cA_ok _ _)) ev32

/-- posture.on -/
theorem ok54 : CtxOK Try.prog (cx [] [] []) gl := ctx_of tyOk moOk (show SpecL Try.prog gG gl [] from trivial) (show FnL Try.prog [] from trivial) (fnLp_nil _) joinOk
noncomputable def f54 (a : Nat → Int) : Option (Bool) :=
 cond (decide (-32768 ≤ a 0)) (
 cond (decide (a 0 ≤ 32768)) (
 cond (decide (-32768 ≤ a 1)) (
 some (decide (a 1 ≤ 32768))) (
 some (false))) (
 some (false))) (
 some (false))
theorem evg54   (xx : (aOne (pC (cA .i64 2))).T) : evF (R := (rOne (cB)).T) (cx [] [] []) 1000 Try.f54 ((aOne (pC (cA .i64 2))).enc gG xx) (glMem gl) 0 (rOne (cB)).dec =
 (fun (a : Nat → Int) =>
 (( cond (decide (-32768 ≤ a 0)) (
 cond (decide (a 0 ≤ 32768)) (
 cond (decide (-32768 ≤ a 1)) (
 some (decide (a 1 ≤ 32768))) (
 some (false))) (
 some (false))) (
 some (false))) : Option (Bool))) xx := by kernel_rfl
theorem ev54 (a : (aOne (pC (cA .i64 2))).T) : evF (R := (rOne (cB)).T) (cx [] [] []) 1000 Try.f54 ((aOne (pC (cA .i64 2))).enc gG a) (glMem gl) 0 (rOne (cB)).dec = f54 a := evg54   a
theorem sp54 : VE.Spec Try.prog gG gl 54 (conF (aOne (pC (cA .i64 2))) (rOne (cB)) (fun a => f54 a)) := spec_of ok54 Try.func54 Try.call54 (lpAll_nil rfl) 1000 (aOne_ok (pC_ok (cA_ok _ _))) (rOne_ok (cB_ok)) ev54

/-- posture.Valid -/
theorem ok40 : CtxOK Try.prog (cx [] [(33, conF (aCons (pC (cI .i64)) (aOne (pC (cA .i64 3)))) (rOne (cI .i64)) (fun a => f33 (a.1) (a.2))), (54, conF (aOne (pC (cA .i64 2))) (rOne (cB)) (fun a => f54 a))] []) gl := ctx_of tyOk moOk (show SpecL Try.prog gG gl [(33, conF (aCons (pC (cI .i64)) (aOne (pC (cA .i64 3)))) (rOne (cI .i64)) (fun a => f33 (a.1) (a.2))), (54, conF (aOne (pC (cA .i64 2))) (rOne (cB)) (fun a => f54 a))] from ⟨sp33, sp54, trivial⟩) (show FnL Try.prog [] from trivial) (fnLp_nil _) joinOk
noncomputable def f40 (a : Nat → Int) : Option (Int) :=
 Option.bind (f54 a) (fun r1 =>
 cond (!r1) (
 some (1)) (
 cond (decide (a 2 < 0)) (
 some (1)) (
 cond (decide (255 < a 2)) (
 some (1)) (
 cond (decide (a 3 < -8)) (
 some (1)) (
 cond (decide (8 < a 3)) (
 some (1)) (
 Option.bind (f33 0 (nthI [a 4, a 5, a 6])) (fun r2 =>
 cond (!decide (r2 = 0)) (
 some (r2)) (
 Option.bind (f33 1 (nthI [a 7, a 8, a 9])) (fun r3 =>
 cond (!decide (r3 = 0)) (
 some (r3)) (
 Option.bind (f33 2 (nthI [a 10, a 11, a 12])) (fun r4 =>
 cond (!decide (r4 = 0)) (
 some (r4)) (
 Option.bind (f33 3 (nthI [a 13, a 14, a 15])) (fun r5 =>
 cond (!decide (r5 = 0)) (
 some (r5)) (
 Option.bind (f33 4 (nthI [a 16, a 17, a 18])) (fun r6 =>
 cond (!decide (r6 = 0)) (
 some (r6)) (
 Option.bind (f33 5 (nthI [a 19, a 20, a 21])) (fun r7 =>
 cond (!decide (r7 = 0)) (
 some (r7)) (
 some (0)))))))))))))))))))
theorem evg40 (f33 : (Int) → (Nat → Int) → Option (Int)) (f54 : (Nat → Int) → Option (Bool))  (xx : (aOne (pC (cA .i64 22))).T) : evF (R := (rOne (cI .i64)).T) (cx [] [(33, conF (aCons (pC (cI .i64)) (aOne (pC (cA .i64 3)))) (rOne (cI .i64)) (fun a => f33 (a.1) (a.2))), (54, conF (aOne (pC (cA .i64 2))) (rOne (cB)) (fun a => f54 a))] []) 1000 Try.f40 ((aOne (pC (cA .i64 22))).enc gG xx) (glMem gl) 0 (rOne (cI .i64)).dec =
 (fun (a : Nat → Int) =>
 (( Option.bind (f54 (nthI [a 0, a 1])) (fun r1 =>
 cond (!r1) (
 some (1)) (
 cond (decide (a 2 < 0)) (
 some (1)) (
 cond (decide (255 < a 2)) (
 some (1)) (
 cond (decide (a 3 < -8)) (
 some (1)) (
 cond (decide (8 < a 3)) (
 some (1)) (
 Option.bind (f33 0 (nthI [a 4, a 5, a 6])) (fun r2 =>
 cond (!decide (r2 = 0)) (
 some (r2)) (
 Option.bind (f33 1 (nthI [a 7, a 8, a 9])) (fun r3 =>
 cond (!decide (r3 = 0)) (
 some (r3)) (
 Option.bind (f33 2 (nthI [a 10, a 11, a 12])) (fun r4 =>
 cond (!decide (r4 = 0)) (
 some (r4)) (
 Option.bind (f33 3 (nthI [a 13, a 14, a 15])) (fun r5 =>
 cond (!decide (r5 = 0)) (
 some (r5)) (
 Option.bind (f33 4 (nthI [a 16, a 17, a 18])) (fun r6 =>
 cond (!decide (r6 = 0)) (
 some (r6)) (
 Option.bind (f33 5 (nthI [a 19, a 20, a 21])) (fun r7 =>
 cond (!decide (r7 = 0)) (
 some (r7)) (
 some (0)))))))))))))))))))) : Option (Int))) xx := by kernel_rfl
noncomputable def g40 (a : Nat → Int) : Option (Int) :=
 Option.bind (f54 (nthI [a 0, a 1])) (fun r1 =>
 cond (!r1) (
 some (1)) (
 cond (decide (a 2 < 0)) (
 some (1)) (
 cond (decide (255 < a 2)) (
 some (1)) (
 cond (decide (a 3 < -8)) (
 some (1)) (
 cond (decide (8 < a 3)) (
 some (1)) (
 Option.bind (f33 0 (nthI [a 4, a 5, a 6])) (fun r2 =>
 cond (!decide (r2 = 0)) (
 some (r2)) (
 Option.bind (f33 1 (nthI [a 7, a 8, a 9])) (fun r3 =>
 cond (!decide (r3 = 0)) (
 some (r3)) (
 Option.bind (f33 2 (nthI [a 10, a 11, a 12])) (fun r4 =>
 cond (!decide (r4 = 0)) (
 some (r4)) (
 Option.bind (f33 3 (nthI [a 13, a 14, a 15])) (fun r5 =>
 cond (!decide (r5 = 0)) (
 some (r5)) (
 Option.bind (f33 4 (nthI [a 16, a 17, a 18])) (fun r6 =>
 cond (!decide (r6 = 0)) (
 some (r6)) (
 Option.bind (f33 5 (nthI [a 19, a 20, a 21])) (fun r7 =>
 cond (!decide (r7 = 0)) (
 some (r7)) (
 some (0)))))))))))))))))))
theorem fg40 (a : Nat → Int) : g40 a = f40 a := by kernel_rfl
theorem ev40 (a : (aOne (pC (cA .i64 22))).T) : evF (R := (rOne (cI .i64)).T) (cx [] [(33, conF (aCons (pC (cI .i64)) (aOne (pC (cA .i64 3)))) (rOne (cI .i64)) (fun a => f33 (a.1) (a.2))), (54, conF (aOne (pC (cA .i64 2))) (rOne (cB)) (fun a => f54 a))] []) 1000 Try.f40 ((aOne (pC (cA .i64 22))).enc gG a) (glMem gl) 0 (rOne (cI .i64)).dec = f40 a := (show evF (R := (rOne (cI .i64)).T) (cx [] [(33, conF (aCons (pC (cI .i64)) (aOne (pC (cA .i64 3)))) (rOne (cI .i64)) (fun a => f33 (a.1) (a.2))), (54, conF (aOne (pC (cA .i64 2))) (rOne (cB)) (fun a => f54 a))] []) 1000 Try.f40 ((aOne (pC (cA .i64 22))).enc gG a) (glMem gl) 0 (rOne (cI .i64)).dec = g40 a from evg40 f33 f54  a).trans (fg40 a)
theorem sp40 : VE.Spec Try.prog gG gl 40 (conF (aOne (pC (cA .i64 22))) (rOne (cI .i64)) (fun a => f40 a)) := spec_of ok40 Try.func40 Try.call40 (lpAll_nil rfl) 1000 (aOne_ok (pC_ok (cA_ok _ _))) (rOne_ok (cI_ok _)) ev40

/-- angle.valid -/
theorem ok63 : CtxOK Try.prog (cx [] [] []) gl := ctx_of tyOk moOk (show SpecL Try.prog gG gl [] from trivial) (show FnL Try.prog [] from trivial) (fnLp_nil _) joinOk
noncomputable def f63 (a : Int) : Option (Bool) :=
 cond (decide (0 ≤ a)) (
 some (decide (a < 256))) (
 some (false))
theorem evg63   (xx : (aOne (pC (cI .i64))).T) : evF (R := (rOne (cB)).T) (cx [] [] []) 1000 Try.f63 ((aOne (pC (cI .i64))).enc gG xx) (glMem gl) 0 (rOne (cB)).dec =
 (fun (a : Int) =>
 (( cond (decide (0 ≤ a)) (
 some (decide (a < 256))) (
 some (false))) : Option (Bool))) xx := by kernel_rfl
theorem ev63 (a : (aOne (pC (cI .i64))).T) : evF (R := (rOne (cB)).T) (cx [] [] []) 1000 Try.f63 ((aOne (pC (cI .i64))).enc gG a) (glMem gl) 0 (rOne (cB)).dec = f63 a := evg63   a
theorem sp63 : VE.Spec Try.prog gG gl 63 (conF (aOne (pC (cI .i64))) (rOne (cB)) (fun a => f63 a)) := spec_of ok63 Try.func63 Try.call63 (lpAll_nil rfl) 1000 (aOne_ok (pC_ok (cI_ok _))) (rOne_ok (cB_ok)) ev63

/-- angle.Between -/
theorem ok60 : CtxOK Try.prog (cx [] [(45, conF (aOne (pC (cI .i64))) (rOne (cI .i64)) (fun a => f45 a)), (63, conF (aOne (pC (cI .i64))) (rOne (cB)) (fun a => f63 a))] []) gl := ctx_of tyOk moOk (show SpecL Try.prog gG gl [(45, conF (aOne (pC (cI .i64))) (rOne (cI .i64)) (fun a => f45 a)), (63, conF (aOne (pC (cI .i64))) (rOne (cB)) (fun a => f63 a))] from ⟨sp45, sp63, trivial⟩) (show FnL Try.prog [] from trivial) (fnLp_nil _) joinOk
noncomputable def f60 (a : Int) (b : Int) (c : Int) : Option (Int × Int) :=
 Option.bind (f63 a) (fun r3 =>
 cond (!r3) (
 some ((0, 1))) (
 Option.bind (f63 b) (fun r4 =>
 cond (!r4) (
 some ((0, 1))) (
 cond (!decide (c = 64)) (
 cond (!decide (c = 192)) (
 some ((0, 9))) (
 Option.bind (f45 (IntKind.i64.wrap (b - a))) (fun r5 =>
 cond (decide (r5 < 128)) (
 some ((r5, 0))) (
 cond (decide (128 < r5)) (
 some ((IntKind.i64.wrap (r5 - 256), 0))) (
 cond (decide (a = c)) (
 Option.bind (f45 (IntKind.i64.wrap (0 - a))) (fun r6 =>
 cond (decide (r6 < 128)) (
 some ((128, 0))) (
 some ((-128, 0))))) (
 cond (decide (b = c)) (
 Option.bind (f45 (IntKind.i64.wrap (0 - a))) (fun r6 =>
 cond (decide (r6 < 128)) (
 some ((128, 0))) (
 some ((-128, 0))))) (
 Option.bind (f45 (IntKind.i64.wrap (c - a))) (fun r6 =>
 cond (decide (r6 < 128)) (
 some ((128, 0))) (
 some ((-128, 0))))))))))) (
 Option.bind (f45 (IntKind.i64.wrap (b - a))) (fun r5 =>
 cond (decide (r5 < 128)) (
 some ((r5, 0))) (
 cond (decide (128 < r5)) (
 some ((IntKind.i64.wrap (r5 - 256), 0))) (
 cond (decide (a = c)) (
 Option.bind (f45 (IntKind.i64.wrap (0 - a))) (fun r6 =>
 cond (decide (r6 < 128)) (
 some ((128, 0))) (
 some ((-128, 0))))) (
 cond (decide (b = c)) (
 Option.bind (f45 (IntKind.i64.wrap (0 - a))) (fun r6 =>
 cond (decide (r6 < 128)) (
 some ((128, 0))) (
 some ((-128, 0))))) (
 Option.bind (f45 (IntKind.i64.wrap (c - a))) (fun r6 =>
 cond (decide (r6 < 128)) (
 some ((128, 0))) (
 some ((-128, 0))))))))))))))
theorem evg60 (f45 : (Int) → Option (Int)) (f63 : (Int) → Option (Bool))  (xx : (aCons (pC (cI .i64)) (aCons (pC (cI .i64)) (aOne (pC (cI .i64))))).T) : evF (R := (rTup (cCons (cI .i64) (cOne (cI .i64)))).T) (cx [] [(45, conF (aOne (pC (cI .i64))) (rOne (cI .i64)) (fun a => f45 a)), (63, conF (aOne (pC (cI .i64))) (rOne (cB)) (fun a => f63 a))] []) 1000 Try.f60 ((aCons (pC (cI .i64)) (aCons (pC (cI .i64)) (aOne (pC (cI .i64))))).enc gG xx) (glMem gl) 0 (rTup (cCons (cI .i64) (cOne (cI .i64)))).dec =
 (fun (a : Int) (b : Int) (c : Int) =>
 (( Option.bind (f63 a) (fun r3 =>
 cond (!r3) (
 some ((0, 1))) (
 Option.bind (f63 b) (fun r4 =>
 cond (!r4) (
 some ((0, 1))) (
 cond (!decide (c = 64)) (
 cond (!decide (c = 192)) (
 some ((0, 9))) (
 Option.bind (f45 (IntKind.i64.wrap (b - a))) (fun r5 =>
 cond (decide (r5 < 128)) (
 some ((r5, 0))) (
 cond (decide (128 < r5)) (
 some ((IntKind.i64.wrap (r5 - 256), 0))) (
 cond (decide (a = c)) (
 Option.bind (f45 (IntKind.i64.wrap (0 - a))) (fun r6 =>
 cond (decide (r6 < 128)) (
 some ((128, 0))) (
 some ((-128, 0))))) (
 cond (decide (b = c)) (
 Option.bind (f45 (IntKind.i64.wrap (0 - a))) (fun r6 =>
 cond (decide (r6 < 128)) (
 some ((128, 0))) (
 some ((-128, 0))))) (
 Option.bind (f45 (IntKind.i64.wrap (c - a))) (fun r6 =>
 cond (decide (r6 < 128)) (
 some ((128, 0))) (
 some ((-128, 0))))))))))) (
 Option.bind (f45 (IntKind.i64.wrap (b - a))) (fun r5 =>
 cond (decide (r5 < 128)) (
 some ((r5, 0))) (
 cond (decide (128 < r5)) (
 some ((IntKind.i64.wrap (r5 - 256), 0))) (
 cond (decide (a = c)) (
 Option.bind (f45 (IntKind.i64.wrap (0 - a))) (fun r6 =>
 cond (decide (r6 < 128)) (
 some ((128, 0))) (
 some ((-128, 0))))) (
 cond (decide (b = c)) (
 Option.bind (f45 (IntKind.i64.wrap (0 - a))) (fun r6 =>
 cond (decide (r6 < 128)) (
 some ((128, 0))) (
 some ((-128, 0))))) (
 Option.bind (f45 (IntKind.i64.wrap (c - a))) (fun r6 =>
 cond (decide (r6 < 128)) (
 some ((128, 0))) (
 some ((-128, 0))))))))))))))) : Option (Int × Int))) xx.1 xx.2.1 xx.2.2 := by kernel_rfl
theorem ev60 (a : (aCons (pC (cI .i64)) (aCons (pC (cI .i64)) (aOne (pC (cI .i64))))).T) : evF (R := (rTup (cCons (cI .i64) (cOne (cI .i64)))).T) (cx [] [(45, conF (aOne (pC (cI .i64))) (rOne (cI .i64)) (fun a => f45 a)), (63, conF (aOne (pC (cI .i64))) (rOne (cB)) (fun a => f63 a))] []) 1000 Try.f60 ((aCons (pC (cI .i64)) (aCons (pC (cI .i64)) (aOne (pC (cI .i64))))).enc gG a) (glMem gl) 0 (rTup (cCons (cI .i64) (cOne (cI .i64)))).dec = f60 a.1 a.2.1 a.2.2 := evg60 f45 f63  a
theorem sp60 : VE.Spec Try.prog gG gl 60 (conF (aCons (pC (cI .i64)) (aCons (pC (cI .i64)) (aOne (pC (cI .i64))))) (rTup (cCons (cI .i64) (cOne (cI .i64)))) (fun a => f60 a.1 a.2.1 a.2.2)) := spec_of ok60 Try.func60 Try.call60 (lpAll_nil rfl) 1000 (aCons_ok (pC_ok (cI_ok _)) (aCons_ok (pC_ok (cI_ok _)) (aOne_ok (pC_ok (cI_ok _))))) (rTup_ok (cCons_ok (cI_ok _) (cOne_ok (cI_ok _)))) ev60

/-- limits.change -/
theorem ok55 : CtxOK Try.prog (cx [] [(60, conF (aCons (pC (cI .i64)) (aCons (pC (cI .i64)) (aOne (pC (cI .i64))))) (rTup (cCons (cI .i64) (cOne (cI .i64)))) (fun a => f60 (a.1) (a.2.1) (a.2.2)))] []) gl := ctx_of tyOk moOk (show SpecL Try.prog gG gl [(60, conF (aCons (pC (cI .i64)) (aCons (pC (cI .i64)) (aOne (pC (cI .i64))))) (rTup (cCons (cI .i64) (cOne (cI .i64)))) (fun a => f60 (a.1) (a.2.1) (a.2.2)))] from ⟨sp60, trivial⟩) (show FnL Try.prog [] from trivial) (fnLp_nil _) joinOk
noncomputable def f55 (a : Int) (b : Int) : Option (Int) :=
 Option.bind (f60 a b 64) (fun r2 =>
 some (maxI r2.fst (IntKind.i64.wrap (0 - r2.fst))))
theorem evg55 (f60 : (Int) → (Int) → (Int) → Option (Int × Int))  (xx : (aCons (pC (cI .i64)) (aOne (pC (cI .i64)))).T) : evF (R := (rOne (cI .i64)).T) (cx [] [(60, conF (aCons (pC (cI .i64)) (aCons (pC (cI .i64)) (aOne (pC (cI .i64))))) (rTup (cCons (cI .i64) (cOne (cI .i64)))) (fun a => f60 (a.1) (a.2.1) (a.2.2)))] []) 1000 Try.f55 ((aCons (pC (cI .i64)) (aOne (pC (cI .i64)))).enc gG xx) (glMem gl) 0 (rOne (cI .i64)).dec =
 (fun (a : Int) (b : Int) =>
 (( Option.bind (f60 a b 64) (fun r2 =>
 some (maxI r2.fst (IntKind.i64.wrap (0 - r2.fst))))) : Option (Int))) xx.1 xx.2 := by kernel_rfl
theorem ev55 (a : (aCons (pC (cI .i64)) (aOne (pC (cI .i64)))).T) : evF (R := (rOne (cI .i64)).T) (cx [] [(60, conF (aCons (pC (cI .i64)) (aCons (pC (cI .i64)) (aOne (pC (cI .i64))))) (rTup (cCons (cI .i64) (cOne (cI .i64)))) (fun a => f60 (a.1) (a.2.1) (a.2.2)))] []) 1000 Try.f55 ((aCons (pC (cI .i64)) (aOne (pC (cI .i64)))).enc gG a) (glMem gl) 0 (rOne (cI .i64)).dec = f55 a.1 a.2 := evg55 f60  a
theorem sp55 : VE.Spec Try.prog gG gl 55 (conF (aCons (pC (cI .i64)) (aOne (pC (cI .i64)))) (rOne (cI .i64)) (fun a => f55 a.1 a.2)) := spec_of ok55 Try.func55 Try.call55 (lpAll_nil rfl) 1000 (aCons_ok (pC_ok (cI_ok _)) (aOne_ok (pC_ok (cI_ok _)))) (rOne_ok (cI_ok _)) ev55

/-- dancestudiolaw22.awake -/
theorem ok16 : CtxOK Try.prog (cx [(19, Try.f19), (24, Try.f24), (37, Try.f37), (41, Try.f41), (42, Try.f42)] [(12, conF (aOne (pC (cX kx26))) (rTup (cCons (cX kx26) (cOne (cI .i64)))) (fun a => f12 a)), (14, conF (aOne (pC (cX kx26))) (rOne (cI .i64)) (fun a => f14 a)), (22, conF (aNil) (rOne (cX kx26)) (fun a => f22)), (31, conF (aCons (pC (cX kx26)) (aOne (pC (cA .i64 3)))) (rOne (cB)) (fun a => f31 (a.1) (a.2))), (32, conF (aOne (pC (cA .i64 3))) (rOne (cA .i64 22)) (fun a => f32 a)), (34, conF (aCons (pC (cA .i64 6)) (aOne (pC (cA .i64 3)))) (rOne (cB)) (fun a => f34 (a.1) (a.2))), (40, conF (aOne (pC (cA .i64 22))) (rOne (cI .i64)) (fun a => f40 a)), (45, conF (aOne (pC (cI .i64))) (rOne (cI .i64)) (fun a => f45 a)), (49, conF (aOne (pC (cA .i64 3))) (rOne (cB)) (fun a => f49 a)), (50, conF (aCons (pC (cA .i64 6)) (aOne (pC (cI .i64)))) (rOne (cB)) (fun a => f50 (a.1) (a.2))), (55, conF (aCons (pC (cI .i64)) (aOne (pC (cI .i64)))) (rOne (cI .i64)) (fun a => f55 (a.1) (a.2)))] []) gl := ctx_of tyOk moOk (show SpecL Try.prog gG gl [(12, conF (aOne (pC (cX kx26))) (rTup (cCons (cX kx26) (cOne (cI .i64)))) (fun a => f12 a)), (14, conF (aOne (pC (cX kx26))) (rOne (cI .i64)) (fun a => f14 a)), (22, conF (aNil) (rOne (cX kx26)) (fun a => f22)), (31, conF (aCons (pC (cX kx26)) (aOne (pC (cA .i64 3)))) (rOne (cB)) (fun a => f31 (a.1) (a.2))), (32, conF (aOne (pC (cA .i64 3))) (rOne (cA .i64 22)) (fun a => f32 a)), (34, conF (aCons (pC (cA .i64 6)) (aOne (pC (cA .i64 3)))) (rOne (cB)) (fun a => f34 (a.1) (a.2))), (40, conF (aOne (pC (cA .i64 22))) (rOne (cI .i64)) (fun a => f40 a)), (45, conF (aOne (pC (cI .i64))) (rOne (cI .i64)) (fun a => f45 a)), (49, conF (aOne (pC (cA .i64 3))) (rOne (cB)) (fun a => f49 a)), (50, conF (aCons (pC (cA .i64 6)) (aOne (pC (cI .i64)))) (rOne (cB)) (fun a => f50 (a.1) (a.2))), (55, conF (aCons (pC (cI .i64)) (aOne (pC (cI .i64)))) (rOne (cI .i64)) (fun a => f55 (a.1) (a.2)))] from ⟨sp12, sp14, sp22, sp31, sp32, sp34, sp40, sp45, sp49, sp50, sp55, trivial⟩) (show FnL Try.prog [(19, Try.f19), (24, Try.f24), (37, Try.f37), (41, Try.f41), (42, Try.f42)] from ⟨⟨Try.func19, Try.call19⟩, ⟨Try.func24, Try.call24⟩, ⟨Try.func37, Try.call37⟩, ⟨Try.func41, Try.call41⟩, ⟨Try.func42, Try.call42⟩, trivial⟩) (fnLp_nil _) joinOk
noncomputable def f16  : Option (Bool) :=
 some true
theorem ev16 (a : (aNil).T) : evF (R := (rOne (cB)).T) (cx [(19, Try.f19), (24, Try.f24), (37, Try.f37), (41, Try.f41), (42, Try.f42)] [(12, conF (aOne (pC (cX kx26))) (rTup (cCons (cX kx26) (cOne (cI .i64)))) (fun a => f12 a)), (14, conF (aOne (pC (cX kx26))) (rOne (cI .i64)) (fun a => f14 a)), (22, conF (aNil) (rOne (cX kx26)) (fun a => f22)), (31, conF (aCons (pC (cX kx26)) (aOne (pC (cA .i64 3)))) (rOne (cB)) (fun a => f31 (a.1) (a.2))), (32, conF (aOne (pC (cA .i64 3))) (rOne (cA .i64 22)) (fun a => f32 a)), (34, conF (aCons (pC (cA .i64 6)) (aOne (pC (cA .i64 3)))) (rOne (cB)) (fun a => f34 (a.1) (a.2))), (40, conF (aOne (pC (cA .i64 22))) (rOne (cI .i64)) (fun a => f40 a)), (45, conF (aOne (pC (cI .i64))) (rOne (cI .i64)) (fun a => f45 a)), (49, conF (aOne (pC (cA .i64 3))) (rOne (cB)) (fun a => f49 a)), (50, conF (aCons (pC (cA .i64 6)) (aOne (pC (cI .i64)))) (rOne (cB)) (fun a => f50 (a.1) (a.2))), (55, conF (aCons (pC (cI .i64)) (aOne (pC (cI .i64)))) (rOne (cI .i64)) (fun a => f55 (a.1) (a.2)))] []) 1000 Try.f16 ((aNil).enc gG a) (glMem gl) 0 (rOne (cB)).dec = f16 := by kernel_rfl
theorem sp16 : VE.Spec Try.prog gG gl 16 (conF (aNil) (rOne (cB)) (fun a => f16)) := spec_of ok16 Try.func16 Try.call16 (lpAll_nil rfl) 1000 (aNil_ok) (rOne_ok (cB_ok)) ev16

/-- dancestudiolaw22.LimitsChecks -/
theorem ok3 : CtxOK Try.prog (cx [] [(12, conF (aOne (pC (cX kx26))) (rTup (cCons (cX kx26) (cOne (cI .i64)))) (fun a => f12 a)), (13, conF (aOne (pC (cX kx26))) (rTup (cCons (cX kx26) (cOne (cI .i64)))) (fun a => f13 a)), (14, conF (aOne (pC (cX kx26))) (rOne (cI .i64)) (fun a => f14 a)), (15, conF (aOne (pC (cX kx26))) (rOne (cI .i64)) (fun a => f15 a)), (16, conF (aNil) (rOne (cB)) (fun a => f16))] []) gl := ctx_of tyOk moOk (show SpecL Try.prog gG gl [(12, conF (aOne (pC (cX kx26))) (rTup (cCons (cX kx26) (cOne (cI .i64)))) (fun a => f12 a)), (13, conF (aOne (pC (cX kx26))) (rTup (cCons (cX kx26) (cOne (cI .i64)))) (fun a => f13 a)), (14, conF (aOne (pC (cX kx26))) (rOne (cI .i64)) (fun a => f14 a)), (15, conF (aOne (pC (cX kx26))) (rOne (cI .i64)) (fun a => f15 a)), (16, conF (aNil) (rOne (cB)) (fun a => f16))] from ⟨sp12, sp13, sp14, sp15, sp16, trivial⟩) (show FnL Try.prog [] from trivial) (fnLp_nil _) joinOk
noncomputable def f3 (a : Nat → Int) : Option (Bool) :=
 Option.bind (f12 (nthI [a 0, a 1, a 2, a 3, a 4, a 5, a 6, a 7, a 8, a 9, a 10, a 11, a 12, a 13, a 14, a 15, a 16, a 17, a 18, a 19, a 20, a 21, a 22, a 23, a 24, a 25, a 26, a 27, a 28, a 29, a 30, a 31, a 32, a 33, a 34, a 35, bif !decide (a 36 = 0) then 1 else 0, bif !decide (a 37 = 0) then 1 else 0, a 38, a 39])) (fun r1 =>
 Option.bind (f13 (nthI [a 0, a 1, a 2, a 3, a 4, a 5, a 6, a 7, a 8, a 9, a 10, a 11, a 12, a 13, a 14, a 15, a 16, a 17, a 18, a 19, a 20, a 21, a 22, a 23, a 24, a 25, a 26, a 27, a 28, a 29, a 30, a 31, a 32, a 33, a 34, a 35, bif !decide (a 36 = 0) then 1 else 0, bif !decide (a 37 = 0) then 1 else 0, a 38, a 39])) (fun r2 =>
 Option.bind (f14 (nthI [a 0, a 1, a 2, a 3, a 4, a 5, a 6, a 7, a 8, a 9, a 10, a 11, a 12, a 13, a 14, a 15, a 16, a 17, a 18, a 19, a 20, a 21, a 22, a 23, a 24, a 25, a 26, a 27, a 28, a 29, a 30, a 31, a 32, a 33, a 34, a 35, bif !decide (a 36 = 0) then 1 else 0, bif !decide (a 37 = 0) then 1 else 0, a 38, a 39])) (fun r3 =>
 Option.bind (f15 (nthI [a 0, a 1, a 2, a 3, a 4, a 5, a 6, a 7, a 8, a 9, a 10, a 11, a 12, a 13, a 14, a 15, a 16, a 17, a 18, a 19, a 20, a 21, a 22, a 23, a 24, a 25, a 26, a 27, a 28, a 29, a 30, a 31, a 32, a 33, a 34, a 35, bif !decide (a 36 = 0) then 1 else 0, bif !decide (a 37 = 0) then 1 else 0, a 38, a 39])) (fun r4 =>
 cond (decide (r3 = r4)) (
 cond (decide (r1.fst 0 = r2.fst 0) && (decide (r1.fst 1 = r2.fst 1) && (decide (r1.fst 2 = r2.fst 2) && (decide (r1.fst 3 = r2.fst 3) && (decide (r1.fst 4 = r2.fst 4) && decide (r1.fst 5 = r2.fst 5))))) && (decide (r1.fst 6 = r2.fst 6) && (decide (r1.fst 7 = r2.fst 7) && (decide (r1.fst 8 = r2.fst 8) && (decide (r1.fst 9 = r2.fst 9) && (decide (r1.fst 10 = r2.fst 10) && decide (r1.fst 11 = r2.fst 11))))) && (decide (r1.fst 12 = r2.fst 12) && (decide (r1.fst 13 = r2.fst 13) && (decide (r1.fst 14 = r2.fst 14) && (decide (r1.fst 15 = r2.fst 15) && (decide (r1.fst 16 = r2.fst 16) && decide (r1.fst 17 = r2.fst 17))))) && (decide (r1.fst 18 = r2.fst 18) && (decide (r1.fst 19 = r2.fst 19) && (decide (r1.fst 20 = r2.fst 20) && (decide (r1.fst 21 = r2.fst 21) && (decide (r1.fst 22 = r2.fst 22) && decide (r1.fst 23 = r2.fst 23))))) && (decide (r1.fst 24 = r2.fst 24) && (decide (r1.fst 25 = r2.fst 25) && (decide (r1.fst 26 = r2.fst 26) && (decide (r1.fst 27 = r2.fst 27) && (decide (r1.fst 28 = r2.fst 28) && decide (r1.fst 29 = r2.fst 29))))) && (decide (r1.fst 30 = r2.fst 30) && (decide (r1.fst 31 = r2.fst 31) && (decide (r1.fst 32 = r2.fst 32) && (decide (r1.fst 33 = r2.fst 33) && (decide (r1.fst 34 = r2.fst 34) && decide (r1.fst 35 = r2.fst 35)))))))))) && ((!decide (r1.fst 36 = 0)) == !decide (r2.fst 36 = 0) && ((!decide (r1.fst 37 = 0)) == !decide (r2.fst 37 = 0) && (decide (r1.fst 38 = r2.fst 38) && decide (r1.fst 39 = r2.fst 39))))) (
 cond (decide (r1.snd = r2.snd)) (
 Option.bind (f16) (fun r5 =>
 some (r5))) (
 some (false))) (
 some (false))) (
 some (false))))))
theorem evg3 (f12 : (Nat → Int) → Option ((Nat → Int) × Int)) (f13 : (Nat → Int) → Option ((Nat → Int) × Int)) (f14 : (Nat → Int) → Option (Int)) (f15 : (Nat → Int) → Option (Int)) (f16 : Option (Bool))  (xx : (aOne (pC (cX kx26))).T) : evF (R := (rOne (cB)).T) (cx [] [(12, conF (aOne (pC (cX kx26))) (rTup (cCons (cX kx26) (cOne (cI .i64)))) (fun a => f12 a)), (13, conF (aOne (pC (cX kx26))) (rTup (cCons (cX kx26) (cOne (cI .i64)))) (fun a => f13 a)), (14, conF (aOne (pC (cX kx26))) (rOne (cI .i64)) (fun a => f14 a)), (15, conF (aOne (pC (cX kx26))) (rOne (cI .i64)) (fun a => f15 a)), (16, conF (aNil) (rOne (cB)) (fun a => f16))] []) 1000 Try.f3 ((aOne (pC (cX kx26))).enc gG xx) (glMem gl) 0 (rOne (cB)).dec =
 (fun (a : Nat → Int) =>
 (( Option.bind (f12 (nthI [a 0, a 1, a 2, a 3, a 4, a 5, a 6, a 7, a 8, a 9, a 10, a 11, a 12, a 13, a 14, a 15, a 16, a 17, a 18, a 19, a 20, a 21, a 22, a 23, a 24, a 25, a 26, a 27, a 28, a 29, a 30, a 31, a 32, a 33, a 34, a 35, bif !decide (a 36 = 0) then 1 else 0, bif !decide (a 37 = 0) then 1 else 0, a 38, a 39])) (fun r1 =>
 Option.bind (f13 (nthI [a 0, a 1, a 2, a 3, a 4, a 5, a 6, a 7, a 8, a 9, a 10, a 11, a 12, a 13, a 14, a 15, a 16, a 17, a 18, a 19, a 20, a 21, a 22, a 23, a 24, a 25, a 26, a 27, a 28, a 29, a 30, a 31, a 32, a 33, a 34, a 35, bif !decide (a 36 = 0) then 1 else 0, bif !decide (a 37 = 0) then 1 else 0, a 38, a 39])) (fun r2 =>
 Option.bind (f14 (nthI [a 0, a 1, a 2, a 3, a 4, a 5, a 6, a 7, a 8, a 9, a 10, a 11, a 12, a 13, a 14, a 15, a 16, a 17, a 18, a 19, a 20, a 21, a 22, a 23, a 24, a 25, a 26, a 27, a 28, a 29, a 30, a 31, a 32, a 33, a 34, a 35, bif !decide (a 36 = 0) then 1 else 0, bif !decide (a 37 = 0) then 1 else 0, a 38, a 39])) (fun r3 =>
 Option.bind (f15 (nthI [a 0, a 1, a 2, a 3, a 4, a 5, a 6, a 7, a 8, a 9, a 10, a 11, a 12, a 13, a 14, a 15, a 16, a 17, a 18, a 19, a 20, a 21, a 22, a 23, a 24, a 25, a 26, a 27, a 28, a 29, a 30, a 31, a 32, a 33, a 34, a 35, bif !decide (a 36 = 0) then 1 else 0, bif !decide (a 37 = 0) then 1 else 0, a 38, a 39])) (fun r4 =>
 cond (decide (r3 = r4)) (
 cond (decide (r1.fst 0 = r2.fst 0) && (decide (r1.fst 1 = r2.fst 1) && (decide (r1.fst 2 = r2.fst 2) && (decide (r1.fst 3 = r2.fst 3) && (decide (r1.fst 4 = r2.fst 4) && decide (r1.fst 5 = r2.fst 5))))) && (decide (r1.fst 6 = r2.fst 6) && (decide (r1.fst 7 = r2.fst 7) && (decide (r1.fst 8 = r2.fst 8) && (decide (r1.fst 9 = r2.fst 9) && (decide (r1.fst 10 = r2.fst 10) && decide (r1.fst 11 = r2.fst 11))))) && (decide (r1.fst 12 = r2.fst 12) && (decide (r1.fst 13 = r2.fst 13) && (decide (r1.fst 14 = r2.fst 14) && (decide (r1.fst 15 = r2.fst 15) && (decide (r1.fst 16 = r2.fst 16) && decide (r1.fst 17 = r2.fst 17))))) && (decide (r1.fst 18 = r2.fst 18) && (decide (r1.fst 19 = r2.fst 19) && (decide (r1.fst 20 = r2.fst 20) && (decide (r1.fst 21 = r2.fst 21) && (decide (r1.fst 22 = r2.fst 22) && decide (r1.fst 23 = r2.fst 23))))) && (decide (r1.fst 24 = r2.fst 24) && (decide (r1.fst 25 = r2.fst 25) && (decide (r1.fst 26 = r2.fst 26) && (decide (r1.fst 27 = r2.fst 27) && (decide (r1.fst 28 = r2.fst 28) && decide (r1.fst 29 = r2.fst 29))))) && (decide (r1.fst 30 = r2.fst 30) && (decide (r1.fst 31 = r2.fst 31) && (decide (r1.fst 32 = r2.fst 32) && (decide (r1.fst 33 = r2.fst 33) && (decide (r1.fst 34 = r2.fst 34) && decide (r1.fst 35 = r2.fst 35)))))))))) && ((!decide (r1.fst 36 = 0)) == !decide (r2.fst 36 = 0) && ((!decide (r1.fst 37 = 0)) == !decide (r2.fst 37 = 0) && (decide (r1.fst 38 = r2.fst 38) && decide (r1.fst 39 = r2.fst 39))))) (
 cond (decide (r1.snd = r2.snd)) (
 Option.bind (f16) (fun r5 =>
 some (r5))) (
 some (false))) (
 some (false))) (
 some (false))))))) : Option (Bool))) xx := by kernel_rfl
theorem ev3 (a : (aOne (pC (cX kx26))).T) : evF (R := (rOne (cB)).T) (cx [] [(12, conF (aOne (pC (cX kx26))) (rTup (cCons (cX kx26) (cOne (cI .i64)))) (fun a => f12 a)), (13, conF (aOne (pC (cX kx26))) (rTup (cCons (cX kx26) (cOne (cI .i64)))) (fun a => f13 a)), (14, conF (aOne (pC (cX kx26))) (rOne (cI .i64)) (fun a => f14 a)), (15, conF (aOne (pC (cX kx26))) (rOne (cI .i64)) (fun a => f15 a)), (16, conF (aNil) (rOne (cB)) (fun a => f16))] []) 1000 Try.f3 ((aOne (pC (cX kx26))).enc gG a) (glMem gl) 0 (rOne (cB)).dec = f3 a := evg3 f12 f13 f14 f15 f16  a
theorem sp3 : VE.Spec Try.prog gG gl 3 (conF (aOne (pC (cX kx26))) (rOne (cB)) (fun a => f3 a)) := spec_of ok3 Try.func3 Try.call3 (lpAll_nil rfl) 1000 (aOne_ok (pC_ok (cX_ok _))) (rOne_ok (cB_ok)) ev3

/-- dancestudioref18.limbed -/
theorem ok46 : CtxOK Try.prog (cx [] [] []) gl := ctx_of tyOk moOk (show SpecL Try.prog gG gl [] from trivial) (show FnL Try.prog [] from trivial) (fnLp_nil _) joinOk
noncomputable def f46 (a : Int) : Option (Bool) :=
 cond (decide (0 ≤ a)) (
 some (decide (a < 6))) (
 some (false))
theorem evg46   (xx : (aOne (pC (cI .i64))).T) : evF (R := (rOne (cB)).T) (cx [] [] []) 1000 Try.f46 ((aOne (pC (cI .i64))).enc gG xx) (glMem gl) 0 (rOne (cB)).dec =
 (fun (a : Int) =>
 (( cond (decide (0 ≤ a)) (
 some (decide (a < 6))) (
 some (false))) : Option (Bool))) xx := by kernel_rfl
theorem ev46 (a : (aOne (pC (cI .i64))).T) : evF (R := (rOne (cB)).T) (cx [] [] []) 1000 Try.f46 ((aOne (pC (cI .i64))).enc gG a) (glMem gl) 0 (rOne (cB)).dec = f46 a := evg46   a
theorem sp46 : VE.Spec Try.prog gG gl 46 (conF (aOne (pC (cI .i64))) (rOne (cB)) (fun a => f46 a)) := spec_of ok46 Try.func46 Try.call46 (lpAll_nil rfl) 1000 (aOne_ok (pC_ok (cI_ok _))) (rOne_ok (cB_ok)) ev46

/-- dancestudioref18.Pole -/
theorem ok51 : CtxOK Try.prog (cx [] [] []) gl := ctx_of tyOk moOk (show SpecL Try.prog gG gl [] from trivial) (show FnL Try.prog [] from trivial) (fnLp_nil _) joinOk
noncomputable def f51 (a : Nat → Int) : Option (Bool) :=
 cond (decide (a 1 = 64)) (
 some (true)) (
 some (decide (a 1 = -64)))
theorem evg51   (xx : (aOne (pC (cA .i64 3))).T) : evF (R := (rOne (cB)).T) (cx [] [] []) 1000 Try.f51 ((aOne (pC (cA .i64 3))).enc gG xx) (glMem gl) 0 (rOne (cB)).dec =
 (fun (a : Nat → Int) =>
 (( cond (decide (a 1 = 64)) (
 some (true)) (
 some (decide (a 1 = -64)))) : Option (Bool))) xx := by kernel_rfl
theorem ev51 (a : (aOne (pC (cA .i64 3))).T) : evF (R := (rOne (cB)).T) (cx [] [] []) 1000 Try.f51 ((aOne (pC (cA .i64 3))).enc gG a) (glMem gl) 0 (rOne (cB)).dec = f51 a := evg51   a
theorem sp51 : VE.Spec Try.prog gG gl 51 (conF (aOne (pC (cA .i64 3))) (rOne (cB)) (fun a => f51 a)) := spec_of ok51 Try.func51 Try.call51 (lpAll_nil rfl) 1000 (aOne_ok (pC_ok (cA_ok _ _))) (rOne_ok (cB_ok)) ev51

/-- dancestudioref18.Check -/
theorem ok35 : CtxOK Try.prog (cx [] [(46, conF (aOne (pC (cI .i64))) (rOne (cB)) (fun a => f46 a)), (51, conF (aOne (pC (cA .i64 3))) (rOne (cB)) (fun a => f51 a))] []) gl := ctx_of tyOk moOk (show SpecL Try.prog gG gl [(46, conF (aOne (pC (cI .i64))) (rOne (cB)) (fun a => f46 a)), (51, conF (aOne (pC (cA .i64 3))) (rOne (cB)) (fun a => f51 a))] from ⟨sp46, sp51, trivial⟩) (show FnL Try.prog [] from trivial) (fnLp_nil _) joinOk
noncomputable def f35 (a : Int) (b : Nat → Int) : Option (Int) :=
 Option.bind (f46 a) (fun r2 =>
 cond (!r2) (
 some (9)) (
 cond (decide (b 0 < 0)) (
 some (1)) (
 cond (decide (255 < b 0)) (
 some (1)) (
 cond (decide (b 1 < -64)) (
 some (1)) (
 cond (decide (64 < b 1)) (
 some (1)) (
 cond (decide (b 2 < 0)) (
 some (1)) (
 cond (decide (6 < b 2)) (
 some (1)) (
 Option.bind (f51 b) (fun r3 =>
 cond (r3) (
 cond (!decide (b 0 = 0)) (
 some (2)) (
 some (0))) (
 some (0)))))))))))
theorem evg35 (f46 : (Int) → Option (Bool)) (f51 : (Nat → Int) → Option (Bool))  (xx : (aCons (pC (cI .i64)) (aOne (pC (cA .i64 3)))).T) : evF (R := (rOne (cI .i64)).T) (cx [] [(46, conF (aOne (pC (cI .i64))) (rOne (cB)) (fun a => f46 a)), (51, conF (aOne (pC (cA .i64 3))) (rOne (cB)) (fun a => f51 a))] []) 1000 Try.f35 ((aCons (pC (cI .i64)) (aOne (pC (cA .i64 3)))).enc gG xx) (glMem gl) 0 (rOne (cI .i64)).dec =
 (fun (a : Int) (b : Nat → Int) =>
 (( Option.bind (f46 a) (fun r2 =>
 cond (!r2) (
 some (9)) (
 cond (decide (b 0 < 0)) (
 some (1)) (
 cond (decide (255 < b 0)) (
 some (1)) (
 cond (decide (b 1 < -64)) (
 some (1)) (
 cond (decide (64 < b 1)) (
 some (1)) (
 cond (decide (b 2 < 0)) (
 some (1)) (
 cond (decide (6 < b 2)) (
 some (1)) (
 Option.bind (f51 (nthI [b 0, b 1, b 2])) (fun r3 =>
 cond (r3) (
 cond (!decide (b 0 = 0)) (
 some (2)) (
 some (0))) (
 some (0)))))))))))) : Option (Int))) xx.1 xx.2 := by kernel_rfl
noncomputable def g35 (a : Int) (b : Nat → Int) : Option (Int) :=
 Option.bind (f46 a) (fun r2 =>
 cond (!r2) (
 some (9)) (
 cond (decide (b 0 < 0)) (
 some (1)) (
 cond (decide (255 < b 0)) (
 some (1)) (
 cond (decide (b 1 < -64)) (
 some (1)) (
 cond (decide (64 < b 1)) (
 some (1)) (
 cond (decide (b 2 < 0)) (
 some (1)) (
 cond (decide (6 < b 2)) (
 some (1)) (
 Option.bind (f51 (nthI [b 0, b 1, b 2])) (fun r3 =>
 cond (r3) (
 cond (!decide (b 0 = 0)) (
 some (2)) (
 some (0))) (
 some (0)))))))))))
theorem fg35 (a : Int) (b : Nat → Int) : g35 a b = f35 a b := by kernel_rfl
theorem ev35 (a : (aCons (pC (cI .i64)) (aOne (pC (cA .i64 3)))).T) : evF (R := (rOne (cI .i64)).T) (cx [] [(46, conF (aOne (pC (cI .i64))) (rOne (cB)) (fun a => f46 a)), (51, conF (aOne (pC (cA .i64 3))) (rOne (cB)) (fun a => f51 a))] []) 1000 Try.f35 ((aCons (pC (cI .i64)) (aOne (pC (cA .i64 3)))).enc gG a) (glMem gl) 0 (rOne (cI .i64)).dec = f35 a.1 a.2 := (show evF (R := (rOne (cI .i64)).T) (cx [] [(46, conF (aOne (pC (cI .i64))) (rOne (cB)) (fun a => f46 a)), (51, conF (aOne (pC (cA .i64 3))) (rOne (cB)) (fun a => f51 a))] []) 1000 Try.f35 ((aCons (pC (cI .i64)) (aOne (pC (cA .i64 3)))).enc gG a) (glMem gl) 0 (rOne (cI .i64)).dec = g35 a.1 a.2 from evg35 f46 f51  a).trans (fg35 a.1 a.2)
theorem sp35 : VE.Spec Try.prog gG gl 35 (conF (aCons (pC (cI .i64)) (aOne (pC (cA .i64 3)))) (rOne (cI .i64)) (fun a => f35 a.1 a.2)) := spec_of ok35 Try.func35 Try.call35 (lpAll_nil rfl) 1000 (aCons_ok (pC_ok (cI_ok _)) (aOne_ok (pC_ok (cA_ok _ _)))) (rOne_ok (cI_ok _)) ev35

/-- dancestudioref22.upright -/
theorem ok52 : CtxOK Try.prog (cx [] [] []) gl := ctx_of tyOk moOk (show SpecL Try.prog gG gl [] from trivial) (show FnL Try.prog [] from trivial) (fnLp_nil _) joinOk
noncomputable def f52 (a : Nat → Int) : Option (Bool) :=
 cond (decide (a 1 = -64)) (
 some (true)) (
 some (decide (a 1 = 64)))
theorem evg52   (xx : (aOne (pC (cA .i64 3))).T) : evF (R := (rOne (cB)).T) (cx [] [] []) 1000 Try.f52 ((aOne (pC (cA .i64 3))).enc gG xx) (glMem gl) 0 (rOne (cB)).dec =
 (fun (a : Nat → Int) =>
 (( cond (decide (a 1 = -64)) (
 some (true)) (
 some (decide (a 1 = 64)))) : Option (Bool))) xx := by kernel_rfl
theorem ev52 (a : (aOne (pC (cA .i64 3))).T) : evF (R := (rOne (cB)).T) (cx [] [] []) 1000 Try.f52 ((aOne (pC (cA .i64 3))).enc gG a) (glMem gl) 0 (rOne (cB)).dec = f52 a := evg52   a
theorem sp52 : VE.Spec Try.prog gG gl 52 (conF (aOne (pC (cA .i64 3))) (rOne (cB)) (fun a => f52 a)) := spec_of ok52 Try.func52 Try.call52 (lpAll_nil rfl) 1000 (aOne_ok (pC_ok (cA_ok _ _))) (rOne_ok (cB_ok)) ev52

/-- dancestudioref22.InSector -/
theorem ok53 : CtxOK Try.prog (cx [] [] []) gl := ctx_of tyOk moOk (show SpecL Try.prog gG gl [] from trivial) (show FnL Try.prog [] from trivial) (fnLp_nil _) joinOk
noncomputable def f53 (a : Nat → Int) (b : Int) : Option (Bool) :=
 some (decide ((IntKind.i64.wrap (IntKind.i64.wrap (b + 256) - a 2)).tmod 256 ≤ a 3))
theorem evg53   (xx : (aCons (pC (cA .i64 6)) (aOne (pC (cI .i64)))).T) : evF (R := (rOne (cB)).T) (cx [] [] []) 1000 Try.f53 ((aCons (pC (cA .i64 6)) (aOne (pC (cI .i64)))).enc gG xx) (glMem gl) 0 (rOne (cB)).dec =
 (fun (a : Nat → Int) (b : Int) =>
 (( some (decide ((IntKind.i64.wrap (IntKind.i64.wrap (b + 256) - a 2)).tmod 256 ≤ a 3))) : Option (Bool))) xx.1 xx.2 := by kernel_rfl
theorem ev53 (a : (aCons (pC (cA .i64 6)) (aOne (pC (cI .i64)))).T) : evF (R := (rOne (cB)).T) (cx [] [] []) 1000 Try.f53 ((aCons (pC (cA .i64 6)) (aOne (pC (cI .i64)))).enc gG a) (glMem gl) 0 (rOne (cB)).dec = f53 a.1 a.2 := evg53   a
theorem sp53 : VE.Spec Try.prog gG gl 53 (conF (aCons (pC (cA .i64 6)) (aOne (pC (cI .i64)))) (rOne (cB)) (fun a => f53 a.1 a.2)) := spec_of ok53 Try.func53 Try.call53 (lpAll_nil rfl) 1000 (aCons_ok (pC_ok (cA_ok _ _)) (aOne_ok (pC_ok (cI_ok _)))) (rOne_ok (cB_ok)) ev53

/-- dancestudioref22.may -/
theorem ok36 : CtxOK Try.prog (cx [] [(52, conF (aOne (pC (cA .i64 3))) (rOne (cB)) (fun a => f52 a)), (53, conF (aCons (pC (cA .i64 6)) (aOne (pC (cI .i64)))) (rOne (cB)) (fun a => f53 (a.1) (a.2)))] []) gl := ctx_of tyOk moOk (show SpecL Try.prog gG gl [(52, conF (aOne (pC (cA .i64 3))) (rOne (cB)) (fun a => f52 a)), (53, conF (aCons (pC (cA .i64 6)) (aOne (pC (cI .i64)))) (rOne (cB)) (fun a => f53 (a.1) (a.2)))] from ⟨sp52, sp53, trivial⟩) (show FnL Try.prog [] from trivial) (fnLp_nil _) joinOk
noncomputable def f36 (a : Nat → Int) (b : Nat → Int) : Option (Bool) :=
 cond (decide (a 0 ≤ b 1)) (
 cond (decide (b 1 ≤ a 1)) (
 cond (decide (b 2 ≤ a 4)) (
 Option.bind (f52 b) (fun r2 =>
 cond (r2) (
 some (true)) (
 Option.bind (f53 a (b 0)) (fun r3 =>
 some (r3))))) (
 some (false))) (
 some (false))) (
 some (false))
theorem evg36 (f52 : (Nat → Int) → Option (Bool)) (f53 : (Nat → Int) → (Int) → Option (Bool))  (xx : (aCons (pC (cA .i64 6)) (aOne (pC (cA .i64 3)))).T) : evF (R := (rOne (cB)).T) (cx [] [(52, conF (aOne (pC (cA .i64 3))) (rOne (cB)) (fun a => f52 a)), (53, conF (aCons (pC (cA .i64 6)) (aOne (pC (cI .i64)))) (rOne (cB)) (fun a => f53 (a.1) (a.2)))] []) 1000 Try.f36 ((aCons (pC (cA .i64 6)) (aOne (pC (cA .i64 3)))).enc gG xx) (glMem gl) 0 (rOne (cB)).dec =
 (fun (a : Nat → Int) (b : Nat → Int) =>
 (( cond (decide (a 0 ≤ b 1)) (
 cond (decide (b 1 ≤ a 1)) (
 cond (decide (b 2 ≤ a 4)) (
 Option.bind (f52 (nthI [b 0, b 1, b 2])) (fun r2 =>
 cond (r2) (
 some (true)) (
 Option.bind (f53 (nthI [a 0, a 1, a 2, a 3, a 4, a 5]) (b 0)) (fun r3 =>
 some (r3))))) (
 some (false))) (
 some (false))) (
 some (false))) : Option (Bool))) xx.1 xx.2 := by kernel_rfl
noncomputable def g36 (a : Nat → Int) (b : Nat → Int) : Option (Bool) :=
 cond (decide (a 0 ≤ b 1)) (
 cond (decide (b 1 ≤ a 1)) (
 cond (decide (b 2 ≤ a 4)) (
 Option.bind (f52 (nthI [b 0, b 1, b 2])) (fun r2 =>
 cond (r2) (
 some (true)) (
 Option.bind (f53 (nthI [a 0, a 1, a 2, a 3, a 4, a 5]) (b 0)) (fun r3 =>
 some (r3))))) (
 some (false))) (
 some (false))) (
 some (false))
theorem fg36 (a : Nat → Int) (b : Nat → Int) : g36 a b = f36 a b := by kernel_rfl
theorem ev36 (a : (aCons (pC (cA .i64 6)) (aOne (pC (cA .i64 3)))).T) : evF (R := (rOne (cB)).T) (cx [] [(52, conF (aOne (pC (cA .i64 3))) (rOne (cB)) (fun a => f52 a)), (53, conF (aCons (pC (cA .i64 6)) (aOne (pC (cI .i64)))) (rOne (cB)) (fun a => f53 (a.1) (a.2)))] []) 1000 Try.f36 ((aCons (pC (cA .i64 6)) (aOne (pC (cA .i64 3)))).enc gG a) (glMem gl) 0 (rOne (cB)).dec = f36 a.1 a.2 := (show evF (R := (rOne (cB)).T) (cx [] [(52, conF (aOne (pC (cA .i64 3))) (rOne (cB)) (fun a => f52 a)), (53, conF (aCons (pC (cA .i64 6)) (aOne (pC (cI .i64)))) (rOne (cB)) (fun a => f53 (a.1) (a.2)))] []) 1000 Try.f36 ((aCons (pC (cA .i64 6)) (aOne (pC (cA .i64 3)))).enc gG a) (glMem gl) 0 (rOne (cB)).dec = g36 a.1 a.2 from evg36 f52 f53  a).trans (fg36 a.1 a.2)
theorem sp36 : VE.Spec Try.prog gG gl 36 (conF (aCons (pC (cA .i64 6)) (aOne (pC (cA .i64 3)))) (rOne (cB)) (fun a => f36 a.1 a.2)) := spec_of ok36 Try.func36 Try.call36 (lpAll_nil rfl) 1000 (aCons_ok (pC_ok (cA_ok _ _)) (aOne_ok (pC_ok (cA_ok _ _)))) (rOne_ok (cB_ok)) ev36

/-- dancestudioref22.Allows -/
theorem ok18 : CtxOK Try.prog (cx [] [(15, conF (aOne (pC (cX kx26))) (rOne (cI .i64)) (fun a => f15 a)), (35, conF (aCons (pC (cI .i64)) (aOne (pC (cA .i64 3)))) (rOne (cI .i64)) (fun a => f35 (a.1) (a.2))), (36, conF (aCons (pC (cA .i64 6)) (aOne (pC (cA .i64 3)))) (rOne (cB)) (fun a => f36 (a.1) (a.2)))] []) gl := ctx_of tyOk moOk (show SpecL Try.prog gG gl [(15, conF (aOne (pC (cX kx26))) (rOne (cI .i64)) (fun a => f15 a)), (35, conF (aCons (pC (cI .i64)) (aOne (pC (cA .i64 3)))) (rOne (cI .i64)) (fun a => f35 (a.1) (a.2))), (36, conF (aCons (pC (cA .i64 6)) (aOne (pC (cA .i64 3)))) (rOne (cB)) (fun a => f36 (a.1) (a.2)))] from ⟨sp15, sp35, sp36, trivial⟩) (show FnL Try.prog [] from trivial) (fnLp_nil _) joinOk
noncomputable def f18 (a : Nat → Int) (b : Int) (c : Nat → Int) : Option (Bool × Int) :=
 Option.bind (f15 (nthI [a 0, a 1, a 2, a 3, a 4, a 5, a 6, a 7, a 8, a 9, a 10, a 11, a 12, a 13, a 14, a 15, a 16, a 17, a 18, a 19, a 20, a 21, a 22, a 23, a 24, a 25, a 26, a 27, a 28, a 29, a 30, a 31, a 32, a 33, a 34, a 35, bif !decide (a 36 = 0) then 1 else 0, bif !decide (a 37 = 0) then 1 else 0, a 38, a 39])) (fun r3 =>
 cond (!decide (r3 = 0)) (
 some ((false, r3))) (
 Option.bind (f35 b c) (fun r4 =>
 cond (!decide (r4 = 0)) (
 some ((false, r4))) (
 cond (decide (0 ≤ b)) (
 cond (decide (b < 6)) (
 Option.bind (f36 (nthI [[a 0, a 6, a 12, a 18, a 24, a 30].getD b.toNat 0, [a 1, a 7, a 13, a 19, a 25, a 31].getD b.toNat 0, [a 2, a 8, a 14, a 20, a 26, a 32].getD b.toNat 0, [a 3, a 9, a 15, a 21, a 27, a 33].getD b.toNat 0, [a 4, a 10, a 16, a 22, a 28, a 34].getD b.toNat 0, [a 5, a 11, a 17, a 23, a 29, a 35].getD b.toNat 0]) c) (fun r5 =>
 some ((r5, 0)))) none) none))))
theorem evg18 (f15 : (Nat → Int) → Option (Int)) (f35 : (Int) → (Nat → Int) → Option (Int)) (f36 : (Nat → Int) → (Nat → Int) → Option (Bool))  (xx : (aCons (pC (cX kx26)) (aCons (pC (cI .i64)) (aOne (pC (cA .i64 3))))).T) : evF (R := (rTup (cCons (cB) (cOne (cI .i64)))).T) (cx [] [(15, conF (aOne (pC (cX kx26))) (rOne (cI .i64)) (fun a => f15 a)), (35, conF (aCons (pC (cI .i64)) (aOne (pC (cA .i64 3)))) (rOne (cI .i64)) (fun a => f35 (a.1) (a.2))), (36, conF (aCons (pC (cA .i64 6)) (aOne (pC (cA .i64 3)))) (rOne (cB)) (fun a => f36 (a.1) (a.2)))] []) 1000 Try.f18 ((aCons (pC (cX kx26)) (aCons (pC (cI .i64)) (aOne (pC (cA .i64 3))))).enc gG xx) (glMem gl) 0 (rTup (cCons (cB) (cOne (cI .i64)))).dec =
 (fun (a : Nat → Int) (b : Int) (c : Nat → Int) =>
 (( Option.bind (f15 (nthI [a 0, a 1, a 2, a 3, a 4, a 5, a 6, a 7, a 8, a 9, a 10, a 11, a 12, a 13, a 14, a 15, a 16, a 17, a 18, a 19, a 20, a 21, a 22, a 23, a 24, a 25, a 26, a 27, a 28, a 29, a 30, a 31, a 32, a 33, a 34, a 35, bif !decide (a 36 = 0) then 1 else 0, bif !decide (a 37 = 0) then 1 else 0, a 38, a 39])) (fun r3 =>
 cond (!decide (r3 = 0)) (
 some ((false, r3))) (
 Option.bind (f35 b (nthI [c 0, c 1, c 2])) (fun r4 =>
 cond (!decide (r4 = 0)) (
 some ((false, r4))) (
 cond (decide (0 ≤ b)) (
 cond (decide (b < 6)) (
 Option.bind (f36 (nthI [[a 0, a 6, a 12, a 18, a 24, a 30].getD b.toNat 0, [a 1, a 7, a 13, a 19, a 25, a 31].getD b.toNat 0, [a 2, a 8, a 14, a 20, a 26, a 32].getD b.toNat 0, [a 3, a 9, a 15, a 21, a 27, a 33].getD b.toNat 0, [a 4, a 10, a 16, a 22, a 28, a 34].getD b.toNat 0, [a 5, a 11, a 17, a 23, a 29, a 35].getD b.toNat 0]) (nthI [c 0, c 1, c 2])) (fun r5 =>
 some ((r5, 0)))) none) none))))) : Option (Bool × Int))) xx.1 xx.2.1 xx.2.2 := by kernel_rfl
noncomputable def g18 (a : Nat → Int) (b : Int) (c : Nat → Int) : Option (Bool × Int) :=
 Option.bind (f15 (nthI [a 0, a 1, a 2, a 3, a 4, a 5, a 6, a 7, a 8, a 9, a 10, a 11, a 12, a 13, a 14, a 15, a 16, a 17, a 18, a 19, a 20, a 21, a 22, a 23, a 24, a 25, a 26, a 27, a 28, a 29, a 30, a 31, a 32, a 33, a 34, a 35, bif !decide (a 36 = 0) then 1 else 0, bif !decide (a 37 = 0) then 1 else 0, a 38, a 39])) (fun r3 =>
 cond (!decide (r3 = 0)) (
 some ((false, r3))) (
 Option.bind (f35 b (nthI [c 0, c 1, c 2])) (fun r4 =>
 cond (!decide (r4 = 0)) (
 some ((false, r4))) (
 cond (decide (0 ≤ b)) (
 cond (decide (b < 6)) (
 Option.bind (f36 (nthI [[a 0, a 6, a 12, a 18, a 24, a 30].getD b.toNat 0, [a 1, a 7, a 13, a 19, a 25, a 31].getD b.toNat 0, [a 2, a 8, a 14, a 20, a 26, a 32].getD b.toNat 0, [a 3, a 9, a 15, a 21, a 27, a 33].getD b.toNat 0, [a 4, a 10, a 16, a 22, a 28, a 34].getD b.toNat 0, [a 5, a 11, a 17, a 23, a 29, a 35].getD b.toNat 0]) (nthI [c 0, c 1, c 2])) (fun r5 =>
 some ((r5, 0)))) none) none))))
theorem fg18 (a : Nat → Int) (b : Int) (c : Nat → Int) : g18 a b c = f18 a b c := by kernel_rfl
theorem ev18 (a : (aCons (pC (cX kx26)) (aCons (pC (cI .i64)) (aOne (pC (cA .i64 3))))).T) : evF (R := (rTup (cCons (cB) (cOne (cI .i64)))).T) (cx [] [(15, conF (aOne (pC (cX kx26))) (rOne (cI .i64)) (fun a => f15 a)), (35, conF (aCons (pC (cI .i64)) (aOne (pC (cA .i64 3)))) (rOne (cI .i64)) (fun a => f35 (a.1) (a.2))), (36, conF (aCons (pC (cA .i64 6)) (aOne (pC (cA .i64 3)))) (rOne (cB)) (fun a => f36 (a.1) (a.2)))] []) 1000 Try.f18 ((aCons (pC (cX kx26)) (aCons (pC (cI .i64)) (aOne (pC (cA .i64 3))))).enc gG a) (glMem gl) 0 (rTup (cCons (cB) (cOne (cI .i64)))).dec = f18 a.1 a.2.1 a.2.2 := (show evF (R := (rTup (cCons (cB) (cOne (cI .i64)))).T) (cx [] [(15, conF (aOne (pC (cX kx26))) (rOne (cI .i64)) (fun a => f15 a)), (35, conF (aCons (pC (cI .i64)) (aOne (pC (cA .i64 3)))) (rOne (cI .i64)) (fun a => f35 (a.1) (a.2))), (36, conF (aCons (pC (cA .i64 6)) (aOne (pC (cA .i64 3)))) (rOne (cB)) (fun a => f36 (a.1) (a.2)))] []) 1000 Try.f18 ((aCons (pC (cX kx26)) (aCons (pC (cI .i64)) (aOne (pC (cA .i64 3))))).enc gG a) (glMem gl) 0 (rTup (cCons (cB) (cOne (cI .i64)))).dec = g18 a.1 a.2.1 a.2.2 from evg18 f15 f35 f36  a).trans (fg18 a.1 a.2.1 a.2.2)
theorem sp18 : VE.Spec Try.prog gG gl 18 (conF (aCons (pC (cX kx26)) (aCons (pC (cI .i64)) (aOne (pC (cA .i64 3))))) (rTup (cCons (cB) (cOne (cI .i64)))) (fun a => f18 a.1 a.2.1 a.2.2)) := spec_of ok18 Try.func18 Try.call18 (lpAll_nil rfl) 1000 (aCons_ok (pC_ok (cX_ok _)) (aCons_ok (pC_ok (cI_ok _)) (aOne_ok (pC_ok (cA_ok _ _))))) (rTup_ok (cCons_ok (cB_ok) (cOne_ok (cI_ok _)))) ev18

/-- dancestudiolaw22.LimitsAllows -/
theorem ok4 : CtxOK Try.prog (cx [] [(16, conF (aNil) (rOne (cB)) (fun a => f16)), (17, conF (aCons (pC (cX kx26)) (aCons (pC (cI .i64)) (aOne (pC (cA .i64 3))))) (rTup (cCons (cB) (cOne (cI .i64)))) (fun a => f17 (a.1) (a.2.1) (a.2.2))), (18, conF (aCons (pC (cX kx26)) (aCons (pC (cI .i64)) (aOne (pC (cA .i64 3))))) (rTup (cCons (cB) (cOne (cI .i64)))) (fun a => f18 (a.1) (a.2.1) (a.2.2)))] []) gl := ctx_of tyOk moOk (show SpecL Try.prog gG gl [(16, conF (aNil) (rOne (cB)) (fun a => f16)), (17, conF (aCons (pC (cX kx26)) (aCons (pC (cI .i64)) (aOne (pC (cA .i64 3))))) (rTup (cCons (cB) (cOne (cI .i64)))) (fun a => f17 (a.1) (a.2.1) (a.2.2))), (18, conF (aCons (pC (cX kx26)) (aCons (pC (cI .i64)) (aOne (pC (cA .i64 3))))) (rTup (cCons (cB) (cOne (cI .i64)))) (fun a => f18 (a.1) (a.2.1) (a.2.2)))] from ⟨sp16, sp17, sp18, trivial⟩) (show FnL Try.prog [] from trivial) (fnLp_nil _) joinOk
noncomputable def f4 (a : Nat → Int) (b : Int) (c : Nat → Int) : Option (Bool) :=
 Option.bind (f17 (nthI [a 0, a 1, a 2, a 3, a 4, a 5, a 6, a 7, a 8, a 9, a 10, a 11, a 12, a 13, a 14, a 15, a 16, a 17, a 18, a 19, a 20, a 21, a 22, a 23, a 24, a 25, a 26, a 27, a 28, a 29, a 30, a 31, a 32, a 33, a 34, a 35, bif !decide (a 36 = 0) then 1 else 0, bif !decide (a 37 = 0) then 1 else 0, a 38, a 39]) b c) (fun r3 =>
 Option.bind (f18 (nthI [a 0, a 1, a 2, a 3, a 4, a 5, a 6, a 7, a 8, a 9, a 10, a 11, a 12, a 13, a 14, a 15, a 16, a 17, a 18, a 19, a 20, a 21, a 22, a 23, a 24, a 25, a 26, a 27, a 28, a 29, a 30, a 31, a 32, a 33, a 34, a 35, bif !decide (a 36 = 0) then 1 else 0, bif !decide (a 37 = 0) then 1 else 0, a 38, a 39]) b c) (fun r4 =>
 cond (r3.fst == r4.fst) (
 cond (decide (r3.snd = r4.snd)) (
 Option.bind (f16) (fun r5 =>
 some (r5))) (
 some (false))) (
 some (false))))
theorem evg4 (f16 : Option (Bool)) (f17 : (Nat → Int) → (Int) → (Nat → Int) → Option (Bool × Int)) (f18 : (Nat → Int) → (Int) → (Nat → Int) → Option (Bool × Int))  (xx : (aCons (pC (cX kx26)) (aCons (pC (cI .i64)) (aOne (pC (cA .i64 3))))).T) : evF (R := (rOne (cB)).T) (cx [] [(16, conF (aNil) (rOne (cB)) (fun a => f16)), (17, conF (aCons (pC (cX kx26)) (aCons (pC (cI .i64)) (aOne (pC (cA .i64 3))))) (rTup (cCons (cB) (cOne (cI .i64)))) (fun a => f17 (a.1) (a.2.1) (a.2.2))), (18, conF (aCons (pC (cX kx26)) (aCons (pC (cI .i64)) (aOne (pC (cA .i64 3))))) (rTup (cCons (cB) (cOne (cI .i64)))) (fun a => f18 (a.1) (a.2.1) (a.2.2)))] []) 1000 Try.f4 ((aCons (pC (cX kx26)) (aCons (pC (cI .i64)) (aOne (pC (cA .i64 3))))).enc gG xx) (glMem gl) 0 (rOne (cB)).dec =
 (fun (a : Nat → Int) (b : Int) (c : Nat → Int) =>
 (( Option.bind (f17 (nthI [a 0, a 1, a 2, a 3, a 4, a 5, a 6, a 7, a 8, a 9, a 10, a 11, a 12, a 13, a 14, a 15, a 16, a 17, a 18, a 19, a 20, a 21, a 22, a 23, a 24, a 25, a 26, a 27, a 28, a 29, a 30, a 31, a 32, a 33, a 34, a 35, bif !decide (a 36 = 0) then 1 else 0, bif !decide (a 37 = 0) then 1 else 0, a 38, a 39]) b (nthI [c 0, c 1, c 2])) (fun r3 =>
 Option.bind (f18 (nthI [a 0, a 1, a 2, a 3, a 4, a 5, a 6, a 7, a 8, a 9, a 10, a 11, a 12, a 13, a 14, a 15, a 16, a 17, a 18, a 19, a 20, a 21, a 22, a 23, a 24, a 25, a 26, a 27, a 28, a 29, a 30, a 31, a 32, a 33, a 34, a 35, bif !decide (a 36 = 0) then 1 else 0, bif !decide (a 37 = 0) then 1 else 0, a 38, a 39]) b (nthI [c 0, c 1, c 2])) (fun r4 =>
 cond (r3.fst == r4.fst) (
 cond (decide (r3.snd = r4.snd)) (
 Option.bind (f16) (fun r5 =>
 some (r5))) (
 some (false))) (
 some (false))))) : Option (Bool))) xx.1 xx.2.1 xx.2.2 := by kernel_rfl
noncomputable def g4 (a : Nat → Int) (b : Int) (c : Nat → Int) : Option (Bool) :=
 Option.bind (f17 (nthI [a 0, a 1, a 2, a 3, a 4, a 5, a 6, a 7, a 8, a 9, a 10, a 11, a 12, a 13, a 14, a 15, a 16, a 17, a 18, a 19, a 20, a 21, a 22, a 23, a 24, a 25, a 26, a 27, a 28, a 29, a 30, a 31, a 32, a 33, a 34, a 35, bif !decide (a 36 = 0) then 1 else 0, bif !decide (a 37 = 0) then 1 else 0, a 38, a 39]) b (nthI [c 0, c 1, c 2])) (fun r3 =>
 Option.bind (f18 (nthI [a 0, a 1, a 2, a 3, a 4, a 5, a 6, a 7, a 8, a 9, a 10, a 11, a 12, a 13, a 14, a 15, a 16, a 17, a 18, a 19, a 20, a 21, a 22, a 23, a 24, a 25, a 26, a 27, a 28, a 29, a 30, a 31, a 32, a 33, a 34, a 35, bif !decide (a 36 = 0) then 1 else 0, bif !decide (a 37 = 0) then 1 else 0, a 38, a 39]) b (nthI [c 0, c 1, c 2])) (fun r4 =>
 cond (r3.fst == r4.fst) (
 cond (decide (r3.snd = r4.snd)) (
 Option.bind (f16) (fun r5 =>
 some (r5))) (
 some (false))) (
 some (false))))
theorem fg4 (a : Nat → Int) (b : Int) (c : Nat → Int) : g4 a b c = f4 a b c := by kernel_rfl
theorem ev4 (a : (aCons (pC (cX kx26)) (aCons (pC (cI .i64)) (aOne (pC (cA .i64 3))))).T) : evF (R := (rOne (cB)).T) (cx [] [(16, conF (aNil) (rOne (cB)) (fun a => f16)), (17, conF (aCons (pC (cX kx26)) (aCons (pC (cI .i64)) (aOne (pC (cA .i64 3))))) (rTup (cCons (cB) (cOne (cI .i64)))) (fun a => f17 (a.1) (a.2.1) (a.2.2))), (18, conF (aCons (pC (cX kx26)) (aCons (pC (cI .i64)) (aOne (pC (cA .i64 3))))) (rTup (cCons (cB) (cOne (cI .i64)))) (fun a => f18 (a.1) (a.2.1) (a.2.2)))] []) 1000 Try.f4 ((aCons (pC (cX kx26)) (aCons (pC (cI .i64)) (aOne (pC (cA .i64 3))))).enc gG a) (glMem gl) 0 (rOne (cB)).dec = f4 a.1 a.2.1 a.2.2 := (show evF (R := (rOne (cB)).T) (cx [] [(16, conF (aNil) (rOne (cB)) (fun a => f16)), (17, conF (aCons (pC (cX kx26)) (aCons (pC (cI .i64)) (aOne (pC (cA .i64 3))))) (rTup (cCons (cB) (cOne (cI .i64)))) (fun a => f17 (a.1) (a.2.1) (a.2.2))), (18, conF (aCons (pC (cX kx26)) (aCons (pC (cI .i64)) (aOne (pC (cA .i64 3))))) (rTup (cCons (cB) (cOne (cI .i64)))) (fun a => f18 (a.1) (a.2.1) (a.2.2)))] []) 1000 Try.f4 ((aCons (pC (cX kx26)) (aCons (pC (cI .i64)) (aOne (pC (cA .i64 3))))).enc gG a) (glMem gl) 0 (rOne (cB)).dec = g4 a.1 a.2.1 a.2.2 from evg4 f16 f17 f18  a).trans (fg4 a.1 a.2.1 a.2.2)
theorem sp4 : VE.Spec Try.prog gG gl 4 (conF (aCons (pC (cX kx26)) (aCons (pC (cI .i64)) (aOne (pC (cA .i64 3))))) (rOne (cB)) (fun a => f4 a.1 a.2.1 a.2.2)) := spec_of ok4 Try.func4 Try.call4 (lpAll_nil rfl) 1000 (aCons_ok (pC_ok (cX_ok _)) (aCons_ok (pC_ok (cI_ok _)) (aOne_ok (pC_ok (cA_ok _ _))))) (rOne_ok (cB_ok)) ev4

/-- limits.narrow -/
theorem okl37 : CtxOK Try.prog (cx [] [(45, conF (aOne (pC (cI .i64))) (rOne (cI .i64)) (fun a => f45 a)), (50, conF (aCons (pC (cA .i64 6)) (aOne (pC (cI .i64)))) (rOne (cB)) (fun a => f50 (a.1) (a.2)))] []) gl := ctx_of tyOk moOk (show SpecL Try.prog gG gl [(45, conF (aOne (pC (cI .i64))) (rOne (cI .i64)) (fun a => f45 a)), (50, conF (aCons (pC (cA .i64 6)) (aOne (pC (cI .i64)))) (rOne (cB)) (fun a => f50 (a.1) (a.2)))] from ⟨sp45, sp50, trivial⟩) (show FnL Try.prog [] from trivial) (fnLp_nil _) joinOk
def T37_0 : ST := ⟨[(2, .s (.ptr 0 0)), (3, .s (.ptr 1 0)), (4, .s (.ptr 2 0)), (6, .s (.ptr 28 0)), (7, .s (.i .i64))], [(0, .own [.i .i64, .i .i64, .i .i64, .i .i64, .i .i64, .i .i64] 23), (1, .own [.i .i64, .i .i64, .i .i64, .i .i64, .i .i64, .i .i64] 23), (2, .own [.i .i64, .i .i64, .i .i64, .i .i64, .i .i64, .i .i64] 23), (28, .own [.i .i64, .i .i64, .i .i64, .i .i64, .i .i64, .i .i64] 23)], 36⟩
def outs37_0 : List (AExit × ST) := [(.exit 0, ⟨[(2, .s (.ptr 0 0)), (3, .s (.ptr 1 0)), (4, .s (.ptr 2 0)), (6, .s (.ptr 28 0)), (7, .s (.i .i64))], [(0, .own [.i .i64, .i .i64, .i .i64, .i .i64, .i .i64, .i .i64] 23), (1, .own [.i .i64, .i .i64, .i .i64, .i .i64, .i .i64, .i .i64] 23), (2, .own [.i .i64, .i .i64, .i .i64, .i .i64, .i .i64, .i .i64] 23), (28, .own [.i .i64, .i .i64, .i .i64, .i .i64, .i .i64, .i .i64] 23)], 49⟩)]
noncomputable def s37_0 (rec : (Nat → Int) → (Nat → Sl) → Option LR) (x : Nat → Int) (y : Nat → Sl) : Option LR :=
 cond (decide (x 0 ≤ x 4)) (
 Option.bind (f50 (nthI [x 7, x 8, x 9, x 10, x 11, x 12]) (IntKind.i64.wrap (x 3 + x 0))) (fun r3 =>
 cond (!r3) (
 rec (nthI [IntKind.i64.wrap (x 0 + 1), x 1, x 2, x 3, x 4, x 5, x 6, x 7, x 8, x 9, x 10, x 11, x 12, x 13, x 14, x 15, x 16, x 17, x 18, x 19, x 20, x 21, x 22, x 23, x 24]) (nthS [])) (
 some ((0, nthI [x 0, x 1, x 2, x 3, x 4, x 5, x 6, x 7, x 8, x 9, x 10, x 11, x 12, x 13, x 14, x 15, x 16, x 17, x 18, x 19, x 20, x 21, x 22, x 23, x 24], nthS []))))) (
 some ((0, nthI [x 0, x 1, x 2, x 3, x 4, x 5, x 6, x 7, x 8, x 9, x 10, x 11, x 12, x 13, x 14, x 15, x 16, x 17, x 18, x 19, x 20, x 21, x 22, x 23, x 24], nthS [])))
theorem se37_0 (f50 : (Nat → Int) → (Int) → Option (Bool)) (rec : (Nat → Int) → (Nat → Sl) → Option LR) (x : Nat → Int) (y : Nat → Sl) : evR (cx [] [(45, conF (aOne (pC (cI .i64))) (rOne (cI .i64)) (fun a => f45 a)), (50, conF (aCons (pC (cA .i64 6)) (aOne (pC (cI .i64)))) (rOne (cB)) (fun a => f50 (a.1) (a.2)))] []) 1000 LR 87 (loopAt Try.f37 0) (encT x y T37_0) (roundK T37_0 outs37_0 rec) =
 (( cond (decide (x 0 ≤ x 4)) (
 Option.bind (f50 (nthI [x 7, x 8, x 9, x 10, x 11, x 12]) (IntKind.i64.wrap (x 3 + x 0))) (fun r3 =>
 cond (!r3) (
 rec (nthI [IntKind.i64.wrap (x 0 + 1), x 1, x 2, x 3, x 4, x 5, x 6, x 7, x 8, x 9, x 10, x 11, x 12, x 13, x 14, x 15, x 16, x 17, x 18, x 19, x 20, x 21, x 22, x 23, x 24]) (nthS [])) (
 some ((0, nthI [x 0, x 1, x 2, x 3, x 4, x 5, x 6, x 7, x 8, x 9, x 10, x 11, x 12, x 13, x 14, x 15, x 16, x 17, x 18, x 19, x 20, x 21, x 22, x 23, x 24], nthS []))))) (
 some ((0, nthI [x 0, x 1, x 2, x 3, x 4, x 5, x 6, x 7, x 8, x 9, x 10, x 11, x 12, x 13, x 14, x 15, x 16, x 17, x 18, x 19, x 20, x 21, x 22, x 23, x 24], nthS [])))) : Option LR) := by kernel_rfl
noncomputable def l37_0 (x : Nat → Int) (y : Nat → Sl) : Option LR := iterL s37_0 (400) x y
theorem ls37_0 : LoopSpec Try.prog gG gl 87 ⟨T37_0, outs37_0, l37_0⟩ (loopAt Try.f37 0) := loop_ok (step := s37_0) (fu := fun x y => 400) okl37 1000 (lpNone rfl) (by kernel_rfl) (by kernel_rfl) (fun rec x y => se37_0 f50 rec x y) (fun _ _ => rfl)
def T37_1 : ST := ⟨[(2, .s (.ptr 0 0)), (3, .s (.ptr 1 0)), (4, .s (.ptr 2 0)), (6, .s (.ptr 28 0)), (7, .s (.i .i64)), (8, .s (.i .i64))], [(0, .own [.i .i64, .i .i64, .i .i64, .i .i64, .i .i64, .i .i64] 23), (1, .own [.i .i64, .i .i64, .i .i64, .i .i64, .i .i64, .i .i64] 23), (2, .own [.i .i64, .i .i64, .i .i64, .i .i64, .i .i64, .i .i64] 23), (28, .own [.i .i64, .i .i64, .i .i64, .i .i64, .i .i64, .i .i64] 23)], 55⟩
def outs37_1 : List (AExit × ST) := [(.exit 2, ⟨[(2, .s (.ptr 0 0)), (4, .s (.ptr 2 0)), (6, .s (.ptr 28 0)), (7, .s (.i .i64)), (8, .s (.i .i64))], [(0, .own [.i .i64, .i .i64, .i .i64, .i .i64, .i .i64, .i .i64] 23), (2, .own [.i .i64, .i .i64, .i .i64, .i .i64, .i .i64, .i .i64] 23), (28, .own [.i .i64, .i .i64, .i .i64, .i .i64, .i .i64, .i .i64] 23)], 68⟩)]
noncomputable def s37_1 (rec : (Nat → Int) → (Nat → Sl) → Option LR) (x : Nat → Int) (y : Nat → Sl) : Option LR :=
 cond (decide (x 1 < x 5)) (
 Option.bind (f50 (nthI [x 8, x 9, x 10, x 11, x 12, x 13]) (IntKind.i64.wrap (IntKind.i64.wrap (x 4 + x 1) + 1))) (fun r3 =>
 cond (r3) (
 rec (nthI [x 0, IntKind.i64.wrap (x 1 + 1), x 2, x 3, x 4, x 5, x 6, x 7, x 8, x 9, x 10, x 11, x 12, x 13, x 14, x 15, x 16, x 17, x 18, x 19, x 20, x 21, x 22, x 23, x 24, x 25]) (nthS [])) (
 some ((0, nthI [x 0, x 1, x 2, x 3, x 4, x 5, x 6, x 7, x 14, x 15, x 16, x 17, x 18, x 19, x 20, x 21, x 22, x 23, x 24, x 25], nthS []))))) (
 some ((0, nthI [x 0, x 1, x 2, x 3, x 4, x 5, x 6, x 7, x 14, x 15, x 16, x 17, x 18, x 19, x 20, x 21, x 22, x 23, x 24, x 25], nthS [])))
theorem se37_1 (f50 : (Nat → Int) → (Int) → Option (Bool)) (rec : (Nat → Int) → (Nat → Sl) → Option LR) (x : Nat → Int) (y : Nat → Sl) : evR (cx [] [(45, conF (aOne (pC (cI .i64))) (rOne (cI .i64)) (fun a => f45 a)), (50, conF (aCons (pC (cA .i64 6)) (aOne (pC (cI .i64)))) (rOne (cB)) (fun a => f50 (a.1) (a.2)))] []) 1000 LR 87 (loopAt Try.f37 1) (encT x y T37_1) (roundK T37_1 outs37_1 rec) =
 (( cond (decide (x 1 < x 5)) (
 Option.bind (f50 (nthI [x 8, x 9, x 10, x 11, x 12, x 13]) (IntKind.i64.wrap (IntKind.i64.wrap (x 4 + x 1) + 1))) (fun r3 =>
 cond (r3) (
 rec (nthI [x 0, IntKind.i64.wrap (x 1 + 1), x 2, x 3, x 4, x 5, x 6, x 7, x 8, x 9, x 10, x 11, x 12, x 13, x 14, x 15, x 16, x 17, x 18, x 19, x 20, x 21, x 22, x 23, x 24, x 25]) (nthS [])) (
 some ((0, nthI [x 0, x 1, x 2, x 3, x 4, x 5, x 6, x 7, x 14, x 15, x 16, x 17, x 18, x 19, x 20, x 21, x 22, x 23, x 24, x 25], nthS []))))) (
 some ((0, nthI [x 0, x 1, x 2, x 3, x 4, x 5, x 6, x 7, x 14, x 15, x 16, x 17, x 18, x 19, x 20, x 21, x 22, x 23, x 24, x 25], nthS [])))) : Option LR) := by kernel_rfl
noncomputable def l37_1 (x : Nat → Int) (y : Nat → Sl) : Option LR := iterL s37_1 (400) x y
theorem ls37_1 : LoopSpec Try.prog gG gl 87 ⟨T37_1, outs37_1, l37_1⟩ (loopAt Try.f37 1) := loop_ok (step := s37_1) (fu := fun x y => 400) okl37 1000 (lpNone rfl) (by kernel_rfl) (by kernel_rfl) (fun rec x y => se37_1 f50 rec x y) (fun _ _ => rfl)
theorem ok37 : CtxOK Try.prog (cx [] [(45, conF (aOne (pC (cI .i64))) (rOne (cI .i64)) (fun a => f45 a)), (50, conF (aCons (pC (cA .i64 6)) (aOne (pC (cI .i64)))) (rOne (cB)) (fun a => f50 (a.1) (a.2)))] [(87007, ⟨T37_0, outs37_0, l37_0⟩), (87012, ⟨T37_1, outs37_1, l37_1⟩)]) gl := ctx_of tyOk moOk (show SpecL Try.prog gG gl [(45, conF (aOne (pC (cI .i64))) (rOne (cI .i64)) (fun a => f45 a)), (50, conF (aCons (pC (cA .i64 6)) (aOne (pC (cI .i64)))) (rOne (cB)) (fun a => f50 (a.1) (a.2)))] from ⟨sp45, sp50, trivial⟩) (show FnL Try.prog [] from trivial) (show FnLp Try.prog gG gl [(87007, ⟨T37_0, outs37_0, l37_0⟩), (87012, ⟨T37_1, outs37_1, l37_1⟩)] [] from trivial) joinOk
theorem la37 : LpAll Try.prog (cx [] [(45, conF (aOne (pC (cI .i64))) (rOne (cI .i64)) (fun a => f45 a)), (50, conF (aCons (pC (cA .i64 6)) (aOne (pC (cI .i64)))) (rOne (cB)) (fun a => f50 (a.1) (a.2)))] [(87007, ⟨T37_0, outs37_0, l37_0⟩), (87012, ⟨T37_1, outs37_1, l37_1⟩)]) gl Try.f37 := lpAll_of (lps := [(87007, ⟨T37_0, outs37_0, l37_0⟩), (87012, ⟨T37_1, outs37_1, l37_1⟩)]) rfl (ks := [87007, 87012]) (by kernel_rfl) (show LpS Try.prog gG gl Try.f37 [(87007, ⟨T37_0, outs37_0, l37_0⟩), (87012, ⟨T37_1, outs37_1, l37_1⟩)] [87007, 87012] 0 from ⟨fun L h => (by cases h; exact ls37_0), fun L h => (by cases h; exact ls37_1), trivial⟩)
noncomputable def f37 (a : Nat → Int) (b : Nat → Int) : Option ((Nat → Int) × Bool) :=
 cond (decide (a 0 = b 0) && (decide (a 1 = b 1) && (decide (a 2 = b 2) && (decide (a 3 = b 3) && (decide (a 4 = b 4) && decide (a 5 = b 5)))))) (
 some ((nthI [a 0, a 1, a 2, a 3, a 4, a 5], true))) (
 cond (decide (minI (a 1) (b 1) < maxI (a 0) (b 0))) (
 some ((nthI [0, 0, 0, 0, 0, 0], false))) (
 Option.bind (l37_0 (nthI [0, a 0, a 1, a 2, a 3, a 4, a 5, b 0, b 1, b 2, b 3, b 4, b 5, 0, 0, 0, 0, 0, 0, maxI (a 0) (b 0), minI (a 1) (b 1), 0, 0, minI (a 4) (b 4), minI (a 5) (b 5)]) (nthS [])) (fun r2 =>
 cond (decide (r2.snd.fst 4 < r2.snd.fst 0)) (
 some ((nthI [0, 0, 0, 0, 0, 0], false))) (
 Option.bind (l37_1 (nthI [r2.snd.fst 0, r2.snd.fst 0, r2.snd.fst 1, r2.snd.fst 2, r2.snd.fst 3, r2.snd.fst 4, r2.snd.fst 5, r2.snd.fst 6, r2.snd.fst 7, r2.snd.fst 8, r2.snd.fst 9, r2.snd.fst 10, r2.snd.fst 11, r2.snd.fst 12, r2.snd.fst 13, r2.snd.fst 14, r2.snd.fst 15, r2.snd.fst 16, r2.snd.fst 17, r2.snd.fst 18, r2.snd.fst 19, r2.snd.fst 20, r2.snd.fst 21, r2.snd.fst 22, r2.snd.fst 23, r2.snd.fst 24]) (nthS [])) (fun r3 =>
 Option.bind (f45 (IntKind.i64.wrap (r3.snd.fst 4 + r3.snd.fst 0))) (fun r4 =>
 some ((nthI [r3.snd.fst 14, r3.snd.fst 15, r4, IntKind.i64.wrap (r3.snd.fst 1 - r3.snd.fst 0), r3.snd.fst 18, r3.snd.fst 19], true))))))))
theorem evg37 (f45 : (Int) → Option (Int)) (l37_0 : (Nat → Int) → (Nat → Sl) → Option LR) (l37_1 : (Nat → Int) → (Nat → Sl) → Option LR) (xx : (aCons (pC (cA .i64 6)) (aOne (pC (cA .i64 6)))).T) : evF (R := (rTup (cCons (cA .i64 6) (cOne (cB)))).T) (cx [] [(45, conF (aOne (pC (cI .i64))) (rOne (cI .i64)) (fun a => f45 a)), (50, conF (aCons (pC (cA .i64 6)) (aOne (pC (cI .i64)))) (rOne (cB)) (fun a => f50 (a.1) (a.2)))] [(87007, ⟨T37_0, outs37_0, l37_0⟩), (87012, ⟨T37_1, outs37_1, l37_1⟩)]) 1000 Try.f37 ((aCons (pC (cA .i64 6)) (aOne (pC (cA .i64 6)))).enc gG xx) (glMem gl) 0 (rTup (cCons (cA .i64 6) (cOne (cB)))).dec =
 (fun (a : Nat → Int) (b : Nat → Int) =>
 (( cond (decide (a 0 = b 0) && (decide (a 1 = b 1) && (decide (a 2 = b 2) && (decide (a 3 = b 3) && (decide (a 4 = b 4) && decide (a 5 = b 5)))))) (
 some ((nthI [a 0, a 1, a 2, a 3, a 4, a 5], true))) (
 cond (decide (minI (a 1) (b 1) < maxI (a 0) (b 0))) (
 some ((nthI [0, 0, 0, 0, 0, 0], false))) (
 Option.bind (l37_0 (nthI [0, a 0, a 1, a 2, a 3, a 4, a 5, b 0, b 1, b 2, b 3, b 4, b 5, 0, 0, 0, 0, 0, 0, maxI (a 0) (b 0), minI (a 1) (b 1), 0, 0, minI (a 4) (b 4), minI (a 5) (b 5)]) (nthS [])) (fun r2 =>
 cond (decide (r2.snd.fst 4 < r2.snd.fst 0)) (
 some ((nthI [0, 0, 0, 0, 0, 0], false))) (
 Option.bind (l37_1 (nthI [r2.snd.fst 0, r2.snd.fst 0, r2.snd.fst 1, r2.snd.fst 2, r2.snd.fst 3, r2.snd.fst 4, r2.snd.fst 5, r2.snd.fst 6, r2.snd.fst 7, r2.snd.fst 8, r2.snd.fst 9, r2.snd.fst 10, r2.snd.fst 11, r2.snd.fst 12, r2.snd.fst 13, r2.snd.fst 14, r2.snd.fst 15, r2.snd.fst 16, r2.snd.fst 17, r2.snd.fst 18, r2.snd.fst 19, r2.snd.fst 20, r2.snd.fst 21, r2.snd.fst 22, r2.snd.fst 23, r2.snd.fst 24]) (nthS [])) (fun r3 =>
 Option.bind (f45 (IntKind.i64.wrap (r3.snd.fst 4 + r3.snd.fst 0))) (fun r4 =>
 some ((nthI [r3.snd.fst 14, r3.snd.fst 15, r4, IntKind.i64.wrap (r3.snd.fst 1 - r3.snd.fst 0), r3.snd.fst 18, r3.snd.fst 19], true))))))))) : Option ((Nat → Int) × Bool))) xx.1 xx.2 := by kernel_rfl
theorem ev37 (a : (aCons (pC (cA .i64 6)) (aOne (pC (cA .i64 6)))).T) : evF (R := (rTup (cCons (cA .i64 6) (cOne (cB)))).T) (cx [] [(45, conF (aOne (pC (cI .i64))) (rOne (cI .i64)) (fun a => f45 a)), (50, conF (aCons (pC (cA .i64 6)) (aOne (pC (cI .i64)))) (rOne (cB)) (fun a => f50 (a.1) (a.2)))] [(87007, ⟨T37_0, outs37_0, l37_0⟩), (87012, ⟨T37_1, outs37_1, l37_1⟩)]) 1000 Try.f37 ((aCons (pC (cA .i64 6)) (aOne (pC (cA .i64 6)))).enc gG a) (glMem gl) 0 (rTup (cCons (cA .i64 6) (cOne (cB)))).dec = f37 a.1 a.2 := evg37 f45 l37_0 l37_1 a
theorem sp37 : VE.Spec Try.prog gG gl 37 (conF (aCons (pC (cA .i64 6)) (aOne (pC (cA .i64 6)))) (rTup (cCons (cA .i64 6) (cOne (cB)))) (fun a => f37 a.1 a.2)) := spec_of ok37 Try.func37 Try.call37 la37 1000 (aCons_ok (pC_ok (cA_ok _ _)) (aOne_ok (pC_ok (cA_ok _ _)))) (rTup_ok (cCons_ok (cA_ok _ _) (cOne_ok (cB_ok)))) ev37

/-- limits.Narrow -/
theorem ok19 : CtxOK Try.prog (cx [] [(14, conF (aOne (pC (cX kx26))) (rOne (cI .i64)) (fun a => f14 a)), (37, conF (aCons (pC (cA .i64 6)) (aOne (pC (cA .i64 6)))) (rTup (cCons (cA .i64 6) (cOne (cB)))) (fun a => f37 (a.1) (a.2)))] [] true) gl := ctx_of tyOk moOk (show SpecL Try.prog gG gl [(14, conF (aOne (pC (cX kx26))) (rOne (cI .i64)) (fun a => f14 a)), (37, conF (aCons (pC (cA .i64 6)) (aOne (pC (cA .i64 6)))) (rTup (cCons (cA .i64 6) (cOne (cB)))) (fun a => f37 (a.1) (a.2)))] from ⟨sp14, sp37, trivial⟩) (show FnL Try.prog [] from trivial) (fnLp_nil _) joinOk
noncomputable def f19 (a : Nat → Int) (b : Nat → Int) : Option ((Nat → Int) × Int) :=
 Option.bind (f14 (nthI [a 0, a 1, a 2, a 3, a 4, a 5, a 6, a 7, a 8, a 9, a 10, a 11, a 12, a 13, a 14, a 15, a 16, a 17, a 18, a 19, a 20, a 21, a 22, a 23, a 24, a 25, a 26, a 27, a 28, a 29, a 30, a 31, a 32, a 33, a 34, a 35, bif !decide (a 36 = 0) then 1 else 0, bif !decide (a 37 = 0) then 1 else 0, a 38, a 39])) (fun r2 =>
 cond (!decide (r2 = 0)) (
 some ((nthI [0, 0, 0, 0, 0, 0, 0, 0, 0, 0, 0, 0, 0, 0, 0, 0, 0, 0, 0, 0, 0, 0, 0, 0, 0, 0, 0, 0, 0, 0, 0, 0, 0, 0, 0, 0, 0, 0, 0, 0], r2))) (
 Option.bind (f14 (nthI [b 0, b 1, b 2, b 3, b 4, b 5, b 6, b 7, b 8, b 9, b 10, b 11, b 12, b 13, b 14, b 15, b 16, b 17, b 18, b 19, b 20, b 21, b 22, b 23, b 24, b 25, b 26, b 27, b 28, b 29, b 30, b 31, b 32, b 33, b 34, b 35, bif !decide (b 36 = 0) then 1 else 0, bif !decide (b 37 = 0) then 1 else 0, b 38, b 39])) (fun r3 =>
 cond (!decide (r3 = 0)) (
 some ((nthI [0, 0, 0, 0, 0, 0, 0, 0, 0, 0, 0, 0, 0, 0, 0, 0, 0, 0, 0, 0, 0, 0, 0, 0, 0, 0, 0, 0, 0, 0, 0, 0, 0, 0, 0, 0, 0, 0, 0, 0], r3))) (
 cond (!decide (a 36 = 0)) (
 cond (!decide (a 37 = 0)) (
 Option.bind (f37 a b) (fun r4 =>
 cond (!r4.snd) (
 some ((nthI [0, 0, 0, 0, 0, 0, 0, 0, 0, 0, 0, 0, 0, 0, 0, 0, 0, 0, 0, 0, 0, 0, 0, 0, 0, 0, 0, 0, 0, 0, 0, 0, 0, 0, 0, 0, 0, 0, 0, 0], 25))) (
 Option.bind (f37 (nthI [a 6, a 7, a 8, a 9, a 10, a 11]) (nthI [b 6, b 7, b 8, b 9, b 10, b 11])) (fun r5 =>
 cond (!r5.snd) (
 some ((nthI [0, 0, 0, 0, 0, 0, 0, 0, 0, 0, 0, 0, 0, 0, 0, 0, 0, 0, 0, 0, 0, 0, 0, 0, 0, 0, 0, 0, 0, 0, 0, 0, 0, 0, 0, 0, 0, 0, 0, 0], 25))) (
 Option.bind (f37 (nthI [a 12, a 13, a 14, a 15, a 16, a 17]) (nthI [b 12, b 13, b 14, b 15, b 16, b 17])) (fun r6 =>
 cond (!r6.snd) (
 some ((nthI [0, 0, 0, 0, 0, 0, 0, 0, 0, 0, 0, 0, 0, 0, 0, 0, 0, 0, 0, 0, 0, 0, 0, 0, 0, 0, 0, 0, 0, 0, 0, 0, 0, 0, 0, 0, 0, 0, 0, 0], 25))) (
 Option.bind (f37 (nthI [a 18, a 19, a 20, a 21, a 22, a 23]) (nthI [b 18, b 19, b 20, b 21, b 22, b 23])) (fun r7 =>
 cond (!r7.snd) (
 some ((nthI [0, 0, 0, 0, 0, 0, 0, 0, 0, 0, 0, 0, 0, 0, 0, 0, 0, 0, 0, 0, 0, 0, 0, 0, 0, 0, 0, 0, 0, 0, 0, 0, 0, 0, 0, 0, 0, 0, 0, 0], 25))) (
 Option.bind (f37 (nthI [a 24, a 25, a 26, a 27, a 28, a 29]) (nthI [b 24, b 25, b 26, b 27, b 28, b 29])) (fun r8 =>
 cond (!r8.snd) (
 some ((nthI [0, 0, 0, 0, 0, 0, 0, 0, 0, 0, 0, 0, 0, 0, 0, 0, 0, 0, 0, 0, 0, 0, 0, 0, 0, 0, 0, 0, 0, 0, 0, 0, 0, 0, 0, 0, 0, 0, 0, 0], 25))) (
 Option.bind (f37 (nthI [a 30, a 31, a 32, a 33, a 34, a 35]) (nthI [b 30, b 31, b 32, b 33, b 34, b 35])) (fun r9 =>
 cond (!r9.snd) (
 some ((nthI [0, 0, 0, 0, 0, 0, 0, 0, 0, 0, 0, 0, 0, 0, 0, 0, 0, 0, 0, 0, 0, 0, 0, 0, 0, 0, 0, 0, 0, 0, 0, 0, 0, 0, 0, 0, 0, 0, 0, 0], 25))) (
 some ((nthI [r4.fst 0, r4.fst 1, r4.fst 2, r4.fst 3, r4.fst 4, r4.fst 5, r5.fst 0, r5.fst 1, r5.fst 2, r5.fst 3, r5.fst 4, r5.fst 5, r6.fst 0, r6.fst 1, r6.fst 2, r6.fst 3, r6.fst 4, r6.fst 5, r7.fst 0, r7.fst 1, r7.fst 2, r7.fst 3, r7.fst 4, r7.fst 5, r8.fst 0, r8.fst 1, r8.fst 2, r8.fst 3, r8.fst 4, r8.fst 5, r9.fst 0, r9.fst 1, r9.fst 2, r9.fst 3, r9.fst 4, r9.fst 5, bif !decide (b 36 = 0) then 1 else 0, bif !decide (b 37 = 0) then 1 else 0, minI (a 38) (b 38), minI (a 39) (b 39)], 0))))))))))))))) (
 Option.bind (f37 a b) (fun r4 =>
 cond (!r4.snd) (
 some ((nthI [0, 0, 0, 0, 0, 0, 0, 0, 0, 0, 0, 0, 0, 0, 0, 0, 0, 0, 0, 0, 0, 0, 0, 0, 0, 0, 0, 0, 0, 0, 0, 0, 0, 0, 0, 0, 0, 0, 0, 0], 25))) (
 Option.bind (f37 (nthI [a 6, a 7, a 8, a 9, a 10, a 11]) (nthI [b 6, b 7, b 8, b 9, b 10, b 11])) (fun r5 =>
 cond (!r5.snd) (
 some ((nthI [0, 0, 0, 0, 0, 0, 0, 0, 0, 0, 0, 0, 0, 0, 0, 0, 0, 0, 0, 0, 0, 0, 0, 0, 0, 0, 0, 0, 0, 0, 0, 0, 0, 0, 0, 0, 0, 0, 0, 0], 25))) (
 Option.bind (f37 (nthI [a 12, a 13, a 14, a 15, a 16, a 17]) (nthI [b 12, b 13, b 14, b 15, b 16, b 17])) (fun r6 =>
 cond (!r6.snd) (
 some ((nthI [0, 0, 0, 0, 0, 0, 0, 0, 0, 0, 0, 0, 0, 0, 0, 0, 0, 0, 0, 0, 0, 0, 0, 0, 0, 0, 0, 0, 0, 0, 0, 0, 0, 0, 0, 0, 0, 0, 0, 0], 25))) (
 Option.bind (f37 (nthI [a 18, a 19, a 20, a 21, a 22, a 23]) (nthI [b 18, b 19, b 20, b 21, b 22, b 23])) (fun r7 =>
 cond (!r7.snd) (
 some ((nthI [0, 0, 0, 0, 0, 0, 0, 0, 0, 0, 0, 0, 0, 0, 0, 0, 0, 0, 0, 0, 0, 0, 0, 0, 0, 0, 0, 0, 0, 0, 0, 0, 0, 0, 0, 0, 0, 0, 0, 0], 25))) (
 Option.bind (f37 (nthI [a 24, a 25, a 26, a 27, a 28, a 29]) (nthI [b 24, b 25, b 26, b 27, b 28, b 29])) (fun r8 =>
 cond (!r8.snd) (
 some ((nthI [0, 0, 0, 0, 0, 0, 0, 0, 0, 0, 0, 0, 0, 0, 0, 0, 0, 0, 0, 0, 0, 0, 0, 0, 0, 0, 0, 0, 0, 0, 0, 0, 0, 0, 0, 0, 0, 0, 0, 0], 25))) (
 Option.bind (f37 (nthI [a 30, a 31, a 32, a 33, a 34, a 35]) (nthI [b 30, b 31, b 32, b 33, b 34, b 35])) (fun r9 =>
 cond (!r9.snd) (
 some ((nthI [0, 0, 0, 0, 0, 0, 0, 0, 0, 0, 0, 0, 0, 0, 0, 0, 0, 0, 0, 0, 0, 0, 0, 0, 0, 0, 0, 0, 0, 0, 0, 0, 0, 0, 0, 0, 0, 0, 0, 0], 25))) (
 some ((nthI [r4.fst 0, r4.fst 1, r4.fst 2, r4.fst 3, r4.fst 4, r4.fst 5, r5.fst 0, r5.fst 1, r5.fst 2, r5.fst 3, r5.fst 4, r5.fst 5, r6.fst 0, r6.fst 1, r6.fst 2, r6.fst 3, r6.fst 4, r6.fst 5, r7.fst 0, r7.fst 1, r7.fst 2, r7.fst 3, r7.fst 4, r7.fst 5, r8.fst 0, r8.fst 1, r8.fst 2, r8.fst 3, r8.fst 4, r8.fst 5, r9.fst 0, r9.fst 1, r9.fst 2, r9.fst 3, r9.fst 4, r9.fst 5, bif !decide (b 36 = 0) then 1 else 0, 0, minI (a 38) (b 38), minI (a 39) (b 39)], 0)))))))))))))))) (
 cond (!decide (a 37 = 0)) (
 Option.bind (f37 a b) (fun r4 =>
 cond (!r4.snd) (
 some ((nthI [0, 0, 0, 0, 0, 0, 0, 0, 0, 0, 0, 0, 0, 0, 0, 0, 0, 0, 0, 0, 0, 0, 0, 0, 0, 0, 0, 0, 0, 0, 0, 0, 0, 0, 0, 0, 0, 0, 0, 0], 25))) (
 Option.bind (f37 (nthI [a 6, a 7, a 8, a 9, a 10, a 11]) (nthI [b 6, b 7, b 8, b 9, b 10, b 11])) (fun r5 =>
 cond (!r5.snd) (
 some ((nthI [0, 0, 0, 0, 0, 0, 0, 0, 0, 0, 0, 0, 0, 0, 0, 0, 0, 0, 0, 0, 0, 0, 0, 0, 0, 0, 0, 0, 0, 0, 0, 0, 0, 0, 0, 0, 0, 0, 0, 0], 25))) (
 Option.bind (f37 (nthI [a 12, a 13, a 14, a 15, a 16, a 17]) (nthI [b 12, b 13, b 14, b 15, b 16, b 17])) (fun r6 =>
 cond (!r6.snd) (
 some ((nthI [0, 0, 0, 0, 0, 0, 0, 0, 0, 0, 0, 0, 0, 0, 0, 0, 0, 0, 0, 0, 0, 0, 0, 0, 0, 0, 0, 0, 0, 0, 0, 0, 0, 0, 0, 0, 0, 0, 0, 0], 25))) (
 Option.bind (f37 (nthI [a 18, a 19, a 20, a 21, a 22, a 23]) (nthI [b 18, b 19, b 20, b 21, b 22, b 23])) (fun r7 =>
 cond (!r7.snd) (
 some ((nthI [0, 0, 0, 0, 0, 0, 0, 0, 0, 0, 0, 0, 0, 0, 0, 0, 0, 0, 0, 0, 0, 0, 0, 0, 0, 0, 0, 0, 0, 0, 0, 0, 0, 0, 0, 0, 0, 0, 0, 0], 25))) (
 Option.bind (f37 (nthI [a 24, a 25, a 26, a 27, a 28, a 29]) (nthI [b 24, b 25, b 26, b 27, b 28, b 29])) (fun r8 =>
 cond (!r8.snd) (
 some ((nthI [0, 0, 0, 0, 0, 0, 0, 0, 0, 0, 0, 0, 0, 0, 0, 0, 0, 0, 0, 0, 0, 0, 0, 0, 0, 0, 0, 0, 0, 0, 0, 0, 0, 0, 0, 0, 0, 0, 0, 0], 25))) (
 Option.bind (f37 (nthI [a 30, a 31, a 32, a 33, a 34, a 35]) (nthI [b 30, b 31, b 32, b 33, b 34, b 35])) (fun r9 =>
 cond (!r9.snd) (
 some ((nthI [0, 0, 0, 0, 0, 0, 0, 0, 0, 0, 0, 0, 0, 0, 0, 0, 0, 0, 0, 0, 0, 0, 0, 0, 0, 0, 0, 0, 0, 0, 0, 0, 0, 0, 0, 0, 0, 0, 0, 0], 25))) (
 some ((nthI [r4.fst 0, r4.fst 1, r4.fst 2, r4.fst 3, r4.fst 4, r4.fst 5, r5.fst 0, r5.fst 1, r5.fst 2, r5.fst 3, r5.fst 4, r5.fst 5, r6.fst 0, r6.fst 1, r6.fst 2, r6.fst 3, r6.fst 4, r6.fst 5, r7.fst 0, r7.fst 1, r7.fst 2, r7.fst 3, r7.fst 4, r7.fst 5, r8.fst 0, r8.fst 1, r8.fst 2, r8.fst 3, r8.fst 4, r8.fst 5, r9.fst 0, r9.fst 1, r9.fst 2, r9.fst 3, r9.fst 4, r9.fst 5, 0, bif !decide (b 37 = 0) then 1 else 0, minI (a 38) (b 38), minI (a 39) (b 39)], 0))))))))))))))) (
 Option.bind (f37 a b) (fun r4 =>
 cond (!r4.snd) (
 some ((nthI [0, 0, 0, 0, 0, 0, 0, 0, 0, 0, 0, 0, 0, 0, 0, 0, 0, 0, 0, 0, 0, 0, 0, 0, 0, 0, 0, 0, 0, 0, 0, 0, 0, 0, 0, 0, 0, 0, 0, 0], 25))) (
 Option.bind (f37 (nthI [a 6, a 7, a 8, a 9, a 10, a 11]) (nthI [b 6, b 7, b 8, b 9, b 10, b 11])) (fun r5 =>
 cond (!r5.snd) (
 some ((nthI [0, 0, 0, 0, 0, 0, 0, 0, 0, 0, 0, 0, 0, 0, 0, 0, 0, 0, 0, 0, 0, 0, 0, 0, 0, 0, 0, 0, 0, 0, 0, 0, 0, 0, 0, 0, 0, 0, 0, 0], 25))) (
 Option.bind (f37 (nthI [a 12, a 13, a 14, a 15, a 16, a 17]) (nthI [b 12, b 13, b 14, b 15, b 16, b 17])) (fun r6 =>
 cond (!r6.snd) (
 some ((nthI [0, 0, 0, 0, 0, 0, 0, 0, 0, 0, 0, 0, 0, 0, 0, 0, 0, 0, 0, 0, 0, 0, 0, 0, 0, 0, 0, 0, 0, 0, 0, 0, 0, 0, 0, 0, 0, 0, 0, 0], 25))) (
 Option.bind (f37 (nthI [a 18, a 19, a 20, a 21, a 22, a 23]) (nthI [b 18, b 19, b 20, b 21, b 22, b 23])) (fun r7 =>
 cond (!r7.snd) (
 some ((nthI [0, 0, 0, 0, 0, 0, 0, 0, 0, 0, 0, 0, 0, 0, 0, 0, 0, 0, 0, 0, 0, 0, 0, 0, 0, 0, 0, 0, 0, 0, 0, 0, 0, 0, 0, 0, 0, 0, 0, 0], 25))) (
 Option.bind (f37 (nthI [a 24, a 25, a 26, a 27, a 28, a 29]) (nthI [b 24, b 25, b 26, b 27, b 28, b 29])) (fun r8 =>
 cond (!r8.snd) (
 some ((nthI [0, 0, 0, 0, 0, 0, 0, 0, 0, 0, 0, 0, 0, 0, 0, 0, 0, 0, 0, 0, 0, 0, 0, 0, 0, 0, 0, 0, 0, 0, 0, 0, 0, 0, 0, 0, 0, 0, 0, 0], 25))) (
 Option.bind (f37 (nthI [a 30, a 31, a 32, a 33, a 34, a 35]) (nthI [b 30, b 31, b 32, b 33, b 34, b 35])) (fun r9 =>
 cond (!r9.snd) (
 some ((nthI [0, 0, 0, 0, 0, 0, 0, 0, 0, 0, 0, 0, 0, 0, 0, 0, 0, 0, 0, 0, 0, 0, 0, 0, 0, 0, 0, 0, 0, 0, 0, 0, 0, 0, 0, 0, 0, 0, 0, 0], 25))) (
 some ((nthI [r4.fst 0, r4.fst 1, r4.fst 2, r4.fst 3, r4.fst 4, r4.fst 5, r5.fst 0, r5.fst 1, r5.fst 2, r5.fst 3, r5.fst 4, r5.fst 5, r6.fst 0, r6.fst 1, r6.fst 2, r6.fst 3, r6.fst 4, r6.fst 5, r7.fst 0, r7.fst 1, r7.fst 2, r7.fst 3, r7.fst 4, r7.fst 5, r8.fst 0, r8.fst 1, r8.fst 2, r8.fst 3, r8.fst 4, r8.fst 5, r9.fst 0, r9.fst 1, r9.fst 2, r9.fst 3, r9.fst 4, r9.fst 5, 0, 0, minI (a 38) (b 38), minI (a 39) (b 39)], 0))))))))))))))))))))
theorem evg19 (f14 : (Nat → Int) → Option (Int)) (f37 : (Nat → Int) → (Nat → Int) → Option ((Nat → Int) × Bool))  (xx : (aCons (pC (cX kx26)) (aOne (pC (cX kx26)))).T) : evF (R := (rTup (cCons (cX kx26) (cOne (cI .i64)))).T) (cx [] [(14, conF (aOne (pC (cX kx26))) (rOne (cI .i64)) (fun a => f14 a)), (37, conF (aCons (pC (cA .i64 6)) (aOne (pC (cA .i64 6)))) (rTup (cCons (cA .i64 6) (cOne (cB)))) (fun a => f37 (a.1) (a.2)))] [] true) 1000 Try.f19 ((aCons (pC (cX kx26)) (aOne (pC (cX kx26)))).enc gG xx) (glMem gl) 0 (rTup (cCons (cX kx26) (cOne (cI .i64)))).dec =
 (fun (a : Nat → Int) (b : Nat → Int) =>
 (( Option.bind (f14 (nthI [a 0, a 1, a 2, a 3, a 4, a 5, a 6, a 7, a 8, a 9, a 10, a 11, a 12, a 13, a 14, a 15, a 16, a 17, a 18, a 19, a 20, a 21, a 22, a 23, a 24, a 25, a 26, a 27, a 28, a 29, a 30, a 31, a 32, a 33, a 34, a 35, bif !decide (a 36 = 0) then 1 else 0, bif !decide (a 37 = 0) then 1 else 0, a 38, a 39])) (fun r2 =>
 cond (!decide (r2 = 0)) (
 some ((nthI [0, 0, 0, 0, 0, 0, 0, 0, 0, 0, 0, 0, 0, 0, 0, 0, 0, 0, 0, 0, 0, 0, 0, 0, 0, 0, 0, 0, 0, 0, 0, 0, 0, 0, 0, 0, 0, 0, 0, 0], r2))) (
 Option.bind (f14 (nthI [b 0, b 1, b 2, b 3, b 4, b 5, b 6, b 7, b 8, b 9, b 10, b 11, b 12, b 13, b 14, b 15, b 16, b 17, b 18, b 19, b 20, b 21, b 22, b 23, b 24, b 25, b 26, b 27, b 28, b 29, b 30, b 31, b 32, b 33, b 34, b 35, bif !decide (b 36 = 0) then 1 else 0, bif !decide (b 37 = 0) then 1 else 0, b 38, b 39])) (fun r3 =>
 cond (!decide (r3 = 0)) (
 some ((nthI [0, 0, 0, 0, 0, 0, 0, 0, 0, 0, 0, 0, 0, 0, 0, 0, 0, 0, 0, 0, 0, 0, 0, 0, 0, 0, 0, 0, 0, 0, 0, 0, 0, 0, 0, 0, 0, 0, 0, 0], r3))) (
 cond (!decide (a 36 = 0)) (
 cond (!decide (a 37 = 0)) (
 Option.bind (f37 (nthI [a 0, a 1, a 2, a 3, a 4, a 5]) (nthI [b 0, b 1, b 2, b 3, b 4, b 5])) (fun r4 =>
 cond (!r4.snd) (
 some ((nthI [0, 0, 0, 0, 0, 0, 0, 0, 0, 0, 0, 0, 0, 0, 0, 0, 0, 0, 0, 0, 0, 0, 0, 0, 0, 0, 0, 0, 0, 0, 0, 0, 0, 0, 0, 0, 0, 0, 0, 0], 25))) (
 Option.bind (f37 (nthI [a 6, a 7, a 8, a 9, a 10, a 11]) (nthI [b 6, b 7, b 8, b 9, b 10, b 11])) (fun r5 =>
 cond (!r5.snd) (
 some ((nthI [0, 0, 0, 0, 0, 0, 0, 0, 0, 0, 0, 0, 0, 0, 0, 0, 0, 0, 0, 0, 0, 0, 0, 0, 0, 0, 0, 0, 0, 0, 0, 0, 0, 0, 0, 0, 0, 0, 0, 0], 25))) (
 Option.bind (f37 (nthI [a 12, a 13, a 14, a 15, a 16, a 17]) (nthI [b 12, b 13, b 14, b 15, b 16, b 17])) (fun r6 =>
 cond (!r6.snd) (
 some ((nthI [0, 0, 0, 0, 0, 0, 0, 0, 0, 0, 0, 0, 0, 0, 0, 0, 0, 0, 0, 0, 0, 0, 0, 0, 0, 0, 0, 0, 0, 0, 0, 0, 0, 0, 0, 0, 0, 0, 0, 0], 25))) (
 Option.bind (f37 (nthI [a 18, a 19, a 20, a 21, a 22, a 23]) (nthI [b 18, b 19, b 20, b 21, b 22, b 23])) (fun r7 =>
 cond (!r7.snd) (
 some ((nthI [0, 0, 0, 0, 0, 0, 0, 0, 0, 0, 0, 0, 0, 0, 0, 0, 0, 0, 0, 0, 0, 0, 0, 0, 0, 0, 0, 0, 0, 0, 0, 0, 0, 0, 0, 0, 0, 0, 0, 0], 25))) (
 Option.bind (f37 (nthI [a 24, a 25, a 26, a 27, a 28, a 29]) (nthI [b 24, b 25, b 26, b 27, b 28, b 29])) (fun r8 =>
 cond (!r8.snd) (
 some ((nthI [0, 0, 0, 0, 0, 0, 0, 0, 0, 0, 0, 0, 0, 0, 0, 0, 0, 0, 0, 0, 0, 0, 0, 0, 0, 0, 0, 0, 0, 0, 0, 0, 0, 0, 0, 0, 0, 0, 0, 0], 25))) (
 Option.bind (f37 (nthI [a 30, a 31, a 32, a 33, a 34, a 35]) (nthI [b 30, b 31, b 32, b 33, b 34, b 35])) (fun r9 =>
 cond (!r9.snd) (
 some ((nthI [0, 0, 0, 0, 0, 0, 0, 0, 0, 0, 0, 0, 0, 0, 0, 0, 0, 0, 0, 0, 0, 0, 0, 0, 0, 0, 0, 0, 0, 0, 0, 0, 0, 0, 0, 0, 0, 0, 0, 0], 25))) (
 some ((nthI [r4.fst 0, r4.fst 1, r4.fst 2, r4.fst 3, r4.fst 4, r4.fst 5, r5.fst 0, r5.fst 1, r5.fst 2, r5.fst 3, r5.fst 4, r5.fst 5, r6.fst 0, r6.fst 1, r6.fst 2, r6.fst 3, r6.fst 4, r6.fst 5, r7.fst 0, r7.fst 1, r7.fst 2, r7.fst 3, r7.fst 4, r7.fst 5, r8.fst 0, r8.fst 1, r8.fst 2, r8.fst 3, r8.fst 4, r8.fst 5, r9.fst 0, r9.fst 1, r9.fst 2, r9.fst 3, r9.fst 4, r9.fst 5, bif !decide (b 36 = 0) then 1 else 0, bif !decide (b 37 = 0) then 1 else 0, minI (a 38) (b 38), minI (a 39) (b 39)], 0))))))))))))))) (
 Option.bind (f37 (nthI [a 0, a 1, a 2, a 3, a 4, a 5]) (nthI [b 0, b 1, b 2, b 3, b 4, b 5])) (fun r4 =>
 cond (!r4.snd) (
 some ((nthI [0, 0, 0, 0, 0, 0, 0, 0, 0, 0, 0, 0, 0, 0, 0, 0, 0, 0, 0, 0, 0, 0, 0, 0, 0, 0, 0, 0, 0, 0, 0, 0, 0, 0, 0, 0, 0, 0, 0, 0], 25))) (
 Option.bind (f37 (nthI [a 6, a 7, a 8, a 9, a 10, a 11]) (nthI [b 6, b 7, b 8, b 9, b 10, b 11])) (fun r5 =>
 cond (!r5.snd) (
 some ((nthI [0, 0, 0, 0, 0, 0, 0, 0, 0, 0, 0, 0, 0, 0, 0, 0, 0, 0, 0, 0, 0, 0, 0, 0, 0, 0, 0, 0, 0, 0, 0, 0, 0, 0, 0, 0, 0, 0, 0, 0], 25))) (
 Option.bind (f37 (nthI [a 12, a 13, a 14, a 15, a 16, a 17]) (nthI [b 12, b 13, b 14, b 15, b 16, b 17])) (fun r6 =>
 cond (!r6.snd) (
 some ((nthI [0, 0, 0, 0, 0, 0, 0, 0, 0, 0, 0, 0, 0, 0, 0, 0, 0, 0, 0, 0, 0, 0, 0, 0, 0, 0, 0, 0, 0, 0, 0, 0, 0, 0, 0, 0, 0, 0, 0, 0], 25))) (
 Option.bind (f37 (nthI [a 18, a 19, a 20, a 21, a 22, a 23]) (nthI [b 18, b 19, b 20, b 21, b 22, b 23])) (fun r7 =>
 cond (!r7.snd) (
 some ((nthI [0, 0, 0, 0, 0, 0, 0, 0, 0, 0, 0, 0, 0, 0, 0, 0, 0, 0, 0, 0, 0, 0, 0, 0, 0, 0, 0, 0, 0, 0, 0, 0, 0, 0, 0, 0, 0, 0, 0, 0], 25))) (
 Option.bind (f37 (nthI [a 24, a 25, a 26, a 27, a 28, a 29]) (nthI [b 24, b 25, b 26, b 27, b 28, b 29])) (fun r8 =>
 cond (!r8.snd) (
 some ((nthI [0, 0, 0, 0, 0, 0, 0, 0, 0, 0, 0, 0, 0, 0, 0, 0, 0, 0, 0, 0, 0, 0, 0, 0, 0, 0, 0, 0, 0, 0, 0, 0, 0, 0, 0, 0, 0, 0, 0, 0], 25))) (
 Option.bind (f37 (nthI [a 30, a 31, a 32, a 33, a 34, a 35]) (nthI [b 30, b 31, b 32, b 33, b 34, b 35])) (fun r9 =>
 cond (!r9.snd) (
 some ((nthI [0, 0, 0, 0, 0, 0, 0, 0, 0, 0, 0, 0, 0, 0, 0, 0, 0, 0, 0, 0, 0, 0, 0, 0, 0, 0, 0, 0, 0, 0, 0, 0, 0, 0, 0, 0, 0, 0, 0, 0], 25))) (
 some ((nthI [r4.fst 0, r4.fst 1, r4.fst 2, r4.fst 3, r4.fst 4, r4.fst 5, r5.fst 0, r5.fst 1, r5.fst 2, r5.fst 3, r5.fst 4, r5.fst 5, r6.fst 0, r6.fst 1, r6.fst 2, r6.fst 3, r6.fst 4, r6.fst 5, r7.fst 0, r7.fst 1, r7.fst 2, r7.fst 3, r7.fst 4, r7.fst 5, r8.fst 0, r8.fst 1, r8.fst 2, r8.fst 3, r8.fst 4, r8.fst 5, r9.fst 0, r9.fst 1, r9.fst 2, r9.fst 3, r9.fst 4, r9.fst 5, bif !decide (b 36 = 0) then 1 else 0, 0, minI (a 38) (b 38), minI (a 39) (b 39)], 0)))))))))))))))) (
 cond (!decide (a 37 = 0)) (
 Option.bind (f37 (nthI [a 0, a 1, a 2, a 3, a 4, a 5]) (nthI [b 0, b 1, b 2, b 3, b 4, b 5])) (fun r4 =>
 cond (!r4.snd) (
 some ((nthI [0, 0, 0, 0, 0, 0, 0, 0, 0, 0, 0, 0, 0, 0, 0, 0, 0, 0, 0, 0, 0, 0, 0, 0, 0, 0, 0, 0, 0, 0, 0, 0, 0, 0, 0, 0, 0, 0, 0, 0], 25))) (
 Option.bind (f37 (nthI [a 6, a 7, a 8, a 9, a 10, a 11]) (nthI [b 6, b 7, b 8, b 9, b 10, b 11])) (fun r5 =>
 cond (!r5.snd) (
 some ((nthI [0, 0, 0, 0, 0, 0, 0, 0, 0, 0, 0, 0, 0, 0, 0, 0, 0, 0, 0, 0, 0, 0, 0, 0, 0, 0, 0, 0, 0, 0, 0, 0, 0, 0, 0, 0, 0, 0, 0, 0], 25))) (
 Option.bind (f37 (nthI [a 12, a 13, a 14, a 15, a 16, a 17]) (nthI [b 12, b 13, b 14, b 15, b 16, b 17])) (fun r6 =>
 cond (!r6.snd) (
 some ((nthI [0, 0, 0, 0, 0, 0, 0, 0, 0, 0, 0, 0, 0, 0, 0, 0, 0, 0, 0, 0, 0, 0, 0, 0, 0, 0, 0, 0, 0, 0, 0, 0, 0, 0, 0, 0, 0, 0, 0, 0], 25))) (
 Option.bind (f37 (nthI [a 18, a 19, a 20, a 21, a 22, a 23]) (nthI [b 18, b 19, b 20, b 21, b 22, b 23])) (fun r7 =>
 cond (!r7.snd) (
 some ((nthI [0, 0, 0, 0, 0, 0, 0, 0, 0, 0, 0, 0, 0, 0, 0, 0, 0, 0, 0, 0, 0, 0, 0, 0, 0, 0, 0, 0, 0, 0, 0, 0, 0, 0, 0, 0, 0, 0, 0, 0], 25))) (
 Option.bind (f37 (nthI [a 24, a 25, a 26, a 27, a 28, a 29]) (nthI [b 24, b 25, b 26, b 27, b 28, b 29])) (fun r8 =>
 cond (!r8.snd) (
 some ((nthI [0, 0, 0, 0, 0, 0, 0, 0, 0, 0, 0, 0, 0, 0, 0, 0, 0, 0, 0, 0, 0, 0, 0, 0, 0, 0, 0, 0, 0, 0, 0, 0, 0, 0, 0, 0, 0, 0, 0, 0], 25))) (
 Option.bind (f37 (nthI [a 30, a 31, a 32, a 33, a 34, a 35]) (nthI [b 30, b 31, b 32, b 33, b 34, b 35])) (fun r9 =>
 cond (!r9.snd) (
 some ((nthI [0, 0, 0, 0, 0, 0, 0, 0, 0, 0, 0, 0, 0, 0, 0, 0, 0, 0, 0, 0, 0, 0, 0, 0, 0, 0, 0, 0, 0, 0, 0, 0, 0, 0, 0, 0, 0, 0, 0, 0], 25))) (
 some ((nthI [r4.fst 0, r4.fst 1, r4.fst 2, r4.fst 3, r4.fst 4, r4.fst 5, r5.fst 0, r5.fst 1, r5.fst 2, r5.fst 3, r5.fst 4, r5.fst 5, r6.fst 0, r6.fst 1, r6.fst 2, r6.fst 3, r6.fst 4, r6.fst 5, r7.fst 0, r7.fst 1, r7.fst 2, r7.fst 3, r7.fst 4, r7.fst 5, r8.fst 0, r8.fst 1, r8.fst 2, r8.fst 3, r8.fst 4, r8.fst 5, r9.fst 0, r9.fst 1, r9.fst 2, r9.fst 3, r9.fst 4, r9.fst 5, 0, bif !decide (b 37 = 0) then 1 else 0, minI (a 38) (b 38), minI (a 39) (b 39)], 0))))))))))))))) (
 Option.bind (f37 (nthI [a 0, a 1, a 2, a 3, a 4, a 5]) (nthI [b 0, b 1, b 2, b 3, b 4, b 5])) (fun r4 =>
 cond (!r4.snd) (
 some ((nthI [0, 0, 0, 0, 0, 0, 0, 0, 0, 0, 0, 0, 0, 0, 0, 0, 0, 0, 0, 0, 0, 0, 0, 0, 0, 0, 0, 0, 0, 0, 0, 0, 0, 0, 0, 0, 0, 0, 0, 0], 25))) (
 Option.bind (f37 (nthI [a 6, a 7, a 8, a 9, a 10, a 11]) (nthI [b 6, b 7, b 8, b 9, b 10, b 11])) (fun r5 =>
 cond (!r5.snd) (
 some ((nthI [0, 0, 0, 0, 0, 0, 0, 0, 0, 0, 0, 0, 0, 0, 0, 0, 0, 0, 0, 0, 0, 0, 0, 0, 0, 0, 0, 0, 0, 0, 0, 0, 0, 0, 0, 0, 0, 0, 0, 0], 25))) (
 Option.bind (f37 (nthI [a 12, a 13, a 14, a 15, a 16, a 17]) (nthI [b 12, b 13, b 14, b 15, b 16, b 17])) (fun r6 =>
 cond (!r6.snd) (
 some ((nthI [0, 0, 0, 0, 0, 0, 0, 0, 0, 0, 0, 0, 0, 0, 0, 0, 0, 0, 0, 0, 0, 0, 0, 0, 0, 0, 0, 0, 0, 0, 0, 0, 0, 0, 0, 0, 0, 0, 0, 0], 25))) (
 Option.bind (f37 (nthI [a 18, a 19, a 20, a 21, a 22, a 23]) (nthI [b 18, b 19, b 20, b 21, b 22, b 23])) (fun r7 =>
 cond (!r7.snd) (
 some ((nthI [0, 0, 0, 0, 0, 0, 0, 0, 0, 0, 0, 0, 0, 0, 0, 0, 0, 0, 0, 0, 0, 0, 0, 0, 0, 0, 0, 0, 0, 0, 0, 0, 0, 0, 0, 0, 0, 0, 0, 0], 25))) (
 Option.bind (f37 (nthI [a 24, a 25, a 26, a 27, a 28, a 29]) (nthI [b 24, b 25, b 26, b 27, b 28, b 29])) (fun r8 =>
 cond (!r8.snd) (
 some ((nthI [0, 0, 0, 0, 0, 0, 0, 0, 0, 0, 0, 0, 0, 0, 0, 0, 0, 0, 0, 0, 0, 0, 0, 0, 0, 0, 0, 0, 0, 0, 0, 0, 0, 0, 0, 0, 0, 0, 0, 0], 25))) (
 Option.bind (f37 (nthI [a 30, a 31, a 32, a 33, a 34, a 35]) (nthI [b 30, b 31, b 32, b 33, b 34, b 35])) (fun r9 =>
 cond (!r9.snd) (
 some ((nthI [0, 0, 0, 0, 0, 0, 0, 0, 0, 0, 0, 0, 0, 0, 0, 0, 0, 0, 0, 0, 0, 0, 0, 0, 0, 0, 0, 0, 0, 0, 0, 0, 0, 0, 0, 0, 0, 0, 0, 0], 25))) (
 some ((nthI [r4.fst 0, r4.fst 1, r4.fst 2, r4.fst 3, r4.fst 4, r4.fst 5, r5.fst 0, r5.fst 1, r5.fst 2, r5.fst 3, r5.fst 4, r5.fst 5, r6.fst 0, r6.fst 1, r6.fst 2, r6.fst 3, r6.fst 4, r6.fst 5, r7.fst 0, r7.fst 1, r7.fst 2, r7.fst 3, r7.fst 4, r7.fst 5, r8.fst 0, r8.fst 1, r8.fst 2, r8.fst 3, r8.fst 4, r8.fst 5, r9.fst 0, r9.fst 1, r9.fst 2, r9.fst 3, r9.fst 4, r9.fst 5, 0, 0, minI (a 38) (b 38), minI (a 39) (b 39)], 0))))))))))))))))))))) : Option ((Nat → Int) × Int))) xx.1 xx.2 := by kernel_rfl
noncomputable def g19 (a : Nat → Int) (b : Nat → Int) : Option ((Nat → Int) × Int) :=
 Option.bind (f14 (nthI [a 0, a 1, a 2, a 3, a 4, a 5, a 6, a 7, a 8, a 9, a 10, a 11, a 12, a 13, a 14, a 15, a 16, a 17, a 18, a 19, a 20, a 21, a 22, a 23, a 24, a 25, a 26, a 27, a 28, a 29, a 30, a 31, a 32, a 33, a 34, a 35, bif !decide (a 36 = 0) then 1 else 0, bif !decide (a 37 = 0) then 1 else 0, a 38, a 39])) (fun r2 =>
 cond (!decide (r2 = 0)) (
 some ((nthI [0, 0, 0, 0, 0, 0, 0, 0, 0, 0, 0, 0, 0, 0, 0, 0, 0, 0, 0, 0, 0, 0, 0, 0, 0, 0, 0, 0, 0, 0, 0, 0, 0, 0, 0, 0, 0, 0, 0, 0], r2))) (
 Option.bind (f14 (nthI [b 0, b 1, b 2, b 3, b 4, b 5, b 6, b 7, b 8, b 9, b 10, b 11, b 12, b 13, b 14, b 15, b 16, b 17, b 18, b 19, b 20, b 21, b 22, b 23, b 24, b 25, b 26, b 27, b 28, b 29, b 30, b 31, b 32, b 33, b 34, b 35, bif !decide (b 36 = 0) then 1 else 0, bif !decide (b 37 = 0) then 1 else 0, b 38, b 39])) (fun r3 =>
 cond (!decide (r3 = 0)) (
 some ((nthI [0, 0, 0, 0, 0, 0, 0, 0, 0, 0, 0, 0, 0, 0, 0, 0, 0, 0, 0, 0, 0, 0, 0, 0, 0, 0, 0, 0, 0, 0, 0, 0, 0, 0, 0, 0, 0, 0, 0, 0], r3))) (
 cond (!decide (a 36 = 0)) (
 cond (!decide (a 37 = 0)) (
 Option.bind (f37 (nthI [a 0, a 1, a 2, a 3, a 4, a 5]) (nthI [b 0, b 1, b 2, b 3, b 4, b 5])) (fun r4 =>
 cond (!r4.snd) (
 some ((nthI [0, 0, 0, 0, 0, 0, 0, 0, 0, 0, 0, 0, 0, 0, 0, 0, 0, 0, 0, 0, 0, 0, 0, 0, 0, 0, 0, 0, 0, 0, 0, 0, 0, 0, 0, 0, 0, 0, 0, 0], 25))) (
 Option.bind (f37 (nthI [a 6, a 7, a 8, a 9, a 10, a 11]) (nthI [b 6, b 7, b 8, b 9, b 10, b 11])) (fun r5 =>
 cond (!r5.snd) (
 some ((nthI [0, 0, 0, 0, 0, 0, 0, 0, 0, 0, 0, 0, 0, 0, 0, 0, 0, 0, 0, 0, 0, 0, 0, 0, 0, 0, 0, 0, 0, 0, 0, 0, 0, 0, 0, 0, 0, 0, 0, 0], 25))) (
 Option.bind (f37 (nthI [a 12, a 13, a 14, a 15, a 16, a 17]) (nthI [b 12, b 13, b 14, b 15, b 16, b 17])) (fun r6 =>
 cond (!r6.snd) (
 some ((nthI [0, 0, 0, 0, 0, 0, 0, 0, 0, 0, 0, 0, 0, 0, 0, 0, 0, 0, 0, 0, 0, 0, 0, 0, 0, 0, 0, 0, 0, 0, 0, 0, 0, 0, 0, 0, 0, 0, 0, 0], 25))) (
 Option.bind (f37 (nthI [a 18, a 19, a 20, a 21, a 22, a 23]) (nthI [b 18, b 19, b 20, b 21, b 22, b 23])) (fun r7 =>
 cond (!r7.snd) (
 some ((nthI [0, 0, 0, 0, 0, 0, 0, 0, 0, 0, 0, 0, 0, 0, 0, 0, 0, 0, 0, 0, 0, 0, 0, 0, 0, 0, 0, 0, 0, 0, 0, 0, 0, 0, 0, 0, 0, 0, 0, 0], 25))) (
 Option.bind (f37 (nthI [a 24, a 25, a 26, a 27, a 28, a 29]) (nthI [b 24, b 25, b 26, b 27, b 28, b 29])) (fun r8 =>
 cond (!r8.snd) (
 some ((nthI [0, 0, 0, 0, 0, 0, 0, 0, 0, 0, 0, 0, 0, 0, 0, 0, 0, 0, 0, 0, 0, 0, 0, 0, 0, 0, 0, 0, 0, 0, 0, 0, 0, 0, 0, 0, 0, 0, 0, 0], 25))) (
 Option.bind (f37 (nthI [a 30, a 31, a 32, a 33, a 34, a 35]) (nthI [b 30, b 31, b 32, b 33, b 34, b 35])) (fun r9 =>
 cond (!r9.snd) (
 some ((nthI [0, 0, 0, 0, 0, 0, 0, 0, 0, 0, 0, 0, 0, 0, 0, 0, 0, 0, 0, 0, 0, 0, 0, 0, 0, 0, 0, 0, 0, 0, 0, 0, 0, 0, 0, 0, 0, 0, 0, 0], 25))) (
 some ((nthI [r4.fst 0, r4.fst 1, r4.fst 2, r4.fst 3, r4.fst 4, r4.fst 5, r5.fst 0, r5.fst 1, r5.fst 2, r5.fst 3, r5.fst 4, r5.fst 5, r6.fst 0, r6.fst 1, r6.fst 2, r6.fst 3, r6.fst 4, r6.fst 5, r7.fst 0, r7.fst 1, r7.fst 2, r7.fst 3, r7.fst 4, r7.fst 5, r8.fst 0, r8.fst 1, r8.fst 2, r8.fst 3, r8.fst 4, r8.fst 5, r9.fst 0, r9.fst 1, r9.fst 2, r9.fst 3, r9.fst 4, r9.fst 5, bif !decide (b 36 = 0) then 1 else 0, bif !decide (b 37 = 0) then 1 else 0, minI (a 38) (b 38), minI (a 39) (b 39)], 0))))))))))))))) (
 Option.bind (f37 (nthI [a 0, a 1, a 2, a 3, a 4, a 5]) (nthI [b 0, b 1, b 2, b 3, b 4, b 5])) (fun r4 =>
 cond (!r4.snd) (
 some ((nthI [0, 0, 0, 0, 0, 0, 0, 0, 0, 0, 0, 0, 0, 0, 0, 0, 0, 0, 0, 0, 0, 0, 0, 0, 0, 0, 0, 0, 0, 0, 0, 0, 0, 0, 0, 0, 0, 0, 0, 0], 25))) (
 Option.bind (f37 (nthI [a 6, a 7, a 8, a 9, a 10, a 11]) (nthI [b 6, b 7, b 8, b 9, b 10, b 11])) (fun r5 =>
 cond (!r5.snd) (
 some ((nthI [0, 0, 0, 0, 0, 0, 0, 0, 0, 0, 0, 0, 0, 0, 0, 0, 0, 0, 0, 0, 0, 0, 0, 0, 0, 0, 0, 0, 0, 0, 0, 0, 0, 0, 0, 0, 0, 0, 0, 0], 25))) (
 Option.bind (f37 (nthI [a 12, a 13, a 14, a 15, a 16, a 17]) (nthI [b 12, b 13, b 14, b 15, b 16, b 17])) (fun r6 =>
 cond (!r6.snd) (
 some ((nthI [0, 0, 0, 0, 0, 0, 0, 0, 0, 0, 0, 0, 0, 0, 0, 0, 0, 0, 0, 0, 0, 0, 0, 0, 0, 0, 0, 0, 0, 0, 0, 0, 0, 0, 0, 0, 0, 0, 0, 0], 25))) (
 Option.bind (f37 (nthI [a 18, a 19, a 20, a 21, a 22, a 23]) (nthI [b 18, b 19, b 20, b 21, b 22, b 23])) (fun r7 =>
 cond (!r7.snd) (
 some ((nthI [0, 0, 0, 0, 0, 0, 0, 0, 0, 0, 0, 0, 0, 0, 0, 0, 0, 0, 0, 0, 0, 0, 0, 0, 0, 0, 0, 0, 0, 0, 0, 0, 0, 0, 0, 0, 0, 0, 0, 0], 25))) (
 Option.bind (f37 (nthI [a 24, a 25, a 26, a 27, a 28, a 29]) (nthI [b 24, b 25, b 26, b 27, b 28, b 29])) (fun r8 =>
 cond (!r8.snd) (
 some ((nthI [0, 0, 0, 0, 0, 0, 0, 0, 0, 0, 0, 0, 0, 0, 0, 0, 0, 0, 0, 0, 0, 0, 0, 0, 0, 0, 0, 0, 0, 0, 0, 0, 0, 0, 0, 0, 0, 0, 0, 0], 25))) (
 Option.bind (f37 (nthI [a 30, a 31, a 32, a 33, a 34, a 35]) (nthI [b 30, b 31, b 32, b 33, b 34, b 35])) (fun r9 =>
 cond (!r9.snd) (
 some ((nthI [0, 0, 0, 0, 0, 0, 0, 0, 0, 0, 0, 0, 0, 0, 0, 0, 0, 0, 0, 0, 0, 0, 0, 0, 0, 0, 0, 0, 0, 0, 0, 0, 0, 0, 0, 0, 0, 0, 0, 0], 25))) (
 some ((nthI [r4.fst 0, r4.fst 1, r4.fst 2, r4.fst 3, r4.fst 4, r4.fst 5, r5.fst 0, r5.fst 1, r5.fst 2, r5.fst 3, r5.fst 4, r5.fst 5, r6.fst 0, r6.fst 1, r6.fst 2, r6.fst 3, r6.fst 4, r6.fst 5, r7.fst 0, r7.fst 1, r7.fst 2, r7.fst 3, r7.fst 4, r7.fst 5, r8.fst 0, r8.fst 1, r8.fst 2, r8.fst 3, r8.fst 4, r8.fst 5, r9.fst 0, r9.fst 1, r9.fst 2, r9.fst 3, r9.fst 4, r9.fst 5, bif !decide (b 36 = 0) then 1 else 0, 0, minI (a 38) (b 38), minI (a 39) (b 39)], 0)))))))))))))))) (
 cond (!decide (a 37 = 0)) (
 Option.bind (f37 (nthI [a 0, a 1, a 2, a 3, a 4, a 5]) (nthI [b 0, b 1, b 2, b 3, b 4, b 5])) (fun r4 =>
 cond (!r4.snd) (
 some ((nthI [0, 0, 0, 0, 0, 0, 0, 0, 0, 0, 0, 0, 0, 0, 0, 0, 0, 0, 0, 0, 0, 0, 0, 0, 0, 0, 0, 0, 0, 0, 0, 0, 0, 0, 0, 0, 0, 0, 0, 0], 25))) (
 Option.bind (f37 (nthI [a 6, a 7, a 8, a 9, a 10, a 11]) (nthI [b 6, b 7, b 8, b 9, b 10, b 11])) (fun r5 =>
 cond (!r5.snd) (
 some ((nthI [0, 0, 0, 0, 0, 0, 0, 0, 0, 0, 0, 0, 0, 0, 0, 0, 0, 0, 0, 0, 0, 0, 0, 0, 0, 0, 0, 0, 0, 0, 0, 0, 0, 0, 0, 0, 0, 0, 0, 0], 25))) (
 Option.bind (f37 (nthI [a 12, a 13, a 14, a 15, a 16, a 17]) (nthI [b 12, b 13, b 14, b 15, b 16, b 17])) (fun r6 =>
 cond (!r6.snd) (
 some ((nthI [0, 0, 0, 0, 0, 0, 0, 0, 0, 0, 0, 0, 0, 0, 0, 0, 0, 0, 0, 0, 0, 0, 0, 0, 0, 0, 0, 0, 0, 0, 0, 0, 0, 0, 0, 0, 0, 0, 0, 0], 25))) (
 Option.bind (f37 (nthI [a 18, a 19, a 20, a 21, a 22, a 23]) (nthI [b 18, b 19, b 20, b 21, b 22, b 23])) (fun r7 =>
 cond (!r7.snd) (
 some ((nthI [0, 0, 0, 0, 0, 0, 0, 0, 0, 0, 0, 0, 0, 0, 0, 0, 0, 0, 0, 0, 0, 0, 0, 0, 0, 0, 0, 0, 0, 0, 0, 0, 0, 0, 0, 0, 0, 0, 0, 0], 25))) (
 Option.bind (f37 (nthI [a 24, a 25, a 26, a 27, a 28, a 29]) (nthI [b 24, b 25, b 26, b 27, b 28, b 29])) (fun r8 =>
 cond (!r8.snd) (
 some ((nthI [0, 0, 0, 0, 0, 0, 0, 0, 0, 0, 0, 0, 0, 0, 0, 0, 0, 0, 0, 0, 0, 0, 0, 0, 0, 0, 0, 0, 0, 0, 0, 0, 0, 0, 0, 0, 0, 0, 0, 0], 25))) (
 Option.bind (f37 (nthI [a 30, a 31, a 32, a 33, a 34, a 35]) (nthI [b 30, b 31, b 32, b 33, b 34, b 35])) (fun r9 =>
 cond (!r9.snd) (
 some ((nthI [0, 0, 0, 0, 0, 0, 0, 0, 0, 0, 0, 0, 0, 0, 0, 0, 0, 0, 0, 0, 0, 0, 0, 0, 0, 0, 0, 0, 0, 0, 0, 0, 0, 0, 0, 0, 0, 0, 0, 0], 25))) (
 some ((nthI [r4.fst 0, r4.fst 1, r4.fst 2, r4.fst 3, r4.fst 4, r4.fst 5, r5.fst 0, r5.fst 1, r5.fst 2, r5.fst 3, r5.fst 4, r5.fst 5, r6.fst 0, r6.fst 1, r6.fst 2, r6.fst 3, r6.fst 4, r6.fst 5, r7.fst 0, r7.fst 1, r7.fst 2, r7.fst 3, r7.fst 4, r7.fst 5, r8.fst 0, r8.fst 1, r8.fst 2, r8.fst 3, r8.fst 4, r8.fst 5, r9.fst 0, r9.fst 1, r9.fst 2, r9.fst 3, r9.fst 4, r9.fst 5, 0, bif !decide (b 37 = 0) then 1 else 0, minI (a 38) (b 38), minI (a 39) (b 39)], 0))))))))))))))) (
 Option.bind (f37 (nthI [a 0, a 1, a 2, a 3, a 4, a 5]) (nthI [b 0, b 1, b 2, b 3, b 4, b 5])) (fun r4 =>
 cond (!r4.snd) (
 some ((nthI [0, 0, 0, 0, 0, 0, 0, 0, 0, 0, 0, 0, 0, 0, 0, 0, 0, 0, 0, 0, 0, 0, 0, 0, 0, 0, 0, 0, 0, 0, 0, 0, 0, 0, 0, 0, 0, 0, 0, 0], 25))) (
 Option.bind (f37 (nthI [a 6, a 7, a 8, a 9, a 10, a 11]) (nthI [b 6, b 7, b 8, b 9, b 10, b 11])) (fun r5 =>
 cond (!r5.snd) (
 some ((nthI [0, 0, 0, 0, 0, 0, 0, 0, 0, 0, 0, 0, 0, 0, 0, 0, 0, 0, 0, 0, 0, 0, 0, 0, 0, 0, 0, 0, 0, 0, 0, 0, 0, 0, 0, 0, 0, 0, 0, 0], 25))) (
 Option.bind (f37 (nthI [a 12, a 13, a 14, a 15, a 16, a 17]) (nthI [b 12, b 13, b 14, b 15, b 16, b 17])) (fun r6 =>
 cond (!r6.snd) (
 some ((nthI [0, 0, 0, 0, 0, 0, 0, 0, 0, 0, 0, 0, 0, 0, 0, 0, 0, 0, 0, 0, 0, 0, 0, 0, 0, 0, 0, 0, 0, 0, 0, 0, 0, 0, 0, 0, 0, 0, 0, 0], 25))) (
 Option.bind (f37 (nthI [a 18, a 19, a 20, a 21, a 22, a 23]) (nthI [b 18, b 19, b 20, b 21, b 22, b 23])) (fun r7 =>
 cond (!r7.snd) (
 some ((nthI [0, 0, 0, 0, 0, 0, 0, 0, 0, 0, 0, 0, 0, 0, 0, 0, 0, 0, 0, 0, 0, 0, 0, 0, 0, 0, 0, 0, 0, 0, 0, 0, 0, 0, 0, 0, 0, 0, 0, 0], 25))) (
 Option.bind (f37 (nthI [a 24, a 25, a 26, a 27, a 28, a 29]) (nthI [b 24, b 25, b 26, b 27, b 28, b 29])) (fun r8 =>
 cond (!r8.snd) (
 some ((nthI [0, 0, 0, 0, 0, 0, 0, 0, 0, 0, 0, 0, 0, 0, 0, 0, 0, 0, 0, 0, 0, 0, 0, 0, 0, 0, 0, 0, 0, 0, 0, 0, 0, 0, 0, 0, 0, 0, 0, 0], 25))) (
 Option.bind (f37 (nthI [a 30, a 31, a 32, a 33, a 34, a 35]) (nthI [b 30, b 31, b 32, b 33, b 34, b 35])) (fun r9 =>
 cond (!r9.snd) (
 some ((nthI [0, 0, 0, 0, 0, 0, 0, 0, 0, 0, 0, 0, 0, 0, 0, 0, 0, 0, 0, 0, 0, 0, 0, 0, 0, 0, 0, 0, 0, 0, 0, 0, 0, 0, 0, 0, 0, 0, 0, 0], 25))) (
 some ((nthI [r4.fst 0, r4.fst 1, r4.fst 2, r4.fst 3, r4.fst 4, r4.fst 5, r5.fst 0, r5.fst 1, r5.fst 2, r5.fst 3, r5.fst 4, r5.fst 5, r6.fst 0, r6.fst 1, r6.fst 2, r6.fst 3, r6.fst 4, r6.fst 5, r7.fst 0, r7.fst 1, r7.fst 2, r7.fst 3, r7.fst 4, r7.fst 5, r8.fst 0, r8.fst 1, r8.fst 2, r8.fst 3, r8.fst 4, r8.fst 5, r9.fst 0, r9.fst 1, r9.fst 2, r9.fst 3, r9.fst 4, r9.fst 5, 0, 0, minI (a 38) (b 38), minI (a 39) (b 39)], 0))))))))))))))))))))
theorem fg19 (a : Nat → Int) (b : Nat → Int) : g19 a b = f19 a b := by kernel_rfl
theorem ev19 (a : (aCons (pC (cX kx26)) (aOne (pC (cX kx26)))).T) : evF (R := (rTup (cCons (cX kx26) (cOne (cI .i64)))).T) (cx [] [(14, conF (aOne (pC (cX kx26))) (rOne (cI .i64)) (fun a => f14 a)), (37, conF (aCons (pC (cA .i64 6)) (aOne (pC (cA .i64 6)))) (rTup (cCons (cA .i64 6) (cOne (cB)))) (fun a => f37 (a.1) (a.2)))] [] true) 1000 Try.f19 ((aCons (pC (cX kx26)) (aOne (pC (cX kx26)))).enc gG a) (glMem gl) 0 (rTup (cCons (cX kx26) (cOne (cI .i64)))).dec = f19 a.1 a.2 := (show evF (R := (rTup (cCons (cX kx26) (cOne (cI .i64)))).T) (cx [] [(14, conF (aOne (pC (cX kx26))) (rOne (cI .i64)) (fun a => f14 a)), (37, conF (aCons (pC (cA .i64 6)) (aOne (pC (cA .i64 6)))) (rTup (cCons (cA .i64 6) (cOne (cB)))) (fun a => f37 (a.1) (a.2)))] [] true) 1000 Try.f19 ((aCons (pC (cX kx26)) (aOne (pC (cX kx26)))).enc gG a) (glMem gl) 0 (rTup (cCons (cX kx26) (cOne (cI .i64)))).dec = g19 a.1 a.2 from evg19 f14 f37  a).trans (fg19 a.1 a.2)
theorem sp19 : VE.Spec Try.prog gG gl 19 (conF (aCons (pC (cX kx26)) (aOne (pC (cX kx26)))) (rTup (cCons (cX kx26) (cOne (cI .i64)))) (fun a => f19 a.1 a.2)) := spec_of ok19 Try.func19 Try.call19 (lpAll_nil rfl) 1000 (aCons_ok (pC_ok (cX_ok _)) (aOne_ok (pC_ok (cX_ok _)))) (rTup_ok (cCons_ok (cX_ok _) (cOne_ok (cI_ok _)))) ev19

/-- dancestudioref22.sector -/
theorem okl38 : CtxOK Try.prog (cx [] [(53, conF (aCons (pC (cA .i64 6)) (aOne (pC (cI .i64)))) (rOne (cB)) (fun a => f53 (a.1) (a.2)))] []) gl := ctx_of tyOk moOk (show SpecL Try.prog gG gl [(53, conF (aCons (pC (cA .i64 6)) (aOne (pC (cI .i64)))) (rOne (cB)) (fun a => f53 (a.1) (a.2)))] from ⟨sp53, trivial⟩) (show FnL Try.prog [] from trivial) (fnLp_nil _) joinOk
def T38_0 : ST := ⟨[(2, .s (.ptr 0 0)), (3, .s (.ptr 1 0)), (6, .s (.i .i64)), (7, .s (.i .i64)), (8, .s (.i .i64))], [(0, .own [.i .i64, .i .i64, .i .i64, .i .i64, .i .i64, .i .i64] 23), (1, .own [.i .i64, .i .i64, .i .i64, .i .i64, .i .i64, .i .i64] 23)], 7⟩
def outs38_0 : List (AExit × ST) := [(.exit 0, ⟨[(6, .s (.i .i64)), (7, .s (.i .i64))], [], 11⟩), (.ret, ⟨[(4, .s (.i .i64)), (5, .s (.i .i64))], [], 24⟩)]
noncomputable def s38_0 (rec : (Nat → Int) → (Nat → Sl) → Option LR) (x : Nat → Int) (y : Nat → Sl) : Option LR :=
 cond (decide (x 2 ≤ x 6)) (
 Option.bind (f53 (nthI [x 9, x 10, x 11, x 12, x 13, x 14]) (IntKind.i64.wrap (x 5 + x 2))) (fun r3 =>
 cond (!r3) (
 cond (decide (0 ≤ x 1)) (
 some ((1, nthI [x 0, x 1], nthS []))) (
 rec (nthI [x 0, x 1, IntKind.i64.wrap (x 2 + 1), x 3, x 4, x 5, x 6, x 7, x 8, x 9, x 10, x 11, x 12, x 13, x 14]) (nthS []))) (
 cond (decide (x 1 < 0)) (
 rec (nthI [(IntKind.i64.wrap (x 5 + x 2)).tmod 256, IntKind.i64.wrap (x 1 + 1), IntKind.i64.wrap (x 2 + 1), x 3, x 4, x 5, x 6, x 7, x 8, x 9, x 10, x 11, x 12, x 13, x 14]) (nthS [])) (
 rec (nthI [x 0, IntKind.i64.wrap (x 1 + 1), IntKind.i64.wrap (x 2 + 1), x 3, x 4, x 5, x 6, x 7, x 8, x 9, x 10, x 11, x 12, x 13, x 14]) (nthS []))))) (
 some ((0, nthI [x 0, x 1], nthS [])))
theorem se38_0 (f53 : (Nat → Int) → (Int) → Option (Bool)) (rec : (Nat → Int) → (Nat → Sl) → Option LR) (x : Nat → Int) (y : Nat → Sl) : evR (cx [] [(53, conF (aCons (pC (cA .i64 6)) (aOne (pC (cI .i64)))) (rOne (cB)) (fun a => f53 (a.1) (a.2)))] []) 1000 LR 37 (loopAt Try.f38 0) (encT x y T38_0) (roundK T38_0 outs38_0 rec) =
 (( cond (decide (x 2 ≤ x 6)) (
 Option.bind (f53 (nthI [x 9, x 10, x 11, x 12, x 13, x 14]) (IntKind.i64.wrap (x 5 + x 2))) (fun r3 =>
 cond (!r3) (
 cond (decide (0 ≤ x 1)) (
 some ((1, nthI [x 0, x 1], nthS []))) (
 rec (nthI [x 0, x 1, IntKind.i64.wrap (x 2 + 1), x 3, x 4, x 5, x 6, x 7, x 8, x 9, x 10, x 11, x 12, x 13, x 14]) (nthS []))) (
 cond (decide (x 1 < 0)) (
 rec (nthI [(IntKind.i64.wrap (x 5 + x 2)).tmod 256, IntKind.i64.wrap (x 1 + 1), IntKind.i64.wrap (x 2 + 1), x 3, x 4, x 5, x 6, x 7, x 8, x 9, x 10, x 11, x 12, x 13, x 14]) (nthS [])) (
 rec (nthI [x 0, IntKind.i64.wrap (x 1 + 1), IntKind.i64.wrap (x 2 + 1), x 3, x 4, x 5, x 6, x 7, x 8, x 9, x 10, x 11, x 12, x 13, x 14]) (nthS []))))) (
 some ((0, nthI [x 0, x 1], nthS [])))) : Option LR) := by kernel_rfl
noncomputable def l38_0 (x : Nat → Int) (y : Nat → Sl) : Option LR := iterL s38_0 (400) x y
theorem ls38_0 : LoopSpec Try.prog gG gl 37 ⟨T38_0, outs38_0, l38_0⟩ (loopAt Try.f38 0) := loop_ok (step := s38_0) (fu := fun x y => 400) okl38 1000 (lpNone rfl) (by kernel_rfl) (by kernel_rfl) (fun rec x y => se38_0 f53 rec x y) (fun _ _ => rfl)
theorem ok38 : CtxOK Try.prog (cx [] [(53, conF (aCons (pC (cA .i64 6)) (aOne (pC (cI .i64)))) (rOne (cB)) (fun a => f53 (a.1) (a.2)))] [(37003, ⟨T38_0, outs38_0, l38_0⟩)]) gl := ctx_of tyOk moOk (show SpecL Try.prog gG gl [(53, conF (aCons (pC (cA .i64 6)) (aOne (pC (cI .i64)))) (rOne (cB)) (fun a => f53 (a.1) (a.2)))] from ⟨sp53, trivial⟩) (show FnL Try.prog [] from trivial) (show FnLp Try.prog gG gl [(37003, ⟨T38_0, outs38_0, l38_0⟩)] [] from trivial) joinOk
theorem la38 : LpAll Try.prog (cx [] [(53, conF (aCons (pC (cA .i64 6)) (aOne (pC (cI .i64)))) (rOne (cB)) (fun a => f53 (a.1) (a.2)))] [(37003, ⟨T38_0, outs38_0, l38_0⟩)]) gl Try.f38 := lpAll_of (lps := [(37003, ⟨T38_0, outs38_0, l38_0⟩)]) rfl (ks := [37003]) (by kernel_rfl) (show LpS Try.prog gG gl Try.f38 [(37003, ⟨T38_0, outs38_0, l38_0⟩)] [37003] 0 from ⟨fun L h => (by cases h; exact ls38_0), trivial⟩)
noncomputable def f38 (a : Nat → Int) (b : Nat → Int) : Option (Int × Int) :=
 Option.bind (l38_0 (nthI [0, -1, 0, a 0, a 1, a 2, a 3, a 4, a 5, b 0, b 1, b 2, b 3, b 4, b 5]) (nthS [])) (fun r2 =>
 cond (decide (r2.fst = 0)) (
 some ((r2.snd.fst 0, r2.snd.fst 1))) (
 some ((r2.snd.fst 0, r2.snd.fst 1))))
theorem evg38  (l38_0 : (Nat → Int) → (Nat → Sl) → Option LR) (xx : (aCons (pC (cA .i64 6)) (aOne (pC (cA .i64 6)))).T) : evF (R := (rTup (cCons (cI .i64) (cOne (cI .i64)))).T) (cx [] [(53, conF (aCons (pC (cA .i64 6)) (aOne (pC (cI .i64)))) (rOne (cB)) (fun a => f53 (a.1) (a.2)))] [(37003, ⟨T38_0, outs38_0, l38_0⟩)]) 1000 Try.f38 ((aCons (pC (cA .i64 6)) (aOne (pC (cA .i64 6)))).enc gG xx) (glMem gl) 0 (rTup (cCons (cI .i64) (cOne (cI .i64)))).dec =
 (fun (a : Nat → Int) (b : Nat → Int) =>
 (( Option.bind (l38_0 (nthI [0, -1, 0, a 0, a 1, a 2, a 3, a 4, a 5, b 0, b 1, b 2, b 3, b 4, b 5]) (nthS [])) (fun r2 =>
 cond (decide (r2.fst = 0)) (
 some ((r2.snd.fst 0, r2.snd.fst 1))) (
 some ((r2.snd.fst 0, r2.snd.fst 1))))) : Option (Int × Int))) xx.1 xx.2 := by kernel_rfl
theorem ev38 (a : (aCons (pC (cA .i64 6)) (aOne (pC (cA .i64 6)))).T) : evF (R := (rTup (cCons (cI .i64) (cOne (cI .i64)))).T) (cx [] [(53, conF (aCons (pC (cA .i64 6)) (aOne (pC (cI .i64)))) (rOne (cB)) (fun a => f53 (a.1) (a.2)))] [(37003, ⟨T38_0, outs38_0, l38_0⟩)]) 1000 Try.f38 ((aCons (pC (cA .i64 6)) (aOne (pC (cA .i64 6)))).enc gG a) (glMem gl) 0 (rTup (cCons (cI .i64) (cOne (cI .i64)))).dec = f38 a.1 a.2 := evg38  l38_0 a
theorem sp38 : VE.Spec Try.prog gG gl 38 (conF (aCons (pC (cA .i64 6)) (aOne (pC (cA .i64 6)))) (rTup (cCons (cI .i64) (cOne (cI .i64)))) (fun a => f38 a.1 a.2)) := spec_of ok38 Try.func38 Try.call38 la38 1000 (aCons_ok (pC_ok (cA_ok _ _)) (aOne_ok (pC_ok (cA_ok _ _)))) (rTup_ok (cCons_ok (cI_ok _) (cOne_ok (cI_ok _)))) ev38

/-- dancestudioref22.Narrow -/
theorem ok20 : CtxOK Try.prog (cx [] [(15, conF (aOne (pC (cX kx26))) (rOne (cI .i64)) (fun a => f15 a)), (38, conF (aCons (pC (cA .i64 6)) (aOne (pC (cA .i64 6)))) (rTup (cCons (cI .i64) (cOne (cI .i64)))) (fun a => f38 (a.1) (a.2)))] [] true) gl := ctx_of tyOk moOk (show SpecL Try.prog gG gl [(15, conF (aOne (pC (cX kx26))) (rOne (cI .i64)) (fun a => f15 a)), (38, conF (aCons (pC (cA .i64 6)) (aOne (pC (cA .i64 6)))) (rTup (cCons (cI .i64) (cOne (cI .i64)))) (fun a => f38 (a.1) (a.2)))] from ⟨sp15, sp38, trivial⟩) (show FnL Try.prog [] from trivial) (fnLp_nil _) joinOk
noncomputable def f20 (a : Nat → Int) (b : Nat → Int) : Option ((Nat → Int) × Int) :=
 Option.bind (f15 (nthI [a 0, a 1, a 2, a 3, a 4, a 5, a 6, a 7, a 8, a 9, a 10, a 11, a 12, a 13, a 14, a 15, a 16, a 17, a 18, a 19, a 20, a 21, a 22, a 23, a 24, a 25, a 26, a 27, a 28, a 29, a 30, a 31, a 32, a 33, a 34, a 35, bif !decide (a 36 = 0) then 1 else 0, bif !decide (a 37 = 0) then 1 else 0, a 38, a 39])) (fun r2 =>
 cond (!decide (r2 = 0)) (
 some ((nthI [0, 0, 0, 0, 0, 0, 0, 0, 0, 0, 0, 0, 0, 0, 0, 0, 0, 0, 0, 0, 0, 0, 0, 0, 0, 0, 0, 0, 0, 0, 0, 0, 0, 0, 0, 0, 0, 0, 0, 0], r2))) (
 Option.bind (f15 (nthI [b 0, b 1, b 2, b 3, b 4, b 5, b 6, b 7, b 8, b 9, b 10, b 11, b 12, b 13, b 14, b 15, b 16, b 17, b 18, b 19, b 20, b 21, b 22, b 23, b 24, b 25, b 26, b 27, b 28, b 29, b 30, b 31, b 32, b 33, b 34, b 35, bif !decide (b 36 = 0) then 1 else 0, bif !decide (b 37 = 0) then 1 else 0, b 38, b 39])) (fun r3 =>
 cond (!decide (r3 = 0)) (
 some ((nthI [0, 0, 0, 0, 0, 0, 0, 0, 0, 0, 0, 0, 0, 0, 0, 0, 0, 0, 0, 0, 0, 0, 0, 0, 0, 0, 0, 0, 0, 0, 0, 0, 0, 0, 0, 0, 0, 0, 0, 0], r3))) (
 cond (!decide (a 36 = 0)) (
 cond (!decide (a 37 = 0)) (
 Option.bind (f38 a b) (fun r4 =>
 Option.bind (cond (decide (minI (a 1) (b 1) < maxI (a 0) (b 0))) (
 some (true)) (
 some (decide (r4.snd < 0)))) (fun r5 =>
 cond (r5) (
 some ((nthI [0, 0, 0, 0, 0, 0, 0, 0, 0, 0, 0, 0, 0, 0, 0, 0, 0, 0, 0, 0, 0, 0, 0, 0, 0, 0, 0, 0, 0, 0, 0, 0, 0, 0, 0, 0, 0, 0, 0, 0], 25))) (
 Option.bind (f38 (nthI [a 6, a 7, a 8, a 9, a 10, a 11]) (nthI [b 6, b 7, b 8, b 9, b 10, b 11])) (fun r6 =>
 Option.bind (cond (decide (minI (a 7) (b 7) < maxI (a 6) (b 6))) (
 some (true)) (
 some (decide (r6.snd < 0)))) (fun r7 =>
 cond (r7) (
 some ((nthI [0, 0, 0, 0, 0, 0, 0, 0, 0, 0, 0, 0, 0, 0, 0, 0, 0, 0, 0, 0, 0, 0, 0, 0, 0, 0, 0, 0, 0, 0, 0, 0, 0, 0, 0, 0, 0, 0, 0, 0], 25))) (
 Option.bind (f38 (nthI [a 12, a 13, a 14, a 15, a 16, a 17]) (nthI [b 12, b 13, b 14, b 15, b 16, b 17])) (fun r8 =>
 Option.bind (cond (decide (minI (a 13) (b 13) < maxI (a 12) (b 12))) (
 some (true)) (
 some (decide (r8.snd < 0)))) (fun r9 =>
 cond (r9) (
 some ((nthI [0, 0, 0, 0, 0, 0, 0, 0, 0, 0, 0, 0, 0, 0, 0, 0, 0, 0, 0, 0, 0, 0, 0, 0, 0, 0, 0, 0, 0, 0, 0, 0, 0, 0, 0, 0, 0, 0, 0, 0], 25))) (
 Option.bind (f38 (nthI [a 18, a 19, a 20, a 21, a 22, a 23]) (nthI [b 18, b 19, b 20, b 21, b 22, b 23])) (fun r10 =>
 Option.bind (cond (decide (minI (a 19) (b 19) < maxI (a 18) (b 18))) (
 some (true)) (
 some (decide (r10.snd < 0)))) (fun r11 =>
 cond (r11) (
 some ((nthI [0, 0, 0, 0, 0, 0, 0, 0, 0, 0, 0, 0, 0, 0, 0, 0, 0, 0, 0, 0, 0, 0, 0, 0, 0, 0, 0, 0, 0, 0, 0, 0, 0, 0, 0, 0, 0, 0, 0, 0], 25))) (
 Option.bind (f38 (nthI [a 24, a 25, a 26, a 27, a 28, a 29]) (nthI [b 24, b 25, b 26, b 27, b 28, b 29])) (fun r12 =>
 Option.bind (cond (decide (minI (a 25) (b 25) < maxI (a 24) (b 24))) (
 some (true)) (
 some (decide (r12.snd < 0)))) (fun r13 =>
 cond (r13) (
 some ((nthI [0, 0, 0, 0, 0, 0, 0, 0, 0, 0, 0, 0, 0, 0, 0, 0, 0, 0, 0, 0, 0, 0, 0, 0, 0, 0, 0, 0, 0, 0, 0, 0, 0, 0, 0, 0, 0, 0, 0, 0], 25))) (
 Option.bind (f38 (nthI [a 30, a 31, a 32, a 33, a 34, a 35]) (nthI [b 30, b 31, b 32, b 33, b 34, b 35])) (fun r14 =>
 Option.bind (cond (decide (minI (a 31) (b 31) < maxI (a 30) (b 30))) (
 some (true)) (
 some (decide (r14.snd < 0)))) (fun r15 =>
 cond (r15) (
 some ((nthI [0, 0, 0, 0, 0, 0, 0, 0, 0, 0, 0, 0, 0, 0, 0, 0, 0, 0, 0, 0, 0, 0, 0, 0, 0, 0, 0, 0, 0, 0, 0, 0, 0, 0, 0, 0, 0, 0, 0, 0], 25))) (
 some ((nthI [maxI (a 0) (b 0), minI (a 1) (b 1), r4.fst, r4.snd, minI (a 4) (b 4), minI (a 5) (b 5), maxI (a 6) (b 6), minI (a 7) (b 7), r6.fst, r6.snd, minI (a 10) (b 10), minI (a 11) (b 11), maxI (a 12) (b 12), minI (a 13) (b 13), r8.fst, r8.snd, minI (a 16) (b 16), minI (a 17) (b 17), maxI (a 18) (b 18), minI (a 19) (b 19), r10.fst, r10.snd, minI (a 22) (b 22), minI (a 23) (b 23), maxI (a 24) (b 24), minI (a 25) (b 25), r12.fst, r12.snd, minI (a 28) (b 28), minI (a 29) (b 29), maxI (a 30) (b 30), minI (a 31) (b 31), r14.fst, r14.snd, minI (a 34) (b 34), minI (a 35) (b 35), bif !decide (b 36 = 0) then 1 else 0, bif !decide (b 37 = 0) then 1 else 0, minI (a 38) (b 38), minI (a 39) (b 39)], 0))))))))))))))))))))) (
 Option.bind (f38 a b) (fun r4 =>
 Option.bind (cond (decide (minI (a 1) (b 1) < maxI (a 0) (b 0))) (
 some (true)) (
 some (decide (r4.snd < 0)))) (fun r5 =>
 cond (r5) (
 some ((nthI [0, 0, 0, 0, 0, 0, 0, 0, 0, 0, 0, 0, 0, 0, 0, 0, 0, 0, 0, 0, 0, 0, 0, 0, 0, 0, 0, 0, 0, 0, 0, 0, 0, 0, 0, 0, 0, 0, 0, 0], 25))) (
 Option.bind (f38 (nthI [a 6, a 7, a 8, a 9, a 10, a 11]) (nthI [b 6, b 7, b 8, b 9, b 10, b 11])) (fun r6 =>
 Option.bind (cond (decide (minI (a 7) (b 7) < maxI (a 6) (b 6))) (
 some (true)) (
 some (decide (r6.snd < 0)))) (fun r7 =>
 cond (r7) (
 some ((nthI [0, 0, 0, 0, 0, 0, 0, 0, 0, 0, 0, 0, 0, 0, 0, 0, 0, 0, 0, 0, 0, 0, 0, 0, 0, 0, 0, 0, 0, 0, 0, 0, 0, 0, 0, 0, 0, 0, 0, 0], 25))) (
 Option.bind (f38 (nthI [a 12, a 13, a 14, a 15, a 16, a 17]) (nthI [b 12, b 13, b 14, b 15, b 16, b 17])) (fun r8 =>
 Option.bind (cond (decide (minI (a 13) (b 13) < maxI (a 12) (b 12))) (
 some (true)) (
 some (decide (r8.snd < 0)))) (fun r9 =>
 cond (r9) (
 some ((nthI [0, 0, 0, 0, 0, 0, 0, 0, 0, 0, 0, 0, 0, 0, 0, 0, 0, 0, 0, 0, 0, 0, 0, 0, 0, 0, 0, 0, 0, 0, 0, 0, 0, 0, 0, 0, 0, 0, 0, 0], 25))) (
 Option.bind (f38 (nthI [a 18, a 19, a 20, a 21, a 22, a 23]) (nthI [b 18, b 19, b 20, b 21, b 22, b 23])) (fun r10 =>
 Option.bind (cond (decide (minI (a 19) (b 19) < maxI (a 18) (b 18))) (
 some (true)) (
 some (decide (r10.snd < 0)))) (fun r11 =>
 cond (r11) (
 some ((nthI [0, 0, 0, 0, 0, 0, 0, 0, 0, 0, 0, 0, 0, 0, 0, 0, 0, 0, 0, 0, 0, 0, 0, 0, 0, 0, 0, 0, 0, 0, 0, 0, 0, 0, 0, 0, 0, 0, 0, 0], 25))) (
 Option.bind (f38 (nthI [a 24, a 25, a 26, a 27, a 28, a 29]) (nthI [b 24, b 25, b 26, b 27, b 28, b 29])) (fun r12 =>
 Option.bind (cond (decide (minI (a 25) (b 25) < maxI (a 24) (b 24))) (
 some (true)) (
 some (decide (r12.snd < 0)))) (fun r13 =>
 cond (r13) (
 some ((nthI [0, 0, 0, 0, 0, 0, 0, 0, 0, 0, 0, 0, 0, 0, 0, 0, 0, 0, 0, 0, 0, 0, 0, 0, 0, 0, 0, 0, 0, 0, 0, 0, 0, 0, 0, 0, 0, 0, 0, 0], 25))) (
 Option.bind (f38 (nthI [a 30, a 31, a 32, a 33, a 34, a 35]) (nthI [b 30, b 31, b 32, b 33, b 34, b 35])) (fun r14 =>
 Option.bind (cond (decide (minI (a 31) (b 31) < maxI (a 30) (b 30))) (
 some (true)) (
 some (decide (r14.snd < 0)))) (fun r15 =>
 cond (r15) (
 some ((nthI [0, 0, 0, 0, 0, 0, 0, 0, 0, 0, 0, 0, 0, 0, 0, 0, 0, 0, 0, 0, 0, 0, 0, 0, 0, 0, 0, 0, 0, 0, 0, 0, 0, 0, 0, 0, 0, 0, 0, 0], 25))) (
 some ((nthI [maxI (a 0) (b 0), minI (a 1) (b 1), r4.fst, r4.snd, minI (a 4) (b 4), minI (a 5) (b 5), maxI (a 6) (b 6), minI (a 7) (b 7), r6.fst, r6.snd, minI (a 10) (b 10), minI (a 11) (b 11), maxI (a 12) (b 12), minI (a 13) (b 13), r8.fst, r8.snd, minI (a 16) (b 16), minI (a 17) (b 17), maxI (a 18) (b 18), minI (a 19) (b 19), r10.fst, r10.snd, minI (a 22) (b 22), minI (a 23) (b 23), maxI (a 24) (b 24), minI (a 25) (b 25), r12.fst, r12.snd, minI (a 28) (b 28), minI (a 29) (b 29), maxI (a 30) (b 30), minI (a 31) (b 31), r14.fst, r14.snd, minI (a 34) (b 34), minI (a 35) (b 35), bif !decide (b 36 = 0) then 1 else 0, 0, minI (a 38) (b 38), minI (a 39) (b 39)], 0)))))))))))))))))))))) (
 cond (!decide (a 37 = 0)) (
 Option.bind (f38 a b) (fun r4 =>
 Option.bind (cond (decide (minI (a 1) (b 1) < maxI (a 0) (b 0))) (
 some (true)) (
 some (decide (r4.snd < 0)))) (fun r5 =>
 cond (r5) (
 some ((nthI [0, 0, 0, 0, 0, 0, 0, 0, 0, 0, 0, 0, 0, 0, 0, 0, 0, 0, 0, 0, 0, 0, 0, 0, 0, 0, 0, 0, 0, 0, 0, 0, 0, 0, 0, 0, 0, 0, 0, 0], 25))) (
 Option.bind (f38 (nthI [a 6, a 7, a 8, a 9, a 10, a 11]) (nthI [b 6, b 7, b 8, b 9, b 10, b 11])) (fun r6 =>
 Option.bind (cond (decide (minI (a 7) (b 7) < maxI (a 6) (b 6))) (
 some (true)) (
 some (decide (r6.snd < 0)))) (fun r7 =>
 cond (r7) (
 some ((nthI [0, 0, 0, 0, 0, 0, 0, 0, 0, 0, 0, 0, 0, 0, 0, 0, 0, 0, 0, 0, 0, 0, 0, 0, 0, 0, 0, 0, 0, 0, 0, 0, 0, 0, 0, 0, 0, 0, 0, 0], 25))) (
 Option.bind (f38 (nthI [a 12, a 13, a 14, a 15, a 16, a 17]) (nthI [b 12, b 13, b 14, b 15, b 16, b 17])) (fun r8 =>
 Option.bind (cond (decide (minI (a 13) (b 13) < maxI (a 12) (b 12))) (
 some (true)) (
 some (decide (r8.snd < 0)))) (fun r9 =>
 cond (r9) (
 some ((nthI [0, 0, 0, 0, 0, 0, 0, 0, 0, 0, 0, 0, 0, 0, 0, 0, 0, 0, 0, 0, 0, 0, 0, 0, 0, 0, 0, 0, 0, 0, 0, 0, 0, 0, 0, 0, 0, 0, 0, 0], 25))) (
 Option.bind (f38 (nthI [a 18, a 19, a 20, a 21, a 22, a 23]) (nthI [b 18, b 19, b 20, b 21, b 22, b 23])) (fun r10 =>
 Option.bind (cond (decide (minI (a 19) (b 19) < maxI (a 18) (b 18))) (
 some (true)) (
 some (decide (r10.snd < 0)))) (fun r11 =>
 cond (r11) (
 some ((nthI [0, 0, 0, 0, 0, 0, 0, 0, 0, 0, 0, 0, 0, 0, 0, 0, 0, 0, 0, 0, 0, 0, 0, 0, 0, 0, 0, 0, 0, 0, 0, 0, 0, 0, 0, 0, 0, 0, 0, 0], 25))) (
 Option.bind (f38 (nthI [a 24, a 25, a 26, a 27, a 28, a 29]) (nthI [b 24, b 25, b 26, b 27, b 28, b 29])) (fun r12 =>
 Option.bind (cond (decide (minI (a 25) (b 25) < maxI (a 24) (b 24))) (
 some (true)) (
 some (decide (r12.snd < 0)))) (fun r13 =>
 cond (r13) (
 some ((nthI [0, 0, 0, 0, 0, 0, 0, 0, 0, 0, 0, 0, 0, 0, 0, 0, 0, 0, 0, 0, 0, 0, 0, 0, 0, 0, 0, 0, 0, 0, 0, 0, 0, 0, 0, 0, 0, 0, 0, 0], 25))) (
 Option.bind (f38 (nthI [a 30, a 31, a 32, a 33, a 34, a 35]) (nthI [b 30, b 31, b 32, b 33, b 34, b 35])) (fun r14 =>
 Option.bind (cond (decide (minI (a 31) (b 31) < maxI (a 30) (b 30))) (
 some (true)) (
 some (decide (r14.snd < 0)))) (fun r15 =>
 cond (r15) (
 some ((nthI [0, 0, 0, 0, 0, 0, 0, 0, 0, 0, 0, 0, 0, 0, 0, 0, 0, 0, 0, 0, 0, 0, 0, 0, 0, 0, 0, 0, 0, 0, 0, 0, 0, 0, 0, 0, 0, 0, 0, 0], 25))) (
 some ((nthI [maxI (a 0) (b 0), minI (a 1) (b 1), r4.fst, r4.snd, minI (a 4) (b 4), minI (a 5) (b 5), maxI (a 6) (b 6), minI (a 7) (b 7), r6.fst, r6.snd, minI (a 10) (b 10), minI (a 11) (b 11), maxI (a 12) (b 12), minI (a 13) (b 13), r8.fst, r8.snd, minI (a 16) (b 16), minI (a 17) (b 17), maxI (a 18) (b 18), minI (a 19) (b 19), r10.fst, r10.snd, minI (a 22) (b 22), minI (a 23) (b 23), maxI (a 24) (b 24), minI (a 25) (b 25), r12.fst, r12.snd, minI (a 28) (b 28), minI (a 29) (b 29), maxI (a 30) (b 30), minI (a 31) (b 31), r14.fst, r14.snd, minI (a 34) (b 34), minI (a 35) (b 35), 0, bif !decide (b 37 = 0) then 1 else 0, minI (a 38) (b 38), minI (a 39) (b 39)], 0))))))))))))))))))))) (
 Option.bind (f38 a b) (fun r4 =>
 Option.bind (cond (decide (minI (a 1) (b 1) < maxI (a 0) (b 0))) (
 some (true)) (
 some (decide (r4.snd < 0)))) (fun r5 =>
 cond (r5) (
 some ((nthI [0, 0, 0, 0, 0, 0, 0, 0, 0, 0, 0, 0, 0, 0, 0, 0, 0, 0, 0, 0, 0, 0, 0, 0, 0, 0, 0, 0, 0, 0, 0, 0, 0, 0, 0, 0, 0, 0, 0, 0], 25))) (
 Option.bind (f38 (nthI [a 6, a 7, a 8, a 9, a 10, a 11]) (nthI [b 6, b 7, b 8, b 9, b 10, b 11])) (fun r6 =>
 Option.bind (cond (decide (minI (a 7) (b 7) < maxI (a 6) (b 6))) (
 some (true)) (
 some (decide (r6.snd < 0)))) (fun r7 =>
 cond (r7) (
 some ((nthI [0, 0, 0, 0, 0, 0, 0, 0, 0, 0, 0, 0, 0, 0, 0, 0, 0, 0, 0, 0, 0, 0, 0, 0, 0, 0, 0, 0, 0, 0, 0, 0, 0, 0, 0, 0, 0, 0, 0, 0], 25))) (
 Option.bind (f38 (nthI [a 12, a 13, a 14, a 15, a 16, a 17]) (nthI [b 12, b 13, b 14, b 15, b 16, b 17])) (fun r8 =>
 Option.bind (cond (decide (minI (a 13) (b 13) < maxI (a 12) (b 12))) (
 some (true)) (
 some (decide (r8.snd < 0)))) (fun r9 =>
 cond (r9) (
 some ((nthI [0, 0, 0, 0, 0, 0, 0, 0, 0, 0, 0, 0, 0, 0, 0, 0, 0, 0, 0, 0, 0, 0, 0, 0, 0, 0, 0, 0, 0, 0, 0, 0, 0, 0, 0, 0, 0, 0, 0, 0], 25))) (
 Option.bind (f38 (nthI [a 18, a 19, a 20, a 21, a 22, a 23]) (nthI [b 18, b 19, b 20, b 21, b 22, b 23])) (fun r10 =>
 Option.bind (cond (decide (minI (a 19) (b 19) < maxI (a 18) (b 18))) (
 some (true)) (
 some (decide (r10.snd < 0)))) (fun r11 =>
 cond (r11) (
 some ((nthI [0, 0, 0, 0, 0, 0, 0, 0, 0, 0, 0, 0, 0, 0, 0, 0, 0, 0, 0, 0, 0, 0, 0, 0, 0, 0, 0, 0, 0, 0, 0, 0, 0, 0, 0, 0, 0, 0, 0, 0], 25))) (
 Option.bind (f38 (nthI [a 24, a 25, a 26, a 27, a 28, a 29]) (nthI [b 24, b 25, b 26, b 27, b 28, b 29])) (fun r12 =>
 Option.bind (cond (decide (minI (a 25) (b 25) < maxI (a 24) (b 24))) (
 some (true)) (
 some (decide (r12.snd < 0)))) (fun r13 =>
 cond (r13) (
 some ((nthI [0, 0, 0, 0, 0, 0, 0, 0, 0, 0, 0, 0, 0, 0, 0, 0, 0, 0, 0, 0, 0, 0, 0, 0, 0, 0, 0, 0, 0, 0, 0, 0, 0, 0, 0, 0, 0, 0, 0, 0], 25))) (
 Option.bind (f38 (nthI [a 30, a 31, a 32, a 33, a 34, a 35]) (nthI [b 30, b 31, b 32, b 33, b 34, b 35])) (fun r14 =>
 Option.bind (cond (decide (minI (a 31) (b 31) < maxI (a 30) (b 30))) (
 some (true)) (
 some (decide (r14.snd < 0)))) (fun r15 =>
 cond (r15) (
 some ((nthI [0, 0, 0, 0, 0, 0, 0, 0, 0, 0, 0, 0, 0, 0, 0, 0, 0, 0, 0, 0, 0, 0, 0, 0, 0, 0, 0, 0, 0, 0, 0, 0, 0, 0, 0, 0, 0, 0, 0, 0], 25))) (
 some ((nthI [maxI (a 0) (b 0), minI (a 1) (b 1), r4.fst, r4.snd, minI (a 4) (b 4), minI (a 5) (b 5), maxI (a 6) (b 6), minI (a 7) (b 7), r6.fst, r6.snd, minI (a 10) (b 10), minI (a 11) (b 11), maxI (a 12) (b 12), minI (a 13) (b 13), r8.fst, r8.snd, minI (a 16) (b 16), minI (a 17) (b 17), maxI (a 18) (b 18), minI (a 19) (b 19), r10.fst, r10.snd, minI (a 22) (b 22), minI (a 23) (b 23), maxI (a 24) (b 24), minI (a 25) (b 25), r12.fst, r12.snd, minI (a 28) (b 28), minI (a 29) (b 29), maxI (a 30) (b 30), minI (a 31) (b 31), r14.fst, r14.snd, minI (a 34) (b 34), minI (a 35) (b 35), 0, 0, minI (a 38) (b 38), minI (a 39) (b 39)], 0))))))))))))))))))))))))))
theorem evg20 (f15 : (Nat → Int) → Option (Int)) (f38 : (Nat → Int) → (Nat → Int) → Option (Int × Int))  (xx : (aCons (pC (cX kx26)) (aOne (pC (cX kx26)))).T) : evF (R := (rTup (cCons (cX kx26) (cOne (cI .i64)))).T) (cx [] [(15, conF (aOne (pC (cX kx26))) (rOne (cI .i64)) (fun a => f15 a)), (38, conF (aCons (pC (cA .i64 6)) (aOne (pC (cA .i64 6)))) (rTup (cCons (cI .i64) (cOne (cI .i64)))) (fun a => f38 (a.1) (a.2)))] [] true) 1000 Try.f20 ((aCons (pC (cX kx26)) (aOne (pC (cX kx26)))).enc gG xx) (glMem gl) 0 (rTup (cCons (cX kx26) (cOne (cI .i64)))).dec =
 (fun (a : Nat → Int) (b : Nat → Int) =>
 (( Option.bind (f15 (nthI [a 0, a 1, a 2, a 3, a 4, a 5, a 6, a 7, a 8, a 9, a 10, a 11, a 12, a 13, a 14, a 15, a 16, a 17, a 18, a 19, a 20, a 21, a 22, a 23, a 24, a 25, a 26, a 27, a 28, a 29, a 30, a 31, a 32, a 33, a 34, a 35, bif !decide (a 36 = 0) then 1 else 0, bif !decide (a 37 = 0) then 1 else 0, a 38, a 39])) (fun r2 =>
 cond (!decide (r2 = 0)) (
 some ((nthI [0, 0, 0, 0, 0, 0, 0, 0, 0, 0, 0, 0, 0, 0, 0, 0, 0, 0, 0, 0, 0, 0, 0, 0, 0, 0, 0, 0, 0, 0, 0, 0, 0, 0, 0, 0, 0, 0, 0, 0], r2))) (
 Option.bind (f15 (nthI [b 0, b 1, b 2, b 3, b 4, b 5, b 6, b 7, b 8, b 9, b 10, b 11, b 12, b 13, b 14, b 15, b 16, b 17, b 18, b 19, b 20, b 21, b 22, b 23, b 24, b 25, b 26, b 27, b 28, b 29, b 30, b 31, b 32, b 33, b 34, b 35, bif !decide (b 36 = 0) then 1 else 0, bif !decide (b 37 = 0) then 1 else 0, b 38, b 39])) (fun r3 =>
 cond (!decide (r3 = 0)) (
 some ((nthI [0, 0, 0, 0, 0, 0, 0, 0, 0, 0, 0, 0, 0, 0, 0, 0, 0, 0, 0, 0, 0, 0, 0, 0, 0, 0, 0, 0, 0, 0, 0, 0, 0, 0, 0, 0, 0, 0, 0, 0], r3))) (
 cond (!decide (a 36 = 0)) (
 cond (!decide (a 37 = 0)) (
 Option.bind (f38 (nthI [a 0, a 1, a 2, a 3, a 4, a 5]) (nthI [b 0, b 1, b 2, b 3, b 4, b 5])) (fun r4 =>
 Option.bind (cond (decide (minI (a 1) (b 1) < maxI (a 0) (b 0))) (
 some (true)) (
 some (decide (r4.snd < 0)))) (fun r5 =>
 cond (r5) (
 some ((nthI [0, 0, 0, 0, 0, 0, 0, 0, 0, 0, 0, 0, 0, 0, 0, 0, 0, 0, 0, 0, 0, 0, 0, 0, 0, 0, 0, 0, 0, 0, 0, 0, 0, 0, 0, 0, 0, 0, 0, 0], 25))) (
 Option.bind (f38 (nthI [a 6, a 7, a 8, a 9, a 10, a 11]) (nthI [b 6, b 7, b 8, b 9, b 10, b 11])) (fun r6 =>
 Option.bind (cond (decide (minI (a 7) (b 7) < maxI (a 6) (b 6))) (
 some (true)) (
 some (decide (r6.snd < 0)))) (fun r7 =>
 cond (r7) (
 some ((nthI [0, 0, 0, 0, 0, 0, 0, 0, 0, 0, 0, 0, 0, 0, 0, 0, 0, 0, 0, 0, 0, 0, 0, 0, 0, 0, 0, 0, 0, 0, 0, 0, 0, 0, 0, 0, 0, 0, 0, 0], 25))) (
 Option.bind (f38 (nthI [a 12, a 13, a 14, a 15, a 16, a 17]) (nthI [b 12, b 13, b 14, b 15, b 16, b 17])) (fun r8 =>
 Option.bind (cond (decide (minI (a 13) (b 13) < maxI (a 12) (b 12))) (
 some (true)) (
 some (decide (r8.snd < 0)))) (fun r9 =>
 cond (r9) (
 some ((nthI [0, 0, 0, 0, 0, 0, 0, 0, 0, 0, 0, 0, 0, 0, 0, 0, 0, 0, 0, 0, 0, 0, 0, 0, 0, 0, 0, 0, 0, 0, 0, 0, 0, 0, 0, 0, 0, 0, 0, 0], 25))) (
 Option.bind (f38 (nthI [a 18, a 19, a 20, a 21, a 22, a 23]) (nthI [b 18, b 19, b 20, b 21, b 22, b 23])) (fun r10 =>
 Option.bind (cond (decide (minI (a 19) (b 19) < maxI (a 18) (b 18))) (
 some (true)) (
 some (decide (r10.snd < 0)))) (fun r11 =>
 cond (r11) (
 some ((nthI [0, 0, 0, 0, 0, 0, 0, 0, 0, 0, 0, 0, 0, 0, 0, 0, 0, 0, 0, 0, 0, 0, 0, 0, 0, 0, 0, 0, 0, 0, 0, 0, 0, 0, 0, 0, 0, 0, 0, 0], 25))) (
 Option.bind (f38 (nthI [a 24, a 25, a 26, a 27, a 28, a 29]) (nthI [b 24, b 25, b 26, b 27, b 28, b 29])) (fun r12 =>
 Option.bind (cond (decide (minI (a 25) (b 25) < maxI (a 24) (b 24))) (
 some (true)) (
 some (decide (r12.snd < 0)))) (fun r13 =>
 cond (r13) (
 some ((nthI [0, 0, 0, 0, 0, 0, 0, 0, 0, 0, 0, 0, 0, 0, 0, 0, 0, 0, 0, 0, 0, 0, 0, 0, 0, 0, 0, 0, 0, 0, 0, 0, 0, 0, 0, 0, 0, 0, 0, 0], 25))) (
 Option.bind (f38 (nthI [a 30, a 31, a 32, a 33, a 34, a 35]) (nthI [b 30, b 31, b 32, b 33, b 34, b 35])) (fun r14 =>
 Option.bind (cond (decide (minI (a 31) (b 31) < maxI (a 30) (b 30))) (
 some (true)) (
 some (decide (r14.snd < 0)))) (fun r15 =>
 cond (r15) (
 some ((nthI [0, 0, 0, 0, 0, 0, 0, 0, 0, 0, 0, 0, 0, 0, 0, 0, 0, 0, 0, 0, 0, 0, 0, 0, 0, 0, 0, 0, 0, 0, 0, 0, 0, 0, 0, 0, 0, 0, 0, 0], 25))) (
 some ((nthI [maxI (a 0) (b 0), minI (a 1) (b 1), r4.fst, r4.snd, minI (a 4) (b 4), minI (a 5) (b 5), maxI (a 6) (b 6), minI (a 7) (b 7), r6.fst, r6.snd, minI (a 10) (b 10), minI (a 11) (b 11), maxI (a 12) (b 12), minI (a 13) (b 13), r8.fst, r8.snd, minI (a 16) (b 16), minI (a 17) (b 17), maxI (a 18) (b 18), minI (a 19) (b 19), r10.fst, r10.snd, minI (a 22) (b 22), minI (a 23) (b 23), maxI (a 24) (b 24), minI (a 25) (b 25), r12.fst, r12.snd, minI (a 28) (b 28), minI (a 29) (b 29), maxI (a 30) (b 30), minI (a 31) (b 31), r14.fst, r14.snd, minI (a 34) (b 34), minI (a 35) (b 35), bif !decide (b 36 = 0) then 1 else 0, bif !decide (b 37 = 0) then 1 else 0, minI (a 38) (b 38), minI (a 39) (b 39)], 0))))))))))))))))))))) (
 Option.bind (f38 (nthI [a 0, a 1, a 2, a 3, a 4, a 5]) (nthI [b 0, b 1, b 2, b 3, b 4, b 5])) (fun r4 =>
 Option.bind (cond (decide (minI (a 1) (b 1) < maxI (a 0) (b 0))) (
 some (true)) (
 some (decide (r4.snd < 0)))) (fun r5 =>
 cond (r5) (
 some ((nthI [0, 0, 0, 0, 0, 0, 0, 0, 0, 0, 0, 0, 0, 0, 0, 0, 0, 0, 0, 0, 0, 0, 0, 0, 0, 0, 0, 0, 0, 0, 0, 0, 0, 0, 0, 0, 0, 0, 0, 0], 25))) (
 Option.bind (f38 (nthI [a 6, a 7, a 8, a 9, a 10, a 11]) (nthI [b 6, b 7, b 8, b 9, b 10, b 11])) (fun r6 =>
 Option.bind (cond (decide (minI (a 7) (b 7) < maxI (a 6) (b 6))) (
 some (true)) (
 some (decide (r6.snd < 0)))) (fun r7 =>
 cond (r7) (
 some ((nthI [0, 0, 0, 0, 0, 0, 0, 0, 0, 0, 0, 0, 0, 0, 0, 0, 0, 0, 0, 0, 0, 0, 0, 0, 0, 0, 0, 0, 0, 0, 0, 0, 0, 0, 0, 0, 0, 0, 0, 0], 25))) (
 Option.bind (f38 (nthI [a 12, a 13, a 14, a 15, a 16, a 17]) (nthI [b 12, b 13, b 14, b 15, b 16, b 17])) (fun r8 =>
 Option.bind (cond (decide (minI (a 13) (b 13) < maxI (a 12) (b 12))) (
 some (true)) (
 some (decide (r8.snd < 0)))) (fun r9 =>
 cond (r9) (
 some ((nthI [0, 0, 0, 0, 0, 0, 0, 0, 0, 0, 0, 0, 0, 0, 0, 0, 0, 0, 0, 0, 0, 0, 0, 0, 0, 0, 0, 0, 0, 0, 0, 0, 0, 0, 0, 0, 0, 0, 0, 0], 25))) (
 Option.bind (f38 (nthI [a 18, a 19, a 20, a 21, a 22, a 23]) (nthI [b 18, b 19, b 20, b 21, b 22, b 23])) (fun r10 =>
 Option.bind (cond (decide (minI (a 19) (b 19) < maxI (a 18) (b 18))) (
 some (true)) (
 some (decide (r10.snd < 0)))) (fun r11 =>
 cond (r11) (
 some ((nthI [0, 0, 0, 0, 0, 0, 0, 0, 0, 0, 0, 0, 0, 0, 0, 0, 0, 0, 0, 0, 0, 0, 0, 0, 0, 0, 0, 0, 0, 0, 0, 0, 0, 0, 0, 0, 0, 0, 0, 0], 25))) (
 Option.bind (f38 (nthI [a 24, a 25, a 26, a 27, a 28, a 29]) (nthI [b 24, b 25, b 26, b 27, b 28, b 29])) (fun r12 =>
 Option.bind (cond (decide (minI (a 25) (b 25) < maxI (a 24) (b 24))) (
 some (true)) (
 some (decide (r12.snd < 0)))) (fun r13 =>
 cond (r13) (
 some ((nthI [0, 0, 0, 0, 0, 0, 0, 0, 0, 0, 0, 0, 0, 0, 0, 0, 0, 0, 0, 0, 0, 0, 0, 0, 0, 0, 0, 0, 0, 0, 0, 0, 0, 0, 0, 0, 0, 0, 0, 0], 25))) (
 Option.bind (f38 (nthI [a 30, a 31, a 32, a 33, a 34, a 35]) (nthI [b 30, b 31, b 32, b 33, b 34, b 35])) (fun r14 =>
 Option.bind (cond (decide (minI (a 31) (b 31) < maxI (a 30) (b 30))) (
 some (true)) (
 some (decide (r14.snd < 0)))) (fun r15 =>
 cond (r15) (
 some ((nthI [0, 0, 0, 0, 0, 0, 0, 0, 0, 0, 0, 0, 0, 0, 0, 0, 0, 0, 0, 0, 0, 0, 0, 0, 0, 0, 0, 0, 0, 0, 0, 0, 0, 0, 0, 0, 0, 0, 0, 0], 25))) (
 some ((nthI [maxI (a 0) (b 0), minI (a 1) (b 1), r4.fst, r4.snd, minI (a 4) (b 4), minI (a 5) (b 5), maxI (a 6) (b 6), minI (a 7) (b 7), r6.fst, r6.snd, minI (a 10) (b 10), minI (a 11) (b 11), maxI (a 12) (b 12), minI (a 13) (b 13), r8.fst, r8.snd, minI (a 16) (b 16), minI (a 17) (b 17), maxI (a 18) (b 18), minI (a 19) (b 19), r10.fst, r10.snd, minI (a 22) (b 22), minI (a 23) (b 23), maxI (a 24) (b 24), minI (a 25) (b 25), r12.fst, r12.snd, minI (a 28) (b 28), minI (a 29) (b 29), maxI (a 30) (b 30), minI (a 31) (b 31), r14.fst, r14.snd, minI (a 34) (b 34), minI (a 35) (b 35), bif !decide (b 36 = 0) then 1 else 0, 0, minI (a 38) (b 38), minI (a 39) (b 39)], 0)))))))))))))))))))))) (
 cond (!decide (a 37 = 0)) (
 Option.bind (f38 (nthI [a 0, a 1, a 2, a 3, a 4, a 5]) (nthI [b 0, b 1, b 2, b 3, b 4, b 5])) (fun r4 =>
 Option.bind (cond (decide (minI (a 1) (b 1) < maxI (a 0) (b 0))) (
 some (true)) (
 some (decide (r4.snd < 0)))) (fun r5 =>
 cond (r5) (
 some ((nthI [0, 0, 0, 0, 0, 0, 0, 0, 0, 0, 0, 0, 0, 0, 0, 0, 0, 0, 0, 0, 0, 0, 0, 0, 0, 0, 0, 0, 0, 0, 0, 0, 0, 0, 0, 0, 0, 0, 0, 0], 25))) (
 Option.bind (f38 (nthI [a 6, a 7, a 8, a 9, a 10, a 11]) (nthI [b 6, b 7, b 8, b 9, b 10, b 11])) (fun r6 =>
 Option.bind (cond (decide (minI (a 7) (b 7) < maxI (a 6) (b 6))) (
 some (true)) (
 some (decide (r6.snd < 0)))) (fun r7 =>
 cond (r7) (
 some ((nthI [0, 0, 0, 0, 0, 0, 0, 0, 0, 0, 0, 0, 0, 0, 0, 0, 0, 0, 0, 0, 0, 0, 0, 0, 0, 0, 0, 0, 0, 0, 0, 0, 0, 0, 0, 0, 0, 0, 0, 0], 25))) (
 Option.bind (f38 (nthI [a 12, a 13, a 14, a 15, a 16, a 17]) (nthI [b 12, b 13, b 14, b 15, b 16, b 17])) (fun r8 =>
 Option.bind (cond (decide (minI (a 13) (b 13) < maxI (a 12) (b 12))) (
 some (true)) (
 some (decide (r8.snd < 0)))) (fun r9 =>
 cond (r9) (
 some ((nthI [0, 0, 0, 0, 0, 0, 0, 0, 0, 0, 0, 0, 0, 0, 0, 0, 0, 0, 0, 0, 0, 0, 0, 0, 0, 0, 0, 0, 0, 0, 0, 0, 0, 0, 0, 0, 0, 0, 0, 0], 25))) (
 Option.bind (f38 (nthI [a 18, a 19, a 20, a 21, a 22, a 23]) (nthI [b 18, b 19, b 20, b 21, b 22, b 23])) (fun r10 =>
 Option.bind (cond (decide (minI (a 19) (b 19) < maxI (a 18) (b 18))) (
 some (true)) (
 some (decide (r10.snd < 0)))) (fun r11 =>
 cond (r11) (
 some ((nthI [0, 0, 0, 0, 0, 0, 0, 0, 0, 0, 0, 0, 0, 0, 0, 0, 0, 0, 0, 0, 0, 0, 0, 0, 0, 0, 0, 0, 0, 0, 0, 0, 0, 0, 0, 0, 0, 0, 0, 0], 25))) (
 Option.bind (f38 (nthI [a 24, a 25, a 26, a 27, a 28, a 29]) (nthI [b 24, b 25, b 26, b 27, b 28, b 29])) (fun r12 =>
 Option.bind (cond (decide (minI (a 25) (b 25) < maxI (a 24) (b 24))) (
 some (true)) (
 some (decide (r12.snd < 0)))) (fun r13 =>
 cond (r13) (
 some ((nthI [0, 0, 0, 0, 0, 0, 0, 0, 0, 0, 0, 0, 0, 0, 0, 0, 0, 0, 0, 0, 0, 0, 0, 0, 0, 0, 0, 0, 0, 0, 0, 0, 0, 0, 0, 0, 0, 0, 0, 0], 25))) (
 Option.bind (f38 (nthI [a 30, a 31, a 32, a 33, a 34, a 35]) (nthI [b 30, b 31, b 32, b 33, b 34, b 35])) (fun r14 =>
 Option.bind (cond (decide (minI (a 31) (b 31) < maxI (a 30) (b 30))) (
 some (true)) (
 some (decide (r14.snd < 0)))) (fun r15 =>
 cond (r15) (
 some ((nthI [0, 0, 0, 0, 0, 0, 0, 0, 0, 0, 0, 0, 0, 0, 0, 0, 0, 0, 0, 0, 0, 0, 0, 0, 0, 0, 0, 0, 0, 0, 0, 0, 0, 0, 0, 0, 0, 0, 0, 0], 25))) (
 some ((nthI [maxI (a 0) (b 0), minI (a 1) (b 1), r4.fst, r4.snd, minI (a 4) (b 4), minI (a 5) (b 5), maxI (a 6) (b 6), minI (a 7) (b 7), r6.fst, r6.snd, minI (a 10) (b 10), minI (a 11) (b 11), maxI (a 12) (b 12), minI (a 13) (b 13), r8.fst, r8.snd, minI (a 16) (b 16), minI (a 17) (b 17), maxI (a 18) (b 18), minI (a 19) (b 19), r10.fst, r10.snd, minI (a 22) (b 22), minI (a 23) (b 23), maxI (a 24) (b 24), minI (a 25) (b 25), r12.fst, r12.snd, minI (a 28) (b 28), minI (a 29) (b 29), maxI (a 30) (b 30), minI (a 31) (b 31), r14.fst, r14.snd, minI (a 34) (b 34), minI (a 35) (b 35), 0, bif !decide (b 37 = 0) then 1 else 0, minI (a 38) (b 38), minI (a 39) (b 39)], 0))))))))))))))))))))) (
 Option.bind (f38 (nthI [a 0, a 1, a 2, a 3, a 4, a 5]) (nthI [b 0, b 1, b 2, b 3, b 4, b 5])) (fun r4 =>
 Option.bind (cond (decide (minI (a 1) (b 1) < maxI (a 0) (b 0))) (
 some (true)) (
 some (decide (r4.snd < 0)))) (fun r5 =>
 cond (r5) (
 some ((nthI [0, 0, 0, 0, 0, 0, 0, 0, 0, 0, 0, 0, 0, 0, 0, 0, 0, 0, 0, 0, 0, 0, 0, 0, 0, 0, 0, 0, 0, 0, 0, 0, 0, 0, 0, 0, 0, 0, 0, 0], 25))) (
 Option.bind (f38 (nthI [a 6, a 7, a 8, a 9, a 10, a 11]) (nthI [b 6, b 7, b 8, b 9, b 10, b 11])) (fun r6 =>
 Option.bind (cond (decide (minI (a 7) (b 7) < maxI (a 6) (b 6))) (
 some (true)) (
 some (decide (r6.snd < 0)))) (fun r7 =>
 cond (r7) (
 some ((nthI [0, 0, 0, 0, 0, 0, 0, 0, 0, 0, 0, 0, 0, 0, 0, 0, 0, 0, 0, 0, 0, 0, 0, 0, 0, 0, 0, 0, 0, 0, 0, 0, 0, 0, 0, 0, 0, 0, 0, 0], 25))) (
 Option.bind (f38 (nthI [a 12, a 13, a 14, a 15, a 16, a 17]) (nthI [b 12, b 13, b 14, b 15, b 16, b 17])) (fun r8 =>
 Option.bind (cond (decide (minI (a 13) (b 13) < maxI (a 12) (b 12))) (
 some (true)) (
 some (decide (r8.snd < 0)))) (fun r9 =>
 cond (r9) (
 some ((nthI [0, 0, 0, 0, 0, 0, 0, 0, 0, 0, 0, 0, 0, 0, 0, 0, 0, 0, 0, 0, 0, 0, 0, 0, 0, 0, 0, 0, 0, 0, 0, 0, 0, 0, 0, 0, 0, 0, 0, 0], 25))) (
 Option.bind (f38 (nthI [a 18, a 19, a 20, a 21, a 22, a 23]) (nthI [b 18, b 19, b 20, b 21, b 22, b 23])) (fun r10 =>
 Option.bind (cond (decide (minI (a 19) (b 19) < maxI (a 18) (b 18))) (
 some (true)) (
 some (decide (r10.snd < 0)))) (fun r11 =>
 cond (r11) (
 some ((nthI [0, 0, 0, 0, 0, 0, 0, 0, 0, 0, 0, 0, 0, 0, 0, 0, 0, 0, 0, 0, 0, 0, 0, 0, 0, 0, 0, 0, 0, 0, 0, 0, 0, 0, 0, 0, 0, 0, 0, 0], 25))) (
 Option.bind (f38 (nthI [a 24, a 25, a 26, a 27, a 28, a 29]) (nthI [b 24, b 25, b 26, b 27, b 28, b 29])) (fun r12 =>
 Option.bind (cond (decide (minI (a 25) (b 25) < maxI (a 24) (b 24))) (
 some (true)) (
 some (decide (r12.snd < 0)))) (fun r13 =>
 cond (r13) (
 some ((nthI [0, 0, 0, 0, 0, 0, 0, 0, 0, 0, 0, 0, 0, 0, 0, 0, 0, 0, 0, 0, 0, 0, 0, 0, 0, 0, 0, 0, 0, 0, 0, 0, 0, 0, 0, 0, 0, 0, 0, 0], 25))) (
 Option.bind (f38 (nthI [a 30, a 31, a 32, a 33, a 34, a 35]) (nthI [b 30, b 31, b 32, b 33, b 34, b 35])) (fun r14 =>
 Option.bind (cond (decide (minI (a 31) (b 31) < maxI (a 30) (b 30))) (
 some (true)) (
 some (decide (r14.snd < 0)))) (fun r15 =>
 cond (r15) (
 some ((nthI [0, 0, 0, 0, 0, 0, 0, 0, 0, 0, 0, 0, 0, 0, 0, 0, 0, 0, 0, 0, 0, 0, 0, 0, 0, 0, 0, 0, 0, 0, 0, 0, 0, 0, 0, 0, 0, 0, 0, 0], 25))) (
 some ((nthI [maxI (a 0) (b 0), minI (a 1) (b 1), r4.fst, r4.snd, minI (a 4) (b 4), minI (a 5) (b 5), maxI (a 6) (b 6), minI (a 7) (b 7), r6.fst, r6.snd, minI (a 10) (b 10), minI (a 11) (b 11), maxI (a 12) (b 12), minI (a 13) (b 13), r8.fst, r8.snd, minI (a 16) (b 16), minI (a 17) (b 17), maxI (a 18) (b 18), minI (a 19) (b 19), r10.fst, r10.snd, minI (a 22) (b 22), minI (a 23) (b 23), maxI (a 24) (b 24), minI (a 25) (b 25), r12.fst, r12.snd, minI (a 28) (b 28), minI (a 29) (b 29), maxI (a 30) (b 30), minI (a 31) (b 31), r14.fst, r14.snd, minI (a 34) (b 34), minI (a 35) (b 35), 0, 0, minI (a 38) (b 38), minI (a 39) (b 39)], 0))))))))))))))))))))))))))) : Option ((Nat → Int) × Int))) xx.1 xx.2 := by kernel_rfl
noncomputable def g20 (a : Nat → Int) (b : Nat → Int) : Option ((Nat → Int) × Int) :=
 Option.bind (f15 (nthI [a 0, a 1, a 2, a 3, a 4, a 5, a 6, a 7, a 8, a 9, a 10, a 11, a 12, a 13, a 14, a 15, a 16, a 17, a 18, a 19, a 20, a 21, a 22, a 23, a 24, a 25, a 26, a 27, a 28, a 29, a 30, a 31, a 32, a 33, a 34, a 35, bif !decide (a 36 = 0) then 1 else 0, bif !decide (a 37 = 0) then 1 else 0, a 38, a 39])) (fun r2 =>
 cond (!decide (r2 = 0)) (
 some ((nthI [0, 0, 0, 0, 0, 0, 0, 0, 0, 0, 0, 0, 0, 0, 0, 0, 0, 0, 0, 0, 0, 0, 0, 0, 0, 0, 0, 0, 0, 0, 0, 0, 0, 0, 0, 0, 0, 0, 0, 0], r2))) (
 Option.bind (f15 (nthI [b 0, b 1, b 2, b 3, b 4, b 5, b 6, b 7, b 8, b 9, b 10, b 11, b 12, b 13, b 14, b 15, b 16, b 17, b 18, b 19, b 20, b 21, b 22, b 23, b 24, b 25, b 26, b 27, b 28, b 29, b 30, b 31, b 32, b 33, b 34, b 35, bif !decide (b 36 = 0) then 1 else 0, bif !decide (b 37 = 0) then 1 else 0, b 38, b 39])) (fun r3 =>
 cond (!decide (r3 = 0)) (
 some ((nthI [0, 0, 0, 0, 0, 0, 0, 0, 0, 0, 0, 0, 0, 0, 0, 0, 0, 0, 0, 0, 0, 0, 0, 0, 0, 0, 0, 0, 0, 0, 0, 0, 0, 0, 0, 0, 0, 0, 0, 0], r3))) (
 cond (!decide (a 36 = 0)) (
 cond (!decide (a 37 = 0)) (
 Option.bind (f38 (nthI [a 0, a 1, a 2, a 3, a 4, a 5]) (nthI [b 0, b 1, b 2, b 3, b 4, b 5])) (fun r4 =>
 Option.bind (cond (decide (minI (a 1) (b 1) < maxI (a 0) (b 0))) (
 some (true)) (
 some (decide (r4.snd < 0)))) (fun r5 =>
 cond (r5) (
 some ((nthI [0, 0, 0, 0, 0, 0, 0, 0, 0, 0, 0, 0, 0, 0, 0, 0, 0, 0, 0, 0, 0, 0, 0, 0, 0, 0, 0, 0, 0, 0, 0, 0, 0, 0, 0, 0, 0, 0, 0, 0], 25))) (
 Option.bind (f38 (nthI [a 6, a 7, a 8, a 9, a 10, a 11]) (nthI [b 6, b 7, b 8, b 9, b 10, b 11])) (fun r6 =>
 Option.bind (cond (decide (minI (a 7) (b 7) < maxI (a 6) (b 6))) (
 some (true)) (
 some (decide (r6.snd < 0)))) (fun r7 =>
 cond (r7) (
 some ((nthI [0, 0, 0, 0, 0, 0, 0, 0, 0, 0, 0, 0, 0, 0, 0, 0, 0, 0, 0, 0, 0, 0, 0, 0, 0, 0, 0, 0, 0, 0, 0, 0, 0, 0, 0, 0, 0, 0, 0, 0], 25))) (
 Option.bind (f38 (nthI [a 12, a 13, a 14, a 15, a 16, a 17]) (nthI [b 12, b 13, b 14, b 15, b 16, b 17])) (fun r8 =>
 Option.bind (cond (decide (minI (a 13) (b 13) < maxI (a 12) (b 12))) (
 some (true)) (
 some (decide (r8.snd < 0)))) (fun r9 =>
 cond (r9) (
 some ((nthI [0, 0, 0, 0, 0, 0, 0, 0, 0, 0, 0, 0, 0, 0, 0, 0, 0, 0, 0, 0, 0, 0, 0, 0, 0, 0, 0, 0, 0, 0, 0, 0, 0, 0, 0, 0, 0, 0, 0, 0], 25))) (
 Option.bind (f38 (nthI [a 18, a 19, a 20, a 21, a 22, a 23]) (nthI [b 18, b 19, b 20, b 21, b 22, b 23])) (fun r10 =>
 Option.bind (cond (decide (minI (a 19) (b 19) < maxI (a 18) (b 18))) (
 some (true)) (
 some (decide (r10.snd < 0)))) (fun r11 =>
 cond (r11) (
 some ((nthI [0, 0, 0, 0, 0, 0, 0, 0, 0, 0, 0, 0, 0, 0, 0, 0, 0, 0, 0, 0, 0, 0, 0, 0, 0, 0, 0, 0, 0, 0, 0, 0, 0, 0, 0, 0, 0, 0, 0, 0], 25))) (
 Option.bind (f38 (nthI [a 24, a 25, a 26, a 27, a 28, a 29]) (nthI [b 24, b 25, b 26, b 27, b 28, b 29])) (fun r12 =>
 Option.bind (cond (decide (minI (a 25) (b 25) < maxI (a 24) (b 24))) (
 some (true)) (
 some (decide (r12.snd < 0)))) (fun r13 =>
 cond (r13) (
 some ((nthI [0, 0, 0, 0, 0, 0, 0, 0, 0, 0, 0, 0, 0, 0, 0, 0, 0, 0, 0, 0, 0, 0, 0, 0, 0, 0, 0, 0, 0, 0, 0, 0, 0, 0, 0, 0, 0, 0, 0, 0], 25))) (
 Option.bind (f38 (nthI [a 30, a 31, a 32, a 33, a 34, a 35]) (nthI [b 30, b 31, b 32, b 33, b 34, b 35])) (fun r14 =>
 Option.bind (cond (decide (minI (a 31) (b 31) < maxI (a 30) (b 30))) (
 some (true)) (
 some (decide (r14.snd < 0)))) (fun r15 =>
 cond (r15) (
 some ((nthI [0, 0, 0, 0, 0, 0, 0, 0, 0, 0, 0, 0, 0, 0, 0, 0, 0, 0, 0, 0, 0, 0, 0, 0, 0, 0, 0, 0, 0, 0, 0, 0, 0, 0, 0, 0, 0, 0, 0, 0], 25))) (
 some ((nthI [maxI (a 0) (b 0), minI (a 1) (b 1), r4.fst, r4.snd, minI (a 4) (b 4), minI (a 5) (b 5), maxI (a 6) (b 6), minI (a 7) (b 7), r6.fst, r6.snd, minI (a 10) (b 10), minI (a 11) (b 11), maxI (a 12) (b 12), minI (a 13) (b 13), r8.fst, r8.snd, minI (a 16) (b 16), minI (a 17) (b 17), maxI (a 18) (b 18), minI (a 19) (b 19), r10.fst, r10.snd, minI (a 22) (b 22), minI (a 23) (b 23), maxI (a 24) (b 24), minI (a 25) (b 25), r12.fst, r12.snd, minI (a 28) (b 28), minI (a 29) (b 29), maxI (a 30) (b 30), minI (a 31) (b 31), r14.fst, r14.snd, minI (a 34) (b 34), minI (a 35) (b 35), bif !decide (b 36 = 0) then 1 else 0, bif !decide (b 37 = 0) then 1 else 0, minI (a 38) (b 38), minI (a 39) (b 39)], 0))))))))))))))))))))) (
 Option.bind (f38 (nthI [a 0, a 1, a 2, a 3, a 4, a 5]) (nthI [b 0, b 1, b 2, b 3, b 4, b 5])) (fun r4 =>
 Option.bind (cond (decide (minI (a 1) (b 1) < maxI (a 0) (b 0))) (
 some (true)) (
 some (decide (r4.snd < 0)))) (fun r5 =>
 cond (r5) (
 some ((nthI [0, 0, 0, 0, 0, 0, 0, 0, 0, 0, 0, 0, 0, 0, 0, 0, 0, 0, 0, 0, 0, 0, 0, 0, 0, 0, 0, 0, 0, 0, 0, 0, 0, 0, 0, 0, 0, 0, 0, 0], 25))) (
 Option.bind (f38 (nthI [a 6, a 7, a 8, a 9, a 10, a 11]) (nthI [b 6, b 7, b 8, b 9, b 10, b 11])) (fun r6 =>
 Option.bind (cond (decide (minI (a 7) (b 7) < maxI (a 6) (b 6))) (
 some (true)) (
 some (decide (r6.snd < 0)))) (fun r7 =>
 cond (r7) (
 some ((nthI [0, 0, 0, 0, 0, 0, 0, 0, 0, 0, 0, 0, 0, 0, 0, 0, 0, 0, 0, 0, 0, 0, 0, 0, 0, 0, 0, 0, 0, 0, 0, 0, 0, 0, 0, 0, 0, 0, 0, 0], 25))) (
 Option.bind (f38 (nthI [a 12, a 13, a 14, a 15, a 16, a 17]) (nthI [b 12, b 13, b 14, b 15, b 16, b 17])) (fun r8 =>
 Option.bind (cond (decide (minI (a 13) (b 13) < maxI (a 12) (b 12))) (
 some (true)) (
 some (decide (r8.snd < 0)))) (fun r9 =>
 cond (r9) (
 some ((nthI [0, 0, 0, 0, 0, 0, 0, 0, 0, 0, 0, 0, 0, 0, 0, 0, 0, 0, 0, 0, 0, 0, 0, 0, 0, 0, 0, 0, 0, 0, 0, 0, 0, 0, 0, 0, 0, 0, 0, 0], 25))) (
 Option.bind (f38 (nthI [a 18, a 19, a 20, a 21, a 22, a 23]) (nthI [b 18, b 19, b 20, b 21, b 22, b 23])) (fun r10 =>
 Option.bind (cond (decide (minI (a 19) (b 19) < maxI (a 18) (b 18))) (
 some (true)) (
 some (decide (r10.snd < 0)))) (fun r11 =>
 cond (r11) (
 some ((nthI [0, 0, 0, 0, 0, 0, 0, 0, 0, 0, 0, 0, 0, 0, 0, 0, 0, 0, 0, 0, 0, 0, 0, 0, 0, 0, 0, 0, 0, 0, 0, 0, 0, 0, 0, 0, 0, 0, 0, 0], 25))) (
 Option.bind (f38 (nthI [a 24, a 25, a 26, a 27, a 28, a 29]) (nthI [b 24, b 25, b 26, b 27, b 28, b 29])) (fun r12 =>
 Option.bind (cond (decide (minI (a 25) (b 25) < maxI (a 24) (b 24))) (
 some (true)) (
 some (decide (r12.snd < 0)))) (fun r13 =>
 cond (r13) (
 some ((nthI [0, 0, 0, 0, 0, 0, 0, 0, 0, 0, 0, 0, 0, 0, 0, 0, 0, 0, 0, 0, 0, 0, 0, 0, 0, 0, 0, 0, 0, 0, 0, 0, 0, 0, 0, 0, 0, 0, 0, 0], 25))) (
 Option.bind (f38 (nthI [a 30, a 31, a 32, a 33, a 34, a 35]) (nthI [b 30, b 31, b 32, b 33, b 34, b 35])) (fun r14 =>
 Option.bind (cond (decide (minI (a 31) (b 31) < maxI (a 30) (b 30))) (
 some (true)) (
 some (decide (r14.snd < 0)))) (fun r15 =>
 cond (r15) (
 some ((nthI [0, 0, 0, 0, 0, 0, 0, 0, 0, 0, 0, 0, 0, 0, 0, 0, 0, 0, 0, 0, 0, 0, 0, 0, 0, 0, 0, 0, 0, 0, 0, 0, 0, 0, 0, 0, 0, 0, 0, 0], 25))) (
 some ((nthI [maxI (a 0) (b 0), minI (a 1) (b 1), r4.fst, r4.snd, minI (a 4) (b 4), minI (a 5) (b 5), maxI (a 6) (b 6), minI (a 7) (b 7), r6.fst, r6.snd, minI (a 10) (b 10), minI (a 11) (b 11), maxI (a 12) (b 12), minI (a 13) (b 13), r8.fst, r8.snd, minI (a 16) (b 16), minI (a 17) (b 17), maxI (a 18) (b 18), minI (a 19) (b 19), r10.fst, r10.snd, minI (a 22) (b 22), minI (a 23) (b 23), maxI (a 24) (b 24), minI (a 25) (b 25), r12.fst, r12.snd, minI (a 28) (b 28), minI (a 29) (b 29), maxI (a 30) (b 30), minI (a 31) (b 31), r14.fst, r14.snd, minI (a 34) (b 34), minI (a 35) (b 35), bif !decide (b 36 = 0) then 1 else 0, 0, minI (a 38) (b 38), minI (a 39) (b 39)], 0)))))))))))))))))))))) (
 cond (!decide (a 37 = 0)) (
 Option.bind (f38 (nthI [a 0, a 1, a 2, a 3, a 4, a 5]) (nthI [b 0, b 1, b 2, b 3, b 4, b 5])) (fun r4 =>
 Option.bind (cond (decide (minI (a 1) (b 1) < maxI (a 0) (b 0))) (
 some (true)) (
 some (decide (r4.snd < 0)))) (fun r5 =>
 cond (r5) (
 some ((nthI [0, 0, 0, 0, 0, 0, 0, 0, 0, 0, 0, 0, 0, 0, 0, 0, 0, 0, 0, 0, 0, 0, 0, 0, 0, 0, 0, 0, 0, 0, 0, 0, 0, 0, 0, 0, 0, 0, 0, 0], 25))) (
 Option.bind (f38 (nthI [a 6, a 7, a 8, a 9, a 10, a 11]) (nthI [b 6, b 7, b 8, b 9, b 10, b 11])) (fun r6 =>
 Option.bind (cond (decide (minI (a 7) (b 7) < maxI (a 6) (b 6))) (
 some (true)) (
 some (decide (r6.snd < 0)))) (fun r7 =>
 cond (r7) (
 some ((nthI [0, 0, 0, 0, 0, 0, 0, 0, 0, 0, 0, 0, 0, 0, 0, 0, 0, 0, 0, 0, 0, 0, 0, 0, 0, 0, 0, 0, 0, 0, 0, 0, 0, 0, 0, 0, 0, 0, 0, 0], 25))) (
 Option.bind (f38 (nthI [a 12, a 13, a 14, a 15, a 16, a 17]) (nthI [b 12, b 13, b 14, b 15, b 16, b 17])) (fun r8 =>
 Option.bind (cond (decide (minI (a 13) (b 13) < maxI (a 12) (b 12))) (
 some (true)) (
 some (decide (r8.snd < 0)))) (fun r9 =>
 cond (r9) (
 some ((nthI [0, 0, 0, 0, 0, 0, 0, 0, 0, 0, 0, 0, 0, 0, 0, 0, 0, 0, 0, 0, 0, 0, 0, 0, 0, 0, 0, 0, 0, 0, 0, 0, 0, 0, 0, 0, 0, 0, 0, 0], 25))) (
 Option.bind (f38 (nthI [a 18, a 19, a 20, a 21, a 22, a 23]) (nthI [b 18, b 19, b 20, b 21, b 22, b 23])) (fun r10 =>
 Option.bind (cond (decide (minI (a 19) (b 19) < maxI (a 18) (b 18))) (
 some (true)) (
 some (decide (r10.snd < 0)))) (fun r11 =>
 cond (r11) (
 some ((nthI [0, 0, 0, 0, 0, 0, 0, 0, 0, 0, 0, 0, 0, 0, 0, 0, 0, 0, 0, 0, 0, 0, 0, 0, 0, 0, 0, 0, 0, 0, 0, 0, 0, 0, 0, 0, 0, 0, 0, 0], 25))) (
 Option.bind (f38 (nthI [a 24, a 25, a 26, a 27, a 28, a 29]) (nthI [b 24, b 25, b 26, b 27, b 28, b 29])) (fun r12 =>
 Option.bind (cond (decide (minI (a 25) (b 25) < maxI (a 24) (b 24))) (
 some (true)) (
 some (decide (r12.snd < 0)))) (fun r13 =>
 cond (r13) (
 some ((nthI [0, 0, 0, 0, 0, 0, 0, 0, 0, 0, 0, 0, 0, 0, 0, 0, 0, 0, 0, 0, 0, 0, 0, 0, 0, 0, 0, 0, 0, 0, 0, 0, 0, 0, 0, 0, 0, 0, 0, 0], 25))) (
 Option.bind (f38 (nthI [a 30, a 31, a 32, a 33, a 34, a 35]) (nthI [b 30, b 31, b 32, b 33, b 34, b 35])) (fun r14 =>
 Option.bind (cond (decide (minI (a 31) (b 31) < maxI (a 30) (b 30))) (
 some (true)) (
 some (decide (r14.snd < 0)))) (fun r15 =>
 cond (r15) (
 some ((nthI [0, 0, 0, 0, 0, 0, 0, 0, 0, 0, 0, 0, 0, 0, 0, 0, 0, 0, 0, 0, 0, 0, 0, 0, 0, 0, 0, 0, 0, 0, 0, 0, 0, 0, 0, 0, 0, 0, 0, 0], 25))) (
 some ((nthI [maxI (a 0) (b 0), minI (a 1) (b 1), r4.fst, r4.snd, minI (a 4) (b 4), minI (a 5) (b 5), maxI (a 6) (b 6), minI (a 7) (b 7), r6.fst, r6.snd, minI (a 10) (b 10), minI (a 11) (b 11), maxI (a 12) (b 12), minI (a 13) (b 13), r8.fst, r8.snd, minI (a 16) (b 16), minI (a 17) (b 17), maxI (a 18) (b 18), minI (a 19) (b 19), r10.fst, r10.snd, minI (a 22) (b 22), minI (a 23) (b 23), maxI (a 24) (b 24), minI (a 25) (b 25), r12.fst, r12.snd, minI (a 28) (b 28), minI (a 29) (b 29), maxI (a 30) (b 30), minI (a 31) (b 31), r14.fst, r14.snd, minI (a 34) (b 34), minI (a 35) (b 35), 0, bif !decide (b 37 = 0) then 1 else 0, minI (a 38) (b 38), minI (a 39) (b 39)], 0))))))))))))))))))))) (
 Option.bind (f38 (nthI [a 0, a 1, a 2, a 3, a 4, a 5]) (nthI [b 0, b 1, b 2, b 3, b 4, b 5])) (fun r4 =>
 Option.bind (cond (decide (minI (a 1) (b 1) < maxI (a 0) (b 0))) (
 some (true)) (
 some (decide (r4.snd < 0)))) (fun r5 =>
 cond (r5) (
 some ((nthI [0, 0, 0, 0, 0, 0, 0, 0, 0, 0, 0, 0, 0, 0, 0, 0, 0, 0, 0, 0, 0, 0, 0, 0, 0, 0, 0, 0, 0, 0, 0, 0, 0, 0, 0, 0, 0, 0, 0, 0], 25))) (
 Option.bind (f38 (nthI [a 6, a 7, a 8, a 9, a 10, a 11]) (nthI [b 6, b 7, b 8, b 9, b 10, b 11])) (fun r6 =>
 Option.bind (cond (decide (minI (a 7) (b 7) < maxI (a 6) (b 6))) (
 some (true)) (
 some (decide (r6.snd < 0)))) (fun r7 =>
 cond (r7) (
 some ((nthI [0, 0, 0, 0, 0, 0, 0, 0, 0, 0, 0, 0, 0, 0, 0, 0, 0, 0, 0, 0, 0, 0, 0, 0, 0, 0, 0, 0, 0, 0, 0, 0, 0, 0, 0, 0, 0, 0, 0, 0], 25))) (
 Option.bind (f38 (nthI [a 12, a 13, a 14, a 15, a 16, a 17]) (nthI [b 12, b 13, b 14, b 15, b 16, b 17])) (fun r8 =>
 Option.bind (cond (decide (minI (a 13) (b 13) < maxI (a 12) (b 12))) (
 some (true)) (
 some (decide (r8.snd < 0)))) (fun r9 =>
 cond (r9) (
 some ((nthI [0, 0, 0, 0, 0, 0, 0, 0, 0, 0, 0, 0, 0, 0, 0, 0, 0, 0, 0, 0, 0, 0, 0, 0, 0, 0, 0, 0, 0, 0, 0, 0, 0, 0, 0, 0, 0, 0, 0, 0], 25))) (
 Option.bind (f38 (nthI [a 18, a 19, a 20, a 21, a 22, a 23]) (nthI [b 18, b 19, b 20, b 21, b 22, b 23])) (fun r10 =>
 Option.bind (cond (decide (minI (a 19) (b 19) < maxI (a 18) (b 18))) (
 some (true)) (
 some (decide (r10.snd < 0)))) (fun r11 =>
 cond (r11) (
 some ((nthI [0, 0, 0, 0, 0, 0, 0, 0, 0, 0, 0, 0, 0, 0, 0, 0, 0, 0, 0, 0, 0, 0, 0, 0, 0, 0, 0, 0, 0, 0, 0, 0, 0, 0, 0, 0, 0, 0, 0, 0], 25))) (
 Option.bind (f38 (nthI [a 24, a 25, a 26, a 27, a 28, a 29]) (nthI [b 24, b 25, b 26, b 27, b 28, b 29])) (fun r12 =>
 Option.bind (cond (decide (minI (a 25) (b 25) < maxI (a 24) (b 24))) (
 some (true)) (
 some (decide (r12.snd < 0)))) (fun r13 =>
 cond (r13) (
 some ((nthI [0, 0, 0, 0, 0, 0, 0, 0, 0, 0, 0, 0, 0, 0, 0, 0, 0, 0, 0, 0, 0, 0, 0, 0, 0, 0, 0, 0, 0, 0, 0, 0, 0, 0, 0, 0, 0, 0, 0, 0], 25))) (
 Option.bind (f38 (nthI [a 30, a 31, a 32, a 33, a 34, a 35]) (nthI [b 30, b 31, b 32, b 33, b 34, b 35])) (fun r14 =>
 Option.bind (cond (decide (minI (a 31) (b 31) < maxI (a 30) (b 30))) (
 some (true)) (
 some (decide (r14.snd < 0)))) (fun r15 =>
 cond (r15) (
 some ((nthI [0, 0, 0, 0, 0, 0, 0, 0, 0, 0, 0, 0, 0, 0, 0, 0, 0, 0, 0, 0, 0, 0, 0, 0, 0, 0, 0, 0, 0, 0, 0, 0, 0, 0, 0, 0, 0, 0, 0, 0], 25))) (
 some ((nthI [maxI (a 0) (b 0), minI (a 1) (b 1), r4.fst, r4.snd, minI (a 4) (b 4), minI (a 5) (b 5), maxI (a 6) (b 6), minI (a 7) (b 7), r6.fst, r6.snd, minI (a 10) (b 10), minI (a 11) (b 11), maxI (a 12) (b 12), minI (a 13) (b 13), r8.fst, r8.snd, minI (a 16) (b 16), minI (a 17) (b 17), maxI (a 18) (b 18), minI (a 19) (b 19), r10.fst, r10.snd, minI (a 22) (b 22), minI (a 23) (b 23), maxI (a 24) (b 24), minI (a 25) (b 25), r12.fst, r12.snd, minI (a 28) (b 28), minI (a 29) (b 29), maxI (a 30) (b 30), minI (a 31) (b 31), r14.fst, r14.snd, minI (a 34) (b 34), minI (a 35) (b 35), 0, 0, minI (a 38) (b 38), minI (a 39) (b 39)], 0))))))))))))))))))))))))))
theorem fg20 (a : Nat → Int) (b : Nat → Int) : g20 a b = f20 a b := by kernel_rfl
theorem ev20 (a : (aCons (pC (cX kx26)) (aOne (pC (cX kx26)))).T) : evF (R := (rTup (cCons (cX kx26) (cOne (cI .i64)))).T) (cx [] [(15, conF (aOne (pC (cX kx26))) (rOne (cI .i64)) (fun a => f15 a)), (38, conF (aCons (pC (cA .i64 6)) (aOne (pC (cA .i64 6)))) (rTup (cCons (cI .i64) (cOne (cI .i64)))) (fun a => f38 (a.1) (a.2)))] [] true) 1000 Try.f20 ((aCons (pC (cX kx26)) (aOne (pC (cX kx26)))).enc gG a) (glMem gl) 0 (rTup (cCons (cX kx26) (cOne (cI .i64)))).dec = f20 a.1 a.2 := (show evF (R := (rTup (cCons (cX kx26) (cOne (cI .i64)))).T) (cx [] [(15, conF (aOne (pC (cX kx26))) (rOne (cI .i64)) (fun a => f15 a)), (38, conF (aCons (pC (cA .i64 6)) (aOne (pC (cA .i64 6)))) (rTup (cCons (cI .i64) (cOne (cI .i64)))) (fun a => f38 (a.1) (a.2)))] [] true) 1000 Try.f20 ((aCons (pC (cX kx26)) (aOne (pC (cX kx26)))).enc gG a) (glMem gl) 0 (rTup (cCons (cX kx26) (cOne (cI .i64)))).dec = g20 a.1 a.2 from evg20 f15 f38  a).trans (fg20 a.1 a.2)
theorem sp20 : VE.Spec Try.prog gG gl 20 (conF (aCons (pC (cX kx26)) (aOne (pC (cX kx26)))) (rTup (cCons (cX kx26) (cOne (cI .i64)))) (fun a => f20 a.1 a.2)) := spec_of ok20 Try.func20 Try.call20 (lpAll_nil rfl) 1000 (aCons_ok (pC_ok (cX_ok _)) (aOne_ok (pC_ok (cX_ok _)))) (rTup_ok (cCons_ok (cX_ok _) (cOne_ok (cI_ok _)))) ev20
end Go.Proofs.Ytbiedpabdkbpfaa
