/-
  THE CONTRACTS of this program's functions: what each answers, as a plain function, by its evaluation.
-/
import Derived.Test.YtimckeecmjiemaaDoorVEo
import Derived.Test.YtimckeecmjiemaaDoorChecked
open Go Go.VE Go.Proofs
set_option maxRecDepth 1000000
set_option linter.unusedVariables false
namespace Go.Proofs.YtimckeecmjiemaaDoor
def tyL : List (TypeId × TyI) := [
  (3, ⟨.int .i64, 1, [.int .i64 0]⟩),
  (4, ⟨.bool, 1, [.bool false]⟩),
  (5, ⟨.int .u8, 1, [.int .u8 0]⟩),
  (25, ⟨.int .i64, 1, [.int .i64 0]⟩),
  (31, ⟨.struct [(3, 0), (3, 1)], 2, [.int .i64 0, .int .i64 0]⟩),
  (38, ⟨.array 65 3, 65, [.int .i64 0, .int .i64 0, .int .i64 0, .int .i64 0, .int .i64 0, .int .i64 0, .int .i64 0, .int .i64 0, .int .i64 0, .int .i64 0, .int .i64 0, .int .i64 0, .int .i64 0, .int .i64 0, .int .i64 0, .int .i64 0, .int .i64 0, .int .i64 0, .int .i64 0, .int .i64 0, .int .i64 0, .int .i64 0, .int .i64 0, .int .i64 0, .int .i64 0, .int .i64 0, .int .i64 0, .int .i64 0, .int .i64 0, .int .i64 0, .int .i64 0, .int .i64 0, .int .i64 0, .int .i64 0, .int .i64 0, .int .i64 0, .int .i64 0, .int .i64 0, .int .i64 0, .int .i64 0, .int .i64 0, .int .i64 0, .int .i64 0, .int .i64 0, .int .i64 0, .int .i64 0, .int .i64 0, .int .i64 0, .int .i64 0, .int .i64 0, .int .i64 0, .int .i64 0, .int .i64 0, .int .i64 0, .int .i64 0, .int .i64 0, .int .i64 0, .int .i64 0, .int .i64 0, .int .i64 0, .int .i64 0, .int .i64 0, .int .i64 0, .int .i64 0, .int .i64 0]⟩),
  (40, ⟨.array 2 3, 2, [.int .i64 0, .int .i64 0]⟩),
  (45, ⟨.slice 3, 1, [.nils]⟩)]
def gl : List (Nat × List AV) := [(0, [.int .i64 (0), .int .i64 (402), .int .i64 (804), .int .i64 (1205), .int .i64 (1606), .int .i64 (2006), .int .i64 (2404), .int .i64 (2801), .int .i64 (3196), .int .i64 (3590), .int .i64 (3981), .int .i64 (4370), .int .i64 (4756), .int .i64 (5139), .int .i64 (5520), .int .i64 (5897), .int .i64 (6270), .int .i64 (6639), .int .i64 (7005), .int .i64 (7366), .int .i64 (7723), .int .i64 (8076), .int .i64 (8423), .int .i64 (8765), .int .i64 (9102), .int .i64 (9434), .int .i64 (9760), .int .i64 (10080), .int .i64 (10394), .int .i64 (10702), .int .i64 (11003), .int .i64 (11297), .int .i64 (11585), .int .i64 (11866), .int .i64 (12140), .int .i64 (12406), .int .i64 (12665), .int .i64 (12916), .int .i64 (13160), .int .i64 (13395), .int .i64 (13623), .int .i64 (13842), .int .i64 (14053), .int .i64 (14256), .int .i64 (14449), .int .i64 (14635), .int .i64 (14811), .int .i64 (14978), .int .i64 (15137), .int .i64 (15286), .int .i64 (15426), .int .i64 (15557), .int .i64 (15679), .int .i64 (15791), .int .i64 (15893), .int .i64 (15986), .int .i64 (16069), .int .i64 (16143), .int .i64 (16207), .int .i64 (16261), .int .i64 (16305), .int .i64 (16340), .int .i64 (16364), .int .i64 (16379), .int .i64 (16384)])]
def gG : Nat := 1
noncomputable def fns : List (Nat × Func) := [(32, Tryd.f32)]
noncomputable abbrev cx (con : List (Nat × (List AV → Option ConR))) : Ctx := { ty := assoc tyL, con := assoc con, fns := assoc fns, G := gG }
noncomputable def con0 : List (Nat × (List AV → Option ConR)) := []
def tab0 : List Int := [0, 402, 804, 1205, 1606, 2006, 2404, 2801, 3196, 3590, 3981, 4370, 4756, 5139, 5520, 5897, 6270, 6639, 7005, 7366, 7723, 8076, 8423, 8765, 9102, 9434, 9760, 10080, 10394, 10702, 11003, 11297, 11585, 11866, 12140, 12406, 12665, 12916, 13160, 13395, 13623, 13842, 14053, 14256, 14449, 14635, 14811, 14978, 15137, 15286, 15426, 15557, 15679, 15791, 15893, 15986, 16069, 16143, 16207, 16261, 16305, 16340, 16364, 16379, 16384]
theorem tyOk : ∀ t i, assoc tyL t = some i → tyOf Tryd.prog t = some i := tys_of (by kernel_rfl)
theorem moOk : Tryd.prog.follows .mixedOrders = true := by kernel_rfl
theorem fnOk : FnL Tryd.prog fns := ⟨⟨Tryd.func32, Tryd.call32⟩, trivial⟩
theorem sl0 : SpecL Tryd.prog gG gl con0 := trivial
theorem ok0 : CtxOK Tryd.prog (cx con0) gl := ctx_of tyOk moOk sl0 fnOk

/-- angle.Norm -/
noncomputable def f11 (a : Int) : Option (Int) :=
  some ((IntKind.i64.wrap (a.tmod 256 + 256)).tmod 256)
theorem ev11 (a : (cOne (cI .i64)).T) : evF (R := (rOne (cI .i64)).T) (cx con0) 1000 Tryd.f11 ((cOne (cI .i64)).enc a) (glMem gl) gG (rOne (cI .i64)).dec = f11 a := by kernel_rfl
theorem sp11 : VE.Spec Tryd.prog gG gl 11 (conF (cOne (cI .i64)) (rOne (cI .i64)) (fun a => f11 a)) := spec_of ok0 Tryd.func11 Tryd.call11 1000 (cOne_ok (cI_ok _)) (rOne_ok (cI_ok _)) ev11
noncomputable def con11 : List (Nat × (List AV → Option ConR)) := (11, conF (cOne (cI .i64)) (rOne (cI .i64)) (fun a => f11 a)) :: con0
theorem sl11 : SpecL Tryd.prog gG gl con11 := ⟨sp11, sl0⟩
theorem ok11 : CtxOK Tryd.prog (cx con11) gl := ctx_of tyOk moOk sl11 fnOk

/-- angle.Mirror -/
noncomputable def f12 (a : Int) : Option (Int) :=
  Option.bind (f11 a) (fun r1 =>
  Option.bind (f11 (IntKind.i64.wrap (0 - r1))) (fun r2 =>
   some (r2)))
theorem ev12 (a : (cOne (cI .i64)).T) : evF (R := (rOne (cI .i64)).T) (cx con11) 1000 Tryd.f12 ((cOne (cI .i64)).enc a) (glMem gl) gG (rOne (cI .i64)).dec = f12 a := by kernel_rfl
theorem sp12 : VE.Spec Tryd.prog gG gl 12 (conF (cOne (cI .i64)) (rOne (cI .i64)) (fun a => f12 a)) := spec_of ok11 Tryd.func12 Tryd.call12 1000 (cOne_ok (cI_ok _)) (rOne_ok (cI_ok _)) ev12
noncomputable def con12 : List (Nat × (List AV → Option ConR)) := (12, conF (cOne (cI .i64)) (rOne (cI .i64)) (fun a => f12 a)) :: con11
theorem sl12 : SpecL Tryd.prog gG gl con12 := ⟨sp12, sl11⟩
theorem ok12 : CtxOK Tryd.prog (cx con12) gl := ctx_of tyOk moOk sl12 fnOk

/-- angle.Sin -/
noncomputable def f14 (a : Int) : Option (Int) :=
  Option.bind (f11 a) (fun r1 =>
  cond (decide (r1 ≤ 64)) (
   cond (decide (0 ≤ r1)) (
    cond (decide (r1 < 65)) (
     some (tab0.getD r1.toNat 0)) none) none) (
   cond (decide (r1 ≤ 128)) (
    cond (decide (0 ≤ IntKind.i64.wrap (128 - r1))) (
     cond (decide (IntKind.i64.wrap (128 - r1) < 65)) (
      some (tab0.getD (IntKind.i64.wrap (128 - r1)).toNat 0)) none) none) (
    cond (decide (r1 ≤ 192)) (
     cond (decide (0 ≤ IntKind.i64.wrap (r1 - 128))) (
      cond (decide (IntKind.i64.wrap (r1 - 128) < 65)) (
       some (IntKind.i64.wrap (0 - tab0.getD (IntKind.i64.wrap (r1 - 128)).toNat 0))) none) none) (
     cond (decide (0 ≤ IntKind.i64.wrap (256 - r1))) (
      cond (decide (IntKind.i64.wrap (256 - r1) < 65)) (
       some (IntKind.i64.wrap (0 - tab0.getD (IntKind.i64.wrap (256 - r1)).toNat 0))) none) none))))
theorem ev14 (a : (cOne (cI .i64)).T) : evF (R := (rOne (cI .i64)).T) (cx con12) 1000 Tryd.f14 ((cOne (cI .i64)).enc a) (glMem gl) gG (rOne (cI .i64)).dec = f14 a := by kernel_rfl
theorem sp14 : VE.Spec Tryd.prog gG gl 14 (conF (cOne (cI .i64)) (rOne (cI .i64)) (fun a => f14 a)) := spec_of ok12 Tryd.func14 Tryd.call14 1000 (cOne_ok (cI_ok _)) (rOne_ok (cI_ok _)) ev14
noncomputable def con14 : List (Nat × (List AV → Option ConR)) := (14, conF (cOne (cI .i64)) (rOne (cI .i64)) (fun a => f14 a)) :: con12
theorem sl14 : SpecL Tryd.prog gG gl con14 := ⟨sp14, sl12⟩
theorem ok14 : CtxOK Tryd.prog (cx con14) gl := ctx_of tyOk moOk sl14 fnOk

/-- angle.Cos -/
noncomputable def f16 (a : Int) : Option (Int) :=
  Option.bind (f11 a) (fun r1 =>
  Option.bind (f14 (IntKind.i64.wrap (r1 + 64))) (fun r2 =>
   some (r2)))
theorem ev16 (a : (cOne (cI .i64)).T) : evF (R := (rOne (cI .i64)).T) (cx con14) 1000 Tryd.f16 ((cOne (cI .i64)).enc a) (glMem gl) gG (rOne (cI .i64)).dec = f16 a := by kernel_rfl
theorem sp16 : VE.Spec Tryd.prog gG gl 16 (conF (cOne (cI .i64)) (rOne (cI .i64)) (fun a => f16 a)) := spec_of ok14 Tryd.func16 Tryd.call16 1000 (cOne_ok (cI_ok _)) (rOne_ok (cI_ok _)) ev16
noncomputable def con16 : List (Nat × (List AV → Option ConR)) := (16, conF (cOne (cI .i64)) (rOne (cI .i64)) (fun a => f16 a)) :: con14
theorem sl16 : SpecL Tryd.prog gG gl con16 := ⟨sp16, sl14⟩
theorem ok16 : CtxOK Tryd.prog (cx con16) gl := ctx_of tyOk moOk sl16 fnOk

/-- num.divide -/
noncomputable def f36 (a : Int) (b : Int) : Option (Int × Int) :=
  cond (decide (b = 0)) none (
  cond (decide (b = 0)) none (
   cond (decide (a.tmod b < 0)) (
    some ((IntKind.i64.wrap (IntKind.i64.wrap (a.tdiv b) - 1), IntKind.i64.wrap (a.tmod b + b)))) (
    some ((IntKind.i64.wrap (a.tdiv b), a.tmod b)))))
theorem ev36 (a : (cCons (cI .i64) (cOne (cI .i64))).T) : evF (R := (rTup (cCons (cI .i64) (cOne (cI .i64)))).T) (cx con16) 1000 Tryd.f36 ((cCons (cI .i64) (cOne (cI .i64))).enc a) (glMem gl) gG (rTup (cCons (cI .i64) (cOne (cI .i64)))).dec = f36 a.1 a.2 := by kernel_rfl
theorem sp36 : VE.Spec Tryd.prog gG gl 36 (conF (cCons (cI .i64) (cOne (cI .i64))) (rTup (cCons (cI .i64) (cOne (cI .i64)))) (fun a => f36 a.1 a.2)) := spec_of ok16 Tryd.func36 Tryd.call36 1000 (cCons_ok (cI_ok _) (cOne_ok (cI_ok _))) (rTup_ok (cCons_ok (cI_ok _) (cOne_ok (cI_ok _)))) ev36
noncomputable def con36 : List (Nat × (List AV → Option ConR)) := (36, conF (cCons (cI .i64) (cOne (cI .i64))) (rTup (cCons (cI .i64) (cOne (cI .i64)))) (fun a => f36 a.1 a.2)) :: con16
theorem sl36 : SpecL Tryd.prog gG gl con36 := ⟨sp36, sl16⟩
theorem ok36 : CtxOK Tryd.prog (cx con36) gl := ctx_of tyOk moOk sl36 fnOk

/-- num.nearest -/
noncomputable def f33 (a : Int) (b : Int) : Option (Int) :=
  Option.bind (f36 a b) (fun r2 =>
  cond (decide (b < IntKind.i64.wrap (2 * r2.snd))) (
   some (IntKind.i64.wrap (r2.fst + 1))) (
   cond (decide (IntKind.i64.wrap (2 * r2.snd) = b)) (
    cond (!decide (r2.fst.tmod 2 = 0)) (
     some (IntKind.i64.wrap (r2.fst + 1))) (
     some (r2.fst))) (
    some (r2.fst))))
theorem ev33 (a : (cCons (cI .i64) (cOne (cI .i64))).T) : evF (R := (rOne (cI .i64)).T) (cx con36) 1000 Tryd.f33 ((cCons (cI .i64) (cOne (cI .i64))).enc a) (glMem gl) gG (rOne (cI .i64)).dec = f33 a.1 a.2 := by kernel_rfl
theorem sp33 : VE.Spec Tryd.prog gG gl 33 (conF (cCons (cI .i64) (cOne (cI .i64))) (rOne (cI .i64)) (fun a => f33 a.1 a.2)) := spec_of ok36 Tryd.func33 Tryd.call33 1000 (cCons_ok (cI_ok _) (cOne_ok (cI_ok _))) (rOne_ok (cI_ok _)) ev33
noncomputable def con33 : List (Nat × (List AV → Option ConR)) := (33, conF (cCons (cI .i64) (cOne (cI .i64))) (rOne (cI .i64)) (fun a => f33 a.1 a.2)) :: con36
theorem sl33 : SpecL Tryd.prog gG gl con33 := ⟨sp33, sl36⟩
theorem ok33 : CtxOK Tryd.prog (cx con33) gl := ctx_of tyOk moOk sl33 fnOk

/-- num.Round -/
noncomputable def f29 (a : Int) (b : Int) : Option (Int × Int) :=
  cond (decide (a < -1125899906842624)) (
  some ((0, 1))) (
  cond (decide (1125899906842624 < a)) (
   some ((0, 1))) (
   cond (decide (b < -1125899906842624)) (
    some ((0, 1))) (
    cond (decide (1125899906842624 < b)) (
     some ((0, 1))) (
     cond (decide (b = 0)) (
      some ((0, 11))) (
      cond (decide (b < 0)) (
       Option.bind (f33 (IntKind.i64.wrap (0 - a)) (IntKind.i64.wrap (0 - b))) (fun r2 =>
        some ((r2, 0)))) (
       Option.bind (f33 a b) (fun r2 =>
        some ((r2, 0)))))))))
theorem ev29 (a : (cCons (cI .i64) (cOne (cI .i64))).T) : evF (R := (rTup (cCons (cI .i64) (cOne (cI .i64)))).T) (cx con33) 1000 Tryd.f29 ((cCons (cI .i64) (cOne (cI .i64))).enc a) (glMem gl) gG (rTup (cCons (cI .i64) (cOne (cI .i64)))).dec = f29 a.1 a.2 := by kernel_rfl
theorem sp29 : VE.Spec Tryd.prog gG gl 29 (conF (cCons (cI .i64) (cOne (cI .i64))) (rTup (cCons (cI .i64) (cOne (cI .i64)))) (fun a => f29 a.1 a.2)) := spec_of ok33 Tryd.func29 Tryd.call29 1000 (cCons_ok (cI_ok _) (cOne_ok (cI_ok _))) (rTup_ok (cCons_ok (cI_ok _) (cOne_ok (cI_ok _)))) ev29
noncomputable def con29 : List (Nat × (List AV → Option ConR)) := (29, conF (cCons (cI .i64) (cOne (cI .i64))) (rTup (cCons (cI .i64) (cOne (cI .i64)))) (fun a => f29 a.1 a.2)) :: con33
theorem sl29 : SpecL Tryd.prog gG gl con29 := ⟨sp29, sl33⟩
theorem ok29 : CtxOK Tryd.prog (cx con29) gl := ctx_of tyOk moOk sl29 fnOk

/-- angle.Turned -/
noncomputable def f20 (a : Nat → Int) (b : Int) : Option ((Nat → Int) × Int) :=
  cond (decide (a 0 < -32768)) (
  some ((nthI [0, 0], 1))) (
  cond (decide (32768 < a 0)) (
   some ((nthI [0, 0], 1))) (
   cond (decide (a 1 < -32768)) (
    some ((nthI [0, 0], 1))) (
    cond (decide (32768 < a 1)) (
     some ((nthI [0, 0], 1))) (
     Option.bind (f16 b) (fun r2 =>
      Option.bind (f14 b) (fun r3 =>
       Option.bind (f29 (IntKind.i64.wrap (IntKind.i64.wrap (a 0 * r2) + IntKind.i64.wrap (a 1 * r3))) 16384) (fun r4 =>
        cond (!decide (r4.snd = 0)) (
         some ((nthI [0, 0], r4.snd))) (
         Option.bind (f16 b) (fun r5 =>
          Option.bind (f14 b) (fun r6 =>
           Option.bind (f29 (IntKind.i64.wrap (IntKind.i64.wrap (a 1 * r5) - IntKind.i64.wrap (a 0 * r6))) 16384) (fun r7 =>
            cond (!decide (r7.snd = 0)) (
             some ((nthI [0, 0], r7.snd))) (
             some ((nthI [r4.fst, r7.fst], 0))))))))))))))
theorem ev20 (a : (cCons (cA .i64 2) (cOne (cI .i64))).T) : evF (R := (rTup (cCons (cA .i64 2) (cOne (cI .i64)))).T) (cx con29) 1000 Tryd.f20 ((cCons (cA .i64 2) (cOne (cI .i64))).enc a) (glMem gl) gG (rTup (cCons (cA .i64 2) (cOne (cI .i64)))).dec = f20 a.1 a.2 := by kernel_rfl
theorem sp20 : VE.Spec Tryd.prog gG gl 20 (conF (cCons (cA .i64 2) (cOne (cI .i64))) (rTup (cCons (cA .i64 2) (cOne (cI .i64)))) (fun a => f20 a.1 a.2)) := spec_of ok29 Tryd.func20 Tryd.call20 1000 (cCons_ok (cA_ok _ _) (cOne_ok (cI_ok _))) (rTup_ok (cCons_ok (cA_ok _ _) (cOne_ok (cI_ok _)))) ev20
noncomputable def con20 : List (Nat × (List AV → Option ConR)) := (20, conF (cCons (cA .i64 2) (cOne (cI .i64))) (rTup (cCons (cA .i64 2) (cOne (cI .i64)))) (fun a => f20 a.1 a.2)) :: con29
theorem sl20 : SpecL Tryd.prog gG gl con20 := ⟨sp20, sl29⟩
theorem ok20 : CtxOK Tryd.prog (cx con20) gl := ctx_of tyOk moOk sl20 fnOk

/-- dancestudiolaw02.turned -/
noncomputable def f22 (a : Int) (b : Int) (c : Int) (d : Int) (e : Int) : Option (Bool) :=
  Option.bind (f20 (nthI [a, b]) c) (fun r5 =>
  cond (decide (r5.fst 0 = d)) (
   cond (decide (r5.fst 1 = e)) (
    some (decide (r5.snd = 0))) (
    some (false))) (
   some (false)))
theorem ev22 (a : (cCons (cI .i64) (cCons (cI .i64) (cCons (cI .i64) (cCons (cI .i64) (cOne (cI .i64)))))).T) : evF (R := (rOne (cB)).T) (cx con20) 1000 Tryd.f22 ((cCons (cI .i64) (cCons (cI .i64) (cCons (cI .i64) (cCons (cI .i64) (cOne (cI .i64)))))).enc a) (glMem gl) gG (rOne (cB)).dec = f22 a.1 a.2.1 a.2.2.1 a.2.2.2.1 a.2.2.2.2 := by kernel_rfl
theorem sp22 : VE.Spec Tryd.prog gG gl 22 (conF (cCons (cI .i64) (cCons (cI .i64) (cCons (cI .i64) (cCons (cI .i64) (cOne (cI .i64)))))) (rOne (cB)) (fun a => f22 a.1 a.2.1 a.2.2.1 a.2.2.2.1 a.2.2.2.2)) := spec_of ok20 Tryd.func22 Tryd.call22 1000 (cCons_ok (cI_ok _) (cCons_ok (cI_ok _) (cCons_ok (cI_ok _) (cCons_ok (cI_ok _) (cOne_ok (cI_ok _)))))) (rOne_ok (cB_ok)) ev22
noncomputable def con22 : List (Nat × (List AV → Option ConR)) := (22, conF (cCons (cI .i64) (cCons (cI .i64) (cCons (cI .i64) (cCons (cI .i64) (cOne (cI .i64)))))) (rOne (cB)) (fun a => f22 a.1 a.2.1 a.2.2.1 a.2.2.2.1 a.2.2.2.2)) :: con20
theorem sl22 : SpecL Tryd.prog gG gl con22 := ⟨sp22, sl20⟩
theorem ok22 : CtxOK Tryd.prog (cx con22) gl := ctx_of tyOk moOk sl22 fnOk

/-- angle.valid -/
noncomputable def f27 (a : Int) : Option (Bool) :=
  cond (decide (0 ≤ a)) (
  some (decide (a < 256))) (
  some (false))
theorem ev27 (a : (cOne (cI .i64)).T) : evF (R := (rOne (cB)).T) (cx con22) 1000 Tryd.f27 ((cOne (cI .i64)).enc a) (glMem gl) gG (rOne (cB)).dec = f27 a := by kernel_rfl
theorem sp27 : VE.Spec Tryd.prog gG gl 27 (conF (cOne (cI .i64)) (rOne (cB)) (fun a => f27 a)) := spec_of ok22 Tryd.func27 Tryd.call27 1000 (cOne_ok (cI_ok _)) (rOne_ok (cB_ok)) ev27
noncomputable def con27 : List (Nat × (List AV → Option ConR)) := (27, conF (cOne (cI .i64)) (rOne (cB)) (fun a => f27 a)) :: con22
theorem sl27 : SpecL Tryd.prog gG gl con27 := ⟨sp27, sl22⟩
theorem ok27 : CtxOK Tryd.prog (cx con27) gl := ctx_of tyOk moOk sl27 fnOk

/-- angle.Between -/
noncomputable def f18 (a : Int) (b : Int) (c : Int) : Option (Int × Int) :=
  Option.bind (f27 a) (fun r3 =>
  cond (!r3) (
   some ((0, 1))) (
   Option.bind (f27 b) (fun r4 =>
    cond (!r4) (
     some ((0, 1))) (
     cond (!decide (c = 64)) (
      cond (!decide (c = 192)) (
       some ((0, 9))) (
       Option.bind (f11 (IntKind.i64.wrap (b - a))) (fun r5 =>
        cond (decide (r5 < 128)) (
         some ((r5, 0))) (
         cond (decide (128 < r5)) (
          some ((IntKind.i64.wrap (r5 - 256), 0))) (
          cond (decide (a = c)) (
           Option.bind (f11 (IntKind.i64.wrap (0 - a))) (fun r6 =>
            cond (decide (r6 < 128)) (
             some ((128, 0))) (
             some ((-128, 0))))) (
           cond (decide (b = c)) (
            Option.bind (f11 (IntKind.i64.wrap (0 - a))) (fun r6 =>
             cond (decide (r6 < 128)) (
              some ((128, 0))) (
              some ((-128, 0))))) (
            Option.bind (f11 (IntKind.i64.wrap (c - a))) (fun r6 =>
             cond (decide (r6 < 128)) (
              some ((128, 0))) (
              some ((-128, 0))))))))))) (
      Option.bind (f11 (IntKind.i64.wrap (b - a))) (fun r5 =>
       cond (decide (r5 < 128)) (
        some ((r5, 0))) (
        cond (decide (128 < r5)) (
         some ((IntKind.i64.wrap (r5 - 256), 0))) (
         cond (decide (a = c)) (
          Option.bind (f11 (IntKind.i64.wrap (0 - a))) (fun r6 =>
           cond (decide (r6 < 128)) (
            some ((128, 0))) (
            some ((-128, 0))))) (
          cond (decide (b = c)) (
           Option.bind (f11 (IntKind.i64.wrap (0 - a))) (fun r6 =>
            cond (decide (r6 < 128)) (
             some ((128, 0))) (
             some ((-128, 0))))) (
           Option.bind (f11 (IntKind.i64.wrap (c - a))) (fun r6 =>
            cond (decide (r6 < 128)) (
             some ((128, 0))) (
             some ((-128, 0))))))))))))))
theorem ev18 (a : (cCons (cI .i64) (cCons (cI .i64) (cOne (cI .i64)))).T) : evF (R := (rTup (cCons (cI .i64) (cOne (cI .i64)))).T) (cx con27) 1000 Tryd.f18 ((cCons (cI .i64) (cCons (cI .i64) (cOne (cI .i64)))).enc a) (glMem gl) gG (rTup (cCons (cI .i64) (cOne (cI .i64)))).dec = f18 a.1 a.2.1 a.2.2 := by kernel_rfl
theorem sp18 : VE.Spec Tryd.prog gG gl 18 (conF (cCons (cI .i64) (cCons (cI .i64) (cOne (cI .i64)))) (rTup (cCons (cI .i64) (cOne (cI .i64)))) (fun a => f18 a.1 a.2.1 a.2.2)) := spec_of ok27 Tryd.func18 Tryd.call18 1000 (cCons_ok (cI_ok _) (cCons_ok (cI_ok _) (cOne_ok (cI_ok _)))) (rTup_ok (cCons_ok (cI_ok _) (cOne_ok (cI_ok _)))) ev18
noncomputable def con18 : List (Nat × (List AV → Option ConR)) := (18, conF (cCons (cI .i64) (cCons (cI .i64) (cOne (cI .i64)))) (rTup (cCons (cI .i64) (cOne (cI .i64)))) (fun a => f18 a.1 a.2.1 a.2.2)) :: con27
theorem sl18 : SpecL Tryd.prog gG gl con18 := ⟨sp18, sl27⟩
theorem ok18 : CtxOK Tryd.prog (cx con18) gl := ctx_of tyOk moOk sl18 fnOk

/-- dancestudiolaw02.between -/
noncomputable def f24 (a : Int) (b : Int) (c : Int) (d : Int) : Option (Bool) :=
  Option.bind (f18 a b c) (fun r4 =>
  cond (decide (r4.fst = d)) (
   some (decide (r4.snd = 0))) (
   some (false)))
theorem ev24 (a : (cCons (cI .i64) (cCons (cI .i64) (cCons (cI .i64) (cOne (cI .i64))))).T) : evF (R := (rOne (cB)).T) (cx con18) 1000 Tryd.f24 ((cCons (cI .i64) (cCons (cI .i64) (cCons (cI .i64) (cOne (cI .i64))))).enc a) (glMem gl) gG (rOne (cB)).dec = f24 a.1 a.2.1 a.2.2.1 a.2.2.2 := by kernel_rfl
theorem sp24 : VE.Spec Tryd.prog gG gl 24 (conF (cCons (cI .i64) (cCons (cI .i64) (cCons (cI .i64) (cOne (cI .i64))))) (rOne (cB)) (fun a => f24 a.1 a.2.1 a.2.2.1 a.2.2.2)) := spec_of ok18 Tryd.func24 Tryd.call24 1000 (cCons_ok (cI_ok _) (cCons_ok (cI_ok _) (cCons_ok (cI_ok _) (cOne_ok (cI_ok _))))) (rOne_ok (cB_ok)) ev24
noncomputable def con24 : List (Nat × (List AV → Option ConR)) := (24, conF (cCons (cI .i64) (cCons (cI .i64) (cCons (cI .i64) (cOne (cI .i64))))) (rOne (cB)) (fun a => f24 a.1 a.2.1 a.2.2.1 a.2.2.2)) :: con18
theorem sl24 : SpecL Tryd.prog gG gl con24 := ⟨sp24, sl18⟩
theorem ok24 : CtxOK Tryd.prog (cx con24) gl := ctx_of tyOk moOk sl24 fnOk

/-- dancestudiolaw02.awake -/
noncomputable def f13  : Option (Bool) :=
  some (true)
theorem ev13 (a : (cNil).T) : evF (R := (rOne (cB)).T) (cx con24) 1000 Tryd.f13 ((cNil).enc a) (glMem gl) gG (rOne (cB)).dec = f13 := by kernel_rfl
theorem sp13 : VE.Spec Tryd.prog gG gl 13 (conF (cNil) (rOne (cB)) (fun a => f13)) := spec_of ok24 Tryd.func13 Tryd.call13 1000 (cNil_ok) (rOne_ok (cB_ok)) ev13
noncomputable def con13 : List (Nat × (List AV → Option ConR)) := (13, conF (cNil) (rOne (cB)) (fun a => f13)) :: con24
theorem sl13 : SpecL Tryd.prog gG gl con13 := ⟨sp13, sl24⟩
theorem ok13 : CtxOK Tryd.prog (cx con13) gl := ctx_of tyOk moOk sl13 fnOk

/-- dancestudiolaw02.AngleNorm -/
noncomputable def f3 (a : Int) : Option (Bool) :=
  Option.bind (f11 a) (fun r1 =>
  Option.bind (f12 a) (fun r2 =>
   cond (decide (r1 < 0)) (
    some (false)) (
    cond (decide (255 < r1)) (
     some (false)) (
     cond (decide (r2 < 0)) (
      some (false)) (
      cond (decide (255 < r2)) (
       some (false)) (
       cond (decide ((IntKind.i64.wrap (a.tmod 256 - r1)).tmod 256 = 0)) (
        cond (decide ((IntKind.i64.wrap (a.tmod 256 + r2)).tmod 256 = 0)) (
         Option.bind (f11 r1) (fun r3 =>
          cond (decide (r3 = r1)) (
           Option.bind (f12 r2) (fun r4 =>
            cond (decide (r4 = r1)) (
             some (true)) (
             some (false)))) (
           some (false)))) (
         some (false))) (
        some (false))))))))
theorem ev3 (a : (cOne (cI .i64)).T) : evF (R := (rOne (cB)).T) (cx con13) 1000 Tryd.f3 ((cOne (cI .i64)).enc a) (glMem gl) gG (rOne (cB)).dec = f3 a := by kernel_rfl
theorem sp3 : VE.Spec Tryd.prog gG gl 3 (conF (cOne (cI .i64)) (rOne (cB)) (fun a => f3 a)) := spec_of ok13 Tryd.func3 Tryd.call3 1000 (cOne_ok (cI_ok _)) (rOne_ok (cB_ok)) ev3
noncomputable def con3 : List (Nat × (List AV → Option ConR)) := (3, conF (cOne (cI .i64)) (rOne (cB)) (fun a => f3 a)) :: con13
theorem sl3 : SpecL Tryd.prog gG gl con3 := ⟨sp3, sl13⟩
theorem ok3 : CtxOK Tryd.prog (cx con3) gl := ctx_of tyOk moOk sl3 fnOk

/-- dancestudioref02.Norm -/
noncomputable def f25 (a : Int) : Option (Int) :=
  cond (decide (a.tmod 256 < 0)) (
  some (IntKind.i64.wrap (a.tmod 256 + 256))) (
  some (a.tmod 256))
theorem ev25 (a : (cOne (cI .i64)).T) : evF (R := (rOne (cI .i64)).T) (cx con3) 1000 Tryd.f25 ((cOne (cI .i64)).enc a) (glMem gl) gG (rOne (cI .i64)).dec = f25 a := by kernel_rfl
theorem sp25 : VE.Spec Tryd.prog gG gl 25 (conF (cOne (cI .i64)) (rOne (cI .i64)) (fun a => f25 a)) := spec_of ok3 Tryd.func25 Tryd.call25 1000 (cOne_ok (cI_ok _)) (rOne_ok (cI_ok _)) ev25
noncomputable def con25 : List (Nat × (List AV → Option ConR)) := (25, conF (cOne (cI .i64)) (rOne (cI .i64)) (fun a => f25 a)) :: con3
theorem sl25 : SpecL Tryd.prog gG gl con25 := ⟨sp25, sl3⟩
theorem ok25 : CtxOK Tryd.prog (cx con25) gl := ctx_of tyOk moOk sl25 fnOk

/-- dancestudioref02.table -/
noncomputable def f26  : Option ((Nat → Int)) :=
  some (nthI tab0)
theorem ev26 (a : (cNil).T) : evF (R := (rOne (cA .i64 65)).T) (cx con25) 1000 Tryd.f26 ((cNil).enc a) (glMem gl) gG (rOne (cA .i64 65)).dec = f26 := by kernel_rfl
theorem sp26 : VE.Spec Tryd.prog gG gl 26 (conF (cNil) (rOne (cA .i64 65)) (fun a => f26)) := spec_of ok25 Tryd.func26 Tryd.call26 1000 (cNil_ok) (rOne_ok (cA_ok _ _)) ev26
noncomputable def con26 : List (Nat × (List AV → Option ConR)) := (26, conF (cNil) (rOne (cA .i64 65)) (fun a => f26)) :: con25
theorem sl26 : SpecL Tryd.prog gG gl con26 := ⟨sp26, sl25⟩
theorem ok26 : CtxOK Tryd.prog (cx con26) gl := ctx_of tyOk moOk sl26 fnOk

/-- dancestudioref02.Sin -/
noncomputable def f15 (a : Int) : Option (Int) :=
  Option.bind (f25 a) (fun r1 =>
  cond (decide (r1 ≤ 64)) (
   cond (decide (0 ≤ r1)) (
    cond (decide (r1 < 65)) (
     some (tab0.getD r1.toNat 0)) none) none) (
   cond (decide (r1 ≤ 128)) (
    cond (decide (0 ≤ IntKind.i64.wrap (128 - r1))) (
     cond (decide (IntKind.i64.wrap (128 - r1) < 65)) (
      some (tab0.getD (IntKind.i64.wrap (128 - r1)).toNat 0)) none) none) (
    cond (decide (r1 ≤ 192)) (
     cond (decide (0 ≤ IntKind.i64.wrap (r1 - 128))) (
      cond (decide (IntKind.i64.wrap (r1 - 128) < 65)) (
       some (IntKind.i64.wrap (0 - tab0.getD (IntKind.i64.wrap (r1 - 128)).toNat 0))) none) none) (
     cond (decide (0 ≤ IntKind.i64.wrap (256 - r1))) (
      cond (decide (IntKind.i64.wrap (256 - r1) < 65)) (
       some (IntKind.i64.wrap (0 - tab0.getD (IntKind.i64.wrap (256 - r1)).toNat 0))) none) none))))
theorem ev15 (a : (cOne (cI .i64)).T) : evF (R := (rOne (cI .i64)).T) (cx con26) 1000 Tryd.f15 ((cOne (cI .i64)).enc a) (glMem gl) gG (rOne (cI .i64)).dec = f15 a := by kernel_rfl
theorem sp15 : VE.Spec Tryd.prog gG gl 15 (conF (cOne (cI .i64)) (rOne (cI .i64)) (fun a => f15 a)) := spec_of ok26 Tryd.func15 Tryd.call15 1000 (cOne_ok (cI_ok _)) (rOne_ok (cI_ok _)) ev15
noncomputable def con15 : List (Nat × (List AV → Option ConR)) := (15, conF (cOne (cI .i64)) (rOne (cI .i64)) (fun a => f15 a)) :: con26
theorem sl15 : SpecL Tryd.prog gG gl con15 := ⟨sp15, sl26⟩
theorem ok15 : CtxOK Tryd.prog (cx con15) gl := ctx_of tyOk moOk sl15 fnOk

/-- dancestudioref02.Cos -/
noncomputable def f17 (a : Int) : Option (Int) :=
  Option.bind (f25 a) (fun r1 =>
  Option.bind (f15 (IntKind.i64.wrap (r1 + 64))) (fun r2 =>
   some (r2)))
theorem ev17 (a : (cOne (cI .i64)).T) : evF (R := (rOne (cI .i64)).T) (cx con15) 1000 Tryd.f17 ((cOne (cI .i64)).enc a) (glMem gl) gG (rOne (cI .i64)).dec = f17 a := by kernel_rfl
theorem sp17 : VE.Spec Tryd.prog gG gl 17 (conF (cOne (cI .i64)) (rOne (cI .i64)) (fun a => f17 a)) := spec_of ok15 Tryd.func17 Tryd.call17 1000 (cOne_ok (cI_ok _)) (rOne_ok (cI_ok _)) ev17
noncomputable def con17 : List (Nat × (List AV → Option ConR)) := (17, conF (cOne (cI .i64)) (rOne (cI .i64)) (fun a => f17 a)) :: con15
theorem sl17 : SpecL Tryd.prog gG gl con17 := ⟨sp17, sl15⟩
theorem ok17 : CtxOK Tryd.prog (cx con17) gl := ctx_of tyOk moOk sl17 fnOk

/-- dancestudiolaw02.AngleSines -/
noncomputable def f4 (a : Int) : Option (Bool) :=
  Option.bind (f14 a) (fun r1 =>
  Option.bind (f15 a) (fun r2 =>
   cond (decide (r1 = r2)) (
    Option.bind (f16 a) (fun r3 =>
     Option.bind (f17 a) (fun r4 =>
      cond (decide (r3 = r4)) (
       some (true)) (
       some (false))))) (
    some (false))))
theorem ev4 (a : (cOne (cI .i64)).T) : evF (R := (rOne (cB)).T) (cx con17) 1000 Tryd.f4 ((cOne (cI .i64)).enc a) (glMem gl) gG (rOne (cB)).dec = f4 a := by kernel_rfl
theorem sp4 : VE.Spec Tryd.prog gG gl 4 (conF (cOne (cI .i64)) (rOne (cB)) (fun a => f4 a)) := spec_of ok17 Tryd.func4 Tryd.call4 1000 (cOne_ok (cI_ok _)) (rOne_ok (cB_ok)) ev4
noncomputable def con4 : List (Nat × (List AV → Option ConR)) := (4, conF (cOne (cI .i64)) (rOne (cB)) (fun a => f4 a)) :: con17
theorem sl4 : SpecL Tryd.prog gG gl con4 := ⟨sp4, sl17⟩
theorem ok4 : CtxOK Tryd.prog (cx con4) gl := ctx_of tyOk moOk sl4 fnOk

/-- dancestudiolaw02.AngleCircle -/
noncomputable def f5 (a : Int) : Option (Bool) :=
  Option.bind (f14 (a.tmod 256)) (fun r1 =>
  Option.bind (f16 (a.tmod 256)) (fun r2 =>
   cond (decide (r1 < -16384)) (
    some (false)) (
    cond (decide (16384 < r1)) (
     some (false)) (
     cond (decide (r2 < -16384)) (
      some (false)) (
      cond (decide (16384 < r2)) (
       some (false)) (
       cond (decide (IntKind.i64.wrap (IntKind.i64.wrap (IntKind.i64.wrap (r1 * r1) + IntKind.i64.wrap (r2 * r2)) - 268435456) < -23172)) (
        some (false)) (
        cond (decide (23172 < IntKind.i64.wrap (IntKind.i64.wrap (IntKind.i64.wrap (r1 * r1) + IntKind.i64.wrap (r2 * r2)) - 268435456))) (
         some (false)) (
         Option.bind (f14 (IntKind.i64.wrap (0 - a.tmod 256))) (fun r3 =>
          cond (!decide (r3 = IntKind.i64.wrap (0 - r1))) (
           some (false)) (
           Option.bind (f16 (IntKind.i64.wrap (0 - a.tmod 256))) (fun r4 =>
            cond (!decide (r4 = r2)) (
             some (false)) (
             Option.bind (f14 (IntKind.i64.wrap (a.tmod 256 + 128))) (fun r5 =>
              cond (!decide (r5 = IntKind.i64.wrap (0 - r1))) (
               some (false)) (
               Option.bind (f14 (IntKind.i64.wrap (a.tmod 256 + 64))) (fun r6 =>
                cond (!decide (r6 = r2)) (
                 some (false)) (
                 cond (decide (-64 ≤ a.tmod 256)) (
                  cond (decide (a.tmod 256 ≤ 63)) (
                   Option.bind (f14 (IntKind.i64.wrap (a.tmod 256 + 1))) (fun r7 =>
                    cond (decide (r7 < r1)) (
                     some (false)) (
                     Option.bind (f14 a) (fun r8 =>
                      cond (decide (r8 = r1)) (
                       Option.bind (f16 a) (fun r9 =>
                        cond (decide (r9 = r2)) (
                         some (true)) (
                         some (false)))) (
                       some (false)))))) (
                   Option.bind (f14 a) (fun r7 =>
                    cond (decide (r7 = r1)) (
                     Option.bind (f16 a) (fun r8 =>
                      cond (decide (r8 = r2)) (
                       some (true)) (
                       some (false)))) (
                     some (false))))) (
                  Option.bind (f14 a) (fun r7 =>
                   cond (decide (r7 = r1)) (
                    Option.bind (f16 a) (fun r8 =>
                     cond (decide (r8 = r2)) (
                      some (true)) (
                      some (false)))) (
                    some (false))))))))))))))))))))
theorem ev5 (a : (cOne (cI .i64)).T) : evF (R := (rOne (cB)).T) (cx con4) 1000 Tryd.f5 ((cOne (cI .i64)).enc a) (glMem gl) gG (rOne (cB)).dec = f5 a := by kernel_rfl
theorem sp5 : VE.Spec Tryd.prog gG gl 5 (conF (cOne (cI .i64)) (rOne (cB)) (fun a => f5 a)) := spec_of ok4 Tryd.func5 Tryd.call5 1000 (cOne_ok (cI_ok _)) (rOne_ok (cB_ok)) ev5
noncomputable def con5 : List (Nat × (List AV → Option ConR)) := (5, conF (cOne (cI .i64)) (rOne (cB)) (fun a => f5 a)) :: con4
theorem sl5 : SpecL Tryd.prog gG gl con5 := ⟨sp5, sl4⟩
theorem ok5 : CtxOK Tryd.prog (cx con5) gl := ctx_of tyOk moOk sl5 fnOk

/-- dancestudioref02.through -/
noncomputable def f28 (a : Int) (b : Int) : Option (Bool) :=
  Option.bind (f25 (IntKind.i64.wrap (b - a))) (fun r2 =>
  cond (decide (1 ≤ r2)) (
   some (decide (r2 ≤ 127))) (
   some (false)))
theorem ev28 (a : (cCons (cI .i64) (cOne (cI .i64))).T) : evF (R := (rOne (cB)).T) (cx con5) 1000 Tryd.f28 ((cCons (cI .i64) (cOne (cI .i64))).enc a) (glMem gl) gG (rOne (cB)).dec = f28 a.1 a.2 := by kernel_rfl
theorem sp28 : VE.Spec Tryd.prog gG gl 28 (conF (cCons (cI .i64) (cOne (cI .i64))) (rOne (cB)) (fun a => f28 a.1 a.2)) := spec_of ok5 Tryd.func28 Tryd.call28 1000 (cCons_ok (cI_ok _) (cOne_ok (cI_ok _))) (rOne_ok (cB_ok)) ev28
noncomputable def con28 : List (Nat × (List AV → Option ConR)) := (28, conF (cCons (cI .i64) (cOne (cI .i64))) (rOne (cB)) (fun a => f28 a.1 a.2)) :: con5
theorem sl28 : SpecL Tryd.prog gG gl con28 := ⟨sp28, sl5⟩
theorem ok28 : CtxOK Tryd.prog (cx con28) gl := ctx_of tyOk moOk sl28 fnOk

/-- dancestudioref02.Between -/
noncomputable def f19 (a : Int) (b : Int) (c : Int) : Option (Int × Int) :=
  cond (decide (a < 0)) (
  some ((0, 1))) (
  cond (decide (255 < a)) (
   some ((0, 1))) (
   cond (decide (b < 0)) (
    some ((0, 1))) (
    cond (decide (255 < b)) (
     some ((0, 1))) (
     cond (!decide (c = 64)) (
      cond (!decide (c = 192)) (
       some ((0, 9))) (
       Option.bind (f25 (IntKind.i64.wrap (b - a))) (fun r3 =>
        cond (decide (r3 < 128)) (
         some ((r3, 0))) (
         cond (decide (128 < r3)) (
          some ((IntKind.i64.wrap (r3 - 256), 0))) (
          cond (decide (a = c)) (
           Option.bind (f28 a 0) (fun r4 =>
            cond (r4) (
             some ((128, 0))) (
             some ((-128, 0))))) (
           cond (decide (b = c)) (
            Option.bind (f28 a 0) (fun r4 =>
             cond (r4) (
              some ((128, 0))) (
              some ((-128, 0))))) (
            Option.bind (f28 a c) (fun r4 =>
             cond (r4) (
              some ((128, 0))) (
              some ((-128, 0))))))))))) (
      Option.bind (f25 (IntKind.i64.wrap (b - a))) (fun r3 =>
       cond (decide (r3 < 128)) (
        some ((r3, 0))) (
        cond (decide (128 < r3)) (
         some ((IntKind.i64.wrap (r3 - 256), 0))) (
         cond (decide (a = c)) (
          Option.bind (f28 a 0) (fun r4 =>
           cond (r4) (
            some ((128, 0))) (
            some ((-128, 0))))) (
          cond (decide (b = c)) (
           Option.bind (f28 a 0) (fun r4 =>
            cond (r4) (
             some ((128, 0))) (
             some ((-128, 0))))) (
           Option.bind (f28 a c) (fun r4 =>
            cond (r4) (
             some ((128, 0))) (
             some ((-128, 0))))))))))))))
theorem ev19 (a : (cCons (cI .i64) (cCons (cI .i64) (cOne (cI .i64)))).T) : evF (R := (rTup (cCons (cI .i64) (cOne (cI .i64)))).T) (cx con28) 1000 Tryd.f19 ((cCons (cI .i64) (cCons (cI .i64) (cOne (cI .i64)))).enc a) (glMem gl) gG (rTup (cCons (cI .i64) (cOne (cI .i64)))).dec = f19 a.1 a.2.1 a.2.2 := by kernel_rfl
theorem sp19 : VE.Spec Tryd.prog gG gl 19 (conF (cCons (cI .i64) (cCons (cI .i64) (cOne (cI .i64)))) (rTup (cCons (cI .i64) (cOne (cI .i64)))) (fun a => f19 a.1 a.2.1 a.2.2)) := spec_of ok28 Tryd.func19 Tryd.call19 1000 (cCons_ok (cI_ok _) (cCons_ok (cI_ok _) (cOne_ok (cI_ok _)))) (rTup_ok (cCons_ok (cI_ok _) (cOne_ok (cI_ok _)))) ev19
noncomputable def con19 : List (Nat × (List AV → Option ConR)) := (19, conF (cCons (cI .i64) (cCons (cI .i64) (cOne (cI .i64)))) (rTup (cCons (cI .i64) (cOne (cI .i64)))) (fun a => f19 a.1 a.2.1 a.2.2)) :: con28
theorem sl19 : SpecL Tryd.prog gG gl con19 := ⟨sp19, sl28⟩
theorem ok19 : CtxOK Tryd.prog (cx con19) gl := ctx_of tyOk moOk sl19 fnOk

/-- dancestudiolaw02.AngleBetween -/
noncomputable def f6 (a : Int) (b : Int) (c : Int) : Option (Bool) :=
  Option.bind (f18 a b c) (fun r3 =>
  Option.bind (f19 a b c) (fun r4 =>
   cond (decide (r3.fst = r4.fst)) (
    cond (decide (r3.snd = r4.snd)) (
     some (true)) (
     some (false))) (
    some (false))))
theorem ev6 (a : (cCons (cI .i64) (cCons (cI .i64) (cOne (cI .i64)))).T) : evF (R := (rOne (cB)).T) (cx con19) 1000 Tryd.f6 ((cCons (cI .i64) (cCons (cI .i64) (cOne (cI .i64)))).enc a) (glMem gl) gG (rOne (cB)).dec = f6 a.1 a.2.1 a.2.2 := by kernel_rfl
theorem sp6 : VE.Spec Tryd.prog gG gl 6 (conF (cCons (cI .i64) (cCons (cI .i64) (cOne (cI .i64)))) (rOne (cB)) (fun a => f6 a.1 a.2.1 a.2.2)) := spec_of ok19 Tryd.func6 Tryd.call6 1000 (cCons_ok (cI_ok _) (cCons_ok (cI_ok _) (cOne_ok (cI_ok _)))) (rOne_ok (cB_ok)) ev6
noncomputable def con6 : List (Nat × (List AV → Option ConR)) := (6, conF (cCons (cI .i64) (cCons (cI .i64) (cOne (cI .i64)))) (rOne (cB)) (fun a => f6 a.1 a.2.1 a.2.2)) :: con19
theorem sl6 : SpecL Tryd.prog gG gl con6 := ⟨sp6, sl19⟩
theorem ok6 : CtxOK Tryd.prog (cx con6) gl := ctx_of tyOk moOk sl6 fnOk

/-- dancestudiolaw02.AngleBack -/
noncomputable def f7 (a : Int) (b : Int) (c : Bool) : Option (Bool) :=
  cond (c) (
  Option.bind (f18 (IntKind.i64.wrap a) (IntKind.i64.wrap b) 192) (fun r3 =>
   Option.bind (f18 (IntKind.i64.wrap b) (IntKind.i64.wrap a) 192) (fun r4 =>
    Option.bind (f12 (IntKind.i64.wrap a)) (fun r5 =>
     Option.bind (f12 (IntKind.i64.wrap b)) (fun r6 =>
      Option.bind (f18 r5 r6 64) (fun r7 =>
       cond (!decide (r3.snd = 0)) (
        some (false)) (
        cond (!decide (r4.snd = 0)) (
         some (false)) (
         cond (!decide (r7.snd = 0)) (
          some (false)) (
          cond (!decide (r4.fst = IntKind.i64.wrap (0 - r3.fst))) (
           some (false)) (
           cond (!decide (r7.fst = IntKind.i64.wrap (0 - r3.fst))) (
            some (false)) (
            cond (decide (r3.fst < -128)) (
             some (false)) (
             cond (decide (128 < r3.fst)) (
              some (false)) (
              Option.bind (f11 (IntKind.i64.wrap (IntKind.i64.wrap a + r3.fst))) (fun r8 =>
               cond (decide (r8 = IntKind.i64.wrap b)) (
                some (true)) (
                some (false)))))))))))))))) (
  Option.bind (f18 (IntKind.i64.wrap a) (IntKind.i64.wrap b) 64) (fun r3 =>
   Option.bind (f18 (IntKind.i64.wrap b) (IntKind.i64.wrap a) 64) (fun r4 =>
    Option.bind (f12 (IntKind.i64.wrap a)) (fun r5 =>
     Option.bind (f12 (IntKind.i64.wrap b)) (fun r6 =>
      Option.bind (f18 r5 r6 192) (fun r7 =>
       cond (!decide (r3.snd = 0)) (
        some (false)) (
        cond (!decide (r4.snd = 0)) (
         some (false)) (
         cond (!decide (r7.snd = 0)) (
          some (false)) (
          cond (!decide (r4.fst = IntKind.i64.wrap (0 - r3.fst))) (
           some (false)) (
           cond (!decide (r7.fst = IntKind.i64.wrap (0 - r3.fst))) (
            some (false)) (
            cond (decide (r3.fst < -128)) (
             some (false)) (
             cond (decide (128 < r3.fst)) (
              some (false)) (
              Option.bind (f11 (IntKind.i64.wrap (IntKind.i64.wrap a + r3.fst))) (fun r8 =>
               cond (decide (r8 = IntKind.i64.wrap b)) (
                some (true)) (
                some (false))))))))))))))))
theorem ev7 (a : (cCons (cI .u8) (cCons (cI .u8) (cOne (cB)))).T) : evF (R := (rOne (cB)).T) (cx con6) 1000 Tryd.f7 ((cCons (cI .u8) (cCons (cI .u8) (cOne (cB)))).enc a) (glMem gl) gG (rOne (cB)).dec = f7 a.1 a.2.1 a.2.2 := by kernel_rfl
theorem sp7 : VE.Spec Tryd.prog gG gl 7 (conF (cCons (cI .u8) (cCons (cI .u8) (cOne (cB)))) (rOne (cB)) (fun a => f7 a.1 a.2.1 a.2.2)) := spec_of ok6 Tryd.func7 Tryd.call7 1000 (cCons_ok (cI_ok _) (cCons_ok (cI_ok _) (cOne_ok (cB_ok)))) (rOne_ok (cB_ok)) ev7
noncomputable def con7 : List (Nat × (List AV → Option ConR)) := (7, conF (cCons (cI .u8) (cCons (cI .u8) (cOne (cB)))) (rOne (cB)) (fun a => f7 a.1 a.2.1 a.2.2)) :: con6
theorem sl7 : SpecL Tryd.prog gG gl con7 := ⟨sp7, sl6⟩
theorem ok7 : CtxOK Tryd.prog (cx con7) gl := ctx_of tyOk moOk sl7 fnOk

/-- dancestudioref02.far -/
noncomputable def f30 (a : Nat → Int) : Option (Bool) :=
  cond (decide (a 0 < -32768)) (
  some (true)) (
  cond (decide (32768 < a 0)) (
   some (true)) (
   cond (decide (a 1 < -32768)) (
    some (true)) (
    some (decide (32768 < a 1)))))
theorem ev30 (a : (cOne (cA .i64 2)).T) : evF (R := (rOne (cB)).T) (cx con7) 1000 Tryd.f30 ((cOne (cA .i64 2)).enc a) (glMem gl) gG (rOne (cB)).dec = f30 a := by kernel_rfl
theorem sp30 : VE.Spec Tryd.prog gG gl 30 (conF (cOne (cA .i64 2)) (rOne (cB)) (fun a => f30 a)) := spec_of ok7 Tryd.func30 Tryd.call30 1000 (cOne_ok (cA_ok _ _)) (rOne_ok (cB_ok)) ev30
noncomputable def con30 : List (Nat × (List AV → Option ConR)) := (30, conF (cOne (cA .i64 2)) (rOne (cB)) (fun a => f30 a)) :: con7
theorem sl30 : SpecL Tryd.prog gG gl con30 := ⟨sp30, sl7⟩
theorem ok30 : CtxOK Tryd.prog (cx con30) gl := ctx_of tyOk moOk sl30 fnOk

/-- dancestudioref01.Small -/
noncomputable def f34 (a : Int) : Option (Bool) :=
  cond (decide (-1125899906842624 ≤ a)) (
  some (decide (a ≤ 1125899906842624))) (
  some (false))
theorem ev34 (a : (cOne (cI .i64)).T) : evF (R := (rOne (cB)).T) (cx con30) 1000 Tryd.f34 ((cOne (cI .i64)).enc a) (glMem gl) gG (rOne (cB)).dec = f34 a := by kernel_rfl
theorem sp34 : VE.Spec Tryd.prog gG gl 34 (conF (cOne (cI .i64)) (rOne (cB)) (fun a => f34 a)) := spec_of ok30 Tryd.func34 Tryd.call34 1000 (cOne_ok (cI_ok _)) (rOne_ok (cB_ok)) ev34
noncomputable def con34 : List (Nat × (List AV → Option ConR)) := (34, conF (cOne (cI .i64)) (rOne (cB)) (fun a => f34 a)) :: con30
theorem sl34 : SpecL Tryd.prog gG gl con34 := ⟨sp34, sl30⟩
theorem ok34 : CtxOK Tryd.prog (cx con34) gl := ctx_of tyOk moOk sl34 fnOk

/-- dancestudioref01.down -/
noncomputable def f37 (a : Int) (b : Int) : Option (Int × Int) :=
  cond (decide (b = 0)) none (
  cond (decide (b = 0)) none (
   cond (decide (a.tmod b < 0)) (
    some ((IntKind.i64.wrap (IntKind.i64.wrap (a.tdiv b) - 1), IntKind.i64.wrap (a.tmod b + b)))) (
    some ((IntKind.i64.wrap (a.tdiv b), a.tmod b)))))
theorem ev37 (a : (cCons (cI .i64) (cOne (cI .i64))).T) : evF (R := (rTup (cCons (cI .i64) (cOne (cI .i64)))).T) (cx con34) 1000 Tryd.f37 ((cCons (cI .i64) (cOne (cI .i64))).enc a) (glMem gl) gG (rTup (cCons (cI .i64) (cOne (cI .i64)))).dec = f37 a.1 a.2 := by kernel_rfl
theorem sp37 : VE.Spec Tryd.prog gG gl 37 (conF (cCons (cI .i64) (cOne (cI .i64))) (rTup (cCons (cI .i64) (cOne (cI .i64)))) (fun a => f37 a.1 a.2)) := spec_of ok34 Tryd.func37 Tryd.call37 1000 (cCons_ok (cI_ok _) (cOne_ok (cI_ok _))) (rTup_ok (cCons_ok (cI_ok _) (cOne_ok (cI_ok _)))) ev37
noncomputable def con37 : List (Nat × (List AV → Option ConR)) := (37, conF (cCons (cI .i64) (cOne (cI .i64))) (rTup (cCons (cI .i64) (cOne (cI .i64)))) (fun a => f37 a.1 a.2)) :: con34
theorem sl37 : SpecL Tryd.prog gG gl con37 := ⟨sp37, sl34⟩
theorem ok37 : CtxOK Tryd.prog (cx con37) gl := ctx_of tyOk moOk sl37 fnOk

/-- dancestudioref01.nearest -/
noncomputable def f35 (a : Int) (b : Int) : Option (Int) :=
  Option.bind (f37 a b) (fun r2 =>
  cond (decide (IntKind.i64.wrap (b - r2.snd) < r2.snd)) (
   some (IntKind.i64.wrap (r2.fst + 1))) (
   cond (decide (r2.snd = IntKind.i64.wrap (b - r2.snd))) (
    cond (!decide (r2.fst.tmod 2 = 0)) (
     some (IntKind.i64.wrap (r2.fst + 1))) (
     some (r2.fst))) (
    some (r2.fst))))
theorem ev35 (a : (cCons (cI .i64) (cOne (cI .i64))).T) : evF (R := (rOne (cI .i64)).T) (cx con37) 1000 Tryd.f35 ((cCons (cI .i64) (cOne (cI .i64))).enc a) (glMem gl) gG (rOne (cI .i64)).dec = f35 a.1 a.2 := by kernel_rfl
theorem sp35 : VE.Spec Tryd.prog gG gl 35 (conF (cCons (cI .i64) (cOne (cI .i64))) (rOne (cI .i64)) (fun a => f35 a.1 a.2)) := spec_of ok37 Tryd.func35 Tryd.call35 1000 (cCons_ok (cI_ok _) (cOne_ok (cI_ok _))) (rOne_ok (cI_ok _)) ev35
noncomputable def con35 : List (Nat × (List AV → Option ConR)) := (35, conF (cCons (cI .i64) (cOne (cI .i64))) (rOne (cI .i64)) (fun a => f35 a.1 a.2)) :: con37
theorem sl35 : SpecL Tryd.prog gG gl con35 := ⟨sp35, sl37⟩
theorem ok35 : CtxOK Tryd.prog (cx con35) gl := ctx_of tyOk moOk sl35 fnOk

/-- dancestudioref01.Round -/
noncomputable def f31 (a : Int) (b : Int) : Option (Int × Int) :=
  Option.bind (f34 a) (fun r2 =>
  cond (!r2) (
   some ((0, 1))) (
   Option.bind (f34 b) (fun r3 =>
    cond (!r3) (
     some ((0, 1))) (
     cond (decide (b = 0)) (
      some ((0, 11))) (
      cond (decide (b < 0)) (
       Option.bind (f35 (IntKind.i64.wrap (0 - a)) (IntKind.i64.wrap (0 - b))) (fun r4 =>
        some ((r4, 0)))) (
       Option.bind (f35 a b) (fun r4 =>
        some ((r4, 0)))))))))
theorem ev31 (a : (cCons (cI .i64) (cOne (cI .i64))).T) : evF (R := (rTup (cCons (cI .i64) (cOne (cI .i64)))).T) (cx con35) 1000 Tryd.f31 ((cCons (cI .i64) (cOne (cI .i64))).enc a) (glMem gl) gG (rTup (cCons (cI .i64) (cOne (cI .i64)))).dec = f31 a.1 a.2 := by kernel_rfl
theorem sp31 : VE.Spec Tryd.prog gG gl 31 (conF (cCons (cI .i64) (cOne (cI .i64))) (rTup (cCons (cI .i64) (cOne (cI .i64)))) (fun a => f31 a.1 a.2)) := spec_of ok35 Tryd.func31 Tryd.call31 1000 (cCons_ok (cI_ok _) (cOne_ok (cI_ok _))) (rTup_ok (cCons_ok (cI_ok _) (cOne_ok (cI_ok _)))) ev31
noncomputable def con31 : List (Nat × (List AV → Option ConR)) := (31, conF (cCons (cI .i64) (cOne (cI .i64))) (rTup (cCons (cI .i64) (cOne (cI .i64)))) (fun a => f31 a.1 a.2)) :: con35
theorem sl31 : SpecL Tryd.prog gG gl con31 := ⟨sp31, sl35⟩
theorem ok31 : CtxOK Tryd.prog (cx con31) gl := ctx_of tyOk moOk sl31 fnOk

/-- dancestudioref02.Turned -/
noncomputable def f21 (a : Nat → Int) (b : Int) : Option ((Nat → Int) × Int) :=
  Option.bind (f30 (nthI [a 0, a 1])) (fun r2 =>
  cond (r2) (
   some ((nthI [0, 0], 1))) (
   Option.bind (f17 b) (fun r3 =>
    Option.bind (f15 b) (fun r4 =>
     Option.bind (f31 (IntKind.i64.wrap (IntKind.i64.wrap (a 0 * r3) + IntKind.i64.wrap (a 1 * r4))) 16384) (fun r5 =>
      Option.bind (f17 b) (fun r6 =>
       Option.bind (f15 b) (fun r7 =>
        Option.bind (f31 (IntKind.i64.wrap (IntKind.i64.wrap (a 1 * r6) - IntKind.i64.wrap (a 0 * r7))) 16384) (fun r8 =>
         some ((nthI [r5.fst, r8.fst], 0))))))))))
theorem ev21 (a : (cCons (cA .i64 2) (cOne (cI .i64))).T) : evF (R := (rTup (cCons (cA .i64 2) (cOne (cI .i64)))).T) (cx con31) 1000 Tryd.f21 ((cCons (cA .i64 2) (cOne (cI .i64))).enc a) (glMem gl) gG (rTup (cCons (cA .i64 2) (cOne (cI .i64)))).dec = f21 a.1 a.2 := by kernel_rfl
theorem sp21 : VE.Spec Tryd.prog gG gl 21 (conF (cCons (cA .i64 2) (cOne (cI .i64))) (rTup (cCons (cA .i64 2) (cOne (cI .i64)))) (fun a => f21 a.1 a.2)) := spec_of ok31 Tryd.func21 Tryd.call21 1000 (cCons_ok (cA_ok _ _) (cOne_ok (cI_ok _))) (rTup_ok (cCons_ok (cA_ok _ _) (cOne_ok (cI_ok _)))) ev21
noncomputable def con21 : List (Nat × (List AV → Option ConR)) := (21, conF (cCons (cA .i64 2) (cOne (cI .i64))) (rTup (cCons (cA .i64 2) (cOne (cI .i64)))) (fun a => f21 a.1 a.2)) :: con31
theorem sl21 : SpecL Tryd.prog gG gl con21 := ⟨sp21, sl31⟩
theorem ok21 : CtxOK Tryd.prog (cx con21) gl := ctx_of tyOk moOk sl21 fnOk

/-- dancestudiolaw02.AngleTurned -/
noncomputable def f8 (a : Nat → Int) (b : Int) : Option (Bool) :=
  Option.bind (f20 (nthI [a 0, a 1]) b) (fun r2 =>
  Option.bind (f21 (nthI [a 0, a 1]) b) (fun r3 =>
   cond (decide (r2.fst 0 = r3.fst 0) && decide (r2.fst 1 = r3.fst 1)) (
    cond (decide (r2.snd = r3.snd)) (
     some (true)) (
     some (false))) (
    some (false))))
theorem ev8 (a : (cCons (cA .i64 2) (cOne (cI .i64))).T) : evF (R := (rOne (cB)).T) (cx con21) 1000 Tryd.f8 ((cCons (cA .i64 2) (cOne (cI .i64))).enc a) (glMem gl) gG (rOne (cB)).dec = f8 a.1 a.2 := by kernel_rfl
theorem sp8 : VE.Spec Tryd.prog gG gl 8 (conF (cCons (cA .i64 2) (cOne (cI .i64))) (rOne (cB)) (fun a => f8 a.1 a.2)) := spec_of ok21 Tryd.func8 Tryd.call8 1000 (cCons_ok (cA_ok _ _) (cOne_ok (cI_ok _))) (rOne_ok (cB_ok)) ev8
noncomputable def con8 : List (Nat × (List AV → Option ConR)) := (8, conF (cCons (cA .i64 2) (cOne (cI .i64))) (rOne (cB)) (fun a => f8 a.1 a.2)) :: con21
theorem sl8 : SpecL Tryd.prog gG gl con8 := ⟨sp8, sl21⟩
theorem ok8 : CtxOK Tryd.prog (cx con8) gl := ctx_of tyOk moOk sl8 fnOk

/-- dancestudiolaw02.near -/
noncomputable def f23 (a : Int) (b : Int) : Option (Bool) :=
  cond (decide (IntKind.i64.wrap (IntKind.i64.wrap (b - a) - 9) ≤ 0)) (
  some (true)) (
  cond (decide (IntKind.i64.wrap (IntKind.i64.wrap (b - a) - 9) ≤ 4000000)) (
   some (decide (IntKind.i64.wrap (IntKind.i64.wrap (IntKind.i64.wrap (b - a) - 9) * IntKind.i64.wrap (IntKind.i64.wrap (b - a) - 9)) ≤ IntKind.i64.wrap (36 * a)))) (
   some (false)))
theorem ev23 (a : (cCons (cI .i64) (cOne (cI .i64))).T) : evF (R := (rOne (cB)).T) (cx con8) 1000 Tryd.f23 ((cCons (cI .i64) (cOne (cI .i64))).enc a) (glMem gl) gG (rOne (cB)).dec = f23 a.1 a.2 := by kernel_rfl
theorem sp23 : VE.Spec Tryd.prog gG gl 23 (conF (cCons (cI .i64) (cOne (cI .i64))) (rOne (cB)) (fun a => f23 a.1 a.2)) := spec_of ok8 Tryd.func23 Tryd.call23 1000 (cCons_ok (cI_ok _) (cOne_ok (cI_ok _))) (rOne_ok (cB_ok)) ev23
noncomputable def con23 : List (Nat × (List AV → Option ConR)) := (23, conF (cCons (cI .i64) (cOne (cI .i64))) (rOne (cB)) (fun a => f23 a.1 a.2)) :: con8
theorem sl23 : SpecL Tryd.prog gG gl con23 := ⟨sp23, sl8⟩
theorem ok23 : CtxOK Tryd.prog (cx con23) gl := ctx_of tyOk moOk sl23 fnOk

/-- dancestudiolaw02.AngleTurns -/
noncomputable def f9 (a : Nat → Int) (b : Int) : Option (Bool) :=
  cond (decide (a 0 < -32768)) (
  Option.bind (f20 (nthI [a 0, a 1]) b) (fun r2 =>
   cond (decide (r2.snd = 1)) (
    some (true)) (
    some (false)))) (
  cond (decide (32768 < a 0)) (
   Option.bind (f20 (nthI [a 0, a 1]) b) (fun r2 =>
    cond (decide (r2.snd = 1)) (
     some (true)) (
     some (false)))) (
   cond (decide (a 1 < -32768)) (
    Option.bind (f20 (nthI [a 0, a 1]) b) (fun r2 =>
     cond (decide (r2.snd = 1)) (
      some (true)) (
      some (false)))) (
    cond (decide (32768 < a 1)) (
     Option.bind (f20 (nthI [a 0, a 1]) b) (fun r2 =>
      cond (decide (r2.snd = 1)) (
       some (true)) (
       some (false)))) (
     Option.bind (f22 (a 0) (a 1) 0 (a 0) (a 1)) (fun r2 =>
      cond (!r2) (
       some (false)) (
       Option.bind (f22 (a 0) (a 1) 64 (a 1) (IntKind.i64.wrap (0 - a 0))) (fun r3 =>
        cond (!r3) (
         some (false)) (
         Option.bind (f22 (a 0) (a 1) 128 (IntKind.i64.wrap (0 - a 0)) (IntKind.i64.wrap (0 - a 1))) (fun r4 =>
          cond (!r4) (
           some (false)) (
           Option.bind (f22 (a 0) (a 1) (-64) (IntKind.i64.wrap (0 - a 1)) (a 0)) (fun r5 =>
            cond (!r5) (
             some (false)) (
             Option.bind (f20 (nthI [a 0, a 1]) b) (fun r6 =>
              cond (!decide (r6.snd = 0)) (
               some (false)) (
               cond (decide (r6.fst 0 < -100000)) (
                some (false)) (
                cond (decide (100000 < r6.fst 0)) (
                 some (false)) (
                 cond (decide (r6.fst 1 < -100000)) (
                  some (false)) (
                  cond (decide (100000 < r6.fst 1)) (
                   some (false)) (
                   Option.bind (f23 (IntKind.i64.wrap (IntKind.i64.wrap (a 0 * a 0) + IntKind.i64.wrap (a 1 * a 1))) (IntKind.i64.wrap (IntKind.i64.wrap (r6.fst 0 * r6.fst 0) + IntKind.i64.wrap (r6.fst 1 * r6.fst 1)))) (fun r7 =>
                    cond (r7) (
                     Option.bind (f23 (IntKind.i64.wrap (IntKind.i64.wrap (r6.fst 0 * r6.fst 0) + IntKind.i64.wrap (r6.fst 1 * r6.fst 1))) (IntKind.i64.wrap (IntKind.i64.wrap (a 0 * a 0) + IntKind.i64.wrap (a 1 * a 1)))) (fun r8 =>
                      cond (r8) (
                       some (true)) (
                       some (false)))) (
                     some (false)))))))))))))))))))))
theorem ev9 (a : (cCons (cA .i64 2) (cOne (cI .i64))).T) : evF (R := (rOne (cB)).T) (cx con23) 1000 Tryd.f9 ((cCons (cA .i64 2) (cOne (cI .i64))).enc a) (glMem gl) gG (rOne (cB)).dec = f9 a.1 a.2 := by kernel_rfl
theorem sp9 : VE.Spec Tryd.prog gG gl 9 (conF (cCons (cA .i64 2) (cOne (cI .i64))) (rOne (cB)) (fun a => f9 a.1 a.2)) := spec_of ok23 Tryd.func9 Tryd.call9 1000 (cCons_ok (cA_ok _ _) (cOne_ok (cI_ok _))) (rOne_ok (cB_ok)) ev9
noncomputable def con9 : List (Nat × (List AV → Option ConR)) := (9, conF (cCons (cA .i64 2) (cOne (cI .i64))) (rOne (cB)) (fun a => f9 a.1 a.2)) :: con23
theorem sl9 : SpecL Tryd.prog gG gl con9 := ⟨sp9, sl23⟩
theorem ok9 : CtxOK Tryd.prog (cx con9) gl := ctx_of tyOk moOk sl9 fnOk

/-- dancestudiolaw02.AngleImage -/
noncomputable def f10 (a : Nat → Int) (b : Int) : Option (Bool) :=
  cond (decide (a 0 < -32768)) (
  some (true)) (
  cond (decide (32768 < a 0)) (
   some (true)) (
   cond (decide (a 1 < -32768)) (
    some (true)) (
    cond (decide (32768 < a 1)) (
     some (true)) (
     Option.bind (f20 (nthI [a 0, a 1]) b) (fun r2 =>
      Option.bind (f12 b) (fun r3 =>
       Option.bind (f20 (nthI [IntKind.i64.wrap (0 - a 0), a 1]) r3) (fun r4 =>
        cond (decide (r2.snd = 0)) (
         cond (decide (r4.snd = 0)) (
          cond (decide (r4.fst 0 = IntKind.i64.wrap (0 - r2.fst 0))) (
           cond (decide (r4.fst 1 = r2.fst 1)) (
            some (true)) (
            some (false))) (
           some (false))) (
          some (false))) (
         some (false)))))))))
theorem ev10 (a : (cCons (cA .i64 2) (cOne (cI .i64))).T) : evF (R := (rOne (cB)).T) (cx con9) 1000 Tryd.f10 ((cCons (cA .i64 2) (cOne (cI .i64))).enc a) (glMem gl) gG (rOne (cB)).dec = f10 a.1 a.2 := by kernel_rfl
theorem sp10 : VE.Spec Tryd.prog gG gl 10 (conF (cCons (cA .i64 2) (cOne (cI .i64))) (rOne (cB)) (fun a => f10 a.1 a.2)) := spec_of ok9 Tryd.func10 Tryd.call10 1000 (cCons_ok (cA_ok _ _) (cOne_ok (cI_ok _))) (rOne_ok (cB_ok)) ev10
noncomputable def con10 : List (Nat × (List AV → Option ConR)) := (10, conF (cCons (cA .i64 2) (cOne (cI .i64))) (rOne (cB)) (fun a => f10 a.1 a.2)) :: con9
theorem sl10 : SpecL Tryd.prog gG gl con10 := ⟨sp10, sl9⟩
theorem ok10 : CtxOK Tryd.prog (cx con10) gl := ctx_of tyOk moOk sl10 fnOk
end Go.Proofs.YtimckeecmjiemaaDoor
