/-
  THE CONTRACTS of this program's functions: what each answers, as a plain function, by its evaluation.
-/
import Derived.Test.YtghmaghmkhpaaaaDoorVEo
import Derived.Test.YtghmaghmkhpaaaaDoorChecked
open Go Go.VE Go.Proofs
set_option maxRecDepth 1000000
set_option linter.unusedVariables false
namespace Go.Proofs.YtghmaghmkhpaaaaDoor
def tyL : List (TypeId × TyI) := [
  (3, ⟨.int .i64, 1, [.int .i64 0]⟩),
  (4, ⟨.bool, 1, [.bool false]⟩),
  (9, ⟨.str, 1, [.str ⟨#[]⟩]⟩),
  (22, ⟨.int .i64, 1, [.int .i64 0]⟩),
  (38, ⟨.struct [(3, 0), (3, 1)], 2, [.int .i64 0, .int .i64 0]⟩),
  (43, ⟨.array 9 9, 9, [.str ⟨#[]⟩, .str ⟨#[]⟩, .str ⟨#[]⟩, .str ⟨#[]⟩, .str ⟨#[]⟩, .str ⟨#[]⟩, .str ⟨#[]⟩, .str ⟨#[]⟩, .str ⟨#[]⟩]⟩),
  (44, ⟨.array 3 9, 3, [.str ⟨#[]⟩, .str ⟨#[]⟩, .str ⟨#[]⟩]⟩),
  (45, ⟨.slice 9, 1, [.nils]⟩)]
def gl : List (Nat × List AV) := [(0, [.str (bs [112, 108, 97, 99, 101]), .str (bs [102, 111, 114, 119, 97, 114, 100]), .str (bs [102, 111, 114, 119, 97, 114, 100, 45, 114, 105, 103, 104, 116]), .str (bs [114, 105, 103, 104, 116]), .str (bs [98, 97, 99, 107, 45, 114, 105, 103, 104, 116]), .str (bs [98, 97, 99, 107]), .str (bs [98, 97, 99, 107, 45, 108, 101, 102, 116]), .str (bs [108, 101, 102, 116]), .str (bs [102, 111, 114, 119, 97, 114, 100, 45, 108, 101, 102, 116])]),
  (1, [.str (bs [108, 111, 119]), .str (bs [109, 105, 100, 100, 108, 101]), .str (bs [104, 105, 103, 104])])]
def gG : Nat := 2
noncomputable def fns : List (Nat × Func) := []
noncomputable abbrev cx (con : List (Nat × (List AV → Option ConR))) : Ctx := { ty := assoc tyL, con := assoc con, fns := assoc fns, G := gG }
noncomputable def con0 : List (Nat × (List AV → Option ConR)) := []
def tab0 : List ByteArray := [bs [112, 108, 97, 99, 101], bs [102, 111, 114, 119, 97, 114, 100], bs [102, 111, 114, 119, 97, 114, 100, 45, 114, 105, 103, 104, 116], bs [114, 105, 103, 104, 116], bs [98, 97, 99, 107, 45, 114, 105, 103, 104, 116], bs [98, 97, 99, 107], bs [98, 97, 99, 107, 45, 108, 101, 102, 116], bs [108, 101, 102, 116], bs [102, 111, 114, 119, 97, 114, 100, 45, 108, 101, 102, 116]]
def tab1 : List ByteArray := [bs [108, 111, 119], bs [109, 105, 100, 100, 108, 101], bs [104, 105, 103, 104]]
theorem tyOk : ∀ t i, assoc tyL t = some i → tyOf Tryd.prog t = some i := tys_of (by kernel_rfl)
theorem moOk : Tryd.prog.follows .mixedOrders = true := by kernel_rfl
theorem fnOk : FnL Tryd.prog fns := trivial
theorem sl0 : SpecL Tryd.prog gG gl con0 := trivial
theorem ok0 : CtxOK Tryd.prog (cx con0) gl := ctx_of tyOk moOk sl0 fnOk

/-- dir.valid -/
noncomputable def f27 (a : Int) : Option (Bool) :=
  cond (decide (0 ≤ a)) (
  some (decide (a ≤ 8))) (
  some (false))
theorem ev27 (a : (cOne (cI .i64)).T) : evF (R := (rOne (cB)).T) (cx con0) 1000 Tryd.f27 ((cOne (cI .i64)).enc a) (glMem gl) gG (rOne (cB)).dec = f27 a := by kernel_rfl
theorem sp27 : VE.Spec Tryd.prog gG gl 27 (conF (cOne (cI .i64)) (rOne (cB)) (fun a => f27 a)) := spec_of ok0 Tryd.func27 Tryd.call27 1000 (cOne_ok (cI_ok _)) (rOne_ok (cB_ok)) ev27
noncomputable def con27 : List (Nat × (List AV → Option ConR)) := (27, conF (cOne (cI .i64)) (rOne (cB)) (fun a => f27 a)) :: con0
theorem sl27 : SpecL Tryd.prog gG gl con27 := ⟨sp27, sl0⟩
theorem ok27 : CtxOK Tryd.prog (cx con27) gl := ctx_of tyOk moOk sl27 fnOk

/-- dir.Mirror -/
noncomputable def f11 (a : Int) : Option (Int × Int) :=
  Option.bind (f27 a) (fun r1 =>
  cond (!r1) (
   some ((0, 1))) (
   cond (decide (a ≤ 1)) (
    some ((a, 0))) (
    some ((IntKind.i64.wrap (10 - a), 0)))))
theorem ev11 (a : (cOne (cI .i64)).T) : evF (R := (rTup (cCons (cI .i64) (cOne (cI .i64)))).T) (cx con27) 1000 Tryd.f11 ((cOne (cI .i64)).enc a) (glMem gl) gG (rTup (cCons (cI .i64) (cOne (cI .i64)))).dec = f11 a := by kernel_rfl
theorem sp11 : VE.Spec Tryd.prog gG gl 11 (conF (cOne (cI .i64)) (rTup (cCons (cI .i64) (cOne (cI .i64)))) (fun a => f11 a)) := spec_of ok27 Tryd.func11 Tryd.call11 1000 (cOne_ok (cI_ok _)) (rTup_ok (cCons_ok (cI_ok _) (cOne_ok (cI_ok _)))) ev11
noncomputable def con11 : List (Nat × (List AV → Option ConR)) := (11, conF (cOne (cI .i64)) (rTup (cCons (cI .i64) (cOne (cI .i64)))) (fun a => f11 a)) :: con27
theorem sl11 : SpecL Tryd.prog gG gl con11 := ⟨sp11, sl27⟩
theorem ok11 : CtxOK Tryd.prog (cx con11) gl := ctx_of tyOk moOk sl11 fnOk

/-- dancestudioref16.Is -/
noncomputable def f28 (a : Int) : Option (Bool) :=
  cond (decide (0 ≤ a)) (
  some (decide (a ≤ 8))) (
  some (false))
theorem ev28 (a : (cOne (cI .i64)).T) : evF (R := (rOne (cB)).T) (cx con11) 1000 Tryd.f28 ((cOne (cI .i64)).enc a) (glMem gl) gG (rOne (cB)).dec = f28 a := by kernel_rfl
theorem sp28 : VE.Spec Tryd.prog gG gl 28 (conF (cOne (cI .i64)) (rOne (cB)) (fun a => f28 a)) := spec_of ok11 Tryd.func28 Tryd.call28 1000 (cOne_ok (cI_ok _)) (rOne_ok (cB_ok)) ev28
noncomputable def con28 : List (Nat × (List AV → Option ConR)) := (28, conF (cOne (cI .i64)) (rOne (cB)) (fun a => f28 a)) :: con11
theorem sl28 : SpecL Tryd.prog gG gl con28 := ⟨sp28, sl11⟩
theorem ok28 : CtxOK Tryd.prog (cx con28) gl := ctx_of tyOk moOk sl28 fnOk

/-- dancestudioref16.Mirror -/
noncomputable def f12 (a : Int) : Option (Int × Int) :=
  Option.bind (f28 a) (fun r1 =>
  cond (!r1) (
   some ((0, 1))) (
   cond (decide (a = 0)) (
    some ((a, 0))) (
    cond (decide (a = 1)) (
     some ((a, 0))) (
     some ((IntKind.i64.wrap (10 - a), 0))))))
theorem ev12 (a : (cOne (cI .i64)).T) : evF (R := (rTup (cCons (cI .i64) (cOne (cI .i64)))).T) (cx con28) 1000 Tryd.f12 ((cOne (cI .i64)).enc a) (glMem gl) gG (rTup (cCons (cI .i64) (cOne (cI .i64)))).dec = f12 a := by kernel_rfl
theorem sp12 : VE.Spec Tryd.prog gG gl 12 (conF (cOne (cI .i64)) (rTup (cCons (cI .i64) (cOne (cI .i64)))) (fun a => f12 a)) := spec_of ok28 Tryd.func12 Tryd.call12 1000 (cOne_ok (cI_ok _)) (rTup_ok (cCons_ok (cI_ok _) (cOne_ok (cI_ok _)))) ev12
noncomputable def con12 : List (Nat × (List AV → Option ConR)) := (12, conF (cOne (cI .i64)) (rTup (cCons (cI .i64) (cOne (cI .i64)))) (fun a => f12 a)) :: con28
theorem sl12 : SpecL Tryd.prog gG gl con12 := ⟨sp12, sl28⟩
theorem ok12 : CtxOK Tryd.prog (cx con12) gl := ctx_of tyOk moOk sl12 fnOk

/-- dir.Eighth -/
noncomputable def f13 (a : Int) : Option (Int × Int) :=
  Option.bind (f27 a) (fun r1 =>
  cond (!r1) (
   some ((0, 1))) (
   cond (decide (a = 0)) (
    some ((0, 18))) (
    some ((IntKind.i64.wrap (a - 1), 0)))))
theorem ev13 (a : (cOne (cI .i64)).T) : evF (R := (rTup (cCons (cI .i64) (cOne (cI .i64)))).T) (cx con12) 1000 Tryd.f13 ((cOne (cI .i64)).enc a) (glMem gl) gG (rTup (cCons (cI .i64) (cOne (cI .i64)))).dec = f13 a := by kernel_rfl
theorem sp13 : VE.Spec Tryd.prog gG gl 13 (conF (cOne (cI .i64)) (rTup (cCons (cI .i64) (cOne (cI .i64)))) (fun a => f13 a)) := spec_of ok12 Tryd.func13 Tryd.call13 1000 (cOne_ok (cI_ok _)) (rTup_ok (cCons_ok (cI_ok _) (cOne_ok (cI_ok _)))) ev13
noncomputable def con13 : List (Nat × (List AV → Option ConR)) := (13, conF (cOne (cI .i64)) (rTup (cCons (cI .i64) (cOne (cI .i64)))) (fun a => f13 a)) :: con12
theorem sl13 : SpecL Tryd.prog gG gl con13 := ⟨sp13, sl12⟩
theorem ok13 : CtxOK Tryd.prog (cx con13) gl := ctx_of tyOk moOk sl13 fnOk

/-- dancestudioref16.Eighth -/
noncomputable def f14 (a : Int) : Option (Int × Int) :=
  Option.bind (f28 a) (fun r1 =>
  cond (!r1) (
   some ((0, 1))) (
   cond (decide (a = 0)) (
    some ((0, 18))) (
    some ((IntKind.i64.wrap (a - 1), 0)))))
theorem ev14 (a : (cOne (cI .i64)).T) : evF (R := (rTup (cCons (cI .i64) (cOne (cI .i64)))).T) (cx con13) 1000 Tryd.f14 ((cOne (cI .i64)).enc a) (glMem gl) gG (rTup (cCons (cI .i64) (cOne (cI .i64)))).dec = f14 a := by kernel_rfl
theorem sp14 : VE.Spec Tryd.prog gG gl 14 (conF (cOne (cI .i64)) (rTup (cCons (cI .i64) (cOne (cI .i64)))) (fun a => f14 a)) := spec_of ok13 Tryd.func14 Tryd.call14 1000 (cOne_ok (cI_ok _)) (rTup_ok (cCons_ok (cI_ok _) (cOne_ok (cI_ok _)))) ev14
noncomputable def con14 : List (Nat × (List AV → Option ConR)) := (14, conF (cOne (cI .i64)) (rTup (cCons (cI .i64) (cOne (cI .i64)))) (fun a => f14 a)) :: con13
theorem sl14 : SpecL Tryd.prog gG gl con14 := ⟨sp14, sl13⟩
theorem ok14 : CtxOK Tryd.prog (cx con14) gl := ctx_of tyOk moOk sl14 fnOk

/-- dir.Check -/
noncomputable def f15 (a : Int) (b : Int) : Option (Int) :=
  Option.bind (f27 a) (fun r2 =>
  cond (!r2) (
   some (1)) (
   cond (decide (b < -1)) (
    some (1)) (
    cond (decide (1 < b)) (
     some (1)) (
     some (0)))))
theorem ev15 (a : (cCons (cI .i64) (cOne (cI .i64))).T) : evF (R := (rOne (cI .i64)).T) (cx con14) 1000 Tryd.f15 ((cCons (cI .i64) (cOne (cI .i64))).enc a) (glMem gl) gG (rOne (cI .i64)).dec = f15 a.1 a.2 := by kernel_rfl
theorem sp15 : VE.Spec Tryd.prog gG gl 15 (conF (cCons (cI .i64) (cOne (cI .i64))) (rOne (cI .i64)) (fun a => f15 a.1 a.2)) := spec_of ok14 Tryd.func15 Tryd.call15 1000 (cCons_ok (cI_ok _) (cOne_ok (cI_ok _))) (rOne_ok (cI_ok _)) ev15
noncomputable def con15 : List (Nat × (List AV → Option ConR)) := (15, conF (cCons (cI .i64) (cOne (cI .i64))) (rOne (cI .i64)) (fun a => f15 a.1 a.2)) :: con14
theorem sl15 : SpecL Tryd.prog gG gl con15 := ⟨sp15, sl14⟩
theorem ok15 : CtxOK Tryd.prog (cx con15) gl := ctx_of tyOk moOk sl15 fnOk

/-- dancestudioref16.Check -/
noncomputable def f16 (a : Int) (b : Int) : Option (Int) :=
  Option.bind (f28 a) (fun r2 =>
  cond (!r2) (
   some (1)) (
   cond (decide (b < -1)) (
    some (1)) (
    cond (decide (1 < b)) (
     some (1)) (
     some (0)))))
theorem ev16 (a : (cCons (cI .i64) (cOne (cI .i64))).T) : evF (R := (rOne (cI .i64)).T) (cx con15) 1000 Tryd.f16 ((cCons (cI .i64) (cOne (cI .i64))).enc a) (glMem gl) gG (rOne (cI .i64)).dec = f16 a.1 a.2 := by kernel_rfl
theorem sp16 : VE.Spec Tryd.prog gG gl 16 (conF (cCons (cI .i64) (cOne (cI .i64))) (rOne (cI .i64)) (fun a => f16 a.1 a.2)) := spec_of ok15 Tryd.func16 Tryd.call16 1000 (cCons_ok (cI_ok _) (cOne_ok (cI_ok _))) (rOne_ok (cI_ok _)) ev16
noncomputable def con16 : List (Nat × (List AV → Option ConR)) := (16, conF (cCons (cI .i64) (cOne (cI .i64))) (rOne (cI .i64)) (fun a => f16 a.1 a.2)) :: con15
theorem sl16 : SpecL Tryd.prog gG gl con16 := ⟨sp16, sl15⟩
theorem ok16 : CtxOK Tryd.prog (cx con16) gl := ctx_of tyOk moOk sl16 fnOk

/-- dir.name -/
noncomputable def f29 (a : Int) (b : Int) : Option (ByteArray) :=
  cond (decide (0 ≤ a)) (
  cond (decide (a < 9)) (
   cond (decide (9223372036854775807 < Int.ofNat ((tab0.getD a.toNat (bs [])).size.add 1))) none (
    cond (decide (0 ≤ IntKind.i64.wrap (b + 1))) (
     cond (decide (IntKind.i64.wrap (b + 1) < 3)) (
      cond (decide (9223372036854775807 < Int.ofNat ((tab0.getD a.toNat (bs []) ++ bs [45]).size.add (tab1.getD (IntKind.i64.wrap (b + 1)).toNat (bs [])).size))) none (
       some (tab0.getD a.toNat (bs []) ++ bs [45] ++ tab1.getD (IntKind.i64.wrap (b + 1)).toNat (bs [])))) none) none)) none) none
theorem ev29 (a : (cCons (cI .i64) (cOne (cI .i64))).T) : evF (R := (rOne (cS)).T) (cx con16) 1000 Tryd.f29 ((cCons (cI .i64) (cOne (cI .i64))).enc a) (glMem gl) gG (rOne (cS)).dec = f29 a.1 a.2 := by kernel_rfl
theorem sp29 : VE.Spec Tryd.prog gG gl 29 (conF (cCons (cI .i64) (cOne (cI .i64))) (rOne (cS)) (fun a => f29 a.1 a.2)) := spec_of ok16 Tryd.func29 Tryd.call29 1000 (cCons_ok (cI_ok _) (cOne_ok (cI_ok _))) (rOne_ok (cS_ok)) ev29
noncomputable def con29 : List (Nat × (List AV → Option ConR)) := (29, conF (cCons (cI .i64) (cOne (cI .i64))) (rOne (cS)) (fun a => f29 a.1 a.2)) :: con16
theorem sl29 : SpecL Tryd.prog gG gl con29 := ⟨sp29, sl16⟩
theorem ok29 : CtxOK Tryd.prog (cx con29) gl := ctx_of tyOk moOk sl29 fnOk

/-- dir.Parse -/
noncomputable def f22 (a : ByteArray) : Option (Int × Int × Int) :=
  cond (strEq (bs [112, 108, 97, 99, 101, 45, 108, 111, 119]) a) (
  some ((0, -1, 0))) (
  cond (strEq (bs [112, 108, 97, 99, 101, 45, 109, 105, 100, 100, 108, 101]) a) (
   some ((0, 0, 0))) (
   cond (strEq (bs [112, 108, 97, 99, 101, 45, 104, 105, 103, 104]) a) (
    some ((0, 1, 0))) (
    cond (strEq (bs [102, 111, 114, 119, 97, 114, 100, 45, 108, 111, 119]) a) (
     some ((1, -1, 0))) (
     cond (strEq (bs [102, 111, 114, 119, 97, 114, 100, 45, 109, 105, 100, 100, 108, 101]) a) (
      some ((1, 0, 0))) (
      cond (strEq (bs [102, 111, 114, 119, 97, 114, 100, 45, 104, 105, 103, 104]) a) (
       some ((1, 1, 0))) (
       cond (strEq (bs [102, 111, 114, 119, 97, 114, 100, 45, 114, 105, 103, 104, 116, 45, 108, 111, 119]) a) (
        some ((2, -1, 0))) (
        cond (strEq (bs [102, 111, 114, 119, 97, 114, 100, 45, 114, 105, 103, 104, 116, 45, 109, 105, 100, 100, 108, 101]) a) (
         some ((2, 0, 0))) (
         cond (strEq (bs [102, 111, 114, 119, 97, 114, 100, 45, 114, 105, 103, 104, 116, 45, 104, 105, 103, 104]) a) (
          some ((2, 1, 0))) (
          cond (strEq (bs [114, 105, 103, 104, 116, 45, 108, 111, 119]) a) (
           some ((3, -1, 0))) (
           cond (strEq (bs [114, 105, 103, 104, 116, 45, 109, 105, 100, 100, 108, 101]) a) (
            some ((3, 0, 0))) (
            cond (strEq (bs [114, 105, 103, 104, 116, 45, 104, 105, 103, 104]) a) (
             some ((3, 1, 0))) (
             cond (strEq (bs [98, 97, 99, 107, 45, 114, 105, 103, 104, 116, 45, 108, 111, 119]) a) (
              some ((4, -1, 0))) (
              cond (strEq (bs [98, 97, 99, 107, 45, 114, 105, 103, 104, 116, 45, 109, 105, 100, 100, 108, 101]) a) (
               some ((4, 0, 0))) (
               cond (strEq (bs [98, 97, 99, 107, 45, 114, 105, 103, 104, 116, 45, 104, 105, 103, 104]) a) (
                some ((4, 1, 0))) (
                cond (strEq (bs [98, 97, 99, 107, 45, 108, 111, 119]) a) (
                 some ((5, -1, 0))) (
                 cond (strEq (bs [98, 97, 99, 107, 45, 109, 105, 100, 100, 108, 101]) a) (
                  some ((5, 0, 0))) (
                  cond (strEq (bs [98, 97, 99, 107, 45, 104, 105, 103, 104]) a) (
                   some ((5, 1, 0))) (
                   cond (strEq (bs [98, 97, 99, 107, 45, 108, 101, 102, 116, 45, 108, 111, 119]) a) (
                    some ((6, -1, 0))) (
                    cond (strEq (bs [98, 97, 99, 107, 45, 108, 101, 102, 116, 45, 109, 105, 100, 100, 108, 101]) a) (
                     some ((6, 0, 0))) (
                     cond (strEq (bs [98, 97, 99, 107, 45, 108, 101, 102, 116, 45, 104, 105, 103, 104]) a) (
                      some ((6, 1, 0))) (
                      cond (strEq (bs [108, 101, 102, 116, 45, 108, 111, 119]) a) (
                       some ((7, -1, 0))) (
                       cond (strEq (bs [108, 101, 102, 116, 45, 109, 105, 100, 100, 108, 101]) a) (
                        some ((7, 0, 0))) (
                        cond (strEq (bs [108, 101, 102, 116, 45, 104, 105, 103, 104]) a) (
                         some ((7, 1, 0))) (
                         cond (strEq (bs [102, 111, 114, 119, 97, 114, 100, 45, 108, 101, 102, 116, 45, 108, 111, 119]) a) (
                          some ((8, -1, 0))) (
                          cond (strEq (bs [102, 111, 114, 119, 97, 114, 100, 45, 108, 101, 102, 116, 45, 109, 105, 100, 100, 108, 101]) a) (
                           some ((8, 0, 0))) (
                           cond (strEq (bs [102, 111, 114, 119, 97, 114, 100, 45, 108, 101, 102, 116, 45, 104, 105, 103, 104]) a) (
                            some ((8, 1, 0))) (
                            some ((0, 0, 8)))))))))))))))))))))))))))))
theorem ev22 (a : (cOne (cS)).T) : evF (R := (rTup (cCons (cI .i64) (cCons (cI .i64) (cOne (cI .i64))))).T) (cx con29) 1000 Tryd.f22 ((cOne (cS)).enc a) (glMem gl) gG (rTup (cCons (cI .i64) (cCons (cI .i64) (cOne (cI .i64))))).dec = f22 a := by kernel_rfl
theorem sp22 : VE.Spec Tryd.prog gG gl 22 (conF (cOne (cS)) (rTup (cCons (cI .i64) (cCons (cI .i64) (cOne (cI .i64))))) (fun a => f22 a)) := spec_of ok29 Tryd.func22 Tryd.call22 1000 (cOne_ok (cS_ok)) (rTup_ok (cCons_ok (cI_ok _) (cCons_ok (cI_ok _) (cOne_ok (cI_ok _))))) ev22
noncomputable def con22 : List (Nat × (List AV → Option ConR)) := (22, conF (cOne (cS)) (rTup (cCons (cI .i64) (cCons (cI .i64) (cOne (cI .i64))))) (fun a => f22 a)) :: con29
theorem sl22 : SpecL Tryd.prog gG gl con22 := ⟨sp22, sl29⟩
theorem ok22 : CtxOK Tryd.prog (cx con22) gl := ctx_of tyOk moOk sl22 fnOk

/-- dir.Rotate -/
noncomputable def f18 (a : Int) (b : Int) : Option (Int × Int) :=
  Option.bind (f27 a) (fun r2 =>
  cond (!r2) (
   some ((0, 1))) (
   cond (decide (a = 0)) (
    some ((a, 0))) (
    some ((IntKind.i64.wrap ((IntKind.i64.wrap (IntKind.i64.wrap (IntKind.i64.wrap (a - 1) + b.tmod 8) + 8)).tmod 8 + 1), 0)))))
theorem ev18 (a : (cCons (cI .i64) (cOne (cI .i64))).T) : evF (R := (rTup (cCons (cI .i64) (cOne (cI .i64)))).T) (cx con22) 1000 Tryd.f18 ((cCons (cI .i64) (cOne (cI .i64))).enc a) (glMem gl) gG (rTup (cCons (cI .i64) (cOne (cI .i64)))).dec = f18 a.1 a.2 := by kernel_rfl
theorem sp18 : VE.Spec Tryd.prog gG gl 18 (conF (cCons (cI .i64) (cOne (cI .i64))) (rTup (cCons (cI .i64) (cOne (cI .i64)))) (fun a => f18 a.1 a.2)) := spec_of ok22 Tryd.func18 Tryd.call18 1000 (cCons_ok (cI_ok _) (cOne_ok (cI_ok _))) (rTup_ok (cCons_ok (cI_ok _) (cOne_ok (cI_ok _)))) ev18
noncomputable def con18 : List (Nat × (List AV → Option ConR)) := (18, conF (cCons (cI .i64) (cOne (cI .i64))) (rTup (cCons (cI .i64) (cOne (cI .i64)))) (fun a => f18 a.1 a.2)) :: con22
theorem sl18 : SpecL Tryd.prog gG gl con18 := ⟨sp18, sl22⟩
theorem ok18 : CtxOK Tryd.prog (cx con18) gl := ctx_of tyOk moOk sl18 fnOk

/-- dancestudiolaw16.rotates -/
noncomputable def f24 (a : Int) (b : Int) (c : Int) : Option (Bool) :=
  Option.bind (f18 b c) (fun r3 =>
  cond (decide (r3.fst = a)) (
   some (decide (r3.snd = 0))) (
   some (false)))
theorem ev24 (a : (cCons (cI .i64) (cCons (cI .i64) (cOne (cI .i64)))).T) : evF (R := (rOne (cB)).T) (cx con18) 1000 Tryd.f24 ((cCons (cI .i64) (cCons (cI .i64) (cOne (cI .i64)))).enc a) (glMem gl) gG (rOne (cB)).dec = f24 a.1 a.2.1 a.2.2 := by kernel_rfl
theorem sp24 : VE.Spec Tryd.prog gG gl 24 (conF (cCons (cI .i64) (cCons (cI .i64) (cOne (cI .i64)))) (rOne (cB)) (fun a => f24 a.1 a.2.1 a.2.2)) := spec_of ok18 Tryd.func24 Tryd.call24 1000 (cCons_ok (cI_ok _) (cCons_ok (cI_ok _) (cOne_ok (cI_ok _)))) (rOne_ok (cB_ok)) ev24
noncomputable def con24 : List (Nat × (List AV → Option ConR)) := (24, conF (cCons (cI .i64) (cCons (cI .i64) (cOne (cI .i64)))) (rOne (cB)) (fun a => f24 a.1 a.2.1 a.2.2)) :: con18
theorem sl24 : SpecL Tryd.prog gG gl con24 := ⟨sp24, sl18⟩
theorem ok24 : CtxOK Tryd.prog (cx con24) gl := ctx_of tyOk moOk sl24 fnOk

/-- dancestudiolaw16.mirrors -/
noncomputable def f25 (a : Int) (b : Int) : Option (Bool) :=
  Option.bind (f11 b) (fun r2 =>
  cond (decide (r2.fst = a)) (
   some (decide (r2.snd = 0))) (
   some (false)))
theorem ev25 (a : (cCons (cI .i64) (cOne (cI .i64))).T) : evF (R := (rOne (cB)).T) (cx con24) 1000 Tryd.f25 ((cCons (cI .i64) (cOne (cI .i64))).enc a) (glMem gl) gG (rOne (cB)).dec = f25 a.1 a.2 := by kernel_rfl
theorem sp25 : VE.Spec Tryd.prog gG gl 25 (conF (cCons (cI .i64) (cOne (cI .i64))) (rOne (cB)) (fun a => f25 a.1 a.2)) := spec_of ok24 Tryd.func25 Tryd.call25 1000 (cCons_ok (cI_ok _) (cOne_ok (cI_ok _))) (rOne_ok (cB_ok)) ev25
noncomputable def con25 : List (Nat × (List AV → Option ConR)) := (25, conF (cCons (cI .i64) (cOne (cI .i64))) (rOne (cB)) (fun a => f25 a.1 a.2)) :: con24
theorem sl25 : SpecL Tryd.prog gG gl con25 := ⟨sp25, sl24⟩
theorem ok25 : CtxOK Tryd.prog (cx con25) gl := ctx_of tyOk moOk sl25 fnOk

/-- dir.Name -/
noncomputable def f20 (a : Int) (b : Int) : Option (ByteArray × Int) :=
  Option.bind (f15 a b) (fun r2 =>
  cond (!decide (r2 = 0)) (
   some ((bs [], r2))) (
   Option.bind (f29 a b) (fun r3 =>
    some ((r3, 0)))))
theorem ev20 (a : (cCons (cI .i64) (cOne (cI .i64))).T) : evF (R := (rTup (cCons (cS) (cOne (cI .i64)))).T) (cx con25) 1000 Tryd.f20 ((cCons (cI .i64) (cOne (cI .i64))).enc a) (glMem gl) gG (rTup (cCons (cS) (cOne (cI .i64)))).dec = f20 a.1 a.2 := by kernel_rfl
theorem sp20 : VE.Spec Tryd.prog gG gl 20 (conF (cCons (cI .i64) (cOne (cI .i64))) (rTup (cCons (cS) (cOne (cI .i64)))) (fun a => f20 a.1 a.2)) := spec_of ok25 Tryd.func20 Tryd.call20 1000 (cCons_ok (cI_ok _) (cOne_ok (cI_ok _))) (rTup_ok (cCons_ok (cS_ok) (cOne_ok (cI_ok _)))) ev20
noncomputable def con20 : List (Nat × (List AV → Option ConR)) := (20, conF (cCons (cI .i64) (cOne (cI .i64))) (rTup (cCons (cS) (cOne (cI .i64)))) (fun a => f20 a.1 a.2)) :: con25
theorem sl20 : SpecL Tryd.prog gG gl con20 := ⟨sp20, sl25⟩
theorem ok20 : CtxOK Tryd.prog (cx con20) gl := ctx_of tyOk moOk sl20 fnOk

/-- dancestudiolaw16.named -/
noncomputable def f26 (a : ByteArray) (b : Int) (c : Int) : Option (Bool) :=
  Option.bind (f20 b c) (fun r3 =>
  Option.bind (f22 a) (fun r4 =>
   cond (strEq r3.fst a) (
    cond (decide (r3.snd = 0)) (
     cond (decide (r4.fst = b)) (
      cond (decide (r4.snd.fst = c)) (
       some (decide (r4.snd.snd = 0))) (
       some (false))) (
      some (false))) (
     some (false))) (
    some (false))))
theorem ev26 (a : (cCons (cS) (cCons (cI .i64) (cOne (cI .i64)))).T) : evF (R := (rOne (cB)).T) (cx con20) 1000 Tryd.f26 ((cCons (cS) (cCons (cI .i64) (cOne (cI .i64)))).enc a) (glMem gl) gG (rOne (cB)).dec = f26 a.1 a.2.1 a.2.2 := by kernel_rfl
theorem sp26 : VE.Spec Tryd.prog gG gl 26 (conF (cCons (cS) (cCons (cI .i64) (cOne (cI .i64)))) (rOne (cB)) (fun a => f26 a.1 a.2.1 a.2.2)) := spec_of ok20 Tryd.func26 Tryd.call26 1000 (cCons_ok (cS_ok) (cCons_ok (cI_ok _) (cOne_ok (cI_ok _)))) (rOne_ok (cB_ok)) ev26
noncomputable def con26 : List (Nat × (List AV → Option ConR)) := (26, conF (cCons (cS) (cCons (cI .i64) (cOne (cI .i64)))) (rOne (cB)) (fun a => f26 a.1 a.2.1 a.2.2)) :: con20
theorem sl26 : SpecL Tryd.prog gG gl con26 := ⟨sp26, sl20⟩
theorem ok26 : CtxOK Tryd.prog (cx con26) gl := ctx_of tyOk moOk sl26 fnOk

/-- dancestudiolaw16.awake -/
noncomputable def f17  : Option (Bool) :=
  some (true)
theorem ev17 (a : (cNil).T) : evF (R := (rOne (cB)).T) (cx con26) 1000 Tryd.f17 ((cNil).enc a) (glMem gl) gG (rOne (cB)).dec = f17 := by kernel_rfl
theorem sp17 : VE.Spec Tryd.prog gG gl 17 (conF (cNil) (rOne (cB)) (fun a => f17)) := spec_of ok26 Tryd.func17 Tryd.call17 1000 (cNil_ok) (rOne_ok (cB_ok)) ev17
noncomputable def con17 : List (Nat × (List AV → Option ConR)) := (17, conF (cNil) (rOne (cB)) (fun a => f17)) :: con26
theorem sl17 : SpecL Tryd.prog gG gl con17 := ⟨sp17, sl26⟩
theorem ok17 : CtxOK Tryd.prog (cx con17) gl := ctx_of tyOk moOk sl17 fnOk

/-- dancestudiolaw16.DirChecks -/
noncomputable def f3 (a : Int) (b : Int) : Option (Bool) :=
  Option.bind (f11 a) (fun r2 =>
  Option.bind (f12 a) (fun r3 =>
   Option.bind (f13 a) (fun r4 =>
    Option.bind (f14 a) (fun r5 =>
     Option.bind (f15 a b) (fun r6 =>
      Option.bind (f16 a b) (fun r7 =>
       cond (decide (r6 = r7)) (
        cond (decide (r2.fst = r3.fst)) (
         cond (decide (r2.snd = r3.snd)) (
          cond (decide (r4.fst = r5.fst)) (
           cond (decide (r4.snd = r5.snd)) (
            some (true)) (
            some (false))) (
           some (false))) (
          some (false))) (
         some (false))) (
        some (false))))))))
theorem ev3 (a : (cCons (cI .i64) (cOne (cI .i64))).T) : evF (R := (rOne (cB)).T) (cx con17) 1000 Tryd.f3 ((cCons (cI .i64) (cOne (cI .i64))).enc a) (glMem gl) gG (rOne (cB)).dec = f3 a.1 a.2 := by kernel_rfl
theorem sp3 : VE.Spec Tryd.prog gG gl 3 (conF (cCons (cI .i64) (cOne (cI .i64))) (rOne (cB)) (fun a => f3 a.1 a.2)) := spec_of ok17 Tryd.func3 Tryd.call3 1000 (cCons_ok (cI_ok _) (cOne_ok (cI_ok _))) (rOne_ok (cB_ok)) ev3
noncomputable def con3 : List (Nat × (List AV → Option ConR)) := (3, conF (cCons (cI .i64) (cOne (cI .i64))) (rOne (cB)) (fun a => f3 a.1 a.2)) :: con17
theorem sl3 : SpecL Tryd.prog gG gl con3 := ⟨sp3, sl17⟩
theorem ok3 : CtxOK Tryd.prog (cx con3) gl := ctx_of tyOk moOk sl3 fnOk

/-- dancestudioref16.Rotate -/
noncomputable def f19 (a : Int) (b : Int) : Option (Int × Int) :=
  Option.bind (f28 a) (fun r2 =>
  cond (!r2) (
   some ((0, 1))) (
   cond (decide (a = 0)) (
    some ((a, 0))) (
    cond (decide (b.tmod 8 < 0)) (
     some ((IntKind.i64.wrap ((IntKind.i64.wrap (IntKind.i64.wrap (a - 1) + IntKind.i64.wrap (b.tmod 8 + 8))).tmod 8 + 1), 0))) (
     some ((IntKind.i64.wrap ((IntKind.i64.wrap (IntKind.i64.wrap (a - 1) + b.tmod 8)).tmod 8 + 1), 0))))))
theorem ev19 (a : (cCons (cI .i64) (cOne (cI .i64))).T) : evF (R := (rTup (cCons (cI .i64) (cOne (cI .i64)))).T) (cx con3) 1000 Tryd.f19 ((cCons (cI .i64) (cOne (cI .i64))).enc a) (glMem gl) gG (rTup (cCons (cI .i64) (cOne (cI .i64)))).dec = f19 a.1 a.2 := by kernel_rfl
theorem sp19 : VE.Spec Tryd.prog gG gl 19 (conF (cCons (cI .i64) (cOne (cI .i64))) (rTup (cCons (cI .i64) (cOne (cI .i64)))) (fun a => f19 a.1 a.2)) := spec_of ok3 Tryd.func19 Tryd.call19 1000 (cCons_ok (cI_ok _) (cOne_ok (cI_ok _))) (rTup_ok (cCons_ok (cI_ok _) (cOne_ok (cI_ok _)))) ev19
noncomputable def con19 : List (Nat × (List AV → Option ConR)) := (19, conF (cCons (cI .i64) (cOne (cI .i64))) (rTup (cCons (cI .i64) (cOne (cI .i64)))) (fun a => f19 a.1 a.2)) :: con3
theorem sl19 : SpecL Tryd.prog gG gl con19 := ⟨sp19, sl3⟩
theorem ok19 : CtxOK Tryd.prog (cx con19) gl := ctx_of tyOk moOk sl19 fnOk

/-- dancestudiolaw16.DirRotates -/
noncomputable def f4 (a : Int) (b : Int) : Option (Bool) :=
  Option.bind (f18 a b) (fun r2 =>
  Option.bind (f19 a b) (fun r3 =>
   cond (decide (r2.fst = r3.fst)) (
    cond (decide (r2.snd = r3.snd)) (
     some (true)) (
     some (false))) (
    some (false))))
theorem ev4 (a : (cCons (cI .i64) (cOne (cI .i64))).T) : evF (R := (rOne (cB)).T) (cx con19) 1000 Tryd.f4 ((cCons (cI .i64) (cOne (cI .i64))).enc a) (glMem gl) gG (rOne (cB)).dec = f4 a.1 a.2 := by kernel_rfl
theorem sp4 : VE.Spec Tryd.prog gG gl 4 (conF (cCons (cI .i64) (cOne (cI .i64))) (rOne (cB)) (fun a => f4 a.1 a.2)) := spec_of ok19 Tryd.func4 Tryd.call4 1000 (cCons_ok (cI_ok _) (cOne_ok (cI_ok _))) (rOne_ok (cB_ok)) ev4
noncomputable def con4 : List (Nat × (List AV → Option ConR)) := (4, conF (cCons (cI .i64) (cOne (cI .i64))) (rOne (cB)) (fun a => f4 a.1 a.2)) :: con19
theorem sl4 : SpecL Tryd.prog gG gl con4 := ⟨sp4, sl19⟩
theorem ok4 : CtxOK Tryd.prog (cx con4) gl := ctx_of tyOk moOk sl4 fnOk

/-- dancestudioref16.word -/
noncomputable def f30 (a : Int) : Option (ByteArray) :=
  cond (decide (0 ≤ a)) (
  cond (decide (a < 9)) (
   some (tab0.getD a.toNat (bs []))) none) none
theorem ev30 (a : (cOne (cI .i64)).T) : evF (R := (rOne (cS)).T) (cx con4) 1000 Tryd.f30 ((cOne (cI .i64)).enc a) (glMem gl) gG (rOne (cS)).dec = f30 a := by kernel_rfl
theorem sp30 : VE.Spec Tryd.prog gG gl 30 (conF (cOne (cI .i64)) (rOne (cS)) (fun a => f30 a)) := spec_of ok4 Tryd.func30 Tryd.call30 1000 (cOne_ok (cI_ok _)) (rOne_ok (cS_ok)) ev30
noncomputable def con30 : List (Nat × (List AV → Option ConR)) := (30, conF (cOne (cI .i64)) (rOne (cS)) (fun a => f30 a)) :: con4
theorem sl30 : SpecL Tryd.prog gG gl con30 := ⟨sp30, sl4⟩
theorem ok30 : CtxOK Tryd.prog (cx con30) gl := ctx_of tyOk moOk sl30 fnOk

/-- dancestudioref16.Name -/
noncomputable def f21 (a : Int) (b : Int) : Option (ByteArray × Int) :=
  Option.bind (f16 a b) (fun r2 =>
  cond (!decide (r2 = 0)) (
   some ((bs [], r2))) (
   cond (decide (b = -1)) (
    Option.bind (f30 a) (fun r3 =>
     cond (decide (9223372036854775807 < Int.ofNat (r3.size.add 4))) none (
      some ((r3 ++ bs [45, 108, 111, 119], 0))))) (
    cond (decide (b = 0)) (
     Option.bind (f30 a) (fun r3 =>
      cond (decide (9223372036854775807 < Int.ofNat (r3.size.add 7))) none (
       some ((r3 ++ bs [45, 109, 105, 100, 100, 108, 101], 0))))) (
     Option.bind (f30 a) (fun r3 =>
      cond (decide (9223372036854775807 < Int.ofNat (r3.size.add 5))) none (
       some ((r3 ++ bs [45, 104, 105, 103, 104], 0))))))))
theorem ev21 (a : (cCons (cI .i64) (cOne (cI .i64))).T) : evF (R := (rTup (cCons (cS) (cOne (cI .i64)))).T) (cx con30) 1000 Tryd.f21 ((cCons (cI .i64) (cOne (cI .i64))).enc a) (glMem gl) gG (rTup (cCons (cS) (cOne (cI .i64)))).dec = f21 a.1 a.2 := by kernel_rfl
theorem sp21 : VE.Spec Tryd.prog gG gl 21 (conF (cCons (cI .i64) (cOne (cI .i64))) (rTup (cCons (cS) (cOne (cI .i64)))) (fun a => f21 a.1 a.2)) := spec_of ok30 Tryd.func21 Tryd.call21 1000 (cCons_ok (cI_ok _) (cOne_ok (cI_ok _))) (rTup_ok (cCons_ok (cS_ok) (cOne_ok (cI_ok _)))) ev21
noncomputable def con21 : List (Nat × (List AV → Option ConR)) := (21, conF (cCons (cI .i64) (cOne (cI .i64))) (rTup (cCons (cS) (cOne (cI .i64)))) (fun a => f21 a.1 a.2)) :: con30
theorem sl21 : SpecL Tryd.prog gG gl con21 := ⟨sp21, sl30⟩
theorem ok21 : CtxOK Tryd.prog (cx con21) gl := ctx_of tyOk moOk sl21 fnOk

/-- dancestudiolaw16.DirNames -/
noncomputable def f5 (a : Int) (b : Int) : Option (Bool) :=
  Option.bind (f20 a b) (fun r2 =>
  Option.bind (f21 a b) (fun r3 =>
   cond (strEq r2.fst r3.fst) (
    cond (decide (r2.snd = r3.snd)) (
     some (true)) (
     some (false))) (
    some (false))))
theorem ev5 (a : (cCons (cI .i64) (cOne (cI .i64))).T) : evF (R := (rOne (cB)).T) (cx con21) 1000 Tryd.f5 ((cCons (cI .i64) (cOne (cI .i64))).enc a) (glMem gl) gG (rOne (cB)).dec = f5 a.1 a.2 := by kernel_rfl
theorem sp5 : VE.Spec Tryd.prog gG gl 5 (conF (cCons (cI .i64) (cOne (cI .i64))) (rOne (cB)) (fun a => f5 a.1 a.2)) := spec_of ok21 Tryd.func5 Tryd.call5 1000 (cCons_ok (cI_ok _) (cOne_ok (cI_ok _))) (rOne_ok (cB_ok)) ev5
noncomputable def con5 : List (Nat × (List AV → Option ConR)) := (5, conF (cCons (cI .i64) (cOne (cI .i64))) (rOne (cB)) (fun a => f5 a.1 a.2)) :: con21
theorem sl5 : SpecL Tryd.prog gG gl con5 := ⟨sp5, sl21⟩
theorem ok5 : CtxOK Tryd.prog (cx con5) gl := ctx_of tyOk moOk sl5 fnOk

/-- dancestudioref16.Parse -/
noncomputable def f23 (a : ByteArray) : Option (Int × Int × Int) :=
  cond (strEq (bs [112, 108, 97, 99, 101, 45, 108, 111, 119]) a) (
  some ((0, -1, 0))) (
  cond (strEq (bs [112, 108, 97, 99, 101, 45, 109, 105, 100, 100, 108, 101]) a) (
   some ((0, 0, 0))) (
   cond (strEq (bs [112, 108, 97, 99, 101, 45, 104, 105, 103, 104]) a) (
    some ((0, 1, 0))) (
    cond (strEq (bs [102, 111, 114, 119, 97, 114, 100, 45, 108, 111, 119]) a) (
     some ((1, -1, 0))) (
     cond (strEq (bs [102, 111, 114, 119, 97, 114, 100, 45, 109, 105, 100, 100, 108, 101]) a) (
      some ((1, 0, 0))) (
      cond (strEq (bs [102, 111, 114, 119, 97, 114, 100, 45, 104, 105, 103, 104]) a) (
       some ((1, 1, 0))) (
       cond (strEq (bs [102, 111, 114, 119, 97, 114, 100, 45, 114, 105, 103, 104, 116, 45, 108, 111, 119]) a) (
        some ((2, -1, 0))) (
        cond (strEq (bs [102, 111, 114, 119, 97, 114, 100, 45, 114, 105, 103, 104, 116, 45, 109, 105, 100, 100, 108, 101]) a) (
         some ((2, 0, 0))) (
         cond (strEq (bs [102, 111, 114, 119, 97, 114, 100, 45, 114, 105, 103, 104, 116, 45, 104, 105, 103, 104]) a) (
          some ((2, 1, 0))) (
          cond (strEq (bs [114, 105, 103, 104, 116, 45, 108, 111, 119]) a) (
           some ((3, -1, 0))) (
           cond (strEq (bs [114, 105, 103, 104, 116, 45, 109, 105, 100, 100, 108, 101]) a) (
            some ((3, 0, 0))) (
            cond (strEq (bs [114, 105, 103, 104, 116, 45, 104, 105, 103, 104]) a) (
             some ((3, 1, 0))) (
             cond (strEq (bs [98, 97, 99, 107, 45, 114, 105, 103, 104, 116, 45, 108, 111, 119]) a) (
              some ((4, -1, 0))) (
              cond (strEq (bs [98, 97, 99, 107, 45, 114, 105, 103, 104, 116, 45, 109, 105, 100, 100, 108, 101]) a) (
               some ((4, 0, 0))) (
               cond (strEq (bs [98, 97, 99, 107, 45, 114, 105, 103, 104, 116, 45, 104, 105, 103, 104]) a) (
                some ((4, 1, 0))) (
                cond (strEq (bs [98, 97, 99, 107, 45, 108, 111, 119]) a) (
                 some ((5, -1, 0))) (
                 cond (strEq (bs [98, 97, 99, 107, 45, 109, 105, 100, 100, 108, 101]) a) (
                  some ((5, 0, 0))) (
                  cond (strEq (bs [98, 97, 99, 107, 45, 104, 105, 103, 104]) a) (
                   some ((5, 1, 0))) (
                   cond (strEq (bs [98, 97, 99, 107, 45, 108, 101, 102, 116, 45, 108, 111, 119]) a) (
                    some ((6, -1, 0))) (
                    cond (strEq (bs [98, 97, 99, 107, 45, 108, 101, 102, 116, 45, 109, 105, 100, 100, 108, 101]) a) (
                     some ((6, 0, 0))) (
                     cond (strEq (bs [98, 97, 99, 107, 45, 108, 101, 102, 116, 45, 104, 105, 103, 104]) a) (
                      some ((6, 1, 0))) (
                      cond (strEq (bs [108, 101, 102, 116, 45, 108, 111, 119]) a) (
                       some ((7, -1, 0))) (
                       cond (strEq (bs [108, 101, 102, 116, 45, 109, 105, 100, 100, 108, 101]) a) (
                        some ((7, 0, 0))) (
                        cond (strEq (bs [108, 101, 102, 116, 45, 104, 105, 103, 104]) a) (
                         some ((7, 1, 0))) (
                         cond (strEq (bs [102, 111, 114, 119, 97, 114, 100, 45, 108, 101, 102, 116, 45, 108, 111, 119]) a) (
                          some ((8, -1, 0))) (
                          cond (strEq (bs [102, 111, 114, 119, 97, 114, 100, 45, 108, 101, 102, 116, 45, 109, 105, 100, 100, 108, 101]) a) (
                           some ((8, 0, 0))) (
                           cond (strEq (bs [102, 111, 114, 119, 97, 114, 100, 45, 108, 101, 102, 116, 45, 104, 105, 103, 104]) a) (
                            some ((8, 1, 0))) (
                            some ((0, 0, 8)))))))))))))))))))))))))))))
theorem ev23 (a : (cOne (cS)).T) : evF (R := (rTup (cCons (cI .i64) (cCons (cI .i64) (cOne (cI .i64))))).T) (cx con5) 1000 Tryd.f23 ((cOne (cS)).enc a) (glMem gl) gG (rTup (cCons (cI .i64) (cCons (cI .i64) (cOne (cI .i64))))).dec = f23 a := by kernel_rfl
theorem sp23 : VE.Spec Tryd.prog gG gl 23 (conF (cOne (cS)) (rTup (cCons (cI .i64) (cCons (cI .i64) (cOne (cI .i64))))) (fun a => f23 a)) := spec_of ok5 Tryd.func23 Tryd.call23 1000 (cOne_ok (cS_ok)) (rTup_ok (cCons_ok (cI_ok _) (cCons_ok (cI_ok _) (cOne_ok (cI_ok _))))) ev23
noncomputable def con23 : List (Nat × (List AV → Option ConR)) := (23, conF (cOne (cS)) (rTup (cCons (cI .i64) (cCons (cI .i64) (cOne (cI .i64))))) (fun a => f23 a)) :: con5
theorem sl23 : SpecL Tryd.prog gG gl con23 := ⟨sp23, sl5⟩
theorem ok23 : CtxOK Tryd.prog (cx con23) gl := ctx_of tyOk moOk sl23 fnOk

/-- dancestudiolaw16.DirParses -/
noncomputable def f6 (a : ByteArray) : Option (Bool) :=
  Option.bind (f22 a) (fun r1 =>
  Option.bind (f23 a) (fun r2 =>
   cond (decide (r1.fst = r2.fst)) (
    cond (decide (r1.snd.fst = r2.snd.fst)) (
     cond (decide (r1.snd.snd = r2.snd.snd)) (
      some (true)) (
      some (false))) (
     some (false))) (
    some (false))))
theorem ev6 (a : (cOne (cS)).T) : evF (R := (rOne (cB)).T) (cx con23) 1000 Tryd.f6 ((cOne (cS)).enc a) (glMem gl) gG (rOne (cB)).dec = f6 a := by kernel_rfl
theorem sp6 : VE.Spec Tryd.prog gG gl 6 (conF (cOne (cS)) (rOne (cB)) (fun a => f6 a)) := spec_of ok23 Tryd.func6 Tryd.call6 1000 (cOne_ok (cS_ok)) (rOne_ok (cB_ok)) ev6
noncomputable def con6 : List (Nat × (List AV → Option ConR)) := (6, conF (cOne (cS)) (rOne (cB)) (fun a => f6 a)) :: con23
theorem sl6 : SpecL Tryd.prog gG gl con6 := ⟨sp6, sl23⟩
theorem ok6 : CtxOK Tryd.prog (cx con6) gl := ctx_of tyOk moOk sl6 fnOk

/-- dancestudiolaw16.DirGroup -/
noncomputable def f7 (a : Int) (b : Int) (c : Int) : Option (Bool) :=
  Option.bind (f18 a b) (fun r3 =>
  Option.bind (f11 a) (fun r4 =>
   cond (decide (a < 0)) (
    cond (decide (r3.fst = 0)) (
     cond (decide (r3.snd = 1)) (
      cond (decide (r4.fst = 0)) (
       cond (decide (r4.snd = 1)) (
        some (true)) (
        some (false))) (
       some (false))) (
      some (false))) (
     some (false))) (
    cond (decide (8 < a)) (
     cond (decide (r3.fst = 0)) (
      cond (decide (r3.snd = 1)) (
       cond (decide (r4.fst = 0)) (
        cond (decide (r4.snd = 1)) (
         some (true)) (
         some (false))) (
        some (false))) (
       some (false))) (
      some (false))) (
     cond (!decide (r3.snd = 0)) (
      some (false)) (
      cond (!decide (r4.snd = 0)) (
       some (false)) (
       cond (!decide (r3.fst = 0) == decide (a = 0)) (
        some (false)) (
        cond (!decide (r4.fst = 0) == decide (a = 0)) (
         some (false)) (
         Option.bind (f18 r3.fst c) (fun r5 =>
          cond (!decide (r5.snd = 0)) (
           some (false)) (
           Option.bind (f24 r5.fst a (IntKind.i64.wrap (b.tmod 8 + c.tmod 8))) (fun r6 =>
            cond (!r6) (
             some (false)) (
             Option.bind (f24 a a 8) (fun r7 =>
              cond (!r7) (
               some (false)) (
               Option.bind (f25 a r4.fst) (fun r8 =>
                cond (!r8) (
                 some (false)) (
                 Option.bind (f18 r4.fst (IntKind.i64.wrap (0 - b.tmod 8))) (fun r9 =>
                  cond (decide (r9.snd = 0)) (
                   Option.bind (f25 r9.fst r3.fst) (fun r10 =>
                    cond (r10) (
                     some (true)) (
                     some (false)))) (
                   some (false)))))))))))))))))))
theorem ev7 (a : (cCons (cI .i64) (cCons (cI .i64) (cOne (cI .i64)))).T) : evF (R := (rOne (cB)).T) (cx con6) 1000 Tryd.f7 ((cCons (cI .i64) (cCons (cI .i64) (cOne (cI .i64)))).enc a) (glMem gl) gG (rOne (cB)).dec = f7 a.1 a.2.1 a.2.2 := by kernel_rfl
theorem sp7 : VE.Spec Tryd.prog gG gl 7 (conF (cCons (cI .i64) (cCons (cI .i64) (cOne (cI .i64)))) (rOne (cB)) (fun a => f7 a.1 a.2.1 a.2.2)) := spec_of ok6 Tryd.func7 Tryd.call7 1000 (cCons_ok (cI_ok _) (cCons_ok (cI_ok _) (cOne_ok (cI_ok _)))) (rOne_ok (cB_ok)) ev7
noncomputable def con7 : List (Nat × (List AV → Option ConR)) := (7, conF (cCons (cI .i64) (cCons (cI .i64) (cOne (cI .i64)))) (rOne (cB)) (fun a => f7 a.1 a.2.1 a.2.2)) :: con6
theorem sl7 : SpecL Tryd.prog gG gl con7 := ⟨sp7, sl6⟩
theorem ok7 : CtxOK Tryd.prog (cx con7) gl := ctx_of tyOk moOk sl7 fnOk

/-- dancestudiolaw16.DirEighths -/
noncomputable def f8 (a : Int) (b : Int) : Option (Bool) :=
  Option.bind (f13 a) (fun r2 =>
  cond (decide (r2.snd = 0)) (
   cond (decide (r2.fst < 0)) (
    some (false)) (
    cond (decide (7 < r2.fst)) (
     some (false)) (
     Option.bind (f24 a 1 r2.fst) (fun r3 =>
      cond (!r3) (
       some (false)) (
       Option.bind (f13 (IntKind.i64.wrap ((IntKind.i64.wrap (IntKind.i64.wrap (IntKind.i64.wrap (1 - 1) + b.tmod 8) + 8)).tmod 8 + 1))) (fun r4 =>
        cond (decide (r4.snd = 0)) (
         cond (decide (0 ≤ r4.fst)) (
          cond (decide (r4.fst ≤ 7)) (
           cond (decide ((IntKind.i64.wrap (b.tmod 8 - r4.fst)).tmod 8 = 0)) (
            some (true)) (
            some (false))) (
           some (false))) (
          some (false))) (
         some (false)))))))) (
   Option.bind (f13 (IntKind.i64.wrap ((IntKind.i64.wrap (IntKind.i64.wrap (IntKind.i64.wrap (1 - 1) + b.tmod 8) + 8)).tmod 8 + 1))) (fun r3 =>
    cond (decide (r3.snd = 0)) (
     cond (decide (0 ≤ r3.fst)) (
      cond (decide (r3.fst ≤ 7)) (
       cond (decide ((IntKind.i64.wrap (b.tmod 8 - r3.fst)).tmod 8 = 0)) (
        some (true)) (
        some (false))) (
       some (false))) (
      some (false))) (
     some (false)))))
theorem ev8 (a : (cCons (cI .i64) (cOne (cI .i64))).T) : evF (R := (rOne (cB)).T) (cx con7) 1000 Tryd.f8 ((cCons (cI .i64) (cOne (cI .i64))).enc a) (glMem gl) gG (rOne (cB)).dec = f8 a.1 a.2 := by kernel_rfl
theorem sp8 : VE.Spec Tryd.prog gG gl 8 (conF (cCons (cI .i64) (cOne (cI .i64))) (rOne (cB)) (fun a => f8 a.1 a.2)) := spec_of ok7 Tryd.func8 Tryd.call8 1000 (cCons_ok (cI_ok _) (cOne_ok (cI_ok _))) (rOne_ok (cB_ok)) ev8
noncomputable def con8 : List (Nat × (List AV → Option ConR)) := (8, conF (cCons (cI .i64) (cOne (cI .i64))) (rOne (cB)) (fun a => f8 a.1 a.2)) :: con7
theorem sl8 : SpecL Tryd.prog gG gl con8 := ⟨sp8, sl7⟩
theorem ok8 : CtxOK Tryd.prog (cx con8) gl := ctx_of tyOk moOk sl8 fnOk

/-- dancestudiolaw16.DirBack -/
noncomputable def f9 (a : Int) (b : Int) (c : ByteArray) : Option (Bool) :=
  Option.bind (f20 a b) (fun r3 =>
  Option.bind (f15 a b) (fun r4 =>
   cond (!decide (r3.snd = 0) == decide (r4 = 0)) (
    some (false)) (
    cond (decide (r3.snd = 0)) (
     Option.bind (f26 r3.fst a b) (fun r5 =>
      cond (!r5) (
       some (false)) (
       Option.bind (f22 c) (fun r6 =>
        cond (!decide (r6.snd.snd = 0)) (
         some (true)) (
         Option.bind (f26 c r6.fst r6.snd.fst) (fun r7 =>
          cond (r7) (
           some (true)) (
           some (false)))))))) (
     Option.bind (f22 c) (fun r5 =>
      cond (!decide (r5.snd.snd = 0)) (
       some (true)) (
       Option.bind (f26 c r5.fst r5.snd.fst) (fun r6 =>
        cond (r6) (
         some (true)) (
         some (false)))))))))
theorem ev9 (a : (cCons (cI .i64) (cCons (cI .i64) (cOne (cS)))).T) : evF (R := (rOne (cB)).T) (cx con8) 1000 Tryd.f9 ((cCons (cI .i64) (cCons (cI .i64) (cOne (cS)))).enc a) (glMem gl) gG (rOne (cB)).dec = f9 a.1 a.2.1 a.2.2 := by kernel_rfl
theorem sp9 : VE.Spec Tryd.prog gG gl 9 (conF (cCons (cI .i64) (cCons (cI .i64) (cOne (cS)))) (rOne (cB)) (fun a => f9 a.1 a.2.1 a.2.2)) := spec_of ok8 Tryd.func9 Tryd.call9 1000 (cCons_ok (cI_ok _) (cCons_ok (cI_ok _) (cOne_ok (cS_ok)))) (rOne_ok (cB_ok)) ev9
noncomputable def con9 : List (Nat × (List AV → Option ConR)) := (9, conF (cCons (cI .i64) (cCons (cI .i64) (cOne (cS)))) (rOne (cB)) (fun a => f9 a.1 a.2.1 a.2.2)) :: con8
theorem sl9 : SpecL Tryd.prog gG gl con9 := ⟨sp9, sl8⟩
theorem ok9 : CtxOK Tryd.prog (cx con9) gl := ctx_of tyOk moOk sl9 fnOk

/-- dancestudiolaw16.DirDistinct -/
noncomputable def f10 (a : Nat → Int) (b : Nat → Int) (c : Int) : Option (Bool) :=
  Option.bind (f20 (a 0) (a 1)) (fun r3 =>
  Option.bind (f20 (b 0) (b 1)) (fun r4 =>
   cond (!decide (r3.snd = 0)) (
    some (true)) (
    cond (!decide (r4.snd = 0)) (
     some (true)) (
     Option.bind (f11 (a 0)) (fun r5 =>
      Option.bind (f11 (b 0)) (fun r6 =>
       Option.bind (f18 (a 0) c) (fun r7 =>
        Option.bind (f18 (b 0) c) (fun r8 =>
         cond (!decide (r5.snd = 0)) (
          some (false)) (
          cond (!decide (r6.snd = 0)) (
           some (false)) (
           cond (!decide (r7.snd = 0)) (
            some (false)) (
            cond (!decide (r8.snd = 0)) (
             some (false)) (
             cond (strEq r3.fst r4.fst == (decide (a 0 = b 0) && decide (a 1 = b 1))) (
              cond (decide (r5.fst = r6.fst) == decide (a 0 = b 0)) (
               cond (decide (r7.fst = r8.fst) == decide (a 0 = b 0)) (
                some (true)) (
                some (false))) (
               some (false))) (
              some (false))))))))))))))
theorem ev10 (a : (cCons (cA .i64 2) (cCons (cA .i64 2) (cOne (cI .i64)))).T) : evF (R := (rOne (cB)).T) (cx con9) 1000 Tryd.f10 ((cCons (cA .i64 2) (cCons (cA .i64 2) (cOne (cI .i64)))).enc a) (glMem gl) gG (rOne (cB)).dec = f10 a.1 a.2.1 a.2.2 := by kernel_rfl
theorem sp10 : VE.Spec Tryd.prog gG gl 10 (conF (cCons (cA .i64 2) (cCons (cA .i64 2) (cOne (cI .i64)))) (rOne (cB)) (fun a => f10 a.1 a.2.1 a.2.2)) := spec_of ok9 Tryd.func10 Tryd.call10 1000 (cCons_ok (cA_ok _ _) (cCons_ok (cA_ok _ _) (cOne_ok (cI_ok _)))) (rOne_ok (cB_ok)) ev10
noncomputable def con10 : List (Nat × (List AV → Option ConR)) := (10, conF (cCons (cA .i64 2) (cCons (cA .i64 2) (cOne (cI .i64)))) (rOne (cB)) (fun a => f10 a.1 a.2.1 a.2.2)) :: con9
theorem sl10 : SpecL Tryd.prog gG gl con10 := ⟨sp10, sl9⟩
theorem ok10 : CtxOK Tryd.prog (cx con10) gl := ctx_of tyOk moOk sl10 fnOk
end Go.Proofs.YtghmaghmkhpaaaaDoor
