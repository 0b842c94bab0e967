/-
  THE CONTRACTS of this program's functions: what each answers, as a plain function, by its evaluation.
-/
import Derived.Test.YtpfoanamlhgnkaaDoorVEo
import Derived.Test.YtpfoanamlhgnkaaDoorChecked
open Go Go.VE Go.Proofs
set_option maxRecDepth 1000000
set_option linter.unusedVariables false
namespace Go.Proofs.YtpfoanamlhgnkaaDoor
def tyL : List (TypeId × TyI) := [
  (3, ⟨.int .i64, 1, [.int .i64 0]⟩),
  (4, ⟨.bool, 1, [.bool false]⟩),
  (5, ⟨.int .u8, 1, [.int .u8 0]⟩),
  (22, ⟨.array 4 3, 4, [.int .i64 0, .int .i64 0, .int .i64 0, .int .i64 0]⟩),
  (24, ⟨.struct [(3, 0), (3, 1), (3, 2), (3, 3), (3, 4), (3, 5), (3, 6), (3, 7), (3, 8), (3, 9), (3, 10), (22, 11)], 15, [.int .i64 0, .int .i64 0, .int .i64 0, .int .i64 0, .int .i64 0, .int .i64 0, .int .i64 0, .int .i64 0, .int .i64 0, .int .i64 0, .int .i64 0, .int .i64 0, .int .i64 0, .int .i64 0, .int .i64 0]⟩),
  (25, ⟨.int .i64, 1, [.int .i64 0]⟩),
  (29, ⟨.struct [(3, 0), (3, 1)], 2, [.int .i64 0, .int .i64 0]⟩),
  (42, ⟨.ptr 3, 1, [.nilp]⟩),
  (43, ⟨.array 11 42, 11, [.nilp, .nilp, .nilp, .nilp, .nilp, .nilp, .nilp, .nilp, .nilp, .nilp, .nilp]⟩),
  (45, ⟨.ptr 24, 1, [.nilp]⟩),
  (46, ⟨.array 2 3, 2, [.int .i64 0, .int .i64 0]⟩),
  (47, ⟨.array 11 46, 22, [.int .i64 0, .int .i64 0, .int .i64 0, .int .i64 0, .int .i64 0, .int .i64 0, .int .i64 0, .int .i64 0, .int .i64 0, .int .i64 0, .int .i64 0, .int .i64 0, .int .i64 0, .int .i64 0, .int .i64 0, .int .i64 0, .int .i64 0, .int .i64 0, .int .i64 0, .int .i64 0, .int .i64 0, .int .i64 0]⟩),
  (50, ⟨.slice 29, 1, [.nils]⟩),
  (54, ⟨.slice 3, 1, [.nils]⟩)]
def gl : List (Nat × List AV) := [(0, [.int .i64 (400), .int .i64 (1500), .int .i64 (200), .int .i64 (1000), .int .i64 (50), .int .i64 (500), .int .i64 (200), .int .i64 (1200), .int .i64 (20), .int .i64 (300), .int .i64 (50), .int .i64 (400), .int .i64 (100), .int .i64 (1200), .int .i64 (0), .int .i64 (200), .int .i64 (0), .int .i64 (200), .int .i64 (20), .int .i64 (300), .int .i64 (100), .int .i64 (1000)])]
def gG : Nat := 1
noncomputable def fns : List (Nat × Func) := [(21, Tryd.f21), (26, Tryd.f26)]
noncomputable abbrev cx (con : List (Nat × (List AV → Option ConR))) : Ctx := { ty := assoc tyL, con := assoc con, fns := assoc fns, G := gG }
noncomputable def con0 : List (Nat × (List AV → Option ConR)) := []
def tab0 : List Int := [0, 0, 0, 0, 0, 0, 0, 0, 0, 0, 0, 0, 0, 0, 0]
def tab1 : List Int := [900, 500, 150, 700, 100, 180, 600, 80, 60, 100, 300, 30000, 5000, 3000, 10000]
theorem tyOk : ∀ t i, assoc tyL t = some i → tyOf Tryd.prog t = some i := tys_of (by kernel_rfl)
theorem moOk : Tryd.prog.follows .mixedOrders = true := by kernel_rfl
theorem fnOk : FnL Tryd.prog fns := ⟨⟨Tryd.func21, Tryd.call21⟩, ⟨Tryd.func26, Tryd.call26⟩, trivial⟩
theorem sl0 : SpecL Tryd.prog gG gl con0 := trivial
theorem ok0 : CtxOK Tryd.prog (cx con0) gl := ctx_of tyOk moOk sl0 fnOk

/-- dancestudioref17.in -/
noncomputable def f20 (a : Int) (b : Int) (c : Int) : Option (Bool) :=
  cond (decide (b ≤ a)) (
  some (decide (a ≤ c))) (
  some (false))
theorem ev20 (a : (cCons (cI .i64) (cCons (cI .i64) (cOne (cI .i64)))).T) : evF (R := (rOne (cB)).T) (cx con0) 1000 Tryd.f20 ((cCons (cI .i64) (cCons (cI .i64) (cOne (cI .i64)))).enc a) (glMem gl) gG (rOne (cB)).dec = f20 a.1 a.2.1 a.2.2 := by kernel_rfl
theorem sp20 : VE.Spec Tryd.prog gG gl 20 (conF (cCons (cI .i64) (cCons (cI .i64) (cOne (cI .i64)))) (rOne (cB)) (fun a => f20 a.1 a.2.1 a.2.2)) := spec_of ok0 Tryd.func20 Tryd.call20 1000 (cCons_ok (cI_ok _) (cCons_ok (cI_ok _) (cOne_ok (cI_ok _)))) (rOne_ok (cB_ok)) ev20
noncomputable def con20 : List (Nat × (List AV → Option ConR)) := (20, conF (cCons (cI .i64) (cCons (cI .i64) (cOne (cI .i64)))) (rOne (cB)) (fun a => f20 a.1 a.2.1 a.2.2)) :: con0
theorem sl20 : SpecL Tryd.prog gG gl con20 := ⟨sp20, sl0⟩
theorem ok20 : CtxOK Tryd.prog (cx con20) gl := ctx_of tyOk moOk sl20 fnOk

/-- dancestudioref17.Check -/
noncomputable def f10 (a : Nat → Int) : Option (Int) :=
  Option.bind (f20 (a 0) 400 1500) (fun r1 =>
  cond (!r1) (
   some (23)) (
   Option.bind (f20 (a 1) 200 1000) (fun r2 =>
    cond (!r2) (
     some (23)) (
     Option.bind (f20 (a 2) 50 500) (fun r3 =>
      cond (!r3) (
       some (23)) (
       Option.bind (f20 (a 3) 200 1200) (fun r4 =>
        cond (!r4) (
         some (23)) (
         Option.bind (f20 (a 4) 20 300) (fun r5 =>
          cond (!r5) (
           some (23)) (
           Option.bind (f20 (a 5) 50 400) (fun r6 =>
            cond (!r6) (
             some (23)) (
             Option.bind (f20 (a 6) 100 1200) (fun r7 =>
              cond (!r7) (
               some (23)) (
               Option.bind (f20 (a 7) 0 200) (fun r8 =>
                cond (!r8) (
                 some (23)) (
                 Option.bind (f20 (a 8) 0 200) (fun r9 =>
                  cond (!r9) (
                   some (23)) (
                   Option.bind (f20 (a 9) 20 300) (fun r10 =>
                    cond (!r10) (
                     some (23)) (
                     Option.bind (f20 (a 10) 100 1000) (fun r11 =>
                      cond (!r11) (
                       some (23)) (
                       Option.bind (f20 (a 11) 1 200000) (fun r12 =>
                        cond (!r12) (
                         some (23)) (
                         Option.bind (f20 (a 12) 1 200000) (fun r13 =>
                          cond (!r13) (
                           some (23)) (
                           Option.bind (f20 (a 13) 1 200000) (fun r14 =>
                            cond (!r14) (
                             some (23)) (
                             Option.bind (f20 (a 14) 1 200000) (fun r15 =>
                              cond (!r15) (
                               some (23)) (
                               some (0)))))))))))))))))))))))))))))))
theorem ev10 (a : (cOne (cA .i64 15)).T) : evF (R := (rOne (cI .i64)).T) (cx con20) 1000 Tryd.f10 ((cOne (cA .i64 15)).enc a) (glMem gl) gG (rOne (cI .i64)).dec = f10 a := by kernel_rfl
theorem sp10 : VE.Spec Tryd.prog gG gl 10 (conF (cOne (cA .i64 15)) (rOne (cI .i64)) (fun a => f10 a)) := spec_of ok20 Tryd.func10 Tryd.call10 1000 (cOne_ok (cA_ok _ _)) (rOne_ok (cI_ok _)) ev10
noncomputable def con10 : List (Nat × (List AV → Option ConR)) := (10, conF (cOne (cA .i64 15)) (rOne (cI .i64)) (fun a => f10 a)) :: con20
theorem sl10 : SpecL Tryd.prog gG gl con10 := ⟨sp10, sl20⟩
theorem ok10 : CtxOK Tryd.prog (cx con10) gl := ctx_of tyOk moOk sl10 fnOk

/-- build.Check -/
noncomputable def f11 (a : Nat → Int) : Option (Int) :=
  cond (decide (a 0 < 400)) (
  some (23)) (
  cond (decide (1500 < a 0)) (
   some (23)) (
   cond (decide (a 1 < 200)) (
    some (23)) (
    cond (decide (1000 < a 1)) (
     some (23)) (
     cond (decide (a 2 < 50)) (
      some (23)) (
      cond (decide (500 < a 2)) (
       some (23)) (
       cond (decide (a 3 < 200)) (
        some (23)) (
        cond (decide (1200 < a 3)) (
         some (23)) (
         cond (decide (a 4 < 20)) (
          some (23)) (
          cond (decide (300 < a 4)) (
           some (23)) (
           cond (decide (a 5 < 50)) (
            some (23)) (
            cond (decide (400 < a 5)) (
             some (23)) (
             cond (decide (a 6 < 100)) (
              some (23)) (
              cond (decide (1200 < a 6)) (
               some (23)) (
               cond (decide (a 7 < 0)) (
                some (23)) (
                cond (decide (200 < a 7)) (
                 some (23)) (
                 cond (decide (a 8 < 0)) (
                  some (23)) (
                  cond (decide (200 < a 8)) (
                   some (23)) (
                   cond (decide (a 9 < 20)) (
                    some (23)) (
                    cond (decide (300 < a 9)) (
                     some (23)) (
                     cond (decide (a 10 < 100)) (
                      some (23)) (
                      cond (decide (1000 < a 10)) (
                       some (23)) (
                       cond (decide (a 11 < 1)) (
                        some (23)) (
                        cond (decide (200000 < a 11)) (
                         some (23)) (
                         cond (decide (a 12 < 1)) (
                          some (23)) (
                          cond (decide (200000 < a 12)) (
                           some (23)) (
                           cond (decide (a 13 < 1)) (
                            some (23)) (
                            cond (decide (200000 < a 13)) (
                             some (23)) (
                             cond (decide (a 14 < 1)) (
                              some (23)) (
                              cond (decide (200000 < a 14)) (
                               some (23)) (
                               some (0)))))))))))))))))))))))))))))))
theorem ev11 (a : (cOne (cA .i64 15)).T) : evF (R := (rOne (cI .i64)).T) (cx con10) 1000 Tryd.f11 ((cOne (cA .i64 15)).enc a) (glMem gl) gG (rOne (cI .i64)).dec = f11 a := by kernel_rfl
theorem sp11 : VE.Spec Tryd.prog gG gl 11 (conF (cOne (cA .i64 15)) (rOne (cI .i64)) (fun a => f11 a)) := spec_of ok10 Tryd.func11 Tryd.call11 1000 (cOne_ok (cA_ok _ _)) (rOne_ok (cI_ok _)) ev11
noncomputable def con11 : List (Nat × (List AV → Option ConR)) := (11, conF (cOne (cA .i64 15)) (rOne (cI .i64)) (fun a => f11 a)) :: con10
theorem sl11 : SpecL Tryd.prog gG gl con11 := ⟨sp11, sl10⟩
theorem ok11 : CtxOK Tryd.prog (cx con11) gl := ctx_of tyOk moOk sl11 fnOk

/-- num.divide -/
noncomputable def f30 (a : Int) (b : Int) : Option (Int × Int) :=
  cond (decide (b = 0)) none (
  cond (decide (b = 0)) none (
   cond (decide (a.tmod b < 0)) (
    some ((IntKind.i64.wrap (IntKind.i64.wrap (a.tdiv b) - 1), IntKind.i64.wrap (a.tmod b + b)))) (
    some ((IntKind.i64.wrap (a.tdiv b), a.tmod b)))))
theorem ev30 (a : (cCons (cI .i64) (cOne (cI .i64))).T) : evF (R := (rTup (cCons (cI .i64) (cOne (cI .i64)))).T) (cx con11) 1000 Tryd.f30 ((cCons (cI .i64) (cOne (cI .i64))).enc a) (glMem gl) gG (rTup (cCons (cI .i64) (cOne (cI .i64)))).dec = f30 a.1 a.2 := by kernel_rfl
theorem sp30 : VE.Spec Tryd.prog gG gl 30 (conF (cCons (cI .i64) (cOne (cI .i64))) (rTup (cCons (cI .i64) (cOne (cI .i64)))) (fun a => f30 a.1 a.2)) := spec_of ok11 Tryd.func30 Tryd.call30 1000 (cCons_ok (cI_ok _) (cOne_ok (cI_ok _))) (rTup_ok (cCons_ok (cI_ok _) (cOne_ok (cI_ok _)))) ev30
noncomputable def con30 : List (Nat × (List AV → Option ConR)) := (30, conF (cCons (cI .i64) (cOne (cI .i64))) (rTup (cCons (cI .i64) (cOne (cI .i64)))) (fun a => f30 a.1 a.2)) :: con11
theorem sl30 : SpecL Tryd.prog gG gl con30 := ⟨sp30, sl11⟩
theorem ok30 : CtxOK Tryd.prog (cx con30) gl := ctx_of tyOk moOk sl30 fnOk

/-- num.nearest -/
noncomputable def f27 (a : Int) (b : Int) : Option (Int) :=
  Option.bind (f30 a b) (fun r2 =>
  cond (decide (b < IntKind.i64.wrap (2 * r2.snd))) (
   some (IntKind.i64.wrap (r2.fst + 1))) (
   cond (decide (IntKind.i64.wrap (2 * r2.snd) = b)) (
    cond (!decide (r2.fst.tmod 2 = 0)) (
     some (IntKind.i64.wrap (r2.fst + 1))) (
     some (r2.fst))) (
    some (r2.fst))))
theorem ev27 (a : (cCons (cI .i64) (cOne (cI .i64))).T) : evF (R := (rOne (cI .i64)).T) (cx con30) 1000 Tryd.f27 ((cCons (cI .i64) (cOne (cI .i64))).enc a) (glMem gl) gG (rOne (cI .i64)).dec = f27 a.1 a.2 := by kernel_rfl
theorem sp27 : VE.Spec Tryd.prog gG gl 27 (conF (cCons (cI .i64) (cOne (cI .i64))) (rOne (cI .i64)) (fun a => f27 a.1 a.2)) := spec_of ok30 Tryd.func27 Tryd.call27 1000 (cCons_ok (cI_ok _) (cOne_ok (cI_ok _))) (rOne_ok (cI_ok _)) ev27
noncomputable def con27 : List (Nat × (List AV → Option ConR)) := (27, conF (cCons (cI .i64) (cOne (cI .i64))) (rOne (cI .i64)) (fun a => f27 a.1 a.2)) :: con30
theorem sl27 : SpecL Tryd.prog gG gl con27 := ⟨sp27, sl30⟩
theorem ok27 : CtxOK Tryd.prog (cx con27) gl := ctx_of tyOk moOk sl27 fnOk

/-- num.Round -/
noncomputable def f23 (a : Int) (b : Int) : Option (Int × Int) :=
  cond (decide (a < -1125899906842624)) (
  some ((0, 1))) (
  cond (decide (1125899906842624 < a)) (
   some ((0, 1))) (
   cond (decide (b < -1125899906842624)) (
    some ((0, 1))) (
    cond (decide (1125899906842624 < b)) (
     some ((0, 1))) (
     cond (decide (b = 0)) (
      some ((0, 11))) (
      cond (decide (b < 0)) (
       Option.bind (f27 (IntKind.i64.wrap (0 - a)) (IntKind.i64.wrap (0 - b))) (fun r2 =>
        some ((r2, 0)))) (
       Option.bind (f27 a b) (fun r2 =>
        some ((r2, 0)))))))))
theorem ev23 (a : (cCons (cI .i64) (cOne (cI .i64))).T) : evF (R := (rTup (cCons (cI .i64) (cOne (cI .i64)))).T) (cx con27) 1000 Tryd.f23 ((cCons (cI .i64) (cOne (cI .i64))).enc a) (glMem gl) gG (rTup (cCons (cI .i64) (cOne (cI .i64)))).dec = f23 a.1 a.2 := by kernel_rfl
theorem sp23 : VE.Spec Tryd.prog gG gl 23 (conF (cCons (cI .i64) (cOne (cI .i64))) (rTup (cCons (cI .i64) (cOne (cI .i64)))) (fun a => f23 a.1 a.2)) := spec_of ok27 Tryd.func23 Tryd.call23 1000 (cCons_ok (cI_ok _) (cOne_ok (cI_ok _))) (rTup_ok (cCons_ok (cI_ok _) (cOne_ok (cI_ok _)))) ev23
noncomputable def con23 : List (Nat × (List AV → Option ConR)) := (23, conF (cCons (cI .i64) (cOne (cI .i64))) (rTup (cCons (cI .i64) (cOne (cI .i64)))) (fun a => f23 a.1 a.2)) :: con27
theorem sl23 : SpecL Tryd.prog gG gl con23 := ⟨sp23, sl27⟩
theorem ok23 : CtxOK Tryd.prog (cx con23) gl := ctx_of tyOk moOk sl23 fnOk

/-- build.Step -/
noncomputable def f13 (a : Nat → Int) (b : Int) : Option ((Nat → Int) × Int) :=
  Option.bind (f11 a) (fun r2 =>
  cond (!decide (r2 = 0)) (
   some ((nthI [0, 0], r2))) (
   cond (decide (b < 0)) (
    some ((nthI [0, 0], 1))) (
    cond (decide (7 < b)) (
     some ((nthI [0, 0], 1))) (
     Option.bind (f23 (IntKind.i64.wrap (a 6 * 11585)) 16384) (fun r3 =>
      cond (!decide (r3.snd = 0)) (
       some ((nthI [0, 0], r3.snd))) (
       cond (decide (b.tmod 2 = 1)) (
        cond (decide (0 < IntKind.i64.wrap (b.tdiv 2))) (
         cond (decide (1 < IntKind.i64.wrap (b.tdiv 2))) (
          cond (decide (2 < IntKind.i64.wrap (b.tdiv 2))) (
           cond (decide (3 < IntKind.i64.wrap (b.tdiv 2))) none (
            some ((nthI [IntKind.i64.wrap (0 - r3.fst), IntKind.i64.wrap (0 - IntKind.i64.wrap (0 - r3.fst))], 0)))) (
           some ((nthI [IntKind.i64.wrap (0 - r3.fst), IntKind.i64.wrap (0 - r3.fst)], 0)))) (
          some ((nthI [r3.fst, IntKind.i64.wrap (0 - r3.fst)], 0)))) (
         some ((nthI [r3.fst, r3.fst], 0)))) (
        cond (decide (0 < IntKind.i64.wrap (b.tdiv 2))) (
         cond (decide (1 < IntKind.i64.wrap (b.tdiv 2))) (
          cond (decide (2 < IntKind.i64.wrap (b.tdiv 2))) (
           cond (decide (3 < IntKind.i64.wrap (b.tdiv 2))) none (
            some ((nthI [IntKind.i64.wrap (0 - a 6), 0], 0)))) (
           some ((nthI [0, IntKind.i64.wrap (0 - a 6)], 0)))) (
          some ((nthI [a 6, 0], 0)))) (
         some ((nthI [0, a 6], 0))))))))))
theorem ev13 (a : (cCons (cA .i64 15) (cOne (cI .i64))).T) : evF (R := (rTup (cCons (cA .i64 2) (cOne (cI .i64)))).T) (cx con23) 18 Tryd.f13 ((cCons (cA .i64 15) (cOne (cI .i64))).enc a) (glMem gl) gG (rTup (cCons (cA .i64 2) (cOne (cI .i64)))).dec = f13 a.1 a.2 := by kernel_rfl
theorem sp13 : VE.Spec Tryd.prog gG gl 13 (conF (cCons (cA .i64 15) (cOne (cI .i64))) (rTup (cCons (cA .i64 2) (cOne (cI .i64)))) (fun a => f13 a.1 a.2)) := spec_of ok23 Tryd.func13 Tryd.call13 18 (cCons_ok (cA_ok _ _) (cOne_ok (cI_ok _))) (rTup_ok (cCons_ok (cA_ok _ _) (cOne_ok (cI_ok _)))) ev13
noncomputable def con13 : List (Nat × (List AV → Option ConR)) := (13, conF (cCons (cA .i64 15) (cOne (cI .i64))) (rTup (cCons (cA .i64 2) (cOne (cI .i64)))) (fun a => f13 a.1 a.2)) :: con23
theorem sl13 : SpecL Tryd.prog gG gl con13 := ⟨sp13, sl23⟩
theorem ok13 : CtxOK Tryd.prog (cx con13) gl := ctx_of tyOk moOk sl13 fnOk

/-- build.Mass -/
noncomputable def f14 (a : Nat → Int) : Option (Int × Int) :=
  Option.bind (f11 a) (fun r1 =>
  cond (!decide (r1 = 0)) (
   some ((0, r1))) (
   some ((IntKind.i64.wrap (IntKind.i64.wrap (IntKind.i64.wrap (a 11 + a 12) + IntKind.i64.wrap (2 * a 13)) + IntKind.i64.wrap (2 * a 14)), 0))))
theorem ev14 (a : (cOne (cA .i64 15)).T) : evF (R := (rTup (cCons (cI .i64) (cOne (cI .i64)))).T) (cx con13) 1000 Tryd.f14 ((cOne (cA .i64 15)).enc a) (glMem gl) gG (rTup (cCons (cI .i64) (cOne (cI .i64)))).dec = f14 a := by kernel_rfl
theorem sp14 : VE.Spec Tryd.prog gG gl 14 (conF (cOne (cA .i64 15)) (rTup (cCons (cI .i64) (cOne (cI .i64)))) (fun a => f14 a)) := spec_of ok13 Tryd.func14 Tryd.call14 1000 (cOne_ok (cA_ok _ _)) (rTup_ok (cCons_ok (cI_ok _) (cOne_ok (cI_ok _)))) ev14
noncomputable def con14 : List (Nat × (List AV → Option ConR)) := (14, conF (cOne (cA .i64 15)) (rTup (cCons (cI .i64) (cOne (cI .i64)))) (fun a => f14 a)) :: con13
theorem sl14 : SpecL Tryd.prog gG gl con14 := ⟨sp14, sl13⟩
theorem ok14 : CtxOK Tryd.prog (cx con14) gl := ctx_of tyOk moOk sl14 fnOk

/-- build.Scaled -/
noncomputable def f15 (a : Nat → Int) (b : Int) : Option ((Nat → Int) × Int) :=
  Option.bind (f11 a) (fun r2 =>
  cond (!decide (r2 = 0)) (
   some ((nthI tab0, r2))) (
   cond (decide (b < 500)) (
    some ((nthI tab0, 1))) (
    cond (decide (2000 < b)) (
     some ((nthI tab0, 1))) (
     Option.bind (f23 (IntKind.i64.wrap (a 0 * b)) 1000) (fun r3 =>
      cond (!decide (r3.snd = 0)) (
       some ((nthI tab0, r3.snd))) (
       Option.bind (f23 (IntKind.i64.wrap (a 1 * b)) 1000) (fun r4 =>
        cond (!decide (r4.snd = 0)) (
         some ((nthI tab0, r4.snd))) (
         Option.bind (f23 (IntKind.i64.wrap (a 2 * b)) 1000) (fun r5 =>
          cond (!decide (r5.snd = 0)) (
           some ((nthI tab0, r5.snd))) (
           Option.bind (f23 (IntKind.i64.wrap (a 3 * b)) 1000) (fun r6 =>
            cond (!decide (r6.snd = 0)) (
             some ((nthI tab0, r6.snd))) (
             Option.bind (f23 (IntKind.i64.wrap (a 4 * b)) 1000) (fun r7 =>
              cond (!decide (r7.snd = 0)) (
               some ((nthI tab0, r7.snd))) (
               Option.bind (f23 (IntKind.i64.wrap (a 5 * b)) 1000) (fun r8 =>
                cond (!decide (r8.snd = 0)) (
                 some ((nthI tab0, r8.snd))) (
                 Option.bind (f23 (IntKind.i64.wrap (a 6 * b)) 1000) (fun r9 =>
                  cond (!decide (r9.snd = 0)) (
                   some ((nthI tab0, r9.snd))) (
                   Option.bind (f23 (IntKind.i64.wrap (a 7 * b)) 1000) (fun r10 =>
                    cond (!decide (r10.snd = 0)) (
                     some ((nthI tab0, r10.snd))) (
                     Option.bind (f23 (IntKind.i64.wrap (a 8 * b)) 1000) (fun r11 =>
                      cond (!decide (r11.snd = 0)) (
                       some ((nthI tab0, r11.snd))) (
                       Option.bind (f23 (IntKind.i64.wrap (a 9 * b)) 1000) (fun r12 =>
                        cond (!decide (r12.snd = 0)) (
                         some ((nthI tab0, r12.snd))) (
                         Option.bind (f23 (IntKind.i64.wrap (a 10 * b)) 1000) (fun r13 =>
                          cond (!decide (r13.snd = 0)) (
                           some ((nthI tab0, r13.snd))) (
                           Option.bind (f11 (nthI [r3.fst, r4.fst, r5.fst, r6.fst, r7.fst, r8.fst, r9.fst, r10.fst, r11.fst, r12.fst, r13.fst, a 11, a 12, a 13, a 14])) (fun r14 =>
                            cond (!decide (r14 = 0)) (
                             some ((nthI tab0, r14))) (
                             some ((nthI [r3.fst, r4.fst, r5.fst, r6.fst, r7.fst, r8.fst, r9.fst, r10.fst, r11.fst, r12.fst, r13.fst, a 11, a 12, a 13, a 14], 0))))))))))))))))))))))))))))))
theorem ev15 (a : (cCons (cA .i64 15) (cOne (cI .i64))).T) : evF (R := (rTup (cCons (cA .i64 15) (cOne (cI .i64)))).T) (cx con14) 1000 Tryd.f15 ((cCons (cA .i64 15) (cOne (cI .i64))).enc a) (glMem gl) gG (rTup (cCons (cA .i64 15) (cOne (cI .i64)))).dec = f15 a.1 a.2 := by kernel_rfl
theorem sp15 : VE.Spec Tryd.prog gG gl 15 (conF (cCons (cA .i64 15) (cOne (cI .i64))) (rTup (cCons (cA .i64 15) (cOne (cI .i64)))) (fun a => f15 a.1 a.2)) := spec_of ok14 Tryd.func15 Tryd.call15 1000 (cCons_ok (cA_ok _ _) (cOne_ok (cI_ok _))) (rTup_ok (cCons_ok (cA_ok _ _) (cOne_ok (cI_ok _)))) ev15
noncomputable def con15 : List (Nat × (List AV → Option ConR)) := (15, conF (cCons (cA .i64 15) (cOne (cI .i64))) (rTup (cCons (cA .i64 15) (cOne (cI .i64)))) (fun a => f15 a.1 a.2)) :: con14
theorem sl15 : SpecL Tryd.prog gG gl con15 := ⟨sp15, sl14⟩
theorem ok15 : CtxOK Tryd.prog (cx con15) gl := ctx_of tyOk moOk sl15 fnOk

/-- dancestudiolaw17.body -/
noncomputable def f22  : Option ((Nat → Int)) :=
  some (nthI tab1)
theorem ev22 (a : (cNil).T) : evF (R := (rOne (cA .i64 15)).T) (cx con15) 1000 Tryd.f22 ((cNil).enc a) (glMem gl) gG (rOne (cA .i64 15)).dec = f22 := by kernel_rfl
theorem sp22 : VE.Spec Tryd.prog gG gl 22 (conF (cNil) (rOne (cA .i64 15)) (fun a => f22)) := spec_of ok15 Tryd.func22 Tryd.call22 1000 (cNil_ok) (rOne_ok (cA_ok _ _)) ev22
noncomputable def con22 : List (Nat × (List AV → Option ConR)) := (22, conF (cNil) (rOne (cA .i64 15)) (fun a => f22)) :: con15
theorem sl22 : SpecL Tryd.prog gG gl con22 := ⟨sp22, sl15⟩
theorem ok22 : CtxOK Tryd.prog (cx con22) gl := ctx_of tyOk moOk sl22 fnOk

/-- dancestudiolaw17.awake -/
noncomputable def f12  : Option (Bool) :=
  some (true)
theorem ev12 (a : (cNil).T) : evF (R := (rOne (cB)).T) (cx con22) 1000 Tryd.f12 ((cNil).enc a) (glMem gl) gG (rOne (cB)).dec = f12 := by kernel_rfl
theorem sp12 : VE.Spec Tryd.prog gG gl 12 (conF (cNil) (rOne (cB)) (fun a => f12)) := spec_of ok22 Tryd.func12 Tryd.call12 1000 (cNil_ok) (rOne_ok (cB_ok)) ev12
noncomputable def con12 : List (Nat × (List AV → Option ConR)) := (12, conF (cNil) (rOne (cB)) (fun a => f12)) :: con22
theorem sl12 : SpecL Tryd.prog gG gl con12 := ⟨sp12, sl22⟩
theorem ok12 : CtxOK Tryd.prog (cx con12) gl := ctx_of tyOk moOk sl12 fnOk

/-- dancestudiolaw17.BuildCheck -/
noncomputable def f3 (a : Nat → Int) (b : Int) : Option (Bool) :=
  Option.bind (f10 a) (fun r2 =>
  Option.bind (f11 a) (fun r3 =>
   cond (!decide (r3 = r2)) (
    some (false)) (
    cond (decide (r2 = 0)) (
     some (true)) (
     Option.bind (f13 a b) (fun r4 =>
      Option.bind (f14 a) (fun r5 =>
       Option.bind (f15 a b) (fun r6 =>
        cond (decide (r4.fst 0 = 0) && decide (r4.fst 1 = 0)) (
         cond (decide (r4.snd = r2)) (
          cond (decide (r5.fst = 0)) (
           cond (decide (r5.snd = r2)) (
            cond (decide (r6.fst 0 = 0) && (decide (r6.fst 1 = 0) && (decide (r6.fst 2 = 0) && (decide (r6.fst 3 = 0) && (decide (r6.fst 4 = 0) && (decide (r6.fst 5 = 0) && (decide (r6.fst 6 = 0) && (decide (r6.fst 7 = 0) && (decide (r6.fst 8 = 0) && (decide (r6.fst 9 = 0) && (decide (r6.fst 10 = 0) && (decide (r6.fst 11 = 0) && (decide (r6.fst 12 = 0) && (decide (r6.fst 13 = 0) && decide (r6.fst 14 = 0))))))))))))))) (
             cond (decide (r6.snd = r2)) (
              some (true)) (
              some (false))) (
             some (false))) (
            some (false))) (
           some (false))) (
          some (false))) (
         some (false)))))))))
theorem ev3 (a : (cCons (cA .i64 15) (cOne (cI .i64))).T) : evF (R := (rOne (cB)).T) (cx con12) 1000 Tryd.f3 ((cCons (cA .i64 15) (cOne (cI .i64))).enc a) (glMem gl) gG (rOne (cB)).dec = f3 a.1 a.2 := by kernel_rfl
theorem sp3 : VE.Spec Tryd.prog gG gl 3 (conF (cCons (cA .i64 15) (cOne (cI .i64))) (rOne (cB)) (fun a => f3 a.1 a.2)) := spec_of ok12 Tryd.func3 Tryd.call3 1000 (cCons_ok (cA_ok _ _) (cOne_ok (cI_ok _))) (rOne_ok (cB_ok)) ev3
noncomputable def con3 : List (Nat × (List AV → Option ConR)) := (3, conF (cCons (cA .i64 15) (cOne (cI .i64))) (rOne (cB)) (fun a => f3 a.1 a.2)) :: con12
theorem sl3 : SpecL Tryd.prog gG gl con3 := ⟨sp3, sl12⟩
theorem ok3 : CtxOK Tryd.prog (cx con3) gl := ctx_of tyOk moOk sl3 fnOk

/-- dancestudioref01.Small -/
noncomputable def f28 (a : Int) : Option (Bool) :=
  cond (decide (-1125899906842624 ≤ a)) (
  some (decide (a ≤ 1125899906842624))) (
  some (false))
theorem ev28 (a : (cOne (cI .i64)).T) : evF (R := (rOne (cB)).T) (cx con3) 1000 Tryd.f28 ((cOne (cI .i64)).enc a) (glMem gl) gG (rOne (cB)).dec = f28 a := by kernel_rfl
theorem sp28 : VE.Spec Tryd.prog gG gl 28 (conF (cOne (cI .i64)) (rOne (cB)) (fun a => f28 a)) := spec_of ok3 Tryd.func28 Tryd.call28 1000 (cOne_ok (cI_ok _)) (rOne_ok (cB_ok)) ev28
noncomputable def con28 : List (Nat × (List AV → Option ConR)) := (28, conF (cOne (cI .i64)) (rOne (cB)) (fun a => f28 a)) :: con3
theorem sl28 : SpecL Tryd.prog gG gl con28 := ⟨sp28, sl3⟩
theorem ok28 : CtxOK Tryd.prog (cx con28) gl := ctx_of tyOk moOk sl28 fnOk

/-- dancestudioref01.down -/
noncomputable def f31 (a : Int) (b : Int) : Option (Int × Int) :=
  cond (decide (b = 0)) none (
  cond (decide (b = 0)) none (
   cond (decide (a.tmod b < 0)) (
    some ((IntKind.i64.wrap (IntKind.i64.wrap (a.tdiv b) - 1), IntKind.i64.wrap (a.tmod b + b)))) (
    some ((IntKind.i64.wrap (a.tdiv b), a.tmod b)))))
theorem ev31 (a : (cCons (cI .i64) (cOne (cI .i64))).T) : evF (R := (rTup (cCons (cI .i64) (cOne (cI .i64)))).T) (cx con28) 1000 Tryd.f31 ((cCons (cI .i64) (cOne (cI .i64))).enc a) (glMem gl) gG (rTup (cCons (cI .i64) (cOne (cI .i64)))).dec = f31 a.1 a.2 := by kernel_rfl
theorem sp31 : VE.Spec Tryd.prog gG gl 31 (conF (cCons (cI .i64) (cOne (cI .i64))) (rTup (cCons (cI .i64) (cOne (cI .i64)))) (fun a => f31 a.1 a.2)) := spec_of ok28 Tryd.func31 Tryd.call31 1000 (cCons_ok (cI_ok _) (cOne_ok (cI_ok _))) (rTup_ok (cCons_ok (cI_ok _) (cOne_ok (cI_ok _)))) ev31
noncomputable def con31 : List (Nat × (List AV → Option ConR)) := (31, conF (cCons (cI .i64) (cOne (cI .i64))) (rTup (cCons (cI .i64) (cOne (cI .i64)))) (fun a => f31 a.1 a.2)) :: con28
theorem sl31 : SpecL Tryd.prog gG gl con31 := ⟨sp31, sl28⟩
theorem ok31 : CtxOK Tryd.prog (cx con31) gl := ctx_of tyOk moOk sl31 fnOk

/-- dancestudioref01.nearest -/
noncomputable def f29 (a : Int) (b : Int) : Option (Int) :=
  Option.bind (f31 a b) (fun r2 =>
  cond (decide (IntKind.i64.wrap (b - r2.snd) < r2.snd)) (
   some (IntKind.i64.wrap (r2.fst + 1))) (
   cond (decide (r2.snd = IntKind.i64.wrap (b - r2.snd))) (
    cond (!decide (r2.fst.tmod 2 = 0)) (
     some (IntKind.i64.wrap (r2.fst + 1))) (
     some (r2.fst))) (
    some (r2.fst))))
theorem ev29 (a : (cCons (cI .i64) (cOne (cI .i64))).T) : evF (R := (rOne (cI .i64)).T) (cx con31) 1000 Tryd.f29 ((cCons (cI .i64) (cOne (cI .i64))).enc a) (glMem gl) gG (rOne (cI .i64)).dec = f29 a.1 a.2 := by kernel_rfl
theorem sp29 : VE.Spec Tryd.prog gG gl 29 (conF (cCons (cI .i64) (cOne (cI .i64))) (rOne (cI .i64)) (fun a => f29 a.1 a.2)) := spec_of ok31 Tryd.func29 Tryd.call29 1000 (cCons_ok (cI_ok _) (cOne_ok (cI_ok _))) (rOne_ok (cI_ok _)) ev29
noncomputable def con29 : List (Nat × (List AV → Option ConR)) := (29, conF (cCons (cI .i64) (cOne (cI .i64))) (rOne (cI .i64)) (fun a => f29 a.1 a.2)) :: con31
theorem sl29 : SpecL Tryd.prog gG gl con29 := ⟨sp29, sl31⟩
theorem ok29 : CtxOK Tryd.prog (cx con29) gl := ctx_of tyOk moOk sl29 fnOk

/-- dancestudioref01.Round -/
noncomputable def f24 (a : Int) (b : Int) : Option (Int × Int) :=
  Option.bind (f28 a) (fun r2 =>
  cond (!r2) (
   some ((0, 1))) (
   Option.bind (f28 b) (fun r3 =>
    cond (!r3) (
     some ((0, 1))) (
     cond (decide (b = 0)) (
      some ((0, 11))) (
      cond (decide (b < 0)) (
       Option.bind (f29 (IntKind.i64.wrap (0 - a)) (IntKind.i64.wrap (0 - b))) (fun r4 =>
        some ((r4, 0)))) (
       Option.bind (f29 a b) (fun r4 =>
        some ((r4, 0)))))))))
theorem ev24 (a : (cCons (cI .i64) (cOne (cI .i64))).T) : evF (R := (rTup (cCons (cI .i64) (cOne (cI .i64)))).T) (cx con29) 1000 Tryd.f24 ((cCons (cI .i64) (cOne (cI .i64))).enc a) (glMem gl) gG (rTup (cCons (cI .i64) (cOne (cI .i64)))).dec = f24 a.1 a.2 := by kernel_rfl
theorem sp24 : VE.Spec Tryd.prog gG gl 24 (conF (cCons (cI .i64) (cOne (cI .i64))) (rTup (cCons (cI .i64) (cOne (cI .i64)))) (fun a => f24 a.1 a.2)) := spec_of ok29 Tryd.func24 Tryd.call24 1000 (cCons_ok (cI_ok _) (cOne_ok (cI_ok _))) (rTup_ok (cCons_ok (cI_ok _) (cOne_ok (cI_ok _)))) ev24
noncomputable def con24 : List (Nat × (List AV → Option ConR)) := (24, conF (cCons (cI .i64) (cOne (cI .i64))) (rTup (cCons (cI .i64) (cOne (cI .i64)))) (fun a => f24 a.1 a.2)) :: con29
theorem sl24 : SpecL Tryd.prog gG gl con24 := ⟨sp24, sl29⟩
theorem ok24 : CtxOK Tryd.prog (cx con24) gl := ctx_of tyOk moOk sl24 fnOk

/-- dancestudioref17.Step -/
noncomputable def f16 (a : Nat → Int) (b : Int) : Option ((Nat → Int) × Int) :=
  Option.bind (f10 a) (fun r2 =>
  cond (!decide (r2 = 0)) (
   some ((nthI [0, 0], r2))) (
   cond (decide (b < 0)) (
    some ((nthI [0, 0], 1))) (
    cond (decide (7 < b)) (
     some ((nthI [0, 0], 1))) (
     Option.bind (f24 (IntKind.i64.wrap (a 6 * 11585)) 16384) (fun r3 =>
      cond (decide (0 ≤ b)) (
       cond (decide (b < 8)) (
        some ((nthI [[0, r3.fst, a 6, r3.fst, 0, IntKind.i64.wrap (0 - r3.fst), IntKind.i64.wrap (0 - a 6), IntKind.i64.wrap (0 - r3.fst)].getD b.toNat 0, [a 6, r3.fst, 0, IntKind.i64.wrap (0 - r3.fst), IntKind.i64.wrap (0 - a 6), IntKind.i64.wrap (0 - r3.fst), 0, r3.fst].getD b.toNat 0], 0))) none) none)))))
theorem ev16 (a : (cCons (cA .i64 15) (cOne (cI .i64))).T) : evF (R := (rTup (cCons (cA .i64 2) (cOne (cI .i64)))).T) (cx con24) 1000 Tryd.f16 ((cCons (cA .i64 15) (cOne (cI .i64))).enc a) (glMem gl) gG (rTup (cCons (cA .i64 2) (cOne (cI .i64)))).dec = f16 a.1 a.2 := by kernel_rfl
theorem sp16 : VE.Spec Tryd.prog gG gl 16 (conF (cCons (cA .i64 15) (cOne (cI .i64))) (rTup (cCons (cA .i64 2) (cOne (cI .i64)))) (fun a => f16 a.1 a.2)) := spec_of ok24 Tryd.func16 Tryd.call16 1000 (cCons_ok (cA_ok _ _) (cOne_ok (cI_ok _))) (rTup_ok (cCons_ok (cA_ok _ _) (cOne_ok (cI_ok _)))) ev16
noncomputable def con16 : List (Nat × (List AV → Option ConR)) := (16, conF (cCons (cA .i64 15) (cOne (cI .i64))) (rTup (cCons (cA .i64 2) (cOne (cI .i64)))) (fun a => f16 a.1 a.2)) :: con24
theorem sl16 : SpecL Tryd.prog gG gl con16 := ⟨sp16, sl24⟩
theorem ok16 : CtxOK Tryd.prog (cx con16) gl := ctx_of tyOk moOk sl16 fnOk

/-- dancestudiolaw17.BuildStep -/
noncomputable def f4 (a : Nat → Int) (b : Int) : Option (Bool) :=
  Option.bind (f13 a b) (fun r2 =>
  Option.bind (f16 a b) (fun r3 =>
   cond (decide (r2.fst 0 = r3.fst 0) && decide (r2.fst 1 = r3.fst 1)) (
    cond (decide (r2.snd = r3.snd)) (
     some (true)) (
     some (false))) (
    some (false))))
theorem ev4 (a : (cCons (cA .i64 15) (cOne (cI .i64))).T) : evF (R := (rOne (cB)).T) (cx con16) 1000 Tryd.f4 ((cCons (cA .i64 15) (cOne (cI .i64))).enc a) (glMem gl) gG (rOne (cB)).dec = f4 a.1 a.2 := by kernel_rfl
theorem sp4 : VE.Spec Tryd.prog gG gl 4 (conF (cCons (cA .i64 15) (cOne (cI .i64))) (rOne (cB)) (fun a => f4 a.1 a.2)) := spec_of ok16 Tryd.func4 Tryd.call4 1000 (cCons_ok (cA_ok _ _) (cOne_ok (cI_ok _))) (rOne_ok (cB_ok)) ev4
noncomputable def con4 : List (Nat × (List AV → Option ConR)) := (4, conF (cCons (cA .i64 15) (cOne (cI .i64))) (rOne (cB)) (fun a => f4 a.1 a.2)) :: con16
theorem sl4 : SpecL Tryd.prog gG gl con4 := ⟨sp4, sl16⟩
theorem ok4 : CtxOK Tryd.prog (cx con4) gl := ctx_of tyOk moOk sl4 fnOk

/-- dancestudioref17.Mass -/
noncomputable def f17 (a : Nat → Int) : Option (Int × Int) :=
  Option.bind (f10 a) (fun r1 =>
  cond (!decide (r1 = 0)) (
   some ((0, r1))) (
   some ((IntKind.i64.wrap (IntKind.i64.wrap (IntKind.i64.wrap (a 11 + a 12) + IntKind.i64.wrap (2 * a 13)) + IntKind.i64.wrap (2 * a 14)), 0))))
theorem ev17 (a : (cOne (cA .i64 15)).T) : evF (R := (rTup (cCons (cI .i64) (cOne (cI .i64)))).T) (cx con4) 1000 Tryd.f17 ((cOne (cA .i64 15)).enc a) (glMem gl) gG (rTup (cCons (cI .i64) (cOne (cI .i64)))).dec = f17 a := by kernel_rfl
theorem sp17 : VE.Spec Tryd.prog gG gl 17 (conF (cOne (cA .i64 15)) (rTup (cCons (cI .i64) (cOne (cI .i64)))) (fun a => f17 a)) := spec_of ok4 Tryd.func17 Tryd.call17 1000 (cOne_ok (cA_ok _ _)) (rTup_ok (cCons_ok (cI_ok _) (cOne_ok (cI_ok _)))) ev17
noncomputable def con17 : List (Nat × (List AV → Option ConR)) := (17, conF (cOne (cA .i64 15)) (rTup (cCons (cI .i64) (cOne (cI .i64)))) (fun a => f17 a)) :: con4
theorem sl17 : SpecL Tryd.prog gG gl con17 := ⟨sp17, sl4⟩
theorem ok17 : CtxOK Tryd.prog (cx con17) gl := ctx_of tyOk moOk sl17 fnOk

/-- dancestudiolaw17.BuildMass -/
noncomputable def f5 (a : Nat → Int) : Option (Bool) :=
  Option.bind (f14 a) (fun r1 =>
  Option.bind (f17 a) (fun r2 =>
   cond (decide (r1.fst = r2.fst)) (
    cond (decide (r1.snd = r2.snd)) (
     some (true)) (
     some (false))) (
    some (false))))
theorem ev5 (a : (cOne (cA .i64 15)).T) : evF (R := (rOne (cB)).T) (cx con17) 1000 Tryd.f5 ((cOne (cA .i64 15)).enc a) (glMem gl) gG (rOne (cB)).dec = f5 a := by kernel_rfl
theorem sp5 : VE.Spec Tryd.prog gG gl 5 (conF (cOne (cA .i64 15)) (rOne (cB)) (fun a => f5 a)) := spec_of ok17 Tryd.func5 Tryd.call5 1000 (cOne_ok (cA_ok _ _)) (rOne_ok (cB_ok)) ev5
noncomputable def con5 : List (Nat × (List AV → Option ConR)) := (5, conF (cOne (cA .i64 15)) (rOne (cB)) (fun a => f5 a)) :: con17
theorem sl5 : SpecL Tryd.prog gG gl con5 := ⟨sp5, sl17⟩
theorem ok5 : CtxOK Tryd.prog (cx con5) gl := ctx_of tyOk moOk sl5 fnOk

/-- dancestudioref17.scaled -/
noncomputable def f25 (a : Int) (b : Int) : Option (Int) :=
  Option.bind (f24 (IntKind.i64.wrap (a * b)) 1000) (fun r2 =>
  some (r2.fst))
theorem ev25 (a : (cCons (cI .i64) (cOne (cI .i64))).T) : evF (R := (rOne (cI .i64)).T) (cx con5) 1000 Tryd.f25 ((cCons (cI .i64) (cOne (cI .i64))).enc a) (glMem gl) gG (rOne (cI .i64)).dec = f25 a.1 a.2 := by kernel_rfl
theorem sp25 : VE.Spec Tryd.prog gG gl 25 (conF (cCons (cI .i64) (cOne (cI .i64))) (rOne (cI .i64)) (fun a => f25 a.1 a.2)) := spec_of ok5 Tryd.func25 Tryd.call25 1000 (cCons_ok (cI_ok _) (cOne_ok (cI_ok _))) (rOne_ok (cI_ok _)) ev25
noncomputable def con25 : List (Nat × (List AV → Option ConR)) := (25, conF (cCons (cI .i64) (cOne (cI .i64))) (rOne (cI .i64)) (fun a => f25 a.1 a.2)) :: con5
theorem sl25 : SpecL Tryd.prog gG gl con25 := ⟨sp25, sl5⟩
theorem ok25 : CtxOK Tryd.prog (cx con25) gl := ctx_of tyOk moOk sl25 fnOk

/-- dancestudioref17.Scaled -/
noncomputable def f18 (a : Nat → Int) (b : Int) : Option ((Nat → Int) × Int) :=
  Option.bind (f10 a) (fun r2 =>
  cond (!decide (r2 = 0)) (
   some ((nthI tab0, r2))) (
   cond (decide (b < 500)) (
    some ((nthI tab0, 1))) (
    cond (decide (2000 < b)) (
     some ((nthI tab0, 1))) (
     Option.bind (f25 (a 0) b) (fun r3 =>
      Option.bind (f25 (a 1) b) (fun r4 =>
       Option.bind (f25 (a 2) b) (fun r5 =>
        Option.bind (f25 (a 3) b) (fun r6 =>
         Option.bind (f25 (a 4) b) (fun r7 =>
          Option.bind (f25 (a 5) b) (fun r8 =>
           Option.bind (f25 (a 6) b) (fun r9 =>
            Option.bind (f25 (a 7) b) (fun r10 =>
             Option.bind (f25 (a 8) b) (fun r11 =>
              Option.bind (f25 (a 9) b) (fun r12 =>
               Option.bind (f25 (a 10) b) (fun r13 =>
                Option.bind (f10 (nthI [r3, r4, r5, r6, r7, r8, r9, r10, r11, r12, r13, a 11, a 12, a 13, a 14])) (fun r14 =>
                 cond (!decide (r14 = 0)) (
                  some ((nthI tab0, r14))) (
                  some ((nthI [r3, r4, r5, r6, r7, r8, r9, r10, r11, r12, r13, a 11, a 12, a 13, a 14], 0)))))))))))))))))))
theorem ev18 (a : (cCons (cA .i64 15) (cOne (cI .i64))).T) : evF (R := (rTup (cCons (cA .i64 15) (cOne (cI .i64)))).T) (cx con25) 1000 Tryd.f18 ((cCons (cA .i64 15) (cOne (cI .i64))).enc a) (glMem gl) gG (rTup (cCons (cA .i64 15) (cOne (cI .i64)))).dec = f18 a.1 a.2 := by kernel_rfl
theorem sp18 : VE.Spec Tryd.prog gG gl 18 (conF (cCons (cA .i64 15) (cOne (cI .i64))) (rTup (cCons (cA .i64 15) (cOne (cI .i64)))) (fun a => f18 a.1 a.2)) := spec_of ok25 Tryd.func18 Tryd.call18 1000 (cCons_ok (cA_ok _ _) (cOne_ok (cI_ok _))) (rTup_ok (cCons_ok (cA_ok _ _) (cOne_ok (cI_ok _)))) ev18
noncomputable def con18 : List (Nat × (List AV → Option ConR)) := (18, conF (cCons (cA .i64 15) (cOne (cI .i64))) (rTup (cCons (cA .i64 15) (cOne (cI .i64)))) (fun a => f18 a.1 a.2)) :: con25
theorem sl18 : SpecL Tryd.prog gG gl con18 := ⟨sp18, sl25⟩
theorem ok18 : CtxOK Tryd.prog (cx con18) gl := ctx_of tyOk moOk sl18 fnOk

/-- dancestudiolaw17.BuildScaled -/
noncomputable def f6 (a : Nat → Int) (b : Int) : Option (Bool) :=
  Option.bind (f15 a b) (fun r2 =>
  Option.bind (f18 a b) (fun r3 =>
   cond (decide (r2.fst 0 = r3.fst 0) && (decide (r2.fst 1 = r3.fst 1) && (decide (r2.fst 2 = r3.fst 2) && (decide (r2.fst 3 = r3.fst 3) && (decide (r2.fst 4 = r3.fst 4) && (decide (r2.fst 5 = r3.fst 5) && (decide (r2.fst 6 = r3.fst 6) && (decide (r2.fst 7 = r3.fst 7) && (decide (r2.fst 8 = r3.fst 8) && (decide (r2.fst 9 = r3.fst 9) && (decide (r2.fst 10 = r3.fst 10) && (decide (r2.fst 11 = r3.fst 11) && (decide (r2.fst 12 = r3.fst 12) && (decide (r2.fst 13 = r3.fst 13) && decide (r2.fst 14 = r3.fst 14))))))))))))))) (
    cond (decide (r2.snd = r3.snd)) (
     some (true)) (
     some (false))) (
    some (false))))
theorem ev6 (a : (cCons (cA .i64 15) (cOne (cI .i64))).T) : evF (R := (rOne (cB)).T) (cx con18) 1000 Tryd.f6 ((cCons (cA .i64 15) (cOne (cI .i64))).enc a) (glMem gl) gG (rOne (cB)).dec = f6 a.1 a.2 := by kernel_rfl
theorem sp6 : VE.Spec Tryd.prog gG gl 6 (conF (cCons (cA .i64 15) (cOne (cI .i64))) (rOne (cB)) (fun a => f6 a.1 a.2)) := spec_of ok18 Tryd.func6 Tryd.call6 1000 (cCons_ok (cA_ok _ _) (cOne_ok (cI_ok _))) (rOne_ok (cB_ok)) ev6
noncomputable def con6 : List (Nat × (List AV → Option ConR)) := (6, conF (cCons (cA .i64 15) (cOne (cI .i64))) (rOne (cB)) (fun a => f6 a.1 a.2)) :: con18
theorem sl6 : SpecL Tryd.prog gG gl con6 := ⟨sp6, sl18⟩
theorem ok6 : CtxOK Tryd.prog (cx con6) gl := ctx_of tyOk moOk sl6 fnOk

/-- dancestudiolaw17.BuildSteps -/
noncomputable def f7 (a : Nat → Int) (b : Int) : Option (Bool) :=
  Option.bind (f11 a) (fun r2 =>
  cond (!decide (r2 = 0)) (
   some (true)) (
   Option.bind (f13 a (IntKind.i64.wrap (b.tmod 8))) (fun r3 =>
    Option.bind (f13 a ((IntKind.i64.wrap (IntKind.i64.wrap (b.tmod 8) + 4)).tmod 8)) (fun r4 =>
     Option.bind (f13 a ((IntKind.i64.wrap (IntKind.i64.wrap (b.tmod 8) + 2)).tmod 8)) (fun r5 =>
      Option.bind (f13 a ((IntKind.i64.wrap (8 - IntKind.i64.wrap (b.tmod 8))).tmod 8)) (fun r6 =>
       cond (!decide (r3.snd = 0)) (
        some (false)) (
        cond (!decide (r4.snd = 0)) (
         some (false)) (
         cond (!decide (r5.snd = 0)) (
          some (false)) (
          cond (!decide (r6.snd = 0)) (
           some (false)) (
           cond (decide (r4.fst 0 = IntKind.i64.wrap (0 - r3.fst 0))) (
            cond (decide (r4.fst 1 = IntKind.i64.wrap (0 - r3.fst 1))) (
             cond (decide (r5.fst 0 = r3.fst 1)) (
              cond (decide (r5.fst 1 = IntKind.i64.wrap (0 - r3.fst 0))) (
               cond (decide (r6.fst 0 = IntKind.i64.wrap (0 - r3.fst 0))) (
                cond (decide (r6.fst 1 = r3.fst 1)) (
                 some (true)) (
                 some (false))) (
                some (false))) (
               some (false))) (
              some (false))) (
             some (false))) (
            some (false))))))))))))
theorem ev7 (a : (cCons (cA .i64 15) (cOne (cI .u8))).T) : evF (R := (rOne (cB)).T) (cx con6) 1000 Tryd.f7 ((cCons (cA .i64 15) (cOne (cI .u8))).enc a) (glMem gl) gG (rOne (cB)).dec = f7 a.1 a.2 := by kernel_rfl
theorem sp7 : VE.Spec Tryd.prog gG gl 7 (conF (cCons (cA .i64 15) (cOne (cI .u8))) (rOne (cB)) (fun a => f7 a.1 a.2)) := spec_of ok6 Tryd.func7 Tryd.call7 1000 (cCons_ok (cA_ok _ _) (cOne_ok (cI_ok _))) (rOne_ok (cB_ok)) ev7
noncomputable def con7 : List (Nat × (List AV → Option ConR)) := (7, conF (cCons (cA .i64 15) (cOne (cI .u8))) (rOne (cB)) (fun a => f7 a.1 a.2)) :: con6
theorem sl7 : SpecL Tryd.prog gG gl con7 := ⟨sp7, sl6⟩
theorem ok7 : CtxOK Tryd.prog (cx con7) gl := ctx_of tyOk moOk sl7 fnOk

/-- dancestudiolaw17.BuildLength -/
noncomputable def f8 (a : Nat → Int) (b : Int) : Option (Bool) :=
  Option.bind (f11 a) (fun r2 =>
  cond (!decide (r2 = 0)) (
   some (true)) (
   Option.bind (f13 a (IntKind.i64.wrap (b.tmod 8))) (fun r3 =>
    cond (!decide (r3.snd = 0)) (
     some (false)) (
     cond (decide (r3.fst 0 < -2000)) (
      some (false)) (
      cond (decide (2000 < r3.fst 0)) (
       some (false)) (
       cond (decide (r3.fst 1 < -2000)) (
        some (false)) (
        cond (decide (2000 < r3.fst 1)) (
         some (false)) (
         cond (decide (IntKind.i64.wrap (IntKind.i64.wrap (r3.fst 0 * r3.fst 0) + IntKind.i64.wrap (r3.fst 1 * r3.fst 1)) ≤ IntKind.i64.wrap (IntKind.i64.wrap (a 6 - 1) * IntKind.i64.wrap (a 6 - 1)))) (
          some (false)) (
          cond (decide (IntKind.i64.wrap (IntKind.i64.wrap (a 6 + 1) * IntKind.i64.wrap (a 6 + 1)) ≤ IntKind.i64.wrap (IntKind.i64.wrap (r3.fst 0 * r3.fst 0) + IntKind.i64.wrap (r3.fst 1 * r3.fst 1)))) (
           some (false)) (
           cond (decide (1 ≤ IntKind.i64.wrap (b.tmod 8))) (
            cond (decide (IntKind.i64.wrap (b.tmod 8) ≤ 1)) (
             cond (decide (0 < r3.fst 0) == decide (IntKind.i64.wrap (b.tmod 8) ≤ 3)) (
              cond (decide (0 < r3.fst 1) == true) (
               some (true)) (
               some (false))) (
              some (false))) (
             cond (decide (0 < r3.fst 0) == decide (IntKind.i64.wrap (b.tmod 8) ≤ 3)) (
              cond (decide (0 < r3.fst 1) == decide (IntKind.i64.wrap (b.tmod 8) = 7)) (
               some (true)) (
               some (false))) (
              some (false)))) (
            cond (decide (IntKind.i64.wrap (b.tmod 8) ≤ 1)) (
             cond (decide (0 < r3.fst 0) == false) (
              cond (decide (0 < r3.fst 1) == true) (
               some (true)) (
               some (false))) (
              some (false))) (
             cond (decide (0 < r3.fst 0) == false) (
              cond (decide (0 < r3.fst 1) == decide (IntKind.i64.wrap (b.tmod 8) = 7)) (
               some (true)) (
               some (false))) (
              some (false))))))))))))))
theorem ev8 (a : (cCons (cA .i64 15) (cOne (cI .u8))).T) : evF (R := (rOne (cB)).T) (cx con7) 1000 Tryd.f8 ((cCons (cA .i64 15) (cOne (cI .u8))).enc a) (glMem gl) gG (rOne (cB)).dec = f8 a.1 a.2 := by kernel_rfl
theorem sp8 : VE.Spec Tryd.prog gG gl 8 (conF (cCons (cA .i64 15) (cOne (cI .u8))) (rOne (cB)) (fun a => f8 a.1 a.2)) := spec_of ok7 Tryd.func8 Tryd.call8 1000 (cCons_ok (cA_ok _ _) (cOne_ok (cI_ok _))) (rOne_ok (cB_ok)) ev8
noncomputable def con8 : List (Nat × (List AV → Option ConR)) := (8, conF (cCons (cA .i64 15) (cOne (cI .u8))) (rOne (cB)) (fun a => f8 a.1 a.2)) :: con7
theorem sl8 : SpecL Tryd.prog gG gl con8 := ⟨sp8, sl7⟩
theorem ok8 : CtxOK Tryd.prog (cx con8) gl := ctx_of tyOk moOk sl8 fnOk

/-- dancestudiolaw17.less -/
noncomputable def f19 (a : Nat → Int) (b : Nat → Int) : Option (Bool) :=
  cond (decide (b 0 < a 0)) (
  some (false)) (
  cond (decide (b 1 < a 1)) (
   some (false)) (
   cond (decide (b 2 < a 2)) (
    some (false)) (
    cond (decide (b 3 < a 3)) (
     some (false)) (
     cond (decide (b 4 < a 4)) (
      some (false)) (
      cond (decide (b 5 < a 5)) (
       some (false)) (
       cond (decide (a 6 ≤ b 6)) (
        cond (decide (a 7 ≤ b 7)) (
         cond (decide (a 8 ≤ b 8)) (
          cond (decide (a 9 ≤ b 9)) (
           some (decide (a 10 ≤ b 10))) (
           some (false))) (
          some (false))) (
         some (false))) (
        some (false))))))))
theorem ev19 (a : (cCons (cA .i64 15) (cOne (cA .i64 15))).T) : evF (R := (rOne (cB)).T) (cx con8) 1000 Tryd.f19 ((cCons (cA .i64 15) (cOne (cA .i64 15))).enc a) (glMem gl) gG (rOne (cB)).dec = f19 a.1 a.2 := by kernel_rfl
theorem sp19 : VE.Spec Tryd.prog gG gl 19 (conF (cCons (cA .i64 15) (cOne (cA .i64 15))) (rOne (cB)) (fun a => f19 a.1 a.2)) := spec_of ok8 Tryd.func19 Tryd.call19 1000 (cCons_ok (cA_ok _ _) (cOne_ok (cA_ok _ _))) (rOne_ok (cB_ok)) ev19
noncomputable def con19 : List (Nat × (List AV → Option ConR)) := (19, conF (cCons (cA .i64 15) (cOne (cA .i64 15))) (rOne (cB)) (fun a => f19 a.1 a.2)) :: con8
theorem sl19 : SpecL Tryd.prog gG gl con19 := ⟨sp19, sl8⟩
theorem ok19 : CtxOK Tryd.prog (cx con19) gl := ctx_of tyOk moOk sl19 fnOk

/-- dancestudiolaw17.BuildGrows -/
noncomputable def f9 (a : Nat → Int) (b : Int) (c : Int) : Option (Bool) :=
  Option.bind (f11 a) (fun r3 =>
  cond (!decide (r3 = 0)) (
   some (true)) (
   Option.bind (f15 a 1000) (fun r4 =>
    cond (!(decide (r4.fst 0 = a 0) && (decide (r4.fst 1 = a 1) && (decide (r4.fst 2 = a 2) && (decide (r4.fst 3 = a 3) && (decide (r4.fst 4 = a 4) && (decide (r4.fst 5 = a 5) && (decide (r4.fst 6 = a 6) && (decide (r4.fst 7 = a 7) && (decide (r4.fst 8 = a 8) && (decide (r4.fst 9 = a 9) && (decide (r4.fst 10 = a 10) && (decide (r4.fst 11 = a 11) && (decide (r4.fst 12 = a 12) && (decide (r4.fst 13 = a 13) && decide (r4.fst 14 = a 14)))))))))))))))) (
     some (false)) (
     cond (!decide (r4.snd = 0)) (
      some (false)) (
      Option.bind (f15 a b) (fun r5 =>
       Option.bind (f15 a c) (fun r6 =>
        cond (!decide (r5.snd = 0)) (
         some (true)) (
         cond (!decide (r6.snd = 0)) (
          some (true)) (
          cond (decide (c < b)) (
           some (true)) (
           Option.bind (f11 r5.fst) (fun r7 =>
            cond (decide (r7 = 0)) (
             Option.bind (f11 r6.fst) (fun r8 =>
              cond (decide (r8 = 0)) (
               cond (decide (r5.fst 11 = a 11) && (decide (r5.fst 12 = a 12) && (decide (r5.fst 13 = a 13) && decide (r5.fst 14 = a 14)))) (
                Option.bind (f19 r5.fst r6.fst) (fun r9 =>
                 cond (r9) (
                  some (true)) (
                  some (false)))) (
                some (false))) (
               some (false)))) (
             some (false)))))))))))))
theorem ev9 (a : (cCons (cA .i64 15) (cCons (cI .i64) (cOne (cI .i64)))).T) : evF (R := (rOne (cB)).T) (cx con19) 1000 Tryd.f9 ((cCons (cA .i64 15) (cCons (cI .i64) (cOne (cI .i64)))).enc a) (glMem gl) gG (rOne (cB)).dec = f9 a.1 a.2.1 a.2.2 := by kernel_rfl
theorem sp9 : VE.Spec Tryd.prog gG gl 9 (conF (cCons (cA .i64 15) (cCons (cI .i64) (cOne (cI .i64)))) (rOne (cB)) (fun a => f9 a.1 a.2.1 a.2.2)) := spec_of ok19 Tryd.func9 Tryd.call9 1000 (cCons_ok (cA_ok _ _) (cCons_ok (cI_ok _) (cOne_ok (cI_ok _)))) (rOne_ok (cB_ok)) ev9
noncomputable def con9 : List (Nat × (List AV → Option ConR)) := (9, conF (cCons (cA .i64 15) (cCons (cI .i64) (cOne (cI .i64)))) (rOne (cB)) (fun a => f9 a.1 a.2.1 a.2.2)) :: con19
theorem sl9 : SpecL Tryd.prog gG gl con9 := ⟨sp9, sl19⟩
theorem ok9 : CtxOK Tryd.prog (cx con9) gl := ctx_of tyOk moOk sl9 fnOk
end Go.Proofs.YtpfoanamlhgnkaaDoor
