/-
  CODECS: how plain Lean values stand for arguments and results; a contract of two codecs and a plain function.
-/
import Derived.Test.YtggiamcgkiaicaaDoorVEn
namespace Go.VE
set_option linter.unusedSimpArgs false
set_option linter.unusedVariables false

structure Cod where
  T : Type
  enc : T → AV
  dec : AV → Option T

structure Cod.Ok (c : Cod) : Prop where
  back : ∀ av t, c.dec av = some t → av = c.enc t ∧ plain1 (c.enc t) = true

def cI (k : IntKind) : Cod where
  T := Int
  enc := .int k
  dec := fun
    | .int k' n => bif Nat.beq (kcode k') (kcode k) then some n else none
    | _ => none

def cB : Cod where
  T := Bool
  enc := .bool
  dec := fun
    | .bool b => some b
    | _ => none

def cS : Cod where
  T := ByteArray
  enc := .str
  dec := fun
    | .str b => some b
    | _ => none

def cellsI (k : IntKind) (p : Nat → Int) : Nat → Nat → List AV
  | 0, _ => []
  | n + 1, i => .int k (p i) :: cellsI k p n (Nat.succ i)

def intsOf (k : IntKind) : Nat → List AV → Option (List Int)
  | 0, [] => some []
  | n + 1, .int k' a :: r => bif Nat.beq (kcode k') (kcode k) then match intsOf k n r with
      | some l => some (a :: l)
      | none => none
    else none
  | _, _ => none

/-- n numbers side by side (an array, a struct of numbers). -/
def cA (k : IntKind) (n : Nat) : Cod where
  T := Nat → Int
  enc := fun p => .agg (cellsI k p n 0)
  dec := fun
    | .agg l => match intsOf k n l with
      | some l => some (nthI l)
      | none => none
    | _ => none

theorem cI_ok (k : IntKind) : (cI k).Ok := ⟨fun av t h => by
  cases av <;> simp only [cI] at h <;> try (cases h; done)
  obtain ⟨h1, h2⟩ := bif_some h
  cases h2
  obtain rfl := kcode_inj h1
  exact ⟨rfl, rfl⟩⟩

theorem cB_ok : cB.Ok := ⟨fun av t h => by
  cases av <;> simp only [cB] at h <;> try (cases h; done)
  cases h
  exact ⟨rfl, rfl⟩⟩

theorem cS_ok : cS.Ok := ⟨fun av t h => by
  cases av <;> simp only [cS] at h <;> try (cases h; done)
  cases h
  exact ⟨rfl, rfl⟩⟩

theorem cellsI_congr {k : IntKind} {p q : Nat → Int} : ∀ {n i j : Nat}, (∀ m, m < n → p (i + m) = q (j + m)) → cellsI k p n i = cellsI k q n j
  | 0, _, _, _ => rfl
  | n + 1, i, j, h => by
    simp only [cellsI]
    rw [show p i = q j from h 0 (by omega)]
    rw [cellsI_congr (i := Nat.succ i) (j := Nat.succ j) (fun m hm => by
      have := h (m + 1) (by omega)
      rw [show i + (m + 1) = Nat.succ i + m by omega, show j + (m + 1) = Nat.succ j + m by omega] at this
      exact this)]

theorem plains_cellsI {k : IntKind} {p : Nat → Int} : ∀ n i, plains (cellsI k p n i) = true
  | 0, _ => rfl
  | n + 1, i => by simp [cellsI, plains, plain, plains_cellsI n]

theorem intsOf_cells {k : IntKind} : ∀ {n : Nat} {l : List AV} {r : List Int}, intsOf k n l = some r → l = cellsI k (nthI r) n 0
  | 0, [], r, h => by simp [cellsI]
  | 0, _ :: _, r, h => by simp [intsOf] at h
  | n + 1, [], r, h => by simp [intsOf] at h
  | n + 1, x :: l, r, h => by
    cases x <;> simp only [intsOf] at h <;> try (cases h; done)
    obtain ⟨h1, h2⟩ := bif_some h
    rename_i k' a
    obtain rfl : k' = k := kcode_inj h1
    cases hr : intsOf k' n l with
    | none => simp [hr] at h2
    | some m =>
      rw [hr] at h2
      obtain rfl := Option.some.inj h2
      have := intsOf_cells hr
      simp only [cellsI, nthI]
      congr 1
      rw [this]
      refine cellsI_congr fun j hj => ?_
      rw [Nat.zero_add, show Nat.succ 0 + j = j + 1 by omega]
      rfl

theorem cA_ok (k : IntKind) (n : Nat) : (cA k n).Ok := ⟨fun av t h => by
  cases av <;> simp only [cA] at h <;> try (cases h; done)
  rename_i l
  cases hi : intsOf k n l with
  | none => simp [hi] at h
  | some r =>
    rw [hi] at h
    obtain rfl := Option.some.inj h
    have := intsOf_cells hi
    exact ⟨by rw [this]; rfl, plains_cellsI n 0⟩⟩

/-! ### A struct of numbers and Bools: a Bool is kept as 0 or 1 -/
def intsX : List (Option IntKind) → List AV → Option (List Int)
  | [], [] => some []
  | some k :: r, .int k' a :: l => bif Nat.beq (kcode k') (kcode k) then match intsX r l with
      | some m => some (a :: m)
      | none => none
    else none
  | none :: r, .bool b :: l => match intsX r l with
      | some m => some (cond b 1 0 :: m)
      | none => none
  | _, _ => none
def cX (ks : List (Option IntKind)) : Cod where
  T := Nat → Int
  enc := fun p => .agg (cellsX p ks 0)
  dec := fun
    | .agg l => match intsX ks l with
      | some l => some (nthI l)
      | none => none
    | _ => none

theorem plain_cellX (o : Option IntKind) (n : Int) : plain (cellX o n) = true := by cases o <;> rfl
theorem plains_cellsX {p : Nat → Int} : ∀ (ks : List (Option IntKind)) (i : Nat), plains (cellsX p ks i) = true
  | [], _ => rfl
  | o :: r, i => by simp [cellsX, plains, plain_cellX, plains_cellsX r]
theorem cellsX_congr {p q : Nat → Int} : ∀ {ks : List (Option IntKind)} {i j : Nat}, (∀ m, m < ks.length → p (i + m) = q (j + m)) → cellsX p ks i = cellsX q ks j
  | [], _, _, _ => rfl
  | o :: r, i, j, h => by
    simp only [cellsX]
    rw [show p i = q j from h 0 (by simp)]
    rw [cellsX_congr (i := Nat.succ i) (j := Nat.succ j) (fun m hm => by
      have := h (m + 1) (by simp; omega)
      rw [show i + (m + 1) = Nat.succ i + m by omega, show j + (m + 1) = Nat.succ j + m by omega] at this
      exact this)]
theorem intsX_cells : ∀ {ks : List (Option IntKind)} {l : List AV} {r : List Int}, intsX ks l = some r → l = cellsX (nthI r) ks 0
  | [], [], r, h => rfl
  | [], _ :: _, r, h => by simp [intsX] at h
  | some k :: ks, [], r, h => by simp [intsX] at h
  | none :: ks, [], r, h => by simp [intsX] at h
  | some k :: ks, x :: l, r, h => by
    cases x <;> simp only [intsX] at h <;> try (cases h; done)
    obtain ⟨h1, h2⟩ := bif_some h
    rename_i k' a
    obtain rfl : k' = k := kcode_inj h1
    cases hr : intsX ks l with
    | none => simp [hr] at h2
    | some m =>
      rw [hr] at h2
      obtain rfl := Option.some.inj h2
      have := intsX_cells hr
      simp only [cellsX, nthI, cellX]
      congr 1
      rw [this]
      refine cellsX_congr fun j hj => ?_
      rw [Nat.zero_add, show Nat.succ 0 + j = j + 1 by omega]
      rfl
  | none :: ks, x :: l, r, h => by
    cases x <;> simp only [intsX] at h <;> try (cases h; done)
    rename_i b
    cases hr : intsX ks l with
    | none => simp [hr] at h
    | some m =>
      rw [hr] at h
      obtain rfl := Option.some.inj h
      have := intsX_cells hr
      simp only [cellsX, nthI, cellX]
      congr 1
      · cases b <;> rfl
      rw [this]
      refine cellsX_congr fun j hj => ?_
      rw [Nat.zero_add, show Nat.succ 0 + j = j + 1 by omega]
      rfl
theorem cX_ok (ks : List (Option IntKind)) : (cX ks).Ok := ⟨fun av t h => by
  cases av <;> simp only [cX] at h <;> try (cases h; done)
  rename_i l
  cases hi : intsX ks l with
  | none => simp [hi] at h
  | some r =>
    rw [hi] at h
    obtain rfl := Option.some.inj h
    have := intsX_cells hi
    exact ⟨by rw [this]; rfl, plains_cellsX ks 0⟩⟩

/-! ### Several: arguments, results -/
structure CodL where
  T : Type
  enc : T → List AV
  dec : List AV → Option T

structure CodL.Ok (c : CodL) : Prop where
  back : ∀ av t, c.dec av = some t → av = c.enc t ∧ plainVs (c.enc t) = true ∧ plainT (c.enc t) = true

def cNil : CodL where
  T := Unit
  enc := fun _ => []
  dec := fun
    | [] => some ()
    | _ => none

def cOne (c : Cod) : CodL where
  T := c.T
  enc := fun x => [c.enc x]
  dec := fun
    | [a] => c.dec a
    | _ => none

def cCons (c : Cod) (d : CodL) : CodL where
  T := c.T × d.T
  enc := fun x => c.enc x.1 :: d.enc x.2
  dec := fun
    | a :: l => match c.dec a with
      | some x => match d.dec l with
        | some y => some (x, y)
        | none => none
      | none => none
    | _ => none

theorem plain1_V {a : AV} (h : plain1 a = true) : plainV a = true := by
  cases a <;> simp_all [plain1, plainV, plain]

theorem cNil_ok : cNil.Ok := ⟨fun av t h => by
  cases av with
  | nil => exact ⟨rfl, rfl, rfl⟩
  | cons a l => simp [cNil] at h⟩

theorem cOne_ok {c : Cod} (hc : c.Ok) : (cOne c).Ok := ⟨fun av t h => by
  match av, h with
  | [a], h =>
    obtain ⟨h1, h2⟩ := hc.back a t h
    exact ⟨by rw [h1]; rfl, by simp [cOne, plainVs, plain1_V h2], by simp [cOne, plainT, h2]⟩
  | [], h => simp [cOne] at h
  | _ :: _ :: _, h => simp [cOne] at h⟩

theorem cCons_ok {c : Cod} {d : CodL} (hc : c.Ok) (hd : d.Ok) : (cCons c d).Ok := ⟨fun av t h => by
  cases av with
  | nil => simp [cCons] at h
  | cons a l =>
    simp only [cCons] at h
    cases ha : c.dec a with
    | none => simp [ha] at h
    | some x =>
      cases hl : d.dec l with
      | none => simp [ha, hl] at h
      | some y =>
        rw [ha, hl] at h
        obtain rfl := Option.some.inj h
        obtain ⟨h1, h2⟩ := hc.back a x ha
        obtain ⟨h3, h4, h5⟩ := hd.back l y hl
        exact ⟨by rw [h1, h3]; rfl, by simp [cCons, plainVs, plain1_V h2, h4], by simp [cCons, plainT, h2, h5]⟩⟩

/-- Results: one, or a tuple. -/
structure CodR where
  T : Type
  enc : T → AV
  dec : AV → Option T

structure CodR.Ok (c : CodR) : Prop where
  back : ∀ av t, c.dec av = some t → av = c.enc t ∧ plainV (c.enc t) = true

def rOne (c : Cod) : CodR where
  T := c.T
  enc := c.enc
  dec := c.dec

def rTup (d : CodL) : CodR where
  T := d.T
  enc := fun x => .tup (d.enc x)
  dec := fun
    | .tup l => d.dec l
    | _ => none

theorem rOne_ok {c : Cod} (hc : c.Ok) : (rOne c).Ok := ⟨fun av t h =>
  let ⟨h1, h2⟩ := hc.back av t h
  ⟨h1, plain1_V h2⟩⟩

theorem rTup_ok {d : CodL} (hd : d.Ok) : (rTup d).Ok := ⟨fun av t h => by
  cases av <;> simp only [rTup] at h <;> try (cases h; done)
  obtain ⟨h1, _, h3⟩ := hd.back _ t h
  exact ⟨by rw [h1]; rfl, h3⟩⟩

/-- A string's bytes. -/
def bs (l : List UInt8) : ByteArray := ⟨⟨l⟩⟩

/-! ### Arguments: also slices that came in -/
structure CodP where
  T : Type
  ns : Nat
  enc : Nat → T → AV
  dec : AV → Option T

/-- What is known of a value said again: its slices bear the numbers from i0 on. -/
def Ren1 (i0 : Nat) (av av' : AV) (k : Nat) : Prop := ∀ σ v, VR σ av v → ∃ τ : Nat → Option Ex, (∀ j x, τ j = some x → j < k ∧ ∃ i r, σ i = some x ∧ x.rows = some r) ∧ ∀ σ' : Sg, (∀ j x, τ j = some x → σ' (i0 + j) = some x) → VR σ' av' v

structure CodP.Ok (c : CodP) : Prop where
  back : ∀ av t, c.dec av = some t → ∀ i0, Ren1 i0 av (c.enc i0 t) c.ns

structure CodA where
  T : Type
  ns : Nat
  enc : Nat → T → List AV
  dec : List AV → Option T

structure CodA.Ok (c : CodA) : Prop where
  back : ∀ av t, c.dec av = some t → ∀ i0, Ren i0 av (c.enc i0 t) c.ns

def pC (c : Cod) : CodP := ⟨c.T, 0, fun _ => c.enc, c.dec⟩
def pS (ks : List (Option IntKind)) : CodP where
  T := Sl
  ns := 1
  enc := fun i s => .xslice i s.1 ks s.2
  dec := fun
    | .xslice _ len ks' p => bif ksEq ks' ks then some (len, p) else none
    | .nils => some (0, fun _ _ => 0)
    | _ => none
def pG (d : CodA) : CodP where
  T := d.T
  ns := d.ns
  enc := fun i t => .agg (d.enc i t)
  dec := fun
    | .agg l => d.dec l
    | _ => none
def aNil : CodA where
  T := Unit
  ns := 0
  enc := fun _ _ => []
  dec := fun
    | [] => some ()
    | _ => none
def aOne (c : CodP) : CodA where
  T := c.T
  ns := c.ns
  enc := fun i x => [c.enc i x]
  dec := fun
    | [a] => c.dec a
    | _ => none
def aCons (c : CodP) (d : CodA) : CodA where
  T := c.T × d.T
  ns := Nat.add c.ns d.ns
  enc := fun i x => c.enc i x.1 :: d.enc (Nat.add i c.ns) x.2
  dec := fun
    | a :: l => match c.dec a with
      | some x => match d.dec l with
        | some y => some (x, y)
        | none => none
      | none => none
    | _ => none

theorem pC_ok {c : Cod} (hc : c.Ok) : (pC c).Ok := ⟨fun av t h i0 σ v hv => by
  obtain ⟨h1, h2⟩ := hc.back av t h
  subst h1
  exact ⟨fun _ => none, (fun _ _ h => by cases h), fun σ' _ => plain1_VR h2 hv⟩⟩

theorem pS_ok (ks : List (Option IntKind)) : (pS ks).Ok := ⟨fun av t h i0 σ v hv => by
  cases av <;> simp only [pS] at h <;> try (cases h; done)
  · obtain ⟨h1, h2⟩ := bif_some h
    cases h2
    obtain rfl := ksEq_spec h1
    rcases hv with ⟨b, c, hb, rfl, h3, h4, h5⟩ | ⟨rfl, rfl⟩
    · refine ⟨fun j => if j = 0 then some b else none, fun j x hx => ?_, fun σ' hσ => .inl ⟨b, c, hσ 0 b rfl, rfl, h3, h4, h5⟩⟩
      dsimp only at hx
      split at hx
      · rename_i hj
        subst hj
        obtain rfl := Option.some.inj hx
        exact ⟨by simp [pS], _, _, hb, h5⟩
      · cases hx
    · exact ⟨fun _ => none, (fun _ _ h => by cases h), fun σ' _ => .inr ⟨rfl, rfl⟩⟩
  · cases h
    simp only [VR] at hv
    subst hv
    exact ⟨fun _ => none, (fun _ _ h => by cases h), fun σ' _ => .inr ⟨rfl, rfl⟩⟩⟩

theorem pG_ok {d : CodA} (hd : d.Ok) : (pG d).Ok := ⟨fun av t h i0 σ v hv => by
  cases av <;> simp only [pG] at h <;> try (cases h; done)
  obtain ⟨vs, rfl, hvs⟩ := hv
  obtain ⟨τ, h1, h2⟩ := hd.back _ t h i0 σ _ hvs
  exact ⟨τ, h1, fun σ' hσ => ⟨vs, rfl, h2 σ' hσ⟩⟩⟩

theorem aNil_ok : aNil.Ok := ⟨fun av t h i0 σ vs hv => by
  cases av with
  | nil => exact ⟨fun _ => none, (fun _ _ h => by cases h), fun σ' _ => hv⟩
  | cons a l => simp [aNil] at h⟩

theorem aOne_ok {c : CodP} (hc : c.Ok) : (aOne c).Ok := ⟨fun av t h i0 σ vs hv => by
  match av, h with
  | [a], h =>
    obtain ⟨v, l, rfl, h1, h2⟩ := hv
    cases h2
    obtain ⟨τ, h3, h4⟩ := hc.back a t h i0 σ v h1
    exact ⟨τ, h3, fun σ' hσ => ⟨v, [], rfl, h4 σ' hσ, rfl⟩⟩
  | [], h => simp [aOne] at h
  | _ :: _ :: _, h => simp [aOne] at h⟩

theorem aCons_ok {c : CodP} {d : CodA} (hc : c.Ok) (hd : d.Ok) : (aCons c d).Ok := ⟨fun av t h i0 σ vs hv => by
  cases av with
  | nil => simp [aCons] at h
  | cons a l =>
    simp only [aCons] at h
    cases ha : c.dec a with
    | none => simp [ha] at h
    | some x =>
      cases hl : d.dec l with
      | none => simp [ha, hl] at h
      | some y =>
        rw [ha, hl] at h
        obtain rfl := Option.some.inj h
        obtain ⟨v, vs', rfl, h1, h2⟩ := hv
        obtain ⟨τ1, a1, a2⟩ := hc.back a x ha i0 σ v h1
        obtain ⟨τ2, b1, b2⟩ := hd.back l y hl (i0 + c.ns) σ vs' h2
        refine ⟨joinTau τ1 τ2 c.ns, fun j z hz => ?_, fun σ' hσ => ⟨v, vs', rfl, a2 σ' (joinTau_left (fun j z hz => (a1 j z hz).1) hσ), b2 σ' (joinTau_right hσ)⟩⟩
        unfold joinTau at hz
        split at hz
        · obtain ⟨h3, h4⟩ := a1 j z hz
          exact ⟨by show j < c.ns + d.ns; omega, h4⟩
        · obtain ⟨h3, h4⟩ := b1 _ z hz
          exact ⟨by show j < c.ns + d.ns; omega, h4⟩⟩

/-- The contract of a plain function. -/
def conF (A : CodA) (B : CodR) (f : A.T → Option B.T) : List AV → Option ConR := fun args => match A.dec args with
  | some a => some ⟨B.T, f a, B.enc⟩
  | none => none

theorem spec_of {P : Program} {C : Ctx} {gl : List (Nat × List AV)} (hC : CtxOK P C gl) {f : FuncId} {fn : Func} (hf : P.funcs[f]? = some fn) (hcall : ∀ args w, (callFunc f args).run P w = .ok (.enter f args) w) (hlp : LpAll P C gl fn) (n : Nat)
    {A : CodA} {B : CodR} (hA : A.Ok) (hB : B.Ok) {F : A.T → Option B.T} (h : ∀ a, evF C n fn (A.enc C.G a) (glMem gl) (Nat.add C.G A.ns) B.dec = F a) : Spec P C.G gl f (conF A B F) :=
  mkSpec hC hf hcall hlp n fun args cr hF => by
    unfold conF at hF
    cases hd : A.dec args with
    | none => simp [hd] at hF
    | some a =>
      simp [hd] at hF
      subst hF
      exact ⟨A.enc C.G a, A.ns, hA.back args a hd C.G, B.dec, h a, fun av t ht => hB.back av t ht⟩

/-! ### A context out of lists -/
def SpecL (P : Program) (G : Nat) (gl : List (Nat × List AV)) : List (Nat × (List AV → Option ConR)) → Prop
  | [] => True
  | x :: r => Spec P G gl x.1 x.2 ∧ SpecL P G gl r

def FnL (P : Program) : List (Nat × Func) → Prop
  | [] => True
  | x :: r => (P.funcs[x.1]? = some x.2 ∧ ∀ args w, (callFunc x.1 args).run P w = .ok (.enter x.1 args) w) ∧ FnL P r

theorem SpecL.get {P : Program} {G : Nat} {gl : List (Nat × List AV)} : ∀ {l : List (Nat × (List AV → Option ConR))}, SpecL P G gl l → ∀ f F, assoc l f = some F → Spec P G gl f F
  | [], _, f, F, h => by simp [assoc] at h
  | x :: r, ⟨h1, h2⟩, f, F, h => by
    obtain ⟨i, y⟩ := x
    simp only [assoc] at h
    cases hb : Nat.beq i f with
    | true =>
      simp [hb] at h
      obtain rfl := Nat.eq_of_beq_eq_true hb
      subst h
      exact h1
    | false =>
      simp [hb] at h
      exact SpecL.get h2 f F h

theorem FnL.get {P : Program} : ∀ {l : List (Nat × Func)}, FnL P l → ∀ f fn, assoc l f = some fn → P.funcs[f]? = some fn ∧ ∀ args w, (callFunc f args).run P w = .ok (.enter f args) w
  | [], _, f, F, h => by simp [assoc] at h
  | x :: r, ⟨h1, h2⟩, f, F, h => by
    obtain ⟨i, y⟩ := x
    simp only [assoc] at h
    cases hb : Nat.beq i f with
    | true =>
      simp [hb] at h
      obtain rfl := Nat.eq_of_beq_eq_true hb
      subst h
      exact h1
    | false =>
      simp [hb] at h
      exact FnL.get h2 f F h

/-- A joined call's answer. -/
def cJ (B : CodR) : CodJ := ⟨B.T, B.enc, B.dec⟩

def JoinL : List (Nat × CodJ) → Prop
  | [] => True
  | x :: r => (∀ av t, x.2.dec av = some t → av = x.2.enc t ∧ plainV (x.2.enc t) = true) ∧ JoinL r

theorem cJ_ok {B : CodR} (hB : B.Ok) : ∀ av t, (cJ B).dec av = some t → av = (cJ B).enc t ∧ plainV ((cJ B).enc t) = true := hB.back

theorem JoinL.get : ∀ {l : List (Nat × CodJ)}, JoinL l → ∀ f c, assoc l f = some c → ∀ av t, c.dec av = some t → av = c.enc t ∧ plainV (c.enc t) = true
  | [], _, f, c, h => by simp [assoc] at h
  | (i, y) :: r, ⟨h1, h2⟩, f, c, h => by
    simp only [assoc] at h
    cases hb : Nat.beq i f with
    | true =>
      simp [hb] at h
      subst h
      exact h1
    | false =>
      simp [hb] at h
      exact JoinL.get h2 f c h

/-- The loops of the functions that are entered. -/
def FnLp (P : Program) (G : Nat) (gl : List (Nat × List AV)) (lps : List (Nat × LoopC)) : List (Nat × Func) → Prop
  | [] => True
  | x :: r => (∃ ks, keysF x.2 = ks ∧ LpS P G gl x.2 lps ks 0) ∧ FnLp P G gl lps r

theorem lpS_nil {P : Program} {G : Nat} {gl : List (Nat × List AV)} {fn : Func} : ∀ ks j, LpS P G gl fn [] ks j
  | [], _ => trivial
  | _ :: r, j => ⟨fun L h => (by cases h), lpS_nil r (j + 1)⟩
theorem fnLp_nil {P : Program} {G : Nat} {gl : List (Nat × List AV)} : ∀ fns, FnLp P G gl [] fns
  | [] => trivial
  | _ :: r => ⟨⟨_, rfl, lpS_nil _ _⟩, fnLp_nil r⟩

theorem FnLp.get {P : Program} {G : Nat} {gl : List (Nat × List AV)} {lps : List (Nat × LoopC)} : ∀ {l : List (Nat × Func)}, FnLp P G gl lps l → ∀ f fn, assoc l f = some fn → ∃ ks, keysF fn = ks ∧ LpS P G gl fn lps ks 0
  | [], _, f, F, h => by simp [assoc] at h
  | x :: r, ⟨h1, h2⟩, f, F, h => by
    obtain ⟨i, y⟩ := x
    simp only [assoc] at h
    cases hb : Nat.beq i f with
    | true =>
      simp [hb] at h
      subst h
      exact h1
    | false =>
      simp [hb] at h
      exact FnLp.get h2 f F h

/-- Functions that are told memory as well. -/
def CmL (P : Program) (G : Nat) (gl : List (Nat × List AV)) : List (Nat × (List AV → List (Nat × Blk) → Option ConR)) → Prop
  | [] => True
  | x :: r => SpecM P G gl x.1 x.2 ∧ CmL P G gl r
theorem CmL.get {P : Program} {G : Nat} {gl : List (Nat × List AV)} : ∀ {l : List (Nat × (List AV → List (Nat × Blk) → Option ConR))}, CmL P G gl l → ∀ f F, assoc l f = some F → SpecM P G gl f F
  | [], _, f, F, h => by simp [assoc] at h
  | x :: r, ⟨h1, h2⟩, f, F, h => by
    obtain ⟨i, y⟩ := x
    simp only [assoc] at h
    cases hb : Nat.beq i f with
    | true =>
      simp [hb] at h
      subst h
      rw [← Nat.eq_of_beq_eq_true hb]
      exact h1
    | false =>
      simp [hb] at h
      exact CmL.get h2 f F h

theorem ctx_ofM {P : Program} {tyL : List (TypeId × TyI)} {G : Nat} {gl : List (Nat × List AV)} {con : List (Nat × (List AV → Option ConR))} {cms : List (Nat × (List AV → List (Nat × Blk) → Option ConR))} {lps : List (Nat × LoopC)} {fns : List (Nat × Func)} {joins : List (Nat × CodJ)}
    (hty : ∀ t i, assoc tyL t = some i → tyOf P t = some i) (hmo : P.follows .mixedOrders = true) (hc : SpecL P G gl con) (hcm : CmL P G gl cms) (hf : FnL P fns) (hlp : FnLp P G gl lps fns) (hj : JoinL joins) {jc : Bool} :
    CtxOK P { ty := assoc tyL, join := assoc joins, jc := jc, con := assoc con, cm := assoc cms, lp := assoc lps, fns := assoc fns, G := G } gl :=
  ⟨hty, hc.get, hcm.get, fun f fn h => by
    obtain ⟨h1, h2⟩ := hf.get f fn h
    obtain ⟨ks, h3, h4⟩ := hlp.get f fn h
    exact ⟨h1, h2, lpAll_of (C := { ty := assoc tyL, join := assoc joins, jc := jc, con := assoc con, cm := assoc cms, lp := assoc lps, fns := assoc fns, G := G }) rfl h3 h4⟩, hmo, hj.get⟩

theorem ctx_of {P : Program} {tyL : List (TypeId × TyI)} {G : Nat} {gl : List (Nat × List AV)} {con : List (Nat × (List AV → Option ConR))} {lps : List (Nat × LoopC)} {fns : List (Nat × Func)} {joins : List (Nat × CodJ)}
    (hty : ∀ t i, assoc tyL t = some i → tyOf P t = some i) (hmo : P.follows .mixedOrders = true) (hc : SpecL P G gl con) (hf : FnL P fns) (hlp : FnLp P G gl lps fns) (hj : JoinL joins) {jc : Bool} :
    CtxOK P { ty := assoc tyL, join := assoc joins, jc := jc, con := assoc con, cm := assoc [], lp := assoc lps, fns := assoc fns, G := G } gl :=
  ctx_ofM hty hmo hc (cms := []) trivial hf hlp hj

/-! ### A law's arguments -/
def fitI (k : IntKind) : Fit := ⟨false, [.int k]⟩
def fitB : Fit := ⟨false, [.bool]⟩
def fitS : Fit := ⟨false, [.str]⟩
def reps (x : Leaf) : Nat → List Leaf
  | 0 => []
  | n + 1 => x :: reps x n
def fitR (k : IntKind) (n : Nat) : Fit := ⟨true, reps (.int k) n⟩

theorem FitV_I {i : Nat} {k : IntKind} {a : AV} (h : FitV i (fitI k) a) : ∃ n, a = (cI k).enc n ∧ k.has n := by
  obtain ⟨x, l, e, ⟨n, rfl, hn⟩, rfl⟩ := h
  cases e
  exact ⟨n, rfl, hn⟩

theorem FitV_B {i : Nat} {a : AV} (h : FitV i fitB a) : ∃ b, a = cB.enc b := by
  obtain ⟨x, l, e, ⟨n, rfl⟩, rfl⟩ := h
  cases e
  exact ⟨n, rfl⟩

theorem FitV_S {i : Nat} {a : AV} (h : FitV i fitS a) : ∃ b : ByteArray, a = cS.enc b ∧ (b.size : Int) ≤ IntKind.i64.max := by
  obtain ⟨x, l, e, ⟨n, rfl, hn⟩, rfl⟩ := h
  cases e
  exact ⟨n, rfl, hn⟩

theorem FitL_reps {k : IntKind} : ∀ {n i0 : Nat} {l : List AV}, FitL i0 (reps (.int k) n) l → ∃ r : List Int, intsOf k n l = some r ∧ ∀ i, i < n → k.has (nthI r i)
  | 0, i0, l, h => by
    have : l = [] := h
    subst this
    exact ⟨[], rfl, fun i hi => absurd hi (by omega)⟩
  | n + 1, i0, l, h => by
    obtain ⟨x, l', rfl, ⟨m, rfl, hm⟩, h2⟩ := h
    obtain ⟨r, h3, h4⟩ := FitL_reps h2
    refine ⟨m :: r, by simp [intsOf, h3, Nat.beq_refl], fun i hi => ?_⟩
    cases i with
    | zero => exact hm
    | succ i => exact h4 i (by omega)

theorem FitV_R {i0 : Nat} {k : IntKind} {n : Nat} {a : AV} (h : FitV i0 (fitR k n) a) : ∃ p, a = (cA k n).enc p ∧ ∀ i, i < n → k.has (p i) := by
  obtain ⟨cs, rfl, h⟩ := h
  obtain ⟨r, h1, h2⟩ := FitL_reps h
  exact ⟨nthI r, by rw [intsOf_cells h1]; rfl, h2⟩

def leafX : Option IntKind → Leaf
  | some k => .int k
  | none => .bool
def fitX (ks : List (Option IntKind)) : Fit := ⟨true, ks.map leafX⟩
theorem FitL_X : ∀ {ks : List (Option IntKind)} {i0 : Nat} {l : List AV}, FitL i0 (ks.map leafX) l → ∃ r : List Int, intsX ks l = some r ∧ ∀ (i : Nat) (k : IntKind), ks[i]? = some (some k) → k.has (nthI r i)
  | [], i0, l, h => by
    have : l = [] := h
    subst this
    exact ⟨[], rfl, fun i k hi => by simp at hi⟩
  | some k :: ks, i0, l, h => by
    obtain ⟨x, l', rfl, ⟨m, rfl, hm⟩, h2⟩ := h
    obtain ⟨r, h3, h4⟩ := FitL_X h2
    refine ⟨m :: r, by simp [intsX, h3, Nat.beq_refl], fun i k' hi => ?_⟩
    cases i with
    | zero => simp at hi; subst hi; exact hm
    | succ i => exact h4 i k' (by simpa using hi)
  | none :: ks, i0, l, h => by
    obtain ⟨x, l', rfl, ⟨b, rfl⟩, h2⟩ := h
    obtain ⟨r, h3, h4⟩ := FitL_X h2
    refine ⟨cond b 1 0 :: r, by simp [intsX, h3], fun i k' hi => ?_⟩
    cases i with
    | zero => simp at hi
    | succ i => exact h4 i k' (by simpa using hi)
theorem FitV_X {i0 : Nat} {ks : List (Option IntKind)} {a : AV} (h : FitV i0 (fitX ks) a) : ∃ p, a = (cX ks).enc p ∧ ∀ (i : Nat) (k : IntKind), ks[i]? = some (some k) → k.has (p i) := by
  obtain ⟨cs, rfl, h⟩ := h
  obtain ⟨r, h1, h2⟩ := FitL_X h
  exact ⟨nthI r, by rw [intsX_cells h1]; rfl, h2⟩

/-- A struct of two slices. -/
def fitSS (k1 k2 : List (Option IntKind)) : Fit := ⟨true, [.slice k1, .slice k2]⟩
def pSS (k1 k2 : List (Option IntKind)) : CodP := pG (aCons (pS k1) (aOne (pS k2)))
theorem pSS_ok (k1 k2 : List (Option IntKind)) : (pSS k1 k2).Ok := pG_ok (aCons_ok (pS_ok _) (aOne_ok (pS_ok _)))
theorem FitV_SS {i0 : Nat} {k1 k2 : List (Option IntKind)} {a : AV} (h : FitV i0 (fitSS k1 k2) a) : ∃ m : Sl × Sl, a = (pSS k1 k2).enc i0 m ∧ ((m.1.1 : Int) ≤ IntKind.i64.max ∧ ∀ j, j < m.1.1 → inK k1 (m.1.2 j) 0) ∧ ((m.2.1 : Int) ≤ IntKind.i64.max ∧ ∀ j, j < m.2.1 → inK k2 (m.2.2 j) 0) := by
  obtain ⟨cs, rfl, x, l, rfl, ⟨n, p, rfl, h1, h2⟩, y, l', rfl, ⟨n', p', rfl, h3, h4⟩, rfl⟩ := h
  exact ⟨((n, p), (n', p')), rfl, ⟨h1, h2⟩, h3, h4⟩
end Go.VE
