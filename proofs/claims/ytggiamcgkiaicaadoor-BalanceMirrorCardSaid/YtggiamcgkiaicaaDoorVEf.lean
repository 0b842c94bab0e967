/-
  THE READING MACHINE: what one operation does, against the model's own step.
-/
import Derived.Test.YtggiamcgkiaicaaDoorVEe
import Derived.LoopN
namespace Go.VE
open Go.RowKit (Below)
set_option linter.unusedSimpArgs false
set_option linter.unusedVariables false

/-- The package-level variables that are read hold what they hold. -/
def GOK (G : Nat) (gl : List (Nat × List AV)) (w : World) : Prop :=
  G ≤ w.heap.size ∧ ∀ p ∈ gl, p.1 < G ∧ ∀ j c, p.2[j]? = some c → ∃ x, w.cell? ⟨p.1, j, none⟩ = some x ∧ ∀ σ, VR σ c x

theorem GOK.later {G : Nat} {gl : List (Nat × List AV)} {w w' : World} (h : GOK G gl w) (hb : Below w.heap.size w w') : GOK G gl w' :=
  ⟨Nat.le_trans h.1 hb.size, fun p hp => ⟨(h.2 p hp).1, fun j c hc => let ⟨x, h1, h2⟩ := (h.2 p hp).2 j c hc;
    ⟨x, (cell_of_heap (a := ⟨p.1, j, none⟩) (hb.block _ (Nat.lt_of_lt_of_le (h.2 p hp).1 h.1))).trans h1, h2⟩⟩⟩

/-- A function's contract. -/
structure Spec (P : Program) (G : Nat) (gl : List (Nat × List AV)) (f : FuncId) (F : List AV → Option ConR) : Prop where
  call : ∀ args w, (callFunc f args).run P w = .ok (.enter f args) w
  calls : ∀ args cr, F args = some cr → ∀ v, cr.x = some v → ∀ σ (vals : Array Value) w, VRs σ args vals.toList → GOK G gl w → RowsOK σ w →
    Calls P f vals w (fun e w' => ∃ rv, e = .returned rv ∧ VR σ (cr.enc v) rv ∧ Below w.heap.size w w')

/-- The same of a function that is told memory as well. -/
structure SpecM (P : Program) (G : Nat) (gl : List (Nat × List AV)) (f : FuncId) (F : List AV → List (Nat × Blk) → Option ConR) : Prop where
  call : ∀ args w, (callFunc f args).run P w = .ok (.enter f args) w
  calls : ∀ args mem cr, F args mem = some cr → ∀ v, cr.x = some v → ∀ w0 U σ (vals : Array Value) w, RepM w0 G U σ (lkM mem) w → VRs σ args vals.toList → GOK G gl w →
    Calls P f vals w (fun e w' => ∃ rv, e = .returned rv ∧ VR σ (cr.enc v) rv ∧ Below w.heap.size w w')

def AExit.ex : AExit → Exit
  | .normal => .normal
  | .exit i => .exit i
  | .ret => .ret

/-- A loop's contract. -/
def LoopSpec (P : Program) (G : Nat) (gl : List (Nat × List AV)) (nt : Nat) (L : LoopC) (b : Code) : Prop :=
  ∀ X Y r, L.run X Y = some r → ∃ o N, outOf r L.outs 0 = some o ∧ L.T0.nx ≤ o.2.nx ∧ ∀ w0, GOK G gl w0 → ∀ σ a w, RepM w0 G (fun j => L.T0.nx ≤ j) σ (lkM (encT X Y L.T0).mem) w → RepE σ nt (lk2 (encT X Y L.T0).env) a →
    ∀ Q : Exit → Act → World → Prop, (∀ σ' a' w', Ext σ σ' → RepM w0 G (fun j => o.2.nx ≤ j) σ' (lkM (encT r.2.1 r.2.2 o.2).mem) w' → RepE σ' nt (lk2 (encT r.2.1 r.2.2 o.2).env) a' → Q o.1.ex a' w') → Code.rounds P b Q N a w

def LpOK (P : Program) (C : Ctx) (gl : List (Nat × List AV)) (nt : Nat) (b : Code) : Prop := ∀ L, C.lp (loopKey nt b) = some L → LoopSpec P C.G gl nt L b
def LpAll (P : Program) (C : Ctx) (gl : List (Nat × List AV)) (fn : Func) : Prop := ∀ b, fn.body = some b → ∀ l ∈ loopsL b, LpOK P C gl fn.ntmps l

structure CtxOK (P : Program) (C : Ctx) (gl : List (Nat × List AV)) : Prop where
  ty : ∀ t i, C.ty t = some i → tyOf P t = some i
  con : ∀ f F, C.con f = some F → Spec P C.G gl f F
  cm : ∀ f F, C.cm f = some F → SpecM P C.G gl f F
  fns : ∀ f fn, C.fns f = some fn → P.funcs[f]? = some fn ∧ (∀ args w, (callFunc f args).run P w = .ok (.enter f args) w) ∧ LpAll P C gl fn
  mo : P.follows .mixedOrders = true
  join : ∀ f c, C.join f = some c → ∀ av t, c.dec av = some t → av = c.enc t ∧ plainV (c.enc t) = true

def updE (e : Nat → Option (Option AV)) (t : Nat) (v : Option AV) : Nat → Option (Option AV) := fun u => if u = t then some v else e u

def actV (id : Nat) : Act1 → Option AV
  | .skip => none
  | .val v => some v
  | .call v => some v
  | .new _ _ none => some (.ptr id 0)
  | .new _ _ (some n) => some (.slice id 0 n.1)
  | .st _ _ => none
  | .app _ _ _ _ n => some (.slice id 0 n)

def isSt : Act1 → Bool
  | .st _ _ => true
  | .app _ _ _ _ _ => true
  | _ => false

def isA : Act1 → Bool
  | .app _ _ _ _ _ => true
  | _ => false

/-- What an operation that looks at memory as a whole does. -/
def barA : Act1 → Bool
  | .app _ _ _ _ _ => true
  | .call _ => true
  | _ => false

def ActOk (C : Ctx) (s : St) (o : Oper) (act : Act1) : Prop :=
  (isBar C s o = false ∧ isSt act = isStore o ∧ isA act = false) ∨ (isBar C s o = true ∧ barA act = true)

def actE (id : Nat) (d : Option Tmp) (x : Act1) (e : Nat → Option (Option AV)) : Nat → Option (Option AV) :=
  match d with
  | some t => updE e t (actV id x)
  | none => e

def actM (id : Nat) (x : Act1) (m : Nat → Option Blk) : Nat → Option Blk :=
  match x with
  | .new cells el none => updM m id (.own cells el)
  | .new cells el (some n) => updM m id (.pre cells el n.2)
  | .st b blk => updM m b blk
  | .app i cells el sz _ => updM (updM m i (.ro [])) id (.pre cells el sz)
  | _ => m

section
variable {P : Program} {C : Ctx} {gl : List (Nat × List AV)} {w0 : World} {R : Type}

theorem RepE.put {σ : Sg} {nt : Nat} {e : Nat → Option (Option AV)} {a : Act} (h : RepE σ nt e a) {t : Tmp} (ht : t < nt) {v : AV} {x : Value} (hv : VR σ v x) : RepE σ nt (updE e t (some v)) (a.put (some t) x) := by
  refine ⟨h.dfr, by simp [Act.put, h.size], fun u y hu => ?_, fun u hu => ?_⟩
  · unfold updE at hu
    by_cases hut : u = t
    · subst hut
      simp at hu
      subst hu
      exact ⟨x, by simp [Act.put, h.size, ht], hv⟩
    · simp [hut] at hu
      obtain ⟨z, h1, h2⟩ := h.env u y hu
      exact ⟨z, by simp [Act.put, Array.getElem?_setIfInBounds_ne (Ne.symm hut), h1], h2⟩
  · unfold updE at hu
    by_cases hut : u = t
    · subst hut; simp at hu
    · simp [hut] at hu
      simp [Act.put, Array.getElem?_setIfInBounds_ne (Ne.symm hut), h.und u hu]

theorem RepE.putN {σ : Sg} {nt : Nat} {e : Nat → Option (Option AV)} {a : Act} (h : RepE σ nt e a) {t : Tmp} (ht : t < nt) : RepE σ nt (updE e t none) (a.put (some t) undef) := by
  refine ⟨h.dfr, by simp [Act.put, h.size], fun u y hu => ?_, fun u hu => ?_⟩
  · unfold updE at hu
    by_cases hut : u = t
    · subst hut; simp at hu
    · simp [hut] at hu
      obtain ⟨z, h1, h2⟩ := h.env u y hu
      exact ⟨z, by simp [Act.put, Array.getElem?_setIfInBounds_ne (Ne.symm hut), h1], h2⟩
  · unfold updE at hu
    by_cases hut : u = t
    · subst hut
      simp [Act.put, h.size, ht]
    · simp [hut] at hu
      simp [Act.put, Array.getElem?_setIfInBounds_ne (Ne.symm hut), h.und u hu]

theorem dstOk_lt {nt : Nat} {t : Tmp} (h : dstOk nt (some t) = true) : t < nt := by
  simp only [dstOk] at h
  exact Nat.lt_of_lt_of_le (Nat.lt_succ_self t) (Nat.le_of_ble_eq_true h)

/-- The register written by an act that yields a value. -/
theorem RepE.putD {σ : Sg} {nt : Nat} {e : Nat → Option (Option AV)} {a : Act} (h : RepE σ nt e a) {d : Option Tmp} (hd : dstOk nt d = true) {id : Nat} {act : Act1} {v : AV} (ha : actV id act = some v) {x : Value} (hv : VR σ v x) :
    RepE σ nt (actE id d act e) (a.put d x) := by
  cases d with
  | none => exact h
  | some t => simp only [actE, ha]; exact h.put (dstOk_lt hd) hv

theorem RepE.putDN {σ : Sg} {nt : Nat} {e : Nat → Option (Option AV)} {a : Act} (h : RepE σ nt e a) {d : Option Tmp} (hd : dstOk nt d = true) {id : Nat} {act : Act1} (ha : actV id act = none) :
    RepE σ nt (actE id d act e) (a.put d undef) := by
  cases d with
  | none => exact h
  | some t => simp only [actE, ha]; exact h.putN (dstOk_lt hd)

theorem opv_sound {env : List (Nat × Option AV)} {x : Operand} {v : AV} (h : opv C.G env x = some v) {e : Nat → Option (Option AV)} (he : ∀ t, x = .tmp t → ∀ v, lk env t = some v → e t = some (some v))
    {U : Nat → Prop} {σ : Sg} {m : Nat → Option Blk} {w : World} (hm : RepM w0 C.G U σ m w) {nt : Nat} {a : Act} (hE : RepE σ nt e a) : VR σ v (a.eval x) := by
  cases x with
  | tmp t =>
    obtain ⟨y, h1, h2⟩ := hE.env t v (he t rfl v h)
    simpa [Act.eval, h1] using h2
  | const c => exact ofV_VR h
  | global g =>
    simp only [opv] at h
    obtain ⟨hg, h5⟩ := bif_some h
    obtain rfl := Option.some.inj h5
    have hg' : g < C.G := Nat.lt_of_lt_of_le (Nat.lt_succ_self g) (Nat.le_of_ble_eq_true hg)
    exact ⟨_, hm.glob g hg', rfl⟩
  | func f =>
    simp only [opv] at h
    obtain rfl := Option.some.inj h
    exact ⟨#[], rfl, rfl⟩

theorem opvs_sound {env : List (Nat × Option AV)} {e : Nat → Option (Option AV)} {U : Nat → Prop} {σ : Sg} {m : Nat → Option Blk} {w : World} (hm : RepM w0 C.G U σ m w) {nt : Nat} {a : Act} (hE : RepE σ nt e a) :
    ∀ {xs : List Operand} {vs : List AV}, opvs C.G env xs = some vs → (∀ t, .tmp t ∈ xs → ∀ v, lk env t = some v → e t = some (some v)) → VRs σ vs (xs.map a.eval)
  | [], vs, h, _ => by simp [opvs, mapO] at h; subst h; rfl
  | x :: xs, vs, h, he => by
    simp only [opvs, mapO] at h
    cases h1 : opv C.G env x with
    | none => simp [h1] at h
    | some v =>
      cases h2 : mapO (opv C.G env) xs with
      | none => simp [h1, h2] at h
      | some l =>
        simp [h1, h2] at h
        subst h
        exact ⟨_, _, rfl, opv_sound h1 (fun t ht => he t (by subst ht; simp)) hm hE, opvs_sound hm hE h2 (fun t ht => he t (by simp [ht]))⟩

/-- What is known of an operation: from every state of the model's that the state says, one step leads on. -/
def OpAct (P : Program) (w0 : World) (G : Nat) (o : Oper) (id : Nat) (e : Nat → Option (Option AV)) (m : Nat → Option Blk) (act : Act1) : Prop :=
  ∀ U σ a w nt, RepM w0 G U σ m w → RepE σ nt e a → U id → dstOk nt o.dst = true → ∀ (K : Act → World → Prop) (Q : Exit → Act → World → Prop),
    (∀ σ' a' w', Ext σ σ' → (∀ j, j ≠ id → σ' j = σ j) → (isSt act = false → Below w.heap.size w w') → RepM w0 G (fun j => U j ∧ j ≠ id) σ' (actM id act m) w' → RepE σ' nt (actE id o.dst act e) a' → (∀ u, o.dst ≠ some u → a'.tmps[u]? = a.tmps[u]?) → K a' w') → o.wp P a w K Q

/-- A register that is not written stays. -/
theorem put_other {a : Act} {d : Option Tmp} {x : Value} (u : Nat) (h : d ≠ some u) : (a.put d x).tmps[u]? = a.tmps[u]? := by
  cases d with
  | none => rfl
  | some t =>
    have hne : t ≠ u := fun e => h (by rw [e])
    simp [Act.put, Array.getElem?_setIfInBounds_ne hne]

theorem RepM.less {G : Nat} {U U' : Nat → Prop} {σ : Sg} {m : Nat → Option Blk} {w : World} (h : RepM w0 G U σ m w) (hU : ∀ j, U' j → U j) : RepM w0 G U' σ m w :=
  { h with fresh := fun i hi => h.fresh i (hU i hi) }

theorem wp_value {o : Oper} {a : Act} {w w' : World} {x : Value} (h : (execOp a.eval o).run P w = .ok (.value x) w') {K : Act → World → Prop} {Q : Exit → Act → World → Prop} (hK : K (a.put o.dst x) w') : o.wp P a w K Q := by
  unfold Oper.wp
  rw [h]
  exact hK

theorem wp_skip1 {o : Oper} {a : Act} {w w' : World} (h : (execOp a.eval o).run P w = .ok .skip w') {K : Act → World → Prop} {Q : Exit → Act → World → Prop} (hK : K (a.put o.dst undef) w') : o.wp P a w K Q := by
  unfold Oper.wp
  rw [h]
  exact hK

/-- An operation that yields a value and leaves the world alone. -/
theorem OpAct.val {o : Oper} {id : Nat} {e : Nat → Option (Option AV)} {m : Nat → Option Blk} {v : AV}
    (h : ∀ U σ a w nt, RepM w0 C.G U σ m w → RepE σ nt e a → ∃ x, VR σ v x ∧ (execOp a.eval o).run P w = .ok (.value x) w) : OpAct P w0 C.G o id e m (.val v) := by
  intro U σ a w nt hm hE hU hd K Q hK
  obtain ⟨x, h1, h2⟩ := h U σ a w nt hm hE
  exact wp_value h2 (hK σ _ _ (Ext.refl _) (fun _ _ => rfl) (fun _ => Below.refl _ _) (hm.less fun j hj => hj.1) (hE.putD hd rfl h1) put_other)

theorem VRs_map_eval {a : Act} {xs : Array Operand} : (xs.map a.eval).toList = xs.toList.map a.eval := by simp

/-- What is asked of the registers and of memory for an operation to go as it does in the state s. -/
def Agree (C : Ctx) (s : St) (o : Oper) (e : Nat → Option (Option AV)) (m : Nat → Option Blk) : Prop :=
  (∀ t, .tmp t ∈ o.op.operands.toList → ∀ v, lk s.env t = some v → e t = some (some v)) ∧ (∀ b, touchOf C s o = some b → m b = lkM s.mem b) ∧ (isBar C s o = true → m = lkM s.mem)

theorem Agree.op {s : St} {o : Oper} {e : Nat → Option (Option AV)} {m : Nat → Option Blk} (h : Agree C s o e m) {x : Operand} (hx : x ∈ o.op.operands.toList) {v : AV} (hv : opv C.G s.env x = some v)
    {U : Nat → Prop} {σ : Sg} {w : World} (hm : RepM w0 C.G U σ m w) {nt : Nat} {a : Act} (hE : RepE σ nt e a) : VR σ v (a.eval x) :=
  opv_sound hv (fun t ht => h.1 t (ht ▸ hx)) hm hE

theorem Agree.ops {s : St} {o : Oper} {e : Nat → Option (Option AV)} {m : Nat → Option Blk} (h : Agree C s o e m) {xs : List Operand} (hx : ∀ x ∈ xs, x ∈ o.op.operands.toList) {vs : List AV} (hv : opvs C.G s.env xs = some vs)
    {U : Nat → Prop} {σ : Sg} {w : World} (hm : RepM w0 C.G U σ m w) {nt : Nat} {a : Act} (hE : RepE σ nt e a) : VRs σ vs (xs.map a.eval) :=
  opvs_sound hm hE hv (fun t ht => h.1 t (hx _ ht))

theorem stv_blk {C : Ctx} {mem : List (Nat × Blk)} {t : TypeId} {p v : AV} {b : Nat} {blk : Blk} (h : stv C mem t p v = some (b, blk)) : blkOf p = some b := by
  unfold stv at h
  cases ht : C.ty t with
  | none => simp [ht] at h
  | some i =>
    simp only [ht] at h
    obtain ⟨_, h5⟩ := bif_some h
    obtain ⟨_, h6⟩ := bif_some h5
    cases p <;> simp only at h6 <;> try (cases h6; done)
    all_goals
      split at h6 <;> try (cases h6; done)
      split at h6 <;> try (cases h6; done)
      have h7 := Option.some.inj h6
      simp only [Prod.mk.injEq] at h7
      simp [blkOf, h7.1]

theorem updS_other {σ : Sg} {i : Nat} {x : Ex} : ∀ j, j ≠ i → updS σ i x j = σ j := fun j hj => by simp [updS, hj]

theorem actOf_sound (hC : CtxOK P C gl) {s : St} {o : Oper} {K : Act1 → Option R} {r : R} (h : actOf C s o K = some r) :
    ∃ act, K act = some r ∧ ActOk C s o act ∧ (∀ b blk, act = .st b blk → touchOf C s o = some b) ∧ ∀ w0, GOK C.G gl w0 → ∀ id e m, Agree C s o e m → OpAct P w0 C.G o id e m act := by
  obtain ⟨dst, op, type, pos, after, guard⟩ := o
  cases op <;> simp only [actOf] at h <;> try (cases h; done)
  case move x =>
    cases hx : opv C.G s.env x with
    | none => simp [hx] at h
    | some v =>
      simp only [hx] at h
      exact ⟨_, h, .inl ⟨rfl, rfl, rfl⟩, fun _ _ hq => (by cases hq), fun w0 hG id e m hA => OpAct.val fun U σ a w nt hm hE => ⟨_, hA.op (by simp [Op.operands]) hx hm hE, by simp [execOp]⟩⟩
  case assign x =>
    cases hx : opv C.G s.env x with
    | none => simp [hx] at h
    | some v =>
      simp only [hx] at h
      exact ⟨_, h, .inl ⟨rfl, rfl, rfl⟩, fun _ _ hq => (by cases hq), fun w0 hG id e m hA => OpAct.val fun U σ a w nt hm hE => ⟨_, hA.op (by simp [Op.operands]) hx hm hE, by simp [execOp]⟩⟩
  case pick c x y =>
    cases hc : opv C.G s.env c with
    | none => simp [hc] at h
    | some cv =>
      simp only [hc] at h
      cases cv <;> simp only at h <;> try (cases h; done)
      rename_i b
      cases b
      · cases hy : opv C.G s.env y with
        | none => simp [hy] at h
        | some v =>
          simp only [hy, cond_false] at h
          refine ⟨_, h, .inl ⟨rfl, rfl, rfl⟩, fun _ _ hq => (by cases hq), fun w0 hG id e m hA => OpAct.val fun U σ a w nt hm hE => ?_⟩
          have h1 := hA.op (by simp [Op.operands]) hc hm hE
          simp only [VR] at h1
          exact ⟨_, hA.op (by simp [Op.operands]) hy hm hE, by simp [execOp, h1, asBool]⟩
      · cases hy : opv C.G s.env x with
        | none => simp [hy] at h
        | some v =>
          simp only [hy, cond_true] at h
          refine ⟨_, h, .inl ⟨rfl, rfl, rfl⟩, fun _ _ hq => (by cases hq), fun w0 hG id e m hA => OpAct.val fun U σ a w nt hm hE => ?_⟩
          have h1 := hA.op (by simp [Op.operands]) hc hm hE
          simp only [VR] at h1
          exact ⟨_, hA.op (by simp [Op.operands]) hy hm hE, by simp [execOp, h1, asBool]⟩
  case alloc t =>
    cases ht : C.ty t with
    | none => simp [ht] at h
    | some i =>
      simp only [ht] at h
      obtain ⟨h0, h5⟩ := bif_none_some h
      obtain ⟨hz, h6⟩ := bif_some h5
      have hsz : i.size ≠ 0 := fun e => by rw [e] at h0; cases h0
      obtain ⟨z, hz1, hz2⟩ := zero_of (hC.ty t i ht) (Nat.eq_of_beq_eq_true hz) hsz
      refine ⟨_, h6, .inl ⟨rfl, rfl, rfl⟩, fun _ _ hq => (by cases hq), fun w0 hG id e m hA U σ a w nt hm hE hU hd K' Q hK => ?_⟩
      have hv : VRs σ i.zero z.cells.toList := mapO_VRs hz2
      have hx := updS_ext (x := ⟨w.heap.size, 0, 0, none⟩) (hm.fresh id hU)
      refine wp_value (w' := w.alloc (.cells z.cells t (0, 0))) (x := .pointer (some ⟨w.heap.size, 0, none⟩)) (by simp [execOp, Instr.alloc, hz1, newVar, newRow]) ?_
      exact hK _ _ _ hx updS_other (fun _ => (Below.refl _ _).alloc (Nat.le_refl _) _) (hm.new hU t hv) ((hE.mono hx).putD hd (v := .ptr id 0) rfl ⟨⟨w.heap.size, 0, 0, none⟩, by simp [updS], rfl⟩) put_other
  case box t x =>
    cases hx : opv C.G s.env x with
    | none => simp [hx] at h
    | some v =>
      simp only [hx] at h
      obtain ⟨hs, h5⟩ := bif_some h
      refine ⟨_, h5, .inl ⟨rfl, rfl, rfl⟩, fun _ _ hq => (by cases hq), fun w0 hG id e m hA U σ a w nt hm hE hU hd K' Q hK => ?_⟩
      have hv := (hA.op (by simp [Op.operands]) hx hm hE).cells
      have hx := updS_ext (x := ⟨w.heap.size, 0, 0, none⟩) (hm.fresh id hU)
      refine wp_value (w' := w.alloc (.cells (a.eval x).cells t (0, 0))) (x := .pointer (some ⟨w.heap.size, 0, none⟩)) (by simp [execOp, Instr.box, newVar, newRow]) ?_
      exact hK _ _ _ hx updS_other (fun _ => (Below.refl _ _).alloc (Nat.le_refl _) _) (hm.new hU t hv) ((hE.mono hx).putD hd (v := .ptr id 0) rfl ⟨⟨w.heap.size, 0, 0, none⟩, by simp [updS], rfl⟩) put_other
  case build t ps =>
    cases hb : buildA C s.env t ps.toList with
    | none => simp [hb] at h
    | some v =>
      simp only [hb] at h
      refine ⟨_, h, .inl ⟨rfl, rfl, rfl⟩, fun _ _ hq => (by cases hq), fun w0 hG id e m hA => OpAct.val fun U σ a w nt hm hE => ?_⟩
      obtain ⟨z, h1, h2⟩ := buildA_sound hC.ty hb (ρ := a.eval) (fun q hq v hv => hA.op (by simp only [Op.operands]; simpa using ⟨q.1, by simpa using hq⟩) hv hm hE) w
      refine ⟨z, h1, ?_⟩
      have e1 : (ps.toList.map fun (i, x) => (i, a.eval x)).toArray = ps.map fun (i, x) => (i, a.eval x) := by
        apply Array.ext'
        simp
      rw [e1] at h2
      simp [execOp, h2]
  case buildSlice t len ps =>
    cases ht : C.ty t with
    | none => simp [ht] at h
    | some i =>
      simp only [ht] at h
      cases hdd : i.d <;> simp only [hdd] at h <;> try (cases h; done)
      rename_i el
      cases he : C.ty el with
      | none => simp [he] at h
      | some ei =>
        simp only [he] at h
        obtain ⟨h0, h5⟩ := bif_none_some h
        obtain ⟨hz, h6⟩ := bif_some h5
        obtain ⟨hlen, h7⟩ := bif_some h6
        have hsz : ei.size ≠ 0 := fun e => by rw [e] at h0; cases h0
        have hz : ei.zero.length = ei.size := Nat.eq_of_beq_eq_true hz
        have hlen : len * ei.size ≤ 16777216 := Nat.le_of_ble_eq_true hlen
        clear h h5 h6
        cases hp : partsA C.G s.env ps.toList with
        | none => simp [hp] at h7
        | some l =>
          simp only [hp] at h7
          split at h7
          case h_2 => cases h7
          case h_1 cells hf =>
            obtain ⟨hsc, h8⟩ := bif_some h7
            refine ⟨_, h8, .inl ⟨rfl, rfl, rfl⟩, fun _ _ hq => (by cases hq), fun w0 hG id e m hA U σ a w nt hm hE hU hd K' Q hK => ?_⟩
            obtain ⟨us, h1, h2⟩ := buildSlice_sound hC.ty ht hdd he hsz hz hlen hp hf (ρ := a.eval) (fun q hq v hv => hA.op (by simp only [Op.operands]; simpa using ⟨q.1, by simpa using hq⟩) hv hm hE) w
            have hx := updS_ext (x := ⟨w.heap.size, 0, len, none⟩) (hm.fresh id hU)
            have h3 : us.size = len * ei.size := by
              have := h1.length
              rw [fillL_len hf, repL_len, hz] at this
              simpa using this
            have e1 : (ps.toList.map fun (i, x) => (i, a.eval x)).toArray = ps.map fun (i, x) => (i, a.eval x) := by
              apply Array.ext'
              simp
            rw [e1] at h2
            refine wp_value (w' := w.alloc (.cells us el (0, 0))) (x := .slice (some ⟨w.heap.size, 0, none⟩) len len) (by simp [execOp, h2]) ?_
            exact hK _ _ _ hx updS_other (fun _ => (Below.refl _ _).alloc (Nat.le_refl _) _) (hm.newP hU el (by simp only [maxLen]; have := Nat.le_mul_of_pos_right len (Nat.pos_of_ne_zero hsz); omega) hsc h3 h1) ((hE.mono hx).putD hd (v := .slice id 0 len) rfl ⟨⟨w.heap.size, 0, len, none⟩, by simp [updS], rfl⟩) put_other
  case load t x =>
    cases hx : opv C.G s.env x with
    | none => simp [hx] at h
    | some p =>
      simp only [hx] at h
      cases hl : ldv C s.mem t p with
      | none => simp [hl] at h
      | some v =>
        simp only [hl] at h
        refine ⟨_, h, .inl ⟨rfl, rfl, rfl⟩, fun _ _ hq => (by cases hq), fun w0 hG id e m hA => OpAct.val fun U σ a w nt hm hE => ?_⟩
        obtain ⟨z, h1, h2⟩ := ldv_sound hC.ty hl hm (fun b hb => hA.2.1 b (by simp [touchOf, hx, hb])) (hA.op (by simp [Op.operands]) hx hm hE)
        exact ⟨z, h1, by simp [execOp, h2]⟩
  case store t x y =>
    cases hx : opv C.G s.env x with
    | none => simp [hx] at h
    | some p =>
      simp only [hx] at h
      cases hy : opv C.G s.env y with
      | none => simp [hy] at h
      | some v =>
        simp only [hy] at h
        cases hst : stv C s.mem t p v with
        | none => simp [hst] at h
        | some q =>
          obtain ⟨b, blk⟩ := q
          simp only [hst] at h
          refine ⟨_, h, .inl ⟨rfl, rfl, rfl⟩, fun b' blk' hq => (by cases hq; simp [touchOf, hx, stv_blk hst]), fun w0 hG id e m hA U σ a w nt hm hE hU hd K' Q hK => ?_⟩
          obtain ⟨w', h1, h2⟩ := stv_sound hC.ty hst hm (fun b hb => hA.2.1 b (by simp [touchOf, hx, hb])) (hA.op (by simp [Op.operands]) hx hm hE) (hA.op (by simp [Op.operands]) hy hm hE)
          exact wp_skip1 (w' := w') (by simp [execOp, h2]) (hK _ _ _ (Ext.refl _) (fun _ _ => rfl) (fun h => by cases h) (h1.less fun j hj => hj.1) (hE.putDN hd rfl) put_other)
  case nilCheck x =>
    cases hx : opv C.G s.env x with
    | none => simp [hx] at h
    | some v =>
      simp only [hx] at h
      cases v <;> simp only at h <;> try (cases h; done)
      all_goals
        refine ⟨_, h, .inl ⟨rfl, rfl, rfl⟩, fun _ _ hq => (by cases hq), fun w0 hG id e m hA => OpAct.val fun U σ a w nt hm hE => ?_⟩
        have h1 := hA.op (by simp [Op.operands]) hx hm hE
        refine ⟨a.eval x, h1, ?_⟩
      · obtain ⟨b, _, hv⟩ := h1; simp [execOp, hv]
      · obtain ⟨b, _, hv, _⟩ := h1; simp [execOp, hv]
      · obtain ⟨b, _, hv, _⟩ := h1; simp [execOp, hv]
      · obtain ⟨b, _, hv, _⟩ := h1; simp [execOp, hv]
  case binOp op t x y yt =>
    cases hx : opv C.G s.env x with
    | none => simp [hx] at h
    | some p =>
      simp only [hx] at h
      cases hy : opv C.G s.env y with
      | none => simp [hy] at h
      | some q =>
        simp only [hy] at h
        obtain ⟨v, h1, h2⟩ := binA_sound hC.ty h
        refine ⟨_, h1, .inl ⟨rfl, rfl, rfl⟩, fun _ _ hq => (by cases hq), fun w0 hG id e m hA => OpAct.val fun U σ a w nt hm hE => ?_⟩
        obtain ⟨z, h3, h4⟩ := h2 σ _ _ x y w (hA.op (by simp [Op.operands]) hx hm hE) (hA.op (by simp [Op.operands]) hy hm hE)
        exact ⟨z, h3, by simp only [execOp, Sem.run_bind] at h4 ⊢; rw [h4]; simp⟩
  case unOp op t x =>
    cases hx : opv C.G s.env x with
    | none => simp [hx] at h
    | some v =>
      simp only [hx] at h
      cases v <;> simp only at h <;> try (cases h; done)
      · cases op <;> simp only at h <;> try (cases h; done)
        refine ⟨_, h, .inl ⟨rfl, rfl, rfl⟩, fun _ _ hq => (by cases hq), fun w0 hG id e m hA => OpAct.val fun U σ a w nt hm hE => ?_⟩
        have h1 := hA.op (by simp [Op.operands]) hx hm hE
        simp only [VR] at h1
        exact ⟨_, rfl, by simp [execOp, h1, Op.unary]⟩
      · cases op <;> simp only at h <;> try (cases h; done)
        refine ⟨_, h, .inl ⟨rfl, rfl, rfl⟩, fun _ _ hq => (by cases hq), fun w0 hG id e m hA => OpAct.val fun U σ a w nt hm hE => ?_⟩
        have h1 := hA.op (by simp [Op.operands]) hx hm hE
        simp only [VR] at h1
        exact ⟨_, rfl, by simp [execOp, h1, Op.unary, Op.intArith]⟩
  case convert src dt x =>
    cases hs : C.ty src with
    | none => simp [hs] at h
    | some si =>
      simp only [hs] at h
      cases hd : C.ty dt with
      | none => simp [hd] at h
      | some di =>
        simp only [hd] at h
        obtain ⟨_, hus, _⟩ := und_of (hC.ty src si hs)
        obtain ⟨dd, hud, hr⟩ := und_of (hC.ty dt di hd)
        cases hdd : di.d <;> simp only [hdd] at h hr <;> try (cases h; done)
        cases hr
        cases hx : opv C.G s.env x with
        | none => simp [hx] at h
        | some v =>
          simp only [hx] at h
          cases v <;> simp only at h <;> try (cases h; done)
          refine ⟨_, h, .inl ⟨rfl, rfl, rfl⟩, fun _ _ hq => (by cases hq), fun w0 hG id e m hA => OpAct.val fun U σ a w nt hm hE => ?_⟩
          have h1 := hA.op (by simp [Op.operands]) hx hm hE
          simp only [VR] at h1
          exact ⟨_, rfl, by simp [execOp, h1, convert, run_underlying hus, run_underlying hud, Conv.intToInt]⟩
  case makeFunc fn first cap =>
    cases fn <;> simp only at h <;> try (cases h; done)
    rename_i f
    obtain ⟨hf, h5⟩ := bif_some h
    have hf0 : first.size = 0 := Nat.eq_of_beq_eq_true hf
    have hf1 : first = #[] := by simpa using hf0
    cases hl : opvs C.G s.env cap.toList with
    | none => simp [hl] at h5
    | some l =>
      simp only [hl] at h5
      refine ⟨_, h5, .inl ⟨rfl, rfl, rfl⟩, fun _ _ hq => (by cases hq), fun w0 hG id e m hA => OpAct.val fun U σ a w nt hm hE => ?_⟩
      have h1 := hA.ops (fun x hx => by simpa [Op.operands, hf1] using hx) hl hm hE
      exact ⟨_, ⟨cap.map a.eval, rfl, by simpa using h1⟩, by simp [execOp, Instr.makeFunc, hf1]⟩
  case fieldAddr t x f =>
    cases hx : opv C.G s.env x with
    | none => simp [hx] at h
    | some p =>
      simp only [hx] at h
      cases hl : fieldA C t p f with
      | none => simp [hl] at h
      | some v =>
        simp only [hl] at h
        refine ⟨_, h, .inl ⟨rfl, rfl, rfl⟩, fun _ _ hq => (by cases hq), fun w0 hG id e m hA => OpAct.val fun U σ a w nt hm hE => ?_⟩
        obtain ⟨z, h1, h2⟩ := fieldA_sound hC.ty hl (hA.op (by simp [Op.operands]) hx hm hE) w
        exact ⟨z, h1, by simp [execOp, h2]⟩
  case field t x f =>
    cases hx : opv C.G s.env x with
    | none => simp [hx] at h
    | some p =>
      simp only [hx] at h
      cases hl : fieldV C t p f with
      | none => simp [hl] at h
      | some v =>
        simp only [hl] at h
        refine ⟨_, h, .inl ⟨rfl, rfl, rfl⟩, fun _ _ hq => (by cases hq), fun w0 hG id e m hA => OpAct.val fun U σ a w nt hm hE => ?_⟩
        obtain ⟨z, h1, h2⟩ := fieldV_sound hC.ty hl (hA.op (by simp [Op.operands]) hx hm hE) w
        exact ⟨z, h1, by simp [execOp, h2]⟩
  case indexAddr t x ix =>
    cases hx : opv C.G s.env x with
    | none => simp [hx] at h
    | some p =>
      simp only [hx] at h
      cases hy : opv C.G s.env ix with
      | none => simp [hy] at h
      | some q =>
        simp only [hy] at h
        cases q <;> simp only at h <;> try (cases h; done)
        rename_i k n
        obtain ⟨v, h1, h2⟩ := ixAddr_sound hC.ty h
        refine ⟨_, h1, .inl ⟨rfl, rfl, rfl⟩, fun _ _ hq => (by cases hq), fun w0 hG id e m hA => OpAct.val fun U σ a w nt hm hE => ?_⟩
        have h3 := hA.op (by simp [Op.operands]) hy hm hE
        simp only [VR] at h3
        obtain ⟨z, h4, h5⟩ := h2 σ _ k w (hA.op (by simp [Op.operands]) hx hm hE)
        exact ⟨z, h4, by simp [execOp, h3, h5]⟩
  case index t x ix =>
    cases hx : opv C.G s.env x with
    | none => simp [hx] at h
    | some p =>
      simp only [hx] at h
      cases hy : opv C.G s.env ix with
      | none => simp [hy] at h
      | some q =>
        simp only [hy] at h
        cases q <;> simp only at h <;> try (cases h; done)
        rename_i k n
        obtain ⟨v, h1, h2⟩ := ixVal_sound hC.ty h
        refine ⟨_, h1, .inl ⟨rfl, rfl, rfl⟩, fun _ _ hq => (by cases hq), fun w0 hG id e m hA => OpAct.val fun U σ a w nt hm hE => ?_⟩
        have h3 := hA.op (by simp [Op.operands]) hy hm hE
        simp only [VR] at h3
        obtain ⟨z, h4, h5⟩ := h2 σ _ k w (hA.op (by simp [Op.operands]) hx hm hE)
        exact ⟨z, h4, by simp [execOp, h3, h5]⟩
  case slice t x low high max =>
    cases low <;> simp only at h <;> try (cases h; done)
    cases max <;> simp only at h <;> try (cases h; done)
    cases high <;> simp only at h <;> try (cases h; done)
    rename_i hi
    cases ht : C.ty t with
    | none => simp [ht] at h
    | some i =>
      simp only [ht] at h
      obtain ⟨dd, hu, hr⟩ := und_of (hC.ty t i ht)
      cases hdd : i.d <;> simp only [hdd] at h hr <;> try (cases h; done)
      rename_i el
      cases hr
      cases he : C.ty el with
      | none => simp [he] at h
      | some ei =>
        simp only [he] at h
        have hse := run_sizeOf' (hC.ty el ei he)
        cases hx : opv C.G s.env x with
        | none => simp [hx] at h
        | some p =>
          simp only [hx] at h
          cases p <;> simp only at h <;> try (cases h; done)
          rename_i b len ks q
          cases hy : opv C.G s.env hi with
          | none => simp [hy] at h
          | some y =>
            simp only [hy] at h
            cases y <;> simp only at h <;> try (cases h; done)
            rename_i k n
            obtain ⟨h0, h5⟩ := bif_some h
            obtain ⟨h1, h6⟩ := bif_some h5
            have h0 : 0 ≤ n := by simpa using h0
            have h1 : n ≤ (len : Int) := by simpa using h1
            refine ⟨_, h6, .inl ⟨rfl, rfl, rfl⟩, fun _ _ hq => (by cases hq), fun w0 hG id e m hA => OpAct.val fun U σ a w nt hm hE => ?_⟩
            have h2 := hA.op (by simp [Op.operands]) hy hm hE
            simp only [VR] at h2
            have h3 := hA.op (by simp [Op.operands]) hx hm hE
            rcases h3 with ⟨z, c, hz, hv, hle, hlc, hrw⟩ | ⟨hv, rfl⟩
            · have hnc : n ≤ (c : Int) := by omega
              refine ⟨_, .inl ⟨z, c, hz, rfl, by omega, by omega, hrw⟩, ?_⟩
              simp [execOp, Instr.sliceAt, Instr.slice, Instr.sliceBounds, Instr.sliceBound, asIntOf, h2, hv, run_underlying hu, hse, h0, hnc, add_none]
            · have hn : n = 0 := by omega
              subst hn
              refine ⟨_, .inr ⟨rfl, rfl⟩, ?_⟩
              simp [execOp, Instr.sliceAt, Instr.slice, Instr.sliceBounds, Instr.sliceBound, asIntOf, h2, hv, run_underlying hu, hse]
  case extract x i =>
    cases hx : opv C.G s.env x with
    | none => simp [hx] at h
    | some p =>
      simp only [hx] at h
      cases p <;> simp only at h <;> try (cases h; done)
      rename_i l
      cases hl : getL l i with
      | none => simp [hl] at h
      | some v =>
        simp only [hl] at h
        refine ⟨_, h, .inl ⟨rfl, rfl, rfl⟩, fun _ _ hq => (by cases hq), fun w0 hG id e m hA => OpAct.val fun U σ a w nt hm hE => ?_⟩
        obtain ⟨vs, hvs, hr⟩ := hA.op (by simp [Op.operands]) hx hm hE
        rw [getL_eq] at hl
        obtain ⟨y, h1, h2⟩ := hr.get hl
        exact ⟨y, h2, by simp at h1; simp [execOp, hvs, Instr.extract, h1]⟩
  case call c =>
    cases hc : c.callee <;> simp only [hc] at h <;> try (cases h; done)
    case value f =>
      cases hf : opv C.G s.env f with
      | none => simp [hf] at h
      | some fv =>
        simp only [hf] at h
        cases fv <;> simp only at h <;> try (cases h; done)
        rename_i id cap
        cases hl : opvs C.G s.env c.args.toList with
        | none => simp [hl] at h
        | some args =>
          simp only [hl] at h
          cases hF : C.con id with
          | none => simp [hF] at h
          | some F =>
            simp only [hF] at h
            cases hcr : F (args ++ cap) with
            | none =>
              simp only [hcr] at h
              cases hF2 : C.cm id with
              | none => simp [hF2] at h
              | some F2 =>
                simp only [hF2] at h
                cases hcr2 : F2 (args ++ cap) s.mem with
                | none => simp [hcr2] at h
                | some cr =>
                  simp only [hcr2] at h
                  obtain ⟨v, hv, h5⟩ := Option.bind_eq_some_iff.1 h
                  obtain ⟨hpl, h5⟩ := bif_some h5
                  have hbar : isBar C s ⟨dst, .call c, type, pos, after, guard⟩ = true := by simp only [isBar, hc, hf, hF, hl, hcr]
                  refine ⟨_, h5, .inr ⟨hbar, rfl⟩, fun _ _ hq => (by cases hq), fun w0 hG id' e m hA U σ a w nt hm hE hU hd K' Q hK => ?_⟩
                  obtain ⟨vs, hvs, hcap⟩ := hA.op (x := f) (by simp [Op.operands, Call.operands, hc]) hf hm hE
                  have hargs := hA.ops (fun x hx => by simp at hx; simp [Op.operands, Call.operands, hx]) hl hm hE
                  have sp := hC.cm id F2 hF2
                  have hmm := hA.2.2 hbar
                  subst hmm
                  have hcalls := sp.calls _ _ _ hcr2 v hv w0 U σ (c.args.map a.eval ++ vs) w hm (by simpa using hargs.append hcap) (hG.later hm.below)
                  unfold Oper.wp
                  have hrun : (execOp a.eval ⟨dst, .call c, type, pos, after, guard⟩).run P w = .ok (.enter id (c.args.map a.eval ++ vs)) w := by
                    simp [execOp, resolve, hc, hvs, Deferred.ofValue, invoke, sp.call]
                  rw [hrun, Oper.upon_enter]
                  refine hcalls.mono ?_
                  rintro ex w' ⟨rv, rfl, hrv, hb⟩
                  exact hK σ _ _ (Ext.refl _) (fun _ _ => rfl) (fun _ => hb) ((hm.later hb).less fun j hj => hj.1) (hE.putD hd rfl hrv) put_other
            | some cr =>
              simp only [hcr] at h
              obtain ⟨v, hv, h5⟩ := Option.bind_eq_some_iff.1 h
              have hbar : isBar C s ⟨dst, .call c, type, pos, after, guard⟩ = false := by simp only [isBar, hc, hf, hF, hl, hcr]
              refine ⟨_, h5, .inl ⟨hbar, rfl, rfl⟩, fun _ _ hq => (by cases hq), fun w0 hG id' e m hA U σ a w nt hm hE hU hd K' Q hK => ?_⟩
              obtain ⟨vs, hvs, hcap⟩ := hA.op (x := f) (by simp [Op.operands, Call.operands, hc]) hf hm hE
              have hargs := hA.ops (fun x hx => by simp at hx; simp [Op.operands, Call.operands, hx]) hl hm hE
              have sp := hC.con id F hF
              have hcalls := sp.calls _ _ hcr v hv σ (c.args.map a.eval ++ vs) w (by simpa using hargs.append hcap) (hG.later hm.below) ((hm.rows).later hm.below)
              unfold Oper.wp
              have hrun : (execOp a.eval ⟨dst, .call c, type, pos, after, guard⟩).run P w = .ok (.enter id (c.args.map a.eval ++ vs)) w := by
                simp [execOp, resolve, hc, hvs, Deferred.ofValue, invoke, sp.call]
              rw [hrun, Oper.upon_enter]
              refine hcalls.mono ?_
              rintro ex w' ⟨rv, rfl, hrv, hb⟩
              exact hK σ _ _ (Ext.refl _) (fun _ _ => rfl) (fun _ => hb) ((hm.later hb).less fun j hj => hj.1) (hE.putD hd rfl hrv) put_other
    case builtin b =>
      cases hl : opvs C.G s.env c.args.toList with
      | none => simp [hl] at h
      | some args =>
        simp only [hl] at h
        cases hap : isApp b with
        | true =>
          simp only [hap, cond_true] at h
          have hb : b = .append := by cases b <;> simp [isApp] at hap ⊢
          subst hb
          have hbar : isBar C s ⟨dst, .call c, type, pos, after, guard⟩ = true := by simp only [isBar, hc, isApp]
          cases ha : appA C s.mem c.argTypes.toList args with
          | none => simp [ha] at h
          | some act =>
            simp only [ha] at h
            have hact : ∃ i cs el sz n, act = .app i cs el sz n := appA_app ha
            obtain ⟨i, cs, el, sz, n, rfl⟩ := hact
            refine ⟨_, h, .inr ⟨hbar, rfl⟩, fun _ _ hq => (by cases hq), fun w0 hG id e m hA U σ a w nt hm hE hU hd K' Q hK => ?_⟩
            have hargs := hA.ops (fun x hx => by simp at hx; simp [Op.operands, Call.operands, hx]) hl hm hE
            obtain ⟨i', cs', el', sz', n', he, hrest⟩ := appA_sound (P := P) hC.ty ha (hA.2.2 hbar) hm (vs := c.args.map a.eval) (by simpa using hargs)
            cases he
            obtain ⟨z, w', σ', hrun, hx, hother, hvr, hrep⟩ := hrest type _ id hU
            refine wp_value (w' := w') (x := z) (by simp [execOp, resolve, hc, invoke]; exact hrun) ?_
            exact hK σ' _ _ hx hother (fun h => by cases h) hrep ((hE.mono hx).putD hd (v := .slice id 0 n) rfl hvr) put_other
        | false =>
        simp only [hap, cond_false] at h
        have hbar : isBar C s ⟨dst, .call c, type, pos, after, guard⟩ = false := by simp only [isBar, hc, hap]
        cases hb : builtA C b c.argTypes.toList args with
        | none => simp [hb] at h
        | some v =>
          simp only [hb] at h
          refine ⟨_, h, .inl ⟨hbar, rfl, rfl⟩, fun _ _ hq => (by cases hq), fun w0 hG id e m hA => OpAct.val fun U σ a w nt hm hE => ?_⟩
          have hargs := hA.ops (fun x hx => by simp at hx; simp [Op.operands, Call.operands, hx]) hl hm hE
          obtain ⟨z, h1, h2⟩ := builtA_sound (P := P) hC.ty hb (vs := c.args.map a.eval) (by simpa using hargs)
          exact ⟨z, h1, by simp [execOp, resolve, hc, invoke, h2]⟩
end
end Go.VE
