/-
  THE READING MACHINE: the theorem to use: a function's contract out of its evaluation.
-/
import Derived.Test.YtfpmbgknojbkcaaDoorVEl
namespace Go.VE
open Go.RowKit (Below)
set_option linter.unusedSimpArgs false
set_option linter.unusedVariables false

section
variable {P : Program} {C : Ctx} {gl : List (Nat × List AV)} {R : Type}

theorem ev_sound (hC : CtxOK P C gl) : ∀ n, EvOK P C gl (evR C n)
  | 0 => fun R nt c s K r h => by cases h
  | n + 1 => evStep_sound hC (ev_sound hC n)

theorem evF_sound (hC : CtxOK P C gl) {n : Nat} {f : FuncId} {fn : Func} (hf : P.funcs[f]? = some fn) {args : List AV} {mem : List (Nat × Blk)} {nx : Nat} {K : AV → Option R} {r : R} (h : evF C n fn args mem nx K = some r) :
    ∃ v, K v = some r ∧ ∀ w0, GOK C.G gl w0 → ∀ σ (vals : Array Value) w, VRs σ args vals.toList → RepM w0 C.G (fun j => nx ≤ j) σ (lkM mem) w →
      Calls P f vals w (fun e w' => ∃ rv σ', e = .returned rv ∧ Ext σ σ' ∧ VR σ' v rv ∧ Below w0.heap.size w0 w') := by
  unfold evF at h
  cases hb : fn.body with
  | none => simp [hb] at h
  | some b =>
    simp only [hb] at h
    obtain ⟨hle, h5⟩ := bif_some h
    obtain ⟨v, mem', nx', h1, h2, h3⟩ := body_sound hC (ev_sound hC n) hf hb hle (k := fun v _ _ => K v) h5
    refine ⟨v, h1, fun w0 hG σ vals w hv hm => (h3 w0 hG σ vals w hv hm).mono ?_⟩
    rintro e w' ⟨rv, σ', h4, h5, h6, h7⟩
    exact ⟨rv, σ', h4, h5, h6, h7.below⟩

theorem glMem_lk : ∀ {gl : List (Nat × List AV)} {i : Nat} {b : Blk}, lkM (glMem gl) i = some b → ∃ cs, (i, cs) ∈ gl ∧ b = .ro cs
  | [], i, b, h => by simp [glMem, lkM] at h
  | (j, cs) :: r, i, b, h => by
    simp only [glMem] at h
    rw [lkM_cons] at h
    unfold updM at h
    split at h
    · rename_i hi
      subst hi
      simp at h
      exact ⟨cs, by simp, h.symm⟩
    · obtain ⟨cs', h1, h2⟩ := glMem_lk h
      exact ⟨cs', by simp [h1], h2⟩

/-- The memory that a call finds which has no address among its arguments. -/
theorem RepM.start {G : Nat} {w : World} (h : GOK G gl w) : RepM w G (fun j => G ≤ j) (fun i => if i < G then some ⟨i, 0, 0⟩ else none) (lkM (glMem gl)) w where
  below := Below.refl _ _
  fresh i hi := by rw [if_neg (by omega)]
  blk i b hb := by
    obtain ⟨cs, h1, rfl⟩ := glMem_lk hb
    obtain ⟨h2, h3⟩ := h.2 _ h1
    refine ⟨⟨i, 0, 0⟩, by rw [if_pos h2], fun j c hc => ?_⟩
    obtain ⟨x, h4, h5⟩ := h3 j c hc
    exact ⟨x, by simpa using h4, h5 _⟩
  own i cs el x hi _ := by
    obtain ⟨cs', _, h2⟩ := glMem_lk hi
    cases h2
  inj i j x y _ _ _ ho := by
    obtain ⟨cs, el, hi⟩ := ho
    obtain ⟨cs', _, h2⟩ := glMem_lk hi
    cases h2
  lt i x hx := by
    split at hx
    · obtain rfl := Option.some.inj hx
      exact Nat.lt_of_lt_of_le ‹_› h.1
    · cases hx
  glob g hg := by rw [if_pos hg]

def plainVs : List AV → Bool
  | [] => true
  | x :: r => bif plainV x then plainVs r else false

theorem plainVs_VR {σ σ' : Sg} : ∀ {a : List AV} {v : List Value}, plainVs a = true → VRs σ a v → VRs σ' a v
  | [], _, _, hv => hv
  | x :: r, _, h, ⟨v, vs, e, h1, h2⟩ => by
    simp only [plainVs] at h
    cases hx : plainV x <;> simp [hx] at h
    exact ⟨v, vs, e, plainV_VR hx h1, plainVs_VR h h2⟩

/-- **A contract**: F says of plain arguments what the function answers; 'dec' reads an answer back. -/
theorem mkSpec (hC : CtxOK P C gl) {f : FuncId} {fn : Func} (hf : P.funcs[f]? = some fn) (hcall : ∀ args w, (callFunc f args).run P w = .ok (.enter f args) w) (n : Nat) {F : List AV → Option ConR}
    (h : ∀ args cr, F args = some cr → plainVs args = true ∧ ∃ dec : AV → Option cr.T, evF C n fn args (glMem gl) C.G dec = cr.x ∧ ∀ av t, dec av = some t → av = cr.enc t ∧ plainV (cr.enc t) = true) : Spec P C.G gl f F := by
  refine ⟨hcall, fun args cr hF v hv σ vals w hvals hG => ?_⟩
  obtain ⟨hpl, dec, hev, hdec⟩ := h args cr hF
  rw [hv] at hev
  obtain ⟨av, h1, h2⟩ := evF_sound hC hf hev
  refine (h2 w hG _ vals w (plainVs_VR hpl hvals) (RepM.start hG)).mono ?_
  rintro e w' ⟨rv, σ', rfl, _, hr, hb⟩
  obtain ⟨rfl, hpe⟩ := hdec av v h1
  exact ⟨rv, rfl, plainV_VR hpe hr, hb⟩

/-- The same without a contract: one call. -/
theorem calls_of_ev (hC : CtxOK P C gl) {f : FuncId} {fn : Func} (hf : P.funcs[f]? = some fn) (n : Nat) {args : List AV} (hpl : plainVs args = true) {K : AV → Option R} {r : R} (h : evF C n fn args (glMem gl) C.G K = some r) :
    ∃ v, K v = some r ∧ ∀ σ (vals : Array Value) w, VRs σ args vals.toList → GOK C.G gl w → Calls P f vals w (fun e w' => ∃ rv σ', e = .returned rv ∧ VR σ' v rv ∧ Below w.heap.size w w') := by
  obtain ⟨v, h1, h2⟩ := evF_sound hC hf h
  refine ⟨v, h1, fun σ vals w hv hG => (h2 w hG _ vals w (plainVs_VR hpl hv) (RepM.start hG)).mono ?_⟩
  rintro e w' ⟨rv, σ', h3, _, h4, h5⟩
  exact ⟨rv, σ', h3, h4, h5⟩

/-! ### A context, from closed facts -/
theorem callFunc_run {f : FuncId} {fn : Func} (hf : P.funcs[f]? = some fn) (hn : (fn.name == "runtime.NumGoroutine") = false) (hb : fn.body.isNone = false) (args : Array Value) (w : World) :
    (callFunc f args).run P w = .ok (.enter f args) w := by
  simp only [callFunc, Sem.run_bind, run_program, Result.andThen_ok, hf, hn, Bool.false_eq_true, if_false, hb, Sem.run_pure]

theorem assoc_mem {α : Type _} : ∀ {l : List (Nat × α)} {i : Nat} {x : α}, assoc l i = some x → (i, x) ∈ l
  | [], _, _, h => by simp [assoc] at h
  | (j, y) :: r, i, x, h => by
    simp only [assoc] at h
    by_cases hji : j = i
    · subst hji
      simp only [beq_self, cond_true] at h
      obtain rfl := Option.some.inj h
      simp
    · simp only [beq_ne hji, cond_false] at h
      exact List.mem_cons_of_mem _ (assoc_mem h)

theorem tys_of {l : List (Nat × TyI)} (h : l.map (fun p => tyOf P p.1) = l.map (fun p => some p.2)) : ∀ t i, assoc l t = some i → tyOf P t = some i := by
  intro t i hi
  have hm := assoc_mem hi
  clear hi
  induction l with
  | nil => simp at hm
  | cons p l ih =>
    simp only [List.map_cons, List.cons.injEq] at h
    rcases List.mem_cons.1 hm with rfl | hm
    · exact h.1
    · exact ih h.2 hm
end
end Go.VE
