/-
  THE READING MACHINE: the theorem to use: a function's contract out of its evaluation.
-/
import Derived.Test.YtggiamcgkiaicaaDoorVEl
namespace Go.VE
open Go.RowKit (Below)
set_option linter.unusedSimpArgs false
set_option linter.unusedVariables false

section
variable {P : Program} {C : Ctx} {gl : List (Nat × List AV)} {R : Type}

theorem ev_sound (hC : CtxOK P C gl) : ∀ n, EvOK P C gl (evR C n)
  | 0 => fun R nt c s K r _ h => by cases h
  | n + 1 => evStep_sound hC (ev_sound hC n)

/-- **A loop's contract**, out of one round's evaluation. -/
theorem loop_rounds (hC : CtxOK P C gl) (n : Nat) {nt : Nat} {b : Code} (hb : ∀ l ∈ loopsL b, LpOK P C gl nt l) {T0 : ST} {outs : List (AExit × ST)} (hlow : lowST T0 = true) (hout : outsNx T0.nx outs = true)
    {step : ((Nat → Int) → (Nat → Sl) → Option LR) → (Nat → Int) → (Nat → Sl) → Option LR} (hstep : ∀ rec X Y, evR C n LR nt b (encT X Y T0) (roundK T0 outs rec) = step rec X Y) :
    ∀ m X Y r, iterL step m X Y = some r → ∃ o, outOf r outs 0 = some o ∧ T0.nx ≤ o.2.nx ∧ ∀ w0, GOK C.G gl w0 → ∀ σ a w, RepM w0 C.G (fun j => T0.nx ≤ j) σ (lkM (encT X Y T0).mem) w → RepE σ nt (lk2 (encT X Y T0).env) a →
      ∀ Q : Exit → Act → World → Prop, (∀ σ' a' w', Ext σ σ' → RepM w0 C.G (fun j => o.2.nx ≤ j) σ' (lkM (encT r.2.1 r.2.2 o.2).mem) w' → RepE σ' nt (lk2 (encT r.2.1 r.2.2 o.2).env) a' → Q o.1.ex a' w') → Code.rounds P b Q m a w
  | 0, X, Y, r, h => by simp [iterL] at h
  | m + 1, X, Y, r, h => by
    simp only [iterL] at h
    rw [← hstep] at h
    obtain ⟨e, s', N, hK, hnx, hwp⟩ := ev_sound hC n _ _ _ _ _ _ hb h
    have hwp := fun w0 hG σ a w hm hE Q hQ => wpX_wp (hwp w0 hG σ a w hm hE Q hQ)
    have leave : ∀ e, outDec e s' outs 0 = some r → (∃ i, e = .exit i) ∨ e = .ret → (∀ w0, GOK C.G gl w0 → ∀ σ a w, RepM w0 C.G (fun j => T0.nx ≤ j) σ (lkM (encT X Y T0).mem) w → RepE σ nt (lk2 (encT X Y T0).env) a → ∀ Q : Exit → Act → World → Prop,
        (∀ σ' a' w', Ext σ σ' → RepM w0 C.G (fun j => s'.nx ≤ j) σ' (lkM s'.mem) w' → RepE σ' nt (lk2 s'.env) a' → Q e.ex a' w') → b.wp P Q a w) →
        ∃ o, outOf r outs 0 = some o ∧ T0.nx ≤ o.2.nx ∧ ∀ w0, GOK C.G gl w0 → ∀ σ a w, RepM w0 C.G (fun j => T0.nx ≤ j) σ (lkM (encT X Y T0).mem) w → RepE σ nt (lk2 (encT X Y T0).env) a →
      ∀ Q : Exit → Act → World → Prop, (∀ σ' a' w', Ext σ σ' → RepM w0 C.G (fun j => o.2.nx ≤ j) σ' (lkM (encT r.2.1 r.2.2 o.2).mem) w' → RepE σ' nt (lk2 (encT r.2.1 r.2.2 o.2).env) a' → Q o.1.ex a' w') → Code.rounds P b Q (m + 1) a w := by
      intro e hd hne hwp
      obtain ⟨_, T, q, h1, h2, h3, h4, h5⟩ := outDec_spec hd
      obtain ⟨d1, d2, d3⟩ := decT_spec h2
      refine ⟨(e, T), h1, outsNx_spec hout _ h5, fun w0 hG σ a w hm hE Q hQ => ?_⟩
      rw [rounds_succ]
      refine hwp w0 hG σ a w hm hE _ fun σ' a' w' hx hm' hE' => ?_
      have : Q e.ex a' w' := hQ σ' a' w' hx (by rw [h3, h4]; exact (hm'.sub d3).less fun j hj => Nat.le_trans d1 hj) (by rw [h3, h4]; exact hE'.sub d2)
      rcases hne with ⟨i, rfl⟩ | rfl
      · exact this
      · exact this
    cases e with
    | exit i => exact leave _ hK (.inl ⟨i, rfl⟩) hwp
    | ret => exact leave _ hK (.inr rfl) hwp
    | normal =>
      simp only [roundK] at hK
      cases hd : decT T0 { s' with nx := T0.nx } with
      | none => simp [hd] at hK
      | some q =>
        simp only [hd] at hK
        obtain ⟨d1, d2, d3⟩ := decT_spec hd
        obtain ⟨o, h1, h2, h3⟩ := loop_rounds hC n hb hlow hout hstep m _ _ r hK
        refine ⟨o, h1, h2, fun w0 hG σ a w hm hE Q hQ => ?_⟩
        rw [rounds_succ]
        refine hwp w0 hG σ a w hm hE _ fun σ' a' w' hx hm' hE' => ?_
        obtain ⟨l1, l2⟩ := low_T (nthI q.1) (nthS q.2) hlow
        have hlow' : ∀ i x, σ i = some x → i < T0.nx := fun i x hi => by
          refine Nat.lt_of_not_le fun hle => ?_
          rw [hm.fresh i hle] at hi
          cases hi
        have hGn : C.G ≤ T0.nx := by
          refine Nat.le_of_not_lt fun hlt => ?_
          have := hm.glob T0.nx hlt
          rw [hm.fresh T0.nx (Nat.le_refl _)] at this
          cases this
        have hm2 := cut_M (hm'.sub d3) l2 hGn
        have hE2 := cut_E (hE'.sub d2) l1
        exact h3 w0 hG (lowS T0.nx σ') a' w' hm2 hE2 Q fun σ3 a3 w3 hx3 => hQ σ3 a3 w3 (fun i x hi => hx3 i x (by rw [← lowS_eq i (hlow' i x hi)]; exact hx i x hi))

theorem loop_ok (hC : CtxOK P C gl) (n : Nat) {nt : Nat} {b : Code} (hb : ∀ l ∈ loopsL b, LpOK P C gl nt l) {T0 : ST} {outs : List (AExit × ST)} (hlow : lowST T0 = true) (hout : outsNx T0.nx outs = true)
    {step : ((Nat → Int) → (Nat → Sl) → Option LR) → (Nat → Int) → (Nat → Sl) → Option LR} (hstep : ∀ rec X Y, evR C n LR nt b (encT X Y T0) (roundK T0 outs rec) = step rec X Y)
    {run : (Nat → Int) → (Nat → Sl) → Option LR} {fu : (Nat → Int) → (Nat → Sl) → Nat} (hrun : ∀ X Y, run X Y = iterL step (fu X Y) X Y) : LoopSpec P C.G gl nt ⟨T0, outs, run⟩ b := fun X Y r h => by
  simp only at h
  rw [hrun] at h
  obtain ⟨o, h1, h2, h3⟩ := loop_rounds hC n hb hlow hout hstep _ X Y r h
  exact ⟨o, _, h1, h2, h3⟩

/-- Loops with contracts: of a function's loops (keys in their order), those in the list. -/
def LpS (P : Program) (G : Nat) (gl : List (Nat × List AV)) (fn : Func) (lps : List (Nat × LoopC)) : List Nat → Nat → Prop
  | [], _ => True
  | k :: r, j => (∀ L, assoc lps k = some L → LoopSpec P G gl fn.ntmps L (loopAt fn j)) ∧ LpS P G gl fn lps r (j + 1)

theorem nthC_eq : ∀ (l : List Code) (n : Nat) (x : Code), l[n]? = some x → nthC l n = x
  | [], n, x, h => by simp at h
  | y :: l, 0, x, h => by simpa [nthC] using h
  | y :: l, n + 1, x, h => by simpa [nthC] using nthC_eq l n x (by simpa using h)

theorem lpAll_of {fn : Func} {lps : List (Nat × LoopC)} (hlp : C.lp = assoc lps) {ks : List Nat} (hk : keysF fn = ks) (h : LpS P C.G gl fn lps ks 0) : LpAll P C gl fn := by
  intro b hb l hl L hL
  have hf : loopsF fn = loopsL b := by simp [loopsF, hb]
  subst hk
  unfold keysF at h
  rw [hf] at h
  obtain ⟨j, hj⟩ := List.getElem?_of_mem hl
  have key : ∀ (ls : List Code) (i : Nat), LpS P C.G gl fn lps (ls.map (loopKey fn.ntmps)) i → ∀ (j : Nat) x, ls[j]? = some x → ∀ L, assoc lps (loopKey fn.ntmps x) = some L → LoopSpec P C.G gl fn.ntmps L (loopAt fn (i + j)) := by
    intro ls
    induction ls with
    | nil => intro i _ j x hx; simp at hx
    | cons y ls ih =>
      intro i h j x hx L hL
      cases j with
      | zero =>
        simp at hx
        subst hx
        exact h.1 L hL
      | succ j =>
        have := ih (i + 1) h.2 j x (by simpa using hx) L hL
        rwa [show i + 1 + j = i + (j + 1) by omega] at this
  have := key _ 0 h j l hj L (by rw [← hlp]; exact hL)
  rw [Nat.zero_add] at this
  have hn : loopAt fn j = l := by
    unfold loopAt
    rw [hf]
    exact nthC_eq _ _ _ hj
  rw [hn] at this
  exact this

theorem lpNone {nt : Nat} {b : Code} (hlp : C.lp = assoc []) : ∀ l ∈ loopsL b, LpOK P C gl nt l := by
  intro l hl L hL
  rw [hlp] at hL
  cases hL

theorem lpAll_nil {fn : Func} (hlp : C.lp = assoc []) : LpAll P C gl fn := by
  intro b hb l hl L hL
  rw [hlp] at hL
  cases hL

theorem evF_sound (hC : CtxOK P C gl) {n : Nat} {f : FuncId} {fn : Func} (hf : P.funcs[f]? = some fn) (hlp : LpAll P C gl fn) {args : List AV} {mem : List (Nat × Blk)} {nx : Nat} {K : AV → Option R} {r : R} (h : evF C n fn args mem nx K = some r) :
    ∃ v, K v = some r ∧ ∀ w0, GOK C.G gl w0 → ∀ σ (vals : Array Value) w, VRs σ args vals.toList → RepM w0 C.G (fun j => nx ≤ j) σ (lkM mem) w →
      Calls P f vals w (fun e w' => ∃ rv σ', e = .returned rv ∧ Ext σ σ' ∧ VR σ' v rv ∧ Below w0.heap.size w0 w') := by
  unfold evF at h
  cases hb : fn.body with
  | none => simp [hb] at h
  | some b =>
    simp only [hb] at h
    obtain ⟨hle, h5⟩ := bif_some h
    obtain ⟨v, mem', nx', h1, h2, h3⟩ := body_sound hC (ev_sound hC n) hf hlp hb hle (k := fun v _ _ => K v) h5
    refine ⟨v, h1, fun w0 hG σ vals w hv hm => (h3 w0 hG σ vals w hv hm).mono ?_⟩
    rintro e w' ⟨rv, σ', h4, h5, h6, h7⟩
    exact ⟨rv, σ', h4, h5, h6, h7.below⟩

theorem glMem_lk : ∀ {gl : List (Nat × List AV)} {i : Nat} {b : Blk}, lkM (glMem gl) i = some b → ∃ cs, (i, cs) ∈ gl ∧ b = .ro cs
  | [], i, b, h => by simp [glMem, lkM] at h
  | (j, cs) :: r, i, b, h => by
    simp only [glMem] at h
    rw [lkM_cons] at h
    unfold updM at h
    split at h
    · rename_i hi
      subst hi
      simp at h
      exact ⟨cs, by simp, h.symm⟩
    · obtain ⟨cs', h1, h2⟩ := glMem_lk h
      exact ⟨cs', by simp [h1], h2⟩

/-- Which slices that came in bear the numbers from G on. -/
def startS (G : Nat) (τ : Nat → Option Ex) : Sg := fun i => if i < G then some ⟨i, 0, 0, none⟩ else τ (i - G)

/-- The memory that a call finds: the variables' cells, and the rows of its arguments' slices. -/
theorem ownB_gl {gl : List (Nat × List AV)} {i : Nat} (h : OwnB (lkM (glMem gl) i)) : False := by
  cases hm : lkM (glMem gl) i with
  | none => rw [hm] at h; exact h
  | some b =>
    obtain ⟨cs', _, rfl⟩ := glMem_lk hm
    rw [hm] at h
    exact h

theorem RepM.start {G : Nat} {w : World} (h : GOK G gl w) {k : Nat} {τ : Nat → Option Ex} (hτ : ∀ j x, τ j = some x → j < k ∧ ∃ r, x.rows = some r ∧ RowsIn w x r) : RepM w G (fun j => G + k ≤ j) (startS G τ) (lkM (glMem gl)) w where
  below := Below.refl _ _
  fresh i hi := by
    unfold startS
    rw [if_neg (by omega)]
    cases ht : τ (i - G) with
    | none => rfl
    | some x => have := (hτ _ x ht).1; omega
  blk i b hb := by
    obtain ⟨cs, h1, rfl⟩ := glMem_lk hb
    obtain ⟨h2, h3⟩ := h.2 _ h1
    refine ⟨⟨i, 0, 0, none⟩, by unfold startS; rw [if_pos h2], fun j c hc => ?_⟩
    obtain ⟨x, h4, h5⟩ := h3 j c hc
    exact ⟨x, by simpa using h4, h5 _⟩
  own i x hi _ := (ownB_gl hi).elim
  inj i j x y _ _ _ ho _ := (ownB_gl ho).elim
  lt i x hx := by
    unfold startS at hx
    split at hx
    · obtain rfl := Option.some.inj hx
      exact Nat.lt_of_lt_of_le ‹_› h.1
    · obtain ⟨_, r, _, hr⟩ := hτ _ x hx
      exact hr.1
  glob g hg := by unfold startS; rw [if_pos hg]
  rows i x r hi hr := by
    unfold startS at hi
    split at hi
    · obtain rfl := Option.some.inj hi
      cases hr
    · obtain ⟨_, r', h1, h2⟩ := hτ _ x hi
      rw [h1] at hr
      obtain rfl := Option.some.inj hr
      exact h2

def plainVs : List AV → Bool
  | [] => true
  | x :: r => bif plainV x then plainVs r else false

theorem plainVs_VR {σ σ' : Sg} : ∀ {a : List AV} {v : List Value}, plainVs a = true → VRs σ a v → VRs σ' a v
  | [], _, _, hv => hv
  | x :: r, _, h, ⟨v, vs, e, h1, h2⟩ => by
    simp only [plainVs] at h
    cases hx : plainV x <;> simp [hx] at h
    exact ⟨v, vs, e, plainV_VR hx h1, plainVs_VR h h2⟩

/-- The arguments said again, their k slices now bearing the numbers from G on. -/
def Ren (G : Nat) (args args' : List AV) (k : Nat) : Prop := ∀ σ vals, VRs σ args vals → ∃ τ : Nat → Option Ex, (∀ j x, τ j = some x → j < k ∧ ∃ i r, σ i = some x ∧ x.rows = some r) ∧
  ∀ σ' : Sg, (∀ j x, τ j = some x → σ' (G + j) = some x) → VRs σ' args' vals

/-- **A contract**: F says what the function answers; 'dec' reads an answer back. -/
theorem mkSpec (hC : CtxOK P C gl) {f : FuncId} {fn : Func} (hf : P.funcs[f]? = some fn) (hcall : ∀ args w, (callFunc f args).run P w = .ok (.enter f args) w) (hlp : LpAll P C gl fn) (n : Nat) {F : List AV → Option ConR}
    (h : ∀ args cr, F args = some cr → ∃ args' k, Ren C.G args args' k ∧ ∃ dec : AV → Option cr.T, evF C n fn args' (glMem gl) (Nat.add C.G k) dec = cr.x ∧ ∀ av t, dec av = some t → av = cr.enc t ∧ plainV (cr.enc t) = true) : Spec P C.G gl f F := by
  refine ⟨hcall, fun args cr hF v hv σ vals w hvals hG hR => ?_⟩
  obtain ⟨args', k, hren, dec, hev, hdec⟩ := h args cr hF
  rw [hv] at hev
  obtain ⟨av, h1, h2⟩ := evF_sound hC hf hlp hev
  obtain ⟨τ, ht, hv'⟩ := hren σ _ hvals
  have hst : RepM w C.G (fun j => C.G + k ≤ j) (startS C.G τ) (lkM (glMem gl)) w := RepM.start hG fun j x hj => by
    obtain ⟨h3, i, r, h4, h5⟩ := ht j x hj
    exact ⟨h3, r, h5, hR i x r h4 h5⟩
  refine (h2 w hG _ vals w (hv' _ fun j x hj => by
    unfold startS
    rw [if_neg (by omega), Nat.add_sub_cancel_left]
    exact hj) hst).mono ?_
  rintro e w' ⟨rv, σ', rfl, _, hr, hb⟩
  obtain ⟨rfl, hpe⟩ := hdec av v h1
  exact ⟨rv, rfl, plainV_VR hpe hr, hb⟩

/-- The same without a contract: one call, whose arguments' slices bear the numbers from G on. -/
theorem calls_of_ev (hC : CtxOK P C gl) {f : FuncId} {fn : Func} (hf : P.funcs[f]? = some fn) (hlp : LpAll P C gl fn) (n : Nat) {args : List AV} {k : Nat} {K : AV → Option R} {r : R} (h : evF C n fn args (glMem gl) (Nat.add C.G k) K = some r) :
    ∃ v, K v = some r ∧ ∀ (τ : Nat → Option Ex) (vals : Array Value) w, (∀ j x, τ j = some x → j < k ∧ ∃ r, x.rows = some r ∧ RowsIn w x r) → (∀ σ : Sg, (∀ j x, τ j = some x → σ (C.G + j) = some x) → VRs σ args vals.toList) → GOK C.G gl w →
      Calls P f vals w (fun e w' => ∃ rv σ', e = .returned rv ∧ VR σ' v rv ∧ Below w.heap.size w w') := by
  obtain ⟨v, h1, h2⟩ := evF_sound hC hf hlp h
  refine ⟨v, h1, fun τ vals w hτ hv hG => (h2 w hG _ vals w (hv _ fun j x hj => by
    unfold startS
    rw [if_neg (by omega), Nat.add_sub_cancel_left]
    exact hj) (RepM.start hG hτ)).mono ?_⟩
  rintro e w' ⟨rv, σ', h3, _, h4, h5⟩
  exact ⟨rv, σ', h3, h4, h5⟩

/-! ### A context, from closed facts -/
theorem callFunc_run {f : FuncId} {fn : Func} (hf : P.funcs[f]? = some fn) (hn : (fn.name == "runtime.NumGoroutine") = false) (hb : fn.body.isNone = false) (args : Array Value) (w : World) :
    (callFunc f args).run P w = .ok (.enter f args) w := by
  simp only [callFunc, Sem.run_bind, run_program, Result.andThen_ok, hf, hn, Bool.false_eq_true, if_false, hb, Sem.run_pure]

theorem assoc_mem {α : Type _} : ∀ {l : List (Nat × α)} {i : Nat} {x : α}, assoc l i = some x → (i, x) ∈ l
  | [], _, _, h => by simp [assoc] at h
  | (j, y) :: r, i, x, h => by
    simp only [assoc] at h
    by_cases hji : j = i
    · subst hji
      simp only [beq_self, cond_true] at h
      obtain rfl := Option.some.inj h
      simp
    · simp only [beq_ne hji, cond_false] at h
      exact List.mem_cons_of_mem _ (assoc_mem h)

theorem tys_of {l : List (Nat × TyI)} (h : l.map (fun p => tyOf P p.1) = l.map (fun p => some p.2)) : ∀ t i, assoc l t = some i → tyOf P t = some i := by
  intro t i hi
  have hm := assoc_mem hi
  clear hi
  induction l with
  | nil => simp at hm
  | cons p l ih =>
    simp only [List.map_cons, List.cons.injEq] at h
    rcases List.mem_cons.1 hm with rfl | hm
    · exact h.1
    · exact ih h.2 hm
end
end Go.VE
