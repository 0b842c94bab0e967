/-
  THE READING MACHINE: code, calls, and a function's contract.
-/
import Derived.Test.YtfpmbgknojbkcaaDoorVEk
import Derived.LoopN
namespace Go.VE
open Go.RowKit (Below)
set_option linter.unusedSimpArgs false
set_option linter.unusedVariables false

def AExit.ex : AExit → Exit
  | .normal => .normal
  | .exit i => .exit i
  | .ret => .ret

/-- Of a loop: that many rounds. -/
def wpX (P : Program) (N : Nat) (c : Code) (Q : Exit → Act → World → Prop) (a : Act) (w : World) : Prop :=
  match c with
  | .loop b => Code.rounds P b Q N a w
  | c => c.wp P Q a w

theorem wpX_wp {P : Program} {N : Nat} {c : Code} {Q : Exit → Act → World → Prop} {a : Act} {w : World} (h : wpX P N c Q a w) : c.wp P Q a w := by
  unfold wpX at h
  split at h
  · exact wp_loop_rounds N h
  · exact h

section
variable {P : Program} {C : Ctx} {gl : List (Nat × List AV)} {R : Type}

/-- The evaluator at one level: what it answers, the machine does. -/
def EvOK (P : Program) (C : Ctx) (gl : List (Nat × List AV)) (ev : Nat → Code → St → (AExit → St → Option R) → Option R) : Prop :=
  ∀ nt c s K r, ev nt c s K = some r → ∃ e s' N, K e s' = some r ∧ s.nx ≤ s'.nx ∧ ∀ w0, GOK C.G gl w0 → ∀ σ a w, RepM w0 C.G (fun j => s.nx ≤ j) σ (lkM s.mem) w → RepE σ nt (lk2 s.env) a → ∀ Q : Exit → Act → World → Prop,
    (∀ σ' a' w', Ext σ σ' → RepM w0 C.G (fun j => s'.nx ≤ j) σ' (lkM s'.mem) w' → RepE σ' nt (lk2 s'.env) a' → Q e.ex a' w') → wpX P N c Q a w

def resF (tmps : Array Value) : ResultVar → Sem Value
  | .tmp t => pure (tmps.getD t undef)
  | .cell b t => do loadVar t (← asAddr (tmps.getD b undef))

theorem results_eq (fn : Func) (tmps : Array Value) : results fn tmps = (do
    let vs ← fn.results.mapM (resF tmps)
    pure (if h : vs.size = 1 then vs[0] else .tuple vs)) := by
  have : (fun x : ResultVar => match x with
    | .tmp t => (pure (tmps.getD t undef) : Sem Value)
    | .cell a t => do loadVar t (← asAddr (tmps.getD a undef))) = resF tmps := by
    funext x
    cases x <;> rfl
  rw [← this]
  rfl

theorem resA_sound (hC : CtxOK P C gl) {s : St} {w0 : World} {U : Nat → Prop} {σ : Sg} {w : World} (hm : RepM w0 C.G U σ (lkM s.mem) w) {nt : Nat} {a : Act} (hE : RepE σ nt (lk2 s.env) a) :
    ∀ {l : List ResultVar} {vs : List AV}, resA C s l = some vs → ∃ xs : List Value, VRs σ vs xs ∧
      (l.mapM (resF a.tmps)).run P w = .ok xs w
  | [], vs, h => by simp [resA] at h; subst h; exact ⟨[], rfl, by simp⟩
  | .tmp t :: l, vs, h => by
    simp only [resA] at h
    cases h1 : lk s.env t with
    | none => simp [h1] at h
    | some v =>
      cases h2 : resA C s l with
      | none => simp [h1, h2] at h
      | some vs' =>
        simp [h1, h2] at h
        subst h
        obtain ⟨x, hx, hr⟩ := hE.env t v (lk_some h1)
        obtain ⟨xs, h3, h4⟩ := resA_sound hC hm hE h2
        refine ⟨x :: xs, ⟨x, xs, rfl, hr, h3⟩, ?_⟩
        have hg : a.tmps.getD t undef = x := by simp [Array.getD_eq_getD_getElem?, hx]
        simp only [List.mapM_cons, resF, Sem.run_bind, Sem.run_pure, Result.andThen_ok, h4, hg]
  | .cell b t :: l, vs, h => by
    simp only [resA] at h
    cases h1 : lk s.env b with
    | none => simp [h1] at h
    | some p =>
      simp only [h1] at h
      cases h0 : ldv C s.mem t p with
      | none => simp [h0] at h
      | some v =>
        cases h2 : resA C s l with
        | none => simp [h0, h2] at h
        | some vs' =>
          simp [h0, h2] at h
          subst h
          obtain ⟨x, hx, hr⟩ := hE.env b p (lk_some h1)
          obtain ⟨z, hz, hrun⟩ := ldv_sound hC.ty h0 hm (fun _ _ => rfl) hr
          obtain ⟨xs, h3, h4⟩ := resA_sound hC hm hE h2
          have hg : a.tmps.getD b undef = x := by simp [Array.getD_eq_getD_getElem?, hx]
          have hpt : ∃ ad, x = .pointer (some ad) := by
            cases p <;> simp only [ldv] at h0 <;> try (cases hq : C.ty t <;> simp [hq] at h0; done)
            · obtain ⟨q, _, rfl⟩ := hr; exact ⟨_, rfl⟩
            · obtain ⟨q, _, rfl, _⟩ := hr; exact ⟨_, rfl⟩
            · obtain ⟨q, _, rfl, _⟩ := hr; exact ⟨_, rfl⟩
          obtain ⟨ad, rfl⟩ := hpt
          rw [loadAt_ptr] at hrun
          refine ⟨z :: xs, ⟨z, xs, rfl, hz, h3⟩, ?_⟩
          have has : asAddr (a.tmps.getD b undef) = pure ad := by rw [hg]; rfl
          simp only [List.mapM_cons, resF, Sem.run_bind, Sem.run_pure, Result.andThen_ok, h4, has, hrun]

theorem results_sound (hC : CtxOK P C gl) {s : St} {w0 : World} {U : Nat → Prop} {σ : Sg} {w : World} (hm : RepM w0 C.G U σ (lkM s.mem) w) {nt : Nat} {a : Act} (hE : RepE σ nt (lk2 s.env) a) {fn : Func} {vs : List AV}
    (h : resA C s fn.results.toList = some vs) : ∃ x, VR σ (tupA vs) x ∧ (results fn a.tmps).run P w = .ok x w := by
  obtain ⟨xs, h1, h2⟩ := resA_sound hC hm hE h
  have hlen := h1.length
  have hrun : (results fn a.tmps).run P w = .ok (if h : xs.toArray.size = 1 then xs.toArray[0] else .tuple xs.toArray) w := by
    rw [results_eq, Array.mapM_eq_mapM_toList]
    simp only [Sem.run_bind, Sem.run_map, h2, Result.andThen_ok, Sem.run_pure]
  rw [hrun]
  cases vs with
  | nil =>
    cases h1
    exact ⟨.tuple #[], ⟨#[], rfl, rfl⟩, rfl⟩
  | cons v vs =>
    cases vs with
    | nil =>
      obtain ⟨x, xs', hxs, hr, hrs⟩ := h1
      cases hrs
      subst hxs
      exact ⟨x, hr, rfl⟩
    | cons u vs =>
      refine ⟨.tuple xs.toArray, ⟨xs.toArray, rfl, by simpa using h1⟩, ?_⟩
      rw [dif_neg (by simp at hlen ⊢; omega)]

theorem zipE_lk : ∀ (l : List AV) (i t : Nat) (v : Option AV), lk2 (zipE i l) t = some v → i ≤ t ∧ ∃ x, v = some x ∧ l[t - i]? = some x
  | [], i, t, v, h => by simp [zipE, lk2] at h
  | a :: l, i, t, v, h => by
    simp only [zipE] at h
    rw [lk2_cons] at h
    unfold updE at h
    split at h
    · rename_i hti
      subst hti
      simp at h
      subst h
      exact ⟨Nat.le_refl _, a, rfl, by simp⟩
    · rename_i hti
      obtain ⟨h1, x, h2, h3⟩ := zipE_lk l (Nat.succ i) t v h
      have hlt : i + 1 ≤ t := h1
      refine ⟨by omega, x, h2, ?_⟩
      have : t - i = (t - Nat.succ i) + 1 := by omega
      rw [this]
      simpa using h3

theorem enter_E {σ : Sg} {args : List AV} {vals : Array Value} (hv : VRs σ args vals.toList) {nt : Nat} (hle : args.length ≤ nt) : RepE σ nt (lk2 (zipE 0 args)) { tmps := vals ++ Array.replicate (nt - vals.size) undef, defers := [] } := by
  have hlen : vals.size = args.length := by have := hv.length; simpa using this
  refine ⟨rfl, by simp [hlen]; omega, fun t v ht => ?_, fun t ht => ?_⟩
  · obtain ⟨_, x, hx, hget⟩ := zipE_lk args 0 t _ ht
    obtain rfl := Option.some.inj hx
    obtain ⟨y, h1, h2⟩ := hv.get (n := t) (by simpa using hget)
    have hlt : t < vals.size := by
      have := (List.getElem?_eq_some_iff.1 h1).1
      simpa using this
    refine ⟨y, ?_, h2⟩
    simp only
    rw [Array.getElem?_append_left hlt]
    simpa using h1
  · obtain ⟨_, x, hx, _⟩ := zipE_lk args 0 t _ ht
    cases hx

/-- The body of a function, behind its evaluation. -/
theorem body_sound (hC : CtxOK P C gl) {ev : Nat → Code → St → (AExit → St → Option R) → Option R} (hev : EvOK P C gl ev) {f : FuncId} {fn : Func} (hf : P.funcs[f]? = some fn) {b : Code} (hb : fn.body = some b) {args : List AV} (hle : Nat.ble args.length fn.ntmps = true)
    {mem : List (Nat × Blk)} {nx : Nat} {k : AV → List (Nat × Blk) → Nat → Option R} {r : R}
    (h : (ev fn.ntmps b { env := zipE 0 args, mem := mem, nx := nx } fun e s' => match e with
        | .exit _ => none
        | _ => match resA C s' fn.results.toList with
          | some l => k (tupA l) s'.mem s'.nx
          | none => none) = some r) :
    ∃ v mem' nx', k v mem' nx' = some r ∧ nx ≤ nx' ∧ ∀ w0, GOK C.G gl w0 → ∀ σ (vals : Array Value) w, VRs σ args vals.toList → RepM w0 C.G (fun j => nx ≤ j) σ (lkM mem) w →
      Calls P f vals w (fun e w' => ∃ rv σ', e = .returned rv ∧ Ext σ σ' ∧ VR σ' v rv ∧ RepM w0 C.G (fun j => nx' ≤ j) σ' (lkM mem') w') := by
  obtain ⟨e, s', N, hK, hnx, hwp⟩ := hev _ _ _ _ _ h
  have hnorm : e.ex = .normal ∨ e.ex = .ret := by
    cases e with
    | exit i => cases hK
    | normal => exact .inl rfl
    | ret => exact .inr rfl
  have hK' : (match resA C s' fn.results.toList with
          | some l => k (tupA l) s'.mem s'.nx
          | none => none) = some r := by
    cases e with
    | exit i => cases hK
    | normal => exact hK
    | ret => exact hK
  cases hres : resA C s' fn.results.toList with
  | none => rw [hres] at hK'; cases hK'
  | some l =>
    rw [hres] at hK'
    refine ⟨tupA l, s'.mem, s'.nx, hK', hnx, fun w0 hG σ vals w hv hm => calls_of_wp hf hb ?_⟩
    refine wpX_wp (hwp w0 hG σ _ w hm (enter_E hv (Nat.le_of_ble_eq_true hle)) _ ?_)
    intro σ' a' w' hx hm' hE'
    obtain ⟨x, h1, h2⟩ := results_sound hC hm' hE' hres
    have : bodyPost P fn (fun e w' => ∃ rv σ', e = .returned rv ∧ Ext σ σ' ∧ VR σ' (tupA l) rv ∧ RepM w0 C.G (fun j => s'.nx ≤ j) σ' (lkM s'.mem) w') .normal a' w' :=
      ⟨hE'.dfr, x, h2, x, σ', rfl, hx, h1, hm'⟩
    rcases hnorm with he | he <;> rw [he] <;> exact this

theorem inlOf_sound (hC : CtxOK P C gl) {ev : Nat → Code → St → (AExit → St → Option R) → Option R} (hev : EvOK P C gl ev) : InlOK P C gl (inlOf C ev) := by
  intro f args mem nx k r h
  unfold inlOf at h
  cases hf : C.fns f with
  | none => simp [hf] at h
  | some fn =>
    simp only [hf] at h
    cases hb : fn.body with
    | none => simp [hb] at h
    | some b =>
      simp only [hb] at h
      obtain ⟨hle, h5⟩ := bif_some h
      obtain ⟨hfn, hcall⟩ := hC.fns f fn hf
      obtain ⟨v, mem', nx', h1, h2, h3⟩ := body_sound hC hev hfn hb hle h5
      exact ⟨v, mem', nx', h1, h2, hcall, h3⟩

theorem evStep_sound (hC : CtxOK P C gl) {ev : Nat → Code → St → (AExit → St → Option R) → Option R} (hev : EvOK P C gl ev) : EvOK P C gl (evStep C ev) := by
  intro nt c s K r h
  have hinl := inlOf_sound hC hev
  cases c <;> simp only [evStep] at h <;> try (cases h; done)
  case skip => exact ⟨.normal, s, 0, h, Nat.le_refl _, fun w0 hG σ a w hm hE Q hQ => wp_skip (hQ σ a w (Ext.refl _) hm hE)⟩
  case region id ops draw =>
    cases draw
    · simp only [cond_false] at h
      obtain ⟨s', hK, hnx, hr⟩ := evS_sound hC hinl _ _ _ _ h
      exact ⟨.normal, s', 0, hK, hnx, fun w0 hG σ a w hm hE Q hQ => wp_region_list (hr w0 hG σ a w hm hE Q hQ)⟩
    · simp only [cond_true] at h
      obtain ⟨hreg, h5⟩ := bif_some h
      obtain ⟨s', hK, hr⟩ := evD_sound hC hinl hreg h5
      refine ⟨.normal, _, 0, hK, Nat.le_add_right _ _, fun w0 hG σ a w hm hE Q hQ => wp_region_any hC.mo ?_⟩
      refine hr w0 hG σ a _ (hm.later ?_) hE Q hQ
      exact (Below.refl _ w).drew
  case seq x y =>
    obtain ⟨e, s1, N1, hK1, hn1, h1'⟩ := hev _ _ _ _ _ h
    have h1 := fun w0 hG σ a w hm hE Q hQ => wpX_wp (h1' w0 hG σ a w hm hE Q hQ)
    cases e with
    | normal =>
      obtain ⟨e2, s2, N2, hK2, hn2, h2'⟩ := hev _ _ _ _ _ hK1
      have h2 := fun w0 hG σ a w hm hE Q hQ => wpX_wp (h2' w0 hG σ a w hm hE Q hQ)
      refine ⟨e2, s2, 0, hK2, Nat.le_trans hn1 hn2, fun w0 hG σ a w hm hE Q hQ => wp_seq (h1 w0 hG σ a w hm hE _ fun σ' a' w' hx hm' hE' => ?_)⟩
      exact h2 w0 hG σ' a' w' hm' hE' Q fun σ'' a'' w'' hx' => hQ σ'' a'' w'' (hx.trans hx')
    | exit i => exact ⟨.exit i, s1, 0, hK1, hn1, fun w0 hG σ a w hm hE Q hQ => wp_seq (h1 w0 hG σ a w hm hE _ hQ)⟩
    | ret => exact ⟨.ret, s1, 0, hK1, hn1, fun w0 hG σ a w hm hE Q hQ => wp_seq (h1 w0 hG σ a w hm hE _ hQ)⟩
  case cond x y z =>
    cases hx : opv C.G s.env x with
    | none => simp [hx] at h
    | some v =>
      simp only [hx] at h
      cases v <;> simp only at h <;> try (cases h; done)
      rename_i b
      cases b
      · simp only [cond_false] at h
        obtain ⟨e, s1, N1, hK1, hn1, h1'⟩ := hev _ _ _ _ _ h
        have h1 := fun w0 hG σ a w hm hE Q hQ => wpX_wp (h1' w0 hG σ a w hm hE Q hQ)
        refine ⟨e, s1, 0, hK1, hn1, fun w0 hG σ a w hm hE Q hQ => ?_⟩
        have hv := opv_sound hx (e := lk2 s.env) (fun t _ v hv => lk_some hv) hm hE
        exact wp_cond hv (h1 w0 hG σ a w hm hE Q hQ)
      · simp only [cond_true] at h
        obtain ⟨e, s1, N1, hK1, hn1, h1'⟩ := hev _ _ _ _ _ h
        have h1 := fun w0 hG σ a w hm hE Q hQ => wpX_wp (h1' w0 hG σ a w hm hE Q hQ)
        refine ⟨e, s1, 0, hK1, hn1, fun w0 hG σ a w hm hE Q hQ => ?_⟩
        have hv := opv_sound hx (e := lk2 s.env) (fun t _ v hv => lk_some hv) hm hE
        exact wp_cond hv (h1 w0 hG σ a w hm hE Q hQ)
  case block id b =>
    obtain ⟨e, s1, N1, hK1, hn1, h1'⟩ := hev _ _ _ _ _ h
    have h1 := fun w0 hG σ a w hm hE Q hQ => wpX_wp (h1' w0 hG σ a w hm hE Q hQ)
    cases e with
    | normal => exact ⟨.normal, s1, 0, hK1, hn1, fun w0 hG σ a w hm hE Q hQ => wp_block (h1 w0 hG σ a w hm hE _ hQ)⟩
    | ret => exact ⟨.ret, s1, 0, hK1, hn1, fun w0 hG σ a w hm hE Q hQ => wp_block (h1 w0 hG σ a w hm hE _ hQ)⟩
    | exit i =>
      have hK1 : (bif Nat.beq i id then K .normal s1 else K (.exit i) s1) = some r := hK1
      cases hi : Nat.beq i id
      · rw [hi] at hK1
        refine ⟨.exit i, s1, 0, hK1, hn1, fun w0 hG σ a w hm hE Q hQ => wp_block (h1 w0 hG σ a w hm hE _ fun σ' a' w' hx hm' hE' => ?_)⟩
        have hne : i ≠ id := fun e => by subst e; rw [beq_self] at hi; cases hi
        show Exit.inBlock id Q (.exit i) a' w'
        simp only [Exit.inBlock, hne, if_false]
        exact hQ σ' a' w' hx hm' hE'
      · rw [hi] at hK1
        refine ⟨.normal, s1, 0, hK1, hn1, fun w0 hG σ a w hm hE Q hQ => wp_block (h1 w0 hG σ a w hm hE _ fun σ' a' w' hx hm' hE' => ?_)⟩
        have he : i = id := Nat.eq_of_beq_eq_true hi
        show Exit.inBlock id Q (.exit i) a' w'
        simp only [Exit.inBlock, he, if_true]
        exact hQ σ' a' w' hx hm' hE'
  case loop b =>
    obtain ⟨e, s1, N1, hK1, hn1, h1'⟩ := hev _ _ _ _ _ h
    have h1 := fun w0 hG σ a w hm hE Q hQ => wpX_wp (h1' w0 hG σ a w hm hE Q hQ)
    cases e with
    | normal =>
      obtain ⟨e2, s2, N2, hK2, hn2, h2⟩ := hev _ _ _ _ _ hK1
      refine ⟨e2, s2, N2 + 1, hK2, Nat.le_trans hn1 hn2, fun w0 hG σ a w hm hE Q hQ => ?_⟩
      show Code.rounds P b Q (N2 + 1) a w
      rw [rounds_succ]
      refine h1 w0 hG σ a w hm hE _ fun σ' a' w' hx hm' hE' => ?_
      exact h2 w0 hG σ' a' w' hm' hE' Q fun σ'' a'' w'' hx' => hQ σ'' a'' w'' (hx.trans hx')
    | exit i =>
      refine ⟨.exit i, s1, 1, hK1, hn1, fun w0 hG σ a w hm hE Q hQ => ?_⟩
      show Code.rounds P b Q 1 a w
      rw [rounds_succ]
      exact h1 w0 hG σ a w hm hE _ hQ
    | ret =>
      refine ⟨.ret, s1, 1, hK1, hn1, fun w0 hG σ a w hm hE Q hQ => ?_⟩
      show Code.rounds P b Q 1 a w
      rw [rounds_succ]
      exact h1 w0 hG σ a w hm hE _ hQ
  case exit id => exact ⟨.exit id, s, 0, h, Nat.le_refl _, fun w0 hG σ a w hm hE Q hQ => wp_exit (hQ σ a w (Ext.refl _) hm hE)⟩
  case ret => exact ⟨.ret, s, 0, h, Nat.le_refl _, fun w0 hG σ a w hm hE Q hQ => wp_ret (hQ σ a w (Ext.refl _) hm hE)⟩
end
end Go.VE
