/-
  THE READING MACHINE: guards, entered calls, regions in the order of their text.
-/
import Derived.Test.YtggiamcgkiaicaaDoorVEf
import Derived.Tactics
namespace Go.VE
open Go.RowKit (Below)
set_option linter.unusedSimpArgs false
set_option linter.unusedVariables false

theorem beq_self (n : Nat) : Nat.beq n n = true := Nat.beq_refl n
theorem beq_ne {n m : Nat} (h : n ≠ m) : Nat.beq n m = false := by
  cases hb : Nat.beq n m
  · rfl
  · exact absurd (Nat.eq_of_beq_eq_true hb) h

theorem lk2_cons (t : Nat) (v : Option AV) (env : List (Nat × Option AV)) : lk2 ((t, v) :: env) = updE (lk2 env) t v := by
  funext u
  simp only [lk2, updE]
  by_cases h : u = t
  · subst h; simp [beq_self]
  · simp [beq_ne (Ne.symm h), h]

theorem lkM_cons (t : Nat) (v : Blk) (m : List (Nat × Blk)) : lkM ((t, v) :: m) = updM (lkM m) t v := by
  funext u
  simp only [lkM, updM]
  by_cases h : u = t
  · subst h; simp [beq_self]
  · simp [beq_ne (Ne.symm h), h]

theorem apply1_e (id : Nat) (d : Option Tmp) (x : Act1) (s : St) : lk2 (apply1 id d x s).env = actE id d x (lk2 s.env) := by
  cases d with
  | none => cases x <;> rfl
  | some t =>
    cases x with
    | new cells e sl => cases sl <;> exact lk2_cons _ _ _
    | _ => exact lk2_cons _ _ _

theorem apply1_m (id : Nat) (d : Option Tmp) (x : Act1) (s : St) : lkM (apply1 id d x s).mem = actM id x (lkM s.mem) := by
  cases x with
  | new cells e sl => cases sl <;> exact lkM_cons _ _ _
  | app i cells e sz n => simp only [apply1, actM, lkM_cons]
  | st b blk => exact lkM_cons _ _ _
  | _ => rfl

theorem nthO_eq : ∀ (l : List Oper) (n : Nat), nthO l n = l[n]?
  | [], _ => rfl
  | _ :: _, 0 => rfl
  | _ :: r, n + 1 => by simpa [nthO] using nthO_eq r n

/-! ### Values without addresses from nx0 on -/
theorem low0_VR {nx : Nat} {σ σ' : Sg} (hs : ∀ i, i < nx → σ i = σ' i) {a : AV} {v : Value} (h : low0 nx a = true) (hv : VR σ a v) : VR σ' a v := by
  have lt : ∀ i, Nat.blt i nx = true → i < nx := fun i h => Nat.lt_of_lt_of_le (Nat.lt_succ_self _) (Nat.le_of_ble_eq_true h)
  cases a <;> simp only [low0] at h <;> try (cases h; done)
  all_goals first
    | exact hv
    | (obtain ⟨b, hb, r⟩ := hv; exact ⟨b, (hs _ (lt _ h)).symm.trans hb, r⟩)
    | (obtain ⟨b, c, hb, r⟩ := hv; exact ⟨b, c, (hs _ (lt _ h)).symm.trans hb, r⟩)
    | (rcases hv with ⟨b, c, hb, r⟩ | r
       · exact .inl ⟨b, c, (hs _ (lt _ h)).symm.trans hb, r⟩
       · exact .inr r)

theorem lows_VR {nx : Nat} {σ σ' : Sg} (hs : ∀ i, i < nx → σ i = σ' i) : ∀ {a : List AV} {v : List Value}, lows nx a = true → VRs σ a v → VRs σ' a v
  | [], _, _, hv => hv
  | x :: r, _, h, ⟨v, vs, e, h1, h2⟩ => by
    simp only [lows] at h
    cases hx : low0 nx x <;> simp [hx] at h
    exact ⟨v, vs, e, low0_VR hs hx h1, lows_VR hs h h2⟩

theorem lowV_VR {nx : Nat} {σ σ' : Sg} (hs : ∀ i, i < nx → σ i = σ' i) {a : AV} {v : Value} (h : lowV nx a = true) (hv : VR σ a v) : VR σ' a v := by
  cases a <;> simp only [lowV] at h
  case fn f cap => obtain ⟨vs, e, r⟩ := hv; exact ⟨vs, e, lows_VR hs h r⟩
  case agg cs => obtain ⟨vs, e, r⟩ := hv; exact ⟨vs, e, lows_VR hs h r⟩
  all_goals exact low0_VR hs h hv

theorem lowVs_VR {nx : Nat} {σ σ' : Sg} (hs : ∀ i, i < nx → σ i = σ' i) : ∀ {a : List AV} {v : List Value}, lowVs nx a = true → VRs σ a v → VRs σ' a v
  | [], _, _, hv => hv
  | x :: r, _, h, ⟨v, vs, e, h1, h2⟩ => by
    simp only [lowVs] at h
    cases hx : lowV nx x <;> simp [hx] at h
    exact ⟨v, vs, e, lowV_VR hs hx h1, lowVs_VR hs h h2⟩

theorem plain_VR {σ σ' : Sg} {a : AV} {v : Value} (h : plain a = true) (hv : VR σ a v) : VR σ' a v := by
  cases a <;> simp only [plain] at h <;> first | exact hv | cases h

theorem plains_VR {σ σ' : Sg} : ∀ {a : List AV} {v : List Value}, plains a = true → VRs σ a v → VRs σ' a v
  | [], _, _, hv => hv
  | x :: r, _, h, ⟨v, vs, e, h1, h2⟩ => by
    simp only [plains] at h
    cases hx : plain x <;> simp [hx] at h
    exact ⟨v, vs, e, plain_VR hx h1, plains_VR h h2⟩

theorem plain1_VR {σ σ' : Sg} {a : AV} {v : Value} (h : plain1 a = true) (hv : VR σ a v) : VR σ' a v := by
  cases a <;> simp only [plain1] at h
  case agg cs => obtain ⟨vs, e, r⟩ := hv; exact ⟨vs, e, plains_VR h r⟩
  all_goals exact plain_VR h hv

theorem plainT_VR {σ σ' : Sg} : ∀ {a : List AV} {v : List Value}, plainT a = true → VRs σ a v → VRs σ' a v
  | [], _, _, hv => hv
  | x :: r, _, h, ⟨v, vs, e, h1, h2⟩ => by
    simp only [plainT] at h
    cases hx : plain1 x <;> simp [hx] at h
    exact ⟨v, vs, e, plain1_VR hx h1, plainT_VR h h2⟩

theorem plainV_VR {σ σ' : Sg} {a : AV} {v : Value} (h : plainV a = true) (hv : VR σ a v) : VR σ' a v := by
  cases a <;> simp only [plainV] at h
  case tup cs => obtain ⟨vs, e, r⟩ := hv; exact ⟨vs, e, plainT_VR h r⟩
  all_goals exact plain1_VR h hv

theorem lkM_ro : ∀ (m : List (Nat × Blk)) (i : Nat), lkM (roMem m) i = (lkM m i).map roB
  | [], _ => rfl
  | (j, b) :: r, i => by
    simp only [roMem, lkM]
    cases Nat.beq j i
    · exact lkM_ro r i
    · rfl

theorem ownB_ro {mem : List (Nat × Blk)} {i : Nat} (h : OwnB (lkM (roMem mem) i)) : False := by
  rw [lkM_ro] at h
  cases hm : lkM mem i with
  | none => simp [hm, OwnB] at h
  | some b' => simp [hm] at h; cases b' <;> simp [roB, OwnB] at h

/-- The same memory, to be read alone, as of a call that begins now. -/
theorem RepM.ro {w0 : World} {G : Nat} {U : Nat → Prop} {σ : Sg} {mem : List (Nat × Blk)} {w : World} (h : RepM w0 G U σ (lkM mem) w) : RepM w G U σ (lkM (roMem mem)) w where
  below := Below.refl _ _
  fresh := h.fresh
  blk i b hb := by
    rw [lkM_ro] at hb
    cases hm : lkM mem i with
    | none => simp [hm] at hb
    | some b' =>
      simp [hm] at hb
      obtain ⟨x, h1, h2⟩ := h.blk i b' hm
      refine ⟨x, h1, ?_⟩
      subst hb
      cases b' with
      | own cs e => exact BlkR.cells (.inl ⟨e, h2⟩)
      | ro cs => exact h2
      | pre cs e sz => exact BlkR.cells (.inr (.inr ⟨e, sz, h2⟩))
  own i x hi _ := (ownB_ro hi).elim
  inj i j x y _ _ _ ho _ := (ownB_ro ho).elim
  lt := h.lt
  glob := h.glob
  rows := h.rows.later h.below
section
variable {P : Program} {C : Ctx} {gl : List (Nat × List AV)} {R : Type} {nt : Nat}

theorem guardA_sound {ops : Array Oper} {s : St} {o : Oper} {K : Bool → St → Option R} {r : R} (h : guardA ops.toList s o K = some r) :
    ∃ b s', K b s' = some r ∧ lk2 s'.env = lk2 s.env ∧ s'.mem = s.mem ∧ s'.nx = s.nx ∧
      ∀ e, (∀ t ∈ looksL ops.toList o, e t = lk2 s.env t) → ∀ σ nt a, RepE σ nt e a → Region.wanted o (yielded ops a.tmps) = b := by
  unfold guardA at h
  cases hg : o.guard with
  | none =>
    simp only [hg] at h
    exact ⟨true, s, h, rfl, rfl, rfl, fun e _ σ nt a _ => by simp [Region.wanted, hg]⟩
  | some q =>
    obtain ⟨j, want⟩ := q
    simp only [hg] at h
    cases hj : nthO ops.toList j with
    | none => simp [hj] at h
    | some g =>
      simp only [hj] at h
      cases hd : g.dst with
      | none => simp [hd] at h
      | some t =>
        simp only [hd] at h
        have hlook : t ∈ looksL ops.toList o := by simp [looksL, hg, hj, hd]
        have hget : ops[j]? = some g := by rw [nthO_eq] at hj; simpa using hj
        have hy : ∀ (a : Act), yielded ops a.tmps j = match a.tmps[t]? with | some (.bool b) => some b | _ => none := by
          intro a
          unfold yielded
          rw [hget]
          simp only [Option.bind_some, hd]
          cases a.tmps[t]? with
          | none => rfl
          | some v => cases v <;> rfl
        cases hl : lk2 s.env t with
        | none => simp [hl] at h
        | some v =>
          simp only [hl] at h
          cases v with
          | none =>
            refine ⟨false, s, h, rfl, rfl, rfl, fun e he σ nt a hE => ?_⟩
            have := hE.und t (by rw [he t hlook, hl])
            simp [Region.wanted, hg, hy, this, undef]
          | some v =>
            cases v <;> simp only at h <;> try (cases h; done)
            rename_i b
            have key : ∀ e, (∀ t ∈ looksL ops.toList o, e t = lk2 s.env t) → ∀ σ nt a, RepE σ nt e a → Region.wanted o (yielded ops a.tmps) = (b == want) := by
              intro e he σ nt a hE
              obtain ⟨x, h1, h2⟩ := hE.env t _ (by rw [he t hlook, hl])
              simp only [VR] at h2
              subst h2
              simp only [Region.wanted, hg, hy, h1]
              cases b <;> cases want <;> rfl
            have hsame : ∀ b', b = b' → lk2 ((t, some (.bool b')) :: s.env) = lk2 s.env := by
              rintro _ rfl
              rw [lk2_cons]
              funext u
              unfold updE
              split
              · rename_i hu; rw [hu, hl]
              · rfl
            cases b
            · exact ⟨!want, _, h, hsame false rfl, rfl, rfl, fun e he σ nt a hE => by rw [key e he σ nt a hE]; cases want <;> rfl⟩
            · exact ⟨want, _, h, hsame true rfl, rfl, rfl, fun e he σ nt a hE => by rw [key e he σ nt a hE]; cases want <;> rfl⟩

/-- How calls that are entered are carried out, in whatever world. -/
def InlOK (P : Program) (C : Ctx) (gl : List (Nat × List AV)) (inl : Inl R) : Prop :=
  ∀ f args mem nx k r, inl f args mem nx k = some r → ∃ v mem' nx', k v mem' nx' = some r ∧ nx ≤ nx' ∧ (∀ args w, (callFunc f args).run P w = .ok (.enter f args) w) ∧
    ∀ w0, GOK C.G gl w0 → ∀ σ (vals : Array Value) w, VRs σ args vals.toList → RepM w0 C.G (fun j => nx ≤ j) σ (lkM mem) w →
      Calls P f vals w (fun e w' => ∃ rv σ', e = .returned rv ∧ Ext σ σ' ∧ VR σ' v rv ∧ RepM w0 C.G (fun j => nx' ≤ j) σ' (lkM mem') w')

theorem isEntered_sound {s : St} {o : Oper} {f : FuncId} {args : List AV} (h : isEntered C s o = some (f, args)) (hf : ∀ args w, (callFunc f args).run P w = .ok (.enter f args) w)
    {w0 : World} {e : Nat → Option (Option AV)} (he : ∀ t, .tmp t ∈ o.op.operands.toList → ∀ v, lk s.env t = some v → e t = some (some v))
    {U : Nat → Prop} {σ : Sg} {m : Nat → Option Blk} {w : World} (hm : RepM w0 C.G U σ m w) {a : Act} (hE : RepE σ nt e a) :
    ∃ vals : Array Value, VRs σ args vals.toList ∧ ∀ w', (execOp a.eval o).run P w' = .ok (.enter f vals) w' := by
  obtain ⟨dst, op, type, pos, after, guard⟩ := o
  unfold isEntered at h
  cases op <;> simp only at h <;> try (cases h; done)
  rename_i c
  cases hc : c.callee <;> simp only [hc] at h <;> try (cases h; done)
  rename_i fo
  cases hfo : opv C.G s.env fo with
  | none => simp [hfo] at h
  | some fv =>
    simp only [hfo] at h
    cases fv <;> simp only at h <;> try (cases h; done)
    rename_i id cap
    cases hcon : C.con id with
    | some F => simp [hcon] at h
    | none =>
      simp only [hcon] at h
      cases hl : opvs C.G s.env c.args.toList with
      | none => simp [hl] at h
      | some l =>
        simp [hl] at h
        obtain ⟨rfl, rfl⟩ := h
        obtain ⟨vs, hvs, hcap⟩ := opv_sound hfo (fun t ht => he t (by subst ht; simp [Op.operands, Call.operands, hc])) hm hE
        have hargs := opvs_sound hm hE hl (fun t ht => he t (by simp at ht; simp [Op.operands, Call.operands, ht]))
        refine ⟨c.args.map a.eval ++ vs, by simpa using hargs.append hcap, fun w' => ?_⟩
        simp [execOp, resolve, hc, hvs, Deferred.ofValue, invoke, hf]

theorem evS_sound (hC : CtxOK P C gl) {inl : (R : Type) → Inl R} (hinl : ∀ R, InlOK P C gl (inl R)) {ops : Array Oper} : ∀ (l : List Oper) (s : St) (K : St → Option R) (r : R), evS C nt inl ops.toList l s K = some r →
    ∃ s', K s' = some r ∧ s.nx ≤ s'.nx ∧ ∀ w0, GOK C.G gl w0 → ∀ σ a w, RepM w0 C.G (fun j => s.nx ≤ j) σ (lkM s.mem) w → RepE σ nt (lk2 s.env) a → ∀ Q : Exit → Act → World → Prop,
      (∀ σ' a' w', Ext σ σ' → RepM w0 C.G (fun j => s'.nx ≤ j) σ' (lkM s'.mem) w' → RepE σ' nt (lk2 s'.env) a' → (∀ u, (∀ o ∈ l, o.dst ≠ some u) → a'.tmps[u]? = a.tmps[u]?) → Q .normal a' w') → wpList P ops Q l a w
  | [], s, K, r, h => ⟨s, h, Nat.le_refl _, fun w0 hG σ a w hm hE Q hQ => wpList_nil (hQ σ a w (Ext.refl _) hm hE fun _ _ => rfl)⟩
  | o :: l, s, K, r, h => by
    simp only [evS] at h
    obtain ⟨hd, h1⟩ := bif_some h
    obtain ⟨b, s1, h2, he1, hm1, hn1, hwant⟩ := guardA_sound h1
    clear h h1
    cases b
    · simp only [cond_false] at h2
      obtain ⟨s', hK, hnx, hrest⟩ := evS_sound hC hinl l _ K r h2
      refine ⟨s', hK, by simpa [hn1] using hnx, fun w0 hG σ a w hm hE Q hQ => ?_⟩
      have hw := hwant (lk2 s.env) (fun _ _ => rfl) σ nt a hE
      simp only [wpList, hw, Bool.false_eq_true, if_false]
      refine hrest w0 hG σ _ w (by simpa [hn1, hm1] using hm) ?_ Q fun σ' a' w' hx hm' hE' hf => hQ σ' a' w' hx hm' hE' fun u hu => (hf u fun o' ho' => hu o' (List.mem_cons_of_mem _ ho')).trans (put_other u (hu o (List.mem_cons_self ..)))
      have : lk2 (putE o.dst none s1.env) = actE 0 o.dst .skip (lk2 s.env) := by
        cases o.dst with
        | none => exact he1
        | some t => simp only [putE, actE, actV]; rw [lk2_cons, he1]
      rw [this]
      exact hE.putDN hd rfl
    · simp only [cond_true] at h2
      cases hent : isEntered C s1 o with
      | some q =>
        obtain ⟨f, args⟩ := q
        simp only [hent] at h2
        cases hj : C.join f with
        | some c =>
          simp only [hj] at h2
          obtain ⟨t, h3, h4⟩ := Option.bind_eq_some_iff.1 h2
          obtain ⟨v, mem', nx', h5, hle, hcf, hcalls⟩ := hinl c.T f args _ _ _ _ h3
          obtain ⟨rfl, hpl⟩ := hC.join f c hj v t h5
          obtain ⟨s', hK, hnx, hrest⟩ := evS_sound hC hinl l _ K r h4
          refine ⟨s', hK, by simpa [hn1] using hnx, fun w0 hG σ a w hm hE Q hQ => ?_⟩
          have hw := hwant (lk2 s.env) (fun _ _ => rfl) σ nt a hE
          simp only [wpList, hw, if_true]
          have hm' : RepM w0 C.G (fun j => s1.nx ≤ j) σ (lkM s1.mem) w := by rw [hn1, hm1]; exact hm
          obtain ⟨vals, hv, hrun⟩ := isEntered_sound hent hcf (e := lk2 s.env) (fun t _ v hv => by rw [← he1]; exact lk_some hv) hm' hE
          refine .inl ?_
          unfold Oper.wp
          rw [hrun w, Oper.upon_enter]
          refine (hcalls w (hG.later hm.below) σ vals w hv hm'.ro).mono ?_
          rintro ex w' ⟨rv, σ', rfl, hx, hrv, hm2⟩
          refine hrest w0 hG σ _ w' (hm'.later hm2.below) ?_ Q fun σ'' a' w'' hx' hm3 hE3 hf => hQ σ'' a' w'' hx' hm3 hE3 fun u hu => (hf u fun o' ho' => hu o' (List.mem_cons_of_mem _ ho')).trans (put_other u (hu o (List.mem_cons_self ..)))
          have : lk2 (putE o.dst (some (c.enc t)) s1.env) = actE 0 o.dst (.val (c.enc t)) (lk2 s.env) := by
            cases o.dst with
            | none => exact he1
            | some t => simp only [putE, actE, actV]; rw [lk2_cons, he1]
          rw [this]
          exact hE.putD hd rfl (plainV_VR hpl hrv)
        | none =>
        simp only [hj] at h2
        obtain ⟨v, mem', nx', h3, hle, hcf, hcalls⟩ := hinl R f args _ _ _ _ h2
        obtain ⟨s', hK, hnx, hrest⟩ := evS_sound hC hinl l _ K r h3
        refine ⟨s', hK, Nat.le_trans (by rw [← hn1]; exact hle) hnx, fun w0 hG σ a w hm hE Q hQ => ?_⟩
        have hw := hwant (lk2 s.env) (fun _ _ => rfl) σ nt a hE
        simp only [wpList, hw, if_true]
        have hm' : RepM w0 C.G (fun j => s1.nx ≤ j) σ (lkM s1.mem) w := by rw [hn1, hm1]; exact hm
        obtain ⟨vals, hv, hrun⟩ := isEntered_sound hent hcf (e := lk2 s.env) (fun t _ v hv => by rw [← he1]; exact lk_some hv) hm' hE
        refine .inl ?_
        unfold Oper.wp
        rw [hrun w, Oper.upon_enter]
        refine (hcalls w0 hG σ vals w hv hm').mono ?_
        rintro ex w' ⟨rv, σ', rfl, hx, hrv, hm2⟩
        refine hrest w0 hG σ' _ w' hm2 ?_ Q (fun σ'' a' w'' hx' hm3 hE3 hf => hQ σ'' a' w'' (hx.trans hx') hm3 hE3 fun u hu => (hf u fun o' ho' => hu o' (List.mem_cons_of_mem _ ho')).trans (put_other u (hu o (List.mem_cons_self ..))))
        have : lk2 (putE o.dst (some v) s1.env) = actE 0 o.dst (.val v) (lk2 s.env) := by
          cases o.dst with
          | none => exact he1
          | some t => simp only [putE, actE, actV]; rw [lk2_cons, he1]
        rw [this]
        exact (hE.mono hx).putD hd rfl hrv
      | none =>
        simp only [hent] at h2
        obtain ⟨act, h3, _, _, hact⟩ := actOf_sound hC h2
        obtain ⟨s', hK, hnx, hrest⟩ := evS_sound hC hinl l _ K r h3
        have hnx' : s.nx + 1 ≤ s'.nx := by rw [← hn1]; exact hnx
        refine ⟨s', hK, by omega, fun w0 hG σ a w hm hE Q hQ => ?_⟩
        have hw := hwant (lk2 s.env) (fun _ _ => rfl) σ nt a hE
        simp only [wpList, hw, if_true]
        refine .inl ?_
        refine hact w0 hG s.nx (lk2 s.env) (lkM s.mem) ⟨fun t _ v hv => by rw [← he1]; exact lk_some hv, fun b _ => by rw [hm1], fun _ => by rw [hm1]⟩ (fun j => s.nx ≤ j) σ a w nt hm hE (Nat.le_refl _) hd _ _ ?_
        intro σ' a' w' hx _ _ hm2 hE2 hfr
        refine hrest w0 hG σ' a' w' ?_ ?_ Q (fun σ'' a'' w'' hx' hm3 hE3 hf => hQ σ'' a'' w'' (hx.trans hx') hm3 hE3 fun u hu => (hf u fun o' ho' => hu o' (List.mem_cons_of_mem _ ho')).trans (hfr u (hu o (List.mem_cons_self ..))))
        · have : lkM (apply1 s1.nx o.dst act s1).mem = actM s.nx act (lkM s.mem) := by rw [apply1_m, hm1, hn1]
          show RepM w0 C.G (fun j => Nat.succ s1.nx ≤ j) σ' (lkM (apply1 s1.nx o.dst act s1).mem) w'
          rw [this, hn1]
          exact hm2.less fun j hj => ⟨by omega, by omega⟩
        · show RepE σ' nt (lk2 (apply1 s1.nx o.dst act s1).env) a'
          rw [apply1_e, he1, hn1]
          exact hE2
end
end Go.VE
