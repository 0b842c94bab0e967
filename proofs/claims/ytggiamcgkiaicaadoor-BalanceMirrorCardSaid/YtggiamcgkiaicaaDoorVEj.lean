/-
  THE READING MACHINE: regions that draw their order: the trace of the text order, and every order.
-/
import Derived.Test.YtggiamcgkiaicaaDoorVEi
namespace Go.VE
open Go.RowKit (Below)
set_option linter.unusedSimpArgs false
set_option linter.unusedVariables false

section
variable {P : Program} {C : Ctx} {gl : List (Nat × List AV)} {R : Type} {nt : Nat}

/-- What is known of an operation that comes up just where it stands in the text. -/
def OpActB (P : Program) (w0 : World) (G : Nat) (o : Oper) (id : Nat) (e : Nat → Option (Option AV)) (m : Nat → Option Blk) (act : Act1) : Prop :=
  ∀ U σ a w nt, RepM w0 G U σ m w → RepE σ nt e a → (∀ j, id ≤ j → U j) → dstOk nt o.dst = true → ∀ (K : Act → World → Prop) (Q : Exit → Act → World → Prop),
    (∀ σ' a' w', Ext σ σ' → (∀ j, j ≠ id → σ' j = σ j) → (isSt act = false → Below w.heap.size w w') → RepM w0 G (fun j => U j ∧ j ≠ id) σ' (actM id act m) w' → RepE σ' nt (actE id o.dst act e) a' → (∀ u, o.dst ≠ some u → a'.tmps[u]? = a.tmps[u]?) → K a' w') → o.wp P a w K Q

def StepAt (P : Program) (C : Ctx) (gl : List (Nat × List AV)) (nt : Nat) (ops : Array Oper) (m0 : List (Nat × Blk)) (nx0 k : Nat) (o : Oper) (e : Nat → Option (Option AV)) (m : Nat → Option Blk) (act : Act1) (tch : Tch) : Prop :=
  dstOk nt o.dst = true ∧ ∃ b : Bool, (∀ e', (∀ t ∈ looksL ops.toList o, e' t = e t) → ∀ σ nt a, RepE σ nt e' a → Region.wanted o (yielded ops a.tmps) = b) ∧
    ((b = false ∧ act = .skip ∧ tch = none) ∨
     (b = true ∧ (∀ st, tch ≠ some (none, st)) ∧ ∀ w0, GOK C.G gl w0 → ∀ e' m', (∀ t ∈ looksL ops.toList o, e' t = e t) → (∀ c st, tch = some (some c, st) → m' c = m c) → OpAct P w0 C.G o (nx0 + k) e' m' act) ∨
     (b = true ∧ tch = some (none, true) ∧ ∀ w0, GOK C.G gl w0 → OpActB P w0 C.G o (nx0 + k) e m act) ∨
     (b = true ∧ tch = some (none, false) ∧ ∃ v f args, act = .call v ∧ plainV v = true ∧ lowVs nx0 args = true ∧
       (∀ e', (∀ t ∈ looksL ops.toList o, e' t = e t) → ∀ w0 U σ m w a, RepM w0 C.G U σ m w → RepE σ nt e' a → ∃ vals : Array Value, VRs σ args vals.toList ∧ ∀ w', (execOp a.eval o).run P w' = .ok (.enter f vals) w') ∧
       (∀ w0, GOK C.G gl w0 → ∀ σ (vals : Array Value) w, VRs σ args vals.toList → RepM w0 C.G (fun j => nx0 ≤ j) σ (lkM (roMem m0)) w → Calls P f vals w (fun e w' => ∃ rv σ', e = .returned rv ∧ VR σ' v rv ∧ Below w0.heap.size w0 w'))))

theorem tmp_looks {L : List Oper} {o : Oper} {t : Nat} (h : Operand.tmp t ∈ o.op.operands.toList) : t ∈ looksL L o :=
  List.mem_append_left _ (List.mem_filterMap.2 ⟨.tmp t, h, rfl⟩)

def dstF (ops : Array Oper) (k : Nat) : Option Tmp := (ops.toList[k]?).bind (·.dst)

theorem evD_trace (hC : CtxOK P C gl) {inl : (R : Type) → Inl R} (hinl : ∀ R, InlOK P C gl (inl R)) {ops : Array Oper} {m0 : List (Nat × Blk)} {nx0 : Nat} {e0 : Nat → Option (Option AV)} {mm0 : Nat → Option Blk} {masks : List Nat} {K : St → Option R} {res : R} :
    ∀ (r : List Oper) (i : Nat) (ms : List Nat) (s : St) (seen : List (Nat × Option Nat × Bool)) (act0 : Nat → Act1) (tch0 : Nat → Tch), (∀ k, r[k]? = ops.toList[i + k]?) → ms = masks.drop i →
      lk2 s.env = EF nx0 (dstF ops) act0 (fun _ => true) e0 i → lkM s.mem = MF nx0 act0 (fun _ => true) mm0 i → (∀ j, j < i → ∀ c st, tch0 j = some (c, st) → (j, c, st) ∈ seen) →
      evD C nt inl ops.toList m0 nx0 i ms seen r s K = some res →
      ∃ (act : Nat → Act1) (tch : Nat → Tch) (s' : St), K s' = some res ∧ (∀ j, j < i → act j = act0 j ∧ tch j = tch0 j) ∧
        (∀ k o, r[k]? = some o → StepAt P C gl nt ops m0 nx0 (i + k) o (EF nx0 (dstF ops) act (fun _ => true) e0 (i + k)) (MF nx0 act (fun _ => true) mm0 (i + k)) (act (i + k)) (tch (i + k)) ∧
          Confl nx0 masks.length (fun k => masks.getD k 0) act tch (i + k)) ∧
        lk2 s'.env = EF nx0 (dstF ops) act (fun _ => true) e0 (i + r.length) ∧ lkM s'.mem = MF nx0 act (fun _ => true) mm0 (i + r.length)
  | [], i, ms, s, seen, act0, tch0, hsuf, hms, he, hm, hseen, h => by
    simp only [evD] at h
    exact ⟨act0, tch0, s, h, fun _ _ => ⟨rfl, rfl⟩, by simp, he, hm⟩
  | o :: r, i, [], s, seen, act0, tch0, hsuf, hms, he, hm, hseen, h => by simp [evD] at h
  | o :: r, i, m :: ms, s, seen, act0, tch0, hsuf, hms, he, hm, hseen, h => by
    simp only [evD] at h
    obtain ⟨hd, h1⟩ := bif_some h
    obtain ⟨b, s1, h2, he1, hm1, hn1, hwant⟩ := guardA_sound h1
    clear h h1
    have hmi : masks.getD i 0 = m := by
      have : (masks.drop i)[0]? = some m := by rw [← hms]; rfl
      rw [List.getElem?_drop] at this
      simp at this
      simp [List.getD, this]
    have hms' : ms = masks.drop (i + 1) := by
      have := congrArg List.tail hms
      simpa using this
    have hbit : allBit i ms = true → ∀ j, i < j → j < masks.length → Nat.testBit (masks.getD j 0) i = true := fun hab j hj hjl => by
      have h1 : ms[j - (i + 1)]? = some (masks.getD j 0) := by
        rw [hms', List.getElem?_drop, show i + 1 + (j - (i + 1)) = j by omega, List.getD_eq_getElem?_getD, List.getElem?_eq_getElem hjl]
        rfl
      exact allBit_spec hab _ _ h1
    have hoi : ops.toList[i]? = some o := by have := hsuf 0; simpa using this.symm
    have hsuf' : ∀ k, r[k]? = ops.toList[i + 1 + k]? := fun k => by
      have := hsuf (k + 1)
      rw [show i + 1 + k = i + (k + 1) by omega, ← this]
      simp
    have hdst : dstF ops i = o.dst := by simp only [dstF, hoi, Option.bind_some]
    -- what is the same whatever the operation did: 'a' its act, 't' its touch, 's2' the state behind it
    have go : ∀ (a : Act1) (t : Tch) (s2 : St) (seen' : List (Nat × Option Nat × Bool)), lk2 s2.env = actE (nx0 + i) o.dst a (lk2 s.env) → lkM s2.mem = actM (nx0 + i) a (lkM s.mem) →
        (∀ j c st, (j, c, st) ∈ seen → (j, c, st) ∈ seen') → (∀ c st, t = some (c, st) → (i, c, st) ∈ seen') → evD C nt inl ops.toList m0 nx0 (Nat.succ i) ms seen' r s2 K = some res →
        StepAt P C gl nt ops m0 nx0 i o (lk2 s.env) (lkM s.mem) a t →
        (∀ (act : Nat → Act1) (tch : Nat → Tch), (∀ j, j < i → tch j = tch0 j) → act i = a → tch i = t → Confl nx0 masks.length (fun k => masks.getD k 0) act tch i) →
        ∃ (act : Nat → Act1) (tch : Nat → Tch) (s' : St), K s' = some res ∧ (∀ j, j < i → act j = act0 j ∧ tch j = tch0 j) ∧
          (∀ k o', (o :: r)[k]? = some o' → StepAt P C gl nt ops m0 nx0 (i + k) o' (EF nx0 (dstF ops) act (fun _ => true) e0 (i + k)) (MF nx0 act (fun _ => true) mm0 (i + k)) (act (i + k)) (tch (i + k)) ∧
            Confl nx0 masks.length (fun k => masks.getD k 0) act tch (i + k)) ∧
          lk2 s'.env = EF nx0 (dstF ops) act (fun _ => true) e0 (i + (o :: r).length) ∧ lkM s'.mem = MF nx0 act (fun _ => true) mm0 (i + (o :: r).length) := by
      intro a t s2 seen' h3 h4 h5 h6 h7 h8 h9
      have hact0 : ∀ j, j < i → act0 j = (fun j => if j = i then a else act0 j) j := fun j hj => by simp [Nat.ne_of_lt hj]
      obtain ⟨act, tch, s', hK, hag, hst, hE', hM'⟩ := evD_trace hC hinl r (i + 1) ms s2 seen' (fun j => if j = i then a else act0 j) (fun j => if j = i then t else tch0 j) hsuf' hms'
        (by
          rw [h3, he]
          simp only [EF, if_true, hdst]
          rw [EF_act i hact0])
        (by
          rw [h4, hm]
          simp only [MF, if_true]
          rw [MF_act i hact0])
        (fun j hj c st hjc => by
          by_cases hji : j = i
          · subst hji
            exact h6 c st (by simpa using hjc)
          · exact h5 j c st (hseen j (by omega) c st (by simpa [hji] using hjc))) h7
      have hag' : ∀ j, j < i → act j = act0 j ∧ tch j = tch0 j := fun j hj => by
        have := hag j (by omega)
        simpa [Nat.ne_of_lt hj] using this
      have hai : act i = a ∧ tch i = t := by
        have := hag i (by omega)
        simpa using this
      refine ⟨act, tch, s', hK, hag', ?_, by rw [hE']; simp [Nat.add_assoc, Nat.add_comm 1], by rw [hM']; simp [Nat.add_assoc, Nat.add_comm 1]⟩
      intro k o' hk
      cases k with
      | zero =>
        simp at hk
        subst hk
        have e1 : EF nx0 (dstF ops) act (fun _ => true) e0 i = lk2 s.env := by rw [he]; exact EF_act i fun j hj => (hag' j hj).1
        have e2 : MF nx0 act (fun _ => true) mm0 i = lkM s.mem := by rw [hm]; exact MF_act i fun j hj => (hag' j hj).1
        simp only [Nat.add_zero, e1, e2, hai.1, hai.2]
        exact ⟨h8, h9 act tch (fun j hj => (hag' j hj).2) hai.1 hai.2⟩
      | succ k =>
        have := hst k o' (by simpa using hk)
        rwa [show i + 1 + k = i + (k + 1) by omega] at this
    cases b
    · simp only [cond_false] at h2
      refine go .skip none { s1 with env := putE o.dst none s1.env } seen ?_ ?_ (fun _ _ _ h => h) (fun c st h => by cases h) h2 ?_ ?_
      · cases hod : o.dst with
        | none => simp only [putE, actE]; exact he1
        | some t => simp only [putE, actE, actV]; rw [lk2_cons, he1]
      · simp only [actM]; rw [hm1]
      · exact ⟨hd, false, hwant, .inl ⟨rfl, rfl, rfl⟩⟩
      · intro act tch _ ha ht
        simp only [Confl, ht, ha, isSt]
    · simp only [cond_true] at h2
      cases hent : isEntered C s1 o with
      | some q =>
        obtain ⟨f, args⟩ := q
        simp only [hent] at h2
        cases hful : (bif fullM m i then allBit i ms else false) with
        | true =>
          simp only [hful, cond_true] at h2
          have h4 := h2
          obtain ⟨hfm, hab⟩ := bif_and hful
          have goB : ∀ v : AV, plainV v = true → evD C nt inl ops.toList m0 nx0 (Nat.succ i) ms ((i, none, true) :: seen) r { s1 with env := putE o.dst (some v) s1.env } K = some res → (∀ args w, (callFunc f args).run P w = .ok (.enter f args) w) →
              (∀ w0, GOK C.G gl w0 → ∀ σ (vals : Array Value) w, VRs σ args vals.toList → RepM w0 C.G (fun j => nx0 + i ≤ j) σ (lkM (roMem s1.mem)) w → Calls P f vals w (fun e w' => ∃ rv σ', e = .returned rv ∧ VR σ' v rv ∧ Below w0.heap.size w0 w')) →
              ∃ (act : Nat → Act1) (tch : Nat → Tch) (s' : St), K s' = some res ∧ (∀ j, j < i → act j = act0 j ∧ tch j = tch0 j) ∧
                (∀ k o', (o :: r)[k]? = some o' → StepAt P C gl nt ops m0 nx0 (i + k) o' (EF nx0 (dstF ops) act (fun _ => true) e0 (i + k)) (MF nx0 act (fun _ => true) mm0 (i + k)) (act (i + k)) (tch (i + k)) ∧
                  Confl nx0 masks.length (fun k => masks.getD k 0) act tch (i + k)) ∧
                lk2 s'.env = EF nx0 (dstF ops) act (fun _ => true) e0 (i + (o :: r).length) ∧ lkM s'.mem = MF nx0 act (fun _ => true) mm0 (i + (o :: r).length) := by
            intro v hpl h6 hcf hcalls
            refine go (.call v) (some (none, true)) { s1 with env := putE o.dst (some v) s1.env } _ ?_ ?_ (fun j c st h => List.mem_cons_of_mem _ h) (fun c st h => by cases h; simp) h6 ?_ ?_
            · cases hod : o.dst with
              | none => simp only [putE, actE]; exact he1
              | some t => simp only [putE, actE, actV]; rw [lk2_cons, he1]
            · simp only [actM]; rw [hm1]
            · refine ⟨hd, true, hwant, .inr (.inr (.inl ⟨rfl, rfl, ?_⟩))⟩
              intro w0 hG U σ a w nt' hm hE hU hd' K' Q hK
              have hm' : RepM w0 C.G U σ (lkM s1.mem) w := by rw [hm1]; exact hm
              obtain ⟨vals, hv, hrun⟩ := isEntered_sound hent hcf (e := lk2 s.env) (fun t ht v hv => by rw [← he1]; exact lk_some hv) hm' hE
              unfold Oper.wp
              rw [hrun w, Oper.upon_enter]
              refine (hcalls w (hG.later hm.below) σ vals w hv (hm'.ro.less hU)).mono ?_
              rintro ex w' ⟨rv, σ', rfl, hrv, hb⟩
              exact hK σ _ _ (Ext.refl _) (fun _ _ => rfl) (fun _ => hb) ((hm.later hb).less fun j hj => hj.1) (hE.putD hd' rfl (plainV_VR hpl hrv)) put_other
            · intro act tch htch ha ht
              simp only [Confl, ht, ha, barA, true_and, hmi]
              exact ⟨fullM_spec hfm, hbit hab⟩
          cases hj : C.join f with
          | none =>
            simp only [hj] at h4
            obtain ⟨v, mem', nx', h5, hle, hcf, hcalls⟩ := hinl R f args _ _ _ _ h4
            obtain ⟨hpl, h6⟩ := bif_some h5
            refine goB v hpl h6 hcf fun w0 hG σ vals w hv hm => (hcalls w0 hG σ vals w hv hm).mono ?_
            rintro ex w' ⟨rv, σ', rfl, _, hrv, hm2⟩
            exact ⟨rv, σ', rfl, hrv, hm2.below⟩
          | some c =>
            simp only [hj] at h4
            obtain ⟨t, h5, h6⟩ := Option.bind_eq_some_iff.1 h4
            obtain ⟨v, mem', nx', h7, hle, hcf, hcalls⟩ := hinl c.T f args _ _ _ _ h5
            obtain ⟨rfl, hpl⟩ := hC.join f c hj v t h7
            refine goB _ hpl h6 hcf fun w0 hG σ vals w hv hm => (hcalls w0 hG σ vals w hv hm).mono ?_
            rintro ex w' ⟨rv, σ', rfl, _, hrv, hm2⟩
            exact ⟨rv, σ', rfl, hrv, hm2.below⟩
        | false =>
        simp only [hful, cond_false] at h2
        obtain ⟨hns, h3⟩ := bif_some h2
        obtain ⟨hlow, h4⟩ := bif_some h3
        have goE : ∀ v : AV, plainV v = true → evD C nt inl ops.toList m0 nx0 (Nat.succ i) ms ((i, none, false) :: seen) r { s1 with env := putE o.dst (some v) s1.env } K = some res → (∀ args w, (callFunc f args).run P w = .ok (.enter f args) w) →
            (∀ w0, GOK C.G gl w0 → ∀ σ (vals : Array Value) w, VRs σ args vals.toList → RepM w0 C.G (fun j => nx0 ≤ j) σ (lkM (roMem m0)) w → Calls P f vals w (fun e w' => ∃ rv σ', e = .returned rv ∧ VR σ' v rv ∧ Below w0.heap.size w0 w')) →
            ∃ (act : Nat → Act1) (tch : Nat → Tch) (s' : St), K s' = some res ∧ (∀ j, j < i → act j = act0 j ∧ tch j = tch0 j) ∧
              (∀ k o', (o :: r)[k]? = some o' → StepAt P C gl nt ops m0 nx0 (i + k) o' (EF nx0 (dstF ops) act (fun _ => true) e0 (i + k)) (MF nx0 act (fun _ => true) mm0 (i + k)) (act (i + k)) (tch (i + k)) ∧
                Confl nx0 masks.length (fun k => masks.getD k 0) act tch (i + k)) ∧
              lk2 s'.env = EF nx0 (dstF ops) act (fun _ => true) e0 (i + (o :: r).length) ∧ lkM s'.mem = MF nx0 act (fun _ => true) mm0 (i + (o :: r).length) := by
          intro v hpl h6 hcf hcalls
          refine go (.call v) (some (none, false)) { s1 with env := putE o.dst (some v) s1.env } _ ?_ ?_ (fun j c st h => List.mem_cons_of_mem _ h) (fun c st h => by cases h; simp) h6 ?_ ?_
          · cases hod : o.dst with
            | none => simp only [putE, actE]; exact he1
            | some t => simp only [putE, actE, actV]; rw [lk2_cons, he1]
          · simp only [actM]; rw [hm1]
          · refine ⟨hd, true, hwant, .inr (.inr (.inr ⟨rfl, rfl, v, f, args, rfl, hpl, hlow, ?_, ?_⟩))⟩
            · intro e' he' w0 U σ m w a hm hE
              exact isEntered_sound hent hcf (e := e') (fun t ht v hv => by rw [he' t (tmp_looks ht), ← he1]; exact lk_some hv) hm hE
            · intro w0 hG σ vals w hv hm
              exact hcalls w0 hG σ vals w hv hm
          · intro act tch htch ha ht
            simp only [Confl, ht, ha, isSt, true_and]
            intro j hj c hc
            rw [htch j hj] at hc
            exact noSt_spec hns j c (hseen j hj c true hc)
        cases hj : C.join f with
        | none =>
          simp only [hj] at h4
          obtain ⟨v, mem', nx', h5, hle, hcf, hcalls⟩ := hinl R f args _ _ _ _ h4
          obtain ⟨hpl, h6⟩ := bif_some h5
          refine goE v hpl h6 hcf fun w0 hG σ vals w hv hm => (hcalls w0 hG σ vals w hv hm).mono ?_
          rintro ex w' ⟨rv, σ', rfl, _, hrv, hm2⟩
          exact ⟨rv, σ', rfl, hrv, hm2.below⟩
        | some c =>
          simp only [hj] at h4
          obtain ⟨t, h5, h6⟩ := Option.bind_eq_some_iff.1 h4
          obtain ⟨v, mem', nx', h7, hle, hcf, hcalls⟩ := hinl c.T f args _ _ _ _ h5
          obtain ⟨rfl, hpl⟩ := hC.join f c hj v t h7
          refine goE _ hpl h6 hcf fun w0 hG σ vals w hv hm => (hcalls w0 hG σ vals w hv hm).mono ?_
          rintro ex w' ⟨rv, σ', rfl, _, hrv, hm2⟩
          exact ⟨rv, σ', rfl, hrv, hm2.below⟩
      | none =>
        simp only [hent] at h2
        cases hbar : isBar C s1 o with
        | true =>
          simp only [hbar, cond_true] at h2
          obtain ⟨hful, h3⟩ := bif_some h2
          obtain ⟨hfm, hab⟩ := bif_and hful
          obtain ⟨act1, h4, hok, hst2, hact⟩ := actOf_sound hC h3
          have hba : barA act1 = true := by
            rcases hok with ⟨h5, _⟩ | ⟨_, h5⟩
            · rw [hbar] at h5; cases h5
            · exact h5
          refine go act1 (some (none, true)) _ _ ?_ ?_ (fun j c st h => List.mem_cons_of_mem _ h) (fun c st h => by cases h; simp) h4 ?_ ?_
          · rw [apply1_e, he1]; rfl
          · rw [apply1_m, hm1]; rfl
          · refine ⟨hd, true, hwant, .inr (.inr (.inl ⟨rfl, rfl, fun w0 hG U σ a w nt' hm hE hU hd' K' Q hK => ?_⟩))⟩
            exact hact w0 hG (nx0 + i) (lk2 s.env) (lkM s.mem) ⟨fun t _ v hv => by rw [← he1]; exact lk_some hv, fun b _ => by rw [hm1], fun _ => by rw [hm1]⟩ U σ a w nt' hm hE (hU _ (Nat.le_refl _)) hd' K' Q hK
          · intro act tch htch ha ht
            simp only [Confl, ht, ha, hba, true_and, hmi]
            exact ⟨fullM_spec hfm, hbit hab⟩
        | false =>
        simp only [hbar, cond_false] at h2
        cases htc : touchOf C s1 o with
        | none =>
          simp only [htc] at h2
          obtain ⟨act1, h3, hok1, hst2, hact⟩ := actOf_sound hC h2
          have hna : isA act1 = false := by
            rcases hok1 with ⟨_, _, h5⟩ | ⟨h5, _⟩
            · exact h5
            · rw [hbar] at h5; cases h5
          have hns : isSt act1 = false := by
            cases act1 with
            | st b blk =>
              have := hst2 b blk rfl
              rw [htc] at this
              cases this
            | app i cs el sz n => cases hna
            | _ => rfl
          refine go act1 none _ seen ?_ ?_ (fun _ _ _ h => h) (fun c st h => by cases h) h3 ?_ ?_
          · rw [apply1_e, he1]; rfl
          · rw [apply1_m, hm1]; rfl
          · refine ⟨hd, true, hwant, .inr (.inl ⟨rfl, (fun st h => by cases h), fun w0 hG e' m' he' hm' => hact w0 hG _ e' m' ⟨fun t ht v hv => ?_, fun b hb => ?_, fun hb => ?_⟩⟩)⟩
            · rw [he' t (tmp_looks ht), ← he1]; exact lk_some hv
            · rw [htc] at hb; cases hb
            · rw [hbar] at hb; cases hb
          · intro act tch _ ha ht
            simp only [Confl, ht, ha, hns]
        | some b =>
          simp only [htc] at h2
          obtain ⟨hin, h3⟩ := bif_some h2
          obtain ⟨hok, h4⟩ := bif_some h3
          obtain ⟨act1, h5, hok1, hst2, hact⟩ := actOf_sound hC h4
          have hst : isSt act1 = isStore o ∧ isA act1 = false := by
            rcases hok1 with ⟨_, h5, h6⟩ | ⟨h5, _⟩
            · exact ⟨h5, h6⟩
            · rw [hbar] at h5; cases h5
          obtain ⟨hst, hna⟩ := hst
          have hin' : b < nx0 ∨ Nat.testBit m (b - nx0) = true := by
            cases hb : Nat.blt b nx0
            · simp only [hb, cond_false] at hin; exact .inr hin
            · exact .inl (Nat.lt_of_lt_of_le (Nat.lt_succ_self _) (Nat.le_of_ble_eq_true hb))
          refine go act1 (some (some b, isStore o)) _ _ ?_ ?_ (fun j c st h => List.mem_cons_of_mem _ h) (fun c st h => by cases h; simp) h5 ?_ ?_
          · rw [apply1_e, he1]; rfl
          · rw [apply1_m, hm1]; rfl
          · refine ⟨hd, true, hwant, .inr (.inl ⟨rfl, (fun st h => by cases h), fun w0 hG e' m' he' hm' => hact w0 hG _ e' m' ⟨fun t ht v hv => ?_, fun b' hb => ?_, fun hb => ?_⟩⟩)⟩
            · rw [he' t (tmp_looks ht), ← he1]; exact lk_some hv
            · rw [htc] at hb
              obtain rfl := Option.some.inj hb
              rw [hm' b _ rfl, hm1]
            · rw [hbar] at hb; cases hb
          · intro act tch htch ha ht
            cases hso : isStore o
            · rw [hso] at ht hok hst
              simp only [cond_false] at hok
              simp only [Confl, ht, ha, hst, true_and, hmi]
              exact ⟨hin', fun j hj hjt => ldOk_spec hok j (hseen j hj _ _ (by rw [← htch j hj]; exact hjt))⟩
            · rw [hso] at ht hok hst
              simp only [cond_true] at hok
              simp only [Confl, ht, ha, hmi]
              refine ⟨hna, hin', fun c blk hc => ?_, fun j hj c s hjt hor => stOk_spec hok j c s (hseen j hj _ _ (by rw [← htch j hj]; exact hjt)) hor⟩
              have := hst2 c blk hc
              rw [htc] at this
              exact (Option.some.inj this).symm
end
end Go.VE
