/-
  THE READING MACHINE: regions that draw their order: every order.
-/
import Derived.Test.YtggiamcgkiaicaaDoorVEj
namespace Go.VE
open Go.RowKit (Below)
set_option linter.unusedSimpArgs false
set_option linter.unusedVariables false

theorem EF_lt {nx0 : Nat} {dst : Nat → Option Tmp} {act : Nat → Act1} {e0 : Nat → Option (Option AV)} (i : Nat) : ∀ (n : Nat), i ≤ n → EF nx0 dst act (fun j => decide (j < i)) e0 n = EF nx0 dst act (fun _ => true) e0 i
  | 0, h => by obtain rfl : i = 0 := by omega
               rfl
  | n + 1, h => by
    by_cases hi : i = n + 1
    · subst hi
      funext t
      exact EF_congr (n + 1) fun j hj _ => by simp [hj]
    · simp only [EF]
      rw [if_neg (by simp; omega)]
      exact EF_lt i n (by omega)

theorem MF_lt {nx0 : Nat} {act : Nat → Act1} {m0 : Nat → Option Blk} (i : Nat) : ∀ (n : Nat), i ≤ n → MF nx0 act (fun j => decide (j < i)) m0 n = MF nx0 act (fun _ => true) m0 i
  | 0, h => by obtain rfl : i = 0 := by omega
               rfl
  | n + 1, h => by
    by_cases hi : i = n + 1
    · subst hi
      funext t
      exact MF_congr (n + 1) fun j hj _ => by simp [hj]
    · simp only [MF]
      rw [if_neg (by simp; omega)]
      exact MF_lt i n (by omega)

theorem Confl.store {nx0 N : Nat} {mask : Nat → Nat} {act : Nat → Act1} {tch : Nat → Tch} {k b : Nat} {blk : Blk} (h : Confl nx0 N mask act tch k) (ha : act k = .st b blk) :
    tch k = some (some b, true) ∧ (b < nx0 ∨ Nat.testBit (mask k) (b - nx0) = true) ∧ ∀ j, j < k → ∀ c s, tch j = some (c, s) → (c = none ∨ c = some b ∨ s = true) → Nat.testBit (mask k) j = true := by
  unfold Confl at h
  cases ht : tch k with
  | none => simp [ht, ha, isSt] at h
  | some q =>
    obtain ⟨c, s⟩ := q
    cases c with
    | none => cases s <;> simp [ht, ha, isSt, barA] at h
    | some c =>
      cases s with
      | false => simp [ht, ha, isSt] at h
      | true =>
        simp only [ht] at h
        obtain ⟨_, h1, h2, h3⟩ := h
        obtain rfl := h2 b blk ha
        exact ⟨rfl, h1, h3⟩

theorem Confl.app {nx0 N : Nat} {mask : Nat → Nat} {act : Nat → Act1} {tch : Nat → Tch} {k : Nat} (h : Confl nx0 N mask act tch k) {i sz n : Nat} {cs : List AV} {el : TypeId} (ha : act k = .app i cs el sz n) : tch k = some (none, true) := by
  unfold Confl at h
  cases ht : tch k with
  | none => simp [ht, ha, isSt] at h
  | some q =>
    obtain ⟨c, s⟩ := q
    cases c with
    | none =>
      cases s
      · simp [ht, ha, isSt] at h
      · rfl
    | some c => cases s <;> simp [ht, ha, isSt, isA] at h

theorem Confl.bar {nx0 N : Nat} {mask : Nat → Nat} {act : Nat → Act1} {tch : Nat → Tch} {k : Nat} (h : Confl nx0 N mask act tch k) (ht : tch k = some (none, true)) :
    barA (act k) = true ∧ (∀ j, j < k → Nat.testBit (mask k) j = true) ∧ ∀ j, k < j → j < N → Nat.testBit (mask j) k = true := by
  unfold Confl at h
  simpa [ht] using h

section
variable {P : Program} {C : Ctx} {gl : List (Nat × List AV)} {R : Type} {nt : Nat}

theorem count_false {l : List Bool} {i : Nat} (h : l[i]? = some false) : (l.set i true).count false + 1 = l.count false := by
  induction l generalizing i with
  | nil => simp at h
  | cons a l ih =>
    cases i with
    | zero => simp at h; subst h; simp
    | succ i =>
      have := ih (by simpa using h)
      simp only [List.set_cons_succ, List.count_cons]
      omega

set_option maxHeartbeats 1000000 in
theorem evD_sound (hC : CtxOK P C gl) {inl : (R : Type) → Inl R} (hinl : ∀ R, InlOK P C gl (inl R)) {ops : Array Oper} (hreg : regOk ops.toList = true) {s : St} {K : St → Option R} {r : R}
    (h : evD C nt inl ops.toList s.mem s.nx 0 (masksOf ops.toList []) [] ops.toList s K = some r) :
    ∃ s', K s' = some r ∧ ∀ w0, GOK C.G gl w0 → ∀ σ a w, RepM w0 C.G (fun j => s.nx ≤ j) σ (lkM s.mem) w → RepE σ nt (lk2 s.env) a → ∀ Q : Exit → Act → World → Prop,
      (∀ σ' a' w', Ext σ σ' → RepM w0 C.G (fun j => s.nx + ops.toList.length ≤ j) σ' (lkM s'.mem) w' → RepE σ' nt (lk2 s'.env) a' → (∀ u, (∀ o ∈ ops.toList, o.dst ≠ some u) → a'.tmps[u]? = a.tmps[u]?) → Q .normal a' w') →
      wpAny P .any ops Q ops.size (Array.replicate ops.size false) a w := by
  have hF := regOk_spec hreg
  obtain ⟨act, tch, s', hK, _, hst, hE', hM'⟩ := evD_trace hC hinl (masks := masksOf ops.toList []) (e0 := lk2 s.env) (mm0 := lkM s.mem) ops.toList 0 (masksOf ops.toList []) s [] (fun _ => .skip) (fun _ => none)
    (by simp) (by simp) rfl rfl (by simp) h
  refine ⟨s', hK, fun w0 hG σ0 a0 ws hm0 hE0 Q hQ => ?_⟩
  simp only [Nat.zero_add] at hst hE' hM'
  have hN : (masksOf ops.toList []).length = ops.toList.length := by
    obtain ⟨res, h1, h2, _⟩ := masksOf_spec ops.toList []
    rw [h1]
    simpa using h2
  rw [hN] at hst
  generalize hn : ops.toList.length = n at *
  have hsize : ops.size = n := by rw [← hn]; simp
  generalize hnx : s.nx = nx0 at *
  generalize hmask : (fun k => (masksOf ops.toList []).getD k 0) = mask at *
  have hops : ∀ i, i < n → ∃ o, ops.toList[i]? = some o := fun i hi => ⟨ops.toList[i]'(by omega), by rw [List.getElem?_eq_getElem]⟩
  have hst' : ∀ i o, ops.toList[i]? = some o → StepAt P C gl nt ops s.mem nx0 i o (EF nx0 (dstF ops) act (fun _ => true) (lk2 s.env) i) (MF nx0 act (fun _ => true) (lkM s.mem) i) (act i) (tch i) ∧ Confl nx0 n mask act tch i := by
    intro i o ho
    have := hst i o ho
    exact this
  have hconf : ∀ i, i < n → Confl nx0 n mask act tch i := fun i hi => let ⟨o, ho⟩ := hops i hi; (hst' i o ho).2
  -- the invariant
  let D : Array Bool → Nat → Bool := fun listed j => listed.getD j false
  let Inv : Array Bool → Act → World → Prop := fun listed a w => listed.size = n ∧ (∀ j, j < n → D listed j = true → ∀ i, Nat.testBit (mask j) i = true → D listed i = true) ∧
    ∃ σ, Ext σ0 σ ∧ (∀ j, j < nx0 → σ0 j = σ j) ∧ RepM w0 C.G (fun id => nx0 + n ≤ id ∨ ∃ k, k < n ∧ D listed k = false ∧ id = nx0 + k) σ (MF nx0 act (D listed) (lkM s.mem) n) w ∧
      RepE σ nt (EF nx0 (dstF ops) act (D listed) (lk2 s.env) n) a ∧ ((∀ j, j < n → D listed j = true → isSt (act j) = false) → Below ws.heap.size ws w) ∧ ∀ u, (∀ o ∈ ops.toList, o.dst ≠ some u) → a.tmps[u]? = a0.tmps[u]?
  have fin : ∀ listed a w, Inv listed a w → (∀ j, j < n → D listed j = true) → Q .normal a w := by
    rintro listed a w ⟨_, _, σ, hx, _, hm, hE, _, hfr⟩ hall
    refine hQ σ a w hx ?_ ?_ hfr
    · rw [hM']
      have : MF nx0 act (D listed) (lkM s.mem) n = MF nx0 act (fun _ => true) (lkM s.mem) n := by
        funext b
        exact MF_congr n fun j hj _ => hall j hj
      rw [← this]
      exact hm.less fun j hj => .inl hj
    · rw [hE']
      have : EF nx0 (dstF ops) act (D listed) (lk2 s.env) n = EF nx0 (dstF ops) act (fun _ => true) (lk2 s.env) n := by
        funext b
        exact EF_congr n fun j hj _ => hall j hj
      rw [← this]
      exact hE
  have allTrue : ∀ listed : Array Bool, listed.size = n → Region.ready .any ops listed = [] → ∀ j, j < n → D listed j = true := by
    intro listed hs hr j
    induction j using Nat.strongRecOn with
    | _ j ih =>
      intro hj
      cases hdj : D listed j with
      | true => rfl
      | false =>
        obtain ⟨o, ho⟩ := hops j hj
        have hmem : j ∈ Region.ready .any ops listed := by
          rw [mem_ready]
          refine ⟨?_, o, by simpa using ho, fun e he hb => ?_⟩
          · have hlt : j < listed.size := by omega
            simp only [D] at hdj
            simpa [Array.getD, hlt] using hdj
          · have hlt := hF.edge j o ho e (by simpa using he) hb
            exact ih e.on hlt (by omega)
        rw [hr] at hmem
        simp at hmem
  -- one operation comes up
  have step : ∀ (fuel : Nat), (∀ listed a w, listed.toList.count false = fuel → Inv listed a w → wpAny P .any ops Q fuel listed a w) →
      ∀ listed a w, listed.toList.count false = fuel + 1 → Inv listed a w → ∀ i ∈ Region.ready .any ops listed, wpOp P ops Q i (wpAny P .any ops Q fuel (listed.setIfInBounds i true)) a w := by
    rintro fuel ih listed a w hcnt ⟨hsz, hcl, σ, hx, hlo, hm, hE, hbel, hfr⟩ i hi
    obtain ⟨hun, o, ho, hedge⟩ := mem_ready.1 hi
    have hin : i < n := by
      have := (Array.getElem?_eq_some_iff.1 ho).1
      omega
    have hil : i < listed.size := by omega
    have hli : listed[i] = false := by simpa [Array.getD, hil] using hun
    have hDi : D listed i = false := by simp [D, Array.getD, hil, hli]
    have hoL : ops.toList[i]? = some o := by simpa using ho
    have hD' : D (listed.setIfInBounds i true) = addD (D listed) i := by
      funext j
      simp only [D, addD]
      by_cases hji : j = i
      · subst hji; simp [hil]
      · simp [hji, Array.getElem?_setIfInBounds_ne (Ne.symm hji)]
    have hcnt' : (listed.setIfInBounds i true).toList.count false = fuel := by
      have := count_false (l := listed.toList) (i := i) (by simp [hil, hli])
      rw [Array.toList_setIfInBounds]
      omega
    have hmaskD : ∀ j, Nat.testBit (mask i) j = true → D listed j = true := by
      intro j hj
      obtain ⟨e, he, hb, hor⟩ := hF.via i o hoL j hj
      have hle := hF.edge i o hoL e he hb
      have hDe : D listed e.on = true := hedge e (by simpa using he) hb
      rcases hor with rfl | hor
      · exact hDe
      · exact hcl e.on (by omega) hDe j hor
    have hlater : ∀ j, j < n → D listed j = true → Nat.testBit (mask j) i = true → False := fun j hj hDj hb => by
      have := hcl j hj hDj i hb
      rw [hDi] at this
      cases this
    have hmlt : ∀ j, Nat.testBit (mask i) j = true → j < i := fun j hj => hF.lt i o hoL j hj
    -- the registers that it looks at
    have hlooks : ∀ t ∈ looksL ops.toList o, EF nx0 (dstF ops) act (D listed) (lk2 s.env) n t = EF nx0 (dstF ops) act (fun _ => true) (lk2 s.env) i t := by
      intro t ht
      rw [← EF_lt i n (by omega)]
      refine EF_congr n fun j hj hdj => ?_
      obtain ⟨oj, hoj⟩ := hops j hj
      have hdj' : oj.dst = some t := by simpa [dstF, hoj] using hdj
      rcases Nat.lt_trichotomy j i with hlt | rfl | hgt
      · rcases hF.apart i o j oj hoL hoj hlt with hb | hap
        · rw [hmaskD j hb]; simp [hlt]
        · exact absurd ht ((apartL_spec hap).1 t hdj')
      · rw [hDi]; simp
      · have hdec : decide (j < i) = false := by simp; omega
        rw [hdec]
        cases hDj : D listed j with
        | false => rfl
        | true =>
          rcases hF.apart j oj i o hoj hoL hgt with hb | hap
          · exact (hlater j hj hDj hb).elim
          · exact absurd ht ((apartL_spec hap).2.1 t hdj')
    obtain ⟨⟨hd, b, hwant, hcase⟩, hci⟩ := hst' i o hoL
    have hw := hwant _ hlooks σ nt a hE
    have hdsti : dstF ops i = o.dst := by simp [dstF, hoL]
    have hEadd : EF nx0 (dstF ops) act (addD (D listed) i) (lk2 s.env) n = actE (nx0 + i) o.dst (act i) (EF nx0 (dstF ops) act (D listed) (lk2 s.env) n) := by
      rw [EF_add hDi n, if_pos hin, hdsti]
      intro j hj hij hDj t hti htj
      obtain ⟨oj, hoj⟩ := hops j hj
      rcases hF.apart j oj i o hoj hoL hij with hb | hap
      · exact hlater j hj hDj hb
      · exact (apartL_spec hap).2.2 t (by rw [← hdsti]; exact hti) (by simpa [dstF, hoj] using htj)
    have hMadd : MF nx0 act (addD (D listed) i) (lkM s.mem) n = actM (nx0 + i) (act i) (MF nx0 act (D listed) (lkM s.mem) n) := by
      rw [MF_add hDi n, if_pos hin]
      intro j hj hij hDj b hwi hwj
      cases haj : act j with
      | new cs e sl =>
        simp only [haj, writesM] at hwj
        subst hwj
        cases hai : act i with
        | new cs' e' sl' => simp only [hai, writesM] at hwi; omega
        | app c cs' e' sz' n' => exact hlater j hj hDj ((hci.bar (hci.app hai)).2.2 j hij hj)
        | st c blk =>
          simp only [hai, writesM] at hwi
          subst hwi
          rcases (hci.store hai).2.1 with h1 | h1
          · omega
          · rw [Nat.add_sub_cancel_left] at h1
            have := hmlt j h1
            omega
        | skip => simp [hai, writesM] at hwi
        | val v => simp [hai, writesM] at hwi
        | call v => simp [hai, writesM] at hwi
      | st c blk =>
        simp only [haj, writesM] at hwj
        subst hwj
        obtain ⟨htj, h1, h2⟩ := (hconf j hj).store haj
        cases hai : act i with
        | new cs' e' sl' =>
          simp only [hai, writesM] at hwi
          subst hwi
          rcases h1 with h1 | h1
          · omega
          · rw [Nat.add_sub_cancel_left] at h1
            exact hlater j hj hDj h1
        | st c' blk' =>
          simp only [hai, writesM] at hwi
          subst hwi
          exact hlater j hj hDj (h2 i hij _ _ (hci.store hai).1 (.inr (.inr rfl)))
        | app c' cs' e' sz' n' => exact hlater j hj hDj ((hci.bar (hci.app hai)).2.2 j hij hj)
        | skip => simp [hai, writesM] at hwi
        | val v => simp [hai, writesM] at hwi
        | call v => simp [hai, writesM] at hwi
      | app c cs e sz n' => exact hlater j hj hDj (((hconf j hj).bar ((hconf j hj).app haj)).2.1 i hij)
      | skip => simp [haj, writesM] at hwj
      | val v => simp [haj, writesM] at hwj
      | call v => simp [haj, writesM] at hwj
    have hU : (fun id => nx0 + n ≤ id ∨ ∃ k, k < n ∧ D listed k = false ∧ id = nx0 + k) (nx0 + i) := .inr ⟨i, hin, hDi, rfl⟩
    -- the state behind it
    have next : ∀ σ' a' w', Ext σ σ' → (∀ j, j ≠ nx0 + i → σ' j = σ j) → (isSt (act i) = false → Below w.heap.size w w') →
        RepM w0 C.G (fun j => (nx0 + n ≤ j ∨ ∃ k, k < n ∧ D listed k = false ∧ j = nx0 + k) ∧ j ≠ nx0 + i) σ' (actM (nx0 + i) (act i) (MF nx0 act (D listed) (lkM s.mem) n)) w' →
        RepE σ' nt (actE (nx0 + i) o.dst (act i) (EF nx0 (dstF ops) act (D listed) (lk2 s.env) n)) a' → (∀ u, o.dst ≠ some u → a'.tmps[u]? = a.tmps[u]?) → wpAny P .any ops Q fuel (listed.setIfInBounds i true) a' w' := by
      intro σ' a' w' hx' hother hb' hm' hE2 hf2
      refine ih _ _ _ hcnt' ⟨by simpa using hsz, ?_, σ', hx.trans hx', fun j hj => (hlo j hj).trans (hother j (by omega)).symm, ?_, ?_, ?_, fun u hu => (hf2 u (hu o (List.mem_of_getElem? hoL))).trans (hfr u hu)⟩
      · rw [hD']
        intro j hj hDj k hk
        simp only [addD] at hDj ⊢
        by_cases hki : k = i
        · simp [hki]
        · simp only [hki, if_false]
          by_cases hji : j = i
          · subst hji; exact hmaskD k hk
          · simp only [hji, if_false] at hDj
            exact hcl j hj hDj k hk
      · rw [hD', hMadd]
        refine hm'.less ?_
        rintro j (hj | ⟨k, hk, hDk, rfl⟩)
        · exact ⟨.inl hj, by omega⟩
        · simp only [addD] at hDk
          by_cases hki : k = i
          · simp [hki] at hDk
          · simp only [hki, if_false] at hDk
            exact ⟨.inr ⟨k, hk, hDk, rfl⟩, by omega⟩
      · rw [hD', hEadd]
        exact hE2
      · rw [hD']
        intro hno
        have h1 : Below ws.heap.size ws w := hbel fun j hj hDj => hno j hj (by simp [addD, hDj])
        have h2 : isSt (act i) = false := hno i hin (by simp [addD])
        exact h1.trans ((hb' h2).mono h1.size)
    unfold wpOp
    simp only [ho, hw]
    rcases hcase with ⟨rfl, hact, _⟩ | ⟨rfl, htn, hopact⟩ | ⟨rfl, htn, hopact⟩ | ⟨rfl, htn, v, f, args, hact, hpl, hlow, hargs, hcalls⟩
    · simp only [Bool.false_eq_true, if_false]
      refine next σ _ w (Ext.refl _) (fun _ _ => rfl) (fun _ => Below.refl _ _) ?_ ?_ put_other
      · rw [hact]; exact hm.less fun j hj => hj.1
      · rw [hact]; exact hE.putDN hd rfl
    · simp only [if_true]
      refine .inl ?_
      refine hopact w0 hG _ _ hlooks ?_ _ σ a w nt hm hE hU hd _ _ fun σ' a' w' h1 h2 h3 h4 h5 h6 => next σ' a' w' h1 h2 h3 h4 h5 h6
      intro c st htc
      rw [← MF_lt i n (by omega)]
      refine MF_congr n fun j hj hwj => ?_
      -- what is asked of the block that it touches
      have hblk : c < nx0 ∨ Nat.testBit (mask i) (c - nx0) = true := by
        have h1 := hci
        unfold Confl at h1
        rw [htc] at h1
        cases st
        · exact h1.2.1
        · exact h1.2.1
      cases haj : act j with
      | new cs e sl =>
        simp only [haj, writesM] at hwj
        subst hwj
        rcases hblk with h1 | h1
        · omega
        · rw [Nat.add_sub_cancel_left] at h1
          rw [hmaskD j h1]
          simp [hmlt j h1]
      | st c' blk =>
        simp only [haj, writesM] at hwj
        subst hwj
        obtain ⟨htj, _, h2⟩ := (hconf j hj).store haj
        rcases Nat.lt_trichotomy j i with hlt | rfl | hgt
        · have hb : Nat.testBit (mask i) j = true := by
            have h1 := hci
            unfold Confl at h1
            rw [htc] at h1
            cases st
            · exact h1.2.2 j hlt htj
            · exact h1.2.2.2 j hlt _ _ htj (.inr (.inr rfl))
          rw [hmaskD j hb]
          simp [hlt]
        · rw [hDi]; simp
        · have hdec : decide (j < i) = false := by simp; omega
          rw [hdec]
          cases hDj : D listed j with
          | false => rfl
          | true => exact (hlater j hj hDj (h2 i hgt _ _ htc (.inr (.inl rfl)))).elim
      | app c' cs e sz n' =>
        have hbj := (hconf j hj).bar ((hconf j hj).app haj)
        rcases Nat.lt_trichotomy j i with hlt | rfl | hgt
        · rw [hmaskD j (hbj.2.2 i hlt hin)]
          simp [hlt]
        · rw [hDi]; simp
        · have hdec : decide (j < i) = false := by simp; omega
          rw [hdec]
          cases hDj : D listed j with
          | false => rfl
          | true => exact (hlater j hj hDj (hbj.2.1 i hgt)).elim
      | skip => simp [haj, writesM] at hwj
      | val v => simp [haj, writesM] at hwj
      | call v => simp [haj, writesM] at hwj
    · simp only [if_true]
      refine .inl ?_
      have hbi := hci.bar htn
      have hDall : ∀ j, j < n → D listed j = decide (j < i) := by
        intro j hj
        rcases Nat.lt_trichotomy j i with hlt | rfl | hgt
        · rw [hmaskD j (hbi.2.1 j hlt)]; simp [hlt]
        · rw [hDi]; simp
        · have hdec : decide (j < i) = false := by simp; omega
          rw [hdec]
          cases hDj : D listed j with
          | false => rfl
          | true => exact (hlater j hj hDj (hbi.2.2 j hgt hj)).elim
      have heM : MF nx0 act (D listed) (lkM s.mem) n = MF nx0 act (fun _ => true) (lkM s.mem) i := by
        rw [← MF_lt i n (by omega)]
        funext b
        exact MF_congr n fun j hj _ => hDall j hj
      have heE : EF nx0 (dstF ops) act (D listed) (lk2 s.env) n = EF nx0 (dstF ops) act (fun _ => true) (lk2 s.env) i := by
        rw [← EF_lt i n (by omega)]
        funext b
        exact EF_congr n fun j hj _ => hDall j hj
      refine hopact w0 hG _ σ a w nt (by rw [← heM]; exact hm) (by rw [← heE]; exact hE) ?_ hd _ _ fun σ' a' w' h1 h2 h3 h4 h5 h6 => next σ' a' w' h1 h2 h3 (by rw [heM]; exact h4) (by rw [heE]; exact h5) h6
      intro j hj
      by_cases hjn : nx0 + n ≤ j
      · exact .inl hjn
      · refine .inr ⟨j - nx0, by omega, ?_, by omega⟩
        rw [hDall (j - nx0) (by omega)]
        simp
        omega
    · simp only [if_true]
      refine .inl ?_
      obtain ⟨vals, hv, hrun⟩ := hargs _ hlooks w0 _ σ _ w a hm hE
      -- no store has come up
      have hnost : ∀ j, j < n → D listed j = true → isSt (act j) = false := by
        intro j hj hDj
        cases haj : act j with
        | st c blk =>
          exfalso
          obtain ⟨htj, _, h2⟩ := (hconf j hj).store haj
          have h1 := hci
          unfold Confl at h1
          rw [htn] at h1
          rcases Nat.lt_trichotomy j i with hlt | rfl | hgt
          · exact h1.2 j hlt _ htj
          · rw [hDi] at hDj; cases hDj
          · exact hlater j hj hDj (h2 i hgt _ _ htn (.inl rfl))
        | app c cs e sz n' =>
          exfalso
          have htj := (hconf j hj).app haj
          have h1 := hci
          unfold Confl at h1
          rw [htn] at h1
          rcases Nat.lt_trichotomy j i with hlt | rfl | hgt
          · exact h1.2 j hlt _ htj
          · rw [hDi] at hDj; cases hDj
          · exact hlater j hj hDj (((hconf j hj).bar htj).2.1 i hgt)
        | new cs e sl => rfl
        | skip => rfl
        | val v => rfl
        | call v => rfl
      have hb := hbel hnost
      have hm1 : RepM w0 C.G (fun j => nx0 ≤ j) σ0 (lkM s.mem) w := hm0.later hb
      unfold Oper.wp
      rw [hrun w, Oper.upon_enter]
      refine (hcalls w (hG.later hm.below) σ0 vals w (lowVs_VR (fun i hi => (hlo i hi).symm) hlow hv) hm1.ro).mono ?_
      rintro ex w' ⟨rv, σ', rfl, hrv, hb2⟩
      refine next σ _ w' (Ext.refl _) (fun _ _ => rfl) (fun _ => hb2) ?_ ?_ put_other
      · rw [hact]; exact (hm.later hb2).less fun j hj => hj.1
      · rw [hact]; exact hE.putD hd rfl (plainV_VR hpl hrv)
  have main : ∀ (fuel : Nat) listed a w, listed.toList.count false = fuel → Inv listed a w → wpAny P .any ops Q fuel listed a w := by
    intro fuel
    induction fuel with
    | zero =>
      intro listed a w hcnt hinv
      have hall : ∀ j, j < n → D listed j = true := by
        intro j hj
        have hs := hinv.1
        have hjl : j < listed.size := by omega
        cases hlj : listed[j] with
        | true => simp [D, Array.getD, hjl, hlj]
        | false =>
          exfalso
          have : false ∈ listed.toList := by
            rw [← hlj]
            simp
          have := List.count_pos_iff.2 this
          omega
      refine ⟨?_, fin listed a w hinv hall⟩
      cases hr : Region.ready .any ops listed with
      | nil => rfl
      | cons i l =>
        exfalso
        have hi : i ∈ Region.ready .any ops listed := by rw [hr]; simp
        obtain ⟨hun, o, ho, _⟩ := mem_ready.1 hi
        have hin : i < n := by
          have := (Array.getElem?_eq_some_iff.1 ho).1
          omega
        have h1 := hall i hin
        have hs := hinv.1
        have hil : i < listed.size := by omega
        simp [D, Array.getD, hil] at h1 hun
        rw [h1] at hun
        cases hun
    | succ fuel ih =>
      intro listed a w hcnt hinv
      exact ⟨fun hr => fin listed a w hinv (allTrue listed hinv.1 hr), step fuel ih listed a w hcnt hinv⟩
  rw [hsize]
  refine main n _ _ _ (by simp) ⟨by simp, ?_, σ0, Ext.refl _, fun _ _ => rfl, ?_, ?_, fun _ => Below.refl _ _, fun _ _ => rfl⟩
  · intro j hj hDj
    simp [D, hj] at hDj
  · have : MF nx0 act (D (Array.replicate n false)) (lkM s.mem) n = lkM s.mem := by
      funext b
      exact (MF_congr n fun j hj _ => by simp [D, hj]).trans (congrFun (MF_lt (nx0 := nx0) (act := act) (m0 := lkM s.mem) 0 n (by omega)) b)
    rw [this]
    refine hm0.less ?_
    rintro j (hj | ⟨k, _, _, rfl⟩)
    · exact Nat.le_trans (Nat.le_add_right _ _) hj
    · exact Nat.le_add_right _ _
  · have : EF nx0 (dstF ops) act (D (Array.replicate n false)) (lk2 s.env) n = lk2 s.env := by
      funext b
      exact (EF_congr n fun j hj _ => by simp [D, hj]).trans (congrFun (EF_lt (nx0 := nx0) (dst := dstF ops) (act := act) (e0 := lk2 s.env) 0 n (by omega)) b)
    rw [this]
    exact hE0
end
end Go.VE
