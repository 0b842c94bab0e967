/-
  THE READING MACHINE: regions that draw their order: what is written in text order holds in whatever order the edges allow.
-/
import Derived.Test.YtggiamcgkiaicaaDoorVEg
namespace Go.VE
open Go.RowKit (Below)
set_option linter.unusedSimpArgs false
set_option linter.unusedVariables false

/-! ### The registers and the memory behind those operations that have come up -/
def EF (nx0 : Nat) (dst : Nat → Option Tmp) (act : Nat → Act1) (D : Nat → Bool) (e0 : Nat → Option (Option AV)) : Nat → (Nat → Option (Option AV))
  | 0 => e0
  | n + 1 => if D n = true then actE (nx0 + n) (dst n) (act n) (EF nx0 dst act D e0 n) else EF nx0 dst act D e0 n

def MF (nx0 : Nat) (act : Nat → Act1) (D : Nat → Bool) (m0 : Nat → Option Blk) : Nat → (Nat → Option Blk)
  | 0 => m0
  | n + 1 => if D n = true then actM (nx0 + n) (act n) (MF nx0 act D m0 n) else MF nx0 act D m0 n

def writesM (id : Nat) (x : Act1) (b : Nat) : Prop :=
  match x with
  | .new _ _ _ => b = id
  | .st c _ => b = c
  | .app i _ _ _ _ => b = id ∨ b = i
  | _ => False

theorem actE_other {id : Nat} {d : Option Tmp} {x : Act1} {e : Nat → Option (Option AV)} {t : Nat} (h : d ≠ some t) : actE id d x e t = e t := by
  cases d with
  | none => rfl
  | some u =>
    simp only [actE, updE]
    rw [if_neg]
    rintro rfl
    exact h rfl

theorem actE_same {id : Nat} {d : Option Tmp} {x : Act1} {e e' : Nat → Option (Option AV)} {t : Nat} (h : d = some t) : actE id d x e t = actE id d x e' t := by
  subst h
  simp [actE, updE]

theorem actM_other {id : Nat} {x : Act1} {m : Nat → Option Blk} {b : Nat} (h : ¬ writesM id x b) : actM id x m b = m b := by
  cases x with
  | new cells e sl => cases sl <;> (simp only [writesM, actM, updM] at h ⊢; rw [if_neg h])
  | st c blk => simp only [writesM, actM, updM] at h ⊢; rw [if_neg h]
  | app i cells e sz n =>
    simp only [writesM, actM, updM] at h ⊢
    rw [if_neg (fun e => h (.inl e)), if_neg (fun e => h (.inr e))]
  | _ => rfl

theorem actM_same {id : Nat} {x : Act1} {m m' : Nat → Option Blk} {b : Nat} (h : writesM id x b) : actM id x m b = actM id x m' b := by
  cases x with
  | new cells e sl => cases sl <;> (simp only [writesM, actM, updM] at h ⊢; rw [if_pos h, if_pos h])
  | st c blk => simp only [writesM, actM, updM] at h ⊢; rw [if_pos h, if_pos h]
  | app i cells e sz n =>
    simp only [writesM, actM, updM] at h ⊢
    by_cases h1 : b = id
    · rw [if_pos h1, if_pos h1]
    · have h2 : b = i := h.resolve_left h1
      rw [if_neg h1, if_neg h1, if_pos h2, if_pos h2]
  | _ => exact h.elim

section
variable {nx0 : Nat} {dst : Nat → Option Tmp} {act : Nat → Act1} {e0 : Nat → Option (Option AV)} {m0 : Nat → Option Blk}

theorem EF_congr {D D' : Nat → Bool} {t : Nat} : ∀ (n : Nat), (∀ j, j < n → dst j = some t → D j = D' j) → EF nx0 dst act D e0 n t = EF nx0 dst act D' e0 n t
  | 0, _ => rfl
  | n + 1, h => by
    have ih := EF_congr n (fun j hj => h j (by omega))
    by_cases hd : dst n = some t
    · have := h n (by omega) hd
      simp only [EF, this]
      split
      · exact actE_same hd
      · exact ih
    · simp only [EF]
      split <;> split <;> (try simp only [actE_other hd]) <;> exact ih

theorem MF_congr {D D' : Nat → Bool} {b : Nat} : ∀ (n : Nat), (∀ j, j < n → writesM (nx0 + j) (act j) b → D j = D' j) → MF nx0 act D m0 n b = MF nx0 act D' m0 n b
  | 0, _ => rfl
  | n + 1, h => by
    have ih := MF_congr n (fun j hj => h j (by omega))
    by_cases hd : writesM (nx0 + n) (act n) b
    · have := h n (by omega) hd
      simp only [MF, this]
      split
      · exact actM_same hd
      · exact ih
    · simp only [MF]
      split <;> split <;> (try simp only [actM_other hd]) <;> exact ih

theorem EF_act {act' : Nat → Act1} {D : Nat → Bool} : ∀ (n : Nat), (∀ j, j < n → act j = act' j) → EF nx0 dst act D e0 n = EF nx0 dst act' D e0 n
  | 0, _ => rfl
  | n + 1, h => by simp only [EF, EF_act n (fun j hj => h j (by omega)), h n (by omega)]

theorem MF_act {act' : Nat → Act1} {D : Nat → Bool} : ∀ (n : Nat), (∀ j, j < n → act j = act' j) → MF nx0 act D m0 n = MF nx0 act' D m0 n
  | 0, _ => rfl
  | n + 1, h => by simp only [MF, MF_act n (fun j hj => h j (by omega)), h n (by omega)]

def addD (D : Nat → Bool) (i : Nat) : Nat → Bool := fun j => if j = i then true else D j

theorem EF_add {D : Nat → Bool} {i : Nat} (hi : D i = false) : ∀ (n : Nat), (∀ j, j < n → i < j → D j = true → ∀ t, dst i = some t → dst j ≠ some t) →
    EF nx0 dst act (addD D i) e0 n = if i < n then actE (nx0 + i) (dst i) (act i) (EF nx0 dst act D e0 n) else EF nx0 dst act D e0 n
  | 0, _ => by simp [EF]
  | n + 1, h => by
    have ih := EF_add hi n (fun j hj => h j (by omega))
    rcases Nat.lt_trichotomy n i with hlt | rfl | hgt
    · rw [if_neg (by omega)] at ih ⊢
      have : addD D i n = D n := by simp [addD, Nat.ne_of_lt hlt]
      simp only [EF, this, ih]
    · rw [if_neg (by omega)] at ih
      rw [if_pos (by omega)]
      have : addD D n n = true := by simp [addD]
      simp only [EF, this, if_true, ih, hi]
      simp
    · rw [if_pos hgt] at ih
      rw [if_pos (by omega)]
      have : addD D i n = D n := by simp [addD, Nat.ne_of_gt hgt]
      simp only [EF, this, ih]
      split
      · rename_i hD
        funext t
        by_cases h1 : dst n = some t
        · rw [actE_same h1 (e' := EF nx0 dst act D e0 n)]
          by_cases h2 : dst i = some t
          · exact absurd h1 (h n (by omega) hgt hD t h2)
          · rw [actE_other h2]
        · rw [actE_other h1]
          by_cases h2 : dst i = some t
          · exact actE_same h2
          · rw [actE_other h2, actE_other h2, actE_other h1]
      · rfl

theorem MF_add {D : Nat → Bool} {i : Nat} (hi : D i = false) : ∀ (n : Nat), (∀ j, j < n → i < j → D j = true → ∀ b, writesM (nx0 + i) (act i) b → ¬ writesM (nx0 + j) (act j) b) →
    MF nx0 act (addD D i) m0 n = if i < n then actM (nx0 + i) (act i) (MF nx0 act D m0 n) else MF nx0 act D m0 n
  | 0, _ => by simp [MF]
  | n + 1, h => by
    have ih := MF_add hi n (fun j hj => h j (by omega))
    rcases Nat.lt_trichotomy n i with hlt | rfl | hgt
    · rw [if_neg (by omega)] at ih ⊢
      have : addD D i n = D n := by simp [addD, Nat.ne_of_lt hlt]
      simp only [MF, this, ih]
    · rw [if_neg (by omega)] at ih
      rw [if_pos (by omega)]
      have : addD D n n = true := by simp [addD]
      simp only [MF, this, if_true, ih, hi]
      simp
    · rw [if_pos hgt] at ih
      rw [if_pos (by omega)]
      have : addD D i n = D n := by simp [addD, Nat.ne_of_gt hgt]
      simp only [MF, this, ih]
      split
      · rename_i hD
        funext b
        by_cases h1 : writesM (nx0 + n) (act n) b
        · rw [actM_same h1 (m' := MF nx0 act D m0 n)]
          by_cases h2 : writesM (nx0 + i) (act i) b
          · exact absurd h1 (h n (by omega) hgt hD b h2)
          · rw [actM_other h2]
        · rw [actM_other h1]
          by_cases h2 : writesM (nx0 + i) (act i) b
          · exact actM_same h2
          · rw [actM_other h2, actM_other h2, actM_other h1]
      · rfl
end

/-! ### What comes before what -/
theorem maskOf_fold (masks : List Nat) (i : Nat) : ∀ (l : List Edge) (m : Nat),
    Nat.testBit (l.foldl (fun m e => bif Region.binds .any e then Nat.lor m (Nat.lor (Nat.shiftLeft 1 e.on) ((masks.getD e.on 0))) else m) m) i = true →
    Nat.testBit m i = true ∨ ∃ e ∈ l, Region.binds .any e = true ∧ (i = e.on ∨ Nat.testBit (masks.getD e.on 0) i = true)
  | [], m, h => .inl h
  | e :: l, m, h => by
    simp only [List.foldl_cons] at h
    rcases maskOf_fold masks i l _ h with h1 | ⟨e', he', h1⟩
    · cases hb : Region.binds .any e
      · simp only [hb, cond_false] at h1; exact .inl h1
      · simp only [hb, cond_true] at h1
        have h2 : Nat.testBit (m ||| ((1 <<< e.on) ||| masks.getD e.on 0)) i = true := h1
        rw [Nat.testBit_or, Nat.testBit_or, Bool.or_eq_true, Bool.or_eq_true] at h2
        rcases h2 with h2 | h2 | h2
        · exact .inl h2
        · refine .inr ⟨e, by simp, hb, .inl ?_⟩
          rw [Nat.one_shiftLeft, Nat.testBit_two_pow] at h2
          exact (by simpa using h2 : e.on = i).symm
        · exact .inr ⟨e, by simp, hb, .inr h2⟩
    · exact .inr ⟨e', by simp [he'], h1⟩

theorem maskOf_spec {masks : List Nat} {o : Oper} {i : Nat} (h : Nat.testBit (maskOf masks o) i = true) :
    ∃ e ∈ o.after.toList, Region.binds .any e = true ∧ (i = e.on ∨ Nat.testBit (masks.getD e.on 0) i = true) := by
  rcases maskOf_fold masks i _ _ h with h | h
  · simp at h
  · exact h

theorem masksOf_spec : ∀ (l : List Oper) (acc : List Nat), ∃ res, masksOf l acc = acc ++ res ∧ res.length = l.length ∧ ∀ k o, l[k]? = some o → res[k]? = some (maskOf (acc ++ res.take k) o)
  | [], acc => ⟨[], by simp [masksOf], rfl, by simp⟩
  | o :: l, acc => by
    obtain ⟨res, h1, h2, h3⟩ := masksOf_spec l (acc ++ [maskOf acc o])
    refine ⟨maskOf acc o :: res, by simp [masksOf, h1], by simp [h2], fun k o' hk => ?_⟩
    cases k with
    | zero => simp at hk; subst hk; simp
    | succ k =>
      have := h3 k o' (by simpa using hk)
      simpa [List.append_assoc] using this

theorem apartAll_spec {ops : List Oper} {y : Oper} {m : Nat} : ∀ (l : List Oper) (i : Nat), apartAll ops y m i l = true → ∀ k x, l[k]? = some x → Nat.testBit m (i + k) = true ∨ apartL ops x y = true
  | [], _, _, k, x, hk => by simp at hk
  | z :: l, i, h, k, x, hk => by
    simp only [apartAll] at h
    have h1 : (bif Nat.testBit m i then true else apartL ops z y) = true ∧ apartAll ops y m (Nat.succ i) l = true := by
      cases hb : (bif Nat.testBit m i then true else apartL ops z y) <;> simp [hb] at h ⊢
      exact h
    cases k with
    | zero =>
      simp at hk
      subst hk
      have h2 := h1.1
      cases hb : Nat.testBit m i
      · simp only [hb, cond_false] at h2; exact .inr h2
      · exact .inl (by simp)
    | succ k =>
      have := apartAll_spec l (Nat.succ i) h1.2 k x (by simpa using hk)
      rwa [show Nat.succ i + k = i + (k + 1) by omega] at this

def noSel (o : Oper) : Bool := match o.op with | .select _ _ => false | _ => true

theorem regOkFrom_spec {ops : List Oper} : ∀ (l seen : List Oper) (ms : List Nat), regOkFrom ops seen l ms = true → ∀ k y, l[k]? = some y → ∃ m, ms[k]? = some m ∧ apartAll ops y m 0 (seen ++ l.take k) = true ∧
    (∀ e ∈ y.after.toList, Region.binds .any e = true → e.on < seen.length + k) ∧ noSel y = true
  | [], _, _, _, k, y, hk => by simp at hk
  | z :: l, seen, [], h, _, _, _ => by simp [regOkFrom] at h
  | z :: l, seen, m :: ms, h, k, y, hk => by
    simp only [regOkFrom] at h
    have hb : ∀ {b : Bool} {x : Bool}, (bif b then x else false) = true → b = true ∧ x = true := by
      intro b x h
      cases b <;> simp at h ⊢
      exact h
    obtain ⟨h1, h⟩ := hb h
    obtain ⟨h2, h⟩ := hb h
    obtain ⟨h3, h⟩ := hb h
    cases k with
    | zero =>
      simp at hk
      subst hk
      refine ⟨m, rfl, by simpa using h1, fun e he hbd => ?_, h3⟩
      have := List.all_eq_true.1 h2 e he
      rw [hbd] at this
      simp only [cond_true] at this
      exact Nat.lt_of_lt_of_le (Nat.lt_succ_self _) (by simpa using Nat.le_of_ble_eq_true this)
    | succ k =>
      obtain ⟨m', h4, h5, h6, h7⟩ := regOkFrom_spec l (seen ++ [z]) ms h k y (by simpa using hk)
      refine ⟨m', by simpa using h4, by simpa [List.append_assoc] using h5, fun e he hbd => ?_, h7⟩
      have := h6 e he hbd
      simp at this
      omega

/-- Of a region that passes: what waits for what, and that nothing else meets in a register. -/
structure RegFacts (L : List Oper) (mask : Nat → Nat) : Prop where
  lt : ∀ k y, L[k]? = some y → ∀ i, Nat.testBit (mask k) i = true → i < k
  via : ∀ k y, L[k]? = some y → ∀ i, Nat.testBit (mask k) i = true → ∃ e ∈ y.after.toList, Region.binds .any e = true ∧ (i = e.on ∨ Nat.testBit (mask e.on) i = true)
  edge : ∀ k y, L[k]? = some y → ∀ e ∈ y.after.toList, Region.binds .any e = true → e.on < k
  apart : ∀ k y i x, L[k]? = some y → L[i]? = some x → i < k → Nat.testBit (mask k) i = true ∨ apartL L x y = true

theorem regOk_spec {L : List Oper} (h : regOk L = true) : RegFacts L (fun k => (masksOf L []).getD k 0) := by
  unfold regOk at h
  obtain ⟨res, h1, h2, h3⟩ := masksOf_spec L []
  simp only [List.nil_append] at h1 h3
  rw [h1] at h
  have hf := regOkFrom_spec L [] res h
  have hedge : ∀ k y, L[k]? = some y → ∀ e ∈ y.after.toList, Region.binds .any e = true → e.on < k := fun k y hk e he hb => by
    obtain ⟨m, _, _, h6, _⟩ := hf k y hk
    simpa using h6 e he hb
  have hvia : ∀ k y, L[k]? = some y → ∀ i, Nat.testBit ((masksOf L []).getD k 0) i = true → ∃ e ∈ y.after.toList, Region.binds .any e = true ∧ (i = e.on ∨ Nat.testBit ((masksOf L []).getD e.on 0) i = true) := by
    intro k y hk i hi
    rw [h1] at hi ⊢
    have hk' := h3 k y hk
    rw [List.getD_eq_getElem?_getD, hk'] at hi
    obtain ⟨e, he, hb, hor⟩ := maskOf_spec hi
    refine ⟨e, he, hb, ?_⟩
    rcases hor with h | h
    · exact .inl h
    · refine .inr ?_
      have hlt := hedge k y hk e he hb
      rw [List.getD_eq_getElem?_getD, List.getElem?_take, if_pos hlt] at h
      rw [List.getD_eq_getElem?_getD]
      exact h
  refine ⟨?_, hvia, hedge, ?_⟩
  · intro k
    induction k using Nat.strongRecOn with
    | _ k ih =>
      intro y hk i hi
      obtain ⟨e, he, hb, hor⟩ := hvia k y hk i hi
      have hlt := hedge k y hk e he hb
      rcases hor with rfl | h
      · exact hlt
      · have hlen : k < L.length := (List.getElem?_eq_some_iff.1 hk).1
        obtain ⟨z, hz⟩ : ∃ z, L[e.on]? = some z := ⟨L[e.on], by rw [List.getElem?_eq_getElem]⟩
        have := ih e.on hlt z hz i h
        omega
  · intro k y i x hk hi hlt
    obtain ⟨m, h4, h5, _, _⟩ := hf k y hk
    have := apartAll_spec _ _ h5 i x (by simp [List.getElem?_take, hlt, hi])
    rw [Nat.zero_add] at this
    rw [h1, List.getD_eq_getElem?_getD, h4]
    exact this
end Go.VE
