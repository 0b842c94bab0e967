/-
  THE READING MACHINE: code, calls, and a function's contract.
-/
import Derived.Test.YtggiamcgkiaicaaDoorVEk
namespace Go.VE
open Go.RowKit (Below)
set_option linter.unusedSimpArgs false
set_option linter.unusedVariables false

/-! ### Templates -/
theorem nthI_left : ∀ (a b : List Int) (j : Nat), j < a.length → nthI (a ++ b) j = nthI a j
  | [], _, j, h => absurd h (by simp)
  | _ :: _, _, 0, _ => rfl
  | _ :: a, b, j + 1, h => nthI_left a b j (by simpa using h)
theorem nthI_right : ∀ (a b : List Int) (j : Nat), nthI (a ++ b) (a.length + j) = nthI b j
  | [], _, j => by simp
  | x :: a, b, j => by
    rw [show (x :: a).length + j = (a.length + j) + 1 by simp; omega]
    exact nthI_right a b j
theorem nthS_left : ∀ (a b : List Sl) (j : Nat), j < a.length → nthS (a ++ b) j = nthS a j
  | [], _, j, h => absurd h (by simp)
  | _ :: _, _, 0, _ => rfl
  | _ :: a, b, j + 1, h => nthS_left a b j (by simpa using h)
theorem nthS_right : ∀ (a b : List Sl) (j : Nat), nthS (a ++ b) (a.length + j) = nthS b j
  | [], _, j => by simp
  | x :: a, b, j => by
    rw [show (x :: a).length + j = (a.length + j) + 1 by simp; omega]
    exact nthS_right a b j

/-- The holes' values from places i and s on are h's. -/
def Fits (X : Nat → Int) (Y : Nat → Sl) (i s : Nat) (h : Hs) : Prop := (∀ j, j < h.1.length → X (i + j) = nthI h.1 j) ∧ ∀ j, j < h.2.length → Y (s + j) = nthS h.2 j

theorem Fits.self (h : Hs) : Fits (nthI h.1) (nthS h.2) 0 0 h := ⟨fun j _ => by simp, fun j _ => by simp⟩
theorem Fits.left {X : Nat → Int} {Y : Nat → Sl} {i s : Nat} {h g : Hs} (f : Fits X Y i s (h.1 ++ g.1, h.2 ++ g.2)) : Fits X Y i s h :=
  ⟨fun j hj => (f.1 j (by simp; omega)).trans (nthI_left _ _ _ hj), fun j hj => (f.2 j (by simp; omega)).trans (nthS_left _ _ _ hj)⟩
theorem Fits.right {X : Nat → Int} {Y : Nat → Sl} {i s : Nat} {h g : Hs} (f : Fits X Y i s (h.1 ++ g.1, h.2 ++ g.2)) {ni ns : Nat} (h1 : h.1.length = ni) (h2 : h.2.length = ns) : Fits X Y (i + ni) (s + ns) g :=
  ⟨fun j hj => by
    have := f.1 (h.1.length + j) (by simp; omega)
    rw [nthI_right] at this
    rw [← this, ← h1]
    congr 1
    omega, fun j hj => by
    have := f.2 (h.2.length + j) (by simp; omega)
    rw [nthS_right] at this
    rw [← this, ← h2]
    congr 1
    omega⟩

theorem ksEq_spec : ∀ {a b : List (Option IntKind)}, ksEq a b = true → a = b
  | [], [], _ => rfl
  | [], x :: _, h => by cases x <;> cases h
  | x :: _, [], h => by cases x <;> cases h
  | some k :: a, some k' :: b, h => by
    simp only [ksEq] at h
    cases h1 : Nat.beq (kcode k) (kcode k')
    · simp [h1] at h
    · simp only [h1, cond_true] at h
      rw [kcode_inj h1, ksEq_spec h]
  | none :: a, none :: b, h => by rw [ksEq_spec (a := a) (b := b) h]
  | some _ :: _, none :: _, h => by cases h
  | none :: _, some _ :: _, h => by cases h

theorem beqN {a b : Nat} (h : Nat.beq a b = true) : a = b := Nat.eq_of_beq_eq_true h

theorem decS1_spec {t : S1} {a : AV} {h : Hs} (hd : decS1 t a = some h) : h.1.length = niS t ∧ h.2.length = nsS t ∧ ∀ X Y i s, Fits X Y i s h → encS1 X Y t i s = a := by
  cases t <;> cases a <;> simp only [decS1] at hd <;> try (cases hd; done)
  case i.int k k' n =>
    obtain ⟨h1, h2⟩ := bif_some hd
    cases h2
    obtain rfl := kcode_inj h1
    refine ⟨rfl, rfl, fun X Y i s f => ?_⟩
    have := f.1 0 (by simp)
    simp only [encS1]
    rw [show X i = n from this]
  case b.bool v =>
    cases hd
    refine ⟨rfl, rfl, fun X Y i s f => ?_⟩
    have : X i = cond v 1 0 := f.1 0 (by simp)
    simp only [encS1, this]
    cases v <;> rfl
  case xs.xslice id ks i len ks' p =>
    obtain ⟨h1, h2⟩ := bif_some hd
    obtain ⟨h3, h4⟩ := bif_some h2
    cases h4
    obtain rfl := beqN h1
    obtain rfl := ksEq_spec h3
    refine ⟨rfl, rfl, fun X Y i s f => ?_⟩
    have : Y s = (len, p) := f.2 0 (by simp)
    simp only [encS1, this]
  case ptr.ptr =>
    obtain ⟨h1, h2⟩ := bif_some hd
    obtain ⟨h3, h4⟩ := bif_some h2
    cases h4
    obtain rfl := beqN h1
    obtain rfl := beqN h3
    exact ⟨rfl, rfl, fun X Y i s f => rfl⟩
  case slice.slice =>
    obtain ⟨h1, h2⟩ := bif_some hd
    obtain ⟨h3, h4⟩ := bif_some h2
    obtain ⟨h5, h6⟩ := bif_some h4
    cases h6
    obtain rfl := beqN h1
    obtain rfl := beqN h3
    obtain rfl := beqN h5
    exact ⟨rfl, rfl, fun X Y i s f => rfl⟩
  all_goals
    cases hd
    exact ⟨rfl, rfl, fun X Y i s f => rfl⟩

theorem decL1_spec : ∀ {l : List S1} {cs : List AV} {h : Hs}, decL1 l cs = some h → h.1.length = niL l ∧ h.2.length = nsL l ∧ ∀ X Y i s, Fits X Y i s h → encL1 X Y l i s = cs
  | [], [], h, hd => by simp [decL1] at hd; subst hd; exact ⟨rfl, rfl, fun X Y i s f => rfl⟩
  | [], _ :: _, h, hd => by simp [decL1] at hd
  | _ :: _, [], h, hd => by simp [decL1] at hd
  | t :: r, a :: l, h, hd => by
    simp only [decL1] at hd
    cases h1 : decS1 t a with
    | none => simp [h1] at hd
    | some x =>
      cases h2 : decL1 r l with
      | none => simp [h1, h2] at hd
      | some g =>
        simp only [h1, h2] at hd
        obtain rfl := Option.some.inj hd
        obtain ⟨a1, a2, a3⟩ := decS1_spec h1
        obtain ⟨b1, b2, b3⟩ := decL1_spec h2
        refine ⟨by simp [niL, a1, b1], by simp [nsL, a2, b2], fun X Y i s f => ?_⟩
        simp only [encL1]
        rw [a3 X Y i s f.left]
        have := b3 X Y _ _ (f.right a1 a2)
        rw [show Nat.add i (niS t) = i + niS t from rfl, show Nat.add s (nsS t) = s + nsS t from rfl, this]

theorem decA_spec {T : AT} {a : AV} {h : Hs} (hd : decA T a = some h) : h.1.length = niA T ∧ h.2.length = nsA T ∧ ∀ X Y i s, Fits X Y i s h → encA X Y T i s = a := by
  cases T with
  | s t => exact decS1_spec (by cases a <;> exact hd)
  | agg l =>
    cases a <;> simp only [decA] at hd <;> try (cases hd; done)
    obtain ⟨a1, a2, a3⟩ := decL1_spec hd
    exact ⟨a1, a2, fun X Y i s f => by simp only [encA]; rw [a3 X Y i s f]⟩
  | fn g l =>
    cases a <;> simp only [decA] at hd <;> try (cases hd; done)
    obtain ⟨h1, h2⟩ := bif_some hd
    obtain rfl := beqN h1
    obtain ⟨a1, a2, a3⟩ := decL1_spec h2
    exact ⟨a1, a2, fun X Y i s f => by simp only [encA]; rw [a3 X Y i s f]⟩

theorem decE_spec : ∀ {l : List (Nat × AT)} {env : List (Nat × Option AV)} {h : Hs}, decE l env = some h → h.1.length = niE l ∧ h.2.length = nsE l ∧
    ∀ X Y i s, Fits X Y i s h → ∀ u v, lk2 (encE X Y l i s) u = some v → lk2 env u = some v
  | [], env, h, hd => by
    simp [decE] at hd
    subst hd
    exact ⟨rfl, rfl, fun X Y i s f u v hu => by simp [encE, lk2] at hu⟩
  | (t, T) :: r, env, h, hd => by
    simp only [decE] at hd
    cases h0 : lk2 env t with
    | none => simp [h0] at hd
    | some o =>
      cases o with
      | none => simp [h0] at hd
      | some a =>
        simp only [h0] at hd
        cases h1 : decA T a with
        | none => simp [h1] at hd
        | some x =>
          cases h2 : decE r env with
          | none => simp [h1, h2] at hd
          | some g =>
            simp only [h1, h2] at hd
            obtain rfl := Option.some.inj hd
            obtain ⟨a1, a2, a3⟩ := decA_spec h1
            obtain ⟨b1, b2, b3⟩ := decE_spec h2
            refine ⟨by simp [niE, a1, b1], by simp [nsE, a2, b2], fun X Y i s f u v hu => ?_⟩
            simp only [encE] at hu
            rw [lk2_cons, a3 X Y i s f.left] at hu
            unfold updE at hu
            split at hu
            · rename_i hut
              subst hut
              rw [h0]
              exact hu
            · exact b3 X Y _ _ (f.right a1 a2) u v hu

theorem decBk_spec {T : BT} {a : Blk} {h : Hs} (hd : decBk T a = some h) : h.1.length = niB T ∧ h.2.length = nsB T ∧ ∀ X Y i s, Fits X Y i s h → encB X Y T i s = a := by
  cases T with
  | own l e =>
    cases a <;> simp only [decBk] at hd <;> try (cases hd; done)
    obtain ⟨h1, h2⟩ := bif_some hd
    obtain rfl := beqN h1
    obtain ⟨a1, a2, a3⟩ := decL1_spec h2
    exact ⟨a1, a2, fun X Y i s f => by simp only [encB]; rw [a3 X Y i s f]⟩
  | ro l =>
    cases a <;> simp only [decBk] at hd <;> try (cases hd; done)
    obtain ⟨a1, a2, a3⟩ := decL1_spec hd
    exact ⟨a1, a2, fun X Y i s f => by simp only [encB]; rw [a3 X Y i s f]⟩

theorem decM_spec : ∀ {l : List (Nat × BT)} {m : List (Nat × Blk)} {h : Hs}, decM l m = some h → h.1.length = (encM (nthI h.1) (nthS h.2) l 0 0).length - (encM (nthI h.1) (nthS h.2) l 0 0).length + h.1.length ∧
    ∀ X Y i s, Fits X Y i s h → ∀ u v, lkM (encM X Y l i s) u = some v → lkM m u = some v
  | [], m, h, hd => by
    simp [decM] at hd
    subst hd
    exact ⟨by simp, fun X Y i s f u v hu => by simp [encM, lkM] at hu⟩
  | (t, T) :: r, m, h, hd => by
    simp only [decM] at hd
    cases h0 : lkM m t with
    | none => simp [h0] at hd
    | some a =>
      simp only [h0] at hd
      cases h1 : decBk T a with
      | none => simp [h1] at hd
      | some x =>
        cases h2 : decM r m with
        | none => simp [h1, h2] at hd
        | some g =>
          simp only [h1, h2] at hd
          obtain rfl := Option.some.inj hd
          obtain ⟨a1, a2, a3⟩ := decBk_spec h1
          obtain ⟨_, b3⟩ := decM_spec h2
          refine ⟨by simp, fun X Y i s f u v hu => ?_⟩
          simp only [encM] at hu
          rw [lkM_cons, a3 X Y i s f.left] at hu
          unfold updM at hu
          split at hu
          · rename_i hut
            subst hut
            rw [h0]
            exact hu
          · exact b3 X Y _ _ (f.right a1 a2) u v hu

theorem decT_spec {T : ST} {s : St} {h : Hs} (hd : decT T s = some h) : s.nx ≤ T.nx ∧ (∀ u v, lk2 (encT (nthI h.1) (nthS h.2) T).env u = some v → lk2 s.env u = some v) ∧
    ∀ u v, lkM (encT (nthI h.1) (nthS h.2) T).mem u = some v → lkM s.mem u = some v := by
  unfold decT at hd
  obtain ⟨h1, h2⟩ := bif_some hd
  cases h3 : decE T.env s.env with
  | none => simp [h3] at h2
  | some x =>
    cases h4 : decM T.mem s.mem with
    | none => simp [h3, h4] at h2
    | some g =>
      simp only [h3, h4] at h2
      obtain rfl := Option.some.inj h2
      obtain ⟨a1, a2, a3⟩ := decE_spec h3
      obtain ⟨_, b3⟩ := decM_spec h4
      have f := Fits.self (x.1 ++ g.1, x.2 ++ g.2)
      refine ⟨Nat.le_of_ble_eq_true h1, a3 _ _ 0 0 f.left, ?_⟩
      have := f.right a1 a2
      rw [Nat.zero_add, Nat.zero_add] at this
      exact b3 _ _ _ _ this

theorem blt_lt {i n : Nat} (h : Nat.blt i n = true) : i < n := Nat.lt_of_lt_of_le (Nat.lt_succ_self _) (Nat.le_of_ble_eq_true h)

section
variable (X : Nat → Int) (Y : Nat → Sl)
theorem low_S1 {nx : Nat} (t : S1) (i s : Nat) (h : lowS1 nx t = true) : low0 nx (encS1 X Y t i s) = true ∧ lowV nx (encS1 X Y t i s) = true := by
  cases t <;> exact ⟨h, h⟩
theorem low_L1 {nx : Nat} : ∀ (l : List S1) (i s : Nat), lowL1 nx l = true → lows nx (encL1 X Y l i s) = true ∧ lowVs nx (encL1 X Y l i s) = true
  | [], _, _, _ => ⟨rfl, rfl⟩
  | t :: r, i, s, h => by
    simp only [lowL1] at h
    cases h1 : lowS1 nx t with
    | false => simp [h1] at h
    | true =>
      simp only [h1, cond_true] at h
      obtain ⟨a1, a2⟩ := low_S1 X Y t i s h1
      obtain ⟨b1, b2⟩ := low_L1 r (Nat.add i (niS t)) (Nat.add s (nsS t)) h
      simp only [encL1, lows, lowVs, a1, a2, cond_true]
      exact ⟨b1, b2⟩
theorem low_A {nx : Nat} (T : AT) (i s : Nat) (h : lowAT nx T = true) : lowV nx (encA X Y T i s) = true := by
  cases T with
  | s t => exact (low_S1 X Y t i s h).2
  | agg l => exact (low_L1 X Y l i s h).1
  | fn f l => exact (low_L1 X Y l i s h).1
theorem low_E {nx : Nat} : ∀ (l : List (Nat × AT)) (i s : Nat), lowET nx l = true → lowE nx (encE X Y l i s) = true
  | [], _, _, _ => rfl
  | (t, T) :: r, i, s, h => by
    simp only [lowET] at h
    cases h1 : lowAT nx T with
    | false => simp [h1] at h
    | true =>
      simp only [h1, cond_true] at h
      simp only [encE, lowE, low_A X Y T i s h1, cond_true]
      exact low_E r _ _ h
theorem low_M {nx : Nat} : ∀ (l : List (Nat × BT)) (i s : Nat), lowMT nx l = true → lowM nx (encM X Y l i s) = true
  | [], _, _, _ => rfl
  | (t, T) :: r, i, s, h => by
    simp only [lowMT] at h
    cases h0 : Nat.blt t nx with
    | false => simp [h0] at h
    | true =>
      simp only [h0, cond_true] at h
      cases h1 : lowBT nx T with
      | false => simp [h1] at h
      | true =>
        simp only [h1, cond_true] at h
        have : lowB nx (encB X Y T i s) = true := by
          cases T with
          | own l e => exact (low_L1 X Y l i s h1).2
          | ro l => exact (low_L1 X Y l i s h1).2
        simp only [encM, lowM, h0, this, cond_true]
        exact low_M r _ _ h
theorem low_T {T : ST} (h : lowST T = true) : lowE T.nx (encT X Y T).env = true ∧ lowM T.nx (encT X Y T).mem = true := by
  unfold lowST at h
  cases h1 : lowET T.nx T.env with
  | false => simp [h1] at h
  | true =>
    simp only [h1, cond_true] at h
    exact ⟨low_E X Y _ _ _ h1, low_M X Y _ _ _ h⟩
end

theorem exEq_spec {e e' : AExit} (h : exEq e e' = true) : e = e' := by
  cases e <;> cases e' <;> simp only [exEq] at h <;> try (cases h; done)
  · rw [beqN h]
  · rfl

theorem outDec_spec {e : AExit} {s : St} {t : LR} : ∀ {outs : List (AExit × ST)} {j : Nat}, outDec e s outs j = some t → (j : Int) ≤ t.1 ∧ ∃ T h, outOf t outs j = some (e, T) ∧ decT T s = some h ∧ t.2.1 = nthI h.1 ∧ t.2.2 = nthS h.2 ∧ (e, T) ∈ outs
  | [], j, hd => by simp [outDec] at hd
  | (e', T) :: r, j, hd => by
    simp only [outDec] at hd
    cases he : exEq e e' with
    | true =>
      simp only [he, cond_true] at hd
      obtain rfl := exEq_spec he
      cases hT : decT T s with
      | none => simp [hT] at hd
      | some h =>
        simp only [hT] at hd
        obtain rfl := Option.some.inj hd
        refine ⟨Int.le_refl _, T, h, ?_, hT, rfl, rfl, by simp⟩
        cases r with
        | nil => rfl
        | cons y r => simp [outOf]
    | false =>
      simp only [he, cond_false] at hd
      obtain ⟨hle, T', h, h1, h2, h3, h4, h5⟩ := outDec_spec hd
      have hlt : (j : Int) < t.1 := by
        have : ((Nat.succ j : Nat) : Int) = (j : Int) + 1 := by simp
        omega
      refine ⟨by omega, T', h, ?_, h2, h3, h4, List.mem_cons_of_mem _ h5⟩
      cases r with
      | nil => simp [outDec] at hd
      | cons y r =>
        have hne : ¬ t.1 = (j : Int) := by omega
        simp only [outOf, hne, decide_false, cond_false]
        exact h1

theorem outK_spec {R : Type} {t : LR} {K : AExit → St → Option R} {r : R} : ∀ {outs : List (AExit × ST)} {j : Nat} {o : AExit × ST}, outK t K outs j = some r → outOf t outs j = some o → K o.1 (encT t.2.1 t.2.2 o.2) = some r
  | [], j, o, h, ho => by simp [outOf] at ho
  | x :: l, j, o, h, ho => by
    cases l with
    | nil =>
      simp only [outOf] at ho
      obtain rfl := Option.some.inj ho
      exact h
    | cons y l =>
      simp only [outK] at h
      simp only [outOf] at ho
      cases hd : decide (t.1 = (j : Int)) with
      | true =>
        simp only [hd, cond_true] at h ho
        obtain rfl := Option.some.inj ho
        exact h
      | false =>
        rw [hd] at h ho
        exact outK_spec (outs := y :: l) (j := Nat.succ j) h ho

theorem outsNx_spec {nx : Nat} : ∀ {outs : List (AExit × ST)}, outsNx nx outs = true → ∀ o ∈ outs, nx ≤ o.2.nx
  | [], _, o, ho => by simp at ho
  | x :: r, h, o, ho => by
    simp only [outsNx] at h
    cases h1 : Nat.ble nx x.2.nx with
    | false => simp [h1] at h
    | true =>
      simp only [h1, cond_true] at h
      rcases List.mem_cons.1 ho with rfl | ho
      · exact Nat.le_of_ble_eq_true h1
      · exact outsNx_spec h o ho

/-- Of a loop: that many rounds. -/
def wpX (P : Program) (N : Nat) (c : Code) (Q : Exit → Act → World → Prop) (a : Act) (w : World) : Prop :=
  match c with
  | .loop b => Code.rounds P b Q N a w
  | c => c.wp P Q a w

theorem wpX_wp {P : Program} {N : Nat} {c : Code} {Q : Exit → Act → World → Prop} {a : Act} {w : World} (h : wpX P N c Q a w) : c.wp P Q a w := by
  unfold wpX at h
  split at h
  · exact wp_loop_rounds N h
  · exact h

section
variable {P : Program} {C : Ctx} {gl : List (Nat × List AV)} {R : Type}

/-- The evaluator at one level: what it answers, the machine does. -/
def EvOK (P : Program) (C : Ctx) (gl : List (Nat × List AV)) (ev : (R : Type) → Nat → Code → St → (AExit → St → Option R) → Option R) : Prop :=
  ∀ R nt c s K r, (∀ l ∈ loopsL c, LpOK P C gl nt l) → ev R nt c s K = some r → ∃ e s' N, K e s' = some r ∧ s.nx ≤ s'.nx ∧ ∀ w0, GOK C.G gl w0 → ∀ σ a w, RepM w0 C.G (fun j => s.nx ≤ j) σ (lkM s.mem) w → RepE σ nt (lk2 s.env) a → ∀ Q : Exit → Act → World → Prop,
    (∀ σ' a' w', Ext σ σ' → RepM w0 C.G (fun j => s'.nx ≤ j) σ' (lkM s'.mem) w' → RepE σ' nt (lk2 s'.env) a' → Q e.ex a' w') → wpX P N c Q a w

def resF (tmps : Array Value) : ResultVar → Sem Value
  | .tmp t => pure (tmps.getD t undef)
  | .cell b t => do loadVar t (← asAddr (tmps.getD b undef))

theorem results_eq (fn : Func) (tmps : Array Value) : results fn tmps = (do
    let vs ← fn.results.mapM (resF tmps)
    pure (if h : vs.size = 1 then vs[0] else .tuple vs)) := by
  have : (fun x : ResultVar => match x with
    | .tmp t => (pure (tmps.getD t undef) : Sem Value)
    | .cell a t => do loadVar t (← asAddr (tmps.getD a undef))) = resF tmps := by
    funext x
    cases x <;> rfl
  rw [← this]
  rfl

theorem resA_sound (hC : CtxOK P C gl) {s : St} {w0 : World} {U : Nat → Prop} {σ : Sg} {w : World} (hm : RepM w0 C.G U σ (lkM s.mem) w) {nt : Nat} {a : Act} (hE : RepE σ nt (lk2 s.env) a) :
    ∀ {l : List ResultVar} {vs : List AV}, resA C s l = some vs → ∃ xs : List Value, VRs σ vs xs ∧
      (l.mapM (resF a.tmps)).run P w = .ok xs w
  | [], vs, h => by simp [resA] at h; subst h; exact ⟨[], rfl, by simp⟩
  | .tmp t :: l, vs, h => by
    simp only [resA] at h
    cases h1 : lk s.env t with
    | none => simp [h1] at h
    | some v =>
      cases h2 : resA C s l with
      | none => simp [h1, h2] at h
      | some vs' =>
        simp [h1, h2] at h
        subst h
        obtain ⟨x, hx, hr⟩ := hE.env t v (lk_some h1)
        obtain ⟨xs, h3, h4⟩ := resA_sound hC hm hE h2
        refine ⟨x :: xs, ⟨x, xs, rfl, hr, h3⟩, ?_⟩
        have hg : a.tmps.getD t undef = x := by simp [Array.getD_eq_getD_getElem?, hx]
        simp only [List.mapM_cons, resF, Sem.run_bind, Sem.run_pure, Result.andThen_ok, h4, hg]
  | .cell b t :: l, vs, h => by
    simp only [resA] at h
    cases h1 : lk s.env b with
    | none => simp [h1] at h
    | some p =>
      simp only [h1] at h
      cases h0 : ldv C s.mem t p with
      | none => simp [h0] at h
      | some v =>
        cases h2 : resA C s l with
        | none => simp [h0, h2] at h
        | some vs' =>
          simp [h0, h2] at h
          subst h
          obtain ⟨x, hx, hr⟩ := hE.env b p (lk_some h1)
          obtain ⟨z, hz, hrun⟩ := ldv_sound hC.ty h0 hm (fun _ _ => rfl) hr
          obtain ⟨xs, h3, h4⟩ := resA_sound hC hm hE h2
          have hg : a.tmps.getD b undef = x := by simp [Array.getD_eq_getD_getElem?, hx]
          have hpt : ∃ ad, x = .pointer (some ad) := by
            cases p <;> simp only [ldv] at h0 <;> try (cases hq : C.ty t <;> simp [hq] at h0; done)
            · obtain ⟨q, _, rfl⟩ := hr; exact ⟨_, rfl⟩
            · obtain ⟨q, _, rfl, _⟩ := hr; exact ⟨_, rfl⟩
            · obtain ⟨q, _, rfl, _⟩ := hr; exact ⟨_, rfl⟩
            · obtain ⟨q, _, rfl, _⟩ := hr; exact ⟨_, rfl⟩
          obtain ⟨ad, rfl⟩ := hpt
          rw [loadAt_ptr] at hrun
          refine ⟨z :: xs, ⟨z, xs, rfl, hz, h3⟩, ?_⟩
          have has : asAddr (a.tmps.getD b undef) = pure ad := by rw [hg]; rfl
          simp only [List.mapM_cons, resF, Sem.run_bind, Sem.run_pure, Result.andThen_ok, h4, has, hrun]

theorem results_sound (hC : CtxOK P C gl) {s : St} {w0 : World} {U : Nat → Prop} {σ : Sg} {w : World} (hm : RepM w0 C.G U σ (lkM s.mem) w) {nt : Nat} {a : Act} (hE : RepE σ nt (lk2 s.env) a) {fn : Func} {vs : List AV}
    (h : resA C s fn.results.toList = some vs) : ∃ x, VR σ (tupA vs) x ∧ (results fn a.tmps).run P w = .ok x w := by
  obtain ⟨xs, h1, h2⟩ := resA_sound hC hm hE h
  have hlen := h1.length
  have hrun : (results fn a.tmps).run P w = .ok (if h : xs.toArray.size = 1 then xs.toArray[0] else .tuple xs.toArray) w := by
    rw [results_eq, Array.mapM_eq_mapM_toList]
    simp only [Sem.run_bind, Sem.run_map, h2, Result.andThen_ok, Sem.run_pure]
  rw [hrun]
  cases vs with
  | nil =>
    cases h1
    exact ⟨.tuple #[], ⟨#[], rfl, rfl⟩, rfl⟩
  | cons v vs =>
    cases vs with
    | nil =>
      obtain ⟨x, xs', hxs, hr, hrs⟩ := h1
      cases hrs
      subst hxs
      exact ⟨x, hr, rfl⟩
    | cons u vs =>
      refine ⟨.tuple xs.toArray, ⟨xs.toArray, rfl, by simpa using h1⟩, ?_⟩
      rw [dif_neg (by simp at hlen ⊢; omega)]

theorem zipE_lk : ∀ (l : List AV) (i t : Nat) (v : Option AV), lk2 (zipE i l) t = some v → i ≤ t ∧ ∃ x, v = some x ∧ l[t - i]? = some x
  | [], i, t, v, h => by simp [zipE, lk2] at h
  | a :: l, i, t, v, h => by
    simp only [zipE] at h
    rw [lk2_cons] at h
    unfold updE at h
    split at h
    · rename_i hti
      subst hti
      simp at h
      subst h
      exact ⟨Nat.le_refl _, a, rfl, by simp⟩
    · rename_i hti
      obtain ⟨h1, x, h2, h3⟩ := zipE_lk l (Nat.succ i) t v h
      have hlt : i + 1 ≤ t := h1
      refine ⟨by omega, x, h2, ?_⟩
      have : t - i = (t - Nat.succ i) + 1 := by omega
      rw [this]
      simpa using h3

theorem enter_E {σ : Sg} {args : List AV} {vals : Array Value} (hv : VRs σ args vals.toList) {nt : Nat} (hle : args.length ≤ nt) : RepE σ nt (lk2 (zipE 0 args)) { tmps := vals ++ Array.replicate (nt - vals.size) undef, defers := [] } := by
  have hlen : vals.size = args.length := by have := hv.length; simpa using this
  refine ⟨rfl, by simp [hlen]; omega, fun t v ht => ?_, fun t ht => ?_⟩
  · obtain ⟨_, x, hx, hget⟩ := zipE_lk args 0 t _ ht
    obtain rfl := Option.some.inj hx
    obtain ⟨y, h1, h2⟩ := hv.get (n := t) (by simpa using hget)
    have hlt : t < vals.size := by
      have := (List.getElem?_eq_some_iff.1 h1).1
      simpa using this
    refine ⟨y, ?_, h2⟩
    simp only
    rw [Array.getElem?_append_left hlt]
    simpa using h1
  · obtain ⟨_, x, hx, _⟩ := zipE_lk args 0 t _ ht
    cases hx

/-- The body of a function, behind its evaluation. -/
theorem body_sound (hC : CtxOK P C gl) {ev : (R : Type) → Nat → Code → St → (AExit → St → Option R) → Option R} (hev : EvOK P C gl ev) {f : FuncId} {fn : Func} (hf : P.funcs[f]? = some fn) (hlp : LpAll P C gl fn) {b : Code} (hb : fn.body = some b) {args : List AV} (hle : Nat.ble args.length fn.ntmps = true)
    {mem : List (Nat × Blk)} {nx : Nat} {k : AV → List (Nat × Blk) → Nat → Option R} {r : R}
    (h : (ev R fn.ntmps b { env := zipE 0 args, mem := mem, nx := nx } fun e s' => match e with
        | .exit _ => none
        | _ => match resA C s' fn.results.toList with
          | some l => k (tupA l) s'.mem s'.nx
          | none => none) = some r) :
    ∃ v mem' nx', k v mem' nx' = some r ∧ nx ≤ nx' ∧ ∀ w0, GOK C.G gl w0 → ∀ σ (vals : Array Value) w, VRs σ args vals.toList → RepM w0 C.G (fun j => nx ≤ j) σ (lkM mem) w →
      Calls P f vals w (fun e w' => ∃ rv σ', e = .returned rv ∧ Ext σ σ' ∧ VR σ' v rv ∧ RepM w0 C.G (fun j => nx' ≤ j) σ' (lkM mem') w') := by
  obtain ⟨e, s', N, hK, hnx, hwp⟩ := hev _ _ _ _ _ _ (hlp b hb) h
  have hnorm : e.ex = .normal ∨ e.ex = .ret := by
    cases e with
    | exit i => cases hK
    | normal => exact .inl rfl
    | ret => exact .inr rfl
  have hK' : (match resA C s' fn.results.toList with
          | some l => k (tupA l) s'.mem s'.nx
          | none => none) = some r := by
    cases e with
    | exit i => cases hK
    | normal => exact hK
    | ret => exact hK
  cases hres : resA C s' fn.results.toList with
  | none => rw [hres] at hK'; cases hK'
  | some l =>
    rw [hres] at hK'
    refine ⟨tupA l, s'.mem, s'.nx, hK', hnx, fun w0 hG σ vals w hv hm => calls_of_wp hf hb ?_⟩
    refine wpX_wp (hwp w0 hG σ _ w hm (enter_E hv (Nat.le_of_ble_eq_true hle)) _ ?_)
    intro σ' a' w' hx hm' hE'
    obtain ⟨x, h1, h2⟩ := results_sound hC hm' hE' hres
    have : bodyPost P fn (fun e w' => ∃ rv σ', e = .returned rv ∧ Ext σ σ' ∧ VR σ' (tupA l) rv ∧ RepM w0 C.G (fun j => s'.nx ≤ j) σ' (lkM s'.mem) w') .normal a' w' :=
      ⟨hE'.dfr, x, h2, x, σ', rfl, hx, h1, hm'⟩
    rcases hnorm with he | he <;> rw [he] <;> exact this

theorem inlOf_sound (hC : CtxOK P C gl) {ev : (R : Type) → Nat → Code → St → (AExit → St → Option R) → Option R} (hev : EvOK P C gl ev) (R : Type) : InlOK P C gl (inlOf C ev R) := by
  intro f args mem nx k r h
  unfold inlOf at h
  cases hf : C.fns f with
  | none => simp [hf] at h
  | some fn =>
    simp only [hf] at h
    cases hb : fn.body with
    | none => simp [hb] at h
    | some b =>
      simp only [hb] at h
      obtain ⟨hle, h5⟩ := bif_some h
      obtain ⟨hfn, hcall, hlp⟩ := hC.fns f fn hf
      obtain ⟨v, mem', nx', h1, h2, h3⟩ := body_sound hC hev hfn hlp hb hle h5
      exact ⟨v, mem', nx', h1, h2, hcall, h3⟩

theorem joinRC_spec {a b : Code} {ops : Array Oper} {t : Tmp} {draw : Bool} (h : joinRC a b = some (ops, t, draw)) : ∃ id, a = .region id ops draw := by
  cases a <;> simp only [joinRC] at h <;> try (cases h; done)
  rename_i id ops' draw'
  cases b <;> simp only at h <;> try (cases h; done)
  rename_i x y z
  cases x <;> simp only at h <;> try (cases h; done)
  obtain ⟨_, h2⟩ := bif_some h
  have := Option.some.inj h2
  simp only [Prod.mk.injEq] at this
  exact ⟨id, by rw [this.1, this.2.2]⟩

theorem dropE_lk (ds : List Nat) : ∀ (env : List (Nat × Option AV)) (u : Nat) (v : Option AV), lk2 (dropE ds env) u = some v → u ∉ ds ∧ lk2 env u = some v
  | [], u, v, h => by simp [dropE, lk2] at h
  | (t, x) :: r, u, v, h => by
    simp only [dropE] at h
    cases hm : memN t ds
    · simp only [hm, cond_false] at h
      rw [lk2_cons] at h ⊢
      unfold updE at *
      split at h
      · rename_i hu
        subst hu
        refine ⟨fun hin => ?_, by simp [h]⟩
        rw [memN_spec.2 hin] at hm
        cases hm
      · rename_i hu
        simp only [hu, if_false]
        exact dropE_lk ds r u v h
    · simp only [hm, cond_true] at h
      obtain ⟨h1, h2⟩ := dropE_lk ds r u v h
      refine ⟨h1, ?_⟩
      rw [lk2_cons]
      unfold updE
      split
      · rename_i hu
        subst hu
        exact absurd (memN_spec.1 hm) h1
      · exact h2

theorem dstsL_spec : ∀ {l : List Oper} {u : Nat}, u ∉ dstsL l → ∀ o ∈ l, o.dst ≠ some u
  | [], u, _, o, ho => by simp at ho
  | x :: r, u, h, o, ho => by
    simp only [dstsL] at h
    rcases List.mem_cons.1 ho with rfl | ho
    · intro hd
      simp [hd] at h
    · refine dstsL_spec (l := r) (fun hin => h ?_) o ho
      cases x.dst with
      | none => exact hin
      | some t => exact List.mem_cons_of_mem _ hin

theorem boolAt_spec {t : Tmp} {s : St} {b : Bool} (h : boolAt t s = some b) : lk2 s.env t = some (some (.bool b)) := by
  unfold boolAt at h
  cases hl : lk s.env t with
  | none => simp [hl] at h
  | some v =>
    simp only [hl] at h
    cases v <;> simp only at h <;> try (cases h; done)
    cases h
    exact lk_some hl

/-! ### The state at a loop's head -/
theorem pickE_lk {env : List (Nat × Option AV)} : ∀ {ks : List Nat} {u : Nat} {v : Option AV}, lk2 (pickE env ks) u = some v → lk2 env u = some v
  | [], u, v, h => by simp [pickE, lk2] at h
  | t :: r, u, v, h => by
    simp only [pickE] at h
    cases ht : lk2 env t with
    | none => simp only [ht] at h; exact pickE_lk h
    | some x =>
      simp only [ht] at h
      rw [lk2_cons] at h
      unfold updE at h
      split at h
      · rename_i hu
        subst hu
        rw [ht]
        exact h
      · exact pickE_lk h

theorem pickM_lk {mem : List (Nat × Blk)} : ∀ {ks : List Nat} {u : Nat} {v : Blk}, lkM (pickM mem ks) u = some v → lkM mem u = some v
  | [], u, v, h => by simp [pickM, lkM] at h
  | t :: r, u, v, h => by
    simp only [pickM] at h
    cases ht : lkM mem t with
    | none => simp only [ht] at h; exact pickM_lk h
    | some x =>
      simp only [ht] at h
      rw [lkM_cons] at h
      unfold updM at h
      split at h
      · rename_i hu
        subst hu
        rw [ht]
        exact h
      · exact pickM_lk h

theorem RepE.sub {σ : Sg} {nt : Nat} {e e' : Nat → Option (Option AV)} {a : Act} (h : RepE σ nt e a) (he : ∀ u v, e' u = some v → e u = some v) : RepE σ nt e' a :=
  ⟨h.dfr, h.size, fun t v ht => h.env t v (he _ _ ht), fun t ht => h.und t (he _ _ ht)⟩

theorem RepM.sub {w0 : World} {G : Nat} {U : Nat → Prop} {σ : Sg} {m m' : Nat → Option Blk} {w : World} (h : RepM w0 G U σ m w) (hm : ∀ i b, m' i = some b → m i = some b) : RepM w0 G U σ m' w :=
  { h with
    blk := fun i b hb => h.blk i b (hm i b hb)
    own := fun i x hi => h.own i x (by
      cases hmi : m' i with
      | none => rw [hmi] at hi; exact hi.elim
      | some b => rw [hmi] at hi; rw [hm _ _ hmi]; exact hi)
    inj := fun i j x y hx hy hne hi hj => h.inj i j x y hx hy hne (by
      cases hmi : m' i with
      | none => rw [hmi] at hi; exact hi.elim
      | some b => rw [hmi] at hi; rw [hm _ _ hmi]; exact hi) (by
      cases hmj : m' j with
      | none => rw [hmj] at hj; exact hj.elim
      | some b => rw [hmj] at hj; rw [hm _ _ hmj]; exact hj) }

def lowS (nx : Nat) (σ : Sg) : Sg := fun i => if i < nx then σ i else none

theorem lowE_spec {nx : Nat} : ∀ {env : List (Nat × Option AV)} {u : Nat} {v : AV}, lowE nx env = true → lk2 env u = some (some v) → lowV nx v = true
  | [], u, v, _, h => by simp [lk2] at h
  | (t, x) :: r, u, v, hl, h => by
    rw [lk2_cons] at h
    unfold updE at h
    cases x with
    | none =>
      simp only [lowE] at hl
      split at h
      · simp at h
      · exact lowE_spec hl h
    | some y =>
      simp only [lowE] at hl
      obtain ⟨h1, h2⟩ := bif_and hl
      split at h
      · simp at h
        subst h
        exact h1
      · exact lowE_spec h2 h

theorem lowM_spec {nx : Nat} : ∀ {m : List (Nat × Blk)} {i : Nat} {b : Blk}, lowM nx m = true → lkM m i = some b → i < nx ∧ lowB nx b = true
  | [], i, b, _, h => by simp [lkM] at h
  | (t, x) :: r, i, b, hl, h => by
    rw [lkM_cons] at h
    unfold updM at h
    simp only [lowM] at hl
    obtain ⟨h0, hl⟩ := bif_and hl
    obtain ⟨h1, h2⟩ := bif_and hl
    split at h
    · rename_i hi
      subst hi
      simp at h
      subst h
      exact ⟨Nat.lt_of_lt_of_le (Nat.lt_succ_self _) (Nat.le_of_ble_eq_true h0), h1⟩
    · exact lowM_spec h2 h

theorem lowVs_get {nx : Nat} : ∀ {l : List AV} {j : Nat} {c : AV}, lowVs nx l = true → l[j]? = some c → lowV nx c = true
  | [], j, c, _, h => by simp at h
  | x :: r, j, c, hl, h => by
    simp only [lowVs] at hl
    obtain ⟨h1, h2⟩ := bif_and hl
    cases j with
    | zero => simp at h; subst h; exact h1
    | succ j => exact lowVs_get h2 (by simpa using h)

theorem lowS_eq {nx : Nat} {σ : Sg} : ∀ i, i < nx → σ i = lowS nx σ i := fun i hi => by simp [lowS, hi]

theorem cut_E {nx : Nat} {σ : Sg} {nt : Nat} {env : List (Nat × Option AV)} {a : Act} (h : RepE σ nt (lk2 env) a) (hl : lowE nx env = true) : RepE (lowS nx σ) nt (lk2 env) a :=
  ⟨h.dfr, h.size, fun t v ht => let ⟨x, h1, h2⟩ := h.env t v ht; ⟨x, h1, lowV_VR lowS_eq (lowE_spec hl ht) h2⟩, h.und⟩

theorem cut_M {w0 : World} {G nx : Nat} {U : Nat → Prop} {σ : Sg} {mem : List (Nat × Blk)} {w : World} (h : RepM w0 G U σ (lkM mem) w) (hl : lowM nx mem = true) (hG : G ≤ nx) : RepM w0 G (fun j => nx ≤ j) (lowS nx σ) (lkM mem) w where
  below := h.below
  fresh i hi := by simp [lowS, Nat.not_lt.2 hi]
  blk i b hb := by
    obtain ⟨h1, h2⟩ := lowM_spec hl hb
    obtain ⟨x, h3, h4⟩ := h.blk i b hb
    refine ⟨x, by rw [← lowS_eq i h1]; exact h3, ?_⟩
    cases b with
    | own cs el =>
      obtain ⟨h5, vs, h6, h7⟩ := h4
      exact ⟨h5, vs, h6, lowVs_VR lowS_eq h2 h7⟩
    | ro cs =>
      intro j c hc
      obtain ⟨y, h5, h6⟩ := h4 j c hc
      exact ⟨y, h5, lowV_VR lowS_eq (lowVs_get h2 hc) h6⟩
    | pre cs el sz =>
      obtain ⟨h5, h6, h7, vs, h8, h9, h10⟩ := h4
      exact ⟨h5, h6, h7, vs, h8, h9, lowVs_VR lowS_eq h2 h10⟩
  own i x hi hx := by
    have h1 : i < nx := by
      by_cases hh : i < nx
      · exact hh
      · simp [lowS, hh] at hx
    exact h.own i x hi ((lowS_eq (σ := σ) i h1).trans hx)
  inj i j x y hx hy hne ho hlv := by
    have h1 : i < nx := by
      by_cases hh : i < nx
      · exact hh
      · simp [lowS, hh] at hx
    have h2 : j < nx := by
      by_cases hh : j < nx
      · exact hh
      · simp [lowS, hh] at hy
    exact h.inj i j x y ((lowS_eq (σ := σ) i h1).trans hx) ((lowS_eq (σ := σ) j h2).trans hy) hne ho hlv
  lt i x hx := by
    have h1 : i < nx := by
      by_cases hh : i < nx
      · exact hh
      · simp [lowS, hh] at hx
    exact h.lt i x ((lowS_eq (σ := σ) i h1).trans hx)
  glob g hg := by rw [← lowS_eq g (by omega)]; exact h.glob g hg
  rows i x r hi hr := by
    have h1 : i < nx := by
      by_cases hh : i < nx
      · exact hh
      · simp [lowS, hh] at hi
    exact h.rows i x r ((lowS_eq (σ := σ) i h1).trans hi) hr

/-- Behind a round, the head's state holds again. -/
theorem cut_sound {w0 : World} {ks ms : List Nat} {nx0 : Nat} {s : St} {σ0 σ : Sg} {nt : Nat} {a : Act} {w : World} (hG : C.G ≤ nx0) (h0 : ∀ i x, σ0 i = some x → i < nx0) (hx : Ext σ0 σ) (hnx : nx0 ≤ s.nx)
    (hm : RepM w0 C.G (fun j => s.nx ≤ j) σ (lkM s.mem) w) (hE : RepE σ nt (lk2 s.env) a) :
    nx0 ≤ (cutS ks ms nx0 s).nx ∧ ∃ σ', Ext σ0 σ' ∧ RepM w0 C.G (fun j => (cutS ks ms nx0 s).nx ≤ j) σ' (lkM (cutS ks ms nx0 s).mem) w ∧ RepE σ' nt (lk2 (cutS ks ms nx0 s).env) a := by
  unfold cutS
  have hE' : RepE σ nt (lk2 (pickE s.env ks)) a := hE.sub fun u v => pickE_lk
  have hM' : RepM w0 C.G (fun j => s.nx ≤ j) σ (lkM (pickM s.mem ms)) w := hm.sub fun i b => pickM_lk
  cases h1 : lowE nx0 (pickE s.env ks)
  · exact ⟨hnx, σ, hx, hm, hE'⟩
  · cases h2 : lowM nx0 (pickM s.mem ms)
    · exact ⟨hnx, σ, hx, hm, hE'⟩
    · exact ⟨Nat.le_refl _, lowS nx0 σ, fun i x hi => by rw [← lowS_eq i (h0 i x hi)]; exact hx i x hi, cut_M hM' h2 hG, cut_E hE' h1⟩

theorem evStep_sound (hC : CtxOK P C gl) {ev : (R : Type) → Nat → Code → St → (AExit → St → Option R) → Option R} (hev : EvOK P C gl ev) : EvOK P C gl (evStep C ev) := by
  intro R nt c s K r hl h
  have hinl := inlOf_sound hC hev
  cases c <;> simp only [evStep] at h <;> try (cases h; done)
  case skip => exact ⟨.normal, s, 0, h, Nat.le_refl _, fun w0 hG σ a w hm hE Q hQ => wp_skip (hQ σ a w (Ext.refl _) hm hE)⟩
  case region id ops draw =>
    cases draw
    · simp only [cond_false] at h
      obtain ⟨s', hK, hnx, hr⟩ := evS_sound hC hinl _ _ _ _ h
      exact ⟨.normal, s', 0, hK, hnx, fun w0 hG σ a w hm hE Q hQ => wp_region_list (hr w0 hG σ a w hm hE Q fun σ' a' w' hx hm' hE' _ => hQ σ' a' w' hx hm' hE')⟩
    · simp only [cond_true] at h
      obtain ⟨hreg, h5⟩ := bif_some h
      obtain ⟨s', hK, hr⟩ := evD_sound hC hinl hreg h5
      refine ⟨.normal, _, 0, hK, Nat.le_add_right _ _, fun w0 hG σ a w hm hE Q hQ => wp_region_any hC.mo ?_⟩
      refine hr w0 hG σ a _ (hm.later ?_) hE Q fun σ' a' w' hx hm' hE' _ => hQ σ' a' w' hx hm' hE'
      exact (Below.refl _ w).drew
  case seq x y =>
    cases hj : (bif C.jc then joinRC x y else none) with
    | some q =>
      obtain ⟨ops, t, draw⟩ := q
      simp only [hj] at h
      obtain ⟨v, h1, h2⟩ := Option.bind_eq_some_iff.1 h
      obtain ⟨id, rfl⟩ := joinRC_spec (bif_some hj).2
      have hreg : ∃ s1, boolAt t s1 = some v ∧ ∀ w0, GOK C.G gl w0 → ∀ σ a w, RepM w0 C.G (fun j => s.nx ≤ j) σ (lkM (roMem s.mem)) w → RepE σ nt (lk2 s.env) a → ∀ Q : Exit → Act → World → Prop,
          (∀ σ' a' w', Ext σ σ' → (∃ n, RepM w0 C.G (fun j => n ≤ j) σ' (lkM s1.mem) w') → RepE σ' nt (lk2 s1.env) a' → (∀ u, (∀ o ∈ ops.toList, o.dst ≠ some u) → a'.tmps[u]? = a.tmps[u]?) → Q .normal a' w') → (Code.region id ops draw).wp P Q a w := by
        cases draw
        · simp only [joinO, cond_false] at h1
          obtain ⟨s1, hK1, _, hr⟩ := evS_sound (R := Bool) hC hinl _ _ _ _ h1
          exact ⟨s1, hK1, fun w0 hG σ a w hm hE Q hQ => wp_region_list (hr w0 hG σ a w hm hE Q fun σ' a' w' hx hm' hE' hf => hQ σ' a' w' hx ⟨_, hm'⟩ hE' hf)⟩
        · simp only [joinO, cond_true] at h1
          obtain ⟨hreg, h5⟩ := bif_some h1
          obtain ⟨s1, hK1, hr⟩ := evD_sound (R := Bool) (s := { s with mem := roMem s.mem }) hC hinl hreg h5
          refine ⟨s1, hK1, fun w0 hG σ a w hm hE Q hQ => wp_region_any hC.mo ?_⟩
          exact hr w0 hG σ a _ (hm.later (Below.refl _ w).drew) hE Q fun σ' a' w' hx hm' hE' hf => hQ σ' a' w' hx ⟨_, hm'⟩ hE' hf
      obtain ⟨s1, hK1, hr⟩ := hreg
      obtain ⟨e2, s2, N2, hK2, hn2, h2'⟩ := hev _ _ _ _ _ _ (fun l hb => hl l (by simp [loopsL, hb])) h2
      refine ⟨e2, s2, 0, hK2, hn2, fun w0 hG σ a w hm hE Q hQ => wp_seq (hr w (hG.later hm.below) σ a w hm.ro hE _ ?_)⟩
      rintro σ' a' w' hx ⟨_, hm'⟩ hE' hf
      refine wpX_wp (h2' w0 hG σ a' w' (hm.later hm'.below) ?_ Q hQ)
      obtain ⟨y', hy1, hy2⟩ := hE'.env t _ (boolAt_spec hK1)
      refine ⟨hE'.dfr, hE'.size, fun u z hu => ?_, fun u hu => ?_⟩
      · rw [lk2_cons] at hu
        unfold updE at hu
        split at hu
        · rename_i hut
          subst hut
          simp at hu
          subst hu
          exact ⟨y', hy1, hy2⟩
        · obtain ⟨h3, h4⟩ := dropE_lk _ _ _ _ hu
          obtain ⟨z', h5, h6⟩ := hE.env u z h4
          exact ⟨z', (hf u (dstsL_spec h3)).trans h5, h6⟩
      · rw [lk2_cons] at hu
        unfold updE at hu
        split at hu
        · simp at hu
        · obtain ⟨h3, h4⟩ := dropE_lk _ _ _ _ hu
          exact (hf u (dstsL_spec h3)).trans (hE.und u h4)
    | none =>
    simp only [hj] at h
    obtain ⟨e, s1, N1, hK1, hn1, h1'⟩ := hev _ _ _ _ _ _ (fun l hb => hl l (by simp [loopsL, hb])) h
    have h1 := fun w0 hG σ a w hm hE Q hQ => wpX_wp (h1' w0 hG σ a w hm hE Q hQ)
    cases e with
    | normal =>
      obtain ⟨e2, s2, N2, hK2, hn2, h2'⟩ := hev _ _ _ _ _ _ (fun l hb => hl l (by simp [loopsL, hb])) hK1
      have h2 := fun w0 hG σ a w hm hE Q hQ => wpX_wp (h2' w0 hG σ a w hm hE Q hQ)
      refine ⟨e2, s2, 0, hK2, Nat.le_trans hn1 hn2, fun w0 hG σ a w hm hE Q hQ => wp_seq (h1 w0 hG σ a w hm hE _ fun σ' a' w' hx hm' hE' => ?_)⟩
      exact h2 w0 hG σ' a' w' hm' hE' Q fun σ'' a'' w'' hx' => hQ σ'' a'' w'' (hx.trans hx')
    | exit i => exact ⟨.exit i, s1, 0, hK1, hn1, fun w0 hG σ a w hm hE Q hQ => wp_seq (h1 w0 hG σ a w hm hE _ hQ)⟩
    | ret => exact ⟨.ret, s1, 0, hK1, hn1, fun w0 hG σ a w hm hE Q hQ => wp_seq (h1 w0 hG σ a w hm hE _ hQ)⟩
  case cond x y z =>
    cases hx : opv C.G s.env x with
    | none => simp [hx] at h
    | some v =>
      simp only [hx] at h
      cases v <;> simp only at h <;> try (cases h; done)
      rename_i b
      cases b
      · simp only [cond_false] at h
        obtain ⟨e, s1, N1, hK1, hn1, h1'⟩ := hev _ _ _ _ _ _ (fun l hb => hl l (by simp [loopsL, hb])) h
        have h1 := fun w0 hG σ a w hm hE Q hQ => wpX_wp (h1' w0 hG σ a w hm hE Q hQ)
        refine ⟨e, s1, 0, hK1, hn1, fun w0 hG σ a w hm hE Q hQ => ?_⟩
        have hv := opv_sound hx (e := lk2 s.env) (fun t _ v hv => lk_some hv) hm hE
        exact wp_cond hv (h1 w0 hG σ a w hm hE Q hQ)
      · simp only [cond_true] at h
        obtain ⟨e, s1, N1, hK1, hn1, h1'⟩ := hev _ _ _ _ _ _ (fun l hb => hl l (by simp [loopsL, hb])) h
        have h1 := fun w0 hG σ a w hm hE Q hQ => wpX_wp (h1' w0 hG σ a w hm hE Q hQ)
        refine ⟨e, s1, 0, hK1, hn1, fun w0 hG σ a w hm hE Q hQ => ?_⟩
        have hv := opv_sound hx (e := lk2 s.env) (fun t _ v hv => lk_some hv) hm hE
        exact wp_cond hv (h1 w0 hG σ a w hm hE Q hQ)
  case block id b =>
    obtain ⟨e, s1, N1, hK1, hn1, h1'⟩ := hev _ _ _ _ _ _ (fun l hb => hl l (by simpa [loopsL] using hb)) h
    have h1 := fun w0 hG σ a w hm hE Q hQ => wpX_wp (h1' w0 hG σ a w hm hE Q hQ)
    cases e with
    | normal => exact ⟨.normal, s1, 0, hK1, hn1, fun w0 hG σ a w hm hE Q hQ => wp_block (h1 w0 hG σ a w hm hE _ hQ)⟩
    | ret => exact ⟨.ret, s1, 0, hK1, hn1, fun w0 hG σ a w hm hE Q hQ => wp_block (h1 w0 hG σ a w hm hE _ hQ)⟩
    | exit i =>
      have hK1 : (bif Nat.beq i id then K .normal s1 else K (.exit i) s1) = some r := hK1
      cases hi : Nat.beq i id
      · rw [hi] at hK1
        refine ⟨.exit i, s1, 0, hK1, hn1, fun w0 hG σ a w hm hE Q hQ => wp_block (h1 w0 hG σ a w hm hE _ fun σ' a' w' hx hm' hE' => ?_)⟩
        have hne : i ≠ id := fun e => by subst e; rw [beq_self] at hi; cases hi
        show Exit.inBlock id Q (.exit i) a' w'
        simp only [Exit.inBlock, hne, if_false]
        exact hQ σ' a' w' hx hm' hE'
      · rw [hi] at hK1
        refine ⟨.normal, s1, 0, hK1, hn1, fun w0 hG σ a w hm hE Q hQ => wp_block (h1 w0 hG σ a w hm hE _ fun σ' a' w' hx hm' hE' => ?_)⟩
        have he : i = id := Nat.eq_of_beq_eq_true hi
        show Exit.inBlock id Q (.exit i) a' w'
        simp only [Exit.inBlock, he, if_true]
        exact hQ σ' a' w' hx hm' hE'
  case loop b =>
    cases hL : C.lp (loopKey nt b) with
    | some L =>
      simp only [hL] at h
      cases hd : decT L.T0 s with
      | none => simp [hd] at h
      | some q =>
        simp only [hd] at h
        obtain ⟨t, h1, h2⟩ := Option.bind_eq_some_iff.1 h
        obtain ⟨d1, d2, d3⟩ := decT_spec hd
        obtain ⟨o, N, h3, h4, h5⟩ := hl b (by simp [loopsL]) L hL _ _ t h1
        refine ⟨o.1, _, N, outK_spec h2 h3, Nat.le_trans d1 h4, fun w0 hG σ a w hm hE Q hQ => ?_⟩
        exact h5 w0 hG σ a w ((hm.sub d3).less fun j hj => Nat.le_trans d1 hj) (hE.sub d2) Q hQ
    | none =>
    simp only [hL] at h
    obtain ⟨e, s1, N1, hK1, hn1, h1'⟩ := hev _ _ _ _ _ _ (fun l hb => hl l (by simp [loopsL, hb])) h
    have h1 : ∀ w0, GOK C.G gl w0 → ∀ σ a w, RepM w0 C.G (fun j => s.nx ≤ j) σ (lkM s.mem) w → RepE σ nt (lk2 s.env) a → ∀ Q : Exit → Act → World → Prop,
        (∀ σ' a' w', Ext σ σ' → RepM w0 C.G (fun j => s1.nx ≤ j) σ' (lkM s1.mem) w' → RepE σ' nt (lk2 s1.env) a' → Q e.ex a' w') → b.wp P Q a w :=
      fun w0 hG σ a w hm hE Q hQ => wpX_wp (h1' w0 hG σ a w (hm.sub fun i b => pickM_lk) (hE.sub fun u v => pickE_lk) Q hQ)
    have hn1 : s.nx ≤ s1.nx := hn1
    cases e with
    | normal =>
      obtain ⟨e2, s2, N2, hK2, hn2, h2⟩ := hev _ _ _ _ _ _ hl hK1
      have hcn : s.nx ≤ (cutS (keysE s.env) (keysM s.mem) s.nx s1).nx := by
        unfold cutS
        cases lowE s.nx (pickE s1.env (keysE s.env))
        · exact hn1
        · cases lowM s.nx (pickM s1.mem (keysM s.mem))
          · exact hn1
          · exact Nat.le_refl _
      refine ⟨e2, s2, N2 + 1, hK2, Nat.le_trans hcn hn2, fun w0 hG σ a w hm hE Q hQ => ?_⟩
      show Code.rounds P b Q (N2 + 1) a w
      rw [rounds_succ]
      refine h1 w0 hG σ a w hm hE _ fun σ' a' w' hx hm' hE' => ?_
      have hlow : ∀ i x, σ i = some x → i < s.nx := fun i x hi => by
        refine Nat.lt_of_not_le fun hle => ?_
        rw [hm.fresh i hle] at hi
        cases hi
      have hGn : C.G ≤ s.nx := by
        refine Nat.le_of_not_lt fun hlt => ?_
        have := hm.glob s.nx hlt
        rw [hm.fresh s.nx (Nat.le_refl _)] at this
        cases this
      obtain ⟨_, σ'', hx2, hm2, hE2⟩ := cut_sound (ks := keysE s.env) (ms := keysM s.mem) hGn hlow hx hn1 hm' hE'
      exact h2 w0 hG σ'' a' w' hm2 hE2 Q fun σ3 a3 w3 hx3 => hQ σ3 a3 w3 (hx2.trans hx3)
    | exit i =>
      refine ⟨.exit i, s1, 1, hK1, hn1, fun w0 hG σ a w hm hE Q hQ => ?_⟩
      show Code.rounds P b Q 1 a w
      rw [rounds_succ]
      exact h1 w0 hG σ a w hm hE _ hQ
    | ret =>
      refine ⟨.ret, s1, 1, hK1, hn1, fun w0 hG σ a w hm hE Q hQ => ?_⟩
      show Code.rounds P b Q 1 a w
      rw [rounds_succ]
      exact h1 w0 hG σ a w hm hE _ hQ
  case exit id => exact ⟨.exit id, s, 0, h, Nat.le_refl _, fun w0 hG σ a w hm hE Q hQ => wp_exit (hQ σ a w (Ext.refl _) hm hE)⟩
  case ret => exact ⟨.ret, s, 0, h, Nat.le_refl _, fun w0 hG σ a w hm hE Q hQ => wp_ret (hQ σ a w (Ext.refl _) hm hE)⟩
end
end Go.VE
