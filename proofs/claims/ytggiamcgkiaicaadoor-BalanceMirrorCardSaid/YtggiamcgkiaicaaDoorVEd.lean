/-
  THE READING MACHINE: arithmetic, columns, loads, stores, places, composites, builtins, against the model's own.
-/
import Derived.Test.YtggiamcgkiaicaaDoorVEc
namespace Go.VE
open Go.RowKit (Below)
set_option linter.unusedSimpArgs false
set_option linter.unusedVariables false

/-! ### Arithmetic -/
section
variable {P : Program} {C : Ctx} {R : Type}

theorem binI_sound {op : BinOp} {k : IntKind} {a b : Int} {K : AV → Option R} {r : R} (h : binI op k a b K = some r) :
    ∃ v, K v = some r ∧ ∀ σ t w, ∃ z, VR σ v z ∧ (binOp op t (.int k a) (.int k b)).run P w = .ok z w := by
  cases op <;> simp only [binI] at h
  case quo =>
    obtain ⟨h0, h⟩ := bif_none_some h
    have h0 : b ≠ 0 := by simpa using h0
    exact ⟨_, h, fun σ t w => ⟨_, rfl, by simp [binOp, Op.intDiv, h0]⟩⟩
  case rem =>
    obtain ⟨h0, h⟩ := bif_none_some h
    have h0 : b ≠ 0 := by simpa using h0
    exact ⟨_, h, fun σ t w => ⟨_, rfl, by simp [binOp, Op.intDiv, h0]⟩⟩
  case eql => exact ⟨_, h, fun σ t w => ⟨_, rfl, by simp [binOp, Op.intCmp]; rfl⟩⟩
  case neq => exact ⟨_, h, fun σ t w => ⟨_, rfl, by simp [binOp, Op.intCmp]; rfl⟩⟩
  case gtr => exact ⟨_, h, fun σ t w => ⟨_, rfl, by simp [binOp, Op.intCmp]⟩⟩
  case geq => exact ⟨_, h, fun σ t w => ⟨_, rfl, by simp [binOp, Op.intCmp]⟩⟩
  all_goals first
    | (cases h; done)
    | exact ⟨_, h, fun σ t w => ⟨_, rfl, by simp [binOp, Op.intArith, Op.intBits, Op.intCmp, bitsI]⟩⟩

theorem binA_sound (hty : ∀ t i, C.ty t = some i → tyOf P t = some i) {op : BinOp} {t : TypeId} {x y : AV} {K : AV → Option R} {r : R} (h : binA C op t x y K = some r) :
    ∃ v, K v = some r ∧ ∀ σ x' y' X Y w, VR σ x x' → VR σ y y' → ∃ z, VR σ v z ∧ (do eqGuard op t X Y x' y'; binOp op t x' y').run P w = .ok z w := by
  cases x <;> simp only [binA] at h <;> try (cases h; done)
  case int k a =>
    cases y <;> try (cases h; done)
    rename_i k' b
    have key : ∀ v, (∀ σ w, ∃ z, VR σ v z ∧ (binOp op t (.int k a) (.int k' b)).run P w = .ok z w) →
        ∀ σ x' y' X Y w, VR σ (.int k a) x' → VR σ (.int k' b) y' → ∃ z, VR σ v z ∧ (do eqGuard op t X Y x' y'; binOp op t x' y').run P w = .ok z w := by
      intro v hv σ x' y' X Y w hx hy
      simp only [VR] at hx hy
      subst hx; subst hy
      obtain ⟨z, h1, h2⟩ := hv σ w
      exact ⟨z, h1, by simp [eqGuard_at_int, h2]⟩
    by_cases hs : op = .shl
    · subst hs
      obtain ⟨h0, h⟩ := bif_none_some h
      have h0 : ¬ b < 0 := by simpa using h0
      exact ⟨_, h, key _ fun σ w => ⟨_, rfl, by simp [binOp, Op.shift, h0, shlI]⟩⟩
    by_cases hs' : op = .shr
    · subst hs'
      obtain ⟨h0, h⟩ := bif_none_some h
      have h0 : ¬ b < 0 := by simpa using h0
      exact ⟨_, h, key _ fun σ w => ⟨_, rfl, by simp [binOp, Op.shift, h0, shrI]⟩⟩
    have h' : (bif Nat.beq (kcode k) (kcode k') then binI op k a b K else none) = some r := by
      cases op <;> first | exact h | (exact absurd rfl hs) | (exact absurd rfl hs')
    obtain ⟨hk, h5⟩ := bif_some h'
    obtain rfl := kcode_inj hk
    obtain ⟨v, h1, h2⟩ := binI_sound (P := P) h5
    exact ⟨v, h1, key _ fun σ w => h2 σ t w⟩
  case bool a =>
    cases y <;> try (cases h; done)
    rename_i b
    dsimp only at h
    cases ht : C.ty t with
    | none => simp [ht] at h
    | some i =>
      simp only [ht] at h
      obtain ⟨dd, hu, hr⟩ := und_of (hty t i ht)
      cases hd : i.d <;> simp only [hd] at h hr <;> try (cases h; done)
      cases hr
      cases op <;> try (cases h; done)
      · exact ⟨_, h, fun σ x' y' X Y w hx hy => by
          simp only [VR] at hx hy; subst hx; subst hy
          exact ⟨_, rfl, by simp [eqGuard_at_bool, run_eql_bool w t a b hu]⟩⟩
      · exact ⟨_, h, fun σ x' y' X Y w hx hy => by
          simp only [VR] at hx hy; subst hx; subst hy
          exact ⟨_, rfl, by simp [eqGuard_at_bool, run_neq_bool w t a b hu]⟩⟩
  case str a =>
    cases y <;> try (cases h; done)
    rename_i b
    cases op <;> try (cases h; done)
    · obtain ⟨h0, h⟩ := bif_none_some h
      have h0 : ¬ ((Nat.add a.size b.size : Nat) : Int) > IntKind.i64.max := by simpa using h0
      exact ⟨_, h, fun σ x' y' X Y w hx hy => by
          simp only [VR] at hx hy; subst hx; subst hy
          exact ⟨_, rfl, by
            have h1 : ¬ (((a.size + b.size : Nat) : Int) > IntKind.i64.max) := h0
            simp only [eqGuard_at_string, Sem.run_bind, Sem.run_pure, Result.andThen_ok, binOp, Op.stringOp, h1, if_false]⟩⟩
    · exact ⟨_, h, fun σ x' y' X Y w hx hy => by
          simp only [VR] at hx hy; subst hx; subst hy
          exact ⟨_, rfl, by simp [eqGuard_at_string, binOp, Op.stringOp, strEq]⟩⟩
    · exact ⟨_, h, fun σ x' y' X Y w hx hy => by
          simp only [VR] at hx hy; subst hx; subst hy
          exact ⟨_, rfl, by simp [eqGuard_at_string, binOp, Op.stringOp, strEq]⟩⟩
  case agg xs =>
    have key : ∀ b, eqV C 9 t (.agg xs) y = some b → ∃ ys, y = .agg ys ∧ P.eqGuardType P.depth t = false := by
      intro b hb
      simp only [eqV] at hb
      cases ht : C.ty t with
      | none => simp [ht] at hb
      | some i =>
        simp only [ht] at hb
        obtain ⟨dd, hu, hr⟩ := und_of (hty t i ht)
        cases hd : i.d <;> simp only [hd] at hb hr <;> try (cases hb; done)
        · rename_i n e
          cases he : C.ty e with
          | none => simp [he] at hb
          | some ei =>
            simp only [he] at hb
            cases y <;> simp only at hb <;> try (cases hb; done)
            exact ⟨_, rfl, hr.2⟩
        · cases y <;> simp only at hb <;> try (cases hb; done)
          obtain ⟨F, _, _, _, h3, _⟩ := hr
          exact ⟨_, rfl, h3⟩
    cases op <;> try (cases h; done)
    all_goals
      cases hb : eqV C 9 t (.agg xs) y with
      | none => simp [hb] at h
      | some b =>
        simp only [hb] at h
        obtain ⟨ys, rfl, hg⟩ := key b hb
        refine ⟨_, h, fun σ x' y' X Y w hx hy => ?_⟩
        have hr := eqV_sound hty 9 t _ _ b hb 10000 (by omega) σ x' y' w hx hy
        obtain ⟨us, rfl, _⟩ := hx
        obtain ⟨vs, rfl, _⟩ := hy
        exact ⟨_, rfl, by simp [run_eqGuard_agg w _ t X Y us vs hg, run_eql_struct, run_neq_struct, hr]⟩
end

/-! ### Columns -/
theorem column_spec : ∀ {cells : List AV} {st len : Nat} {col : List AV}, column cells st len = some col → ∀ n, n < len → ∃ c, col[n]? = some c ∧ cells[n * st]? = some c
  | _, _, 0, _, _, n, hn => by omega
  | [], _, _ + 1, _, h, _, _ => by simp [column] at h
  | x :: xs, st, len + 1, col, h, n, hn => by
    simp only [column] at h
    cases h1 : column (dropL (x :: xs) st) st len with
    | none => simp [h1] at h
    | some l =>
      simp [h1] at h
      subst h
      cases n with
      | zero => exact ⟨x, by simp, by simp⟩
      | succ n =>
        obtain ⟨c, h2, h3⟩ := column_spec h1 n (by omega)
        rw [dropL_eq, List.getElem?_drop] at h3
        exact ⟨c, by simpa using h2, by rw [Nat.succ_mul, Nat.add_comm]; exact h3⟩

theorem colInt_spec : ∀ {col : List AV} {k : IntKind} {l : List Int}, colInt col = some (k, l) → col = l.map (AV.int k)
  | [], _, _, h => by simp [colInt] at h
  | [.int k n], k', l, h => by simp [colInt] at h; obtain ⟨rfl, rfl⟩ := h; rfl
  | .int k n :: y :: r, k', l, h => by
    simp only [colInt] at h
    cases h1 : colInt (y :: r) with
    | none => simp [h1] at h
    | some p =>
      obtain ⟨k2, l2⟩ := p
      simp only [h1] at h
      obtain ⟨hk, h5⟩ := bif_some h
      obtain rfl := kcode_inj hk
      simp at h5
      obtain ⟨rfl, rfl⟩ := h5
      simp [colInt_spec h1]
  | .bool _ :: _, _, _, h => by simp [colInt] at h
  | .str _ :: _, _, _, h => by simp [colInt] at h
  | .ptr _ _ :: _, _, _, h => by simp [colInt] at h
  | .pidx _ _ _ _ _ _ :: _, _, _, h => by simp [colInt] at h
  | .prow _ _ _ _ _ :: _, _, _, h => by simp [colInt] at h
  | .prowx _ _ _ _ _ _ _ _ _ :: _, _, _, h => by simp [colInt] at h
  | .nilp :: _, _, _, h => by simp [colInt] at h
  | .slice _ _ _ :: _, _, _, h => by simp [colInt] at h
  | .xslice _ _ _ _ :: _, _, _, h => by simp [colInt] at h
  | .nils :: _, _, _, h => by simp [colInt] at h
  | .fn _ _ :: _, _, _, h => by simp [colInt] at h
  | .nilf :: _, _, _, h => by simp [colInt] at h
  | .agg _ :: _, _, _, h => by simp [colInt] at h
  | .tup _ :: _, _, _, h => by simp [colInt] at h

theorem colStr_spec : ∀ {col : List AV} {l : List ByteArray}, colStr col = some l → col = l.map AV.str
  | [], _, h => by simp [colStr] at h; subst h; rfl
  | x :: r, l, h => by
    cases x <;> simp only [colStr] at h <;> try (cases h; done)
    rename_i b
    cases h1 : colStr r with
    | none => simp [h1] at h
    | some l2 => simp [h1] at h; subst h; simp [colStr_spec h1]

theorem colBool_spec : ∀ {col : List AV} {l : List Bool}, colBool col = some l → col = l.map AV.bool
  | [], _, h => by simp [colBool] at h; subst h; rfl
  | x :: r, l, h => by
    cases x <;> simp only [colBool] at h <;> try (cases h; done)
    rename_i b
    cases h1 : colBool r with
    | none => simp [h1] at h
    | some l2 => simp [h1] at h; subst h; simp [colBool_spec h1]

theorem pick_spec {col : List AV} {n : Nat} {c : AV} (h : col[n]? = some c) : pick col n = c := by
  unfold pick
  split
  · rename_i k l h1
    have := colInt_spec h1
    subst this
    simp only [List.getElem?_map] at h
    cases hn : l[n]? with
    | none => simp [hn] at h
    | some x => simp [hn] at h; subst h; simp [List.getD, hn]
  · split
    · rename_i l h1
      have := colStr_spec h1
      subst this
      simp only [List.getElem?_map] at h
      cases hn : l[n]? with
      | none => simp [hn] at h
      | some x => simp [hn] at h; subst h; simp [List.getD, hn]
    · split
      · rename_i l h1
        have := colBool_spec h1
        subst this
        simp only [List.getElem?_map] at h
        cases hn : l[n]? with
        | none => simp [hn] at h
        | some x => simp [hn] at h; subst h; simp [List.getD, hn]
      · simp [List.getD, h]

theorem picks_spec : ∀ {cells : List AV} {st len n sz : Nat} {l : List AV}, picks cells st len n sz = some l → n < len → l.length = sz ∧ ∀ k c, l[k]? = some c → cells[n * st + k]? = some c
  | _, _, _, _, 0, l, h, _ => by simp [picks] at h; subst h; simp
  | cells, st, len, n, sz + 1, l, h, hn => by
    simp only [picks] at h
    cases h1 : column cells st len with
    | none => simp [h1] at h
    | some col =>
      cases h2 : picks (dropL cells 1) st len n sz with
      | none => simp [h1, h2] at h
      | some l2 =>
        simp [h1, h2] at h
        subst h
        obtain ⟨c0, h3, h4⟩ := column_spec h1 n hn
        obtain ⟨h5, h6⟩ := picks_spec h2 hn
        refine ⟨by simp [h5], fun k c hc => ?_⟩
        cases k with
        | zero => simp at hc; subst hc; rw [pick_spec h3]; exact h4
        | succ k =>
          have := h6 k c (by simpa using hc)
          rw [dropL_eq, List.getElem?_drop] at this
          rw [← this]
          congr 1
          omega

/-! ### Loads -/
theorem cells_read {σ : Sg} {w : World} {b o : Nat} : ∀ {l : List AV}, (∀ k c, l[k]? = some c → ∃ x, w.cell? ⟨b, o + k, none⟩ = some x ∧ VR σ c x) →
    ∃ vs : List Value, VRs σ l vs ∧ ∀ j v, vs[j]? = some v → w.cell? ⟨b, o + j, none⟩ = some v
  | l, h => by
    induction l generalizing o with
    | nil => exact ⟨[], rfl, by simp⟩
    | cons a l ih =>
      obtain ⟨x, hx, hr⟩ := h 0 a rfl
      obtain ⟨vs, h1, h2⟩ := ih (o := o + 1) (fun k c hc => by
        have := h (k + 1) c (by simpa using hc)
        rwa [show o + (k + 1) = o + 1 + k by omega] at this)
      refine ⟨x :: vs, ⟨x, vs, rfl, hr, h1⟩, fun j v hj => ?_⟩
      cases j with
      | zero => simp at hj; subst hj; exact hx
      | succ j =>
        have := h2 j v (by simpa using hj)
        rwa [show o + 1 + j = o + (j + 1) by omega] at this

theorem add_none (b o n : Nat) : (⟨b, o, none⟩ : Addr).add n = ⟨b, o + n, none⟩ := by
  unfold Addr.add
  split
  · rename_i h; subst h; rfl
  · rfl

/-- The cells of a block that is no block of rows. -/
theorem BlkR.cells {σ : Sg} {w : World} {x : Ex} {cs : List AV} (h : (∃ e, BlkR σ w x (.own cs e)) ∨ BlkR σ w x (.ro cs) ∨ ∃ e sz, BlkR σ w x (.pre cs e sz)) : ∀ j c, cs[j]? = some c → ∃ v, w.cell? ⟨x.blk, x.off + j, none⟩ = some v ∧ VR σ c v := by
  rcases h with ⟨e, h0, vs, h1, h2⟩ | h | ⟨e, sz, h0, _, _, vs, h1, _, h2⟩
  · intro j c hc
    obtain ⟨y, hy, hr⟩ := h2.get hc
    refine ⟨y, ?_, hr⟩
    rw [h0, Nat.zero_add, cell_of_row w _ _ _ _ _ h1]
    simpa using hy
  · exact h
  · intro j c hc
    obtain ⟨y, hy, hr⟩ := h2.get hc
    refine ⟨y, ?_, hr⟩
    rw [h0, Nat.zero_add, cell_of_row w _ _ _ _ _ h1]
    rw [List.getElem?_take] at hy
    split at hy
    · simpa using hy
    · cases hy

section
variable {P : Program} {C : Ctx}

theorem load_list {t : TypeId} {i : TyI} (hti : tyOf P t = some i) {σ : Sg} {w : World} {b o : Nat} {l : List AV} {v : AV} (hl : l.length = i.size) (hw : wrapAgg i.d l = some v)
    (h : ∀ k c, l[k]? = some c → ∃ x, w.cell? ⟨b, o + k, none⟩ = some x ∧ VR σ c x) : ∃ z, VR σ v z ∧ (loadVar t ⟨b, o, none⟩).run P w = .ok z w := by
  obtain ⟨vs, h1, h2⟩ := cells_read h
  have hlen := h1.length
  rcases wrapAgg_spec hw h1 with ⟨ha, hr⟩ | ⟨ha, x, rfl, hr⟩
  · refine ⟨_, hr, ?_⟩
    have := run_loadCells_list (P := P) w ⟨b, o, none⟩ vs (fun j v hj => by rw [add_none]; exact h2 j v hj)
    rw [hlen, hl] at this
    simp [loadVar, run_isAgg' hti, ha, run_sizeOf' hti, this]
  · refine ⟨x, hr, ?_⟩
    have := h2 0 x rfl
    simp only [Nat.add_zero] at this
    simp [loadVar, run_isAgg' hti, ha, this]

theorem loadAt_ptr (t : TypeId) (a : Addr) : Instr.loadAt t (.pointer (some a)) = loadVar t a := rfl

theorem ldv_sound (hty : ∀ t i, C.ty t = some i → tyOf P t = some i) {mem : List (Nat × Blk)} {t : TypeId} {p v : AV} (h : ldv C mem t p = some v) {w0 : World} {U : Nat → Prop} {σ : Sg} {m : Nat → Option Blk} {w : World}
    (hm : RepM w0 C.G U σ m w) (hb : ∀ b, blkOf p = some b → m b = lkM mem b) {pv : Value} (hp : VR σ p pv) : ∃ z, VR σ v z ∧ (Instr.loadAt t pv).run P w = .ok z w := by
  unfold ldv at h
  cases ht : C.ty t with
  | none => simp [ht] at h
  | some i =>
    simp only [ht] at h
    have hti := hty t i ht
    cases p <;> simp only at h <;> try (cases h; done)
    case ptr b off =>
      obtain ⟨x, hx, rfl⟩ := hp
      have hbb := hb b rfl
      have key : ∀ cs, (∃ e, BlkR σ w x (.own cs e)) ∨ BlkR σ w x (.ro cs) ∨ (∃ e sz, BlkR σ w x (.pre cs e sz)) → (match takeL (dropL cs off) i.size with
            | some l => wrapAgg i.d l
            | none => none) = some v → ∃ z, VR σ v z ∧ (Instr.loadAt t (.pointer (some ⟨x.blk, x.off + off, none⟩))).run P w = .ok z w := by
        intro cs hcs h
        cases hl : takeL (dropL cs off) i.size with
        | none => simp [hl] at h
        | some l =>
          simp only [hl] at h
          obtain ⟨rfl, hlen⟩ := takeL_some hl
          rw [loadAt_ptr]
          refine load_list hti hlen h fun k c hc => ?_
          rw [dropL_eq, List.getElem?_take] at hc
          split at hc
          · rw [List.getElem?_drop] at hc
            obtain ⟨y, h1, h2⟩ := BlkR.cells hcs _ _ hc
            exact ⟨y, by rw [Nat.add_assoc]; exact h1, h2⟩
          · cases hc
      cases hk : lkM mem b with
      | none => simp [hk] at h
      | some k =>
        rw [hk] at hbb
        obtain ⟨x', hx', hblk⟩ := hm.blk b k hbb
        obtain rfl : x = x' := by rw [hx] at hx'; exact Option.some.inj hx'
        cases k with
        | own cs e => simp only [hk] at h; exact key cs (.inl ⟨e, hblk⟩) h
        | ro cs => simp only [hk] at h; exact key cs (.inr (.inl hblk)) h
        | pre cs e sz => simp only [hk] at h; exact key cs (.inr (.inr ⟨e, sz, hblk⟩)) h
    case pidx b base st len ix ex =>
      obtain ⟨x, hx, rfl, h0, h1⟩ := hp
      have hbb := hb b rfl
      have hn : ix.toNat < len := by omega
      have key : ∀ cs, (∃ e, BlkR σ w x (.own cs e)) ∨ BlkR σ w x (.ro cs) ∨ (∃ e sz, BlkR σ w x (.pre cs e sz)) → (match picks (dropL cs (Nat.add base ex)) st len ix.toNat i.size with
            | some l => wrapAgg i.d l
            | none => none) = some v → ∃ z, VR σ v z ∧ (Instr.loadAt t (.pointer (some ⟨x.blk, x.off + (base + ix.toNat * st + ex), none⟩))).run P w = .ok z w := by
        intro cs hcs h
        cases hl : picks (dropL cs (Nat.add base ex)) st len ix.toNat i.size with
        | none => simp only [hl] at h; cases h
        | some l =>
          simp only [hl] at h
          obtain ⟨hlen, hs⟩ := picks_spec hl hn
          rw [loadAt_ptr]
          refine load_list hti hlen h fun k c hc => ?_
          have h2 := hs k c hc
          rw [dropL_eq, List.getElem?_drop] at h2
          obtain ⟨y, h3, h4⟩ := BlkR.cells hcs _ _ h2
          refine ⟨y, ?_, h4⟩
          rw [← h3]
          congr 2
          have e1 : Nat.add base ex = base + ex := rfl
          rw [e1]
          omega
      cases hk : lkM mem b with
      | none => simp [hk] at h
      | some k =>
        rw [hk] at hbb
        obtain ⟨x', hx', hblk⟩ := hm.blk b k hbb
        obtain rfl : x = x' := by rw [hx] at hx'; exact Option.some.inj hx'
        cases k with
        | own cs e => simp only [hk] at h; exact key cs (.inl ⟨e, hblk⟩) h
        | ro cs => simp only [hk] at h; exact key cs (.inr (.inl hblk)) h
        | pre cs e sz => simp only [hk] at h; exact key cs (.inr (.inr ⟨e, sz, hblk⟩)) h
    case prow b ks q ix ex =>
      obtain ⟨x, hx, rfl, h0, h1, hr⟩ := hp
      cases hl : takeL (dropL (cellsX (q ix.toNat) ks 0) ex) i.size with
      | none => simp [hl] at h
      | some l =>
        simp only [hl] at h
        obtain ⟨rfl, hlen⟩ := takeL_some hl
        rw [loadAt_ptr]
        refine load_list hti hlen h fun k c hc => ?_
        rw [dropL_eq, List.getElem?_take] at hc
        split at hc
        · rw [List.getElem?_drop] at hc
          obtain ⟨hlt, hrow⟩ := hm.rows b x _ hx hr
          obtain ⟨y, h3, h4⟩ := hrow ix.toNat (by omega) _ _ hc
          refine ⟨y, ?_, h4 _⟩
          rw [← h3]
          have e1 : x.off + (ix.toNat * ks.length + ex) + k = x.off + (ix.toNat * ks.length + (ex + k)) := by omega
          rw [e1]
          exact cell_of_heap (hm.below.block _ hlt)
        · cases hc
    case prowx b ks q ix base st len jx ex =>
      obtain ⟨x, hx, rfl, h0, h1, hr, h2, h3⟩ := hp
      have hn : jx.toNat < len := by omega
      cases hl : picks (dropL (cellsX (q ix.toNat) ks 0) (Nat.add base ex)) st len jx.toNat i.size with
      | none => simp only [hl] at h; cases h
      | some l =>
        simp only [hl] at h
        obtain ⟨hlen, hs⟩ := picks_spec hl hn
        rw [loadAt_ptr]
        refine load_list hti hlen h fun k c hc => ?_
        have h4 := hs k c hc
        rw [dropL_eq, List.getElem?_drop] at h4
        obtain ⟨hlt, hrow⟩ := hm.rows b x _ hx hr
        obtain ⟨y, h5, h6⟩ := hrow ix.toNat (by omega) _ _ h4
        refine ⟨y, ?_, h6 _⟩
        rw [← h5]
        have e0 : Nat.add base ex = base + ex := rfl
        have e1 : x.off + (ix.toNat * ks.length + (base + jx.toNat * st + ex)) + k = x.off + (ix.toNat * ks.length + (Nat.add base ex + (jx.toNat * st + k))) := by rw [e0]; omega
        rw [e1]
        exact cell_of_heap (hm.below.block _ hlt)
end
end Go.VE
