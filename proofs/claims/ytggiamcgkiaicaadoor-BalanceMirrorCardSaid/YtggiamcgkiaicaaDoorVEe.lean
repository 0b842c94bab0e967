/-
  THE READING MACHINE: stores, new blocks, composites, places, builtins, against the model's own.
-/
import Derived.Test.YtggiamcgkiaicaaDoorVEd
import Derived.Laws.Build
namespace Go.VE
open Go.RowKit (Below)
set_option linter.unusedSimpArgs false
set_option linter.unusedVariables false

section
variable {P : Program} {C : Ctx} {R : Type}

/-! ### Stores -/
theorem run_storeCells_at (g o : Nat) (t : TypeId) : ∀ (us : List Value) (i : Nat) (cur : Array Value) (w : World), w.heap[g]? = some (.cells cur t (0, 0)) → o + i + us.length ≤ cur.size → (∀ v ∈ us, v.oneCell' = true) →
    (storeCells ⟨g, o, none⟩ us i).run P w = .ok () (w.setRow g (cur.toList.take (o + i) ++ us ++ cur.toList.drop (o + i + us.length)).toArray)
  | [], i, cur, w, hg, hl, _ => by
    simp only [storeCells, List.append_nil, List.length_nil, Nat.add_zero, List.take_append_drop, Array.toArray_toList, Sem.run_pure]
    congr 1
    have hlt : g < w.heap.size := (Array.getElem?_eq_some_iff.1 hg).1
    have hv : w.heap[g] = .cells cur t (0, 0) := (Array.getElem?_eq_some_iff.1 hg).2
    unfold World.setRow
    cases w with
    | mk heap tape drawn os output =>
      congr 1
      apply Array.ext
      · simp
      · intro k h1 h2
        simp only [Array.getElem_modify]
        split
        · rename_i hk; subst hk; simp at hv; simp [hv]
        · rfl
  | v :: us, i, cur, w, hg, hl, hone => by
    have hlt : o + i < cur.size := by simp at hl; omega
    have hcell : w.cell? ⟨g, o + i, none⟩ = some cur[o + i] := by rw [cell_of_row w _ _ _ _ _ hg]; simp [hlt]
    have hfr : w.frozen? ⟨g, o + i, none⟩ = false := frozen_of_row w g (o + i) cur t hg
    have h1 : (store ((⟨g, o, none⟩ : Addr).add i) v).run P w = .ok () (w.setRow g (cur.setIfInBounds (o + i) v)) := by
      rw [add_none, run_store P w _ v _ (hone v (by simp)), hcell]
      simp only [hfr, Bool.false_eq_true, if_false]
      rw [setCell_eq_setRow w g (o + i) cur t (0, 0) v hg]
    have ih := run_storeCells_at g o t us (i + 1) (cur.setIfInBounds (o + i) v) (w.setRow g (cur.setIfInBounds (o + i) v)) (setRow_heap w g cur _ t (0, 0) hg) (by simp at hl ⊢; omega) (fun u hu => hone u (by simp [hu]))
    simp only [storeCells, Sem.run_bind, h1, Result.andThen_ok, ih, setRow_setRow]
    congr 2
    simp only [List.length_cons, Array.toList_setIfInBounds]
    have e1 : o + (i + 1) = o + i + 1 := by omega
    have e2 : o + i + 1 + us.length = o + i + (us.length + 1) := by omega
    rw [e1, e2]
    have e3 : (cur.toList.set (o + i) v).take (o + i + 1) = cur.toList.take (o + i) ++ [v] := by
      rw [List.take_succ_eq_append_getElem (by simpa using hlt)]
      simp [List.take_set_of_le]
    rw [e3, List.drop_set_of_lt (by omega)]
    simp

theorem storeAt_ptr (t : TypeId) (a : Addr) (v : Value) : Instr.storeAt t (.pointer (some a)) v = storeVar t a v := rfl

theorem stv_sound (hty : ∀ t i, C.ty t = some i → tyOf P t = some i) {mem : List (Nat × Blk)} {t : TypeId} {p v : AV} {b : Nat} {blk : Blk} (h : stv C mem t p v = some (b, blk)) {w0 : World} {U : Nat → Prop} {σ : Sg}
    {m : Nat → Option Blk} {w : World} (hm : RepM w0 C.G U σ m w) (hb : ∀ b, blkOf p = some b → m b = lkM mem b) {pv vv : Value} (hp : VR σ p pv) (hv : VR σ v vv) :
    ∃ w', RepM w0 C.G U σ (updM m b blk) w' ∧ (Instr.storeAt t pv vv).run P w = .ok () w' := by
  unfold stv at h
  cases ht : C.ty t with
  | none => simp [ht] at h
  | some i =>
    simp only [ht] at h
    have hti := hty t i ht
    obtain ⟨hlen, h5⟩ := bif_some h
    obtain ⟨hsc, h6⟩ := bif_some h5
    clear h h5
    have h := h6
    clear h6
    have hlen : (cellsA v).length = i.size := Nat.eq_of_beq_eq_true hlen
    have hvc := hv.cells
    have hvl : vv.cells.size = i.size := by have := hvc.length; simpa [hlen] using this
    have hone := hvc.one hsc
    -- the store at offset 'o' of block number b
    have key : ∀ (x : Ex) (o : Nat) (cs l : List AV) (e : TypeId), σ b = some x → m b = some (.own cs e) → spliceL cs o (cellsA v) = some l →
        ∃ w', RepM w0 C.G U σ (updM m b (.own l e)) w' ∧ (storeVar t ⟨x.blk, x.off + o, none⟩ vv).run P w = .ok () w' := by
      intro x o cs l e hx hmb hsp
      obtain ⟨x', hx', h0, vs, h1, h2⟩ := hm.blk b _ hmb
      obtain rfl : x = x' := by rw [hx] at hx'; exact Option.some.inj hx'
      obtain ⟨h3, h4⟩ := spliceL_some hsp h2 hvc
      have hrun := run_storeCells_at (P := P) x.blk o e vv.cells.toList 0 vs w h1 (by simpa using h4) hone
      refine ⟨_, hm.put (vs := (vs.toList.take o ++ vv.cells.toList ++ vs.toList.drop (o + vv.cells.toList.length)).toArray) hmb hx (by simpa using h3), ?_⟩
      rw [h0, Nat.zero_add]
      simp only [storeVar, Sem.run_bind, run_sizeOf' hti, Result.andThen_ok, hvl, ne_eq, not_true_eq_false, if_false]
      simpa using hrun
    cases p <;> simp only at h <;> try (cases h; done)
    case ptr b' off =>
      obtain ⟨x, hx, rfl⟩ := hp
      cases hk : lkM mem b' with
      | none => simp [hk] at h
      | some k =>
        cases k with
        | ro cs => simp [hk] at h
        | pre cs e sz => simp [hk] at h
        | own cs e =>
          simp only [hk] at h
          cases hsp : spliceL cs off (cellsA v) with
          | none => simp [hsp] at h
          | some l =>
            simp [hsp] at h
            obtain ⟨rfl, rfl⟩ := h
            rw [storeAt_ptr]
            exact key x off cs l e hx ((hb b' rfl).trans hk) hsp
    case pidx b' base st len ix ex =>
      obtain ⟨x, hx, rfl, h0, h1⟩ := hp
      cases hk : lkM mem b' with
      | none => simp [hk] at h
      | some k =>
        cases k with
        | ro cs => simp [hk] at h
        | pre cs e sz => simp [hk] at h
        | own cs e =>
          simp only [hk] at h
          cases hsp : spliceL cs (Nat.add base (Nat.add (Nat.mul ix.toNat st) ex)) (cellsA v) with
          | none => simp only [hsp] at h; cases h
          | some l =>
            simp only [hsp] at h
            have h := Option.some.inj h
            simp only [Prod.mk.injEq] at h
            obtain ⟨rfl, rfl⟩ := h
            rw [storeAt_ptr]
            have := key x _ cs l e hx ((hb b' rfl).trans hk) hsp
            have e1 : Nat.add base (Nat.add (Nat.mul ix.toNat st) ex) = base + ix.toNat * st + ex := (Nat.add_assoc base (ix.toNat * st) ex).symm
            rw [e1] at this
            exact this

/-! ### Composites -/
theorem nthF_eq : ∀ (l : List (TypeId × Nat)) (n : Nat), nthF l n = l[n]?
  | [], _ => rfl
  | _ :: _, 0 => rfl
  | _ :: r, n + 1 => by simpa [nthF] using nthF_eq r n

theorem foldl_set (off : Nat) : ∀ (us : List Value) (k : Nat) (cs : Array Value), off + k + us.length ≤ cs.size →
    ((us.zipIdx k).foldl (fun (cs : Array Value) (p : Value × Nat) => cs.setIfInBounds (off + p.2) p.1) cs).toList = cs.toList.take (off + k) ++ us ++ cs.toList.drop (off + k + us.length)
  | [], k, cs, h => by simp
  | u :: us, k, cs, h => by
    have hlt : off + k < cs.size := by simp at h; omega
    have ih := foldl_set off us (k + 1) (cs.setIfInBounds (off + k) u) (by simp at h ⊢; omega)
    simp only [List.zipIdx_cons, List.foldl_cons]
    rw [ih]
    simp only [List.length_cons, Array.toList_setIfInBounds]
    have e1 : off + (k + 1) = off + k + 1 := by omega
    have e2 : off + k + 1 + us.length = off + k + (us.length + 1) := by omega
    rw [e1, e2]
    have e3 : (cs.toList.set (off + k) u).take (off + k + 1) = cs.toList.take (off + k) ++ [u] := by
      rw [List.take_succ_eq_append_getElem (by simpa using hlt)]
      simp [List.take_set_of_le]
    rw [e3, List.drop_set_of_lt (by omega)]
    simp

def VPs (σ : Sg) : List (Nat × AV) → List (Nat × Value) → Prop
  | [], l => l = []
  | (i, a) :: r, l => ∃ v l', l = (i, v) :: l' ∧ VR σ a v ∧ VPs σ r l'

theorem fillL_sound {place pl : Nat → Option (Nat × Nat)} (hpl : ∀ i r, pl i = some r → place i = some r) {σ : Sg} : ∀ {ps : List (Nat × AV)} {qs : List (Nat × Value)} {cells out : List AV} {vs : Array Value},
    fillL pl cells ps = some out → VRs σ cells vs.toList → VPs σ ps qs → ∃ us, Instr.fill place vs qs = some us ∧ VRs σ out us.toList
  | [], qs, cells, out, vs, h, hv, hq => by
    cases hq
    simp [fillL] at h
    subst h
    exact ⟨vs, rfl, hv⟩
  | (i, a) :: ps, qs, cells, out, vs, h, hv, hq => by
    obtain ⟨v, qs', rfl, hva, hq'⟩ := hq
    simp only [fillL] at h
    cases hp : pl i with
    | none => simp [hp] at h
    | some r =>
      obtain ⟨off, size⟩ := r
      simp only [hp] at h
      obtain ⟨hl, h5⟩ := bif_some h
      clear h
      have h := h5
      clear h5
      have hl : (cellsA a).length = size := Nat.eq_of_beq_eq_true hl
      cases hs : spliceL cells off (cellsA a) with
      | none => simp [hs] at h
      | some l =>
        simp only [hs] at h
        have hvc := hva.cells
        obtain ⟨h1, h2⟩ := spliceL_some hs hv hvc
        have hsz : v.cells.size = size := by have := hvc.length; simpa [hl] using this
        have hfold := foldl_set off v.cells.toList 0 vs (by simpa using h2)
        obtain ⟨us, h3, h4⟩ := fillL_sound hpl (ps := ps) (qs := qs') (cells := l) (out := out)
          (vs := v.cells.zipIdx.foldl (fun cs (c, j) => cs.setIfInBounds (off + j) c) vs) h (by
            rw [← Array.foldl_toList]
            simp only [Array.toList_zipIdx]
            rw [hfold]
            simpa using h1) hq'
        refine ⟨us, ?_, h4⟩
        simp only [Instr.fill, hpl i _ hp]
        rw [if_neg]
        · exact h3
        · simp only [Bool.or_eq_true, decide_eq_true_eq, not_or, ne_eq, Decidable.not_not, Nat.not_lt]
          exact ⟨hsz, by simpa using h2⟩

theorem partsA_sound {env : List (Nat × Option AV)} {σ : Sg} {ρ : Operand → Value} : ∀ {ps : List (Nat × Operand)} {l : List (Nat × AV)}, (∀ q ∈ ps, ∀ v, opv C.G env q.2 = some v → VR σ v (ρ q.2)) → partsA C.G env ps = some l →
    VPs σ l (ps.map fun (i, x) => (i, ρ x))
  | [], l, _, h => by simp [partsA] at h; subst h; rfl
  | (i, x) :: ps, l, hop, h => by
    simp only [partsA] at h
    cases h1 : opv C.G env x with
    | none => simp [h1] at h
    | some v =>
      cases h2 : partsA C.G env ps with
      | none => simp [h1, h2] at h
      | some l2 =>
        simp [h1, h2] at h
        subst h
        exact ⟨_, _, rfl, hop (i, x) (by simp) v h1, partsA_sound (fun q hq => hop q (by simp [hq])) h2⟩

theorem buildA_sound (hty : ∀ t i, C.ty t = some i → tyOf P t = some i) {env : List (Nat × Option AV)} {t : TypeId} {ps : List (Nat × Operand)} {v : AV} (h : buildA C env t ps = some v) {σ : Sg} {ρ : Operand → Value}
    (hop : ∀ q ∈ ps, ∀ v, opv C.G env q.2 = some v → VR σ v (ρ q.2)) (w : World) : ∃ z, VR σ v z ∧ (Instr.build t (ps.map fun (i, x) => (i, ρ x)).toArray).run P w = .ok z w := by
  unfold buildA at h
  cases ht : C.ty t with
  | none => simp [ht] at h
  | some i =>
    simp only [ht] at h
    have hti := hty t i ht
    cases hps : partsA C.G env ps with
    | none => simp [hps] at h
    | some l =>
      simp only [hps] at h
      obtain ⟨h0, h5⟩ := bif_none_some h
      obtain ⟨hz, h6⟩ := bif_some h5
      clear h h5
      have hsz : i.size ≠ 0 := fun e => by rw [e] at h0; cases h0
      have hz : i.zero.length = i.size := Nat.eq_of_beq_eq_true hz
      have hvp := partsA_sound hop hps
      obtain ⟨d, f, hu, hi, htd, hfs, hzz⟩ := tyOf_spec hti
      have hd := tyDOf_spec htd
      obtain ⟨z, hzrun, hzm⟩ := zero_of hti hz hsz
      have hzv : VRs σ i.zero z.cells.toList := mapO_VRs hzm
      have hfz : f.zero = some z := by
        have := hzrun w
        simp only [zeroValue, typeInfo, Sem.run_bind, run_program, Result.andThen_ok, hi, Sem.run_pure] at this
        cases hq : f.zero with
        | none => simp [hq] at this
        | some z' => simp [hq] at this; rw [this]
      cases hdd : i.d <;> simp only [hdd] at h6 hd <;> try (cases h6; done)
      case array n e =>
        obtain ⟨rfl, _⟩ := hd
        cases he : C.ty e with
        | none => simp [he] at h6
        | some ei =>
          simp only [he] at h6
          obtain ⟨_, ie, _, hie, _, hes, _⟩ := tyOf_spec (hty e ei he)
          cases hf : fillL (fun j => some (Nat.mul j ei.size, ei.size)) i.zero l with
          | none => simp only [hf] at h6; cases h6
          | some out =>
            simp only [hf] at h6
            obtain rfl := Option.some.inj h6
            obtain ⟨us, h1, h2⟩ := fillL_sound (place := fun i => some (i * ei.size, ei.size)) (fun _ _ h => h) hf hzv hvp
            refine ⟨.agg us, ⟨us, rfl, h2⟩, run_build w t _ us ?_⟩
            simp only [Program.built, hi, hu, hfz, hie, hes]
            exact h1
      case struct fs =>
        obtain ⟨F, rfl, rfl, _, _, hall⟩ := hd
        split at h6
        case h_2 => cases h6
        case h_1 out hf =>
          obtain rfl := Option.some.inj h6
          -- the places of all fields
          have hpl : ∀ G : List Field, (∀ f ∈ G, (P.info? f.type).isSome = true) → ∃ pl, G.mapM (fun f => (P.info? f.type).map fun i => (f.offset, i.size)) = some pl ∧
              ∀ j r, (match nthF (G.map fun f => (f.type, f.offset)) j with
                | some (ft, off) => match C.ty ft with
                  | some fi => some (off, fi.size)
                  | none => none
                | none => none) = some r → pl[j]? = some r := by
            intro G
            induction G with
            | nil => intro _; exact ⟨[], rfl, fun j r h => by simp [nthF] at h⟩
            | cons g G ih =>
              intro hG
              obtain ⟨pl, h1, h2⟩ := ih (fun f hf => hG f (by simp [hf]))
              obtain ⟨gi, hgi⟩ := Option.isSome_iff_exists.1 (hG g (by simp))
              refine ⟨(g.offset, gi.size) :: pl, by simp [List.mapM_cons, hgi, h1], fun j r h => ?_⟩
              cases j with
              | zero =>
                simp only [List.map_cons, nthF] at h
                cases hc : C.ty g.type with
                | none => simp [hc] at h
                | some fi =>
                  simp [hc] at h
                  subst h
                  obtain ⟨_, gi', _, hgi', _, hgs, _⟩ := tyOf_spec (hty _ fi hc)
                  rw [hgi] at hgi'
                  obtain rfl := Option.some.inj hgi'
                  simp [hgs]
              | succ j => exact (by simpa using h2 j r (by simpa [nthF] using h))
          obtain ⟨pl, hp1, hp2⟩ := hpl F.toList (fun f hf => (hall f hf).2)
          obtain ⟨us, h1, h2⟩ := fillL_sound (place := fun j => pl[j]?) hp2 hf hzv hvp
          refine ⟨.agg us, ⟨us, rfl, h2⟩, run_build w t _ us ?_⟩
          simp only [Program.built, hi, hu, hfz, hp1]
          simpa using h1

theorem VRs.of_get {σ : Sg} : ∀ {a : List AV} {v : List Value}, a.length = v.length → (∀ (i : Nat) c x, a[i]? = some c → v[i]? = some x → VR σ c x) → VRs σ a v
  | [], v, hl, _ => by simp at hl; exact List.eq_nil_of_length_eq_zero hl.symm
  | _ :: _, [], hl, _ => by simp at hl
  | a :: as, v :: vs, hl, h => ⟨v, vs, rfl, h 0 a v rfl rfl, VRs.of_get (by simpa using hl) fun i c x hc hx => h (i + 1) c x (by simpa using hc) (by simpa using hx)⟩

theorem repL_length (z : List AV) : ∀ n, (repL z n).length = n * z.length
  | 0 => by simp [repL]
  | n + 1 => by simp [repL, repL_length z n, Nat.succ_mul, Nat.add_comm]

theorem repL_get (z : List AV) : ∀ (n i : Nat), i < n * z.length → (repL z n)[i]? = z[i % z.length]?
  | 0, i, h => by simp at h
  | n + 1, i, h => by
    simp only [repL, List.getElem?_append]
    split
    · rename_i hlt
      rw [Nat.mod_eq_of_lt hlt]
    · rename_i hge
      rw [repL_get z n (i - z.length) (by rw [Nat.succ_mul] at h; omega), ← Nat.mod_eq_sub_mod (by omega)]

theorem buildSlice_sound (hty : ∀ t i, C.ty t = some i → tyOf P t = some i) {env : List (Nat × Option AV)} {t e : TypeId} {i ei : TyI} {len : Nat} {ps : List (Nat × Operand)} {l : List (Nat × AV)} {cells : List AV} (ht : C.ty t = some i) (hd : i.d = .slice e) (he : C.ty e = some ei)
    (h0 : ei.size ≠ 0) (hz : ei.zero.length = ei.size) (hlen : len * ei.size ≤ 16777216) (hp : partsA C.G env ps = some l) (hf : fillL (fun j => some (j * ei.size, ei.size)) (repL ei.zero len) l = some cells) {σ : Sg} {ρ : Operand → Value}
    (hop : ∀ q ∈ ps, ∀ v, opv C.G env q.2 = some v → VR σ v (ρ q.2)) (w : World) :
    ∃ us : Array Value, VRs σ cells us.toList ∧ (Instr.buildSlice t len (ps.map fun (i, x) => (i, ρ x)).toArray).run P w = .ok (.slice (some ⟨w.heap.size, 0, none⟩) len len) (w.alloc (.cells us e (0, 0))) := by
  obtain ⟨dd, hu, hr⟩ := und_of (hty t i ht)
  rw [hd] at hr
  cases hr
  obtain ⟨z, hz1, hz2⟩ := zero_of (hty e ei he) hz h0
  have hzv : VRs σ ei.zero z.cells.toList := mapO_VRs hz2
  have hzs : z.cells.size = ei.size := by have := hzv.length; simpa [hz] using this
  have hvp := partsA_sound hop hp
  have hse := run_sizeOf' (hty e ei he)
  have hrep : VRs σ (repL ei.zero len) ((Array.range (len * ei.size)).map (fun j => z.cells[j % z.cells.size]!)).toList := by
    refine VRs.of_get (by simp [repL_length, hz]) fun j c x hc hx => ?_
    have hj : j < len * ei.size := by
      have := (List.getElem?_eq_some_iff.1 hc).1
      rw [repL_length, hz] at this
      exact this
    rw [repL_get _ _ _ (by rw [hz]; exact hj), hz] at hc
    obtain ⟨y, hy, hr⟩ := hzv.get hc
    have hlt : j % ei.size < z.cells.size := by rw [hzs]; exact Nat.mod_lt _ (by omega)
    have hlt' : j % z.cells.size < z.cells.size := by rw [hzs] at hlt ⊢; exact hlt
    simp [hj] at hx
    subst hx
    simp only [Array.getElem?_toList] at hy
    have : z.cells[j % z.cells.size]! = y := by
      rw [getElem!_pos z.cells (j % z.cells.size) hlt']
      have h2 : z.cells[j % z.cells.size]? = some y := by rw [hzs]; exact hy
      rw [Array.getElem?_eq_getElem hlt'] at h2
      exact Option.some.inj h2
    rw [this]
    exact hr
  obtain ⟨us, h1, h2⟩ := fillL_sound (place := fun i => some (i * ei.size, ei.size)) (fun _ _ h => h) hf hrep hvp
  refine ⟨us, h2, ?_⟩
  simp only [Instr.buildSlice, Sem.run_bind, run_underlying hu, Result.andThen_ok, hse, Sem.run_ite]
  rw [if_neg (by simp; omega)]
  by_cases hl0 : len * ei.size = 0
  · have hl : len = 0 := by rcases Nat.mul_eq_zero.1 hl0 with h | h <;> omega
    subst hl
    have e0 : ∀ f : Nat → Value, (Array.range 0).map f = #[] := fun f => by apply Array.ext'; simp
    simp only [Nat.zero_mul, e0] at h1 ⊢
    simp [h1, newRow, e0]
  · simp [hl0, hz1, h1, newRow]

/-! ### Places -/
theorem fieldA_sound (hty : ∀ t i, C.ty t = some i → tyOf P t = some i) {t : TypeId} {p v : AV} {f : Nat} (h : fieldA C t p f = some v) {σ : Sg} {pv : Value} (hp : VR σ p pv) (w : World) :
    ∃ z, VR σ v z ∧ (Instr.fieldAt t pv f).run P w = .ok z w := by
  unfold fieldA at h
  cases ht : C.ty t with
  | none => simp [ht] at h
  | some i =>
    simp only [ht] at h
    have hti := hty t i ht
    cases hdd : i.d <;> simp only [hdd] at h <;> try (cases h; done)
    rename_i fs
    obtain ⟨hu, hfs, _, _, _⟩ := fs_of hti hdd
    cases hn : nthF fs f with
    | none => simp [hn] at h
    | some q =>
      obtain ⟨ft, off⟩ := q
      simp only [hn] at h
      cases hc : C.ty ft with
      | none => simp [hc] at h
      | some fi =>
        simp only [hc] at h
        obtain ⟨h0, h5⟩ := bif_none_some h
        clear h
        have hsz : fi.size ≠ 0 := fun e => by rw [e] at h0; cases h0
        rw [hfs, nthF_eq] at hn
        simp only [List.getElem?_map, Array.getElem?_toList] at hn
        cases hF : (P.fieldsOf t)[f]? with
        | none => simp [hF] at hn
        | some fd =>
          simp [hF] at hn
          obtain ⟨rfl, rfl⟩ := hn
          have run : ∀ (b o : Nat), (Instr.fieldAt t (.pointer (some ⟨b, o, none⟩)) f).run P w = .ok (.pointer (some ⟨b, o + fd.offset, none⟩)) w := by
            intro b o
            simp only [Instr.fieldAt, Sem.run_bind, run_underlying hu, Result.andThen_ok, hF, Instr.sureAddr, Sem.run_pure, fieldPlace, run_sizeOf' (hty _ fi hc), hsz, if_false, add_none]
          cases p <;> simp only at h5 <;> try (cases h5; done)
          · obtain ⟨x, hx, rfl⟩ := hp
            obtain rfl := Option.some.inj h5
            exact ⟨_, ⟨x, hx, rfl⟩, by rw [run]; simp [Nat.add_assoc]⟩
          · obtain ⟨x, hx, rfl, h1, h2⟩ := hp
            obtain rfl := Option.some.inj h5
            exact ⟨_, ⟨x, hx, rfl, h1, h2⟩, by rw [run]; simp [Nat.add_assoc]⟩
          · obtain ⟨x, hx, rfl, h1, h2, h3⟩ := hp
            obtain rfl := Option.some.inj h5
            exact ⟨_, ⟨x, hx, rfl, h1, h2, h3⟩, by rw [run]; simp [Nat.add_assoc]⟩
          · obtain ⟨x, hx, rfl, h1, h2, h3, h4⟩ := hp
            obtain rfl := Option.some.inj h5
            exact ⟨_, ⟨x, hx, rfl, h1, h2, h3, h4⟩, by rw [run]; simp [Nat.add_assoc]⟩

theorem fieldV_sound (hty : ∀ t i, C.ty t = some i → tyOf P t = some i) {t : TypeId} {p v : AV} {f : Nat} (h : fieldV C t p f = some v) {σ : Sg} {pv : Value} (hp : VR σ p pv) (w : World) :
    ∃ z, VR σ v z ∧ (Instr.field t pv f).run P w = .ok z w := by
  unfold fieldV at h
  cases ht : C.ty t with
  | none => simp [ht] at h
  | some i =>
    simp only [ht] at h
    have hti := hty t i ht
    cases hdd : i.d <;> simp only [hdd] at h <;> try (cases h; done)
    rename_i fs
    obtain ⟨hu, hfs, _, _, _⟩ := fs_of hti hdd
    cases hn : nthF fs f with
    | none => simp [hn] at h
    | some q =>
      obtain ⟨ft, off⟩ := q
      simp only [hn] at h
      cases p <;> simp only at h <;> try (cases h; done)
      rename_i cs
      obtain ⟨vs, rfl, hv⟩ := hp
      rw [hfs, nthF_eq] at hn
      simp only [List.getElem?_map, Array.getElem?_toList] at hn
      cases hF : (P.fieldsOf t)[f]? with
      | none => simp [hF] at hn
      | some fd =>
        simp [hF] at hn
        obtain ⟨rfl, rfl⟩ := hn
        obtain ⟨z, h1, h2⟩ := partA_sound hty h hv w
        exact ⟨z, h1, by simp [Instr.field, run_underlying hu, hF, asAgg, h2]⟩

theorem ixAddr_sound (hty : ∀ t i, C.ty t = some i → tyOf P t = some i) {t : TypeId} {p : AV} {ix : Int} {K : AV → Option R} {r : R} (h : ixAddr C t p ix K = some r) :
    ∃ v, K v = some r ∧ ∀ σ pv k w, VR σ p pv → ∃ z, VR σ v z ∧ (Instr.indexAt t pv (.int k ix)).run P w = .ok z w := by
  unfold ixAddr at h
  cases ht : C.ty t with
  | none => simp [ht] at h
  | some i =>
    simp only [ht] at h
    obtain ⟨dd, hu, hr⟩ := und_of (hty t i ht)
    cases hdd : i.d <;> simp only [hdd] at h hr <;> try (cases h; done)
    case array n e =>
      obtain ⟨rfl, _⟩ := hr
      cases hc : C.ty e with
      | none => simp [hc] at h
      | some ei =>
        simp only [hc] at h
        have hse := run_sizeOf' (hty e ei hc)
        have run : ∀ (b o : Nat) (k : IntKind) (w : World), 0 ≤ ix → ix < (n : Int) → (Instr.indexAt t (.pointer (some ⟨b, o, none⟩)) (.int k ix)).run P w = .ok (.pointer (some ⟨b, o + ix.toNat * ei.size, none⟩)) w := by
          intro b o k w h0 h1
          simp [Instr.indexAt, asIntOf, run_underlying hu, Instr.sureAddr, h0, h1, hse, add_none]
        cases p <;> simp only at h <;> try (cases h; done)
        all_goals
          obtain ⟨h0, h5⟩ := bif_some h
          obtain ⟨h1, h6⟩ := bif_some h5
          have h0 : 0 ≤ ix := by simpa using h0
          have h1 : ix < (n : Int) := by simpa using h1
        · exact ⟨_, h6, fun σ pv k w hp => by
            obtain ⟨x, hx, rfl⟩ := hp
            exact ⟨_, ⟨x, hx, rfl, h0, h1⟩, by rw [run _ _ _ _ h0 h1]; simp [Nat.add_assoc]⟩⟩
        · exact ⟨_, h6, fun σ pv k w hp => by
            obtain ⟨x, hx, rfl, h2, h3⟩ := hp
            exact ⟨_, ⟨x, hx, rfl, h2, h3⟩, by rw [run _ _ _ _ h0 h1]; simp [Nat.add_assoc]⟩⟩
        · exact ⟨_, h6, fun σ pv k w hp => by
            obtain ⟨x, hx, rfl, h2, h3, h4⟩ := hp
            exact ⟨_, ⟨x, hx, rfl, h2, h3, h4, h0, h1⟩, by rw [run _ _ _ _ h0 h1]; simp [Nat.add_assoc]⟩⟩
        · exact ⟨_, h6, fun σ pv k w hp => by
            obtain ⟨x, hx, rfl, h2, h3, h4⟩ := hp
            exact ⟨_, ⟨x, hx, rfl, h2, h3, h4⟩, by rw [run _ _ _ _ h0 h1]; simp [Nat.add_assoc]⟩⟩
    case slice e =>
      cases hr
      cases hc : C.ty e with
      | none => simp [hc] at h
      | some ei =>
        simp only [hc] at h
        have hse := run_sizeOf' (hty e ei hc)
        have run : ∀ (b o len cap : Nat) (k : IntKind) (w : World), 0 ≤ ix → ix < (len : Int) → (Instr.indexAt t (.slice (some ⟨b, o, none⟩) len cap) (.int k ix)).run P w = .ok (.pointer (some ⟨b, o + ix.toNat * ei.size, none⟩)) w := by
          intro b o len cap k w h0 h1
          simp [Instr.indexAt, asIntOf, run_underlying hu, h0, h1, hse, add_none]
        cases p <;> simp only at h <;> try (cases h; done)
        case slice b off len =>
          obtain ⟨h0, h5⟩ := bif_some h
          obtain ⟨h1, h6⟩ := bif_some h5
          have h0 : 0 ≤ ix := by simpa using h0
          have h1 : ix < (len : Int) := by simpa using h1
          exact ⟨_, h6, fun σ pv k w hp => by
            obtain ⟨x, hx, rfl⟩ := hp
            exact ⟨_, ⟨x, hx, rfl, h0, h1⟩, by rw [run _ _ _ _ _ _ h0 h1]; simp [Nat.add_assoc]⟩⟩
        case xslice b len ks q =>
          obtain ⟨hks, h⟩ := bif_some h
          have hks : ks.length = ei.size := Nat.eq_of_beq_eq_true hks
          obtain ⟨h0, h5⟩ := bif_some h
          obtain ⟨h1, h6⟩ := bif_some h5
          have h0 : 0 ≤ ix := by simpa using h0
          have h1 : ix < (len : Int) := by simpa using h1
          exact ⟨_, h6, fun σ pv k w hp => by
            rcases hp with ⟨x, c, hx, rfl, hle, _, hr⟩ | ⟨_, rfl⟩
            · exact ⟨_, ⟨x, hx, rfl, h0, by omega, hr⟩, by rw [run _ _ _ _ _ _ h0 h1, hks]; simp⟩
            · omega⟩

theorem ixVal_sound (hty : ∀ t i, C.ty t = some i → tyOf P t = some i) {t : TypeId} {p : AV} {ix : Int} {K : AV → Option R} {r : R} (h : ixVal C t p ix K = some r) :
    ∃ v, K v = some r ∧ ∀ σ pv k w, VR σ p pv → ∃ z, VR σ v z ∧ (Instr.index t pv (.int k ix)).run P w = .ok z w := by
  unfold ixVal at h
  cases ht : C.ty t with
  | none => simp [ht] at h
  | some i =>
    simp only [ht] at h
    obtain ⟨dd, hu, hr⟩ := und_of (hty t i ht)
    cases hdd : i.d <;> simp only [hdd] at h hr <;> try (cases h; done)
    rename_i n e
    obtain ⟨rfl, _⟩ := hr
    cases hc : C.ty e with
    | none => simp [hc] at h
    | some ei =>
      simp only [hc] at h
      have hti := hty e ei hc
      have hse := run_sizeOf' hti
      cases p <;> simp only at h <;> try (cases h; done)
      rename_i cs
      obtain ⟨h0, h5⟩ := bif_some h
      obtain ⟨h1, h6⟩ := bif_some h5
      have h0 : 0 ≤ ix := by simpa using h0
      have h1 : ix < (n : Int) := by simpa using h1
      cases hpk : picks cs ei.size n ix.toNat ei.size with
      | none => simp [hpk] at h6
      | some l =>
        simp only [hpk] at h6
        cases hw : wrapAgg ei.d l with
        | none => simp [hw] at h6
        | some v =>
          simp only [hw] at h6
          obtain ⟨hlen, hs⟩ := picks_spec hpk (by omega)
          refine ⟨v, h6, fun σ pv k w hp => ?_⟩
          obtain ⟨vs, rfl, hv⟩ := hp
          -- the part's cells, as a list
          have hl : l = (cs.drop (ix.toNat * ei.size)).take ei.size := by
            apply List.ext_getElem?
            intro j
            by_cases hj : j < ei.size
            · rw [List.getElem?_take, if_pos hj, List.getElem?_drop]
              cases hlj : l[j]? with
              | none => rw [List.getElem?_eq_none_iff] at hlj; omega
              | some c => exact (hs j c hlj).symm
            · rw [List.getElem?_eq_none (by omega), List.getElem?_take, if_neg hj]
          have hpart : partA C e cs (ix.toNat * ei.size) = some v := by
            unfold partA
            simp only [hc]
            have htk : takeL (dropL cs (ix.toNat * ei.size)) ei.size = some l := by
              rw [dropL_eq, hl]
              have : ∀ (m : List AV) (q : Nat), q ≤ m.length → takeL m q = some (m.take q) := by
                intro m
                induction m with
                | nil => intro q hq; simp at hq; subst hq; simp [takeL]
                | cons a m ih =>
                  intro q hq
                  cases q with
                  | zero => simp [takeL]
                  | succ q => simp [takeL, ih q (by simpa using hq)]
              refine this _ _ ?_
              rw [hl] at hlen
              simp at hlen
              simp
              omega
            simp only [htk, hw]
          obtain ⟨z, h2, h3⟩ := partA_sound hty hpart hv w
          exact ⟨z, h2, by simp [Instr.index, asIntOf, run_underlying hu, h0, h1, hse, h3]⟩

/-! ### Builtins -/
theorem foldI_sound {f : Int → Int → Int} {g : Value → Value → Sem Value} (hg : ∀ k x y, g (.int k x) (.int k y) = pure (.int k (f x y))) {σ : Sg} {k : IntKind} : ∀ {l : List AV} {a : Int} {v : AV} {vs : List Value},
    foldI f k a l = some v → VRs σ l vs → ∃ z, VR σ v z ∧ ∀ w, (vs.foldlM g (.int k a)).run P w = .ok z w
  | [], a, v, vs, h, hv => by
    cases hv
    simp [foldI] at h
    subst h
    exact ⟨_, rfl, fun w => by simp⟩
  | x :: l, a, v, vs, h, hv => by
    obtain ⟨y, ys, rfl, hy, hys⟩ := hv
    cases x <;> simp only [foldI] at h <;> try (cases h; done)
    rename_i k' b
    obtain ⟨hk, h5⟩ := bif_some h
    obtain rfl := kcode_inj hk
    simp only [VR] at hy
    subst hy
    obtain ⟨z, h1, h2⟩ := foldI_sound hg h5 hys
    exact ⟨z, h1, fun w => by simp [List.foldlM_cons, hg, h2]⟩

theorem builtA_sound (hty : ∀ t i, C.ty t = some i → tyOf P t = some i) {b : Builtin} {ts : Array TypeId} {args : List AV} {v : AV} (h : builtA C b ts.toList args = some v) {σ : Sg} {vs : Array Value} (hv : VRs σ args vs.toList) :
    ∃ z, VR σ v z ∧ ∀ ty cs w, (builtin b ts ty cs vs).run P w = .ok (.value z) w := by
  cases b <;> simp only [builtA] at h <;> try (cases h; done)
  case len =>
    cases hts : ts.toList with
    | nil => simp [hts] at h
    | cons t ts' =>
      simp only [hts] at h
      have ht0 : ts[0]? = some t := by rw [← Array.getElem?_toList, hts]; rfl
      cases ht : C.ty t with
      | none => simp [ht] at h
      | some i =>
        simp only [ht] at h
        obtain ⟨dd, hu, hr⟩ := und_of (hty t i ht)
        cases args with
        | nil => cases hdd : i.d <;> simp [hdd] at h
        | cons x args =>
          obtain ⟨y, ys, hys, hy, _⟩ := hv
          have hv0 : vs[0]? = some y := by rw [← Array.getElem?_toList, hys]; rfl
          cases hdd : i.d <;> simp only [hdd] at h hr <;> try (cases h; done)
          case slice e =>
            cases hr
            cases x <;> simp only at h <;> try (cases h; done)
            · obtain ⟨q, _, rfl⟩ := hy
              obtain rfl := Option.some.inj h
              exact ⟨_, rfl, fun ty cs w => by simp [builtin, Builtin.len_, ht0, hv0, run_underlying hu, goInt]⟩
            · obtain rfl := Option.some.inj h
              rcases hy with ⟨q, c, _, rfl, _⟩ | ⟨rfl, rfl⟩
              · exact ⟨_, rfl, fun ty cs w => by simp [builtin, Builtin.len_, ht0, hv0, run_underlying hu, goInt]⟩
              · exact ⟨_, rfl, fun ty cs w => by simp [builtin, Builtin.len_, ht0, hv0, run_underlying hu, goInt]⟩
            · simp only [VR] at hy
              subst hy
              obtain rfl := Option.some.inj h
              exact ⟨_, rfl, fun ty cs w => by simp [builtin, Builtin.len_, ht0, hv0, run_underlying hu, goInt]⟩
          case array n e =>
            obtain ⟨rfl, _⟩ := hr
            obtain rfl := Option.some.inj h
            exact ⟨_, rfl, fun ty cs w => by simp [builtin, Builtin.len_, ht0, hv0, run_underlying hu, goInt]⟩
          case str =>
            cases hr
            cases x <;> simp only at h <;> try (cases h; done)
            simp only [VR] at hy
            subst hy
            obtain rfl := Option.some.inj h
            exact ⟨_, rfl, fun ty cs w => by simp [builtin, Builtin.len_, ht0, hv0, run_underlying hu, goInt]⟩
  case max =>
    cases args with
    | nil => cases h
    | cons x args =>
      cases x <;> simp only at h <;> try (cases h; done)
      obtain ⟨y, ys, hys, hy, hr⟩ := hv
      simp only [VR] at hy
      subst hy
      obtain ⟨z, h1, h2⟩ := foldI_sound (P := P) (g := Builtin.max2) (fun k x y => by simp [Builtin.max2, maxI]) h hr
      exact ⟨z, h1, fun ty cs w => by simp [builtin, Builtin.max_, hys, h2]⟩
  case min =>
    cases args with
    | nil => cases h
    | cons x args =>
      cases x <;> simp only at h <;> try (cases h; done)
      obtain ⟨y, ys, hys, hy, hr⟩ := hv
      simp only [VR] at hy
      subst hy
      obtain ⟨z, h1, h2⟩ := foldI_sound (P := P) (g := Builtin.min2) (fun k x y => by simp [Builtin.min2, minI]) h hr
      exact ⟨z, h1, fun ty cs w => by simp [builtin, Builtin.min_, hys, h2]⟩

/-! ### append -/
theorem BlkR.cellsOf {σ : Sg} {w : World} {x : Ex} {k : Blk} (h : BlkR σ w x k) : ∀ j c, (blkCells k)[j]? = some c → ∃ v, w.cell? ⟨x.blk, x.off + j, none⟩ = some v ∧ VR σ c v := by
  cases k with
  | own cs e => exact BlkR.cells (.inl ⟨e, h⟩)
  | ro cs => exact BlkR.cells (.inr (.inl h))
  | pre cs e sz => exact BlkR.cells (.inr (.inr ⟨e, sz, h⟩))

theorem mapO_length {α β : Type} {f : α → Option β} : ∀ {l : List α} {m : List β}, mapO f l = some m → m.length = l.length
  | [], m, h => by simp [mapO] at h; subst h; rfl
  | x :: r, m, h => by
    simp only [mapO] at h
    cases h1 : f x with
    | none => simp [h1] at h
    | some y =>
      cases h2 : mapO f r with
      | none => simp [h1, h2] at h
      | some l => simp [h1, h2] at h; subst h; simp [mapO_length h2]

theorem zero_info {t : TypeId} {i : TyI} (h : tyOf P t = some i) (hz : i.zero.length = i.size) (h0 : i.size ≠ 0) : ∃ f z, P.info? t = some f ∧ f.size = i.size ∧ f.bytes = i.bytes ∧ f.zero = some z ∧ z.cells.size = i.size := by
  obtain ⟨f, hi, hs, hzz, hb⟩ := tyOf_info h
  unfold zeroOf at hzz
  cases hfz : f.zero with
  | none => simp [hfz] at hzz; rw [hzz] at hz; simp at hz; omega
  | some z =>
    cases hm : mapO ofS z.cells.toList with
    | none => simp [hfz, hm] at hzz; rw [hzz] at hz; simp at hz; omega
    | some l =>
      simp [hfz, hm] at hzz
      have := mapO_length hm
      exact ⟨f, z, hi, hs, hb, hfz, by rw [← hz, ← hzz, this]; simp⟩

theorem scals_append : ∀ {a b : List AV}, scals a = true → scals b = true → scals (a ++ b) = true
  | [], _, _, h => h
  | x :: r, b, h, h' => by
    simp only [scals, List.cons_append] at h ⊢
    cases hx : scal x <;> simp [hx] at h ⊢
    exact scals_append h h'

theorem appA_app {mem : List (Nat × Blk)} {ts : List TypeId} {args : List AV} {act : Act1} (h : appA C mem ts args = some act) : ∃ i cs el sz n, act = .app i cs el sz n := by
  unfold appA at h
  repeat' split at h
  all_goals first
    | cases h; done
    | skip
  all_goals (try simp only [cond_eq_ite] at h)
  all_goals (repeat' split at h)
  all_goals first
    | (cases h; done)
    | exact ⟨_, _, _, _, _, (Option.some.inj h).symm⟩

theorem spliceL_len : ∀ {cs : List AV} {n : Nat} {vs l : List AV}, spliceL cs n vs = some l → l.length = cs.length
  | cs, 0, vs, l, h => by
    simp only [spliceL] at h
    have : ∀ (cs vs l : List AV), overL cs vs = some l → l.length = cs.length := by
      intro cs
      induction cs with
      | nil => intro vs l h; cases vs <;> simp [overL] at h; subst h; rfl
      | cons c cs ih =>
        intro vs l h
        cases vs with
        | nil => simp [overL] at h; subst h; rfl
        | cons v vs =>
          simp only [overL] at h
          cases ho : overL cs vs with
          | none => simp [ho] at h
          | some l' => simp [ho] at h; subst h; simp [ih _ _ ho]
    exact this _ _ _ h
  | [], n + 1, vs, l, h => by simp [spliceL] at h
  | c :: cs, n + 1, vs, l, h => by
    simp only [spliceL] at h
    cases ho : spliceL cs n vs with
    | none => simp [ho] at h
    | some l' => simp [ho] at h; subst h; simp [spliceL_len ho]

theorem fillL_len {place : Nat → Option (Nat × Nat)} : ∀ {ps : List (Nat × AV)} {cs l : List AV}, fillL place cs ps = some l → l.length = cs.length
  | [], cs, l, h => by simp [fillL] at h; subst h; rfl
  | (i, v) :: r, cs, l, h => by
    simp only [fillL] at h
    cases hp : place i with
    | none => simp [hp] at h
    | some q =>
      obtain ⟨off, size⟩ := q
      simp only [hp] at h
      obtain ⟨_, h⟩ := bif_some h
      cases hs : spliceL cs off (cellsA v) with
      | none => simp [hs] at h
      | some l' =>
        simp only [hs] at h
        rw [fillL_len h, spliceL_len hs]

theorem repL_len (l : List AV) : ∀ n, (repL l n).length = n * l.length
  | 0 => by simp [repL]
  | n + 1 => by simp [repL, repL_len l n, Nat.succ_mul, Nat.add_comm]

theorem appA_sound (hty : ∀ t i, C.ty t = some i → tyOf P t = some i) {mem : List (Nat × Blk)} {ts : Array TypeId} {args : List AV} {act : Act1} (h : appA C mem ts.toList args = some act) {w0 : World} {U : Nat → Prop} {σ : Sg} {w : World}
    {m : Nat → Option Blk} (hmem : m = lkM mem) (hm : RepM w0 C.G U σ m w) {vs : Array Value} (hv : VRs σ args vs.toList) :
    ∃ i cs el sz n, act = .app i cs el sz n ∧ ∀ ty a id, U id → ∃ z w' σ', (builtin .append ts ty a vs).run P w = .ok (.value z) w' ∧ Ext σ σ' ∧ (∀ j, j ≠ id → σ' j = σ j) ∧ VR σ' (.slice id 0 n) z ∧
      RepM w0 C.G (fun j => U j ∧ j ≠ id) σ' (updM (updM m i (.ro [])) id (.pre cs el sz)) w' := by
  subst hmem
  obtain ⟨ts⟩ := ts
  obtain ⟨vs⟩ := vs
  simp only at h hv
  match ts, args, h with
  | [t, t'], args, h =>
    simp only [appA] at h
    obtain ⟨ht', h1⟩ := bif_some h
    clear h
    obtain rfl := Nat.eq_of_beq_eq_true ht'
    have h := h1
    clear h1
    cases ht : C.ty t with
    | none => simp [ht] at h
    | some ti =>
      simp only [ht] at h
      obtain ⟨dd, hu, hr⟩ := und_of (hty t ti ht)
      cases hdd : ti.d <;> simp only [hdd] at h hr <;> try (cases h; done)
      rename_i e
      cases hr
      cases hc : C.ty e with
      | none => simp [hc] at h
      | some ei =>
        simp only [hc] at h
        match args, h, hv with
        | [.slice a o n, .slice b off mm], h, hv =>
          simp only at h
          obtain ⟨ho, h1⟩ := bif_some h
          clear h
          obtain rfl := Nat.eq_of_beq_eq_true ho
          obtain ⟨h0, h2⟩ := bif_none_some h1
          clear h1
          obtain ⟨hz, h⟩ := bif_some h2
          clear h2
          have hsz : ei.size ≠ 0 := fun e => by rw [e] at h0; cases h0
          obtain ⟨f, z, hf, hfs, hfb, hfz, hzs⟩ := zero_info (hty e ei hc) (Nat.eq_of_beq_eq_true hz) hsz
          cases ha : lkM mem a with
          | none => simp [ha] at h
          | some ka =>
            cases ka with
            | own _ _ => simp [ha] at h
            | ro _ => simp [ha] at h
            | pre cs el sz =>
              simp only [ha] at h
              obtain ⟨hel, h1⟩ := bif_some h
              clear h
              obtain ⟨hse, h2⟩ := bif_some h1
              clear h1
              obtain ⟨hcl, h⟩ := bif_some h2
              clear h2
              obtain rfl := Nat.eq_of_beq_eq_true hel
              obtain rfl := Nat.eq_of_beq_eq_true hse
              have hcl : cs.length = n * ei.size := Nat.eq_of_beq_eq_true hcl
              cases hb : lkM mem b with
              | none => simp [hb] at h
              | some k =>
                simp only [hb] at h
                cases hn : takeL (dropL (blkCells k) off) (Nat.mul mm ei.size) with
                | none => simp only [hn] at h; cases h
                | some news =>
                  simp only [hn] at h
                  obtain ⟨hsn, h1⟩ := bif_some h
                  clear h
                  obtain ⟨hle, h⟩ := bif_some h1
                  clear h1
                  have hle : (n + mm) * (ei.bytes + 1) ≤ 16777216 := Nat.le_of_ble_eq_true hle
                  obtain rfl := Option.some.inj h
                  refine ⟨_, _, _, _, _, rfl, fun ty aa id hid => ?_⟩
                  obtain ⟨v1, vr, rfl, hv1, v2, vr', rfl, hv2, hvr⟩ := hv
                  cases hvr
                  obtain ⟨x, hx, rfl⟩ := hv1
                  obtain ⟨y, hy, rfl⟩ := hv2
                  obtain ⟨x', hx', hx0, hxn, hsc, cur, hcur, hcs, hvc⟩ := hm.blk a _ ha
                  obtain rfl : x = x' := by rw [hx] at hx'; exact Option.some.inj hx'
                  obtain ⟨y', hy', hyb⟩ := hm.blk b _ hb
                  obtain rfl : y = y' := by rw [hy] at hy'; exact Option.some.inj hy'
                  obtain ⟨hnl, hnlen⟩ := takeL_some hn
                  rw [dropL_eq] at hnl
                  obtain ⟨nv, hnv1, hnv2⟩ := cells_read (σ := σ) (w := w) (b := y.blk) (o := y.off + off) (l := news) (fun k' c hk' => by
                    rw [hnl, List.getElem?_take] at hk'
                    split at hk'
                    · rw [List.getElem?_drop] at hk'
                      obtain ⟨u, h1, h2⟩ := hyb.cellsOf _ _ hk'
                      exact ⟨u, by rw [Nat.add_assoc]; exact h1, h2⟩
                    · cases hk')
                  have hnvl : nv.length = mm * ei.size := by rw [hnv1.length]; exact hnlen
                  have hlc := hvc.length
                  have hcap : n ≤ x.n := by
                    have : cs.length ≤ cur.size := by
                      have : (cur.toList.take cs.length).length ≤ cur.toList.length := by rw [List.length_take]; exact Nat.min_le_right _ _
                      rw [hlc] at this
                      simpa using this
                    rw [hcl, hcs] at this
                    exact Nat.le_of_mul_le_mul_right this (Nat.pos_of_ne_zero hsz)
                  have hb1 : (n + mm) * ei.bytes ≤ 16777216 := Nat.le_trans (Nat.mul_le_mul_left _ (Nat.le_succ _)) hle
                  have hb2 : n + mm ≤ 16777216 := Nat.le_trans (Nat.le_mul_of_pos_right _ (Nat.succ_pos _)) hle
                  have hxo : w0.heap.size ≤ x.blk := hm.own a x (by rw [ha]; trivial) hx
                  have hown : w.ownsRow w0.heap.size el ei.size (.slice (some ⟨x.blk, x.off + 0, none⟩) n x.n) n (cur.toList.take cs.length) := by
                    refine ⟨by rw [hlc, hcl], .inr ⟨x.blk, x.n, cur, by rw [hx0], hxo, hcur, hcap, hxn, hcs, by rw [hcl]⟩⟩
                  obtain ⟨v', w', hrun, hown', hgrow, hnil, hat⟩ := run_append_own_at (P := P) w w0.heap.size t ty el f z ei.size ei.bytes hu hf hfz hfs hfb hzs (Nat.pos_of_ne_zero hsz) _ n _ hown
                    ⟨y.blk, y.off + off, none⟩ mm y.n nv hnvl (fun j u hj => by rw [add_none]; exact hnv2 j u hj) (hnv1.one hsn) (by simp only [maxLen]; omega) (by omega) hm.below.size
                  obtain ⟨hl', hor⟩ := hown'
                  rcases hor with ⟨rfl, hz0⟩ | ⟨g, cap, cur', rfl, hbg, hg, hnc, hcm, hcs', htake⟩
                  · have := (hnil.1 rfl).1
                    cases this
                  · have hat' : g = x.blk ∨ g = w.heap.size := by
                      rcases hat with h1 | h1
                      · exact .inl (by simpa [Value.ownBlock] using h1)
                      · exact .inr (by simpa [Value.ownBlock] using h1)
                    have hlen2 : (cs ++ news).length = (n + mm) * ei.size := by rw [List.length_append, hcl, Nat.add_mul, hnlen]; rfl
                    have hrep := hm.app (cs' := cs ++ news) (n := n) hid ha hx (by simpa [Value.ownBlock] using hgrow) hat' hg hcm (scals_append hsc hsn) hcs' (by rw [hlen2, htake]; exact hvc.append hnv1)
                    refine ⟨_, w', _, ?_, updS_ext (hm.fresh id hid), fun j hj => by simp [updS, hj], ⟨⟨g, 0, cap, none⟩, by simp [updS], rfl⟩, hrep⟩
                    simp only [builtin, Sem.run_bind]
                    rw [show (#[Value.slice (some ⟨x.blk, x.off + 0, none⟩) n x.n, Value.slice (some ⟨y.blk, y.off + off, none⟩) mm y.n] : Array Value) = ⟨[Value.slice (some ⟨x.blk, x.off + 0, none⟩) n x.n, Value.slice (some ⟨y.blk, y.off + off, none⟩) mm y.n]⟩ from rfl] at hrun
                    rw [hrun]
                    simp
end
end Go.VE
