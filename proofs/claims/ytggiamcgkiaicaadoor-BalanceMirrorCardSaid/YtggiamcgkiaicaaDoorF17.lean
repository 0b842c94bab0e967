/-
  The walk of balance.First over the iterator: for any poses and supports in memory and a total Stable, it answers the first error or the first tick that is not stable.
-/
import Derived.Test.YtggiamcgkiaicaaDoorHC
import Derived.Test.YtggiamcgkiaicaaDoorI63
import Derived.Scope
namespace Go.Proofs
set_option linter.unusedVariables false
set_option linter.unusedSimpArgs false
open Go.RowKit Go.Shelf
attribute [local go_sem] Oper.semAt_some run_ld31_row run_st31 run_ld24_row
attribute [local go_sem ↓] ex31 exs31 ex24
set_option maxRecDepth 100000
set_option maxHeartbeats 8000000
theorem moments_in (n : Nat) (v1 v2 : Value) (h1 : v1.oneCell' = true) (h2 : v2.oneCell' = true) (w : World) :
    CallsIn Fence.wide n Tryd.prog 35 #[.agg #[v1, v2]] w fun e w' => e = .returned (.func (.func 63) #[] #[.pointer (some ⟨w.heap.size, 0, none⟩)]) ∧ w' = w.alloc (.cells #[v1, v2] 44) := by
  refine callsIn_of_wp Tryd.func35 rfl trivial ?_ rfl
  simp only [Tryd.ntmps35, List.size_toArray, List.length_cons, List.length_nil, Nat.reduceAdd, Nat.reduceSub, Array.replicate_succ, Array.replicate_zero, List.push_toArray, List.append_toArray, List.nil_append, List.cons_append]
  gi_wp2
  go_ret
  exact ⟨rfl, rfl⟩

def fstStep {N : Nat} (ok : Nat → Bool) (s : Int × Nat) (x : Ix63 N) : Int × Nat := (bif ok x.1 then s.1 else bif decide (s.1 < 0) then (s.2 : Int) else s.1, s.2 + 1)
def fst17 {N : Nat} (ok : Nat → Bool) (l : List (Ix63 N)) : Int := (l.foldl (fstStep ok) (-1, 0)).1
theorem fst17_len {N : Nat} (ok : Nat → Bool) : ∀ (l : List (Ix63 N)) (s : Int × Nat), (l.foldl (fstStep ok) s).2 = s.2 + l.length
  | [], s => by simp
  | x :: l, s => by rw [List.foldl_cons, fst17_len ok l]; simp [fstStep]; omega
theorem fst17_snoc {N : Nat} (ok : Nat → Bool) (l : List (Ix63 N)) (x : Ix63 N) : fst17 ok (l ++ [x]) = bif ok x.1 then fst17 ok l else bif decide (fst17 ok l < 0) then (l.length : Int) else fst17 ok l := by
  have := fst17_len ok l (-1, 0)
  have h2 : (l.foldl (fstStep ok) (-1, 0)).2 = l.length := by rw [this]; simp
  simp only [fst17, List.foldl_append, List.foldl_cons, List.foldl_nil, fstStep]
  rw [h2]
  rfl
/-- The first of them that is not well, or -1. -/
def fstN (ok : Nat → Bool) : Nat → Int
  | 0 => -1
  | k + 1 => bif ok k then fstN ok k else bif decide (fstN ok k < 0) then (k : Int) else fstN ok k
theorem fst17_fstN {N : Nat} (ok : Nat → Bool) : ∀ (k : Nat) (l : List (Ix63 N)), l.map Subtype.val = List.range k → fst17 ok l = fstN ok k
  | 0, l, h => by obtain rfl := List.map_eq_nil_iff.1 (show l.map Subtype.val = [] from h); rfl
  | k + 1, l, h => by
    rw [List.range_succ] at h
    obtain ⟨q, r, rfl, h1, h2⟩ := List.map_eq_append_iff.1 h
    obtain ⟨x, r', rfl, h3, h4⟩ := List.map_eq_cons_iff.1 h2
    obtain rfl := List.map_eq_nil_iff.1 h4
    have hl : q.length = k := by have := congrArg List.length h1; simpa using this
    rw [fst17_snoc, fst17_fstN ok k q h1, h3, hl]
    rfl
theorem keep_alloc {w : World} {o x : Obj} {k : Nat} (h : w.heap[k]? = some x) : (w.alloc o).heap[k]? = some x := (Below.heap_alloc _ _ _ (Array.getElem?_eq_some_iff.1 h).1).trans h
theorem blk_own {β : Type} (Bk C : Nat) (cs : Array Value) (e : TypeId) (fz : Nat × Nat) : OwnFrom C (fun (_ : β) W => W.heap[Bk]? = some (.cells cs e fz)) := fun s X Y row hs hg hr =>
  (hg.block Bk (Array.getElem?_eq_some_iff.1 hs).1 (fun h => by
    obtain ⟨_, o, ho, hc⟩ := hr Bk h.symm
    rw [hs] at ho
    cases ho
    cases hc)).trans hs
theorem size_own {β : Type} (Bk C : Nat) : OwnFrom C (fun (_ : β) W => Bk < W.heap.size) := fun s X Y row hs hg hr => Nat.lt_of_lt_of_le hs hg.size
theorem seq_cut {F : Fence} {n : Nat} {P : Program} {c d : Code} {Q : Exit → Act → World → Prop} {a : Act} {w : World} (K : Act → World → Prop) (h : c.wpIn F n P (Exit.then K Q) a w) (hK : ∀ a w, K a w → d.wpIn F n P Q a w) : (Code.seq c d).wpIn F n P Q a w :=
  wpIn_seq (wpIn_mono h (fun e a w h => by cases e <;> first | exact hK _ _ h | exact h))
def bodyQ (KN KX : World → Prop) : Exit → Act → World → Prop
  | .normal, _, w => KN w
  | .exit 0, _, w => KX w
  | _, _, _ => False
theorem heap_alloc (w : World) (o : Obj) : (w.alloc o).heap = w.heap.push o := rfl
theorem keepsOthers_below {A B : World} (h : Below A.heap.size A B) : KeepsOthers A B := ⟨h.size, fun k o hk _ => (h.block k (Array.getElem?_eq_some_iff.1 hk).1).trans hk⟩

structure D17 (pb po tb to' M : Nat) (vb : Array Value) (w : World) (ps : Nat → Array Value) (tk : Nat → Int) (ok : Nat → Bool) (er : Nat → Int) : Prop where
  hpb : pb < w.heap.size
  htb : tb < w.heap.size
  hvb : vb.size = 15
  hps : ∀ k, (ps k).size = 22
  hpo : ∀ k, ∀ u ∈ (ps k).toList, u.oneCell' = true
  hp : ∀ k, k < M + 1 → Row22 w ⟨pb, po + k * 22, none⟩ (ps k)
  ht : ∀ k, k < M → w.cell? ⟨tb, to' + k, none⟩ = some (.int .i64 (tk k))
  hS : ∀ k, k < M + 1 → ∀ W, Below w.heap.size w W → Calls Tryd.prog 13 #[.agg vb, .agg (ps k), .int .i64 (tk (min k (M - 1)))] W fun e W' => e = .returned (.tuple #[.bool (ok k), .int .i64 (er k)]) ∧ Below W.heap.size W W'

theorem loop17 (n : Nat) (hn : 6 ≤ n) (pb po cp tb to' M ct N : Nat) (hN : (N : Int) ≤ 9223372036854775807) (hNM : N = M + 1) (hM0 : 0 < M) (vb : Array Value) (w : World)
    (ps : Nat → Array Value) (tk : Nat → Int) (ok : Nat → Bool) (er : Nat → Int) (D : D17 pb po tb to' M vb w ps tk ok er) :
    CallsIn Fence.wide n Tryd.prog 17 #[.agg vb, .agg #[.slice (some ⟨pb, po, none⟩) N cp, .slice (some ⟨tb, to', none⟩) M ct]] w fun e W' => ∃ r1 r2, e = .returned (.tuple #[.int .i64 r1, .int .i64 r2]) ∧ Below w.heap.size w W' ∧
      ((∃ k, k < M + 1 ∧ er k ≠ 0 ∧ (∀ j, j < k → er j = 0) ∧ r1 = 0 ∧ r2 = er k) ∨ ((∀ k, k < M + 1 → er k = 0) ∧ r1 = fstN ok (M + 1) ∧ r2 = 0)) := by
  have h1 : 1 ≤ n := by omega
  have hw : wrap64 ((M : Int) + 1) = (N : Int) := by simp only [wrap64]; omega
  have hM1 : ¬ ((M : Int) < 1) := by omega
  have hscope : ∀ {c : Code} {Q : Exit → Act → World → Prop} {a : Act} {w : World}, c.wpIn Fence.wide n Tryd.prog (Exit.noGoto Q) a w → (Code.scope c).wpIn Fence.wide n Tryd.prog Q a w := fun h => wpIn_wide.2 (wp_scope_straight (wpIn_wide.1 h))
  refine callsIn_of_wp_marks Tryd.func17 rfl trivial ?_ rfl
  simp only [Tryd.ntmps17, List.size_toArray, List.length_cons, List.length_nil, Nat.reduceAdd, Nat.reduceSub, Array.replicate_succ, Array.replicate_zero, List.push_toArray, List.append_toArray, List.nil_append, List.cons_append]
  gi_wp2
  refine hscope ?_
  gi_wp2
  refine wpIn_label ?_
  gi_wp2_with (refine ⟨trivial, ?_⟩; gi_at_call 35; refine (moments_in (n - 1) _ _ rfl rfl _).mono ?_; rintro e w' ⟨rfl, rfl⟩)
  obtain ⟨hpb, htb, hvb, hps, hpo, hp, ht, hS⟩ := D
  obtain ⟨W0, hW0⟩ : ∃ W0, (((((w.alloc (.cells vb 24)).alloc (.cells #[.slice (some ⟨pb, po, none⟩) (M + 1) cp, .slice (some ⟨tb, to', none⟩) M ct] 44)).alloc (.cells #[.int .i64 (-1)] 3)).alloc (.cells #[.int .i64 0] 3)).alloc (.cells #[.int .i64 0] 32)).alloc (.cells #[.slice (some ⟨pb, po, none⟩) (M + 1) cp, .slice (some ⟨tb, to', none⟩) M ct] 44) = W0 := ⟨_, rfl⟩
  rw [hW0]
  have hsz : W0.heap.size = w.heap.size + 6 := by subst hW0; simp only [World.size_alloc]
  have e0 : W0.heap[w.heap.size]? = some (.cells vb 24 (0, 0)) := by
    subst hW0
    exact keep_alloc (keep_alloc (keep_alloc (keep_alloc (keep_alloc (World.alloc_heap_new w _)))))
  have e2 : Boxed W0 (w.heap.size + 1 + 1) 3 (.int .i64 (-1)) := by
    have b := (((Boxed.new ((w.alloc (.cells vb 24)).alloc (.cells #[.slice (some ⟨pb, po, none⟩) (M + 1) cp, .slice (some ⟨tb, to', none⟩) M ct] 44)) 3 (.int .i64 (-1))).alloc (.cells #[.int .i64 0] 3)).alloc (.cells #[.int .i64 0] 32)).alloc (.cells #[.slice (some ⟨pb, po, none⟩) (M + 1) cp, .slice (some ⟨tb, to', none⟩) M ct] 44)
    simp only [World.size_alloc] at b
    subst hW0
    exact b
  have e3 : Boxed W0 (w.heap.size + 1 + 1 + 1) 3 (.int .i64 0) := by
    have b := ((Boxed.new (((w.alloc (.cells vb 24)).alloc (.cells #[.slice (some ⟨pb, po, none⟩) (M + 1) cp, .slice (some ⟨tb, to', none⟩) M ct] 44)).alloc (.cells #[.int .i64 (-1)] 3)) 3 (.int .i64 0)).alloc (.cells #[.int .i64 0] 32)).alloc (.cells #[.slice (some ⟨pb, po, none⟩) (M + 1) cp, .slice (some ⟨tb, to', none⟩) M ct] 44)
    simp only [World.size_alloc] at b
    subst hW0
    exact b
  have e4 : Boxed W0 (w.heap.size + 1 + 1 + 1 + 1) 32 (.int .i64 0) := by
    have b := (Boxed.new ((((w.alloc (.cells vb 24)).alloc (.cells #[.slice (some ⟨pb, po, none⟩) (M + 1) cp, .slice (some ⟨tb, to', none⟩) M ct] 44)).alloc (.cells #[.int .i64 (-1)] 3)).alloc (.cells #[.int .i64 0] 3)) 32 (.int .i64 0)).alloc (.cells #[.slice (some ⟨pb, po, none⟩) (M + 1) cp, .slice (some ⟨tb, to', none⟩) M ct] 44)
    simp only [World.size_alloc] at b
    subst hW0
    exact b
  have e5 : W0.heap[w.heap.size + 1 + 1 + 1 + 1 + 1]? = some (.cells #[.slice (some ⟨pb, po, none⟩) (M + 1) cp, .slice (some ⟨tb, to', none⟩) M ct] 44 (0, 0)) := by
    have b := World.alloc_heap_new (((((w.alloc (.cells vb 24)).alloc (.cells #[.slice (some ⟨pb, po, none⟩) (M + 1) cp, .slice (some ⟨tb, to', none⟩) M ct] 44)).alloc (.cells #[.int .i64 (-1)] 3)).alloc (.cells #[.int .i64 0] 3)).alloc (.cells #[.int .i64 0] 32)) (.cells #[.slice (some ⟨pb, po, none⟩) (M + 1) cp, .slice (some ⟨tb, to', none⟩) M ct] 44)
    simp only [World.size_alloc] at b
    subst hW0
    exact b
  have hB0 : Below w.heap.size w W0 := by
    subst hW0
    exact ((((((Below.refl _ w).alloc (Nat.le_refl _) _).alloc (by simp only [World.size_alloc]; omega) _).alloc (by simp only [World.size_alloc]; omega) _).alloc (by simp only [World.size_alloc]; omega) _).alloc (by simp only [World.size_alloc]; omega) _).alloc (by simp only [World.size_alloc]; omega) _
  clear hW0
  have c50 : W0.cell? ⟨w.heap.size + 1 + 1 + 1 + 1 + 1, 0, none⟩ = some (.slice (some ⟨pb, po, none⟩) (M + 1) cp) := by rw [cell_of_row _ _ _ _ _ _ e5]; rfl
  have c51 : W0.cell? ⟨w.heap.size + 1 + 1 + 1 + 1 + 1, 1, none⟩ = some (.slice (some ⟨tb, to', none⟩) M ct) := by rw [cell_of_row _ _ _ _ _ _ e5]; rfl
  refine wpIn_rangeFunc_ownH rfl h1 (gf := 63) (lb := #[.pointer (some ⟨w.heap.size + 1 + 1 + 1 + 1 + 1, 0, none⟩)]) rfl trivial (enters_of Tryd.func63 (by kernel_rfl) rfl)
    (stops63 (n - 1) (by omega) (w.heap.size + 1 + 1 + 1 + 1 + 1) w.heap.size pb po (M + 1) cp tb to' M ct (by omega) (by omega) hM0 hpb htb ps tk hps hpo W0 (by omega) (by omega) c50 c51
      (fun k hk => ⟨rfl, hps k, fun j v hj => (hB0.cell (p := ⟨pb, po + k * 22 + j, none⟩) hpb).trans ((hp k hk).2.2 j v hj)⟩)
      (fun k hk => (hB0.cell (p := ⟨tb, to' + k, none⟩) htb).trans (ht k hk)))
    Keep.trans (fun W l o o' hl ho h1 h2 => ⟨belowK_b (w := W0) (by omega) W l o o' hl ho h1 h2, World.putObj_heap_other (by omega)⟩) (Below.refl _ _) (fun _ => rfl)
    (fun pre W => ((((Boxed W (w.heap.size + 1 + 1) 3 (.int .i64 (fst17 ok pre)) ∧ Boxed W (w.heap.size + 1 + 1 + 1) 3 (.int .i64 (pre.length : Int))) ∧ Boxed W (w.heap.size + 1 + 1 + 1 + 1) 32 (.int .i64 0)) ∧ W.heap[w.heap.size]? = some (.cells vb 24 (0, 0))) ∧ (∀ x ∈ pre, er x.1 = 0)) ∧ (Below w.heap.size w W ∧ w.heap.size + 1 + 1 + 1 + 1 + 1 < W.heap.size)) (fun c pre W => (c = .exit 0 ∧ ∃ q x, pre = q ++ [x] ∧ er x.1 ≠ 0 ∧ (∀ y ∈ q, er y.1 = 0) ∧ Boxed W (w.heap.size + 1 + 1 + 1 + 1) 32 (.int .i64 (er x.1))) ∧ Below w.heap.size w W)
    ?own ?ownx ?start
    (fun x a' W => ∃ (Bx : Nat) (u0 u1 u3 u4 u5 u11 u12 u13 u14 u15 u16 u17 u18 u19 u20 u21 u22 u23 u24 u25 u26 u27 u28 u29 u30 u31 u32 u33 u34 u35 u36 u37 u38 u39 u40 u41 u42 u43 u44 u45 u46 u47 u48 u49 u50 u51 u52 u53 u54 u55 : Value), w.heap.size + 1 + 1 + 1 + 1 + 1 < Bx ∧ W.heap[Bx]? = some (.cells (ps x.1) 31 (0, 0)) ∧ a' = { tmps := #[u0, u1, .pointer (some ⟨w.heap.size, 0, none⟩), u3, u4, u5, .pointer (some ⟨w.heap.size + 1 + 1, 0, none⟩), .pointer (some ⟨w.heap.size + 1 + 1 + 1, 0, none⟩), .pointer (some ⟨w.heap.size + 1 + 1 + 1 + 1, 0, none⟩), .int .i64 (tk (min x.1 (M - 1))), .pointer (some ⟨Bx, 0, none⟩), u11, u12, u13, u14, u15, u16, u17, u18, u19, u20, u21, u22, u23, u24, u25, u26, u27, u28, u29, u30, u31, u32, u33, u34, u35, u36, u37, u38, u39, u40, u41, u42, u43, u44, u45, u46, u47, u48, u49, u50, u51, u52, u53, u54, u55], defers := [] })
    ?ownax ?assign ?body ?done ?stop
  case own =>
    exact OwnFrom.and (OwnFrom.and (OwnFrom.and (OwnFrom.and (OwnFrom.and (Own.from (boxed_own _ _ (fun pre : List (Ix63 (M + 1)) => Value.int .i64 (fst17 ok pre))) _) (Own.from (boxed_own _ _ (fun pre : List (Ix63 (M + 1)) => Value.int .i64 (pre.length : Int))) _)) (Own.from (boxed_own _ _ (fun _ => Value.int .i64 0)) _)) (blk_own _ _ _ _ _)) (ownFrom_pure _ _)) (OwnFrom.and (ownFrom_below (Nat.le_refl _) (by omega)) (size_own _ _))
  case ownx =>
    intro c
    refine OwnFrom.and ?_ (ownFrom_below (Nat.le_refl _) (by omega))
    rintro s X Y row ⟨hc, q, x, h1, h2, h3, h4⟩ hg hr
    exact ⟨hc, q, x, h1, h2, h3, boxed_own (β := Unit) _ 32 (fun _ => Value.int .i64 (er x.1)) () X Y row h4 hg (fun r e => (hr r e).2)⟩
  case start => exact ⟨⟨⟨⟨⟨e2, by simpa using e3⟩, e4⟩, e0⟩, by simp⟩, hB0, by omega⟩
  case ownax =>
    rintro x a' s X Y row ⟨Bx, u0, u1, u3, u4, u5, u11, u12, u13, u14, u15, u16, u17, u18, u19, u20, u21, u22, u23, u24, u25, u26, u27, u28, u29, u30, u31, u32, u33, u34, u35, u36, u37, u38, u39, u40, u41, u42, u43, u44, u45, u46, u47, u48, u49, u50, u51, u52, u53, u54, u55, h1, h2, h3⟩ hg hr
    exact ⟨Bx, u0, u1, u3, u4, u5, u11, u12, u13, u14, u15, u16, u17, u18, u19, u20, u21, u22, u23, u24, u25, u26, u27, u28, u29, u30, u31, u32, u33, u34, u35, u36, u37, u38, u39, u40, u41, u42, u43, u44, u45, u46, u47, u48, u49, u50, u51, u52, u53, u54, u55, h1, blk_own (β := Unit) Bx W0.heap.size _ _ _ () X Y row h2 hg hr, h3⟩
  case assign =>
    rintro l pre x W K ⟨⟨⟨⟨⟨b2, b3⟩, b4⟩, hb0⟩, hall⟩, hB, hszW⟩ hK
    have hfit : Fits31 (W.alloc (.cells #[.int .i64 0, .int .i64 0, .int .i64 0, .int .i64 0, .int .i64 0, .int .i64 0, .int .i64 0, .int .i64 0, .int .i64 0, .int .i64 0, .int .i64 0, .int .i64 0, .int .i64 0, .int .i64 0, .int .i64 0, .int .i64 0, .int .i64 0, .int .i64 0, .int .i64 0, .int .i64 0, .int .i64 0, .int .i64 0] 31)) ⟨W.heap.size, 0, none⟩ (.agg (ps x.1)) := ⟨rfl, rfl, ps x.1, _, 31, rfl, hps x.1, rfl, World.alloc_heap_new W _, hpo x.1⟩
    have hset := setRow_alloc W #[.int .i64 0, .int .i64 0, .int .i64 0, .int .i64 0, .int .i64 0, .int .i64 0, .int .i64 0, .int .i64 0, .int .i64 0, .int .i64 0, .int .i64 0, .int .i64 0, .int .i64 0, .int .i64 0, .int .i64 0, .int .i64 0, .int .i64 0, .int .i64 0, .int .i64 0, .int .i64 0, .int .i64 0, .int .i64 0] (ps x.1) 31
    clear hp ht hpo hps hS
    gi_wp2
    exact hK _ _ ((KeepsOthers.alloc _ _).from _) (Keep.alloc _ hB.size hszW _) ⟨⟨⟨⟨⟨b2.alloc _, b3.alloc _⟩, b4.alloc _⟩, keep_alloc hb0⟩, hall⟩, hB.alloc hB.size _, by simp only [World.size_alloc]; omega⟩ ⟨W.heap.size, _, _, _, _, _, _, _, _, _, _, _, _, _, _, _, _, _, _, _, _, _, _, _, _, _, _, _, _, _, _, _, _, _, _, _, _, _, _, _, _, _, _, _, _, _, _, _, _, _, _, hszW, World.alloc_heap_new W _, rfl⟩
  case body =>
    rintro l pre x a' W hl ⟨r, hr⟩ ⟨⟨⟨⟨⟨b2, b3⟩, b4⟩, hb0⟩, hall⟩, hB, hszW⟩ ⟨Bx, u0, u1, u3, u4, u5, u11, u12, u13, u14, u15, u16, u17, u18, u19, u20, u21, u22, u23, u24, u25, u26, u27, u28, u29, u30, u31, u32, u33, u34, u35, u36, u37, u38, u39, u40, u41, u42, u43, u44, u45, u46, u47, u48, u49, u50, u51, u52, u53, u54, u55, hBx, hX, rfl⟩ hlen
    have hr15 : row15 W ⟨w.heap.size, 0, none⟩ = some vb := Row15.row ⟨rfl, hvb, fun j v hj => by rw [cell_of_row _ _ _ _ _ _ hb0, Nat.zero_add]; exact hj⟩
    have hr22 : row22 W ⟨Bx, 0, none⟩ = some (ps x.1) := Row22.row ⟨rfl, hps x.1, fun j v hj => by rw [cell_of_row _ _ _ _ _ _ hX, Nat.zero_add]; exact hj⟩
    have hbox : ∀ w' (hb : Below W.heap.size W w') {B t v}, Boxed W B t v → Boxed w' B t v := fun w' hb {B t v} h => (hb.block B h.lt).trans h
    have hcall : Calls Tryd.prog 13 #[.agg vb, .agg (ps x.1), .int .i64 (tk (min x.1 (M - 1)))] W fun e W' => e = .returned (.tuple #[.bool (ok x.1), .int .i64 (er x.1)]) ∧ Below W.heap.size W W' ∧
        W'.cell? ⟨w.heap.size + 1 + 1, 0, none⟩ = some (.int .i64 (fst17 ok pre)) ∧ W'.frozen? ⟨w.heap.size + 1 + 1, 0, none⟩ = false ∧ W'.cell? ⟨w.heap.size + 1 + 1 + 1, 0, none⟩ = some (.int .i64 (pre.length : Int)) ∧ W'.frozen? ⟨w.heap.size + 1 + 1 + 1, 0, none⟩ = false ∧ W'.cell? ⟨w.heap.size + 1 + 1 + 1 + 1, 0, none⟩ = some (.int .i64 0) ∧ W'.frozen? ⟨w.heap.size + 1 + 1 + 1 + 1, 0, none⟩ = false :=
      (hS x.1 x.2 W hB).mono (by
        rintro e w' ⟨rfl, hb⟩
        exact ⟨rfl, hb, (hbox w' hb b2).cell, (hbox w' hb b2).frozen, (hbox w' hb b3).cell, (hbox w' hb b3).frozen, (hbox w' hb b4).cell, (hbox w' hb b4).frozen⟩)
    have hlen1 : wrap64 ((pre.length : Int) + 1) = (pre.length : Int) + 1 := by simp only [wrap64]; omega
    clear hp ht hpo hps hS
    have h1' : 1 ≤ n - 1 - 1 := by omega
    obtain ⟨KN, hKN⟩ : ∃ KN : World → Prop, KN = fun W' => ownPostG W0.heap.size (Keep w.heap.size (w.heap.size + 1 + 1 + 1 + 1 + 1)) (fun pre W => ((((Boxed W (w.heap.size + 1 + 1) 3 (.int .i64 (fst17 ok pre)) ∧ Boxed W (w.heap.size + 1 + 1 + 1) 3 (.int .i64 (pre.length : Int))) ∧ Boxed W (w.heap.size + 1 + 1 + 1 + 1) 32 (.int .i64 0)) ∧ W.heap[w.heap.size]? = some (.cells vb 24 (0, 0))) ∧ (∀ x ∈ pre, er x.1 = 0)) ∧ (Below w.heap.size w W ∧ w.heap.size + 1 + 1 + 1 + 1 + 1 < W.heap.size)) (fun c pre W => (c = .exit 0 ∧ ∃ q x, pre = q ++ [x] ∧ er x.1 ≠ 0 ∧ (∀ y ∈ q, er y.1 = 0) ∧ Boxed W (w.heap.size + 1 + 1 + 1 + 1) 32 (.int .i64 (er x.1))) ∧ Below w.heap.size w W) (pre ++ [x]) W .normal { tmps := #[], defers := [] } W' := ⟨_, rfl⟩
    obtain ⟨KX, hKX⟩ : ∃ KX : World → Prop, KX = fun W' => ownPostG W0.heap.size (Keep w.heap.size (w.heap.size + 1 + 1 + 1 + 1 + 1)) (fun pre W => ((((Boxed W (w.heap.size + 1 + 1) 3 (.int .i64 (fst17 ok pre)) ∧ Boxed W (w.heap.size + 1 + 1 + 1) 3 (.int .i64 (pre.length : Int))) ∧ Boxed W (w.heap.size + 1 + 1 + 1 + 1) 32 (.int .i64 0)) ∧ W.heap[w.heap.size]? = some (.cells vb 24 (0, 0))) ∧ (∀ x ∈ pre, er x.1 = 0)) ∧ (Below w.heap.size w W ∧ w.heap.size + 1 + 1 + 1 + 1 + 1 < W.heap.size)) (fun c pre W => (c = .exit 0 ∧ ∃ q x, pre = q ++ [x] ∧ er x.1 ≠ 0 ∧ (∀ y ∈ q, er y.1 = 0) ∧ Boxed W (w.heap.size + 1 + 1 + 1 + 1) 32 (.int .i64 (er x.1))) ∧ Below w.heap.size w W) (pre ++ [x]) W (.exit 0) { tmps := #[], defers := [] } W' := ⟨_, rfl⟩
    refine wpIn_mono (Q := bodyQ KN KX) ?_ (by
      subst hKN hKX
      intro e a w h
      match e, h with
      | .normal, h => exact h
      | .exit 0, h => exact h)
    have hsc : ∀ (w' : World), Below W.heap.size W w' → Below w.heap.size w w' := fun w' hb => hB.trans (hb.mono hB.size)
    have hN1 : ∀ w', Below W.heap.size W w' → er x.1 = 0 → KN ((bif ok x.1 then w' else bif decide (fst17 ok pre < 0) then w'.setCell ⟨w.heap.size + 1 + 1, 0, none⟩ (.int .i64 (pre.length : Int)) else w').setCell ⟨w.heap.size + 1 + 1 + 1, 0, none⟩ (.int .i64 ((pre.length : Int) + 1))) := by
      intro w' hbw her
      have hV : ∃ V, V = (bif ok x.1 then w' else bif decide (fst17 ok pre < 0) then w'.setCell ⟨w.heap.size + 1 + 1, 0, none⟩ (.int .i64 (pre.length : Int)) else w') ∧ KeepsOthers w' V ∧ Below w.heap.size w' V ∧ (∀ k, k ≠ (w.heap.size + 1 + 1) → V.heap[k]? = w'.heap[k]?) ∧ Boxed V (w.heap.size + 1 + 1) 3 (.int .i64 (fst17 ok (pre ++ [x]))) := by
        refine ⟨_, rfl, ?_⟩
        rw [fst17_snoc]
        cases ok x.1
        · cases decide (fst17 ok pre < 0)
          · exact ⟨KeepsOthers.refl _, Below.refl _ _, fun _ _ => rfl, hbox w' hbw b2⟩
          · exact ⟨KeepsOthers.setCell _ _ _, (Below.refl _ _).setCell (p := ⟨w.heap.size + 1 + 1, 0, none⟩) (by simp only []; omega) _, fun k hk => Below.heap_setCell _ _ _ _ hk, (hbox w' hbw b2).set _⟩
        · exact ⟨KeepsOthers.refl _, Below.refl _ _, fun _ _ => rfl, hbox w' hbw b2⟩
      obtain ⟨V, hVe, v1, v2, v3, v4⟩ := hV
      rw [← hVe]
      subst hKN
      clear hVe hcall
      have hk : ∀ k, k ≠ (w.heap.size + 1 + 1) → k ≠ (w.heap.size + 1 + 1 + 1) → k < W.heap.size → (V.setCell ⟨w.heap.size + 1 + 1 + 1, 0, none⟩ (.int .i64 ((pre.length : Int) + 1))).heap[k]? = W.heap[k]? := fun k h2 h3 hlt => (Below.heap_setCell _ _ _ _ h3).trans ((v3 k h2).trans (hbw.block k hlt))
      have hB2 : Below w.heap.size W (V.setCell ⟨w.heap.size + 1 + 1 + 1, 0, none⟩ (.int .i64 ((pre.length : Int) + 1))) := ((hbw.mono hB.size).trans v2).setCell (p := ⟨w.heap.size + 1 + 1 + 1, 0, none⟩) (by simp only []; omega) _
      have hb3 : Boxed V (w.heap.size + 1 + 1 + 1) 3 (.int .i64 (pre.length : Int)) := (v3 _ (by omega)).trans (hbox w' hbw b3)
      refine ⟨(((keepsOthers_below hbw).trans v1).trans (KeepsOthers.setCell _ _ _)).from _, ⟨hB2, hk _ (by omega) (by omega) (by omega)⟩, ⟨⟨⟨⟨v4.other (by omega) _, ?_⟩, (hk _ (by omega) (by omega) (by omega)).trans b4⟩, (hk _ (by omega) (by omega) (by omega)).trans hb0⟩, ?_⟩, hB.trans hB2, ?_⟩
      · have := hb3.set (.int .i64 ((pre.length : Int) + 1))
        simpa using this
      · intro y hy
        rcases List.mem_append.1 hy with h | h
        · exact hall y h
        · obtain rfl := List.mem_singleton.1 h
          exact her
      · exact Nat.lt_of_lt_of_le hszW hB2.size
    have hX1 : ∀ w', Below W.heap.size W w' → er x.1 ≠ 0 → KX (w'.setCell ⟨w.heap.size + 1 + 1 + 1 + 1, 0, none⟩ (.int .i64 (er x.1))) := by
      intro w' hbw her
      subst hKX
      clear hcall
      exact ⟨((keepsOthers_below hbw).trans (KeepsOthers.setCell _ _ _)).from _, ⟨rfl, pre, x, rfl, her, hall, (hbox w' hbw b4).set _⟩, hB.trans ((hbw.mono hB.size).setCell (p := ⟨w.heap.size + 1 + 1 + 1 + 1, 0, none⟩) (by simp only []; omega) _)⟩
    clear hsc
    clear hKN hKX hb0 hall hX hB
    refine wpIn_block ?_
    refine seq_cut (fun a w' => ∃ u0 u1 u2 u3 u4 u5 u9 u10 u13 u14 u15 u16 u17 u18 u19 u20 u21 u22 u23 u24 u25 u26 u27 u28 u29 u30 u31 u32 u33 u34 u35 u36 u37 u38 u39 u40 u41 u42 u43 u44 u45 u46 u47 u48 u49 u50 u51 u52 u53 u54 u55 : Value, a = { tmps := #[u0, u1, u2, u3, u4, u5, .pointer (some ⟨w.heap.size + 1 + 1, 0, none⟩), .pointer (some ⟨w.heap.size + 1 + 1 + 1, 0, none⟩), .pointer (some ⟨w.heap.size + 1 + 1 + 1 + 1, 0, none⟩), u9, u10, .bool (ok x.1), .int .i64 (er x.1), u13, u14, u15, u16, u17, u18, u19, u20, u21, u22, u23, u24, u25, u26, u27, u28, u29, u30, u31, u32, u33, u34, u35, u36, u37, u38, u39, u40, u41, u42, u43, u44, u45, u46, u47, u48, u49, u50, u51, u52, u53, u54, u55], defers := [] } ∧ Below W.heap.size W w' ∧ w'.cell? ⟨w.heap.size + 1 + 1, 0, none⟩ = some (.int .i64 (fst17 ok pre)) ∧ w'.frozen? ⟨w.heap.size + 1 + 1, 0, none⟩ = false ∧ w'.cell? ⟨w.heap.size + 1 + 1 + 1, 0, none⟩ = some (.int .i64 (pre.length : Int)) ∧ w'.frozen? ⟨w.heap.size + 1 + 1 + 1, 0, none⟩ = false ∧ w'.cell? ⟨w.heap.size + 1 + 1 + 1 + 1, 0, none⟩ = some (.int .i64 0) ∧ w'.frozen? ⟨w.heap.size + 1 + 1 + 1 + 1, 0, none⟩ = false) ?call ?rest
    case call =>
      clear hN1 hX1
      gi_wp2_with (refine ⟨trivial, ?_⟩; gi_at_call 13; refine (CallsIn.inRound l (callsIn_wide.2 hcall)).mono ?_; rintro e w' ⟨rfl, hbw, k2, f2, k3, f3, k4, f4⟩)
      exact ⟨_, _, _, _, _, _, _, _, _, _, _, _, _, _, _, _, _, _, _, _, _, _, _, _, _, _, _, _, _, _, _, _, _, _, _, _, _, _, _, _, _, _, _, _, _, _, _, _, _, _, _, rfl, hbw, k2, f2, k3, f3, k4, f4⟩
    case rest =>
      rintro a w' ⟨u0, u1, u2, u3, u4, u5, u9, u10, u13, u14, u15, u16, u17, u18, u19, u20, u21, u22, u23, u24, u25, u26, u27, u28, u29, u30, u31, u32, u33, u34, u35, u36, u37, u38, u39, u40, u41, u42, u43, u44, u45, u46, u47, u48, u49, u50, u51, u52, u53, u54, u55, rfl, hbw, k2, f2, k3, f3, k4, f4⟩
      have hN2 := hN1 w' hbw
      have hX2 := hX1 w' hbw
      clear hN1 hX1 hcall hr15 hr22 hbox b2 b3 b4 hbw
      have hd23 : (w.heap.size + 1 + 1) ≠ (w.heap.size + 1 + 1 + 1) := by omega
      have hd32 : (w.heap.size + 1 + 1 + 1) ≠ (w.heap.size + 1 + 1) := by omega
      generalize (w.heap.size + 1 + 1) = p2 at *
      generalize (w.heap.size + 1 + 1 + 1) = p3 at *
      generalize (w.heap.size + 1 + 1 + 1 + 1) = p4 at *
      generalize er x.1 = e1 at *
      generalize ok x.1 = o1 at *
      generalize fst17 ok pre = fs at *
      generalize (pre.length : Int) = pl at *
      dsimp only
      clear hlen e0 e2 e3 e4 e5 c50 c51 hszW hB0 hsz hBx hvb hl hr
      by_cases her : e1 = 0
      · subst her
        have hN3 := hN2 rfl
        clear hN2 hX2
        cases o1
        · by_cases hf : fs < 0
          · simp only [hf, decide_true, cond_true, cond_false] at hN3
            gi_wp2
            exact hN3
          · simp only [hf, decide_false, cond_false] at hN3
            gi_wp2
            exact hN3
        · simp only [cond_true] at hN3
          gi_wp2
          exact hN3
      · have hX3 := hX2 her
        clear hN2 hX2
        gi_wp2
        exact hX3
  case done =>
    rintro D xs W hD hxs ⟨⟨⟨⟨⟨b2, b3⟩, b4⟩, hb0⟩, hall⟩, hB, hszW⟩ hDf
    have c2 := b2.cell
    have c4 := b4.cell
    clear hp ht hpo hps hS
    gi_wp2
    refine ⟨by simp, .inl ⟨_, _, rfl, run_takeDeferred hDf, ?_⟩⟩
    refine ⟨_, results_tmp2 rfl _ _ _, _, _, rfl, hB.trans (belowK_b (w := w) (Nat.le_refl _) W D _ _ (by omega) hDf rfl rfl), .inr ⟨fun k hk => ?_, fst17_fstN ok _ _ hxs, rfl⟩⟩
    have hm : k ∈ xs.map Subtype.val := by rw [hxs]; exact List.mem_range.2 hk
    obtain ⟨y, hy, rfl⟩ := List.mem_map.1 hm
    exact hall y hy
  case stop =>
    rintro D c pre W hD ⟨k, hk, hpk⟩ ⟨⟨rfl, q, x, hq, her, hall, b4⟩, hB⟩ hDf
    have c4 := b4.cell
    have hmx : Tryd.prog.follows .mixedOrders = true := by kernel_rfl
    clear hp ht hpo hps hS
    gi_wp2
    gi_region_o
    all_goals gi_wp2
    have hDf2 : W.drew.heap[D]? = some (.deferred (some [])) := hDf
    refine ⟨by simp, .inl ⟨_, _, rfl, run_takeDeferred hDf2, ?_⟩⟩
    refine ⟨_, results_tmp2 rfl _ _ _, _, _, rfl, (hB.trans ((Below.refl _ _).drew)).trans (belowK_b (w := w) (Nat.le_refl _) W.drew D _ _ (by omega) hDf2 rfl rfl), .inl ⟨x.1, x.2, her, fun j hj => ?_, rfl, rfl⟩⟩
    rw [hq, List.map_append, List.range_succ] at hpk
    obtain ⟨h3, h4⟩ := List.append_inj' hpk rfl
    obtain h5 : x.1 = k := by simpa using h4
    have hm : j ∈ q.map Subtype.val := by rw [h3]; exact List.mem_range.2 (by omega)
    obtain ⟨y, hy, rfl⟩ := List.mem_map.1 hm
    exact hall y hy
#print axioms loop17
end Go.Proofs
