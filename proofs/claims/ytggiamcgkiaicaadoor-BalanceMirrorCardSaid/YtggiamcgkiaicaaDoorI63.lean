/-
  The contract of the iterator of moments: for any slices that lie in memory it yields one pose after the other, until it is stopped.
-/
import Derived.Test.YtggiamcgkiaicaaDoorR3M
namespace Go.Proofs
set_option linter.unusedVariables false
set_option linter.unusedSimpArgs false
open Go.RowKit Go.Shelf
attribute [local go_sem] Oper.semAt_some run_ld31_row run_st31
attribute [local go_sem ↓] ex31 exs31
set_option maxRecDepth 100000
set_option maxHeartbeats 8000000
/-- What a round that goes on keeps: what lay below n₀, and the iterator's box. -/
def Keep (n₀ Bm : Nat) (A B : World) : Prop := Below n₀ A B ∧ B.heap[Bm]? = A.heap[Bm]?
theorem Keep.refl (n₀ Bm : Nat) (A : World) : Keep n₀ Bm A A := ⟨Below.refl _ _, rfl⟩
theorem Keep.trans {n₀ Bm : Nat} {A B C : World} (h : Keep n₀ Bm A B) (k : Keep n₀ Bm B C) : Keep n₀ Bm A C := ⟨h.1.trans k.1, k.2.trans h.2⟩
theorem Keep.box {n₀ Bm : Nat} {A B : World} (h : Keep n₀ Bm A B) (o : Nat) {v : Value} (hv : A.cell? ⟨Bm, o, none⟩ = some v) : B.cell? ⟨Bm, o, none⟩ = some v := (World.cell?_of_block (a := ⟨Bm, o, none⟩) h.2).trans hv
theorem Keep.alloc {n₀ Bm : Nat} (A : World) (hn : n₀ ≤ A.heap.size) (hB : Bm < A.heap.size) (o : Obj) : Keep n₀ Bm A (A.alloc o) := ⟨(Below.refl _ _).alloc hn _, Below.heap_alloc _ _ _ hB⟩
theorem Keep.drew {n₀ Bm : Nat} (A : World) : Keep n₀ Bm A A.drew := ⟨(Below.refl _ _).drew, rfl⟩
theorem iter63 (n : Nat) (hn : 1 ≤ n) (l Bm n₀ pb po N cp tb to' M ct : Nat) (hN : (N : Int) ≤ 9223372036854775807) (hM : (M : Int) ≤ 9223372036854775807) (hM0 : 0 < M) (hpb : pb < n₀) (htb : tb < n₀) 
    (ps : Nat → Array Value) (tk : Nat → Int) (J Jx : Nat → World → Prop)
    (hA : ∀ k W B, J k W → J k (W.alloc B)) (hD : ∀ k W, J k W → J k W.drew)
    (hps : ∀ k, (ps k).size = 22) (hpo : ∀ k, ∀ u ∈ (ps k).toList, u.oneCell' = true)
    (hY : ∀ k W, k < N → J k W → YieldAt Fence.wide (n - 1) Tryd.prog l #[.int .i64 (tk (min k (M - 1))), .agg (ps k)] W fun e W' =>
      (e = .returned (.bool true) ∧ J (k + 1) W' ∧ Keep n₀ Bm W W') ∨ (e = .returned (.bool false) ∧ Jx (k + 1) W'))
    (W : World) (hn0 : n₀ ≤ W.heap.size) (hBm : Bm < W.heap.size) (hc0 : W.cell? ⟨Bm, 0, none⟩ = some (.slice (some ⟨pb, po, none⟩) N cp)) (hc1 : W.cell? ⟨Bm, 1, none⟩ = some (.slice (some ⟨tb, to', none⟩) M ct))
    (hp : ∀ k, k < N → Row22 W ⟨pb, po + k * 22, none⟩ (ps k))
    (ht : ∀ k, k < M → W.cell? ⟨tb, to' + k, none⟩ = some (.int .i64 (tk k))) (h0 : J 0 W) :
    CallsIn Fence.wide n Tryd.prog 63 #[.func (.yield l) #[] #[], .pointer (some ⟨Bm, 0, none⟩)] W fun e W' => (∃ v, e = .returned v) ∧ (J N W' ∨ ∃ k, k < N ∧ Jx (k + 1) W') := by
  refine callsIn_of_wp Tryd.func63 rfl trivial ?_ rfl
  simp only [Tryd.ntmps63, List.size_toArray, List.length_cons, List.length_nil, Nat.reduceAdd, Nat.reduceSub, Array.replicate_succ, Array.replicate_zero, List.push_toArray, List.append_toArray, List.nil_append, List.cons_append]
  gi_wp2
  gi_loopw [8] (fun i wr => ∃ k : Nat, k ≤ N ∧ i = .int .i64 k ∧ J k wr ∧ Keep n₀ Bm W wr)
    (fun i _ => N - (intOf i).toNat)
  case atStart => exact ⟨0, Nat.zero_le _, rfl, h0, Keep.refl _ _ _⟩
  case round =>
    obtain ⟨k, hk, rfl, hJs, hnx⟩ := hrel
    by_cases hlt : k < N
    · have hrow0 : Row22 wr ⟨pb, po + k * 22, none⟩ (ps k) := ⟨rfl, hps k, fun j v hj => (hnx.1.cell (p := ⟨pb, po + k * 22 + j, none⟩) hpb).trans ((hp k hlt).2.2 j v hj)⟩
      have hrow := hrow0.row
      have hfit : Fits31 (wr.alloc (.cells #[.int .i64 0, .int .i64 0, .int .i64 0, .int .i64 0, .int .i64 0, .int .i64 0, .int .i64 0, .int .i64 0, .int .i64 0, .int .i64 0, .int .i64 0, .int .i64 0, .int .i64 0, .int .i64 0, .int .i64 0, .int .i64 0, .int .i64 0, .int .i64 0, .int .i64 0, .int .i64 0, .int .i64 0, .int .i64 0] 31)) ⟨wr.heap.size, 0, none⟩ (.agg (ps k)) := ⟨rfl, rfl, ps k, _, 31, rfl, hps k, rfl, World.alloc_heap_new wr _, hpo k⟩
      have hset := setRow_alloc wr #[.int .i64 0, .int .i64 0, .int .i64 0, .int .i64 0, .int .i64 0, .int .i64 0, .int .i64 0, .int .i64 0, .int .i64 0, .int .i64 0, .int .i64 0, .int .i64 0, .int .i64 0, .int .i64 0, .int .i64 0, .int .i64 0, .int .i64 0, .int .i64 0, .int .i64 0, .int .i64 0, .int .i64 0, .int .i64 0] (ps k) 31
      gi_wp2
      have hsz : n₀ ≤ wr.heap.size := Nat.le_trans hn0 hnx.1.size
      have hb2 : Keep n₀ Bm wr (wr.alloc (.cells (ps k) 31)) := Keep.alloc _ hsz (Nat.lt_of_lt_of_le hBm hnx.1.size) _
      have hnx2 := hnx.trans hb2
      have hJ2 : J k (wr.alloc (.cells (ps k) 31)).drew := hD _ _ (hA _ _ _ hJs)
      have hY2 := hY k _ hlt hJ2
      have hmi : (k : Int) ≤ (M : Int) - 1 ∧ min k (M - 1) = k ∨ (M : Int) - 1 < (k : Int) ∧ min k (M - 1) = M - 1 := by omega
      have hmlt : min k (M - 1) < M := by omega
      have hrow2 : Row22 (wr.alloc (.cells (ps k) 31)).drew ⟨wr.heap.size, 0, none⟩ (ps k) := ⟨rfl, hps k, fun j v hj => by
        rw [World.cell?_drew, cell_of_row _ _ _ _ _ _ (World.alloc_heap_new wr _), Nat.zero_add]
        exact hj⟩
      clear hset hfit
      rename_i K1 h1 K2 h2
      refine wpIn_mono (reg3 n hn l Bm wr.heap.size tb to' M ct k (min k (M - 1)) hM hM0 hmi (ps k) (tk (min k (M - 1))) (fun W' => J (k + 1) W' ∧ Keep n₀ Bm (wr.alloc (.cells (ps k) 31)).drew W') (Jx (k + 1)) (wr.alloc (.cells (ps k) 31))
        ((World.cell?_drew _ _).trans (hnx2.box 1 hc1)) ((World.cell?_drew _ _).trans ((hnx2.1.cell (p := ⟨tb, to' + min k (M - 1), none⟩) htb).trans (ht _ hmlt))) hrow2.row hY2 K2 _ undef undef _ _ _ _ _ _ _ _ _ _ _ _ _ _ _ _ _ _ _ _ _ _ _ ?_) ?_
      · intro b v13 v14 v15 v16 v17 v18 v19 v20 v21 v22 v23 v24 v25 W3 hj
        rcases hj with ⟨rfl, hJ3, hk3⟩ | ⟨rfl, hJx3⟩
        · gi_wp2
          go_roundw
          case rel => exact ⟨k + 1, by omega, by simp, hJ3, (hnx2.trans (Keep.drew _)).trans hk3⟩
          case measure => simp [intOf]; omega
        · gi_wp2
          refine bodyPost_ret (results_none rfl _ _ _) rfl ?_
          exact ⟨⟨_, rfl⟩, .inr ⟨k, hlt, hJx3⟩⟩
      · intro e a w h
        cases e with
        | normal => exact h
        | _ => exact h.elim
    · obtain rfl : k = N := by omega
      gi_wp2
      go_end0
      exact ⟨⟨_, rfl⟩, .inl hJs⟩

abbrev Ix63 (N : Nat) := { k : Nat // k < N }
theorem stops63 (n : Nat) (hn : 1 ≤ n) (Bm n₀ pb po N cp tb to' M ct : Nat) (hN : (N : Int) ≤ 9223372036854775807) (hM : (M : Int) ≤ 9223372036854775807) (hM0 : 0 < M) (hpb : pb < n₀) (htb : tb < n₀)
    (ps : Nat → Array Value) (tk : Nat → Int) (hps : ∀ k, (ps k).size = 22) (hpo : ∀ k, ∀ u ∈ (ps k).toList, u.oneCell' = true)
    (w : World) (hn0 : n₀ ≤ w.heap.size) (hBm : Bm < w.heap.size) (hc0 : w.cell? ⟨Bm, 0, none⟩ = some (.slice (some ⟨pb, po, none⟩) N cp)) (hc1 : w.cell? ⟨Bm, 1, none⟩ = some (.slice (some ⟨tb, to', none⟩) M ct))
    (hp : ∀ k, k < N → Row22 w ⟨pb, po + k * 22, none⟩ (ps k)) (ht : ∀ k, k < M → w.cell? ⟨tb, to' + k, none⟩ = some (.int .i64 (tk k))) :
    SeqStopsK Fence.wide n Tryd.prog 63 #[.pointer (some ⟨Bm, 0, none⟩)] (fun x : Ix63 N => #[.int .i64 (tk (min x.1 (M - 1))), .agg (ps x.1)]) (Keep n₀ Bm) (fun xs => xs.map Subtype.val = List.range N) (fun pre => ∃ k, k < N ∧ pre.map Subtype.val = List.range (k + 1)) N w := fun l J Jx W hW hJ hJx hY h0 => by
  have hs : ∀ k (hk : k < N) (pre : List (Ix63 N)), pre.map Subtype.val = List.range k → (pre ++ [(⟨k, hk⟩ : Ix63 N)]).map Subtype.val = List.range (k + 1) := fun k hk pre h => by rw [List.map_append, h, List.range_succ]; rfl
  refine (iter63 n hn l Bm n₀ pb po N cp tb to' M ct hN hM hM0 hpb htb ps tk (fun k W => ∃ pre : List (Ix63 N), pre.map Subtype.val = List.range k ∧ J pre W) (fun k W => ∃ pre : List (Ix63 N), pre.map Subtype.val = List.range k ∧ Jx pre W)
    ?_ ?_ hps hpo ?_ W (Nat.le_trans hn0 hW.size) (Nat.lt_of_lt_of_le hBm hW.size) ((World.cell?_of_block (a := ⟨Bm, 0, none⟩) (hW.block _ hBm)).trans hc0) ((World.cell?_of_block (a := ⟨Bm, 1, none⟩) (hW.block _ hBm)).trans hc1) ?_ ?_ ⟨[], rfl, h0⟩).mono ?_
  · rintro k W B ⟨pre, h1, h2⟩
    exact ⟨pre, h1, hJ pre W _ none h2 (World.grownBy_alloc W B none) (fun r e => by cases e)⟩
  · rintro k W ⟨pre, h1, h2⟩
    exact ⟨pre, h1, hJ pre W _ none h2 ⟨rfl, rfl, rfl, Nat.le_refl _, fun _ _ _ => rfl⟩ (fun r e => by cases e)⟩
  · rintro k W' hk ⟨pre, h1, h2⟩
    have := hY pre ⟨k, hk⟩ W' h2 (by have := congrArg List.length h1; simp at this; omega)
    obtain ⟨fn, tmps, assign, body, hy, hR⟩ := this
    refine ⟨fn, tmps, assign, body, hy, hR.mono ?_⟩
    rintro e W3 (⟨rfl, h3, h4⟩ | ⟨rfl, h3⟩)
    · exact .inl ⟨rfl, ⟨_, hs k hk pre h1, h3⟩, h4⟩
    · exact .inr ⟨rfl, ⟨_, hs k hk pre h1, h3⟩⟩
  · exact fun k hk => ⟨rfl, (hp k hk).2.1, fun j v hj => ((hW.mono hn0).cell (p := ⟨pb, po + k * 22 + j, none⟩) hpb).trans ((hp k hk).2.2 j v hj)⟩
  · exact fun k hk => ((hW.mono hn0).cell (p := ⟨tb, to' + k, none⟩) htb).trans (ht k hk)
  · rintro e W' ⟨h1, ⟨pre, h2, h3⟩ | ⟨k, hk, pre, h2, h3⟩⟩
    · exact ⟨h1, .inl ⟨pre, h2, h3⟩⟩
    · exact ⟨h1, .inr ⟨pre, ⟨k, hk, h2⟩, h3⟩⟩
#print axioms stops63
end Go.Proofs
