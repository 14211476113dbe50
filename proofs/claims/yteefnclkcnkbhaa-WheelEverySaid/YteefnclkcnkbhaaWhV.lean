/-
  A HELPER OF THE PROOF: the wheel (text V).
-/
import Derived.Test.YteefnclkcnkbhaaProg
import Derived.Below
import Derived.Deep.Draws
import Derived.Deep.AppendLies
import Derived.Maps.AppendAt
import Derived.OwnWalk
import Derived.Laws.BytesArg
import Derived.Laws.MakeOwn
import Derived.Laws.OwnMore
import Derived.Deep.OwnRows
import Derived.Tactics
import Derived.Lib.ConvBytes
import Derived.Laws.Slices
import Derived.WalkKit
import Derived.KernelRfl
import Derived.RowKit3
import Derived.Deep.LoopGhost
import Derived.Deep.QuietTactic
import Derived.BigQuiet
import Derived.WideLaws
import Derived.Deep.DeepCutAuto
import Derived.Deep.CutBlock
import Derived.Deep.RegionHeld3
import Derived.Laws.Rows
import Derived.Lib.AppendStr
import Derived.ArgAppend
import Derived.Laws.IdiomCopy
import Derived.OrdersHeld
import Derived.Laws.BitsLemmas
import Derived.RowKit
import Derived.Test.YteefnclkcnkbhaaWWords
import Derived.Test.YteefnclkcnkbhaaWLast
import Derived.Test.YteefnclkcnkbhaaWTab
import Derived.Test.YteefnclkcnkbhaaWFour
import Derived.Test.YteefnclkcnkbhaaWQPut
import Derived.Test.YteefnclkcnkbhaaWApart
import Derived.Test.YteefnclkcnkbhaaWArr
import Derived.Test.YteefnclkcnkbhaaWZeros
import Derived.Test.YteefnclkcnkbhaaWFoot
import Derived.Test.YteefnclkcnkbhaaWKept
import Derived.Test.YteefnclkcnkbhaaWShare
import Derived.Test.YteefnclkcnkbhaaWN
import Derived.Test.YteefnclkcnkbhaaWFootNe
import Derived.Test.YteefnclkcnkbhaaWAt
import Derived.Test.YteefnclkcnkbhaaWEqStruct
import Derived.Test.YteefnclkcnkbhaaWRepsOne
import Derived.Test.YteefnclkcnkbhaaWInv
import Derived.Test.YteefnclkcnkbhaaWInvWords
import Derived.Test.YteefnclkcnkbhaaWGuard
import Derived.Test.YteefnclkcnkbhaaWNEv
import Derived.Test.YteefnclkcnkbhaaWMore
import Derived.Deep.RegionLaw
import Derived.Laws.BitsAllLaws
import Derived.Deep.RegionWith
import Derived.StillTailTactics
import Derived.BigRegion
import Derived.Maps.OwnSet
import Derived.Maps.OwnOps
import Derived.Maps.RangeWalk
import Derived.Maps.Ext
import Derived.WideKeyEntry
import Derived.Test.YteefnclkcnkbhaaWhA
import Derived.Test.YteefnclkcnkbhaaWhB
import Derived.Test.YteefnclkcnkbhaaWhC
import Derived.Test.YteefnclkcnkbhaaWhN
import Derived.Test.YteefnclkcnkbhaaWhKeys
import Derived.Test.YteefnclkcnkbhaaWhF
import Derived.Test.YteefnclkcnkbhaaWhP
import Derived.Test.YteefnclkcnkbhaaWhR
import Derived.Test.YteefnclkcnkbhaaWhU
namespace Go.Proofs.Yteefnclkcnkbhaa.Wh
open Go.RowKit Go.Proofs.YteefnclkcnkbhaaW.PrintWords Go.Proofs.YteefnclkcnkbhaaW.PrintLast Go.Proofs.YteefnclkcnkbhaaW.PrintMore
attribute [local go_sem] max2_int min2_int max_two min_two max_three min_three max_four min_four   -- for this text's walks alone
set_option linter.unusedVariables false
set_option linter.unusedSimpArgs false



open Go.Maps Go.Sort Go.Shelf
set_option maxHeartbeats 1000000 in
theorem nexts_calls (b : Bl) (W : World) (now last : Int) (L : TL) (h : Rep b W now last (get L)) (ho : Ok now last L) :
    Calls Try.prog 80 #[.pointer (some ⟨b.g, 0, none⟩)] W fun e w' => e = .returned (.tuple #[.int .u64 (least now L), .bool (decide (L ≠ []))]) ∧ Only (fun _ => False) W w' := by
  have HN := Aside0.mk (next_calls b W now last L h ho)
  clear h ho
  generalize decide (L ≠ []) = bb at *
  go_enter Try.func80, Try.ntmps80
  go_wp2_with fail
  refine HN.out.mono ?_
  rintro e w' ⟨rfl, o⟩
  have HO := Aside0.mk o
  clear o
  go_wp2_with fail
  go_ret2
  exact ⟨rfl, HO.out⟩
/-! #### New -/
/-- the loop that lays the slots' maps -/
structure NInv (W wr : World) (n : Nat) (i : Nat) (sv : Value) (ms : List Nat) : Prop where
  len : ms.length = i
  wher : wr.heap[n]? = some (.map #[] 0)
  cells : wr.heap[n + 1]? = some (.cells #[sv, .map (some n), .int .u64 0, .int .i64 0] 136 (0, 0))
  row : wr.ownsRow (n + 2) 137 1 sv i (ms.map fun k => .map (some k))
  maps : ∀ k ∈ ms, n + 2 ≤ k ∧ k < wr.heap.size ∧ wr.heap[k]? = some (.map #[] 0)
  nodup : ms.Nodup
  below : Below n W wr
theorem NInv.rep {W wr : World} {n i : Nat} {sv : Value} {ms : List Nat} (h : NInv W wr n i sv ms) (hi0 : 1 ≤ i) (hi1 : i ≤ 4096) : ∃ b : Bl, b.K = i ∧ b.lo = n ∧ b.hi = wr.heap.size ∧ b.g = n + 1 ∧ Rep b wr 0 0 (get []) := by
  obtain ⟨g, cap, cur, rfl, hb, hg, hnc, hcm, hcs, hct⟩ : ∃ g cap cur, sv = .slice (some ⟨g, 0, none⟩) i cap ∧ n + 2 ≤ g ∧ wr.heap[g]? = some (.cells cur 137 (0, 0)) ∧ i ≤ cap ∧ cap ≤ maxLen ∧ cur.size = cap * 1 ∧ cur.toList.take (i * 1) = ms.map fun k => .map (some k) := by
    rcases h.row.2 with ⟨_, h0⟩ | h
    · omega
    · exact h
  have hmi : ∀ j, j < i → ∃ hj : j < ms.length, ms.getD j 0 = ms[j] := fun j hj => ⟨by rw [h.len]; exact hj, by simp [h.len, hj]⟩
  have hmm : ∀ j, j < i → n + 2 ≤ ms.getD j 0 ∧ ms.getD j 0 < wr.heap.size ∧ wr.heap[ms.getD j 0]? = some (.map #[] 0) := fun j hj => by
    obtain ⟨h1, h2⟩ := hmi j hj
    rw [h2]
    exact h.maps _ (List.getElem_mem h1)
  have hgl : g < wr.heap.size := (Array.getElem?_eq_some_iff.1 hg).1
  refine ⟨⟨n, wr.heap.size, n + 1, g, cap, n, fun j => ms.getD j 0, i⟩, rfl, rfl, rfl, rfl, ⟨⟨hi0, hi1, hnc, hcm, ⟨by simp, by dsimp only; omega⟩, ⟨by dsimp only; omega, hgl⟩, ⟨Nat.le_refl _, by dsimp only; omega⟩, fun j hj => ⟨by have := (hmm j hj).1; dsimp only; omega, (hmm j hj).2.1⟩, by dsimp only; omega, by dsimp only; omega, by dsimp only; omega, fun j hj => by have := (hmm j hj).1; dsimp only; omega, fun j hj e => ?_, fun j hj => by have := (hmm j hj).1; dsimp only; omega, fun j k hj hk hjk e => ?_⟩, Nat.le_refl _, h.cells, ⟨cur, hg, fun j hj => ?_⟩, ⟨0, .map [], ⟨#[], 0, h.wher, ⟨by simp, Go.MapKept.stamped_empty 0, by simp⟩, Nat.le_refl _, rfl⟩, MapIs.empty⟩, fun j hj => ⟨0, .map [], ⟨#[], 0, (hmm j hj).2.2, ⟨by simp, Go.MapKept.stamped_empty 0, by simp⟩, Nat.le_refl _, rfl⟩, MapIs.empty⟩⟩⟩
  · have h1 := (hmm j hj).2.2
    dsimp only at e
    rw [e, hg] at h1
    cases h1
  · obtain ⟨a1, a2⟩ := hmi j hj
    obtain ⟨b1, b2⟩ := hmi k hk
    dsimp only at e
    rw [a2, b2] at e
    rcases Nat.lt_or_gt_of_ne hjk with hlt | hlt
    · exact List.pairwise_iff_getElem.1 h.nodup j k a1 b1 hlt e
    · exact List.pairwise_iff_getElem.1 h.nodup k j b1 a1 hlt e.symm
  · obtain ⟨a1, a2⟩ := hmi j hj
    dsimp only at hj ⊢
    rw [a2, ← Array.getElem?_toList]
    have h1 : (cur.toList.take (i * 1))[j]? = cur.toList[j]? := by rw [List.getElem?_take, if_pos (by omega)]
    rw [← h1, hct, List.getElem?_map, List.getElem?_eq_getElem a1]
    rfl
theorem NInv.step {W wr w1 : World} {n i : Nat} {sv v' : Value} {ms : List Nat} (h : NInv W wr n i sv ms) (hr : w1.ownsRow (n + 2) 137 1 v' (i + 1) ((ms.map fun k => Value.map (some k)) ++ [.map (some wr.heap.size)])) (hg : ((wr.alloc (.map #[] 0)).alloc (.cells #[.map (some wr.heap.size)] 137)).grownBy w1 sv.ownBlock) :
    NInv W (w1.setCell ⟨n + 1, 0, none⟩ v') n (i + 1) v' (ms ++ [wr.heap.size]) := by
  have hcl := (Array.getElem?_eq_some_iff.1 h.cells).1
  have hwl := (Array.getElem?_eq_some_iff.1 h.wher).1
  have hlt := h.row.lt
  have old : ∀ k, k < wr.heap.size → ((wr.alloc (.map #[] 0)).alloc (.cells #[.map (some wr.heap.size)] 137)).heap[k]? = wr.heap[k]? := fun k hk => by
    rw [heap_alloc_old _ _ (show k < (wr.alloc (.map #[] 0)).heap.size by simp; omega), heap_alloc_old _ _ hk]
  have new : ((wr.alloc (.map #[] 0)).alloc (.cells #[.map (some wr.heap.size)] 137)).heap[wr.heap.size]? = some (.map #[] 0) := by
    rw [heap_alloc_old _ _ (show wr.heap.size < (wr.alloc (.map #[] 0)).heap.size by simp)]
    exact heap_alloc_new _ _
  have hs1 : wr.heap.size + 2 ≤ w1.heap.size := by have := hg.size; simpa using this
  have hw1 : ∀ k, k < wr.heap.size → some k ≠ sv.ownBlock → w1.heap[k]? = wr.heap[k]? := fun k hk hn => (hg.block k (by simp; omega) hn).trans (old k hk)
  have mapne : ∀ k, wr.heap[k]? = some (.map #[] 0) → some k ≠ sv.ownBlock := fun k hk e => by
    rcases h.row.2 with ⟨rfl, _⟩ | ⟨g, cap, cur, rfl, hb, hg, _⟩
    · cases e
    · obtain rfl : k = g := by simpa [Value.ownBlock] using e
      rw [hk] at hg
      cases hg
  have hnc : some (n + 1) ≠ sv.ownBlock := fun e => by have := (hlt _ e.symm).1; omega
  have hset : ∀ k, k ≠ n + 1 → (w1.setCell ⟨n + 1, 0, none⟩ v').heap[k]? = w1.heap[k]? := fun k hk => set_far w1 v' hk
  refine ⟨by simp [h.len], ?_, ?_, ?_, ?_, ?_, ?_⟩
  · rw [hset n (by omega), hw1 n hwl (mapne n h.wher)]
    exact h.wher
  · have h1 := hw1 (n + 1) hcl hnc
    rw [h.cells] at h1
    have h2 := blk_set h1 0 v'
    simpa using h2
  · have : (ms ++ [wr.heap.size]).map (fun k => Value.map (some k)) = (ms.map fun k => Value.map (some k)) ++ [.map (some wr.heap.size)] := by simp
    rw [this]
    exact row_move hr fun k hk => hset k (by have := (hr.lt k hk).1; omega)
  · intro k hk
    rcases List.mem_append.1 hk with hk | hk
    · obtain ⟨h1, h2, h3⟩ := h.maps k hk
      refine ⟨h1, by simp; omega, ?_⟩
      rw [hset k (by omega), hw1 k h2 (mapne k h3)]
      exact h3
    · obtain rfl : k = wr.heap.size := by simpa using hk
      refine ⟨by omega, by simp; omega, ?_⟩
      rw [hset _ (by omega), hg.block _ (by simp; omega) (fun e => by have := (hlt _ e.symm).2; omega)]
      exact new
  · rw [List.nodup_append]
    refine ⟨h.nodup, by simp, fun a ha b hb e => ?_⟩
    obtain rfl : b = wr.heap.size := by simpa using hb
    have := (h.maps a ha).2.1
    omega
  · refine ⟨hg.os.trans h.below.os, hg.tape.trans h.below.tape, hg.output.trans h.below.output, by have := h.below.size; simp; omega, fun k hk => ?_⟩
    rw [hset k (by omega), hw1 k (by omega) (fun e => by have := (hlt _ e.symm).1; omega)]
    exact h.below.block k hk
theorem NInv.mid {W wr w1 : World} {n i : Nat} {sv : Value} {ms : List Nat} (h : NInv W wr n i sv ms) (hg : ((wr.alloc (.map #[] 0)).alloc (.cells #[.map (some wr.heap.size)] 137)).grownBy w1 sv.ownBlock) : w1.heap[n + 1]? = some (.cells #[sv, .map (some n), .int .u64 0, .int .i64 0] 136 (0, 0)) := by
  have hcl := (Array.getElem?_eq_some_iff.1 h.cells).1
  rw [hg.block (n + 1) (by simp; omega) (fun e => by have := (h.row.lt _ e.symm).1; omega), heap_alloc_old _ _ (show n + 1 < (wr.alloc (.map #[] 0)).heap.size by simp; omega), heap_alloc_old _ _ hcl]
  exact h.cells
theorem info137 : (Try.prog.info? 137).map (fun i => (i.zero, i.size, i.bytes)) = some (some (.map none), 1, 8) := by kernel_rfl
set_option maxHeartbeats 2000000 in
set_option maxRecDepth 100000 in
theorem new_bad (W : World) (k : Int) (h : ¬ (1 ≤ k ∧ k ≤ 4096)) : Calls Try.prog 28 #[.int .i64 k] W fun e w' => e = .returned (.tuple #[.pointer none, .int .i64 1]) ∧ w' = W := by
  go_enter Try.func28, Try.ntmps28
  by_cases h1 : k < 1
  · go_wp2_with fail
    go_ret2
    exact ⟨rfl, rfl⟩
  · have h2 : 4096 < k := by omega
    go_wp2_with fail
    go_ret2
    exact ⟨rfl, rfl⟩
set_option maxHeartbeats 2000000 in
set_option maxRecDepth 100000 in
theorem new_calls (W : World) (K : Nat) (h1 : 1 ≤ K) (h2 : K ≤ 4096) : Calls Try.prog 28 #[.int .i64 K] W fun e w' => ∃ b : Bl, e = .returned (.tuple #[.pointer (some ⟨b.g, 0, none⟩), .int .i64 0]) ∧ b.K = K ∧ b.lo = W.heap.size ∧ b.hi = w'.heap.size ∧ Rep b w' 0 0 (get []) ∧ Below W.heap.size W w' := by
  have hmm := @run_makeMap Try.prog
  obtain ⟨i0, hi, hz0, hz1, hz2⟩ := info_parts info137
  have hk1 : (1 : Int) ≤ (K : Int) := by omega
  have hk2 : (K : Int) ≤ 4096 := by omega
  go_enter Try.func28, Try.ntmps28
  go_wp2_with fail
  go_loopw [15] (fun u15 wr => ∃ (i : Nat) (sv : Value) (ms : List Nat), u15 = .int .i64 i ∧ i ≤ K ∧ NInv W wr W.heap.size i sv ms)
    (fun u15 _ => K - ix u15)
  case atStart =>
    refine ⟨0, .slice none 0 0, [], rfl, Nat.zero_le _, rfl, ?_, ?_, World.ownsRow_nil _ _ _ _, by simp, by simp, ?_⟩
    · rw [heap_alloc_old _ _ (show W.heap.size < (W.alloc (.map #[] 0)).heap.size by simp)]
      exact heap_alloc_new _ _
    · have := heap_alloc_new (W.alloc (.map #[] 0)) (.cells #[.slice none 0 0, .map (some W.heap.size), .int .u64 0, .int .i64 0] 136)
      simpa using this
    · exact below_alloc (below_alloc (Below.refl _ _) _) _ |>.mono (by simp)
  case round =>
    obtain ⟨i, sv, ms, rfl, hiK, hI⟩ := hrel
    rcases Nat.lt_or_ge i K with hlt | hge
    · have c0 := cell_of_blk hI.cells 0
      have f0 : wr.frozen? ⟨W.heap.size + 1, 0, none⟩ = false := by simp [World.frozen?, hI.cells]
      simp only [List.getElem?_toArray, List.getElem?_cons_zero] at c0
      have HI := Aside0.mk hI
      have hlt2 : (i : Int) < (K : Int) := by omega
      clear hI
      go_wp2_with (first | (at_builtin; refine wpList_append_own_at _ rfl _ _ 134 rfl (W.heap.size + 2) 137 i0 (.map none) 1 8 Try.underlying134 hi hz0 hz1 hz2 rfl (by decide) _ _ _ rfl ((HI.out.row.alloc _).alloc _) ⟨wr.heap.size + 1, 0, none⟩ 1 1 [.map (some wr.heap.size)] rfl rfl (by have h1 := cell_one_new (wr.alloc (.map #[] 0)) (Value.map (some wr.heap.size)) 137; rw [World.size_alloc] at h1; exact h1) (by simp [Value.oneCell']) (by unfold maxLen; omega) (by omega) (by have := (Array.getElem?_eq_some_iff.1 HI.out.cells).1; simp; omega) ?_; intro v' w1 hown' hgrow _ _; obtain ⟨g', cap', rfl⟩ := row_succ hown'; have hst : NInv W (w1.setCell ⟨W.heap.size + 1, 0, none⟩ (.slice (some ⟨g', 0, none⟩) (i + 1) cap')) W.heap.size (i + 1) (.slice (some ⟨g', 0, none⟩) (i + 1) cap') (ms ++ [wr.heap.size]) := HI.out.step hown' hgrow; have hmid : w1.heap[W.heap.size + 1]? = _ := HI.out.mid hgrow; have c1 := cell_of_blk hmid 0; have f1 : w1.frozen? ⟨W.heap.size + 1, 0, none⟩ = false := (by simp [World.frozen?, hmid]); simp only [List.getElem?_toArray, List.getElem?_cons_zero] at c1; have HST := Aside0.mk hst; clear hst hmid hown' hgrow c0 f0))
      exact ⟨⟨i + 1, _, _, by rw [Int.natCast_succ], by omega, HST.out⟩, by simp only [ix]; omega⟩
    · have hiK2 : i = K := by omega
      subst hiK2
      obtain ⟨b, hbK, hlo, hhi, hg, hR⟩ := hI.rep h1 h2
      have HB := Aside0.mk hI.below
      have HR := Aside0.mk hR
      clear hI hR
      go_wp2_with fail
      go_ret2
      exact ⟨b, by rw [hg]; rfl, hbK, hlo, hhi, HR.out, HB.out⟩
end Go.Proofs.Yteefnclkcnkbhaa.Wh
