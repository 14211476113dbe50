import Derived.Test.YteefnclkcnkbhaaProg
import Derived.Below
import Derived.Deep.Draws
import Derived.Deep.AppendLies
import Derived.Maps.AppendAt
import Derived.OwnWalk
import Derived.Laws.BytesArg
import Derived.Laws.MakeOwn
import Derived.Laws.OwnMore
import Derived.Deep.OwnRows
import Derived.Tactics
import Derived.Lib.ConvBytes
import Derived.Laws.Slices
import Derived.WalkKit
import Derived.KernelRfl
import Derived.RowKit3
import Derived.Deep.LoopGhost
import Derived.Deep.QuietTactic
import Derived.BigQuiet
import Derived.WideLaws
import Derived.Deep.DeepCutAuto
import Derived.Deep.CutBlock
import Derived.Deep.RegionHeld3
import Derived.Laws.Rows
import Derived.Lib.AppendStr
import Derived.ArgAppend
import Derived.Laws.IdiomCopy
import Derived.OrdersHeld
import Derived.Laws.BitsLemmas
import Derived.RowKit
import Derived.Test.YteefnclkcnkbhaaWWords
import Derived.Test.YteefnclkcnkbhaaWLast
import Derived.Test.YteefnclkcnkbhaaWTab
import Derived.Test.YteefnclkcnkbhaaWFour
import Derived.Test.YteefnclkcnkbhaaWQPut
import Derived.Test.YteefnclkcnkbhaaWApart
import Derived.Test.YteefnclkcnkbhaaWArr
import Derived.Test.YteefnclkcnkbhaaWZeros
import Derived.Test.YteefnclkcnkbhaaWFoot
import Derived.Test.YteefnclkcnkbhaaWKept
import Derived.Test.YteefnclkcnkbhaaWShare
import Derived.Test.YteefnclkcnkbhaaWN
import Derived.Test.YteefnclkcnkbhaaWFootNe
import Derived.Test.YteefnclkcnkbhaaWAt
import Derived.Test.YteefnclkcnkbhaaWEqStruct
import Derived.Test.YteefnclkcnkbhaaWRepsOne
import Derived.Test.YteefnclkcnkbhaaWInv
import Derived.Test.YteefnclkcnkbhaaWInvWords
import Derived.Test.YteefnclkcnkbhaaWGuard
import Derived.Test.YteefnclkcnkbhaaWNEv
import Derived.Test.YteefnclkcnkbhaaWMore
import Derived.Stop.BytesEq
import Derived.Deep.RegionLaw
import Derived.Laws.BitsAllLaws
import Derived.Lib.SliceRun
import Derived.Deep.RegionWith
import Derived.StillTailTactics
import Derived.Laws.CopyOwn
import Derived.Test.YteefnclkcnkbhaaCliA
import Derived.Test.YteefnclkcnkbhaaCliB
import Derived.Test.YteefnclkcnkbhaaCliC
import Derived.Test.YteefnclkcnkbhaaCliD
import Derived.Test.YteefnclkcnkbhaaCliE
import Derived.Test.YteefnclkcnkbhaaCliF
import Derived.Test.YteefnclkcnkbhaaCliG
import Derived.Test.YteefnclkcnkbhaaCliH
namespace Go.Proofs.Yteefnclkcnkbhaa.GClientExpires
open Go.RowKit Go.Proofs.YteefnclkcnkbhaaW.PrintWords Go.Proofs.YteefnclkcnkbhaaW.PrintLast Go.Proofs.YteefnclkcnkbhaaW.PrintMore
attribute [local go_sem] max2_int min2_int max_two min_two max_three min_three max_four min_four   -- for this text's walks alone
set_option linter.unusedVariables false
set_option linter.unusedSimpArgs false



set_option maxHeartbeats 8000000 in
set_option maxRecDepth 100000 in
theorem frame_one (g : Nat) (s : CS) (w : World) (h : At w g s) (hi : s.index = 8192) (hs : s.sub = 1) :
    Calls Try.prog 71 #[.pointer (some ⟨g, 0, none⟩), .int .u8 43, .int .i64 0] w fun e w' => e = .returned (.agg #[.int .u8 43, .int .u8 0, .int .u8 32, .int .u8 1, .int .u8 0, .int .u8 0, .int .u8 0, .int .u8 0]) ∧ Below w.heap.size w w' := by
  obtain ⟨c0, c1, c2, c3, c4, c5, c6, c7, c8, c9⟩ := h.cell
  have hg := h.lt
  rw [hi] at c1
  rw [hs] at c2
  have HB := Aside0.mk (Below.refl w.heap.size w)
  clear h c0 c3 c4 c5 c6 c7 c8 c9
  go_enter Try.func71, Try.ntmps71
  go_wp2_with fail
  go_region
  go_wp2_with fail
  refine bodyPost_ret (results_single rfl (.cell _ 43 _ (0, 0) _ rfl (blk_drew (blk_new _ _)) Try.underlying43 rfl (by kernel_rfl) .nil)) rfl ?_
  exact ⟨rfl, below_drew1 (below_alloc HB.out _)⟩
set_option maxHeartbeats 8000000 in
set_option maxRecDepth 100000 in
theorem write_one (n₀ g : Nat) (s : CS) (A : Option Addr) (c : Nat) (w : World) (h : Inv w n₀ g s) (hw : s.waits = 0) (hv0 : BQ w n₀ (.slice A 2 c) [5, 0]) :
    Calls Try.prog 26 #[.pointer (some ⟨g, 0, none⟩), .int .u16 8192, .int .u8 1, .slice A 2 c] w fun e w' => e = .returned (.tuple #[.agg #[.int .u8 43, .int .u8 0, .int .u8 32, .int .u8 1, .int .u8 5, .int .u8 0, .int .u8 0, .int .u8 0], .int .i64 0]) ∧ (∃ bv, Inv w' n₀ g ⟨1, 8192, 1, bv, 0, false, 0, .slice none 0 0, 0, false⟩) ∧ Fr n₀ g w w' := by
  have hn : n₀ ≤ w.heap.size := Nat.le_trans h.2.1 (Nat.le_of_lt h.1.lt)
  obtain ⟨c0, c1, c2, c3, c4, c5, c6, c7, c8, c9⟩ := h.1.cell
  have hg := h.1.lt
  have HI := Aside0.mk h
  have HN := Aside0.mk hn
  have k0 := h.1.frozen 0
  have k1 := h.1.frozen 1
  have k2 := h.1.frozen 2
  have k3 := h.1.frozen 3
  have k4 := h.1.frozen 4
  have k5 := h.1.frozen 5
  have k6 := h.1.frozen 6
  have k7 := h.1.frozen 7
  have k8 := h.1.frozen 8
  have k9 := h.1.frozen 9
  have HV0 := Aside0.mk hv0
  obtain ⟨A_, c_, e_, hcap, hC⟩ := BQ.slice hv0
  injection e_ with e1_ e3_ e2_
  subst e1_ e2_
  clear e3_
  have hmax : 2 ≤ 9223372036854775807 := hC.2.1
  have HC := Aside0.mk hC
  have HCAP := Aside0.mk hcap
  clear h hC hcap hn hv0
  rw [hw] at c0
  have hcl := slices_Clone_byte_byte.calls A c [5, 0] [5, 0] (w.alloc (Obj.cells #[.int .u8 0, .int .u8 0, .int .u8 0, .int .u8 0, .int .u8 0, .int .u8 0, .int .u8 0, .int .u8 0] 43)) (Kd.C_alloc HC.out (Obj.cells #[.int .u8 0, .int .u8 0, .int .u8 0, .int .u8 0, .int .u8 0, .int .u8 0, .int .u8 0, .int .u8 0] 43)) HCAP.out (by unfold slices_Clone_byte_byte.f; rw [if_pos (by decide)])
  have HCL := Aside0.mk hcl
  clear hcl
  go_enter Try.func26, Try.ntmps26
  go_wp2_with (go_at_call 60; refine HCL.out.mono ?_; rintro e w2 ⟨v, rfl, hv, hb2⟩; have KR2 := Aside0.mk ((KR.below (below_alloc (Below.refl w.heap.size w) (Obj.cells #[.int .u8 0, .int .u8 0, .int .u8 0, .int .u8 0, .int .u8 0, .int .u8 0, .int .u8 0, .int .u8 0] 43))).trans (KR.below hb2)); obtain ⟨Av, cv, rfl⟩ := Kd.R_slice hv; have HI2 := Aside0.mk ((HI.out.alloc (Obj.cells #[.int .u8 0, .int .u8 0, .int .u8 0, .int .u8 0, .int .u8 0, .int .u8 0, .int .u8 0, .int .u8 0] 43)).below hb2); have HF2 := Aside0.mk (((Fr.refl n₀ g w).alloc HN.out (Obj.cells #[.int .u8 0, .int .u8 0, .int .u8 0, .int .u8 0, .int .u8 0, .int .u8 0, .int .u8 0, .int .u8 0] 43)).below HN.out hb2); have HV := Aside0.mk hv; have HZ2 := Aside0.mk ((hb2.block w.heap.size (by simp)).trans (blk_new w (Obj.cells #[.int .u8 0, .int .u8 0, .int .u8 0, .int .u8 0, .int .u8 0, .int .u8 0, .int .u8 0, .int .u8 0] 43))); clear hv hb2; obtain ⟨c0, c1, c2, c3, c4, c5, c6, c7, c8, c9⟩ := HI2.out.1.cell; have k0 := HI2.out.1.frozen 0; have k1 := HI2.out.1.frozen 1; have k2 := HI2.out.1.frozen 2; have k3 := HI2.out.1.frozen 3; have k4 := HI2.out.1.frozen 4; have k5 := HI2.out.1.frozen 5; have k6 := HI2.out.1.frozen 6; have k7 := HI2.out.1.frozen 7; have k8 := HI2.out.1.frozen 8; have k9 := HI2.out.1.frozen 9)
  all_goals (
    obtain ⟨hI1, hF1, hS1⟩ := inv_store HI2.out ⟨2, 8192, 1, .slice Av 2 cv, 0, false, 0, .slice none 0 0, 0, false⟩ (Kd.Q_lower (Kd.Q_of_R HV.out) (Nat.le_trans HN.out (by simp))) (fun h => absurd (show (4 : Int) ≤ 2 from h) (by decide)) (Kd.Q_nil _ _ _ _ _)
    dsimp only at hI1 hF1 hS1
    have HF1 := Aside0.mk (HF2.out.trans hF1)
    have hgz : w.heap.size ≠ g := by omega
    have hz1 := hF1.blk HZ2.out hgz
    have HZ1 := Aside0.mk hz1
    have HI1 := Aside0.mk hI1
    clear hz1 hI1 hF1)
  have hb4 : 2 ≤ 4 := by omega
  obtain ⟨hI1', hF1'⟩ := inv_set0 HI1.out 1 (.inl (by decide))
  dsimp only at hI1' hF1'
  have hz1' := hF1'.blk HZ1.out hgz
  have HK1 := Aside0.mk ((KR2.out.trans (KR.store HI2.out.1 ⟨2, 8192, 1, .slice Av 2 cv, 0, false, 0, .slice none 0 0, 0, false⟩)).trans (KR.set HI1.out.1 0 (.int .i64 1)))
  have HI1' := Aside0.mk hI1'
  have HF1' := Aside0.mk (HF1.out.trans hF1')
  have HZ1' := Aside0.mk hz1'
  clear hI1' hF1' hz1'
  rw [show bits .or .u8 35 8 = 43 from by decide]
  refine (frame_one g _ _ HI1'.out.1 rfl rfl).mono ?_
  rintro e w3 ⟨rfl, hb3⟩
  have HI3 := Aside0.mk (HI1'.out.below hb3)
  have HF3 := Aside0.mk (HF1'.out.below HN.out hb3)
  have HZ3 := Aside0.mk ((hb3.block _ (blk_lt HZ1'.out)).trans HZ1'.out)
  have HK3 := Aside0.mk (HK1.out.trans (KR.below hb3))
  clear hb3
  obtain ⟨ad, rfl, hsrc⟩ := bytes_src (bs := [5, 0]) (c := c) (A := A) (BQ.move HV0.out HK3.out) (by decide)
  have hy : ((#[Value.int .u8 43, Value.int .u8 0, Value.int .u8 32, Value.int .u8 1, Value.int .u8 0, Value.int .u8 0, Value.int .u8 0, Value.int .u8 0] : Array Value).toList.take 4 ++ [5, 0].map (Value.int .u8) ++ (#[Value.int .u8 43, Value.int .u8 0, Value.int .u8 32, Value.int .u8 1, Value.int .u8 0, Value.int .u8 0, Value.int .u8 0, Value.int .u8 0] : Array Value).toList.drop (4 + ([5, 0].map (Value.int .u8)).length)).toArray = #[Value.int .u8 43, Value.int .u8 0, Value.int .u8 32, Value.int .u8 1, Value.int .u8 5, Value.int .u8 0, Value.int .u8 0, Value.int .u8 0] := rfl
  have hcp := run_copy_row (P := Try.prog) (w := w3.alloc (.cells (#[Value.int .u8 43, Value.int .u8 0, Value.int .u8 32, Value.int .u8 1, Value.int .u8 0, Value.int .u8 0, Value.int .u8 0, Value.int .u8 0]) 43)) 23 23 3 5 w3.heap.size 4 4 4 ad 2 c (#[Value.int .u8 43, Value.int .u8 0, Value.int .u8 32, Value.int .u8 1, Value.int .u8 0, Value.int .u8 0, Value.int .u8 0, Value.int .u8 0]) 43 ([5, 0].map (Value.int .u8)) Try.underlying23 (by kernel_rfl) (blk_new _ _) (rfl) (fun j v hj => ((below_alloc (Below.refl w3.heap.size w3) _).cell (World.block_lt_of_cell? w3 _ (hsrc j v hj))).trans (hsrc j v hj)) (by rw [List.length_map]; show 4 + 2 ≤ 8; omega) (by simp [Value.oneCell'])
  rw [hy, List.length_map] at hcp
  obtain ⟨W4, hW4⟩ : ∃ W4, W4 = (w3.alloc (.cells (#[Value.int .u8 43, Value.int .u8 0, Value.int .u8 32, Value.int .u8 1, Value.int .u8 0, Value.int .u8 0, Value.int .u8 0, Value.int .u8 0]) 43)).setRow w3.heap.size (#[Value.int .u8 43, Value.int .u8 0, Value.int .u8 32, Value.int .u8 1, Value.int .u8 5, Value.int .u8 0, Value.int .u8 0, Value.int .u8 0]) := ⟨_, rfl⟩
  have hr4 : W4.heap[w3.heap.size]? = some (.cells (#[Value.int .u8 43, Value.int .u8 0, Value.int .u8 32, Value.int .u8 1, Value.int .u8 5, Value.int .u8 0, Value.int .u8 0, Value.int .u8 0]) 43 (0, 0)) := by rw [hW4]; exact setRow_heap _ _ _ _ _ _ (blk_new _ _)
  have hb4 : Below w3.heap.size w3 W4 := by rw [hW4]; exact below_setRow (below_alloc (Below.refl _ _) _) (Nat.le_refl _) _
  rw [← hW4] at hcp
  have HI4 := Aside0.mk (HI3.out.below hb4)
  have HF4 := Aside0.mk (HF3.out.below HN.out hb4)
  have hz4 := (hb4.block _ (blk_lt HZ3.out)).trans HZ3.out
  have HZ4 := Aside0.mk hz4
  skip
  obtain ⟨d0, d1, d2, d3, d4, d5, d6, d7⟩ := fr8_cell hr4
  obtain ⟨z0, z1, z2, z3, z4, z5, z6, z7⟩ := fr8_cell hz4
  obtain ⟨f0, f1, f2, f3, f4, f5, f6, f7⟩ := fr8_frozen hz4
  clear hW4 hr4 hb4 hz4 hy hsrc c0 c1 c2 c3 c4 c5 c6 c7 c8 c9 k0 k1 k2 k3 k4 k5 k6 k7 k8 k9
  go_wp2_with fail
  obtain ⟨hI5, hF5⟩ := inv_box HI4.out HZ4.out HF4.out (Nat.le_refl _) HN.out (.int .u8 43) (.int .u8 0) (.int .u8 32) (.int .u8 1) (.int .u8 5) (.int .u8 0) (.int .u8 0) (.int .u8 0)

  refine bodyPost_ret (results_ct rfl _ _ _ 43 _ (0, 0) _ rfl (fr8_put HZ4.out _ _ _ _ _ _ _ _) Try.underlying43 rfl (by kernel_rfl)) rfl ?_
  exact ⟨rfl, ⟨_, hI5⟩, hF5⟩
set_option maxHeartbeats 8000000 in
set_option maxRecDepth 100000 in
theorem here_one (g : Nat) (s : CS) (x : Nat → Int) (w : World) (h : At w g s) (hh : (bits .or .u16 (IntKind.u16.wrap (x 1)) (IntKind.u16.wrap (IntKind.u16.wrap (x 2) * 256)) == s.index) = true) (hs : (x 3 == s.sub) = true) :
    Calls Try.prog 121 #[.pointer (some ⟨g, 0, none⟩), .agg (fr8 x)] w fun e w' => e = .returned (.bool true) ∧ Below w.heap.size w w' := by
  have HB := Aside0.mk (Below.refl w.heap.size w)
  obtain ⟨c0, c1, c2, c3, c4, c5, c6, c7, c8, c9⟩ := h.cell
  have hg := h.lt
  clear h c0 c3 c4 c5 c6 c7 c8 c9
  unfold fr8
  go_enter Try.func121, Try.ntmps121
  go_wp2_with fail
  go_region
  go_wp2_with fail
  all_goals (go_ret; exact ⟨rfl, by repeat (first | exact HB.out | apply below_alloc | apply below_drew1)⟩)
def xo : Nat → Int := fun i => match i with | 0 => 96 | 2 => 32 | 3 => 1 | _ => 0
theorem oneEnd {n₀ g : Nat} {s : CS} {w W : World} (hI : Inv W n₀ g s) (hF : Fr n₀ g w W) (hZ : W.heap[w.heap.size + 1]? = some (.cells zero8 43 (0, 0))) (hn : n₀ ≤ w.heap.size) :
    Inv ((((((((W.setCell ⟨w.heap.size + 1, 0, none⟩ (.int .u8 0)).setCell ⟨w.heap.size + 1, 1, none⟩ (.int .u8 0)).setCell ⟨w.heap.size + 1, 2, none⟩ (.int .u8 0)).setCell ⟨w.heap.size + 1, 3, none⟩ (.int .u8 0)).setCell ⟨w.heap.size + 1, 4, none⟩ (.int .u8 0)).setCell ⟨w.heap.size + 1, 5, none⟩ (.int .u8 0)).setCell ⟨w.heap.size + 1, 6, none⟩ (.int .u8 0)).setCell ⟨w.heap.size + 1, 7, none⟩ (.int .u8 0)) n₀ g s ∧
    Fr n₀ g w ((((((((W.setCell ⟨w.heap.size + 1, 0, none⟩ (.int .u8 0)).setCell ⟨w.heap.size + 1, 1, none⟩ (.int .u8 0)).setCell ⟨w.heap.size + 1, 2, none⟩ (.int .u8 0)).setCell ⟨w.heap.size + 1, 3, none⟩ (.int .u8 0)).setCell ⟨w.heap.size + 1, 4, none⟩ (.int .u8 0)).setCell ⟨w.heap.size + 1, 5, none⟩ (.int .u8 0)).setCell ⟨w.heap.size + 1, 6, none⟩ (.int .u8 0)).setCell ⟨w.heap.size + 1, 7, none⟩ (.int .u8 0)) :=
  inv_box hI hZ hF (Nat.le_succ _) hn _ _ _ _ _ _ _ _
set_option maxHeartbeats 8000000 in
set_option maxRecDepth 100000 in
theorem takes_one (n₀ g : Nat) (s : CS) (x : Nat → Int) (w : World) (h : Inv w n₀ g s) (hw : s.waits = 1) :
    Calls Try.prog 122 #[.pointer (some ⟨g, 0, none⟩), .agg (fr8 x)] w fun e w' => e = .returned (.tuple #[.agg #[.int .u8 0, .int .u8 0, .int .u8 0, .int .u8 0, .int .u8 0, .int .u8 0, .int .u8 0, .int .u8 0], .bool false]) ∧ Inv w' n₀ g ⟨0, 0, 0, .slice none 0 0, 0, false, 0, .slice none 0 0, 0, true⟩ ∧ Fr n₀ g w w' := by
  have hn : n₀ ≤ w.heap.size := Nat.le_trans h.2.1 (Nat.le_of_lt h.1.lt)
  have hg := h.1.lt
  have HI := Aside0.mk h
  have HN := Aside0.mk hn
  have HW := Aside0.mk hw
  clear h hn hw
  unfold fr8
  go_enter Try.func122, Try.ntmps122
  go_wp2_with ((with_reducible refine gate_dst (N := 9) rfl ?_); apply stopHere)
  refine ctStop (ctStart HI.out x) ?_
  rintro W ⟨hX, hF, hA, hZ⟩
  have HX := Aside0.mk hX
  have HF := Aside0.mk hF
  have HA := Aside0.mk hA
  have HZ := Aside0.mk hZ
  clear hX hF hA hZ
  obtain ⟨c0, c1, c2, c3, c4, c5, c6, c7, c8, c9⟩ := HX.out.1.cell; have k0 := HX.out.1.frozen 0; have k3 := HX.out.1.frozen 3; have k4 := HX.out.1.frozen 4; have k6 := HX.out.1.frozen 6; have ha := HA.out; unfold fr8 at ha; obtain ⟨d0, d1, d2, d3, d4, d5, d6, d7⟩ := fr8_cell ha; obtain ⟨z0, z1, z2, z3, z4, z5, z6, z7⟩ := fr8_cell HZ.out; obtain ⟨f0, f1, f2, f3, f4, f5, f6, f7⟩ := fr8_frozen HZ.out; clear ha
  rw [HW.out] at c0
  go_wp2_with (first | (go_at_call 118; refine (ends_calls n₀ g _ (.slice none 0 0) _ _ _ HX.out (Kd.Q_nil _ _ _ _ _)).mono ?_; rintro e w3 ⟨rfl, hi3, hf3⟩; have ha2 := hf3.blk HA.out (ne_of_at HX.out.1 HA.out); have hz2 := hf3.blk HZ.out (ne_of_at HX.out.1 HZ.out); have hf2 := HF.out.trans hf3; clear c0 c1 c2 c3 c4 c5 c6 c7 c8 c9 k0 k3 k4 k6 d0 d1 d2 d3 d4 d5 d6 d7 z0 z1 z2 z3 z4 z5 z6 z7 f0 f1 f2 f3 f4 f5 f6 f7; clear HX HF HA HZ; have HX := Aside0.mk hi3; have HF := Aside0.mk hf2; have HA := Aside0.mk ha2; have HZ := Aside0.mk hz2; clear hi3 hf2 ha2 hz2 hf3; obtain ⟨c0, c1, c2, c3, c4, c5, c6, c7, c8, c9⟩ := HX.out.1.cell; have k0 := HX.out.1.frozen 0; have k3 := HX.out.1.frozen 3; have k4 := HX.out.1.frozen 4; have k6 := HX.out.1.frozen 6; have ha := HA.out; unfold fr8 at ha; obtain ⟨d0, d1, d2, d3, d4, d5, d6, d7⟩ := fr8_cell ha; obtain ⟨z0, z1, z2, z3, z4, z5, z6, z7⟩ := fr8_cell HZ.out; obtain ⟨f0, f1, f2, f3, f4, f5, f6, f7⟩ := fr8_frozen HZ.out; clear ha))
  refine bodyPost_ret (results_ct rfl _ _ _ 43 _ (0, 0) _ rfl (fr8_put HZ.out _ _ _ _ _ _ _ _) Try.underlying43 rfl (by kernel_rfl)) rfl ?_
  exact ⟨rfl, oneEnd HX.out HF.out HZ.out HN.out⟩
set_option maxHeartbeats 8000000 in
set_option maxRecDepth 100000 in
theorem feed_one (n₀ g : Nat) (s : CS) (x : Nat → Int) (w : World) (h : Inv w n₀ g s) (hw : s.waits = 1) (hx0 : 0 ≤ x 0 ∧ x 0 < 256) (hd : (x 0 / 32 == 4) = false) (he : (x 0 / 32 != hdOf s.waits) = false) (hh : (bits .or .u16 (IntKind.u16.wrap (x 1)) (IntKind.u16.wrap (IntKind.u16.wrap (x 2) * 256)) == s.index) = true) (hs : (x 3 == s.sub) = true) :
    Calls Try.prog 66 #[.pointer (some ⟨g, 0, none⟩), .agg (fr8 x)] w fun e w' => e = .returned (.tuple #[.agg #[.int .u8 0, .int .u8 0, .int .u8 0, .int .u8 0, .int .u8 0, .int .u8 0, .int .u8 0, .int .u8 0], .bool false]) ∧ Inv w' n₀ g ⟨0, 0, 0, .slice none 0 0, 0, false, 0, .slice none 0 0, 0, true⟩ ∧ Fr n₀ g w w' := by
  have HH := Aside0.mk hh
  have HS := Aside0.mk hs
  have b0 : (s.waits == 0) = false := by rw [hw]; rfl
  have b3 : (s.waits == 3) = false := by rw [hw]; rfl
  have b5 : (s.waits == 5) = false := by rw [hw]; rfl
  clear hh hs
  have hn : n₀ ≤ w.heap.size := Nat.le_trans h.2.1 (Nat.le_of_lt h.1.lt)
  have hg := h.1.lt
  have HI := Aside0.mk h
  have HN := Aside0.mk hn
  have HW := Aside0.mk hw
  clear h hn hw
  unfold fr8
  go_enter Try.func66, Try.ntmps66
  go_wp2_with ((with_reducible refine gate_dst (N := 9) rfl ?_); apply stopHere)
  refine ctStop (ctStart HI.out x) ?_
  rintro W ⟨hX, hF, hA, hZ⟩
  have HX := Aside0.mk hX
  have HF := Aside0.mk hF
  have HA := Aside0.mk hA
  have HZ := Aside0.mk hZ
  clear hX hF hA hZ
  obtain ⟨c0, c1, c2, c3, c4, c5, c6, c7, c8, c9⟩ := HX.out.1.cell; have k0 := HX.out.1.frozen 0; have k3 := HX.out.1.frozen 3; have k4 := HX.out.1.frozen 4; have k6 := HX.out.1.frozen 6; have ha := HA.out; unfold fr8 at ha; obtain ⟨d0, d1, d2, d3, d4, d5, d6, d7⟩ := fr8_cell ha; obtain ⟨z0, z1, z2, z3, z4, z5, z6, z7⟩ := fr8_cell HZ.out; obtain ⟨f0, f1, f2, f3, f4, f5, f6, f7⟩ := fr8_frozen HZ.out; clear ha
  go_wp2_with fail
  go_quiet ((go_at_call 120; exact Calls.quiet_of_same (headx_calls g s _ HX.out.1)))
  have HX2 := Aside0.mk (InvL.drewN HX.out nq); have HF2 := Aside0.mk (Fr.drewN HF.out nq); have HA2 := Aside0.mk (blk_drewN HA.out nq); have HZ2 := Aside0.mk (blk_drewN HZ.out nq); clear HX HF HA HZ; have HX := HX2; have HF := HF2; have HA := HA2; have HZ := HZ2; clear HX2 HF2 HA2 HZ2
  go_wp2_with (first | (go_at_call 121; refine (here_one g s x _ HX.out.1 HH.out HS.out).mono ?_; rintro e w2 ⟨rfl, hb2⟩; have ha2 := (hb2.block _ (blk_lt HA.out)).trans HA.out; have hz2 := (hb2.block _ (blk_lt HZ.out)).trans HZ.out; have hx2 := HX.out.below hb2; have hf2 := HF.out.below HN.out hb2; clear c0 c1 c2 c3 c4 c5 c6 c7 c8 c9 k0 k3 k4 k6 d0 d1 d2 d3 d4 d5 d6 d7 z0 z1 z2 z3 z4 z5 z6 z7 f0 f1 f2 f3 f4 f5 f6 f7; clear HX HF HA HZ; have HX := Aside0.mk hx2; have HF := Aside0.mk hf2; have HA := Aside0.mk ha2; have HZ := Aside0.mk hz2; clear hx2 hf2 ha2 hz2 hb2; obtain ⟨c0, c1, c2, c3, c4, c5, c6, c7, c8, c9⟩ := HX.out.1.cell; have k0 := HX.out.1.frozen 0; have k3 := HX.out.1.frozen 3; have k4 := HX.out.1.frozen 4; have k6 := HX.out.1.frozen 6; have ha := HA.out; unfold fr8 at ha; obtain ⟨d0, d1, d2, d3, d4, d5, d6, d7⟩ := fr8_cell ha; obtain ⟨z0, z1, z2, z3, z4, z5, z6, z7⟩ := fr8_cell HZ.out; obtain ⟨f0, f1, f2, f3, f4, f5, f6, f7⟩ := fr8_frozen HZ.out; clear ha) | (go_at_call 122; refine (takes_one n₀ g s x _ HX.out HW.out).mono ?_; rintro e w3 ⟨rfl, hi3, hf3⟩; have ha2 := hf3.blk HA.out (ne_of_at HX.out.1 HA.out); have hz2 := hf3.blk HZ.out (ne_of_at HX.out.1 HZ.out); have hf2 := HF.out.trans hf3; clear c0 c1 c2 c3 c4 c5 c6 c7 c8 c9 k0 k3 k4 k6 d0 d1 d2 d3 d4 d5 d6 d7 z0 z1 z2 z3 z4 z5 z6 z7 f0 f1 f2 f3 f4 f5 f6 f7; clear HX HF HA HZ; have HX := Aside0.mk hi3; have HF := Aside0.mk hf2; have HA := Aside0.mk ha2; have HZ := Aside0.mk hz2; clear hi3 hf2 ha2 hz2 hf3; obtain ⟨c0, c1, c2, c3, c4, c5, c6, c7, c8, c9⟩ := HX.out.1.cell; have k0 := HX.out.1.frozen 0; have k3 := HX.out.1.frozen 3; have k4 := HX.out.1.frozen 4; have k6 := HX.out.1.frozen 6; have ha := HA.out; unfold fr8 at ha; obtain ⟨d0, d1, d2, d3, d4, d5, d6, d7⟩ := fr8_cell ha; obtain ⟨z0, z1, z2, z3, z4, z5, z6, z7⟩ := fr8_cell HZ.out; obtain ⟨f0, f1, f2, f3, f4, f5, f6, f7⟩ := fr8_frozen HZ.out; clear ha))
  refine bodyPost_ret (results_ct rfl _ _ _ 43 _ (0, 0) _ rfl (fr8_put HZ.out _ _ _ _ _ _ _ _) Try.underlying43 rfl (by kernel_rfl)) rfl ?_
  exact ⟨rfl, oneEnd HX.out HF.out HZ.out HN.out⟩
end Go.Proofs.Yteefnclkcnkbhaa.GClientExpires
