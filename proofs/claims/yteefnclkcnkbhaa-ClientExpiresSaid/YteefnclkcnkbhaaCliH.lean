import Derived.Test.YteefnclkcnkbhaaProg
import Derived.Below
import Derived.Deep.Draws
import Derived.Deep.AppendLies
import Derived.Maps.AppendAt
import Derived.OwnWalk
import Derived.Laws.BytesArg
import Derived.Laws.MakeOwn
import Derived.Laws.OwnMore
import Derived.Deep.OwnRows
import Derived.Tactics
import Derived.Lib.ConvBytes
import Derived.Laws.Slices
import Derived.WalkKit
import Derived.KernelRfl
import Derived.RowKit3
import Derived.Deep.LoopGhost
import Derived.Deep.QuietTactic
import Derived.BigQuiet
import Derived.WideLaws
import Derived.Deep.DeepCutAuto
import Derived.Deep.CutBlock
import Derived.Deep.RegionHeld3
import Derived.Laws.Rows
import Derived.Lib.AppendStr
import Derived.ArgAppend
import Derived.Laws.IdiomCopy
import Derived.OrdersHeld
import Derived.Laws.BitsLemmas
import Derived.RowKit
import Derived.Test.YteefnclkcnkbhaaWWords
import Derived.Test.YteefnclkcnkbhaaWLast
import Derived.Test.YteefnclkcnkbhaaWTab
import Derived.Test.YteefnclkcnkbhaaWFour
import Derived.Test.YteefnclkcnkbhaaWQPut
import Derived.Test.YteefnclkcnkbhaaWApart
import Derived.Test.YteefnclkcnkbhaaWArr
import Derived.Test.YteefnclkcnkbhaaWZeros
import Derived.Test.YteefnclkcnkbhaaWFoot
import Derived.Test.YteefnclkcnkbhaaWKept
import Derived.Test.YteefnclkcnkbhaaWShare
import Derived.Test.YteefnclkcnkbhaaWN
import Derived.Test.YteefnclkcnkbhaaWFootNe
import Derived.Test.YteefnclkcnkbhaaWAt
import Derived.Test.YteefnclkcnkbhaaWEqStruct
import Derived.Test.YteefnclkcnkbhaaWRepsOne
import Derived.Test.YteefnclkcnkbhaaWInv
import Derived.Test.YteefnclkcnkbhaaWInvWords
import Derived.Test.YteefnclkcnkbhaaWGuard
import Derived.Test.YteefnclkcnkbhaaWNEv
import Derived.Test.YteefnclkcnkbhaaWMore
import Derived.Deep.RegionLaw
import Derived.Laws.BitsAllLaws
import Derived.Lib.SliceRun
import Derived.Deep.RegionWith
import Derived.StillTailTactics
import Derived.Laws.CopyOwn
import Derived.Test.YteefnclkcnkbhaaCliA
import Derived.Test.YteefnclkcnkbhaaCliB
import Derived.Test.YteefnclkcnkbhaaCliC
import Derived.Test.YteefnclkcnkbhaaCliD
import Derived.Test.YteefnclkcnkbhaaCliE
import Derived.Test.YteefnclkcnkbhaaCliF
import Derived.Test.YteefnclkcnkbhaaCliG
namespace Go.Proofs.Yteefnclkcnkbhaa.GClientExpires
open Go.RowKit Go.Proofs.YteefnclkcnkbhaaW.PrintWords Go.Proofs.YteefnclkcnkbhaaW.PrintLast Go.Proofs.YteefnclkcnkbhaaW.PrintMore
attribute [local go_sem] max2_int min2_int max_two min_two max_three min_three max_four min_four   -- for this text's walks alone
set_option linter.unusedVariables false
set_option linter.unusedSimpArgs false



def hdOf (n : Int) : Int := if n = 1 ∨ n = 2 then 3 else if n = 3 then 1 else if n = 4 then 2 else 0
set_option maxHeartbeats 8000000 in
set_option maxRecDepth 100000 in
theorem headx_calls (g : Nat) (s : CS) (w : World) (h : At w g s) :
    Calls Try.prog 120 #[.pointer (some ⟨g, 0, none⟩)] w fun e w' => e = .returned (.int .u8 (hdOf s.waits)) ∧ w' = w := by
  obtain ⟨c0, c1, c2, c3, c4, c5, c6, c7, c8, c9⟩ := h.cell
  clear h c1 c2 c3 c4 c5 c6 c7 c8 c9
  by_cases h1 : s.waits = 1
  · rw [h1] at c0 ⊢
    go_enter Try.func120, Try.ntmps120
    go_wp2_with fail
    go_ret; exact ⟨by rw [show hdOf 1 = 3 from by decide]; rfl, rfl⟩
  by_cases h2 : s.waits = 2
  · rw [h2] at c0 ⊢
    go_enter Try.func120, Try.ntmps120
    go_wp2_with fail
    go_ret; exact ⟨by rw [show hdOf 2 = 3 from by decide]; rfl, rfl⟩
  by_cases h3 : s.waits = 3
  · rw [h3] at c0 ⊢
    go_enter Try.func120, Try.ntmps120
    go_wp2_with fail
    go_ret; exact ⟨by rw [show hdOf 3 = 1 from by decide]; rfl, rfl⟩
  by_cases h4 : s.waits = 4
  · rw [h4] at c0 ⊢
    go_enter Try.func120, Try.ntmps120
    go_wp2_with fail
    go_ret; exact ⟨by rw [show hdOf 4 = 2 from by decide]; rfl, rfl⟩
  · have b1 : (s.waits == 1) = false := by simpa using h1
    have b2 : (s.waits == 2) = false := by simpa using h2
    have b3 : (s.waits == 3) = false := by simpa using h3
    have b4 : (s.waits == 4) = false := by simpa using h4
    have HV : Aside0 (hdOf s.waits = 0) := Aside0.mk (by simp [hdOf, h1, h2, h3, h4])
    clear h1 h2 h3 h4
    go_enter Try.func120, Try.ntmps120
    go_wp2_with fail
    go_ret
    exact ⟨by rw [HV.out]; rfl, rfl⟩
theorem InvL.more {L n₀ g a : Nat} {s : CS} {W : World} (h : InvL L (W.drewN a) n₀ g s) (n : Nat) : InvL L (W.drewN (a + n)) n₀ g s := h
theorem Fr.more {n₀ g a : Nat} {w W : World} (h : Fr n₀ g w (W.drewN a)) (n : Nat) : Fr n₀ g w (W.drewN (a + n)) := ⟨⟨h.1.os, h.1.tape, h.1.output, h.1.size, h.1.block⟩, h.2.1, h.2.2⟩
theorem blk_more {W : World} {a k : Nat} {o : Option Obj} (h : (W.drewN a).heap[k]? = o) (n : Nat) : (W.drewN (a + n)).heap[k]? = o := h
set_option maxHeartbeats 8000000 in
set_option maxRecDepth 100000 in
theorem takes_calls (n₀ g : Nat) (s : CS) (x : Nat → Int) (w : World) (h : Inv w n₀ g s) (hx : ∀ i, 0 ≤ x i ∧ x i < 256) :
    Calls Try.prog 122 #[.pointer (some ⟨g, 0, none⟩), .agg (fr8 x)] w (FrPost n₀ g w) := by
  have hn : n₀ ≤ w.heap.size := Nat.le_trans h.2.1 (Nat.le_of_lt h.1.lt)
  have hg := h.1.lt
  have HI := Aside0.mk h
  have HN := Aside0.mk hn
  clear h hn
  unfold fr8
  have HXB := Aside0.mk hx
  clear hx
  by_cases hk : s.waits = 2
  · have HW4 := Aside0.mk (show (3 : Int) < 4 by decide)
    go_enter Try.func122, Try.ntmps122
    go_wp2_with ((with_reducible refine gate_dst (N := 9) rfl ?_); apply stopHere)
    refine ctStop (ctStart HI.out x) ?_
    rintro W ⟨hX, hF, hA, hZ⟩
    have HX := Aside0.mk hX
    have HF := Aside0.mk hF
    have HA := Aside0.mk hA
    have HZ := Aside0.mk hZ
    clear hX hF hA hZ
    obtain ⟨c0, c1, c2, c3, c4, c5, c6, c7, c8, c9⟩ := HX.out.1.cell; have k0 := HX.out.1.frozen 0; have k3 := HX.out.1.frozen 3; have k4 := HX.out.1.frozen 4; have k6 := HX.out.1.frozen 6; have ha := HA.out; unfold fr8 at ha; obtain ⟨d0, d1, d2, d3, d4, d5, d6, d7⟩ := fr8_cell ha; obtain ⟨z0, z1, z2, z3, z4, z5, z6, z7⟩ := fr8_cell HZ.out; obtain ⟨f0, f1, f2, f3, f4, f5, f6, f7⟩ := fr8_frozen HZ.out; clear ha
    rw [hk] at c0
    go_wp2_with fail
    have hD := inv_set0 HX.out 3 (.inl HW4.out)
    have hAD := other_blk HA.out (show w.heap.size ≠ g by omega) 0 (.int .i64 3)
    have hZD := other_blk HZ.out (show w.heap.size + 1 ≠ g by omega) 0 (.int .i64 3)
    refine (segment_calls n₀ g _ _ hD.1 HW4.out).mono ?_
    rintro e w3 ⟨⟨xx, rfl⟩, ⟨s3, hi3⟩, hf3⟩
    unfold fr8
    have ha2 := hf3.blk hAD (ne_of_at hD.1.1 hAD)
    have hz2 := hf3.blk hZD (ne_of_at hD.1.1 hZD)
    have hf2 := (HF.out.trans hD.2).trans hf3
    clear c0 c1 c2 c3 c4 c5 c6 c7 c8 c9 k0 k3 k4 k6 d0 d1 d2 d3 d4 d5 d6 d7 z0 z1 z2 z3 z4 z5 z6 z7 f0 f1 f2 f3 f4 f5 f6 f7
    clear HX HF HA HZ hAD hZD hD
    have HX := Aside0.mk hi3
    have HF := Aside0.mk hf2
    have HA := Aside0.mk ha2
    have HZ := Aside0.mk hz2
    clear hi3 hf2 ha2 hz2 hf3
    obtain ⟨c0, c1, c2, c3, c4, c5, c6, c7, c8, c9⟩ := HX.out.1.cell
    have k0 := HX.out.1.frozen 0
    have k3 := HX.out.1.frozen 3
    have k4 := HX.out.1.frozen 4
    have k6 := HX.out.1.frozen 6
    have ha := HA.out
    unfold fr8 at ha
    obtain ⟨d0, d1, d2, d3, d4, d5, d6, d7⟩ := fr8_cell ha
    obtain ⟨z0, z1, z2, z3, z4, z5, z6, z7⟩ := fr8_cell HZ.out
    obtain ⟨f0, f1, f2, f3, f4, f5, f6, f7⟩ := fr8_frozen HZ.out
    clear ha
    go_wp2_with fail
    refine bodyPost_ret (results_ct rfl _ _ _ 43 _ (0, 0) _ rfl (fr8_put HZ.out _ _ _ _ _ _ _ _) Try.underlying43 rfl (by kernel_rfl)) rfl ?_
    exact frEnd HX.out HF.out HZ.out HN.out _ _ _ _ _ _ _ _ _
  by_cases hk : s.waits = 3
  · cases hl : s.last
    · have HW4 := Aside0.mk (show s.waits < 4 by omega)
      go_enter Try.func122, Try.ntmps122
      go_wp2_with ((with_reducible refine gate_dst (N := 9) rfl ?_); apply stopHere)
      refine ctStop (ctStart HI.out x) ?_
      rintro W ⟨hX, hF, hA, hZ⟩
      have HX := Aside0.mk hX
      have HF := Aside0.mk hF
      have HA := Aside0.mk hA
      have HZ := Aside0.mk hZ
      clear hX hF hA hZ
      obtain ⟨c0, c1, c2, c3, c4, c5, c6, c7, c8, c9⟩ := HX.out.1.cell; have k0 := HX.out.1.frozen 0; have k3 := HX.out.1.frozen 3; have k4 := HX.out.1.frozen 4; have k6 := HX.out.1.frozen 6; have ha := HA.out; unfold fr8 at ha; obtain ⟨d0, d1, d2, d3, d4, d5, d6, d7⟩ := fr8_cell ha; obtain ⟨z0, z1, z2, z3, z4, z5, z6, z7⟩ := fr8_cell HZ.out; obtain ⟨f0, f1, f2, f3, f4, f5, f6, f7⟩ := fr8_frozen HZ.out; clear ha
      rw [hk] at c0
      rw [hl] at c5
      go_wp2_with fail
      have hD := (⟨inv_put4 HX.out (bits .xor .u8 s.turn 16), (Fr.refl n₀ g W).set HX.out.2.1 4 _⟩ : Inv (W.setCell ⟨g, 4, none⟩ (.int .u8 (bits .xor .u8 s.turn 16))) n₀ g { s with turn := bits .xor .u8 s.turn 16 } ∧ Fr n₀ g W (W.setCell ⟨g, 4, none⟩ (.int .u8 (bits .xor .u8 s.turn 16))))
      have hAD := other_blk HA.out (show w.heap.size ≠ g by omega) 4 (.int .u8 (bits .xor .u8 s.turn 16))
      have hZD := other_blk HZ.out (show w.heap.size + 1 ≠ g by omega) 4 (.int .u8 (bits .xor .u8 s.turn 16))
      refine (segment_calls n₀ g _ _ hD.1 HW4.out).mono ?_
      rintro e w3 ⟨⟨xx, rfl⟩, ⟨s3, hi3⟩, hf3⟩
      unfold fr8
      have ha2 := hf3.blk hAD (ne_of_at hD.1.1 hAD)
      have hz2 := hf3.blk hZD (ne_of_at hD.1.1 hZD)
      have hf2 := (HF.out.trans hD.2).trans hf3
      clear c0 c1 c2 c3 c4 c5 c6 c7 c8 c9 k0 k3 k4 k6 d0 d1 d2 d3 d4 d5 d6 d7 z0 z1 z2 z3 z4 z5 z6 z7 f0 f1 f2 f3 f4 f5 f6 f7
      clear HX HF HA HZ hAD hZD hD
      have HX := Aside0.mk hi3
      have HF := Aside0.mk hf2
      have HA := Aside0.mk ha2
      have HZ := Aside0.mk hz2
      clear hi3 hf2 ha2 hz2 hf3
      obtain ⟨c0, c1, c2, c3, c4, c5, c6, c7, c8, c9⟩ := HX.out.1.cell
      have k0 := HX.out.1.frozen 0
      have k3 := HX.out.1.frozen 3
      have k4 := HX.out.1.frozen 4
      have k6 := HX.out.1.frozen 6
      have ha := HA.out
      unfold fr8 at ha
      obtain ⟨d0, d1, d2, d3, d4, d5, d6, d7⟩ := fr8_cell ha
      obtain ⟨z0, z1, z2, z3, z4, z5, z6, z7⟩ := fr8_cell HZ.out
      obtain ⟨f0, f1, f2, f3, f4, f5, f6, f7⟩ := fr8_frozen HZ.out
      clear ha
      go_wp2_with fail
      refine bodyPost_ret (results_ct rfl _ _ _ 43 _ (0, 0) _ rfl (fr8_put HZ.out _ _ _ _ _ _ _ _) Try.underlying43 rfl (by kernel_rfl)) rfl ?_
      exact frEnd HX.out HF.out HZ.out HN.out _ _ _ _ _ _ _ _ _
    · skip
      go_enter Try.func122, Try.ntmps122
      go_wp2_with ((with_reducible refine gate_dst (N := 9) rfl ?_); apply stopHere)
      refine ctStop (ctStart HI.out x) ?_
      rintro W ⟨hX, hF, hA, hZ⟩
      have HX := Aside0.mk hX
      have HF := Aside0.mk hF
      have HA := Aside0.mk hA
      have HZ := Aside0.mk hZ
      clear hX hF hA hZ
      obtain ⟨c0, c1, c2, c3, c4, c5, c6, c7, c8, c9⟩ := HX.out.1.cell; have k0 := HX.out.1.frozen 0; have k3 := HX.out.1.frozen 3; have k4 := HX.out.1.frozen 4; have k6 := HX.out.1.frozen 6; have ha := HA.out; unfold fr8 at ha; obtain ⟨d0, d1, d2, d3, d4, d5, d6, d7⟩ := fr8_cell ha; obtain ⟨z0, z1, z2, z3, z4, z5, z6, z7⟩ := fr8_cell HZ.out; obtain ⟨f0, f1, f2, f3, f4, f5, f6, f7⟩ := fr8_frozen HZ.out; clear ha
      rw [hk] at c0
      rw [hl] at c5
      go_wp2_with (first | (go_at_call 118; refine (ends_calls n₀ g _ (.slice none 0 0) _ _ _ HX.out (Kd.Q_nil _ _ _ _ _)).mono ?_; rintro e w3 ⟨rfl, hi3, hf3⟩; have ha2 := hf3.blk HA.out (ne_of_at HX.out.1 HA.out); have hz2 := hf3.blk HZ.out (ne_of_at HX.out.1 HZ.out); have hf2 := HF.out.trans hf3; clear c0 c1 c2 c3 c4 c5 c6 c7 c8 c9 k0 k3 k4 k6 d0 d1 d2 d3 d4 d5 d6 d7 z0 z1 z2 z3 z4 z5 z6 z7 f0 f1 f2 f3 f4 f5 f6 f7; clear HX HF HA HZ; have HX := Aside0.mk hi3; have HF := Aside0.mk hf2; have HA := Aside0.mk ha2; have HZ := Aside0.mk hz2; clear hi3 hf2 ha2 hz2 hf3; obtain ⟨c0, c1, c2, c3, c4, c5, c6, c7, c8, c9⟩ := HX.out.1.cell; have k0 := HX.out.1.frozen 0; have k3 := HX.out.1.frozen 3; have k4 := HX.out.1.frozen 4; have k6 := HX.out.1.frozen 6; have ha := HA.out; unfold fr8 at ha; obtain ⟨d0, d1, d2, d3, d4, d5, d6, d7⟩ := fr8_cell ha; obtain ⟨z0, z1, z2, z3, z4, z5, z6, z7⟩ := fr8_cell HZ.out; obtain ⟨f0, f1, f2, f3, f4, f5, f6, f7⟩ := fr8_frozen HZ.out; clear ha))
      refine bodyPost_ret (results_ct rfl _ _ _ 43 _ (0, 0) _ rfl (fr8_put HZ.out _ _ _ _ _ _ _ _) Try.underlying43 rfl (by kernel_rfl)) rfl ?_
      exact frEnd HX.out HF.out HZ.out HN.out _ _ _ _ _ _ _ _ _
  by_cases hk : s.waits = 4
  · have HW := Aside0.mk (show 4 ≤ s.waits by omega)
    go_enter Try.func122, Try.ntmps122
    go_wp2_with ((with_reducible refine gate_dst (N := 9) rfl ?_); apply stopHere)
    refine ctStop (ctStart HI.out x) ?_
    rintro W ⟨hX, hF, hA, hZ⟩
    have HX := Aside0.mk hX
    have HF := Aside0.mk hF
    have HA := Aside0.mk hA
    have HZ := Aside0.mk hZ
    clear hX hF hA hZ
    obtain ⟨c0, c1, c2, c3, c4, c5, c6, c7, c8, c9⟩ := HX.out.1.cell; have k0 := HX.out.1.frozen 0; have k3 := HX.out.1.frozen 3; have k4 := HX.out.1.frozen 4; have k6 := HX.out.1.frozen 6; have ha := HA.out; unfold fr8 at ha; obtain ⟨d0, d1, d2, d3, d4, d5, d6, d7⟩ := fr8_cell ha; obtain ⟨z0, z1, z2, z3, z4, z5, z6, z7⟩ := fr8_cell HZ.out; obtain ⟨f0, f1, f2, f3, f4, f5, f6, f7⟩ := fr8_frozen HZ.out; clear ha
    rw [hk] at c0
    go_wp2_with (first | (go_at_call 160; refine (first_calls n₀ g s x _ HX.out HW.out HXB.out).mono ?_; rintro e w3 ⟨⟨xx, uu, rfl⟩, ⟨s3, hi3⟩, hf3⟩; unfold fr8; have ha2 := hf3.blk HA.out (ne_of_at HX.out.1 HA.out); have hz2 := hf3.blk HZ.out (ne_of_at HX.out.1 HZ.out); have hf2 := HF.out.trans hf3; clear c0 c1 c2 c3 c4 c5 c6 c7 c8 c9 k0 k3 k4 k6 d0 d1 d2 d3 d4 d5 d6 d7 z0 z1 z2 z3 z4 z5 z6 z7 f0 f1 f2 f3 f4 f5 f6 f7; clear HX HF HA HZ; have HX := Aside0.mk hi3; have HF := Aside0.mk hf2; have HA := Aside0.mk ha2; have HZ := Aside0.mk hz2; clear hi3 hf2 ha2 hz2 hf3; obtain ⟨c0, c1, c2, c3, c4, c5, c6, c7, c8, c9⟩ := HX.out.1.cell; have k0 := HX.out.1.frozen 0; have k3 := HX.out.1.frozen 3; have k4 := HX.out.1.frozen 4; have k6 := HX.out.1.frozen 6; have ha := HA.out; unfold fr8 at ha; obtain ⟨d0, d1, d2, d3, d4, d5, d6, d7⟩ := fr8_cell ha; obtain ⟨z0, z1, z2, z3, z4, z5, z6, z7⟩ := fr8_cell HZ.out; obtain ⟨f0, f1, f2, f3, f4, f5, f6, f7⟩ := fr8_frozen HZ.out; clear ha))
    refine bodyPost_ret (results_ct rfl _ _ _ 43 _ (0, 0) _ rfl (fr8_put HZ.out _ _ _ _ _ _ _ _) Try.underlying43 rfl (by kernel_rfl)) rfl ?_
    exact frEnd HX.out HF.out HZ.out HN.out _ _ _ _ _ _ _ _ _
  by_cases hk : s.waits = 5
  · have HW := Aside0.mk (show 4 ≤ s.waits by omega)
    go_enter Try.func122, Try.ntmps122
    go_wp2_with ((with_reducible refine gate_dst (N := 9) rfl ?_); apply stopHere)
    refine ctStop (ctStart HI.out x) ?_
    rintro W ⟨hX, hF, hA, hZ⟩
    have HX := Aside0.mk hX
    have HF := Aside0.mk hF
    have HA := Aside0.mk hA
    have HZ := Aside0.mk hZ
    clear hX hF hA hZ
    obtain ⟨c0, c1, c2, c3, c4, c5, c6, c7, c8, c9⟩ := HX.out.1.cell; have k0 := HX.out.1.frozen 0; have k3 := HX.out.1.frozen 3; have k4 := HX.out.1.frozen 4; have k6 := HX.out.1.frozen 6; have ha := HA.out; unfold fr8 at ha; obtain ⟨d0, d1, d2, d3, d4, d5, d6, d7⟩ := fr8_cell ha; obtain ⟨z0, z1, z2, z3, z4, z5, z6, z7⟩ := fr8_cell HZ.out; obtain ⟨f0, f1, f2, f3, f4, f5, f6, f7⟩ := fr8_frozen HZ.out; clear ha
    rw [hk] at c0
    go_wp2_with (first | (go_at_call 161; refine (further_calls n₀ g s x _ HX.out HW.out HXB.out).mono ?_; rintro e w3 ⟨⟨xx, uu, rfl⟩, ⟨s3, hi3⟩, hf3⟩; unfold fr8; have ha2 := hf3.blk HA.out (ne_of_at HX.out.1 HA.out); have hz2 := hf3.blk HZ.out (ne_of_at HX.out.1 HZ.out); have hf2 := HF.out.trans hf3; clear c0 c1 c2 c3 c4 c5 c6 c7 c8 c9 k0 k3 k4 k6 d0 d1 d2 d3 d4 d5 d6 d7 z0 z1 z2 z3 z4 z5 z6 z7 f0 f1 f2 f3 f4 f5 f6 f7; clear HX HF HA HZ; have HX := Aside0.mk hi3; have HF := Aside0.mk hf2; have HA := Aside0.mk ha2; have HZ := Aside0.mk hz2; clear hi3 hf2 ha2 hz2 hf3; obtain ⟨c0, c1, c2, c3, c4, c5, c6, c7, c8, c9⟩ := HX.out.1.cell; have k0 := HX.out.1.frozen 0; have k3 := HX.out.1.frozen 3; have k4 := HX.out.1.frozen 4; have k6 := HX.out.1.frozen 6; have ha := HA.out; unfold fr8 at ha; obtain ⟨d0, d1, d2, d3, d4, d5, d6, d7⟩ := fr8_cell ha; obtain ⟨z0, z1, z2, z3, z4, z5, z6, z7⟩ := fr8_cell HZ.out; obtain ⟨f0, f1, f2, f3, f4, f5, f6, f7⟩ := fr8_frozen HZ.out; clear ha))
    refine bodyPost_ret (results_ct rfl _ _ _ 43 _ (0, 0) _ rfl (fr8_put HZ.out _ _ _ _ _ _ _ _) Try.underlying43 rfl (by kernel_rfl)) rfl ?_
    exact frEnd HX.out HF.out HZ.out HN.out _ _ _ _ _ _ _ _ _
  have b2 : (s.waits == 2) = false := by simp; omega
  have b3 : (s.waits == 3) = false := by simp; omega
  have b4 : (s.waits == 4) = false := by simp; omega
  have b5 : (s.waits == 5) = false := by simp; omega
  go_enter Try.func122, Try.ntmps122
  go_wp2_with ((with_reducible refine gate_dst (N := 9) rfl ?_); apply stopHere)
  refine ctStop (ctStart HI.out x) ?_
  rintro W ⟨hX, hF, hA, hZ⟩
  have HX := Aside0.mk hX
  have HF := Aside0.mk hF
  have HA := Aside0.mk hA
  have HZ := Aside0.mk hZ
  clear hX hF hA hZ
  obtain ⟨c0, c1, c2, c3, c4, c5, c6, c7, c8, c9⟩ := HX.out.1.cell; have k0 := HX.out.1.frozen 0; have k3 := HX.out.1.frozen 3; have k4 := HX.out.1.frozen 4; have k6 := HX.out.1.frozen 6; have ha := HA.out; unfold fr8 at ha; obtain ⟨d0, d1, d2, d3, d4, d5, d6, d7⟩ := fr8_cell ha; obtain ⟨z0, z1, z2, z3, z4, z5, z6, z7⟩ := fr8_cell HZ.out; obtain ⟨f0, f1, f2, f3, f4, f5, f6, f7⟩ := fr8_frozen HZ.out; clear ha
  go_wp2_with (first | (go_at_call 118; refine (ends_calls n₀ g _ (.slice none 0 0) _ _ _ HX.out (Kd.Q_nil _ _ _ _ _)).mono ?_; rintro e w3 ⟨rfl, hi3, hf3⟩; have ha2 := hf3.blk HA.out (ne_of_at HX.out.1 HA.out); have hz2 := hf3.blk HZ.out (ne_of_at HX.out.1 HZ.out); have hf2 := HF.out.trans hf3; clear c0 c1 c2 c3 c4 c5 c6 c7 c8 c9 k0 k3 k4 k6 d0 d1 d2 d3 d4 d5 d6 d7 z0 z1 z2 z3 z4 z5 z6 z7 f0 f1 f2 f3 f4 f5 f6 f7; clear HX HF HA HZ; have HX := Aside0.mk hi3; have HF := Aside0.mk hf2; have HA := Aside0.mk ha2; have HZ := Aside0.mk hz2; clear hi3 hf2 ha2 hz2 hf3; obtain ⟨c0, c1, c2, c3, c4, c5, c6, c7, c8, c9⟩ := HX.out.1.cell; have k0 := HX.out.1.frozen 0; have k3 := HX.out.1.frozen 3; have k4 := HX.out.1.frozen 4; have k6 := HX.out.1.frozen 6; have ha := HA.out; unfold fr8 at ha; obtain ⟨d0, d1, d2, d3, d4, d5, d6, d7⟩ := fr8_cell ha; obtain ⟨z0, z1, z2, z3, z4, z5, z6, z7⟩ := fr8_cell HZ.out; obtain ⟨f0, f1, f2, f3, f4, f5, f6, f7⟩ := fr8_frozen HZ.out; clear ha))
  refine bodyPost_ret (results_ct rfl _ _ _ 43 _ (0, 0) _ rfl (fr8_put HZ.out _ _ _ _ _ _ _ _) Try.underlying43 rfl (by kernel_rfl)) rfl ?_
  exact frEnd HX.out HF.out HZ.out HN.out _ _ _ _ _ _ _ _ _
set_option maxHeartbeats 8000000 in
set_option maxRecDepth 100000 in
theorem feed_calls (n₀ g : Nat) (s : CS) (x : Nat → Int) (w : World) (h : Inv w n₀ g s) (hx : ∀ i, 0 ≤ x i ∧ x i < 256) :
    Calls Try.prog 66 #[.pointer (some ⟨g, 0, none⟩), .agg (fr8 x)] w (FrPost n₀ g w) := by
  have hn : n₀ ≤ w.heap.size := Nat.le_trans h.2.1 (Nat.le_of_lt h.1.lt)
  have hg := h.1.lt
  have HI := Aside0.mk h
  have HN := Aside0.mk hn
  clear h hn
  unfold fr8
  have hx0 := hx 0
  have HXB := Aside0.mk hx
  clear hx
  by_cases hk : s.waits = 0
  · skip
    go_enter Try.func66, Try.ntmps66
    go_wp2_with ((with_reducible refine gate_dst (N := 9) rfl ?_); apply stopHere)
    refine ctStop (ctStart HI.out x) ?_
    rintro W ⟨hX, hF, hA, hZ⟩
    have HX := Aside0.mk hX
    have HF := Aside0.mk hF
    have HA := Aside0.mk hA
    have HZ := Aside0.mk hZ
    clear hX hF hA hZ
    obtain ⟨c0, c1, c2, c3, c4, c5, c6, c7, c8, c9⟩ := HX.out.1.cell; have k0 := HX.out.1.frozen 0; have k3 := HX.out.1.frozen 3; have k4 := HX.out.1.frozen 4; have k6 := HX.out.1.frozen 6; have ha := HA.out; unfold fr8 at ha; obtain ⟨d0, d1, d2, d3, d4, d5, d6, d7⟩ := fr8_cell ha; obtain ⟨z0, z1, z2, z3, z4, z5, z6, z7⟩ := fr8_cell HZ.out; obtain ⟨f0, f1, f2, f3, f4, f5, f6, f7⟩ := fr8_frozen HZ.out; clear ha
    rw [hk] at c0
    go_wp2_with fail
    refine bodyPost_ret (results_ct rfl _ _ _ 43 _ (0, 0) _ rfl (fr8_put HZ.out _ _ _ _ _ _ _ _) Try.underlying43 rfl (by kernel_rfl)) rfl ?_
    exact frEnd HX.out HF.out HZ.out HN.out _ _ _ _ _ _ _ _ _
  have b0 : (s.waits == 0) = false := by simpa using hk
  have HK0 := Aside0.mk hk
  clear hk
  cases hd : (x 0 / 32 == 4)
  rotate_left
  · skip
    go_enter Try.func66, Try.ntmps66
    go_wp2_with ((with_reducible refine gate_dst (N := 9) rfl ?_); apply stopHere)
    refine ctStop (ctStart HI.out x) ?_
    rintro W ⟨hX, hF, hA, hZ⟩
    have HX := Aside0.mk hX
    have HF := Aside0.mk hF
    have HA := Aside0.mk hA
    have HZ := Aside0.mk hZ
    clear hX hF hA hZ
    obtain ⟨c0, c1, c2, c3, c4, c5, c6, c7, c8, c9⟩ := HX.out.1.cell; have k0 := HX.out.1.frozen 0; have k3 := HX.out.1.frozen 3; have k4 := HX.out.1.frozen 4; have k6 := HX.out.1.frozen 6; have ha := HA.out; unfold fr8 at ha; obtain ⟨d0, d1, d2, d3, d4, d5, d6, d7⟩ := fr8_cell ha; obtain ⟨z0, z1, z2, z3, z4, z5, z6, z7⟩ := fr8_cell HZ.out; obtain ⟨f0, f1, f2, f3, f4, f5, f6, f7⟩ := fr8_frozen HZ.out; clear ha
    go_wp2_with (first | (go_at_call 119; refine (number_calls x _).mono ?_; rintro e w2 ⟨⟨nn, rfl⟩, hb2⟩; have ha2 := (hb2.block _ (blk_lt HA.out)).trans HA.out; have hz2 := (hb2.block _ (blk_lt HZ.out)).trans HZ.out; have hx2 := HX.out.below hb2; have hf2 := HF.out.below HN.out hb2; clear c0 c1 c2 c3 c4 c5 c6 c7 c8 c9 k0 k3 k4 k6 d0 d1 d2 d3 d4 d5 d6 d7 z0 z1 z2 z3 z4 z5 z6 z7 f0 f1 f2 f3 f4 f5 f6 f7; clear HX HF HA HZ; have HX := Aside0.mk hx2; have HF := Aside0.mk hf2; have HA := Aside0.mk ha2; have HZ := Aside0.mk hz2; clear hx2 hf2 ha2 hz2 hb2; obtain ⟨c0, c1, c2, c3, c4, c5, c6, c7, c8, c9⟩ := HX.out.1.cell; have k0 := HX.out.1.frozen 0; have k3 := HX.out.1.frozen 3; have k4 := HX.out.1.frozen 4; have k6 := HX.out.1.frozen 6; have ha := HA.out; unfold fr8 at ha; obtain ⟨d0, d1, d2, d3, d4, d5, d6, d7⟩ := fr8_cell ha; obtain ⟨z0, z1, z2, z3, z4, z5, z6, z7⟩ := fr8_cell HZ.out; obtain ⟨f0, f1, f2, f3, f4, f5, f6, f7⟩ := fr8_frozen HZ.out; clear ha) | (go_at_call 118; refine (ends_calls n₀ g _ (.slice none 0 0) _ _ _ HX.out (Kd.Q_nil _ _ _ _ _)).mono ?_; rintro e w3 ⟨rfl, hi3, hf3⟩; have ha2 := hf3.blk HA.out (ne_of_at HX.out.1 HA.out); have hz2 := hf3.blk HZ.out (ne_of_at HX.out.1 HZ.out); have hf2 := HF.out.trans hf3; clear c0 c1 c2 c3 c4 c5 c6 c7 c8 c9 k0 k3 k4 k6 d0 d1 d2 d3 d4 d5 d6 d7 z0 z1 z2 z3 z4 z5 z6 z7 f0 f1 f2 f3 f4 f5 f6 f7; clear HX HF HA HZ; have HX := Aside0.mk hi3; have HF := Aside0.mk hf2; have HA := Aside0.mk ha2; have HZ := Aside0.mk hz2; clear hi3 hf2 ha2 hz2 hf3; obtain ⟨c0, c1, c2, c3, c4, c5, c6, c7, c8, c9⟩ := HX.out.1.cell; have k0 := HX.out.1.frozen 0; have k3 := HX.out.1.frozen 3; have k4 := HX.out.1.frozen 4; have k6 := HX.out.1.frozen 6; have ha := HA.out; unfold fr8 at ha; obtain ⟨d0, d1, d2, d3, d4, d5, d6, d7⟩ := fr8_cell ha; obtain ⟨z0, z1, z2, z3, z4, z5, z6, z7⟩ := fr8_cell HZ.out; obtain ⟨f0, f1, f2, f3, f4, f5, f6, f7⟩ := fr8_frozen HZ.out; clear ha))
    refine bodyPost_ret (results_ct rfl _ _ _ 43 _ (0, 0) _ rfl (fr8_put HZ.out _ _ _ _ _ _ _ _) Try.underlying43 rfl (by kernel_rfl)) rfl ?_
    exact frEnd HX.out HF.out HZ.out HN.out _ _ _ _ _ _ _ _ _
  cases hh : (x 0 / 32 != hdOf s.waits)
  rotate_left
  · skip
    go_enter Try.func66, Try.ntmps66
    go_wp2_with ((with_reducible refine gate_dst (N := 9) rfl ?_); apply stopHere)
    refine ctStop (ctStart HI.out x) ?_
    rintro W ⟨hX, hF, hA, hZ⟩
    have HX := Aside0.mk hX
    have HF := Aside0.mk hF
    have HA := Aside0.mk hA
    have HZ := Aside0.mk hZ
    clear hX hF hA hZ
    obtain ⟨c0, c1, c2, c3, c4, c5, c6, c7, c8, c9⟩ := HX.out.1.cell; have k0 := HX.out.1.frozen 0; have k3 := HX.out.1.frozen 3; have k4 := HX.out.1.frozen 4; have k6 := HX.out.1.frozen 6; have ha := HA.out; unfold fr8 at ha; obtain ⟨d0, d1, d2, d3, d4, d5, d6, d7⟩ := fr8_cell ha; obtain ⟨z0, z1, z2, z3, z4, z5, z6, z7⟩ := fr8_cell HZ.out; obtain ⟨f0, f1, f2, f3, f4, f5, f6, f7⟩ := fr8_frozen HZ.out; clear ha
    go_wp2_with fail
    go_quiet ((go_at_call 120; exact Calls.quiet_of_same (headx_calls g s _ HX.out.1)))
    have HX2 := Aside0.mk (InvL.drewN HX.out nq); have HF2 := Aside0.mk (Fr.drewN HF.out nq); have HA2 := Aside0.mk (blk_drewN HA.out nq); have HZ2 := Aside0.mk (blk_drewN HZ.out nq); clear HX HF HA HZ; have HX := HX2; have HF := HF2; have HA := HA2; have HZ := HZ2; clear HX2 HF2 HA2 HZ2
    go_wp2_with (first | (go_at_call 70; refine (gives_calls n₀ g _ 84148225 _ HX.out).mono ?_; rintro e w3 ⟨⟨xx, rfl⟩, hi3, hf3⟩; unfold fr8; have ha2 := hf3.blk HA.out (ne_of_at HX.out.1 HA.out); have hz2 := hf3.blk HZ.out (ne_of_at HX.out.1 HZ.out); have hf2 := HF.out.trans hf3; clear c0 c1 c2 c3 c4 c5 c6 c7 c8 c9 k0 k3 k4 k6 d0 d1 d2 d3 d4 d5 d6 d7 z0 z1 z2 z3 z4 z5 z6 z7 f0 f1 f2 f3 f4 f5 f6 f7; clear HX HF HA HZ; have HX := Aside0.mk hi3; have HF := Aside0.mk hf2; have HA := Aside0.mk ha2; have HZ := Aside0.mk hz2; clear hi3 hf2 ha2 hz2 hf3; obtain ⟨c0, c1, c2, c3, c4, c5, c6, c7, c8, c9⟩ := HX.out.1.cell; have k0 := HX.out.1.frozen 0; have k3 := HX.out.1.frozen 3; have k4 := HX.out.1.frozen 4; have k6 := HX.out.1.frozen 6; have ha := HA.out; unfold fr8 at ha; obtain ⟨d0, d1, d2, d3, d4, d5, d6, d7⟩ := fr8_cell ha; obtain ⟨z0, z1, z2, z3, z4, z5, z6, z7⟩ := fr8_cell HZ.out; obtain ⟨f0, f1, f2, f3, f4, f5, f6, f7⟩ := fr8_frozen HZ.out; clear ha))
    refine bodyPost_ret (results_ct rfl _ _ _ 43 _ (0, 0) _ rfl (fr8_put HZ.out _ _ _ _ _ _ _ _) Try.underlying43 rfl (by kernel_rfl)) rfl ?_
    exact frEnd HX.out HF.out HZ.out HN.out _ _ _ _ _ _ _ _ _
  by_cases hk : s.waits = 3
  · have HK := Aside0.mk hk
    clear hk
    cases ht : (bits .and .u8 (x 0) 16 != s.turn)
    rotate_left
    · skip
      go_enter Try.func66, Try.ntmps66
      go_wp2_with ((with_reducible refine gate_dst (N := 9) rfl ?_); apply stopHere)
      refine ctStop (ctStart HI.out x) ?_
      rintro W ⟨hX, hF, hA, hZ⟩
      have HX := Aside0.mk hX
      have HF := Aside0.mk hF
      have HA := Aside0.mk hA
      have HZ := Aside0.mk hZ
      clear hX hF hA hZ
      obtain ⟨c0, c1, c2, c3, c4, c5, c6, c7, c8, c9⟩ := HX.out.1.cell; have k0 := HX.out.1.frozen 0; have k3 := HX.out.1.frozen 3; have k4 := HX.out.1.frozen 4; have k6 := HX.out.1.frozen 6; have ha := HA.out; unfold fr8 at ha; obtain ⟨d0, d1, d2, d3, d4, d5, d6, d7⟩ := fr8_cell ha; obtain ⟨z0, z1, z2, z3, z4, z5, z6, z7⟩ := fr8_cell HZ.out; obtain ⟨f0, f1, f2, f3, f4, f5, f6, f7⟩ := fr8_frozen HZ.out; clear ha
      go_wp2_with fail
      go_quiet ((go_at_call 120; exact Calls.quiet_of_same (headx_calls g s _ HX.out.1)))
      have HX2 := Aside0.mk (InvL.drewN HX.out nq); have HF2 := Aside0.mk (Fr.drewN HF.out nq); have HA2 := Aside0.mk (blk_drewN HA.out nq); have HZ2 := Aside0.mk (blk_drewN HZ.out nq); clear HX HF HA HZ; have HX := HX2; have HF := HF2; have HA := HA2; have HZ := HZ2; clear HX2 HF2 HA2 HZ2
      rw [HK.out] at c0
      go_wp2_with fail
      go_quiet (fail)
      have HX2 := Aside0.mk (InvL.more HX.out nq); have HF2 := Aside0.mk (Fr.more HF.out nq); have HA2 := Aside0.mk (blk_more HA.out nq); have HZ2 := Aside0.mk (blk_more HZ.out nq); clear HX HF HA HZ; have HX := HX2; have HF := HF2; have HA := HA2; have HZ := HZ2; clear HX2 HF2 HA2 HZ2
      go_wp2_with (first | (go_at_call 70; refine (gives_calls n₀ g _ 84082688 _ HX.out).mono ?_; rintro e w3 ⟨⟨xx, rfl⟩, hi3, hf3⟩; unfold fr8; have ha2 := hf3.blk HA.out (ne_of_at HX.out.1 HA.out); have hz2 := hf3.blk HZ.out (ne_of_at HX.out.1 HZ.out); have hf2 := HF.out.trans hf3; clear c0 c1 c2 c3 c4 c5 c6 c7 c8 c9 k0 k3 k4 k6 d0 d1 d2 d3 d4 d5 d6 d7 z0 z1 z2 z3 z4 z5 z6 z7 f0 f1 f2 f3 f4 f5 f6 f7; clear HX HF HA HZ; have HX := Aside0.mk hi3; have HF := Aside0.mk hf2; have HA := Aside0.mk ha2; have HZ := Aside0.mk hz2; clear hi3 hf2 ha2 hz2 hf3; obtain ⟨c0, c1, c2, c3, c4, c5, c6, c7, c8, c9⟩ := HX.out.1.cell; have k0 := HX.out.1.frozen 0; have k3 := HX.out.1.frozen 3; have k4 := HX.out.1.frozen 4; have k6 := HX.out.1.frozen 6; have ha := HA.out; unfold fr8 at ha; obtain ⟨d0, d1, d2, d3, d4, d5, d6, d7⟩ := fr8_cell ha; obtain ⟨z0, z1, z2, z3, z4, z5, z6, z7⟩ := fr8_cell HZ.out; obtain ⟨f0, f1, f2, f3, f4, f5, f6, f7⟩ := fr8_frozen HZ.out; clear ha))
      refine bodyPost_ret (results_ct rfl _ _ _ 43 _ (0, 0) _ rfl (fr8_put HZ.out _ _ _ _ _ _ _ _) Try.underlying43 rfl (by kernel_rfl)) rfl ?_
      exact frEnd HX.out HF.out HZ.out HN.out _ _ _ _ _ _ _ _ _
    · skip
      go_enter Try.func66, Try.ntmps66
      go_wp2_with ((with_reducible refine gate_dst (N := 9) rfl ?_); apply stopHere)
      refine ctStop (ctStart HI.out x) ?_
      rintro W ⟨hX, hF, hA, hZ⟩
      have HX := Aside0.mk hX
      have HF := Aside0.mk hF
      have HA := Aside0.mk hA
      have HZ := Aside0.mk hZ
      clear hX hF hA hZ
      obtain ⟨c0, c1, c2, c3, c4, c5, c6, c7, c8, c9⟩ := HX.out.1.cell; have k0 := HX.out.1.frozen 0; have k3 := HX.out.1.frozen 3; have k4 := HX.out.1.frozen 4; have k6 := HX.out.1.frozen 6; have ha := HA.out; unfold fr8 at ha; obtain ⟨d0, d1, d2, d3, d4, d5, d6, d7⟩ := fr8_cell ha; obtain ⟨z0, z1, z2, z3, z4, z5, z6, z7⟩ := fr8_cell HZ.out; obtain ⟨f0, f1, f2, f3, f4, f5, f6, f7⟩ := fr8_frozen HZ.out; clear ha
      go_wp2_with fail
      go_quiet ((go_at_call 120; exact Calls.quiet_of_same (headx_calls g s _ HX.out.1)))
      have HX2 := Aside0.mk (InvL.drewN HX.out nq); have HF2 := Aside0.mk (Fr.drewN HF.out nq); have HA2 := Aside0.mk (blk_drewN HA.out nq); have HZ2 := Aside0.mk (blk_drewN HZ.out nq); clear HX HF HA HZ; have HX := HX2; have HF := HF2; have HA := HA2; have HZ := HZ2; clear HX2 HF2 HA2 HZ2
      rw [HK.out] at c0
      go_wp2_with fail
      go_quiet (fail)
      have HX2 := Aside0.mk (InvL.more HX.out nq); have HF2 := Aside0.mk (Fr.more HF.out nq); have HA2 := Aside0.mk (blk_more HA.out nq); have HZ2 := Aside0.mk (blk_more HZ.out nq); clear HX HF HA HZ; have HX := HX2; have HF := HF2; have HA := HA2; have HZ := HZ2; clear HX2 HF2 HA2 HZ2
      go_wp2_with (first | (go_at_call 122; refine (takes_calls n₀ g s x _ HX.out HXB.out).mono ?_; rintro e w3 ⟨⟨xx, uu, rfl⟩, ⟨s3, hi3⟩, hf3⟩; unfold fr8; have ha2 := hf3.blk HA.out (ne_of_at HX.out.1 HA.out); have hz2 := hf3.blk HZ.out (ne_of_at HX.out.1 HZ.out); have hf2 := HF.out.trans hf3; clear c0 c1 c2 c3 c4 c5 c6 c7 c8 c9 k0 k3 k4 k6 d0 d1 d2 d3 d4 d5 d6 d7 z0 z1 z2 z3 z4 z5 z6 z7 f0 f1 f2 f3 f4 f5 f6 f7; clear HX HF HA HZ; have HX := Aside0.mk hi3; have HF := Aside0.mk hf2; have HA := Aside0.mk ha2; have HZ := Aside0.mk hz2; clear hi3 hf2 ha2 hz2 hf3; obtain ⟨c0, c1, c2, c3, c4, c5, c6, c7, c8, c9⟩ := HX.out.1.cell; have k0 := HX.out.1.frozen 0; have k3 := HX.out.1.frozen 3; have k4 := HX.out.1.frozen 4; have k6 := HX.out.1.frozen 6; have ha := HA.out; unfold fr8 at ha; obtain ⟨d0, d1, d2, d3, d4, d5, d6, d7⟩ := fr8_cell ha; obtain ⟨z0, z1, z2, z3, z4, z5, z6, z7⟩ := fr8_cell HZ.out; obtain ⟨f0, f1, f2, f3, f4, f5, f6, f7⟩ := fr8_frozen HZ.out; clear ha))
      refine bodyPost_ret (results_ct rfl _ _ _ 43 _ (0, 0) _ rfl (fr8_put HZ.out _ _ _ _ _ _ _ _) Try.underlying43 rfl (by kernel_rfl)) rfl ?_
      exact frEnd HX.out HF.out HZ.out HN.out _ _ _ _ _ _ _ _ _
  by_cases hk : s.waits = 5
  · have HK := Aside0.mk hk
    clear hk
    cases ht : (bits .and .u8 (x 0) 16 != s.turn)
    rotate_left
    · skip
      go_enter Try.func66, Try.ntmps66
      go_wp2_with ((with_reducible refine gate_dst (N := 9) rfl ?_); apply stopHere)
      refine ctStop (ctStart HI.out x) ?_
      rintro W ⟨hX, hF, hA, hZ⟩
      have HX := Aside0.mk hX
      have HF := Aside0.mk hF
      have HA := Aside0.mk hA
      have HZ := Aside0.mk hZ
      clear hX hF hA hZ
      obtain ⟨c0, c1, c2, c3, c4, c5, c6, c7, c8, c9⟩ := HX.out.1.cell; have k0 := HX.out.1.frozen 0; have k3 := HX.out.1.frozen 3; have k4 := HX.out.1.frozen 4; have k6 := HX.out.1.frozen 6; have ha := HA.out; unfold fr8 at ha; obtain ⟨d0, d1, d2, d3, d4, d5, d6, d7⟩ := fr8_cell ha; obtain ⟨z0, z1, z2, z3, z4, z5, z6, z7⟩ := fr8_cell HZ.out; obtain ⟨f0, f1, f2, f3, f4, f5, f6, f7⟩ := fr8_frozen HZ.out; clear ha
      go_wp2_with fail
      go_quiet ((go_at_call 120; exact Calls.quiet_of_same (headx_calls g s _ HX.out.1)))
      have HX2 := Aside0.mk (InvL.drewN HX.out nq); have HF2 := Aside0.mk (Fr.drewN HF.out nq); have HA2 := Aside0.mk (blk_drewN HA.out nq); have HZ2 := Aside0.mk (blk_drewN HZ.out nq); clear HX HF HA HZ; have HX := HX2; have HF := HF2; have HA := HA2; have HZ := HZ2; clear HX2 HF2 HA2 HZ2
      rw [HK.out] at c0
      go_wp2_with fail
      go_quiet (fail)
      have HX2 := Aside0.mk (InvL.more HX.out nq); have HF2 := Aside0.mk (Fr.more HF.out nq); have HA2 := Aside0.mk (blk_more HA.out nq); have HZ2 := Aside0.mk (blk_more HZ.out nq); clear HX HF HA HZ; have HX := HX2; have HF := HF2; have HA := HA2; have HZ := HZ2; clear HX2 HF2 HA2 HZ2
      go_wp2_with (first | (go_at_call 70; refine (gives_calls n₀ g _ 84082688 _ HX.out).mono ?_; rintro e w3 ⟨⟨xx, rfl⟩, hi3, hf3⟩; unfold fr8; have ha2 := hf3.blk HA.out (ne_of_at HX.out.1 HA.out); have hz2 := hf3.blk HZ.out (ne_of_at HX.out.1 HZ.out); have hf2 := HF.out.trans hf3; clear c0 c1 c2 c3 c4 c5 c6 c7 c8 c9 k0 k3 k4 k6 d0 d1 d2 d3 d4 d5 d6 d7 z0 z1 z2 z3 z4 z5 z6 z7 f0 f1 f2 f3 f4 f5 f6 f7; clear HX HF HA HZ; have HX := Aside0.mk hi3; have HF := Aside0.mk hf2; have HA := Aside0.mk ha2; have HZ := Aside0.mk hz2; clear hi3 hf2 ha2 hz2 hf3; obtain ⟨c0, c1, c2, c3, c4, c5, c6, c7, c8, c9⟩ := HX.out.1.cell; have k0 := HX.out.1.frozen 0; have k3 := HX.out.1.frozen 3; have k4 := HX.out.1.frozen 4; have k6 := HX.out.1.frozen 6; have ha := HA.out; unfold fr8 at ha; obtain ⟨d0, d1, d2, d3, d4, d5, d6, d7⟩ := fr8_cell ha; obtain ⟨z0, z1, z2, z3, z4, z5, z6, z7⟩ := fr8_cell HZ.out; obtain ⟨f0, f1, f2, f3, f4, f5, f6, f7⟩ := fr8_frozen HZ.out; clear ha))
      refine bodyPost_ret (results_ct rfl _ _ _ 43 _ (0, 0) _ rfl (fr8_put HZ.out _ _ _ _ _ _ _ _) Try.underlying43 rfl (by kernel_rfl)) rfl ?_
      exact frEnd HX.out HF.out HZ.out HN.out _ _ _ _ _ _ _ _ _
    · skip
      go_enter Try.func66, Try.ntmps66
      go_wp2_with ((with_reducible refine gate_dst (N := 9) rfl ?_); apply stopHere)
      refine ctStop (ctStart HI.out x) ?_
      rintro W ⟨hX, hF, hA, hZ⟩
      have HX := Aside0.mk hX
      have HF := Aside0.mk hF
      have HA := Aside0.mk hA
      have HZ := Aside0.mk hZ
      clear hX hF hA hZ
      obtain ⟨c0, c1, c2, c3, c4, c5, c6, c7, c8, c9⟩ := HX.out.1.cell; have k0 := HX.out.1.frozen 0; have k3 := HX.out.1.frozen 3; have k4 := HX.out.1.frozen 4; have k6 := HX.out.1.frozen 6; have ha := HA.out; unfold fr8 at ha; obtain ⟨d0, d1, d2, d3, d4, d5, d6, d7⟩ := fr8_cell ha; obtain ⟨z0, z1, z2, z3, z4, z5, z6, z7⟩ := fr8_cell HZ.out; obtain ⟨f0, f1, f2, f3, f4, f5, f6, f7⟩ := fr8_frozen HZ.out; clear ha
      go_wp2_with fail
      go_quiet ((go_at_call 120; exact Calls.quiet_of_same (headx_calls g s _ HX.out.1)))
      have HX2 := Aside0.mk (InvL.drewN HX.out nq); have HF2 := Aside0.mk (Fr.drewN HF.out nq); have HA2 := Aside0.mk (blk_drewN HA.out nq); have HZ2 := Aside0.mk (blk_drewN HZ.out nq); clear HX HF HA HZ; have HX := HX2; have HF := HF2; have HA := HA2; have HZ := HZ2; clear HX2 HF2 HA2 HZ2
      rw [HK.out] at c0
      go_wp2_with fail
      go_quiet (fail)
      have HX2 := Aside0.mk (InvL.more HX.out nq); have HF2 := Aside0.mk (Fr.more HF.out nq); have HA2 := Aside0.mk (blk_more HA.out nq); have HZ2 := Aside0.mk (blk_more HZ.out nq); clear HX HF HA HZ; have HX := HX2; have HF := HF2; have HA := HA2; have HZ := HZ2; clear HX2 HF2 HA2 HZ2
      go_wp2_with (first | (go_at_call 122; refine (takes_calls n₀ g s x _ HX.out HXB.out).mono ?_; rintro e w3 ⟨⟨xx, uu, rfl⟩, ⟨s3, hi3⟩, hf3⟩; unfold fr8; have ha2 := hf3.blk HA.out (ne_of_at HX.out.1 HA.out); have hz2 := hf3.blk HZ.out (ne_of_at HX.out.1 HZ.out); have hf2 := HF.out.trans hf3; clear c0 c1 c2 c3 c4 c5 c6 c7 c8 c9 k0 k3 k4 k6 d0 d1 d2 d3 d4 d5 d6 d7 z0 z1 z2 z3 z4 z5 z6 z7 f0 f1 f2 f3 f4 f5 f6 f7; clear HX HF HA HZ; have HX := Aside0.mk hi3; have HF := Aside0.mk hf2; have HA := Aside0.mk ha2; have HZ := Aside0.mk hz2; clear hi3 hf2 ha2 hz2 hf3; obtain ⟨c0, c1, c2, c3, c4, c5, c6, c7, c8, c9⟩ := HX.out.1.cell; have k0 := HX.out.1.frozen 0; have k3 := HX.out.1.frozen 3; have k4 := HX.out.1.frozen 4; have k6 := HX.out.1.frozen 6; have ha := HA.out; unfold fr8 at ha; obtain ⟨d0, d1, d2, d3, d4, d5, d6, d7⟩ := fr8_cell ha; obtain ⟨z0, z1, z2, z3, z4, z5, z6, z7⟩ := fr8_cell HZ.out; obtain ⟨f0, f1, f2, f3, f4, f5, f6, f7⟩ := fr8_frozen HZ.out; clear ha))
      refine bodyPost_ret (results_ct rfl _ _ _ 43 _ (0, 0) _ rfl (fr8_put HZ.out _ _ _ _ _ _ _ _) Try.underlying43 rfl (by kernel_rfl)) rfl ?_
      exact frEnd HX.out HF.out HZ.out HN.out _ _ _ _ _ _ _ _ _
  have b3 : (s.waits == 3) = false := by simp; omega
  have b5 : (s.waits == 5) = false := by simp; omega
  go_enter Try.func66, Try.ntmps66
  go_wp2_with ((with_reducible refine gate_dst (N := 9) rfl ?_); apply stopHere)
  refine ctStop (ctStart HI.out x) ?_
  rintro W ⟨hX, hF, hA, hZ⟩
  have HX := Aside0.mk hX
  have HF := Aside0.mk hF
  have HA := Aside0.mk hA
  have HZ := Aside0.mk hZ
  clear hX hF hA hZ
  obtain ⟨c0, c1, c2, c3, c4, c5, c6, c7, c8, c9⟩ := HX.out.1.cell; have k0 := HX.out.1.frozen 0; have k3 := HX.out.1.frozen 3; have k4 := HX.out.1.frozen 4; have k6 := HX.out.1.frozen 6; have ha := HA.out; unfold fr8 at ha; obtain ⟨d0, d1, d2, d3, d4, d5, d6, d7⟩ := fr8_cell ha; obtain ⟨z0, z1, z2, z3, z4, z5, z6, z7⟩ := fr8_cell HZ.out; obtain ⟨f0, f1, f2, f3, f4, f5, f6, f7⟩ := fr8_frozen HZ.out; clear ha
  go_wp2_with fail
  go_quiet ((go_at_call 120; exact Calls.quiet_of_same (headx_calls g s _ HX.out.1)))
  have HX2 := Aside0.mk (InvL.drewN HX.out nq); have HF2 := Aside0.mk (Fr.drewN HF.out nq); have HA2 := Aside0.mk (blk_drewN HA.out nq); have HZ2 := Aside0.mk (blk_drewN HZ.out nq); clear HX HF HA HZ; have HX := HX2; have HF := HF2; have HA := HA2; have HZ := HZ2; clear HX2 HF2 HA2 HZ2
  go_wp2_with (first | (go_at_call 121; refine (here_calls g s x _ HX.out.1).mono ?_; rintro e w2 ⟨⟨bb, rfl⟩, hb2⟩; have ha2 := (hb2.block _ (blk_lt HA.out)).trans HA.out; have hz2 := (hb2.block _ (blk_lt HZ.out)).trans HZ.out; have hx2 := HX.out.below hb2; have hf2 := HF.out.below HN.out hb2; clear c0 c1 c2 c3 c4 c5 c6 c7 c8 c9 k0 k3 k4 k6 d0 d1 d2 d3 d4 d5 d6 d7 z0 z1 z2 z3 z4 z5 z6 z7 f0 f1 f2 f3 f4 f5 f6 f7; clear HX HF HA HZ; have HX := Aside0.mk hx2; have HF := Aside0.mk hf2; have HA := Aside0.mk ha2; have HZ := Aside0.mk hz2; clear hx2 hf2 ha2 hz2 hb2; obtain ⟨c0, c1, c2, c3, c4, c5, c6, c7, c8, c9⟩ := HX.out.1.cell; have k0 := HX.out.1.frozen 0; have k3 := HX.out.1.frozen 3; have k4 := HX.out.1.frozen 4; have k6 := HX.out.1.frozen 6; have ha := HA.out; unfold fr8 at ha; obtain ⟨d0, d1, d2, d3, d4, d5, d6, d7⟩ := fr8_cell ha; obtain ⟨z0, z1, z2, z3, z4, z5, z6, z7⟩ := fr8_cell HZ.out; obtain ⟨f0, f1, f2, f3, f4, f5, f6, f7⟩ := fr8_frozen HZ.out; clear ha; cases bb) | (go_at_call 70; refine (gives_calls n₀ g _ 84148225 _ HX.out).mono ?_; rintro e w3 ⟨⟨xx, rfl⟩, hi3, hf3⟩; unfold fr8; have ha2 := hf3.blk HA.out (ne_of_at HX.out.1 HA.out); have hz2 := hf3.blk HZ.out (ne_of_at HX.out.1 HZ.out); have hf2 := HF.out.trans hf3; clear c0 c1 c2 c3 c4 c5 c6 c7 c8 c9 k0 k3 k4 k6 d0 d1 d2 d3 d4 d5 d6 d7 z0 z1 z2 z3 z4 z5 z6 z7 f0 f1 f2 f3 f4 f5 f6 f7; clear HX HF HA HZ; have HX := Aside0.mk hi3; have HF := Aside0.mk hf2; have HA := Aside0.mk ha2; have HZ := Aside0.mk hz2; clear hi3 hf2 ha2 hz2 hf3; obtain ⟨c0, c1, c2, c3, c4, c5, c6, c7, c8, c9⟩ := HX.out.1.cell; have k0 := HX.out.1.frozen 0; have k3 := HX.out.1.frozen 3; have k4 := HX.out.1.frozen 4; have k6 := HX.out.1.frozen 6; have ha := HA.out; unfold fr8 at ha; obtain ⟨d0, d1, d2, d3, d4, d5, d6, d7⟩ := fr8_cell ha; obtain ⟨z0, z1, z2, z3, z4, z5, z6, z7⟩ := fr8_cell HZ.out; obtain ⟨f0, f1, f2, f3, f4, f5, f6, f7⟩ := fr8_frozen HZ.out; clear ha) | (go_at_call 122; refine (takes_calls n₀ g s x _ HX.out HXB.out).mono ?_; rintro e w3 ⟨⟨xx, uu, rfl⟩, ⟨s3, hi3⟩, hf3⟩; unfold fr8; have ha2 := hf3.blk HA.out (ne_of_at HX.out.1 HA.out); have hz2 := hf3.blk HZ.out (ne_of_at HX.out.1 HZ.out); have hf2 := HF.out.trans hf3; clear c0 c1 c2 c3 c4 c5 c6 c7 c8 c9 k0 k3 k4 k6 d0 d1 d2 d3 d4 d5 d6 d7 z0 z1 z2 z3 z4 z5 z6 z7 f0 f1 f2 f3 f4 f5 f6 f7; clear HX HF HA HZ; have HX := Aside0.mk hi3; have HF := Aside0.mk hf2; have HA := Aside0.mk ha2; have HZ := Aside0.mk hz2; clear hi3 hf2 ha2 hz2 hf3; obtain ⟨c0, c1, c2, c3, c4, c5, c6, c7, c8, c9⟩ := HX.out.1.cell; have k0 := HX.out.1.frozen 0; have k3 := HX.out.1.frozen 3; have k4 := HX.out.1.frozen 4; have k6 := HX.out.1.frozen 6; have ha := HA.out; unfold fr8 at ha; obtain ⟨d0, d1, d2, d3, d4, d5, d6, d7⟩ := fr8_cell ha; obtain ⟨z0, z1, z2, z3, z4, z5, z6, z7⟩ := fr8_cell HZ.out; obtain ⟨f0, f1, f2, f3, f4, f5, f6, f7⟩ := fr8_frozen HZ.out; clear ha))
  all_goals (
    refine bodyPost_ret (results_ct rfl _ _ _ 43 _ (0, 0) _ rfl (fr8_put HZ.out _ _ _ _ _ _ _ _) Try.underlying43 rfl (by kernel_rfl)) rfl ?_
    exact frEnd HX.out HF.out HZ.out HN.out _ _ _ _ _ _ _ _ _)
end Go.Proofs.Yteefnclkcnkbhaa.GClientExpires
