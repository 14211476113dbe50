import Derived.Test.YteefnclkcnkbhaaProg
import Derived.Below
import Derived.Deep.Draws
import Derived.Deep.AppendLies
import Derived.Maps.AppendAt
import Derived.OwnWalk
import Derived.Laws.BytesArg
import Derived.Laws.MakeOwn
import Derived.Laws.OwnMore
import Derived.Deep.OwnRows
import Derived.Tactics
import Derived.Lib.ConvBytes
import Derived.Laws.Slices
import Derived.WalkKit
import Derived.KernelRfl
import Derived.RowKit3
import Derived.Deep.LoopGhost
import Derived.Deep.QuietTactic
import Derived.BigQuiet
import Derived.WideLaws
import Derived.Deep.DeepCutAuto
import Derived.Deep.CutBlock
import Derived.Deep.RegionHeld3
import Derived.Laws.Rows
import Derived.Lib.AppendStr
import Derived.ArgAppend
import Derived.Laws.IdiomCopy
import Derived.OrdersHeld
import Derived.Laws.BitsLemmas
import Derived.RowKit
import Derived.Test.YteefnclkcnkbhaaWWords
import Derived.Test.YteefnclkcnkbhaaWLast
import Derived.Test.YteefnclkcnkbhaaWTab
import Derived.Test.YteefnclkcnkbhaaWFour
import Derived.Test.YteefnclkcnkbhaaWQPut
import Derived.Test.YteefnclkcnkbhaaWApart
import Derived.Test.YteefnclkcnkbhaaWArr
import Derived.Test.YteefnclkcnkbhaaWZeros
import Derived.Test.YteefnclkcnkbhaaWFoot
import Derived.Test.YteefnclkcnkbhaaWKept
import Derived.Test.YteefnclkcnkbhaaWShare
import Derived.Test.YteefnclkcnkbhaaWN
import Derived.Test.YteefnclkcnkbhaaWFootNe
import Derived.Test.YteefnclkcnkbhaaWAt
import Derived.Test.YteefnclkcnkbhaaWEqStruct
import Derived.Test.YteefnclkcnkbhaaWRepsOne
import Derived.Test.YteefnclkcnkbhaaWInv
import Derived.Test.YteefnclkcnkbhaaWInvWords
import Derived.Test.YteefnclkcnkbhaaWGuard
import Derived.Test.YteefnclkcnkbhaaWNEv
import Derived.Test.YteefnclkcnkbhaaWMore
import Derived.Deep.RegionLaw
import Derived.Laws.BitsAllLaws
import Derived.Lib.SliceRun
import Derived.Deep.RegionWith
import Derived.StillTailTactics
import Derived.Laws.CopyOwn
import Derived.Test.YteefnclkcnkbhaaCliA
import Derived.Test.YteefnclkcnkbhaaCliB
import Derived.Test.YteefnclkcnkbhaaCliC
import Derived.Test.YteefnclkcnkbhaaCliD
import Derived.Test.YteefnclkcnkbhaaCliE
namespace Go.Proofs.Yteefnclkcnkbhaa.GClientExpires
open Go.RowKit Go.Proofs.YteefnclkcnkbhaaW.PrintWords Go.Proofs.YteefnclkcnkbhaaW.PrintLast Go.Proofs.YteefnclkcnkbhaaW.PrintMore
attribute [local go_sem] max2_int min2_int max_two min_two max_three min_three max_four min_four   -- for this text's walks alone
set_option linter.unusedVariables false
set_option linter.unusedSimpArgs false



def CtP (n₀ g : Nat) (s : CS) (x : Nat → Int) (w W : World) : Prop := Inv W n₀ g s ∧ Fr n₀ g w W ∧ W.heap[w.heap.size]? = some (.cells (fr8 x) 43 (0, 0)) ∧ W.heap[w.heap.size + 1]? = some (.cells zero8 43 (0, 0))
theorem ctStart {n₀ g : Nat} {s : CS} {w : World} (h : Inv w n₀ g s) (x : Nat → Int) : CtP n₀ g s x w ((w.alloc (.cells #[.int .u8 (x 0), .int .u8 (x 1), .int .u8 (x 2), .int .u8 (x 3), .int .u8 (x 4), .int .u8 (x 5), .int .u8 (x 6), .int .u8 (x 7)] 43)).alloc (Obj.cells #[.int .u8 0, .int .u8 0, .int .u8 0, .int .u8 0, .int .u8 0, .int .u8 0, .int .u8 0, .int .u8 0] 43)) := by
  have hn : n₀ ≤ w.heap.size := Nat.le_trans h.2.1 (Nat.le_of_lt h.1.lt)
  exact ⟨(h.alloc _).alloc _, ((Fr.refl n₀ g w).alloc hn _).alloc hn _, blk_alloc (blk_new _ _) _, alloc_blk (w.heap.size + 1) (by simp) rfl⟩
theorem ctStop {n₀ g : Nat} {s : CS} {x : Nat → Int} {w W : World} {P : Program} {ops : Array Oper} {rest : List Oper} {a : Act} {Q : Exit → Act → World → Prop} (h : CtP n₀ g s x w W) (k : ∀ W, CtP n₀ g s x w W → wpList P ops Q rest a W) : id (wpList P ops Q rest a W) := k W h
theorem fr8_res (a b c d e f p q : Int) (v : Bool) : ∃ x u, Ending.returned (.tuple #[.agg #[.int .u8 a, .int .u8 b, .int .u8 c, .int .u8 d, .int .u8 e, .int .u8 f, .int .u8 p, .int .u8 q], .bool v]) = .returned (.tuple #[.agg (fr8 x), .bool u]) := by
  obtain ⟨x, hx⟩ := fr8_mk a b c d e f p q
  exact ⟨x, v, by rw [hx]⟩
def FrPost (n₀ g : Nat) (w : World) (e : Ending) (w' : World) : Prop := (∃ x u, e = .returned (.tuple #[.agg (fr8 x), .bool u])) ∧ (∃ s', Inv w' n₀ g s') ∧ Fr n₀ g w w'
theorem frEnd {n₀ g : Nat} {s : CS} {w W : World} (hI : Inv W n₀ g s) (hF : Fr n₀ g w W) (hZ : W.heap[w.heap.size + 1]? = some (.cells zero8 43 (0, 0))) (hn : n₀ ≤ w.heap.size) (a b c d e f p q : Int) (v : Bool) :
    FrPost n₀ g w (.returned (.tuple #[.agg #[.int .u8 a, .int .u8 b, .int .u8 c, .int .u8 d, .int .u8 e, .int .u8 f, .int .u8 p, .int .u8 q], .bool v])) ((((((((W.setCell ⟨w.heap.size + 1, 0, none⟩ (.int .u8 a)).setCell ⟨w.heap.size + 1, 1, none⟩ (.int .u8 b)).setCell ⟨w.heap.size + 1, 2, none⟩ (.int .u8 c)).setCell ⟨w.heap.size + 1, 3, none⟩ (.int .u8 d)).setCell ⟨w.heap.size + 1, 4, none⟩ (.int .u8 e)).setCell ⟨w.heap.size + 1, 5, none⟩ (.int .u8 f)).setCell ⟨w.heap.size + 1, 6, none⟩ (.int .u8 p)).setCell ⟨w.heap.size + 1, 7, none⟩ (.int .u8 q)) :=
  ⟨fr8_res _ _ _ _ _ _ _ _ _, ⟨_, (inv_box hI hZ hF (Nat.le_succ _) hn _ _ _ _ _ _ _ _).1⟩, (inv_box hI hZ hF (Nat.le_succ _) hn _ _ _ _ _ _ _ _).2⟩
theorem box_C {W : World} {r : Nat} {x : Nat → Int} (h : W.heap[r]? = some (.cells (fr8 x) 43 (0, 0))) (o n : Nat) (hn : o + n ≤ 8) : (Kd.int .u8).C W (some ⟨r, o, none⟩) n ((List.range n).map fun j => x (o + j)) := by
  refine Kd.C_of_reads (d := 0) ⟨by simp, by omega, fun _ => ⟨⟨r, o, none⟩, rfl, fun j hj => ?_⟩⟩
  have ha : (⟨r, o, none⟩ : Addr).add j = ⟨r, o + j, none⟩ := by
    cases j with
    | zero => rfl
    | succ j => rfl
  rw [ha]
  have hc : W.cell? ⟨r, o + j, none⟩ = (fr8 x)[o + j]? := by simp [World.cell?, h]
  rw [hc]
  have hget : ((List.range n).map fun j => x (o + j)).getD j 0 = x (o + j) := by simp [List.getD_eq_getElem?_getD, hj]
  rw [hget]
  have hlt : o + j < 8 := by omega
  generalize o + j = m at hlt ⊢
  match m, hlt with
  | 0, _ => rfl
  | 1, _ => rfl
  | 2, _ => rfl
  | 3, _ => rfl
  | 4, _ => rfl
  | 5, _ => rfl
  | 6, _ => rfl
  | 7, _ => rfl
theorem clone_box {W : World} {r : Nat} {x : Nat → Int} (h : W.heap[r]? = some (.cells (fr8 x) 43 (0, 0))) (o n c : Nat) (hn : o + n ≤ 8) (hc : n ≤ c) :
    Calls Try.prog 60 #[.slice (some ⟨r, o, none⟩) n c] W fun e w' => ∃ v, e = .returned v ∧ (∃ ys, Kd.R (Kd.int .u8) 5 w' W.heap.size (fun _ => True) v ys) ∧ Below W.heap.size W w' := by
  have hl : ((List.range n).map fun j => x (o + j)).length = n := by simp
  have hC := box_C h o n hn
  have hC' : (Kd.int .u8).C W (some ⟨r, o, none⟩) ((List.range n).map fun j => x (o + j)).length ((List.range n).map fun j => x (o + j)) := by rw [hl]; exact hC
  have := slices_Clone_byte_byte.calls (some ⟨r, o, none⟩) c _ _ W hC' (by rw [hl]; exact hc) (by unfold slices_Clone_byte_byte.f; rw [if_pos (by rw [hl]; omega)])
  rw [hl] at this
  exact this.mono fun e w' ⟨v, h1, h2, h3⟩ => ⟨v, h1, ⟨_, h2⟩, h3⟩
theorem and3 (a : Int) (h0 : 0 ≤ a) (h1 : a < 256) : bits .and .u8 (a / 4) 3 = a / 4 % 4 := by
  obtain ⟨A, rfl⟩ := Int.eq_ofNat_of_zero_le h0
  have e : ((A : Int) / 4) = ((A / 4 : Nat) : Int) := by omega
  have := u8_and_nat (A / 4) 3 (by omega) (by omega)
  rw [e, show (3 : Int) = ((3 : Nat) : Int) from rfl, this, nat_mask2]
  omega
theorem and7 (a : Int) (h0 : 0 ≤ a) (h1 : a < 256) : bits .and .u8 (a / 2) 7 = a / 2 % 8 := by
  obtain ⟨A, rfl⟩ := Int.eq_ofNat_of_zero_le h0
  have e : ((A : Int) / 2) = ((A / 2 : Nat) : Int) := by omega
  have := u8_and_nat (A / 2) 7 (by omega) (by omega)
  rw [e, show (7 : Int) = ((7 : Nat) : Int) from rfl, this, nat_mask3]
  omega
set_option maxHeartbeats 8000000 in
set_option maxRecDepth 100000 in
theorem first_calls (n₀ g : Nat) (s : CS) (x : Nat → Int) (w : World) (h : Inv w n₀ g s) (h4 : 4 ≤ s.waits) (hx : ∀ i, 0 ≤ x i ∧ x i < 256) :
    Calls Try.prog 160 #[.pointer (some ⟨g, 0, none⟩), .agg (fr8 x)] w (FrPost n₀ g w) := by
  have hn : n₀ ≤ w.heap.size := Nat.le_trans h.2.1 (Nat.le_of_lt h.1.lt)
  have hg := h.1.lt
  have HI := Aside0.mk h
  have HN := Aside0.mk hn
  clear h hn
  unfold fr8
  have HH4 := Aside0.mk h4
  have ha3 := and3 (x 0) (hx 0).1 (hx 0).2
  have hm : x 0 / 4 % 4 = 0 ∨ x 0 / 4 % 4 = 1 ∨ x 0 / 4 % 4 = 2 ∨ x 0 / 4 % 4 = 3 := by omega
  have hx0 := hx 0
  clear h4
  cases hb2 : (bits .and .u8 (x 0) 2 != 0)
  · cases hb1 : (bits .and .u8 (x 0) 1 == 1)
    · clear hm ha3
      go_enter Try.func160, Try.ntmps160
      go_wp2_with ((with_reducible refine gate_dst (N := 7) rfl ?_); apply stopHere)
      refine ctStop (ctStart HI.out x) ?_
      rintro W ⟨hX, hF, hA, hZ⟩
      have HX := Aside0.mk hX
      have HF := Aside0.mk hF
      have HA := Aside0.mk hA
      have HZ := Aside0.mk hZ
      clear hX hF hA hZ
      obtain ⟨c0, c1, c2, c3, c4, c5, c6, c7, c8, c9⟩ := HX.out.1.cell; have k0 := HX.out.1.frozen 0; have k3 := HX.out.1.frozen 3; have k4 := HX.out.1.frozen 4; have k6 := HX.out.1.frozen 6; have ha := HA.out; unfold fr8 at ha; obtain ⟨d0, d1, d2, d3, d4, d5, d6, d7⟩ := fr8_cell ha; obtain ⟨z0, z1, z2, z3, z4, z5, z6, z7⟩ := fr8_cell HZ.out; obtain ⟨f0, f1, f2, f3, f4, f5, f6, f7⟩ := fr8_frozen HZ.out; clear ha
      go_wp2_with (first | (go_at_call 119; refine (number_calls x _).mono ?_; rintro e w2 ⟨⟨nn, rfl⟩, hb2⟩; have ha2 := (hb2.block _ (blk_lt HA.out)).trans HA.out; have hz2 := (hb2.block _ (blk_lt HZ.out)).trans HZ.out; have hx2 := HX.out.below hb2; have hf2 := HF.out.below HN.out hb2; clear c0 c1 c2 c3 c4 c5 c6 c7 c8 c9 k0 k3 k4 k6 d0 d1 d2 d3 d4 d5 d6 d7 z0 z1 z2 z3 z4 z5 z6 z7 f0 f1 f2 f3 f4 f5 f6 f7; clear HX HF HA HZ; have HX := Aside0.mk hx2; have HF := Aside0.mk hf2; have HA := Aside0.mk ha2; have HZ := Aside0.mk hz2; clear hx2 hf2 ha2 hz2 hb2; obtain ⟨c0, c1, c2, c3, c4, c5, c6, c7, c8, c9⟩ := HX.out.1.cell; have k0 := HX.out.1.frozen 0; have k3 := HX.out.1.frozen 3; have k4 := HX.out.1.frozen 4; have k6 := HX.out.1.frozen 6; have ha := HA.out; unfold fr8 at ha; obtain ⟨d0, d1, d2, d3, d4, d5, d6, d7⟩ := fr8_cell ha; obtain ⟨z0, z1, z2, z3, z4, z5, z6, z7⟩ := fr8_cell HZ.out; obtain ⟨f0, f1, f2, f3, f4, f5, f6, f7⟩ := fr8_frozen HZ.out; clear ha) | (go_at_call 70; refine (gives_calls n₀ g _ 84148229 _ HX.out).mono ?_; rintro e w3 ⟨⟨xx, rfl⟩, hi3, hf3⟩; unfold fr8; have ha2 := hf3.blk HA.out (ne_of_at HX.out.1 HA.out); have hz2 := hf3.blk HZ.out (ne_of_at HX.out.1 HZ.out); have hf2 := HF.out.trans hf3; clear c0 c1 c2 c3 c4 c5 c6 c7 c8 c9 k0 k3 k4 k6 d0 d1 d2 d3 d4 d5 d6 d7 z0 z1 z2 z3 z4 z5 z6 z7 f0 f1 f2 f3 f4 f5 f6 f7; clear HX HF HA HZ; have HX := Aside0.mk hi3; have HF := Aside0.mk hf2; have HA := Aside0.mk ha2; have HZ := Aside0.mk hz2; clear hi3 hf2 ha2 hz2 hf3; obtain ⟨c0, c1, c2, c3, c4, c5, c6, c7, c8, c9⟩ := HX.out.1.cell; have k0 := HX.out.1.frozen 0; have k3 := HX.out.1.frozen 3; have k4 := HX.out.1.frozen 4; have k6 := HX.out.1.frozen 6; have ha := HA.out; unfold fr8 at ha; obtain ⟨d0, d1, d2, d3, d4, d5, d6, d7⟩ := fr8_cell ha; obtain ⟨z0, z1, z2, z3, z4, z5, z6, z7⟩ := fr8_cell HZ.out; obtain ⟨f0, f1, f2, f3, f4, f5, f6, f7⟩ := fr8_frozen HZ.out; clear ha))
      have hD := inv_set0 HX.out 5 (.inr (HX.out.2.2.2.1 HH4.out))
      have hzD := other_blk HZ.out (show w.heap.size + 1 ≠ g by omega) 0 (.int .i64 5)
      refine bodyPost_ret (results_ct rfl _ _ _ 43 _ (0, 0) _ rfl (fr8_put hzD _ _ _ _ _ _ _ _) Try.underlying43 rfl (by kernel_rfl)) rfl ?_
      exact frEnd hD.1 (HF.out.trans hD.2) hzD HN.out _ _ _ _ _ _ _ _ _
    · clear hm ha3
      go_enter Try.func160, Try.ntmps160
      go_wp2_with ((with_reducible refine gate_dst (N := 7) rfl ?_); apply stopHere)
      refine ctStop (ctStart HI.out x) ?_
      rintro W ⟨hX, hF, hA, hZ⟩
      have HX := Aside0.mk hX
      have HF := Aside0.mk hF
      have HA := Aside0.mk hA
      have HZ := Aside0.mk hZ
      clear hX hF hA hZ
      obtain ⟨c0, c1, c2, c3, c4, c5, c6, c7, c8, c9⟩ := HX.out.1.cell; have k0 := HX.out.1.frozen 0; have k3 := HX.out.1.frozen 3; have k4 := HX.out.1.frozen 4; have k6 := HX.out.1.frozen 6; have ha := HA.out; unfold fr8 at ha; obtain ⟨d0, d1, d2, d3, d4, d5, d6, d7⟩ := fr8_cell ha; obtain ⟨z0, z1, z2, z3, z4, z5, z6, z7⟩ := fr8_cell HZ.out; obtain ⟨f0, f1, f2, f3, f4, f5, f6, f7⟩ := fr8_frozen HZ.out; clear ha
      go_wp2_with (first | (go_at_call 119; refine (number_calls x _).mono ?_; rintro e w2 ⟨⟨nn, rfl⟩, hb2⟩; have ha2 := (hb2.block _ (blk_lt HA.out)).trans HA.out; have hz2 := (hb2.block _ (blk_lt HZ.out)).trans HZ.out; have hx2 := HX.out.below hb2; have hf2 := HF.out.below HN.out hb2; clear c0 c1 c2 c3 c4 c5 c6 c7 c8 c9 k0 k3 k4 k6 d0 d1 d2 d3 d4 d5 d6 d7 z0 z1 z2 z3 z4 z5 z6 z7 f0 f1 f2 f3 f4 f5 f6 f7; clear HX HF HA HZ; have HX := Aside0.mk hx2; have HF := Aside0.mk hf2; have HA := Aside0.mk ha2; have HZ := Aside0.mk hz2; clear hx2 hf2 ha2 hz2 hb2; obtain ⟨c0, c1, c2, c3, c4, c5, c6, c7, c8, c9⟩ := HX.out.1.cell; have k0 := HX.out.1.frozen 0; have k3 := HX.out.1.frozen 3; have k4 := HX.out.1.frozen 4; have k6 := HX.out.1.frozen 6; have ha := HA.out; unfold fr8 at ha; obtain ⟨d0, d1, d2, d3, d4, d5, d6, d7⟩ := fr8_cell ha; obtain ⟨z0, z1, z2, z3, z4, z5, z6, z7⟩ := fr8_cell HZ.out; obtain ⟨f0, f1, f2, f3, f4, f5, f6, f7⟩ := fr8_frozen HZ.out; clear ha) | (go_at_call 70; refine (gives_calls n₀ g _ 84148229 _ HX.out).mono ?_; rintro e w3 ⟨⟨xx, rfl⟩, hi3, hf3⟩; unfold fr8; have ha2 := hf3.blk HA.out (ne_of_at HX.out.1 HA.out); have hz2 := hf3.blk HZ.out (ne_of_at HX.out.1 HZ.out); have hf2 := HF.out.trans hf3; clear c0 c1 c2 c3 c4 c5 c6 c7 c8 c9 k0 k3 k4 k6 d0 d1 d2 d3 d4 d5 d6 d7 z0 z1 z2 z3 z4 z5 z6 z7 f0 f1 f2 f3 f4 f5 f6 f7; clear HX HF HA HZ; have HX := Aside0.mk hi3; have HF := Aside0.mk hf2; have HA := Aside0.mk ha2; have HZ := Aside0.mk hz2; clear hi3 hf2 ha2 hz2 hf3; obtain ⟨c0, c1, c2, c3, c4, c5, c6, c7, c8, c9⟩ := HX.out.1.cell; have k0 := HX.out.1.frozen 0; have k3 := HX.out.1.frozen 3; have k4 := HX.out.1.frozen 4; have k6 := HX.out.1.frozen 6; have ha := HA.out; unfold fr8 at ha; obtain ⟨d0, d1, d2, d3, d4, d5, d6, d7⟩ := fr8_cell ha; obtain ⟨z0, z1, z2, z3, z4, z5, z6, z7⟩ := fr8_cell HZ.out; obtain ⟨f0, f1, f2, f3, f4, f5, f6, f7⟩ := fr8_frozen HZ.out; clear ha))
      · refine bodyPost_ret (results_ct rfl _ _ _ 43 _ (0, 0) _ rfl (fr8_put HZ.out _ _ _ _ _ _ _ _) Try.underlying43 rfl (by kernel_rfl)) rfl ?_
        exact frEnd HX.out HF.out HZ.out HN.out _ _ _ _ _ _ _ _ _
      · have h6 := inv_put6 HX.out (wrap64 nn)
        have hz6 := other_blk HZ.out (show w.heap.size + 1 ≠ g by omega) 6 (.int .i64 (wrap64 nn))
        have hD := inv_set0 h6 5 (.inr (h6.2.2.2.1 HH4.out))
        have hzD := other_blk hz6 (show w.heap.size + 1 ≠ g by omega) 0 (.int .i64 5)
        refine bodyPost_ret (results_ct rfl _ _ _ 43 _ (0, 0) _ rfl (fr8_put hzD _ _ _ _ _ _ _ _) Try.underlying43 rfl (by kernel_rfl)) rfl ?_
        exact frEnd hD.1 ((HF.out.set HX.out.2.1 6 _).trans hD.2) hzD HN.out _ _ _ _ _ _ _ _ _
  · cases hb1 : (bits .and .u8 (x 0) 1 == 1)
    · clear hm ha3
      go_enter Try.func160, Try.ntmps160
      go_wp2_with ((with_reducible refine gate_dst (N := 7) rfl ?_); apply stopHere)
      refine ctStop (ctStart HI.out x) ?_
      rintro W ⟨hX, hF, hA, hZ⟩
      have HX := Aside0.mk hX
      have HF := Aside0.mk hF
      have HA := Aside0.mk hA
      have HZ := Aside0.mk hZ
      clear hX hF hA hZ
      obtain ⟨c0, c1, c2, c3, c4, c5, c6, c7, c8, c9⟩ := HX.out.1.cell; have k0 := HX.out.1.frozen 0; have k3 := HX.out.1.frozen 3; have k4 := HX.out.1.frozen 4; have k6 := HX.out.1.frozen 6; have ha := HA.out; unfold fr8 at ha; obtain ⟨d0, d1, d2, d3, d4, d5, d6, d7⟩ := fr8_cell ha; obtain ⟨z0, z1, z2, z3, z4, z5, z6, z7⟩ := fr8_cell HZ.out; obtain ⟨f0, f1, f2, f3, f4, f5, f6, f7⟩ := fr8_frozen HZ.out; clear ha
      go_wp2_with (first | (go_at_call 60; refine (clone_box HA.out _ _ _ (by decide) (by decide)).mono ?_; rintro e w2 ⟨v, rfl, ⟨ys, hv⟩, hb2⟩; obtain ⟨Av, cv, rfl⟩ := Kd.R_slice hv; have HV := Aside0.mk (show BQ w2 n₀ (.slice Av ys.length cv) ys from Kd.Q_lower (Kd.Q_of_R hv) (Nat.le_trans HN.out HF.out.2.1)); clear hv; have ha2 := (hb2.block _ (blk_lt HA.out)).trans HA.out; have hz2 := (hb2.block _ (blk_lt HZ.out)).trans HZ.out; have hx2 := HX.out.below hb2; have hf2 := HF.out.below HN.out hb2; clear c0 c1 c2 c3 c4 c5 c6 c7 c8 c9 k0 k3 k4 k6 d0 d1 d2 d3 d4 d5 d6 d7 z0 z1 z2 z3 z4 z5 z6 z7 f0 f1 f2 f3 f4 f5 f6 f7; clear HX HF HA HZ; have HX := Aside0.mk hx2; have HF := Aside0.mk hf2; have HA := Aside0.mk ha2; have HZ := Aside0.mk hz2; clear hx2 hf2 ha2 hz2 hb2; obtain ⟨c0, c1, c2, c3, c4, c5, c6, c7, c8, c9⟩ := HX.out.1.cell; have k0 := HX.out.1.frozen 0; have k3 := HX.out.1.frozen 3; have k4 := HX.out.1.frozen 4; have k6 := HX.out.1.frozen 6; have ha := HA.out; unfold fr8 at ha; obtain ⟨d0, d1, d2, d3, d4, d5, d6, d7⟩ := fr8_cell ha; obtain ⟨z0, z1, z2, z3, z4, z5, z6, z7⟩ := fr8_cell HZ.out; obtain ⟨f0, f1, f2, f3, f4, f5, f6, f7⟩ := fr8_frozen HZ.out; clear ha) | (go_at_call 118; refine (ends_calls n₀ g _ (.slice Av ys.length cv) _ _ _ HX.out HV.out).mono ?_; rintro e w3 ⟨rfl, hi3, hf3⟩; have ha2 := hf3.blk HA.out (ne_of_at HX.out.1 HA.out); have hz2 := hf3.blk HZ.out (ne_of_at HX.out.1 HZ.out); have hf2 := HF.out.trans hf3; clear c0 c1 c2 c3 c4 c5 c6 c7 c8 c9 k0 k3 k4 k6 d0 d1 d2 d3 d4 d5 d6 d7 z0 z1 z2 z3 z4 z5 z6 z7 f0 f1 f2 f3 f4 f5 f6 f7; clear HX HF HA HZ; have HX := Aside0.mk hi3; have HF := Aside0.mk hf2; have HA := Aside0.mk ha2; have HZ := Aside0.mk hz2; clear hi3 hf2 ha2 hz2 hf3; obtain ⟨c0, c1, c2, c3, c4, c5, c6, c7, c8, c9⟩ := HX.out.1.cell; have k0 := HX.out.1.frozen 0; have k3 := HX.out.1.frozen 3; have k4 := HX.out.1.frozen 4; have k6 := HX.out.1.frozen 6; have ha := HA.out; unfold fr8 at ha; obtain ⟨d0, d1, d2, d3, d4, d5, d6, d7⟩ := fr8_cell ha; obtain ⟨z0, z1, z2, z3, z4, z5, z6, z7⟩ := fr8_cell HZ.out; obtain ⟨f0, f1, f2, f3, f4, f5, f6, f7⟩ := fr8_frozen HZ.out; clear ha))
      refine bodyPost_ret (results_ct rfl _ _ _ 43 _ (0, 0) _ rfl (fr8_put HZ.out _ _ _ _ _ _ _ _) Try.underlying43 rfl (by kernel_rfl)) rfl ?_
      exact frEnd HX.out HF.out HZ.out HN.out _ _ _ _ _ _ _ _ _
    · rcases hm with hm | hm | hm | hm
      all_goals (
        rw [hm] at ha3
        go_enter Try.func160, Try.ntmps160
        go_wp2_with ((with_reducible refine gate_dst (N := 7) rfl ?_); apply stopHere)
        refine ctStop (ctStart HI.out x) ?_
        rintro W ⟨hX, hF, hA, hZ⟩
        have HX := Aside0.mk hX
        have HF := Aside0.mk hF
        have HA := Aside0.mk hA
        have HZ := Aside0.mk hZ
        clear hX hF hA hZ
        obtain ⟨c0, c1, c2, c3, c4, c5, c6, c7, c8, c9⟩ := HX.out.1.cell; have k0 := HX.out.1.frozen 0; have k3 := HX.out.1.frozen 3; have k4 := HX.out.1.frozen 4; have k6 := HX.out.1.frozen 6; have ha := HA.out; unfold fr8 at ha; obtain ⟨d0, d1, d2, d3, d4, d5, d6, d7⟩ := fr8_cell ha; obtain ⟨z0, z1, z2, z3, z4, z5, z6, z7⟩ := fr8_cell HZ.out; obtain ⟨f0, f1, f2, f3, f4, f5, f6, f7⟩ := fr8_frozen HZ.out; clear ha
        go_wp2_with (first | (go_at_call 60; refine (clone_box HA.out _ _ _ (by decide) (by decide)).mono ?_; rintro e w2 ⟨v, rfl, ⟨ys, hv⟩, hb2⟩; obtain ⟨Av, cv, rfl⟩ := Kd.R_slice hv; have HV := Aside0.mk (show BQ w2 n₀ (.slice Av ys.length cv) ys from Kd.Q_lower (Kd.Q_of_R hv) (Nat.le_trans HN.out HF.out.2.1)); clear hv; have ha2 := (hb2.block _ (blk_lt HA.out)).trans HA.out; have hz2 := (hb2.block _ (blk_lt HZ.out)).trans HZ.out; have hx2 := HX.out.below hb2; have hf2 := HF.out.below HN.out hb2; clear c0 c1 c2 c3 c4 c5 c6 c7 c8 c9 k0 k3 k4 k6 d0 d1 d2 d3 d4 d5 d6 d7 z0 z1 z2 z3 z4 z5 z6 z7 f0 f1 f2 f3 f4 f5 f6 f7; clear HX HF HA HZ; have HX := Aside0.mk hx2; have HF := Aside0.mk hf2; have HA := Aside0.mk ha2; have HZ := Aside0.mk hz2; clear hx2 hf2 ha2 hz2 hb2; obtain ⟨c0, c1, c2, c3, c4, c5, c6, c7, c8, c9⟩ := HX.out.1.cell; have k0 := HX.out.1.frozen 0; have k3 := HX.out.1.frozen 3; have k4 := HX.out.1.frozen 4; have k6 := HX.out.1.frozen 6; have ha := HA.out; unfold fr8 at ha; obtain ⟨d0, d1, d2, d3, d4, d5, d6, d7⟩ := fr8_cell ha; obtain ⟨z0, z1, z2, z3, z4, z5, z6, z7⟩ := fr8_cell HZ.out; obtain ⟨f0, f1, f2, f3, f4, f5, f6, f7⟩ := fr8_frozen HZ.out; clear ha) | (go_at_call 118; refine (ends_calls n₀ g _ (.slice Av ys.length cv) _ _ _ HX.out HV.out).mono ?_; rintro e w3 ⟨rfl, hi3, hf3⟩; have ha2 := hf3.blk HA.out (ne_of_at HX.out.1 HA.out); have hz2 := hf3.blk HZ.out (ne_of_at HX.out.1 HZ.out); have hf2 := HF.out.trans hf3; clear c0 c1 c2 c3 c4 c5 c6 c7 c8 c9 k0 k3 k4 k6 d0 d1 d2 d3 d4 d5 d6 d7 z0 z1 z2 z3 z4 z5 z6 z7 f0 f1 f2 f3 f4 f5 f6 f7; clear HX HF HA HZ; have HX := Aside0.mk hi3; have HF := Aside0.mk hf2; have HA := Aside0.mk ha2; have HZ := Aside0.mk hz2; clear hi3 hf2 ha2 hz2 hf3; obtain ⟨c0, c1, c2, c3, c4, c5, c6, c7, c8, c9⟩ := HX.out.1.cell; have k0 := HX.out.1.frozen 0; have k3 := HX.out.1.frozen 3; have k4 := HX.out.1.frozen 4; have k6 := HX.out.1.frozen 6; have ha := HA.out; unfold fr8 at ha; obtain ⟨d0, d1, d2, d3, d4, d5, d6, d7⟩ := fr8_cell ha; obtain ⟨z0, z1, z2, z3, z4, z5, z6, z7⟩ := fr8_cell HZ.out; obtain ⟨f0, f1, f2, f3, f4, f5, f6, f7⟩ := fr8_frozen HZ.out; clear ha))
        refine bodyPost_ret (results_ct rfl _ _ _ 43 _ (0, 0) _ rfl (fr8_put HZ.out _ _ _ _ _ _ _ _) Try.underlying43 rfl (by kernel_rfl)) rfl ?_
        exact frEnd HX.out HF.out HZ.out HN.out _ _ _ _ _ _ _ _ _)
end Go.Proofs.Yteefnclkcnkbhaa.GClientExpires
