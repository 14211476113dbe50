import Derived.Test.YteefnclkcnkbhaaProg
import Derived.Below
import Derived.Deep.Draws
import Derived.Deep.AppendLies
import Derived.Maps.AppendAt
import Derived.OwnWalk
import Derived.Laws.BytesArg
import Derived.Laws.MakeOwn
import Derived.Laws.OwnMore
import Derived.Deep.OwnRows
import Derived.Tactics
import Derived.Lib.ConvBytes
import Derived.Laws.Slices
import Derived.WalkKit
import Derived.KernelRfl
import Derived.RowKit3
import Derived.Deep.LoopGhost
import Derived.Deep.QuietTactic
import Derived.BigQuiet
import Derived.WideLaws
import Derived.Deep.DeepCutAuto
import Derived.Deep.CutBlock
import Derived.Deep.RegionHeld3
import Derived.Laws.Rows
import Derived.Lib.AppendStr
import Derived.ArgAppend
import Derived.Laws.IdiomCopy
import Derived.OrdersHeld
import Derived.Laws.BitsLemmas
import Derived.RowKit
import Derived.Test.YteefnclkcnkbhaaWWords
import Derived.Test.YteefnclkcnkbhaaWLast
import Derived.Test.YteefnclkcnkbhaaWTab
import Derived.Test.YteefnclkcnkbhaaWFour
import Derived.Test.YteefnclkcnkbhaaWQPut
import Derived.Test.YteefnclkcnkbhaaWApart
import Derived.Test.YteefnclkcnkbhaaWArr
import Derived.Test.YteefnclkcnkbhaaWZeros
import Derived.Test.YteefnclkcnkbhaaWFoot
import Derived.Test.YteefnclkcnkbhaaWKept
import Derived.Test.YteefnclkcnkbhaaWShare
import Derived.Test.YteefnclkcnkbhaaWN
import Derived.Test.YteefnclkcnkbhaaWFootNe
import Derived.Test.YteefnclkcnkbhaaWAt
import Derived.Test.YteefnclkcnkbhaaWEqStruct
import Derived.Test.YteefnclkcnkbhaaWRepsOne
import Derived.Test.YteefnclkcnkbhaaWInv
import Derived.Test.YteefnclkcnkbhaaWInvWords
import Derived.Test.YteefnclkcnkbhaaWGuard
import Derived.Test.YteefnclkcnkbhaaWNEv
import Derived.Test.YteefnclkcnkbhaaWMore
import Derived.Deep.RegionLaw
import Derived.Laws.BitsAllLaws
import Derived.Lib.SliceRun
import Derived.Deep.RegionWith
import Derived.StillTailTactics
import Derived.Laws.CopyOwn
import Derived.Test.YteefnclkcnkbhaaCliA
import Derived.Test.YteefnclkcnkbhaaCliB
namespace Go.Proofs.Yteefnclkcnkbhaa.GClientExpires
open Go.RowKit Go.Proofs.YteefnclkcnkbhaaW.PrintWords Go.Proofs.YteefnclkcnkbhaaW.PrintLast Go.Proofs.YteefnclkcnkbhaaW.PrintMore
attribute [local go_sem] max2_int min2_int max_two min_two max_three min_three max_four min_four   -- for this text's walks alone
set_option linter.unusedVariables false
set_option linter.unusedSimpArgs false



set_option maxHeartbeats 8000000 in
set_option maxRecDepth 100000 in
theorem expire0_calls (n₀ g : Nat) (s : CS) (w : World) (h : Inv w n₀ g s) (hw : s.waits = 0) :
    Calls Try.prog 24 #[.pointer (some ⟨g, 0, none⟩)] w fun e w' => (∃ x, e = .returned (.tuple #[.agg (fr8 x), .bool false])) ∧ Inv w' n₀ g s ∧ Fr n₀ g w w' := by
  have hn : n₀ ≤ w.heap.size := Nat.le_trans h.2.1 (Nat.le_of_lt h.1.lt)
  obtain ⟨c0, c1, c2, c3, c4, c5, c6, c7, c8, c9⟩ := h.1.cell
  have hg := h.1.lt
  have HI := Aside0.mk h
  have HN := Aside0.mk hn
  rw [hw] at c0
  clear h c1 c2 c3 c4 c5 c6 c7 c8 c9 hn
  go_enter Try.func24, Try.ntmps24
  go_wp2_with fail
  obtain ⟨hI4, hF4⟩ := inv_box (HI.out.alloc (Obj.cells #[.int .u8 0, .int .u8 0, .int .u8 0, .int .u8 0, .int .u8 0, .int .u8 0, .int .u8 0, .int .u8 0] 43)) (blk_new w _) ((Fr.refl n₀ g w).alloc HN.out _) (Nat.le_refl _) HN.out (.int .u8 0) (.int .u8 0) (.int .u8 0) (.int .u8 0) (.int .u8 0) (.int .u8 0) (.int .u8 0) (.int .u8 0)
  refine bodyPost_ret (results_ct rfl _ _ _ 43 _ (0, 0) _ rfl (blk_new _ _) Try.underlying43 rfl (by kernel_rfl)) rfl ?_
  exact ⟨⟨fun _ => 0, rfl⟩, HI.out.alloc _, (Fr.refl n₀ g w).alloc HN.out _⟩
set_option maxHeartbeats 8000000 in
set_option maxRecDepth 100000 in
theorem expire1_calls (n₀ g : Nat) (s : CS) (w : World) (h : Inv w n₀ g s) (hw : s.waits ≠ 0) :
    Calls Try.prog 24 #[.pointer (some ⟨g, 0, none⟩)] w fun e w' => (∃ x, e = .returned (.tuple #[.agg (fr8 x), .bool true])) ∧ Inv w' n₀ g ⟨0, 0, 0, .slice none 0 0, 0, false, 0, .slice none 0 0, 84148224, true⟩ ∧ Fr n₀ g w w' := by
  have hn : n₀ ≤ w.heap.size := Nat.le_trans h.2.1 (Nat.le_of_lt h.1.lt)
  obtain ⟨c0, c1, c2, c3, c4, c5, c6, c7, c8, c9⟩ := h.1.cell
  have hg := h.1.lt
  have HI := Aside0.mk h
  have HN := Aside0.mk hn
  have hwb : (s.waits == 0) = false := by simpa using hw
  clear h c1 c2 c3 c4 c5 c6 c7 c8 c9 hn
  go_enter Try.func24, Try.ntmps24
  go_wp2_with (go_at_call 70; refine (gives_calls n₀ g s 84148224 _ (HI.out.alloc (Obj.cells #[.int .u8 0, .int .u8 0, .int .u8 0, .int .u8 0, .int .u8 0, .int .u8 0, .int .u8 0, .int .u8 0] 43))).mono ?_; rintro e w3 ⟨⟨x, rfl⟩, hI3, hF3⟩; have hz3 := hF3.blk (blk_new w (Obj.cells #[.int .u8 0, .int .u8 0, .int .u8 0, .int .u8 0, .int .u8 0, .int .u8 0, .int .u8 0, .int .u8 0] 43)) (ne_of_at (HI.out.alloc (Obj.cells #[.int .u8 0, .int .u8 0, .int .u8 0, .int .u8 0, .int .u8 0, .int .u8 0, .int .u8 0, .int .u8 0] 43)).1 (blk_new w (Obj.cells #[.int .u8 0, .int .u8 0, .int .u8 0, .int .u8 0, .int .u8 0, .int .u8 0, .int .u8 0, .int .u8 0] 43))); have hF3' := Fr.trans ((Fr.refl n₀ g w).alloc HN.out (Obj.cells #[.int .u8 0, .int .u8 0, .int .u8 0, .int .u8 0, .int .u8 0, .int .u8 0, .int .u8 0, .int .u8 0] 43)) hF3; obtain ⟨z0, z1, z2, z3, z4, z5, z6, z7⟩ := fr8_cell hz3; obtain ⟨f0, f1, f2, f3, f4, f5, f6, f7⟩ := fr8_frozen hz3; have HI3 := Aside0.mk hI3; have HF3 := Aside0.mk hF3'; have HZ3 := Aside0.mk hz3; clear hI3 hF3 hF3' hz3; unfold fr8)
  obtain ⟨hI4, hF4⟩ := inv_box HI3.out HZ3.out HF3.out (Nat.le_refl _) HN.out (.int .u8 (x 0)) (.int .u8 (x 1)) (.int .u8 (x 2)) (.int .u8 (x 3)) (.int .u8 (x 4)) (.int .u8 (x 5)) (.int .u8 (x 6)) (.int .u8 (x 7))
  refine bodyPost_ret (results_ct rfl _ _ _ 43 _ (0, 0) _ rfl (fr8_put HZ3.out _ _ _ _ _ _ _ _) Try.underlying43 rfl (by kernel_rfl)) rfl ?_
  exact ⟨⟨x, rfl⟩, hI4, hF4⟩
set_option maxHeartbeats 8000000 in
set_option maxRecDepth 100000 in
theorem busy_calls (g : Nat) (s : CS) (w : World) (h : At w g s) :
    Calls Try.prog 23 #[.pointer (some ⟨g, 0, none⟩)] w fun e w' => e = .returned (.bool (s.waits != 0)) ∧ w' = w := by
  obtain ⟨c0, c1, c2, c3, c4, c5, c6, c7, c8, c9⟩ := h.cell
  clear h c1 c2 c3 c4 c5 c6 c7 c8 c9
  go_enter Try.func23, Try.ntmps23
  go_wp2_with fail
  go_ret
  exact ⟨rfl, rfl⟩
set_option maxHeartbeats 8000000 in
set_option maxRecDepth 100000 in
theorem new_calls (w : World) :
    Calls Try.prog 21 #[] w fun e w' => e = .returned (.pointer (some ⟨w.heap.size, 0, none⟩)) ∧ Inv w' w.heap.size w.heap.size ⟨0, 0, 0, .slice none 0 0, 0, false, 0, .slice none 0 0, 0, false⟩ ∧ Below w.heap.size w w' := by
  have HB := Aside0.mk (Below.refl w.heap.size w)
  go_enter Try.func21, Try.ntmps21
  go_wp2_with fail
  go_ret
  exact ⟨rfl, ⟨blk_new _ _, Nat.le_refl _, ⟨[], Kd.Q_nil _ _ _ _ _⟩, fun h => by simp at h, ⟨[], Kd.Q_nil _ _ _ _ _⟩⟩, below_alloc HB.out _⟩
theorem size_set (W : World) (p : Addr) (v : Value) : (W.setCell p v).heap.size = W.heap.size := by simp
theorem inv_store {n₀ g : Nat} {w : World} {s : CS} (h : Inv w n₀ g s) (t : CS) {bs rs : List Int} (hb : BQ w n₀ t.b bs) (h5 : 4 ≤ t.waits → ∃ zs, BR w n₀ t.b zs ∧ zs.length ≤ 65536 ∧ t.res = .slice none 0 0) (hr : BQ w n₀ t.res rs) :
    Inv ((((((((((w.setCell ⟨g, 0, none⟩ (.int .i64 t.waits)).setCell ⟨g, 1, none⟩ (.int .u16 t.index)).setCell ⟨g, 2, none⟩ (.int .u8 t.sub)).setCell ⟨g, 3, none⟩ t.b).setCell ⟨g, 4, none⟩ (.int .u8 t.turn)).setCell ⟨g, 5, none⟩ (.bool t.last)).setCell ⟨g, 6, none⟩ (.int .i64 t.size)).setCell ⟨g, 7, none⟩ t.res).setCell ⟨g, 8, none⟩ (.int .u32 t.code)).setCell ⟨g, 9, none⟩ (.bool t.has)) n₀ g t ∧ Fr n₀ g w ((((((((((w.setCell ⟨g, 0, none⟩ (.int .i64 t.waits)).setCell ⟨g, 1, none⟩ (.int .u16 t.index)).setCell ⟨g, 2, none⟩ (.int .u8 t.sub)).setCell ⟨g, 3, none⟩ t.b).setCell ⟨g, 4, none⟩ (.int .u8 t.turn)).setCell ⟨g, 5, none⟩ (.bool t.last)).setCell ⟨g, 6, none⟩ (.int .i64 t.size)).setCell ⟨g, 7, none⟩ t.res).setCell ⟨g, 8, none⟩ (.int .u32 t.code)).setCell ⟨g, 9, none⟩ (.bool t.has)) ∧ ((((((((((w.setCell ⟨g, 0, none⟩ (.int .i64 t.waits)).setCell ⟨g, 1, none⟩ (.int .u16 t.index)).setCell ⟨g, 2, none⟩ (.int .u8 t.sub)).setCell ⟨g, 3, none⟩ t.b).setCell ⟨g, 4, none⟩ (.int .u8 t.turn)).setCell ⟨g, 5, none⟩ (.bool t.last)).setCell ⟨g, 6, none⟩ (.int .i64 t.size)).setCell ⟨g, 7, none⟩ t.res).setCell ⟨g, 8, none⟩ (.int .u32 t.code)).setCell ⟨g, 9, none⟩ (.bool t.has)).heap.size = w.heap.size := by
  have hm : ∀ (k : Nat) (cs : Array Value), w.heap[k]? = some (Obj.cells cs 5 (0, 0)) → ((((((((((w.setCell ⟨g, 0, none⟩ (.int .i64 t.waits)).setCell ⟨g, 1, none⟩ (.int .u16 t.index)).setCell ⟨g, 2, none⟩ (.int .u8 t.sub)).setCell ⟨g, 3, none⟩ t.b).setCell ⟨g, 4, none⟩ (.int .u8 t.turn)).setCell ⟨g, 5, none⟩ (.bool t.last)).setCell ⟨g, 6, none⟩ (.int .i64 t.size)).setCell ⟨g, 7, none⟩ t.res).setCell ⟨g, 8, none⟩ (.int .u32 t.code)).setCell ⟨g, 9, none⟩ (.bool t.has)).heap[k]? = w.heap[k]? := by
    intro k cs hk
    have hkg : k ≠ g := fun e => by
      have h1 := h.1
      unfold At at h1
      rw [e, h1] at hk
      injection hk with hk
      injection hk with _ hk
      exact absurd hk (by decide)
    rw [set_other _ 9 _ hkg, set_other _ 8 _ hkg, set_other _ 7 _ hkg, set_other _ 6 _ hkg, set_other _ 5 _ hkg, set_other _ 4 _ hkg, set_other _ 3 _ hkg, set_other _ 2 _ hkg, set_other _ 1 _ hkg, set_other _ 0 _ hkg]
  refine ⟨⟨h.1.store t, h.2.1, ⟨bs, BQ.move hb hm⟩, fun e => by obtain ⟨zs, hz, hl⟩ := h5 e; exact ⟨zs, BR.move hz hm, hl⟩, ⟨rs, BQ.move hr hm⟩⟩, ?_, ?_⟩
  · exact (((((((((((Fr.refl n₀ g w).set h.2.1 0 _).set h.2.1 1 _).set h.2.1 2 _).set h.2.1 3 _).set h.2.1 4 _).set h.2.1 5 _).set h.2.1 6 _).set h.2.1 7 _).set h.2.1 8 _).set h.2.1 9 _)
  · rw [size_set, size_set, size_set, size_set, size_set, size_set, size_set, size_set, size_set, size_set]
set_option maxHeartbeats 8000000 in
set_option maxRecDepth 100000 in
theorem read_calls (n₀ g : Nat) (s : CS) (i sb : Int) (w : World) (h : Inv w n₀ g s) :
    Calls Try.prog 64 #[.pointer (some ⟨g, 0, none⟩), .int .u16 i, .int .u8 sb] w fun e w' => (∃ x r, e = .returned (.tuple #[.agg (fr8 x), .int .i64 r])) ∧ (∃ s', Inv w' n₀ g s') ∧ Fr n₀ g w w' := by
  have hn : n₀ ≤ w.heap.size := Nat.le_trans h.2.1 (Nat.le_of_lt h.1.lt)
  obtain ⟨c0, c1, c2, c3, c4, c5, c6, c7, c8, c9⟩ := h.1.cell
  have hg := h.1.lt
  have HI := Aside0.mk h
  have HN := Aside0.mk hn
  have k0 := h.1.frozen 0
  have k1 := h.1.frozen 1
  have k2 := h.1.frozen 2
  have k3 := h.1.frozen 3
  have k4 := h.1.frozen 4
  have k5 := h.1.frozen 5
  have k6 := h.1.frozen 6
  have k7 := h.1.frozen 7
  have k8 := h.1.frozen 8
  have k9 := h.1.frozen 9
  clear h hn
  by_cases hw : s.waits = 0
  · rw [hw] at c0
    go_enter Try.func64, Try.ntmps64
    go_wp2_with fail
    obtain ⟨hI1, hF1, hS1⟩ := inv_store HI.out ⟨4, i, sb, .slice none 0 0, 0, false, -1, .slice none 0 0, 0, false⟩ (Kd.Q_nil _ _ _ _ _) (fun _ => ⟨[], Kd.R_nil _ _ _ _ _, by simp, rfl⟩) (Kd.Q_nil _ _ _ _ _)
    dsimp only at hI1 hF1 hS1
    go_wp2_with (go_at_call 71; refine (frame_calls g _ _ _ _ (hI1.alloc (Obj.cells #[.int .u8 0, .int .u8 0, .int .u8 0, .int .u8 0, .int .u8 0, .int .u8 0, .int .u8 0, .int .u8 0] 43)).1).mono ?_; rintro e w3 ⟨⟨x, rfl⟩, hb3⟩; have hz3 : w3.heap[w.heap.size]? = some (.cells zero8 43 (0, 0)) := (hb3.block _ (by rw [World.size_alloc, hS1]; exact Nat.lt_succ_self _)).trans (alloc_blk w.heap.size hS1 rfl); have hI3 := (hI1.alloc (Obj.cells #[.int .u8 0, .int .u8 0, .int .u8 0, .int .u8 0, .int .u8 0, .int .u8 0, .int .u8 0, .int .u8 0] 43)).below hb3; have hF3 := (hF1.alloc HN.out (Obj.cells #[.int .u8 0, .int .u8 0, .int .u8 0, .int .u8 0, .int .u8 0, .int .u8 0, .int .u8 0, .int .u8 0] 43)).below HN.out hb3; have hF3' := hF3; obtain ⟨z0, z1, z2, z3, z4, z5, z6, z7⟩ := fr8_cell hz3; obtain ⟨f0, f1, f2, f3, f4, f5, f6, f7⟩ := fr8_frozen hz3; have HI3 := Aside0.mk hI3; have HF3 := Aside0.mk hF3'; have HZ3 := Aside0.mk hz3; clear hI3 hF3 hF3' hz3; unfold fr8)
    obtain ⟨hI4, hF4⟩ := inv_box HI3.out HZ3.out HF3.out (Nat.le_refl _) HN.out (.int .u8 (x 0)) (.int .u8 (x 1)) (.int .u8 (x 2)) (.int .u8 (x 3)) (.int .u8 (x 4)) (.int .u8 (x 5)) (.int .u8 (x 6)) (.int .u8 (x 7))
    refine bodyPost_ret (results_ct rfl _ _ _ 43 _ (0, 0) _ rfl (fr8_put HZ3.out _ _ _ _ _ _ _ _) Try.underlying43 rfl (by kernel_rfl)) rfl ?_
    exact ⟨⟨x, _, rfl⟩, ⟨_, hI4⟩, hF4⟩
  · have hwb : (s.waits != 0) = true := by simpa using hw
    clear c1 c2 c3 c4 c5 c6 c7 c8 c9 k0 k1 k2 k3 k4 k5 k6 k7 k8 k9
    go_enter Try.func64, Try.ntmps64
    go_wp2_with fail
    refine bodyPost_ret (results_ct rfl _ _ _ 43 _ (0, 0) _ rfl (blk_new _ _) Try.underlying43 rfl (by kernel_rfl)) rfl ?_
    exact ⟨⟨fun _ => 0, _, rfl⟩, ⟨s, HI.out.alloc _⟩, (Fr.refl n₀ g w).alloc HN.out _⟩
set_option maxHeartbeats 8000000 in
set_option maxRecDepth 100000 in
theorem result0_calls (n₀ g : Nat) (s : CS) (w : World) (h : Inv w n₀ g s) (hh : s.has = false) :
    Calls Try.prog 25 #[.pointer (some ⟨g, 0, none⟩)] w fun e w' => e = .returned (.tuple #[.slice none 0 0, .int .u32 0, .bool false]) ∧ w' = w := by
  obtain ⟨c0, c1, c2, c3, c4, c5, c6, c7, c8, c9⟩ := h.1.cell
  rw [hh] at c9
  clear h c0 c1 c2 c3 c4 c5 c6 c7 c8
  go_enter Try.func25, Try.ntmps25
  go_wp2_with fail
  go_ret3
  exact ⟨rfl, rfl⟩
theorem res_set {n₀ g : Nat} {w W : World} {s : CS} {v : Value} {bs : List Int} (h : Inv w n₀ g s) (hv : BQ w n₀ v bs) (hW : W.heap = w.heap) (hf : Fr n₀ g w W) :
    Inv (((W.setCell ⟨g, 7, none⟩ (.slice none 0 0)).setCell ⟨g, 8, none⟩ (.int .u32 0)).setCell ⟨g, 9, none⟩ (.bool false)) n₀ g { s with res := .slice none 0 0, code := 0, has := false } ∧ Fr n₀ g w (((W.setCell ⟨g, 7, none⟩ (.slice none 0 0)).setCell ⟨g, 8, none⟩ (.int .u32 0)).setCell ⟨g, 9, none⟩ (.bool false)) ∧
      BQ (((W.setCell ⟨g, 7, none⟩ (.slice none 0 0)).setCell ⟨g, 8, none⟩ (.int .u32 0)).setCell ⟨g, 9, none⟩ (.bool false)) n₀ v bs := by
  have hm : ∀ (k : Nat) (cs : Array Value), w.heap[k]? = some (Obj.cells cs 5 (0, 0)) → (((W.setCell ⟨g, 7, none⟩ (.slice none 0 0)).setCell ⟨g, 8, none⟩ (.int .u32 0)).setCell ⟨g, 9, none⟩ (.bool false)).heap[k]? = w.heap[k]? := by
    intro k cs hk
    have hkg : k ≠ g := fun e => by
      have h1 := h.1
      unfold At at h1
      rw [e, h1] at hk
      injection hk with hk
      injection hk with _ hk
      exact absurd hk (by decide)
    rw [set_other _ 9 _ hkg, set_other _ 8 _ hkg, set_other _ 7 _ hkg, hW]
  have hA : At W g s := by unfold At; rw [hW]; exact h.1
  obtain ⟨h1, h2, ⟨bs', h3⟩, h4, _⟩ := h
  exact ⟨⟨((hA.put7 (.slice none 0 0)).put8 0).put9 false, h2, ⟨bs', BQ.move h3 hm⟩, fun e => by obtain ⟨zs, hz, hl⟩ := h4 e; exact ⟨zs, BR.move hz hm, hl.1, rfl⟩, ⟨[], Kd.Q_nil _ _ _ _ _⟩⟩, ((hf.set h2 7 _).set h2 8 _).set h2 9 _, BQ.move hv hm⟩
set_option maxHeartbeats 8000000 in
set_option maxRecDepth 100000 in
theorem result1_calls (n₀ g : Nat) (s : CS) (w : World) (h : Inv w n₀ g s) (hh : s.has = true) :
    Calls Try.prog 25 #[.pointer (some ⟨g, 0, none⟩)] w fun e w' => e = .returned (.tuple #[s.res, .int .u32 s.code, .bool true]) ∧ Inv w' n₀ g { s with res := .slice none 0 0, code := 0, has := false } ∧ Fr n₀ g w w' ∧ ∃ rs, BQ w' n₀ s.res rs := by
  obtain ⟨c0, c1, c2, c3, c4, c5, c6, c7, c8, c9⟩ := h.1.cell
  have k7 := h.1.frozen 7
  have k8 := h.1.frozen 8
  have k9 := h.1.frozen 9
  rw [hh] at c9
  obtain ⟨rs, hrs⟩ := h.2.2.2.2
  obtain ⟨A, c, hv, _, _⟩ := BQ.slice hrs
  obtain ⟨e1, e2, e3⟩ := res_set (W := w.drew) h hrs rfl (Fr.refl n₀ g w).drew
  rw [hv] at c7 e3 ⊢
  have E1 := Aside0.mk e1
  have E2 := Aside0.mk e2
  have E3 := Aside0.mk e3
  clear h hrs hv e1 e2 e3 c0 c1 c2 c3 c4 c5 c6
  go_enter Try.func25, Try.ntmps25
  go_wp2_with fail
  go_region
  go_wp2_with fail
  go_ret3
  exact ⟨rfl, E1.out, E2.out, ⟨rs, E3.out⟩⟩
end Go.Proofs.Yteefnclkcnkbhaa.GClientExpires
