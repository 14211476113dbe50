import Derived.Test.YteefnclkcnkbhaaProg
import Derived.Below
import Derived.Deep.Draws
import Derived.Deep.AppendLies
import Derived.Maps.AppendAt
import Derived.OwnWalk
import Derived.Laws.BytesArg
import Derived.Laws.MakeOwn
import Derived.Laws.OwnMore
import Derived.Deep.OwnRows
import Derived.Tactics
import Derived.Lib.ConvBytes
import Derived.Laws.Slices
import Derived.WalkKit
import Derived.KernelRfl
import Derived.RowKit3
import Derived.Deep.LoopGhost
import Derived.Deep.QuietTactic
import Derived.BigQuiet
import Derived.WideLaws
import Derived.Deep.DeepCutAuto
import Derived.Deep.CutBlock
import Derived.Deep.RegionHeld3
import Derived.Laws.Rows
import Derived.Lib.AppendStr
import Derived.ArgAppend
import Derived.Laws.IdiomCopy
import Derived.OrdersHeld
import Derived.Laws.BitsLemmas
import Derived.RowKit
import Derived.Test.YteefnclkcnkbhaaWWords
import Derived.Test.YteefnclkcnkbhaaWLast
import Derived.Test.YteefnclkcnkbhaaWTab
import Derived.Test.YteefnclkcnkbhaaWFour
import Derived.Test.YteefnclkcnkbhaaWQPut
import Derived.Test.YteefnclkcnkbhaaWApart
import Derived.Test.YteefnclkcnkbhaaWArr
import Derived.Test.YteefnclkcnkbhaaWZeros
import Derived.Test.YteefnclkcnkbhaaWFoot
import Derived.Test.YteefnclkcnkbhaaWKept
import Derived.Test.YteefnclkcnkbhaaWShare
import Derived.Test.YteefnclkcnkbhaaWN
import Derived.Test.YteefnclkcnkbhaaWFootNe
import Derived.Test.YteefnclkcnkbhaaWAt
import Derived.Test.YteefnclkcnkbhaaWEqStruct
import Derived.Test.YteefnclkcnkbhaaWRepsOne
import Derived.Test.YteefnclkcnkbhaaWInv
import Derived.Test.YteefnclkcnkbhaaWInvWords
import Derived.Test.YteefnclkcnkbhaaWGuard
import Derived.Test.YteefnclkcnkbhaaWNEv
import Derived.Test.YteefnclkcnkbhaaWMore
import Derived.Deep.RegionLaw
import Derived.Laws.BitsAllLaws
import Derived.Lib.SliceRun
import Derived.Deep.RegionWith
import Derived.StillTailTactics
import Derived.Laws.CopyOwn
import Derived.Test.YteefnclkcnkbhaaCliA
import Derived.Test.YteefnclkcnkbhaaCliB
import Derived.Test.YteefnclkcnkbhaaCliC
namespace Go.Proofs.Yteefnclkcnkbhaa.GClientExpires
open Go.RowKit Go.Proofs.YteefnclkcnkbhaaW.PrintWords Go.Proofs.YteefnclkcnkbhaaW.PrintLast Go.Proofs.YteefnclkcnkbhaaW.PrintMore
attribute [local go_sem] max2_int min2_int max_two min_two max_three min_three max_four min_four   -- for this text's walks alone
set_option linter.unusedVariables false
set_option linter.unusedSimpArgs false



theorem info5 : (Try.prog.info? 5).map (fun i => (i.zero, i.size, i.bytes)) = some (some (.int .u8 0), 1, 1) := by kernel_rfl
def slices_Clone_byte_byte.f (l0 : List Int) : Option (List Int) := if l0.length < 140737488355328 then some l0 else none
set_option maxHeartbeats 8000000 in
set_option maxRecDepth 100000 in
theorem slices_Clone_byte_byte.calls (A0 : Option Addr) (c0 : Nat) (l0 : List Int) (r : List Int) (w : World) (hr0 : Kd.C (Kd.int .u8) w A0 l0.length l0) (hc0 : l0.length ≤ c0) (h : slices_Clone_byte_byte.f l0 = some r) :
    Calls Try.prog 60 #[.slice A0 l0.length c0] w fun e w' => ∃ v0_ : Value, e = .returned (v0_) ∧ Kd.R (Kd.int .u8) 5 w' w.heap.size (fun _ => True) v0_ r ∧ Below w.heap.size w w' := by
  have HR0 := Aside0.mk hr0
  have HC0 := Aside0.mk hc0
  have HB := Aside0.mk (Below.refl w.heap.size w)
  unfold slices_Clone_byte_byte.f at h
  by_cases c2 : l0.length < 140737488355328
  · rw [if_pos c2] at h
    have LMc2 := Aside0.mk c2
    obtain rfl := Option.some.inj h
    clear h
    have hq := fun W => Lib.run_eql_slice_nil (P := Try.prog) W 23 5 A0 l0.length c0 0 0 Try.underlying23
    cases A0 with
    | none =>
      have hl : l0 = [] := by
        rcases Nat.eq_zero_or_pos l0.length with h0 | h0
        · exact List.eq_nil_of_length_eq_zero h0
        · obtain ⟨ad, _, e, _⟩ := Kd.C_get hr0 0 0 (Int.le_refl _) (by omega)
          cases e
      have HL := Aside0.mk hl
      clear c2 hl hr0 hc0
      simp only [Option.isNone_none] at hq
      go_enter Try.func60, Try.ntmps60
      go_wp2
      go_ret
      exact ⟨_, rfl, by rw [HL.out]; exact Kd.R_nil _ _ _ _ _, HB.out⟩
    | some ad =>
      clear c2 hr0 hc0
      simp only [Option.isNone_some] at hq
      go_enter Try.func60, Try.ntmps60
      go_wp2_with (first | ((with_reducible refine gate_dst (N := 5) rfl ?_); refine Kd.R_lit (Kd.int .u8) _ 5 ?hg (N := 5) ?hd (xs := ([] : List Int)) (inner := []) (ok := fun _ => True) (okp := fun _ => True) ?hr ?hp (fun _ hk => hk) trivial (Below.refl _ _) (Nat.le_refl _) (by simp) ?_; (case hd => rfl); (case hg => rfl); (case hr => first | (go_simp; done) | (go_simp; rfl)); (case hp => exact (Reps.none _ _)); intro v185 w3 ho4 hb hg_ hnew_; clear hg_ hnew_; have HO186 := Aside0.mk ho4; have HB1 := Aside0.mk hb; clear hb ho4) | ((with_reducible refine gate_builtin (b := .append) (xs := #[.tmp 5, .tmp 6]) rfl ?_); at_builtin; refine Kd.R_append_rows (Kd.int .u8) (w0 := w) w.heap.size rfl (.tmp 5) (.tmp 6) 23 5 (.int .u8 0) 1 rfl Try.underlying23 info5 rfl (by decide) (by omega) v185 [] l0 _ _ _ (fun _ => True) (fun _ => False) rfl rfl ?aO ?aR (fun _ _ h => h) (fun _ h => h.elim) ?aF ?aB ?aS ?aL ?_; (case aR => exact Kd.C_below HR0.out HB1.out); (case aB => exact HB1.out); (case aF => exact (fun _ _ => trivial)); (case aO => exact HO186.out); (case aS => exact HB1.out.size); (case aL => have := LMc2.out; simp; omega); intro v188 w5 ho hb hg hat; have HB2 := Aside0.mk hb; have HO189 := Aside0.mk ho; clear ho hb hg hat))
      go_ret
      exact ⟨_, rfl, by simpa using HO189.out, HB2.out⟩
  · rw [if_neg c2] at h
    exact absurd h (by simp)

/-- the rows of bytes stay -/
def KR (w W : World) : Prop := ∀ (k : Nat) (cs : Array Value), w.heap[k]? = some (Obj.cells cs 5 (0, 0)) → W.heap[k]? = w.heap[k]?
theorem KR.trans {w W X : World} (h : KR w W) (k : KR W X) : KR w X := fun i cs hi => (k i cs ((h i cs hi).trans hi)).trans (h i cs hi)
theorem KR.below {w W : World} (h : Below w.heap.size w W) : KR w W := fun i cs hi => h.block i (blk_lt hi)
theorem at_ne {w : World} {g k : Nat} {s : CS} {cs : Array Value} (h : At w g s) (hk : w.heap[k]? = some (Obj.cells cs 5 (0, 0))) : k ≠ g := by
  rintro rfl
  unfold At at h
  rw [h] at hk
  injection hk with hk
  injection hk with _ hk
  exact absurd hk (by decide)
theorem KR.set {w : World} {g : Nat} {s : CS} (h : At w g s) (i : Nat) (v : Value) : KR w (w.setCell ⟨g, i, none⟩ v) := fun k cs hk => set_other _ i _ (at_ne h hk)
theorem KR.store {w : World} {g : Nat} {s : CS} (h : At w g s) (t : CS) : KR w ((((((((((w.setCell ⟨g, 0, none⟩ (.int .i64 t.waits)).setCell ⟨g, 1, none⟩ (.int .u16 t.index)).setCell ⟨g, 2, none⟩ (.int .u8 t.sub)).setCell ⟨g, 3, none⟩ t.b).setCell ⟨g, 4, none⟩ (.int .u8 t.turn)).setCell ⟨g, 5, none⟩ (.bool t.last)).setCell ⟨g, 6, none⟩ (.int .i64 t.size)).setCell ⟨g, 7, none⟩ t.res).setCell ⟨g, 8, none⟩ (.int .u32 t.code)).setCell ⟨g, 9, none⟩ (.bool t.has)) := by
  intro k cs hk
  have hkg := at_ne h hk
  rw [set_other _ 9 _ hkg, set_other _ 8 _ hkg, set_other _ 7 _ hkg, set_other _ 6 _ hkg, set_other _ 5 _ hkg, set_other _ 4 _ hkg, set_other _ 3 _ hkg, set_other _ 2 _ hkg, set_other _ 1 _ hkg, set_other _ 0 _ hkg]
theorem inv_set0 {n₀ g : Nat} {w : World} {s : CS} (h : Inv w n₀ g s) (v : Int) (hv : v < 4 ∨ ∃ bs, BR w n₀ s.b bs ∧ bs.length ≤ 65536 ∧ s.res = .slice none 0 0) : Inv (w.setCell ⟨g, 0, none⟩ (.int .i64 v)) n₀ g { s with waits := v } ∧ Fr n₀ g w (w.setCell ⟨g, 0, none⟩ (.int .i64 v)) := by
  have hm := KR.set h.1 0 (.int .i64 v)
  have hf := (Fr.refl n₀ g w).set h.2.1 0 (.int .i64 v)
  obtain ⟨h1, h2, ⟨bs', h3⟩, h4, ⟨rs, h5⟩⟩ := h
  refine ⟨⟨h1.put0 v, h2, ⟨bs', BQ.move h3 hm⟩, fun e => ?_, ⟨rs, BQ.move h5 hm⟩⟩, hf⟩
  rcases hv with hv | ⟨bs, hb, hl⟩
  · exact absurd (show (4 : Int) ≤ v from e) (by omega)
  · exact ⟨bs, BR.move hb hm, hl⟩
theorem bytes_src {w : World} {n₀ : Nat} {A : Option Addr} {c : Nat} {bs : List Int} (h : BQ w n₀ (.slice A bs.length c) bs) (hp : 0 < bs.length) : ∃ ad, A = some ad ∧ ∀ j v, (bs.map (Value.int .u8))[j]? = some v → w.cell? (ad.add j) = some v := by
  obtain ⟨A', c', e, _, hC⟩ := BQ.slice h
  injection e with e1 _ _
  subst e1
  obtain ⟨ad, hA, hc⟩ := (Kd.reads_of_C (d := 0) hC).2.2 hp
  refine ⟨ad, hA, fun j v hj => ?_⟩
  rw [List.getElem?_map] at hj
  obtain ⟨b, hb, rfl⟩ := Option.map_eq_some_iff.1 hj
  have hjl := (List.getElem?_eq_some_iff.1 hb).1
  rw [hc j hjl]
  simp [List.getD_eq_getElem?_getD, hb]
theorem fr8_splice (x : Nat → Int) (bs : List Int) (h : bs.length ≤ 4) : ∃ y, ((fr8 x).toList.take 4 ++ bs.map (Value.int .u8) ++ (fr8 x).toList.drop (4 + (bs.map (Value.int .u8)).length)).toArray = fr8 y := by
  match bs, h with
  | [], _ => exact fr8_mk (x 0) (x 1) (x 2) (x 3) (x 4) (x 5) (x 6) (x 7)
  | [a], _ => exact fr8_mk (x 0) (x 1) (x 2) (x 3) a (x 5) (x 6) (x 7)
  | [a, b], _ => exact fr8_mk (x 0) (x 1) (x 2) (x 3) a b (x 6) (x 7)
  | [a, b, c], _ => exact fr8_mk (x 0) (x 1) (x 2) (x 3) a b c (x 7)
  | [a, b, c, d], _ => exact fr8_mk (x 0) (x 1) (x 2) (x 3) a b c d
def WPost (n₀ g : Nat) (s : CS) (n : Nat) (w : World) (e : Ending) (w' : World) : Prop :=
  (∃ x, e = .returned (.tuple #[.agg (fr8 x), .int .i64 (if s.waits ≠ 0 then 6 else if 65536 < n then 2 else 0)])) ∧ (∃ s', Inv w' n₀ g s' ∧ (s.waits = 0 → n ≤ 65536 → s'.waits ≠ 0)) ∧ Fr n₀ g w w'
set_option maxHeartbeats 8000000 in
set_option maxRecDepth 100000 in
theorem write_calls (n₀ g : Nat) (s : CS) (i sb : Int) (A : Option Addr) (c : Nat) (bs : List Int) (w : World) (h : Inv w n₀ g s) (hv0 : BQ w n₀ (.slice A bs.length c) bs) :
    Calls Try.prog 26 #[.pointer (some ⟨g, 0, none⟩), .int .u16 i, .int .u8 sb, .slice A bs.length c] w (WPost n₀ g s bs.length w) := by
  have hn : n₀ ≤ w.heap.size := Nat.le_trans h.2.1 (Nat.le_of_lt h.1.lt)
  obtain ⟨c0, c1, c2, c3, c4, c5, c6, c7, c8, c9⟩ := h.1.cell
  have hg := h.1.lt
  have HI := Aside0.mk h
  have HN := Aside0.mk hn
  have k0 := h.1.frozen 0
  have k1 := h.1.frozen 1
  have k2 := h.1.frozen 2
  have k3 := h.1.frozen 3
  have k4 := h.1.frozen 4
  have k5 := h.1.frozen 5
  have k6 := h.1.frozen 6
  have k7 := h.1.frozen 7
  have k8 := h.1.frozen 8
  have k9 := h.1.frozen 9
  have HV0 := Aside0.mk hv0
  obtain ⟨A_, c_, e_, hcap, hC⟩ := BQ.slice hv0
  injection e_ with e1_ _ e2_
  subst e1_ e2_
  have hmax : bs.length ≤ 9223372036854775807 := hC.2.1
  have HC := Aside0.mk hC
  have HCAP := Aside0.mk hcap
  clear h hC hcap hn hv0
  by_cases hw : s.waits = 0
  case neg =>
    have hwb : (s.waits != 0) = true := by simpa using hw
    clear c1 c2 c3 c4 c5 c6 c7 c8 c9 k0 k1 k2 k3 k4 k5 k6 k7 k8 k9
    go_enter Try.func26, Try.ntmps26
    go_wp2_with fail
    refine bodyPost_ret (results_ct rfl _ _ _ 43 _ (0, 0) _ rfl (blk_new _ _) Try.underlying43 rfl (by kernel_rfl)) rfl ?_
    exact ⟨⟨fun _ => 0, by rw [if_pos hw]; rfl⟩, ⟨s, HI.out.alloc _, fun e => absurd e hw⟩, (Fr.refl n₀ g w).alloc HN.out _⟩
  rw [hw] at c0
  by_cases hl : 65536 < bs.length
  · have hlb : decide (65536 < (bs.length : Int)) = true := decide_eq_true (by omega)
    clear c1 c2 c3 c4 c5 c6 c7 c8 c9 k0 k1 k2 k3 k4 k5 k6 k7 k8 k9
    go_enter Try.func26, Try.ntmps26
    go_wp2_with fail
    refine bodyPost_ret (results_ct rfl _ _ _ 43 _ (0, 0) _ rfl (blk_new _ _) Try.underlying43 rfl (by kernel_rfl)) rfl ?_
    exact ⟨⟨fun _ => 0, by rw [if_neg (fun h => h hw), if_pos hl]; rfl⟩, ⟨s, HI.out.alloc _, fun _ e => absurd e (by omega)⟩, (Fr.refl n₀ g w).alloc HN.out _⟩
  have hlb : decide (65536 < (bs.length : Int)) = false := decide_eq_false (by omega)
  have hcl := slices_Clone_byte_byte.calls A c bs bs (w.alloc (Obj.cells #[.int .u8 0, .int .u8 0, .int .u8 0, .int .u8 0, .int .u8 0, .int .u8 0, .int .u8 0, .int .u8 0] 43)) (Kd.C_alloc HC.out (Obj.cells #[.int .u8 0, .int .u8 0, .int .u8 0, .int .u8 0, .int .u8 0, .int .u8 0, .int .u8 0, .int .u8 0] 43)) HCAP.out (by unfold slices_Clone_byte_byte.f; rw [if_pos (by omega)])
  have HCL := Aside0.mk hcl
  clear hcl
  go_enter Try.func26, Try.ntmps26
  go_wp2_with (go_at_call 60; refine HCL.out.mono ?_; rintro e w2 ⟨v, rfl, hv, hb2⟩; have KR2 := Aside0.mk ((KR.below (below_alloc (Below.refl w.heap.size w) (Obj.cells #[.int .u8 0, .int .u8 0, .int .u8 0, .int .u8 0, .int .u8 0, .int .u8 0, .int .u8 0, .int .u8 0] 43))).trans (KR.below hb2)); obtain ⟨Av, cv, rfl⟩ := Kd.R_slice hv; have HI2 := Aside0.mk ((HI.out.alloc (Obj.cells #[.int .u8 0, .int .u8 0, .int .u8 0, .int .u8 0, .int .u8 0, .int .u8 0, .int .u8 0, .int .u8 0] 43)).below hb2); have HF2 := Aside0.mk (((Fr.refl n₀ g w).alloc HN.out (Obj.cells #[.int .u8 0, .int .u8 0, .int .u8 0, .int .u8 0, .int .u8 0, .int .u8 0, .int .u8 0, .int .u8 0] 43)).below HN.out hb2); have HV := Aside0.mk hv; have HZ2 := Aside0.mk ((hb2.block w.heap.size (by simp)).trans (blk_new w (Obj.cells #[.int .u8 0, .int .u8 0, .int .u8 0, .int .u8 0, .int .u8 0, .int .u8 0, .int .u8 0, .int .u8 0] 43))); clear hv hb2; obtain ⟨c0, c1, c2, c3, c4, c5, c6, c7, c8, c9⟩ := HI2.out.1.cell; have k0 := HI2.out.1.frozen 0; have k1 := HI2.out.1.frozen 1; have k2 := HI2.out.1.frozen 2; have k3 := HI2.out.1.frozen 3; have k4 := HI2.out.1.frozen 4; have k5 := HI2.out.1.frozen 5; have k6 := HI2.out.1.frozen 6; have k7 := HI2.out.1.frozen 7; have k8 := HI2.out.1.frozen 8; have k9 := HI2.out.1.frozen 9)
  all_goals (
    obtain ⟨hI1, hF1, hS1⟩ := inv_store HI2.out ⟨2, i, sb, .slice Av bs.length cv, 0, false, 0, .slice none 0 0, 0, false⟩ (Kd.Q_lower (Kd.Q_of_R HV.out) (Nat.le_trans HN.out (by simp))) (fun h => absurd (show (4 : Int) ≤ 2 from h) (by decide)) (Kd.Q_nil _ _ _ _ _)
    dsimp only at hI1 hF1 hS1
    have HF1 := Aside0.mk (HF2.out.trans hF1)
    have hgz : w.heap.size ≠ g := by omega
    have hz1 := hF1.blk HZ2.out hgz
    have HZ1 := Aside0.mk hz1
    have HI1 := Aside0.mk hI1
    clear hz1 hI1 hF1)
  · have hb1 : 1 ≤ bs.length := by omega
    have hb4 : bs.length ≤ 4 := by omega
    obtain ⟨hI1', hF1'⟩ := inv_set0 HI1.out 1 (.inl (by decide))
    dsimp only at hI1' hF1'
    have hz1' := hF1'.blk HZ1.out hgz
    have HK1 := Aside0.mk ((KR2.out.trans (KR.store HI2.out.1 ⟨2, i, sb, .slice Av bs.length cv, 0, false, 0, .slice none 0 0, 0, false⟩)).trans (KR.set HI1.out.1 0 (.int .i64 1)))
    have HI1' := Aside0.mk hI1'
    have HF1' := Aside0.mk (HF1.out.trans hF1')
    have HZ1' := Aside0.mk hz1'
    clear hI1' hF1' hz1'
    refine (frame_calls g _ _ _ _ HI1'.out.1).mono ?_
    rintro e w3 ⟨⟨x, rfl⟩, hb3⟩
    have HI3 := Aside0.mk (HI1'.out.below hb3)
    have HF3 := Aside0.mk (HF1'.out.below HN.out hb3)
    have HZ3 := Aside0.mk ((hb3.block _ (blk_lt HZ1'.out)).trans HZ1'.out)
    have HK3 := Aside0.mk (HK1.out.trans (KR.below hb3))
    clear hb3
    obtain ⟨ad, rfl, hsrc⟩ := bytes_src (BQ.move HV0.out HK3.out) (by omega)
    obtain ⟨y, hy⟩ := fr8_splice x bs hb4
    have hcp := run_copy_row (P := Try.prog) (w := w3.alloc (.cells (fr8 x) 43)) 23 23 3 5 w3.heap.size 4 4 4 ad bs.length c (fr8 x) 43 (bs.map (Value.int .u8)) Try.underlying23 (by kernel_rfl) (blk_new _ _) (by rw [List.length_map]; exact (Nat.min_eq_left hb4).symm) (fun j v hj => ((below_alloc (Below.refl w3.heap.size w3) _).cell (World.block_lt_of_cell? w3 _ (hsrc j v hj))).trans (hsrc j v hj)) (by rw [List.length_map]; show 4 + bs.length ≤ 8; omega) (by simp [Value.oneCell'])
    rw [hy, List.length_map] at hcp
    obtain ⟨W4, hW4⟩ : ∃ W4, W4 = (w3.alloc (.cells (fr8 x) 43)).setRow w3.heap.size (fr8 y) := ⟨_, rfl⟩
    have hr4 : W4.heap[w3.heap.size]? = some (.cells (fr8 y) 43 (0, 0)) := by rw [hW4]; exact setRow_heap _ _ _ _ _ _ (blk_new _ _)
    have hb4 : Below w3.heap.size w3 W4 := by rw [hW4]; exact below_setRow (below_alloc (Below.refl _ _) _) (Nat.le_refl _) _
    rw [← hW4] at hcp
    have HI4 := Aside0.mk (HI3.out.below hb4)
    have HF4 := Aside0.mk (HF3.out.below HN.out hb4)
    have hz4 := (hb4.block _ (blk_lt HZ3.out)).trans HZ3.out
    have HZ4 := Aside0.mk hz4
    unfold fr8 at hr4 hcp
    obtain ⟨d0, d1, d2, d3, d4, d5, d6, d7⟩ := fr8_cell hr4
    obtain ⟨z0, z1, z2, z3, z4, z5, z6, z7⟩ := fr8_cell hz4
    obtain ⟨f0, f1, f2, f3, f4, f5, f6, f7⟩ := fr8_frozen hz4
    clear hW4 hr4 hb4 hz4 hy hsrc c0 c1 c2 c3 c4 c5 c6 c7 c8 c9 k0 k1 k2 k3 k4 k5 k6 k7 k8 k9
    unfold fr8
    go_wp2_with fail
    obtain ⟨hI5, hF5⟩ := inv_box HI4.out HZ4.out HF4.out (Nat.le_refl _) HN.out (.int .u8 (y 0)) (.int .u8 (y 1)) (.int .u8 (y 2)) (.int .u8 (y 3)) (.int .u8 (y 4)) (.int .u8 (y 5)) (.int .u8 (y 6)) (.int .u8 (y 7))
    refine bodyPost_ret (results_ct rfl _ _ _ 43 _ (0, 0) _ rfl (fr8_put HZ4.out _ _ _ _ _ _ _ _) Try.underlying43 rfl (by kernel_rfl)) rfl ?_
    exact ⟨⟨y, by rw [if_neg (fun h => h hw), if_neg hl]; rfl⟩, ⟨_, hI5, fun _ _ => by show (1 : Int) ≠ 0; decide⟩, hF5⟩
  all_goals (
    refine (frame_calls g _ _ _ _ HI1.out.1).mono ?_
    rintro e w3 ⟨⟨x, rfl⟩, hb3⟩
    have hz3 := (hb3.block _ (blk_lt HZ1.out)).trans HZ1.out
    obtain ⟨z0, z1, z2, z3, z4, z5, z6, z7⟩ := fr8_cell hz3
    obtain ⟨f0, f1, f2, f3, f4, f5, f6, f7⟩ := fr8_frozen hz3
    have HI3 := Aside0.mk (HI1.out.below hb3)
    have HF3 := Aside0.mk (HF1.out.below HN.out hb3)
    have HZ3 := Aside0.mk hz3
    clear hb3 hz3
    unfold fr8
    go_wp2_with fail
    obtain ⟨hI4, hF4⟩ := inv_box HI3.out HZ3.out HF3.out (Nat.le_refl _) HN.out (.int .u8 (x 0)) (.int .u8 (x 1)) (.int .u8 (x 2)) (.int .u8 (x 3)) (.int .u8 (x 4)) (.int .u8 (x 5)) (.int .u8 (x 6)) (.int .u8 (x 7))
    refine bodyPost_ret (results_ct rfl _ _ _ 43 _ (0, 0) _ rfl (fr8_put HZ3.out _ _ _ _ _ _ _ _) Try.underlying43 rfl (by kernel_rfl)) rfl ?_
    exact ⟨⟨x, by rw [if_neg (fun h => h hw), if_neg hl]; rfl⟩, ⟨_, hI4, fun _ _ => by show (2 : Int) ≠ 0; decide⟩, hF4⟩)
end Go.Proofs.Yteefnclkcnkbhaa.GClientExpires
