import Derived.Test.YteefnclkcnkbhaaProg
import Derived.Below
import Derived.Deep.Draws
import Derived.Deep.AppendLies
import Derived.Maps.AppendAt
import Derived.OwnWalk
import Derived.Laws.BytesArg
import Derived.Laws.MakeOwn
import Derived.Laws.OwnMore
import Derived.Deep.OwnRows
import Derived.Tactics
import Derived.Lib.ConvBytes
import Derived.Laws.Slices
import Derived.WalkKit
import Derived.KernelRfl
import Derived.RowKit3
import Derived.Deep.LoopGhost
import Derived.Deep.QuietTactic
import Derived.BigQuiet
import Derived.WideLaws
import Derived.Deep.DeepCutAuto
import Derived.Deep.CutBlock
import Derived.Deep.RegionHeld3
import Derived.Laws.Rows
import Derived.Lib.AppendStr
import Derived.ArgAppend
import Derived.Laws.IdiomCopy
import Derived.OrdersHeld
import Derived.Laws.BitsLemmas
import Derived.RowKit
import Derived.Test.YteefnclkcnkbhaaWWords
import Derived.Test.YteefnclkcnkbhaaWLast
import Derived.Test.YteefnclkcnkbhaaWTab
import Derived.Test.YteefnclkcnkbhaaWFour
import Derived.Test.YteefnclkcnkbhaaWQPut
import Derived.Test.YteefnclkcnkbhaaWApart
import Derived.Test.YteefnclkcnkbhaaWArr
import Derived.Test.YteefnclkcnkbhaaWZeros
import Derived.Test.YteefnclkcnkbhaaWFoot
import Derived.Test.YteefnclkcnkbhaaWKept
import Derived.Test.YteefnclkcnkbhaaWShare
import Derived.Test.YteefnclkcnkbhaaWN
import Derived.Test.YteefnclkcnkbhaaWFootNe
import Derived.Test.YteefnclkcnkbhaaWAt
import Derived.Test.YteefnclkcnkbhaaWEqStruct
import Derived.Test.YteefnclkcnkbhaaWRepsOne
import Derived.Test.YteefnclkcnkbhaaWInv
import Derived.Test.YteefnclkcnkbhaaWInvWords
import Derived.Test.YteefnclkcnkbhaaWGuard
import Derived.Test.YteefnclkcnkbhaaWNEv
import Derived.Test.YteefnclkcnkbhaaWMore
import Derived.Deep.RegionLaw
import Derived.Laws.BitsAllLaws
import Derived.Lib.SliceRun
import Derived.Deep.RegionWith
import Derived.StillTailTactics
import Derived.Laws.CopyOwn
import Derived.Test.YteefnclkcnkbhaaCliA
import Derived.Test.YteefnclkcnkbhaaCliB
import Derived.Test.YteefnclkcnkbhaaCliC
import Derived.Test.YteefnclkcnkbhaaCliD
namespace Go.Proofs.Yteefnclkcnkbhaa.GClientExpires
open Go.RowKit Go.Proofs.YteefnclkcnkbhaaW.PrintWords Go.Proofs.YteefnclkcnkbhaaW.PrintLast Go.Proofs.YteefnclkcnkbhaaW.PrintMore
attribute [local go_sem] max2_int min2_int max_two min_two max_three min_three max_four min_four   -- for this text's walks alone
set_option linter.unusedVariables false
set_option linter.unusedSimpArgs false



theorem fr8_of (l : List Int) (h : l.length = 8) : ∃ y, (l.map (Value.int .u8)).toArray = fr8 y := by
  match l, h with
  | [a, b, c, d, e, f, p, q], _ => exact fr8_mk a b c d e f p q
theorem splice1 (bs : List Int) (h : bs.length ≤ 7) : ∃ y, (zero8.toList.take 1 ++ bs.map (Value.int .u8) ++ zero8.toList.drop (1 + (bs.map (Value.int .u8)).length)).toArray = fr8 y := by
  have e : zero8.toList.take 1 ++ bs.map (Value.int .u8) ++ zero8.toList.drop (1 + (bs.map (Value.int .u8)).length) = (([0, 0, 0, 0, 0, 0, 0, 0] : List Int).take 1 ++ bs ++ ([0, 0, 0, 0, 0, 0, 0, 0] : List Int).drop (1 + bs.length)).map (Value.int .u8) := by
    simp only [List.map_append, List.map_drop, List.map_take, List.length_map]
    rfl
  rw [e]
  exact fr8_of _ (by simp; omega)
theorem stopHere {p : Prop} (h : id p) : p := h
theorem other_blk {W : World} {g k : Nat} {o : Obj} (h : W.heap[k]? = some o) (hk : k ≠ g) (i : Nat) (v : Value) : (W.setCell ⟨g, i, none⟩ v).heap[k]? = some o := (set_other W i v hk).trans h
theorem inv_put3 {n₀ g : Nat} {w : World} {s : CS} (h : Inv w n₀ g s) (v : Value) {bs : List Int} (hv : BQ w n₀ v bs) (h5 : s.waits < 4) : Inv (w.setCell ⟨g, 3, none⟩ v) n₀ g { s with b := v } := by
  have hm := KR.set h.1 3 v
  obtain ⟨h1, h2, _, h4, ⟨rs, hr⟩⟩ := h
  exact ⟨h1.put3 v, h2, ⟨bs, BQ.move hv hm⟩, fun e => absurd (show (4 : Int) ≤ s.waits from e) (by omega), ⟨rs, BQ.move hr hm⟩⟩
theorem inv_put4 {n₀ g : Nat} {w : World} {s : CS} (h : Inv w n₀ g s) (v : Int) : Inv (w.setCell ⟨g, 4, none⟩ (.int .u8 v)) n₀ g { s with turn := v } := by
  have hm := KR.set h.1 4 (.int .u8 v)
  obtain ⟨h1, h2, ⟨bs, h3⟩, h4, ⟨rs, hr⟩⟩ := h
  exact ⟨h1.put4 v, h2, ⟨bs, BQ.move h3 hm⟩, fun e => by obtain ⟨zs, hz, hl⟩ := h4 e; exact ⟨zs, BR.move hz hm, hl⟩, ⟨rs, BQ.move hr hm⟩⟩
theorem inv_put5 {n₀ g : Nat} {w : World} {s : CS} (h : Inv w n₀ g s) (v : Bool) : Inv (w.setCell ⟨g, 5, none⟩ (.bool v)) n₀ g { s with last := v } := by
  have hm := KR.set h.1 5 (.bool v)
  obtain ⟨h1, h2, ⟨bs, h3⟩, h4, ⟨rs, hr⟩⟩ := h
  exact ⟨h1.put5 v, h2, ⟨bs, BQ.move h3 hm⟩, fun e => by obtain ⟨zs, hz, hl⟩ := h4 e; exact ⟨zs, BR.move hz hm, hl⟩, ⟨rs, BQ.move hr hm⟩⟩
theorem inv_put6 {n₀ g : Nat} {w : World} {s : CS} (h : Inv w n₀ g s) (v : Int) : Inv (w.setCell ⟨g, 6, none⟩ (.int .i64 v)) n₀ g { s with size := v } := by
  have hm := KR.set h.1 6 (.int .i64 v)
  obtain ⟨h1, h2, ⟨bs, h3⟩, h4, ⟨rs, hr⟩⟩ := h
  exact ⟨h1.put6 v, h2, ⟨bs, BQ.move h3 hm⟩, fun e => by obtain ⟨zs, hz, hl⟩ := h4 e; exact ⟨zs, BR.move hz hm, hl⟩, ⟨rs, BQ.move hr hm⟩⟩
def SegP (n₀ g : Nat) (w X : World) : Prop := (∃ s', Inv X n₀ g s') ∧ Fr n₀ g w X ∧ (∃ y, X.heap[w.heap.size + 1]? = some (.cells (fr8 y) 43 (0, 0))) ∧ X.heap[w.heap.size]? = some (.cells zero8 43 (0, 0))
theorem fr8_put0 {X : World} {r : Nat} {y : Nat → Int} (h : X.heap[r]? = some (.cells (fr8 y) 43 (0, 0))) (a : Int) : ∃ y', (X.setCell ⟨r, 0, none⟩ (.int .u8 a)).heap[r]? = some (.cells (fr8 y') 43 (0, 0)) := by
  obtain ⟨y', hy⟩ := fr8_mk a (y 1) (y 2) (y 3) (y 4) (y 5) (y 6) (y 7)
  exact ⟨y', by rw [← hy]; exact blk_put h 0 _ rfl⟩
theorem seg0 {n₀ g : Nat} {w X : World} (h : SegP n₀ g w X) (hn : n₀ ≤ w.heap.size) (hg : g < w.heap.size) (a : Int) : SegP n₀ g w (X.setCell ⟨w.heap.size + 1, 0, none⟩ (.int .u8 a)) := by
  obtain ⟨⟨s', h1⟩, h2, ⟨y, h3⟩, h4⟩ := h
  exact ⟨⟨s', h1.other (by omega) (not5 h3) 0 _⟩, h2.setn (by omega) hn 0 _, fr8_put0 h3 a, other_blk h4 (by omega) 0 _⟩
theorem seg1 {n₀ g : Nat} {s : CS} {w W : World} {y : Nat → Int} {bs : List Int} {V : Value} (hI : Inv W n₀ g s) (hF : Fr n₀ g w W) (hr : W.heap[w.heap.size + 1]? = some (.cells (fr8 y) 43 (0, 0))) (hz : W.heap[w.heap.size]? = some (.cells zero8 43 (0, 0)))
    (hV : BQ W n₀ V bs) (h5 : s.waits < 4) (hn : n₀ ≤ w.heap.size) (hg : g < w.heap.size) (a : Int) (b : Bool) : SegP n₀ g w (((W.setCell ⟨g, 3, none⟩ V).setCell ⟨w.heap.size + 1, 0, none⟩ (.int .u8 a)).setCell ⟨g, 5, none⟩ (.bool b)) := by
  have hgr : w.heap.size + 1 ≠ g := by omega
  have h3 : SegP n₀ g w (W.setCell ⟨g, 3, none⟩ V) := ⟨⟨_, inv_put3 hI V hV h5⟩, hF.set hI.2.1 3 V, ⟨y, other_blk hr hgr 3 V⟩, other_blk hz (by omega) 3 V⟩
  obtain ⟨⟨s', e1⟩, e2, ⟨y', e3⟩, e4⟩ := seg0 h3 hn hg a
  exact ⟨⟨_, inv_put5 e1 b⟩, e2.set hI.2.1 5 _, ⟨y', other_blk e3 hgr 5 _⟩, other_blk e4 (by omega) 5 _⟩
theorem segStop {n₀ g : Nat} {w W : World} {P : Program} {ops : Array Oper} {rest : List Oper} {a : Act} {Q : Exit → Act → World → Prop} (h : SegP n₀ g w W) (k : ∀ W, SegP n₀ g w W → wpList P ops Q rest a W) : id (wpList P ops Q rest a W) := k W h
set_option maxHeartbeats 8000000 in
set_option maxRecDepth 100000 in
theorem segment_calls (n₀ g : Nat) (s : CS) (w : World) (h : Inv w n₀ g s) (h5 : s.waits < 4) :
    Calls Try.prog 159 #[.pointer (some ⟨g, 0, none⟩)] w fun e w' => (∃ x, e = .returned (.agg (fr8 x))) ∧ (∃ s', Inv w' n₀ g s') ∧ Fr n₀ g w w' := by
  have hn : n₀ ≤ w.heap.size := Nat.le_trans h.2.1 (Nat.le_of_lt h.1.lt)
  obtain ⟨c0, c1, c2, c3, c4, c5, c6, c7, c8, c9⟩ := h.1.cell
  have hg := h.1.lt
  have HI := Aside0.mk h
  have HN := Aside0.mk hn
  have k0 := h.1.frozen 0
  have k1 := h.1.frozen 1
  have k2 := h.1.frozen 2
  have k3 := h.1.frozen 3
  have k4 := h.1.frozen 4
  have k5 := h.1.frozen 5
  have k6 := h.1.frozen 6
  have k7 := h.1.frozen 7
  have k8 := h.1.frozen 8
  have k9 := h.1.frozen 9
  obtain ⟨bs, hbs⟩ := h.2.2.1
  obtain ⟨A, c, hv, hcap, hC⟩ := BQ.slice hbs
  have hmax : bs.length ≤ 9223372036854775807 := hC.2.1
  obtain ⟨q, hq⟩ : ∃ q, q = Nat.min bs.length 7 := ⟨_, rfl⟩
  have hqn : q ≤ bs.length := by rw [hq]; exact Nat.min_le_left _ _
  have hq7 : q ≤ 7 := by rw [hq]; exact Nat.min_le_right _ _
  have hlt : ((bs.take 7).map (Value.int .u8)).length = q := by rw [List.length_map, List.length_take, hq]; exact Nat.min_comm _ _
  have hcp : ∃ y W4, (Builtin.copy_ #[23, 23] 3 #[.slice (some ⟨w.heap.size + 1, 1, none⟩) 7 7, .slice A bs.length c]).run Try.prog ((w.alloc (Obj.cells #[.int .u8 0, .int .u8 0, .int .u8 0, .int .u8 0, .int .u8 0, .int .u8 0, .int .u8 0, .int .u8 0] 43)).alloc (Obj.cells #[.int .u8 0, .int .u8 0, .int .u8 0, .int .u8 0, .int .u8 0, .int .u8 0, .int .u8 0, .int .u8 0] 43)).drew = .ok (.int .i64 (q : Int)) W4 ∧ W4.heap[w.heap.size + 1]? = some (.cells (fr8 y) 43 (0, 0)) ∧ Below w.heap.size w W4 ∧ W4.heap[w.heap.size]? = some (.cells zero8 43 (0, 0)) := by
    have hr0 : ((w.alloc (Obj.cells #[.int .u8 0, .int .u8 0, .int .u8 0, .int .u8 0, .int .u8 0, .int .u8 0, .int .u8 0, .int .u8 0] 43)).alloc (Obj.cells #[.int .u8 0, .int .u8 0, .int .u8 0, .int .u8 0, .int .u8 0, .int .u8 0, .int .u8 0, .int .u8 0] 43)).drew.heap[w.heap.size + 1]? = some (.cells zero8 43 (0, 0)) := blk_drew (alloc_blk (w.heap.size + 1) (by simp) rfl)
    have hz0 : ((w.alloc (Obj.cells #[.int .u8 0, .int .u8 0, .int .u8 0, .int .u8 0, .int .u8 0, .int .u8 0, .int .u8 0, .int .u8 0] 43)).alloc (Obj.cells #[.int .u8 0, .int .u8 0, .int .u8 0, .int .u8 0, .int .u8 0, .int .u8 0, .int .u8 0, .int .u8 0] 43)).drew.heap[w.heap.size]? = some (.cells zero8 43 (0, 0)) := blk_drew (blk_alloc (blk_new _ _) _)
    have hb0 : Below w.heap.size w ((w.alloc (Obj.cells #[.int .u8 0, .int .u8 0, .int .u8 0, .int .u8 0, .int .u8 0, .int .u8 0, .int .u8 0, .int .u8 0] 43)).alloc (Obj.cells #[.int .u8 0, .int .u8 0, .int .u8 0, .int .u8 0, .int .u8 0, .int .u8 0, .int .u8 0, .int .u8 0] 43)).drew := below_drew1 (below_alloc (below_alloc (Below.refl _ _) _) _)
    by_cases h0 : bs.length = 0
    · have hq0 : q = 0 := by omega
      have := run_copy_none (P := Try.prog) (w := ((w.alloc (Obj.cells #[.int .u8 0, .int .u8 0, .int .u8 0, .int .u8 0, .int .u8 0, .int .u8 0, .int .u8 0, .int .u8 0] 43)).alloc (Obj.cells #[.int .u8 0, .int .u8 0, .int .u8 0, .int .u8 0, .int .u8 0, .int .u8 0, .int .u8 0, .int .u8 0] 43)).drew) 23 23 3 5 (some ⟨w.heap.size + 1, 1, none⟩) A 7 7 bs.length c Try.underlying23 (by kernel_rfl) (by rw [h0]; rfl)
      exact ⟨fun _ => 0, _, by rw [hq0]; exact this, hr0, hb0, hz0⟩
    · obtain ⟨ad, hA, hsrc⟩ := bytes_src (by rw [← hv]; exact hbs) (by omega)
      subst hA
      obtain ⟨y, hy⟩ := splice1 (bs.take 7) (by simp; omega)
      have := run_copy_row (P := Try.prog) (w := ((w.alloc (Obj.cells #[.int .u8 0, .int .u8 0, .int .u8 0, .int .u8 0, .int .u8 0, .int .u8 0, .int .u8 0, .int .u8 0] 43)).alloc (Obj.cells #[.int .u8 0, .int .u8 0, .int .u8 0, .int .u8 0, .int .u8 0, .int .u8 0, .int .u8 0, .int .u8 0] 43)).drew) 23 23 3 5 (w.heap.size + 1) 1 7 7 ad bs.length c zero8 43 ((bs.take 7).map (Value.int .u8)) Try.underlying23 (by kernel_rfl) hr0 (hlt.trans hq) (fun j v hj => (hb0.cell (World.block_lt_of_cell? w _ (hsrc j v (by rw [List.map_take, List.getElem?_take] at hj; split at hj; exact hj; cases hj)))).trans (hsrc j v (by rw [List.map_take, List.getElem?_take] at hj; split at hj; exact hj; cases hj))) (by rw [hlt]; show 1 + q ≤ 8; omega) (fun v hv => by obtain ⟨b, _, rfl⟩ := List.mem_map.1 hv; rfl)
      rw [hy, hlt] at this
      exact ⟨y, _, this, setRow_heap _ _ _ _ _ _ hr0, below_setRow hb0 (by omega) _, (setRow_other _ _ _ _ (by omega)).trans hz0⟩
  obtain ⟨y, W4, hcp, hr4, hb4, hz4⟩ := hcp
  have HI4 := Aside0.mk (h.below hb4)
  have KR4 := Aside0.mk (KR.below hb4)
  have HF4 := Aside0.mk ((Fr.refl n₀ g w).below hn hb4)
  have HBS := Aside0.mk (show BQ w n₀ (.slice A bs.length c) bs by rw [← hv]; exact hbs)
  have HR4 := Aside0.mk hr4
  have HZ4 := Aside0.mk hz4
  unfold fr8 at hr4
  obtain ⟨d0, d1, d2, d3, d4, d5, d6, d7⟩ := fr8_cell hr4
  obtain ⟨e0, e1, e2, e3, e4, e5, e6, e7⟩ := fr8_frozen hr4
  obtain ⟨z0, z1, z2, z3, z4, z5, z6, z7⟩ := fr8_cell hz4
  obtain ⟨f0, f1, f2, f3, f4, f5, f6, f7⟩ := fr8_frozen hz4
  rw [hv] at c3
  obtain ⟨C0, C1, C2, C3, C4, C5, C6, C7, C8, C9⟩ := HI4.out.1.cell
  rw [hv] at C3
  have K3 := HI4.out.1.frozen 3
  have K5 := HI4.out.1.frozen 5
  have H5 := Aside0.mk h5
  have HQ := Aside0.mk hq
  clear h hn hr4 hz4 hb4 hbs hv hC hq hlt h5 c0 c1 c2 c4 c5 c6 c7 c8 c9 k0 k1 k2 k3 k4 k5 k6 k7 k8 k9
  have hdr := Kd.Q_drop HBS.out hqn
  obtain ⟨A', hA'⟩ : ∃ A', A' = (if c = q then A else A.map (·.add (q * (Kd.int .u8).sz))) := ⟨_, rfl⟩
  rw [← hA'] at hdr
  have hA2 : (A = none ∧ A' = none ∧ bs.length = 0 ∧ q = 0) ∨ (∃ ad, A = some ad ∧ ((c = q ∧ A' = some ad) ∨ (c ≠ q ∧ A' = some (ad.add q)))) := by
    cases A with
    | none =>
      have h0 : bs.length = 0 := by
        rcases Nat.eq_zero_or_pos bs.length with h0 | h0
        · exact h0
        · obtain ⟨_, e, _⟩ := bytes_src HBS.out h0
          cases e
      exact .inl ⟨rfl, by rw [hA']; split <;> rfl, h0, by omega⟩
    | some ad =>
      refine .inr ⟨ad, rfl, ?_⟩
      by_cases hcq : c = q
      · exact .inl ⟨hcq, by rw [hA', if_pos hcq]⟩
      · refine .inr ⟨hcq, ?_⟩
        rw [hA', if_neg hcq]
        show some (ad.add (q * 1)) = _
        rw [Nat.mul_one]
  have HV4 := Aside0.mk (BQ.move hdr KR4.out)
  have hll : (bs.drop q).length = bs.length - q := by simp
  clear hdr hA'
  rcases hA2 with ⟨rfl, rfl, hb0, rfl⟩ | ⟨ad, rfl, ⟨hcq, rfl⟩ | ⟨hcq, rfl⟩⟩
  · rw [hb0] at hcp c3 C3
    have hv4 := HV4.out
    rw [hb0] at hv4
    replace HV4 := Aside0.mk (show BQ W4 n₀ (.slice none 0 c) _ from hv4)
    clear hv4
    go_enter Try.func159, Try.ntmps159
    go_wp2_with fail
    go_region
    go_wp2_with ((with_reducible refine gate_dst (N := 47) rfl ?_); apply stopHere)
    all_goals (
      refine segStop (by first | with_reducible exact seg0 (seg1 HI4.out HF4.out HR4.out HZ4.out HV4.out H5.out HN.out hg _ _) HN.out hg _ | with_reducible exact seg1 HI4.out HF4.out HR4.out HZ4.out HV4.out H5.out HN.out hg _ _) ?_
      clear z0 z1 z2 z3 z4 z5 z6 z7 f0 f1 f2 f3 f4 f5 f6 f7 d0 d1 d2 d3 d4 d5 d6 d7 e0 e1 e2 e3 e4 e5 e6 e7
      rintro W5 ⟨⟨s', hI5⟩, hF5, ⟨x, hr5⟩, hz5⟩
      have HI5 := Aside0.mk hI5
      have HF5 := Aside0.mk hF5
      have HZ5 := Aside0.mk hz5
      unfold fr8 at hr5
      obtain ⟨d0, d1, d2, d3, d4, d5, d6, d7⟩ := fr8_cell hr5
      obtain ⟨z0, z1, z2, z3, z4, z5, z6, z7⟩ := fr8_cell hz5
      obtain ⟨f0, f1, f2, f3, f4, f5, f6, f7⟩ := fr8_frozen hz5
      clear hI5 hF5 hr5 hz5
      go_wp2_with fail
      obtain ⟨hI6, hF6⟩ := inv_box HI5.out HZ5.out HF5.out (Nat.le_refl _) HN.out (.int .u8 (x 0)) (.int .u8 (x 1)) (.int .u8 (x 2)) (.int .u8 (x 3)) (.int .u8 (x 4)) (.int .u8 (x 5)) (.int .u8 (x 6)) (.int .u8 (x 7))
      refine bodyPost_ret (results_single rfl (.cell _ 43 _ (0, 0) _ rfl (fr8_put HZ5.out _ _ _ _ _ _ _ _) Try.underlying43 rfl (by kernel_rfl) .nil)) rfl ?_
      exact ⟨⟨x, rfl⟩, ⟨_, hI6⟩, hF6⟩)
  · subst hcq
    have hv4 := HV4.out
    rw [Nat.sub_self, show bs.length - c = 0 by omega] at hv4
    replace HV4 := Aside0.mk hv4
    clear hv4
    go_enter Try.func159, Try.ntmps159
    go_wp2_with fail
    go_region
    go_wp2_with ((with_reducible refine gate_dst (N := 47) rfl ?_); apply stopHere)
    all_goals (
      refine segStop (by first | with_reducible exact seg0 (seg1 HI4.out HF4.out HR4.out HZ4.out HV4.out H5.out HN.out hg _ _) HN.out hg _ | with_reducible exact seg1 HI4.out HF4.out HR4.out HZ4.out HV4.out H5.out HN.out hg _ _) ?_
      clear z0 z1 z2 z3 z4 z5 z6 z7 f0 f1 f2 f3 f4 f5 f6 f7 d0 d1 d2 d3 d4 d5 d6 d7 e0 e1 e2 e3 e4 e5 e6 e7
      rintro W5 ⟨⟨s', hI5⟩, hF5, ⟨x, hr5⟩, hz5⟩
      have HI5 := Aside0.mk hI5
      have HF5 := Aside0.mk hF5
      have HZ5 := Aside0.mk hz5
      unfold fr8 at hr5
      obtain ⟨d0, d1, d2, d3, d4, d5, d6, d7⟩ := fr8_cell hr5
      obtain ⟨z0, z1, z2, z3, z4, z5, z6, z7⟩ := fr8_cell hz5
      obtain ⟨f0, f1, f2, f3, f4, f5, f6, f7⟩ := fr8_frozen hz5
      clear hI5 hF5 hr5 hz5
      go_wp2_with fail
      obtain ⟨hI6, hF6⟩ := inv_box HI5.out HZ5.out HF5.out (Nat.le_refl _) HN.out (.int .u8 (x 0)) (.int .u8 (x 1)) (.int .u8 (x 2)) (.int .u8 (x 3)) (.int .u8 (x 4)) (.int .u8 (x 5)) (.int .u8 (x 6)) (.int .u8 (x 7))
      refine bodyPost_ret (results_single rfl (.cell _ 43 _ (0, 0) _ rfl (fr8_put HZ5.out _ _ _ _ _ _ _ _) Try.underlying43 rfl (by kernel_rfl) .nil)) rfl ?_
      exact ⟨⟨x, rfl⟩, ⟨_, hI6⟩, hF6⟩)
  · go_enter Try.func159, Try.ntmps159
    go_wp2_with fail
    go_region
    go_wp2_with ((with_reducible refine gate_dst (N := 47) rfl ?_); apply stopHere)
    all_goals (
      refine segStop (by first | with_reducible exact seg0 (seg1 HI4.out HF4.out HR4.out HZ4.out HV4.out H5.out HN.out hg _ _) HN.out hg _ | with_reducible exact seg1 HI4.out HF4.out HR4.out HZ4.out HV4.out H5.out HN.out hg _ _) ?_
      clear z0 z1 z2 z3 z4 z5 z6 z7 f0 f1 f2 f3 f4 f5 f6 f7 d0 d1 d2 d3 d4 d5 d6 d7 e0 e1 e2 e3 e4 e5 e6 e7
      rintro W5 ⟨⟨s', hI5⟩, hF5, ⟨x, hr5⟩, hz5⟩
      have HI5 := Aside0.mk hI5
      have HF5 := Aside0.mk hF5
      have HZ5 := Aside0.mk hz5
      unfold fr8 at hr5
      obtain ⟨d0, d1, d2, d3, d4, d5, d6, d7⟩ := fr8_cell hr5
      obtain ⟨z0, z1, z2, z3, z4, z5, z6, z7⟩ := fr8_cell hz5
      obtain ⟨f0, f1, f2, f3, f4, f5, f6, f7⟩ := fr8_frozen hz5
      clear hI5 hF5 hr5 hz5
      go_wp2_with fail
      obtain ⟨hI6, hF6⟩ := inv_box HI5.out HZ5.out HF5.out (Nat.le_refl _) HN.out (.int .u8 (x 0)) (.int .u8 (x 1)) (.int .u8 (x 2)) (.int .u8 (x 3)) (.int .u8 (x 4)) (.int .u8 (x 5)) (.int .u8 (x 6)) (.int .u8 (x 7))
      refine bodyPost_ret (results_single rfl (.cell _ 43 _ (0, 0) _ rfl (fr8_put HZ5.out _ _ _ _ _ _ _ _) Try.underlying43 rfl (by kernel_rfl) .nil)) rfl ?_
      exact ⟨⟨x, rfl⟩, ⟨_, hI6⟩, hF6⟩)
end Go.Proofs.Yteefnclkcnkbhaa.GClientExpires
