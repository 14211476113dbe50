import Derived.Test.YteefnclkcnkbhaaProg
import Derived.Below
import Derived.Deep.Draws
import Derived.Deep.AppendLies
import Derived.Maps.AppendAt
import Derived.OwnWalk
import Derived.Laws.BytesArg
import Derived.Laws.MakeOwn
import Derived.Laws.OwnMore
import Derived.Deep.OwnRows
import Derived.Tactics
import Derived.Lib.ConvBytes
import Derived.Laws.Slices
import Derived.WalkKit
import Derived.KernelRfl
import Derived.RowKit3
import Derived.Deep.LoopGhost
import Derived.Deep.QuietTactic
import Derived.BigQuiet
import Derived.WideLaws
import Derived.Deep.DeepCutAuto
import Derived.Deep.CutBlock
import Derived.Deep.RegionHeld3
import Derived.Laws.Rows
import Derived.Lib.AppendStr
import Derived.ArgAppend
import Derived.Laws.IdiomCopy
import Derived.OrdersHeld
import Derived.Laws.BitsLemmas
import Derived.RowKit
import Derived.Test.YteefnclkcnkbhaaWWords
import Derived.Test.YteefnclkcnkbhaaWLast
import Derived.Test.YteefnclkcnkbhaaWTab
import Derived.Test.YteefnclkcnkbhaaWFour
import Derived.Test.YteefnclkcnkbhaaWQPut
import Derived.Test.YteefnclkcnkbhaaWApart
import Derived.Test.YteefnclkcnkbhaaWArr
import Derived.Test.YteefnclkcnkbhaaWZeros
import Derived.Test.YteefnclkcnkbhaaWFoot
import Derived.Test.YteefnclkcnkbhaaWKept
import Derived.Test.YteefnclkcnkbhaaWShare
import Derived.Test.YteefnclkcnkbhaaWN
import Derived.Test.YteefnclkcnkbhaaWFootNe
import Derived.Test.YteefnclkcnkbhaaWAt
import Derived.Test.YteefnclkcnkbhaaWEqStruct
import Derived.Test.YteefnclkcnkbhaaWRepsOne
import Derived.Test.YteefnclkcnkbhaaWInv
import Derived.Test.YteefnclkcnkbhaaWInvWords
import Derived.Test.YteefnclkcnkbhaaWGuard
import Derived.Test.YteefnclkcnkbhaaWNEv
import Derived.Test.YteefnclkcnkbhaaWMore
import Derived.Deep.RegionLaw
import Derived.Laws.BitsAllLaws
import Derived.Lib.SliceRun
import Derived.Deep.RegionWith
import Derived.StillTailTactics
import Derived.Laws.CopyOwn
import Derived.Test.YteefnclkcnkbhaaCliA
namespace Go.Proofs.Yteefnclkcnkbhaa.GClientExpires
open Go.RowKit Go.Proofs.YteefnclkcnkbhaaW.PrintWords Go.Proofs.YteefnclkcnkbhaaW.PrintLast Go.Proofs.YteefnclkcnkbhaaW.PrintMore
attribute [local go_sem] max2_int min2_int max_two min_two max_three min_three max_four min_four   -- for this text's walks alone
set_option linter.unusedVariables false
set_option linter.unusedSimpArgs false



/-- where gives stands behind its drawn line: r holds the frame -/
def Gv (L : Nat) (n₀ g : Nat) (s : CS) (w W : World) (r : Nat) (x : Nat → Int) : Prop := InvL L W n₀ g s ∧ Fr n₀ g w W ∧ W.heap[r]? = some (.cells (fr8 x) 43 (0, 0)) ∧ W.heap[w.heap.size]? = some (.cells zero8 43 (0, 0)) ∧ w.heap.size < r
theorem not5 {W : World} {k : Nat} {cs : Array Value} (h : W.heap[k]? = some (.cells cs 43 (0, 0))) (cs' : Array Value) : W.heap[k]? ≠ some (Obj.cells cs' 5 (0, 0)) := by
  rw [h]
  intro e
  injection e with e
  injection e with _ e
  exact absurd e (by decide)
theorem Fr.blk {n₀ g : Nat} {w W : World} (h : Fr n₀ g w W) {k : Nat} {cs : Array Value} (hk : w.heap[k]? = some (.cells cs 43 (0, 0))) (hg : k ≠ g) : W.heap[k]? = some (.cells cs 43 (0, 0)) :=
  (h.2.2 k (blk_lt hk) hg (not5 hk)).trans hk
theorem ne_of_at {W : World} {g k : Nat} {s : CS} {cs : Array Value} (h : At W g s) (hk : W.heap[k]? = some (.cells cs 43 (0, 0))) : k ≠ g := by
  rintro rfl
  unfold At at h
  rw [h] at hk
  injection hk with hk
  injection hk with _ hk
  exact absurd hk (by decide)
theorem gv1 {L n₀ g : Nat} {s : CS} {w w' : World} (x : Nat → Int) (h : InvL L w n₀ g s) (hb : Below (w.alloc (Obj.cells #[.int .u8 0, .int .u8 0, .int .u8 0, .int .u8 0, .int .u8 0, .int .u8 0, .int .u8 0, .int .u8 0] 43)).drew.heap.size (w.alloc (Obj.cells #[.int .u8 0, .int .u8 0, .int .u8 0, .int .u8 0, .int .u8 0, .int .u8 0, .int .u8 0, .int .u8 0] 43)).drew w') : Gv L n₀ g s w (w'.alloc (.cells (fr8 x) 43)) w'.heap.size x := by
  have hn : n₀ ≤ w.heap.size := Nat.le_trans h.2.1 (Nat.le_of_lt h.1.lt)
  have h1 : InvL L w' n₀ g s := ((h.alloc (Obj.cells #[.int .u8 0, .int .u8 0, .int .u8 0, .int .u8 0, .int .u8 0, .int .u8 0, .int .u8 0, .int .u8 0] 43)).drew).below hb
  have hlt : w.heap.size < w'.heap.size := Nat.lt_of_lt_of_le (by simp) hb.size
  exact ⟨h1.alloc _, ((((Fr.refl n₀ g w).alloc hn (Obj.cells #[.int .u8 0, .int .u8 0, .int .u8 0, .int .u8 0, .int .u8 0, .int .u8 0, .int .u8 0, .int .u8 0] 43)).drew).below hn hb).alloc hn _, blk_new _ _, blk_alloc ((hb.block w.heap.size (by simp)).trans (blk_drew (blk_new _ _))) _, hlt⟩
theorem gv2 {L n₀ g : Nat} {s : CS} {w w' : World} (x : Nat → Int) (h : InvL L w n₀ g s) (hb : Below ((w.alloc (Obj.cells #[.int .u8 0, .int .u8 0, .int .u8 0, .int .u8 0, .int .u8 0, .int .u8 0, .int .u8 0, .int .u8 0] 43)).alloc (Obj.cells #[.int .u8 0, .int .u8 0, .int .u8 0, .int .u8 0, .int .u8 0, .int .u8 0, .int .u8 0, .int .u8 0] 43)).drew.heap.size ((w.alloc (Obj.cells #[.int .u8 0, .int .u8 0, .int .u8 0, .int .u8 0, .int .u8 0, .int .u8 0, .int .u8 0, .int .u8 0] 43)).alloc (Obj.cells #[.int .u8 0, .int .u8 0, .int .u8 0, .int .u8 0, .int .u8 0, .int .u8 0, .int .u8 0, .int .u8 0] 43)).drew w') (b0 : w'.heap[w.heap.size + 1]? = some (.cells zero8 43 (0, 0))) :
    Gv L n₀ g s w ((((((((w'.setCell ⟨w.heap.size + 1, 0, none⟩ (.int .u8 (x 0))).setCell ⟨w.heap.size + 1, 1, none⟩ (.int .u8 (x 1))).setCell ⟨w.heap.size + 1, 2, none⟩ (.int .u8 (x 2))).setCell ⟨w.heap.size + 1, 3, none⟩ (.int .u8 (x 3))).setCell ⟨w.heap.size + 1, 4, none⟩ (.int .u8 (x 4))).setCell ⟨w.heap.size + 1, 5, none⟩ (.int .u8 (x 5))).setCell ⟨w.heap.size + 1, 6, none⟩ (.int .u8 (x 6))).setCell ⟨w.heap.size + 1, 7, none⟩ (.int .u8 (x 7))) (w.heap.size + 1) x := by
  have hn : n₀ ≤ w.heap.size := Nat.le_trans h.2.1 (Nat.le_of_lt h.1.lt)
  have h1 : InvL L w' n₀ g s := (((h.alloc (Obj.cells #[.int .u8 0, .int .u8 0, .int .u8 0, .int .u8 0, .int .u8 0, .int .u8 0, .int .u8 0, .int .u8 0] 43)).alloc (Obj.cells #[.int .u8 0, .int .u8 0, .int .u8 0, .int .u8 0, .int .u8 0, .int .u8 0, .int .u8 0, .int .u8 0] 43)).drew).below hb
  have hg : w.heap.size + 1 ≠ g := by have := h.1.lt; omega
  have hF : Fr n₀ g w w' := (((((Fr.refl n₀ g w).alloc hn (Obj.cells #[.int .u8 0, .int .u8 0, .int .u8 0, .int .u8 0, .int .u8 0, .int .u8 0, .int .u8 0, .int .u8 0] 43)).alloc hn (Obj.cells #[.int .u8 0, .int .u8 0, .int .u8 0, .int .u8 0, .int .u8 0, .int .u8 0, .int .u8 0, .int .u8 0] 43)).drew).below hn hb)
  have hz : w'.heap[w.heap.size]? = some (.cells zero8 43 (0, 0)) := (hb.block w.heap.size (by show w.heap.size < ((w.alloc _).alloc _).heap.size; simp; omega)).trans (blk_drew (blk_alloc (blk_new _ _) _))
  refine ⟨h1.move ?_ ?_, ?_, fr8_put b0 _ _ _ _ _ _ _ _, ?_, by omega⟩
  · rw [set_other _ 7 _ hg.symm, set_other _ 6 _ hg.symm, set_other _ 5 _ hg.symm, set_other _ 4 _ hg.symm, set_other _ 3 _ hg.symm, set_other _ 2 _ hg.symm, set_other _ 1 _ hg.symm, set_other _ 0 _ hg.symm]
  · intro k cs hk
    have hk2 : k ≠ w.heap.size + 1 := by rintro rfl; exact not5 b0 cs hk
    rw [set_other _ 7 _ hk2, set_other _ 6 _ hk2, set_other _ 5 _ hk2, set_other _ 4 _ hk2, set_other _ 3 _ hk2, set_other _ 2 _ hk2, set_other _ 1 _ hk2, set_other _ 0 _ hk2]
  · exact (((((((hF.setn (r := w.heap.size + 1) (by omega) hn 0 _).setn (r := w.heap.size + 1) (by omega) hn 1 _).setn (r := w.heap.size + 1) (by omega) hn 2 _).setn (r := w.heap.size + 1) (by omega) hn 3 _).setn (r := w.heap.size + 1) (by omega) hn 4 _).setn (r := w.heap.size + 1) (by omega) hn 5 _).setn (r := w.heap.size + 1) (by omega) hn 6 _).setn (r := w.heap.size + 1) (by omega) hn 7 _
  · have hk2 : w.heap.size ≠ w.heap.size + 1 := by omega
    rw [set_other _ 7 _ hk2, set_other _ 6 _ hk2, set_other _ 5 _ hk2, set_other _ 4 _ hk2, set_other _ 3 _ hk2, set_other _ 2 _ hk2, set_other _ 1 _ hk2, set_other _ 0 _ hk2]
    exact hz
/-- eight cells of a result's box are written: what the client's state is, stays -/
theorem inv_box {L n₀ g : Nat} {s : CS} {w W : World} {r : Nat} {cs : Array Value} (h : InvL L W n₀ g s) (hr : W.heap[r]? = some (.cells cs 43 (0, 0))) (hF : Fr n₀ g w W) (hw : w.heap.size ≤ r) (hn : n₀ ≤ w.heap.size) (a b c d e f p q : Value) :
    InvL L ((((((((W.setCell ⟨r, 0, none⟩ a).setCell ⟨r, 1, none⟩ b).setCell ⟨r, 2, none⟩ c).setCell ⟨r, 3, none⟩ d).setCell ⟨r, 4, none⟩ e).setCell ⟨r, 5, none⟩ f).setCell ⟨r, 6, none⟩ p).setCell ⟨r, 7, none⟩ q) n₀ g s ∧
    Fr n₀ g w ((((((((W.setCell ⟨r, 0, none⟩ a).setCell ⟨r, 1, none⟩ b).setCell ⟨r, 2, none⟩ c).setCell ⟨r, 3, none⟩ d).setCell ⟨r, 4, none⟩ e).setCell ⟨r, 5, none⟩ f).setCell ⟨r, 6, none⟩ p).setCell ⟨r, 7, none⟩ q) := by
  have hg : r ≠ g := ne_of_at h.1 hr
  refine ⟨h.move ?_ ?_, (((((((hF.setn hw hn 0 _).setn hw hn 1 _).setn hw hn 2 _).setn hw hn 3 _).setn hw hn 4 _).setn hw hn 5 _).setn hw hn 6 _).setn hw hn 7 _⟩
  · rw [set_other _ 7 _ hg.symm, set_other _ 6 _ hg.symm, set_other _ 5 _ hg.symm, set_other _ 4 _ hg.symm, set_other _ 3 _ hg.symm, set_other _ 2 _ hg.symm, set_other _ 1 _ hg.symm, set_other _ 0 _ hg.symm]
  · intro k cs hk
    have hk2 : k ≠ r := by rintro rfl; exact not5 hr cs hk
    rw [set_other _ 7 _ hk2, set_other _ 6 _ hk2, set_other _ 5 _ hk2, set_other _ 4 _ hk2, set_other _ 3 _ hk2, set_other _ 2 _ hk2, set_other _ 1 _ hk2, set_other _ 0 _ hk2]
theorem abort_two (w : World) (i s n : Int) : Calls Try.prog 127 #[.int .u16 i, .int .u8 s, .int .u32 n] ((w.alloc (Obj.cells #[.int .u8 0, .int .u8 0, .int .u8 0, .int .u8 0, .int .u8 0, .int .u8 0, .int .u8 0, .int .u8 0] 43)).alloc (Obj.cells #[.int .u8 0, .int .u8 0, .int .u8 0, .int .u8 0, .int .u8 0, .int .u8 0, .int .u8 0, .int .u8 0] 43)).drew fun e w' => (∃ x, e = .returned (.agg (fr8 x))) ∧ Below ((w.alloc (Obj.cells #[.int .u8 0, .int .u8 0, .int .u8 0, .int .u8 0, .int .u8 0, .int .u8 0, .int .u8 0, .int .u8 0] 43)).alloc (Obj.cells #[.int .u8 0, .int .u8 0, .int .u8 0, .int .u8 0, .int .u8 0, .int .u8 0, .int .u8 0, .int .u8 0] 43)).drew.heap.size ((w.alloc (Obj.cells #[.int .u8 0, .int .u8 0, .int .u8 0, .int .u8 0, .int .u8 0, .int .u8 0, .int .u8 0, .int .u8 0] 43)).alloc (Obj.cells #[.int .u8 0, .int .u8 0, .int .u8 0, .int .u8 0, .int .u8 0, .int .u8 0, .int .u8 0, .int .u8 0] 43)).drew w' ∧ w'.heap[w.heap.size + 1]? = some (.cells zero8 43 (0, 0)) :=
  (abort_calls i s n _).mono fun e w' ⟨h1, h2⟩ => ⟨h1, h2, (h2.block (w.heap.size + 1) (by show w.heap.size + 1 < ((w.alloc _).alloc _).heap.size; simp)).trans (blk_drew (alloc_blk (w.heap.size + 1) (by simp) rfl))⟩
set_option maxHeartbeats 8000000 in
set_option maxRecDepth 100000 in
theorem gives_calls {L : Nat} (n₀ g : Nat) (s : CS) (code : Int) (w : World) (h : InvL L w n₀ g s) :
    Calls Try.prog 70 #[.pointer (some ⟨g, 0, none⟩), .int .u32 code] w fun e w' => (∃ x, e = .returned (.tuple #[.agg (fr8 x), .bool true])) ∧ Inv w' n₀ g ⟨0, 0, 0, .slice none 0 0, 0, false, 0, .slice none 0 0, code, true⟩ ∧ Fr n₀ g w w' := by
  obtain ⟨c0, c1, c2, c3, c4, c5, c6, c7, c8, c9⟩ := h.1.cell
  have hg := h.1.lt
  have HI := Aside0.mk h
  have HB := Aside0.mk (Below.refl w.heap.size w)
  clear h c0 c3 c4 c5 c6 c7 c8 c9
  go_enter Try.func70, Try.ntmps70
  go_wp2_with fail
  go_region_with (go_at_call 127; first | (with_reducible refine (abort_two w _ _ _).mono ?_; rintro e w' ⟨⟨x, rfl⟩, hb, b0⟩; unfold fr8; obtain ⟨d0, d1, d2, d3, d4, d5, d6, d7⟩ := fr8_cell b0; obtain ⟨f0, f1, f2, f3, f4, f5, f6, f7⟩ := fr8_frozen b0; have B0 := Aside0.mk b0; clear b0; have HB1 := Aside0.mk hb; clear hb) | (refine (abort_calls _ _ _ _).mono ?_; rintro e w' ⟨⟨x, rfl⟩, hb⟩; unfold fr8; have HB1 := Aside0.mk hb; clear hb))
  all_goals (first | (have hG := gv1 x HI.out HB1.out; unfold fr8 at hG) | (have hG := gv2 x HI.out HB1.out B0.out))
  all_goals (
    obtain ⟨hI2, hF2, hr, hz, hlt⟩ := hG
    have HI2 := Aside0.mk hI2
    have HF2 := Aside0.mk hF2
    have HR := Aside0.mk hr
    have HZ := Aside0.mk hz
    clear hI2 hF2 hr hz c1 c2
    try clear d0 d1 d2 d3 d4 d5 d6 d7 f0 f1 f2 f3 f4 f5 f6 f7 B0
    clear HB1
    go_wp2_with (go_at_call 118; refine (ends_calls n₀ g s (.slice none 0 0) [] code _ HI2.out (Kd.Q_nil _ _ _ _ _)).mono ?_; rintro e w3 ⟨rfl, hI3, hF3⟩; have hr3 := hF3.blk HR.out (ne_of_at HI2.out.1 HR.out); have hz3 := hF3.blk HZ.out (ne_of_at HI2.out.1 HZ.out); unfold fr8 at hr3; obtain ⟨d0, d1, d2, d3, d4, d5, d6, d7⟩ := fr8_cell hr3; obtain ⟨z0, z1, z2, z3, z4, z5, z6, z7⟩ := fr8_cell hz3; obtain ⟨f0, f1, f2, f3, f4, f5, f6, f7⟩ := fr8_frozen hz3; have HI3 := Aside0.mk hI3; have HF3 := Aside0.mk (HF2.out.trans hF3); have HZ3 := Aside0.mk hz3; clear hI3 hF3 hr3 hz3)
    have hn : n₀ ≤ w.heap.size := Nat.le_trans HI.out.2.1 (Nat.le_of_lt HI.out.1.lt)
    obtain ⟨hI4, hF4⟩ := inv_box HI3.out HZ3.out HF3.out (Nat.le_refl _) hn (.int .u8 (x 0)) (.int .u8 (x 1)) (.int .u8 (x 2)) (.int .u8 (x 3)) (.int .u8 (x 4)) (.int .u8 (x 5)) (.int .u8 (x 6)) (.int .u8 (x 7))
    refine bodyPost_ret (results_ct rfl _ _ _ 43 _ (0, 0) _ rfl (fr8_put HZ3.out _ _ _ _ _ _ _ _) Try.underlying43 rfl (by kernel_rfl)) rfl ?_
    exact ⟨⟨x, rfl⟩, hI4, hF4⟩)
end Go.Proofs.Yteefnclkcnkbhaa.GClientExpires
