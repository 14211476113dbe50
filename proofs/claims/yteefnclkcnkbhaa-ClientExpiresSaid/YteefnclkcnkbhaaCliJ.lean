import Derived.Test.YteefnclkcnkbhaaProg
import Derived.Below
import Derived.Deep.Draws
import Derived.Deep.AppendLies
import Derived.Maps.AppendAt
import Derived.OwnWalk
import Derived.Laws.BytesArg
import Derived.Laws.MakeOwn
import Derived.Laws.OwnMore
import Derived.Deep.OwnRows
import Derived.Tactics
import Derived.Lib.ConvBytes
import Derived.Laws.Slices
import Derived.WalkKit
import Derived.KernelRfl
import Derived.RowKit3
import Derived.Deep.LoopGhost
import Derived.Deep.QuietTactic
import Derived.BigQuiet
import Derived.WideLaws
import Derived.Deep.DeepCutAuto
import Derived.Deep.CutBlock
import Derived.Deep.RegionHeld3
import Derived.Laws.Rows
import Derived.Lib.AppendStr
import Derived.ArgAppend
import Derived.Laws.IdiomCopy
import Derived.OrdersHeld
import Derived.Laws.BitsLemmas
import Derived.RowKit
import Derived.Test.YteefnclkcnkbhaaWWords
import Derived.Test.YteefnclkcnkbhaaWLast
import Derived.Test.YteefnclkcnkbhaaWTab
import Derived.Test.YteefnclkcnkbhaaWFour
import Derived.Test.YteefnclkcnkbhaaWQPut
import Derived.Test.YteefnclkcnkbhaaWApart
import Derived.Test.YteefnclkcnkbhaaWArr
import Derived.Test.YteefnclkcnkbhaaWZeros
import Derived.Test.YteefnclkcnkbhaaWFoot
import Derived.Test.YteefnclkcnkbhaaWKept
import Derived.Test.YteefnclkcnkbhaaWShare
import Derived.Test.YteefnclkcnkbhaaWN
import Derived.Test.YteefnclkcnkbhaaWFootNe
import Derived.Test.YteefnclkcnkbhaaWAt
import Derived.Test.YteefnclkcnkbhaaWEqStruct
import Derived.Test.YteefnclkcnkbhaaWRepsOne
import Derived.Test.YteefnclkcnkbhaaWInv
import Derived.Test.YteefnclkcnkbhaaWInvWords
import Derived.Test.YteefnclkcnkbhaaWGuard
import Derived.Test.YteefnclkcnkbhaaWNEv
import Derived.Test.YteefnclkcnkbhaaWMore
import Derived.Stop.BytesEq
import Derived.Deep.RegionLaw
import Derived.Laws.BitsAllLaws
import Derived.Lib.SliceRun
import Derived.Deep.RegionWith
import Derived.StillTailTactics
import Derived.Laws.CopyOwn
import Derived.Test.YteefnclkcnkbhaaCliA
import Derived.Test.YteefnclkcnkbhaaCliB
import Derived.Test.YteefnclkcnkbhaaCliC
import Derived.Test.YteefnclkcnkbhaaCliD
import Derived.Test.YteefnclkcnkbhaaCliE
import Derived.Test.YteefnclkcnkbhaaCliF
import Derived.Test.YteefnclkcnkbhaaCliH
import Derived.Test.YteefnclkcnkbhaaCliI
namespace Go.Proofs.Yteefnclkcnkbhaa.GClientExpires
open Go.RowKit Go.Proofs.YteefnclkcnkbhaaW.PrintWords Go.Proofs.YteefnclkcnkbhaaW.PrintLast Go.Proofs.YteefnclkcnkbhaaW.PrintMore
attribute [local go_sem] max2_int min2_int max_two min_two max_three min_three max_four min_four   -- for this text's walks alone
set_option linter.unusedVariables false
set_option linter.unusedSimpArgs false



theorem run_equalIn_ints (w : World) (d : Nat) (t e : TypeId) (n : Nat) (ht : Try.prog.underlying t = some (.array n e)) (he : Try.prog.underlying e = some (.int .u8)) (hsz : ∀ w, (sizeOf e).run Try.prog w = .ok 1 w)
    (xs ys : List Int) (hx : xs.length = n) (hy : ys.length = n) :
    (Op.equalIn (d + 2) t (.agg (xs.map (Value.int .u8)).toArray) (.agg (ys.map (Value.int .u8)).toArray)).run Try.prog w = .ok ((List.range n).all fun i => xs.getD i 0 == ys.getD i 0) w := by
  rw [List.range_eq_range', Op.equalIn]
  simp only [Sem.run_bind, run_underlying ht, Result.andThen_ok, hsz, Std.Legacy.Range.forIn_eq_forIn_range', Std.Legacy.Range.size, Nat.sub_zero, Nat.add_sub_cancel, Nat.div_one]
  have hl : ∀ i ∈ List.range' 0 n 1, i < n := fun i hi => by simpa using (List.mem_range'_1.1 hi).2
  generalize List.range' 0 n 1 = l at hl ⊢
  induction l with
  | nil => simp
  | cons i l ih =>
    have hi : i < n := hl i (by simp)
    have px : (part e (xs.map (Value.int .u8)).toArray (i * 1)).run Try.prog w = .ok (.int .u8 (xs.getD i 0)) w := by
      simp [part, isAgg, run_underlying he, List.getD, List.getElem?_eq_getElem (show i < xs.length by omega)]
    have py : (part e (ys.map (Value.int .u8)).toArray (i * 1)).run Try.prog w = .ok (.int .u8 (ys.getD i 0)) w := by
      simp [part, isAgg, run_underlying he, List.getD, List.getElem?_eq_getElem (show i < ys.length by omega)]
    have pe : (Op.equalIn (d + 1) e (.int .u8 (xs.getD i 0)) (.int .u8 (ys.getD i 0))).run Try.prog w = .ok (xs.getD i 0 == ys.getD i 0) w := by
      rw [run_equalIn_int w d e .u8 .u8 _ _ he]
    simp only [List.forIn_cons, Sem.run_bind, px, py, pe, Result.andThen_ok, List.all_cons]
    cases hb : (xs.getD i 0 == ys.getD i 0)
    · simp
    · simp only [Bool.not_true, Bool.false_eq_true, if_false, Sem.run_pure, Result.andThen_ok, Bool.true_and]
      exact ih fun j hj => hl j (by simp [hj])
theorem size5 (w : World) : (sizeOf 5).run Try.prog w = .ok 1 w := by kernel_rfl
def eq8 (a b c d e f g h a' b' c' d' e' f' g' h' : Int) : Bool := (List.range 8).all fun i => [a, b, c, d, e, f, g, h].getD i 0 == [a', b', c', d', e', f', g', h'].getD i 0
theorem run_eq8 (w : World) (a b c d e f g h a' b' c' d' e' f' g' h' : Int) :
    (binOp .eql 43 (.agg #[.int .u8 a, .int .u8 b, .int .u8 c, .int .u8 d, .int .u8 e, .int .u8 f, .int .u8 g, .int .u8 h]) (.agg #[.int .u8 a', .int .u8 b', .int .u8 c', .int .u8 d', .int .u8 e', .int .u8 f', .int .u8 g', .int .u8 h'])).run Try.prog w = .ok (.bool (eq8 a b c d e f g h a' b' c' d' e' f' g' h')) w := by
  have h1 := run_equalIn_ints w 9998 43 5 8 Try.underlying43 Try.underlying5 size5 [a, b, c, d, e, f, g, h] [a', b', c', d', e', f', g', h'] rfl rfl
  rw [run_eql_struct]
  simp only [List.map_cons, List.map_nil] at h1
  rw [h1]
  rfl
/-- as Fr, but block gd may turn too -/
def FrD (n₀ g gd : Nat) (w W : World) : Prop := Below n₀ w W ∧ w.heap.size ≤ W.heap.size ∧ ∀ k, k < w.heap.size → k ≠ g → k ≠ gd → (∀ cs : Array Value, w.heap[k]? ≠ some (Obj.cells cs 5 (0, 0))) → W.heap[k]? = w.heap[k]?
section
variable {n₀ g gd : Nat} {w W X : World} {s : CS}
theorem FrD.refl (n₀ g gd : Nat) (w : World) : FrD n₀ g gd w w := ⟨Below.refl _ _, Nat.le_refl _, fun _ _ _ _ _ => rfl⟩
theorem FrD.fr (h : FrD n₀ g gd w W) (k : Fr n₀ g W X) : FrD n₀ g gd w X :=
  ⟨h.1.trans k.1, Nat.le_trans h.2.1 k.2.1, fun i hi hg hgd hn => (k.2.2 i (Nat.lt_of_lt_of_le hi h.2.1) hg (fun cs e => hn cs ((h.2.2 i hi hg hgd hn).symm.trans e))).trans (h.2.2 i hi hg hgd hn)⟩
theorem FrD.om (h : FrD n₀ g gd w W) (hn : n₀ ≤ gd) (hw : n₀ ≤ w.heap.size) (k : Om gd W X) : FrD n₀ g gd w X :=
  ⟨h.1.trans ⟨k.os, k.tape, k.output, k.size, fun i hi => k.block i (by have := h.2.1; omega) (by omega)⟩, Nat.le_trans h.2.1 k.size, fun i hi hg hgd hnb => (k.block i (Nat.lt_of_lt_of_le hi h.2.1) hgd).trans (h.2.2 i hi hg hgd hnb)⟩
theorem FrD.below (h : FrD n₀ g gd w W) (hw : n₀ ≤ w.heap.size) (hb : Below W.heap.size W X) : FrD n₀ g gd w X :=
  h.fr ((Fr.refl n₀ g W).below (Nat.le_trans hw h.2.1) hb)
theorem FrD.drewN (h : FrD n₀ g gd w W) (m : Nat) : FrD n₀ g gd w (W.drewN m) := ⟨pw_below_drewN h.1 m, h.2.1, h.2.2⟩
theorem FrD.alloc (h : FrD n₀ g gd w W) (hw : n₀ ≤ w.heap.size) (o : Obj) : FrD n₀ g gd w (W.alloc o) := h.below hw (below_alloc (Below.refl _ _) o)
theorem Fr.other {k : Nat} {o : Obj} (h : Fr n₀ g W X) (hk : W.heap[k]? = some o) (hg : k ≠ g) (h5 : ∀ cs : Array Value, o ≠ Obj.cells cs 5 (0, 0)) : X.heap[k]? = some o :=
  (h.2.2 k (blk_lt hk) hg (fun cs e => by rw [hk] at e; injection e with e; exact h5 cs e)).trans hk
theorem cells_ne5 {cs : Array Value} {t : TypeId} (ht : t ≠ 5) (cs' : Array Value) : Obj.cells cs t (0, 0) ≠ Obj.cells cs' 5 (0, 0) := by
  intro e
  injection e with _ e
  exact ht e
theorem Fr.dat {t : DS} (h : Fr n₀ g W X) (hd : DAt W gd t) (hg : gd ≠ g) : DAt X gd t := h.other hd hg (cells_ne5 (by decide))
theorem BQ.om {t : DS} {v : Value} {bs : List Int} (h : BQ W n₀ v bs) (hd : DAt W gd t) (k : Om gd W X) : BQ X n₀ v bs :=
  BQ.move h (fun i cs hi => k.block i (blk_lt hi) (fun e => by subst e; rw [hd] at hi; injection hi with hi; exact cells_ne5 (by decide) _ hi))
theorem InvL.om {L : Nat} {t : DS} (h : InvL L W n₀ g s) (hd : DAt W gd t) (hg : gd ≠ g) (k : Om gd W X) : InvL L X n₀ g s :=
  h.move (k.block g h.1.lt (Ne.symm hg)) (fun i cs hi => k.block i (blk_lt hi) (fun e => by subst e; rw [hd] at hi; injection hi with hi; exact cells_ne5 (by decide) _ hi))
end
/-- where does stands: the client, the document's one, the frame, the act's box -/
def DP (n₀ g gd : Nat) (s : CS) (box : Array Value) (w W : World) : Prop := Inv W n₀ g s ∧ DAt W gd .zero ∧ FrD n₀ g gd w W ∧ W.heap[w.heap.size]? = some (.cells box 45 (0, 0)) ∧ n₀ ≤ gd ∧ gd ≠ g ∧ n₀ ≤ w.heap.size ∧ g < w.heap.size
section
variable {n₀ g gd : Nat} {w W X : World} {s s' : CS} {box : Array Value}
theorem DP.start (h : Inv w n₀ g s) (hd : DAt w gd .zero) (hn : n₀ ≤ gd) (hg : gd ≠ g) (box : Array Value) : DP n₀ g gd s box w (w.alloc (.cells box 45)) := by
  have hn' : n₀ ≤ w.heap.size := Nat.le_trans h.2.1 (Nat.le_of_lt h.1.lt)
  exact ⟨h.alloc _, blk_alloc hd _, (FrD.refl n₀ g gd w).alloc hn' _, blk_new _ _, hn, hg, hn', h.1.lt⟩
theorem DP.below (h : DP n₀ g gd s box w W) (hb : Below W.heap.size W X) : DP n₀ g gd s box w X :=
  ⟨h.1.below hb, (hb.block _ (blk_lt h.2.1)).trans h.2.1, h.2.2.1.below h.2.2.2.2.2.2.1 hb, (hb.block _ (blk_lt h.2.2.2.1)).trans h.2.2.2.1, h.2.2.2.2.1, h.2.2.2.2.2.1, h.2.2.2.2.2.2.1, h.2.2.2.2.2.2.2⟩
theorem DP.alloc (h : DP n₀ g gd s box w W) (o : Obj) : DP n₀ g gd s box w (W.alloc o) := h.below (below_alloc (Below.refl _ _) o)
theorem DP.drewN (h : DP n₀ g gd s box w W) (m : Nat) : DP n₀ g gd s box w (W.drewN m) := ⟨InvL.drewN h.1 m, h.2.1, h.2.2.1.drewN m, h.2.2.2.1, h.2.2.2.2⟩
theorem DP.drew (h : DP n₀ g gd s box w W) : DP n₀ g gd s box w W.drew := h.drewN 1
theorem DP.fr (h : DP n₀ g gd s box w W) (k : Fr n₀ g W X) (hi : Inv X n₀ g s') : DP n₀ g gd s' box w X := by
  obtain ⟨h1, h2, h3, h4, h5, h6, h7, h8⟩ := h
  exact ⟨hi, k.dat h2 h6, h3.fr k, k.other h4 (by omega) (cells_ne5 (by decide)), h5, h6, h7, h8⟩
/-- the reference may turn its own block; behind it no more is said of it -/
theorem DP.omEnd (h : DP n₀ g gd s box w W) (k : Om gd W X) : Inv X n₀ g s ∧ FrD n₀ g gd w X :=
  ⟨h.1.om h.2.1 h.2.2.2.2.2.1 k, h.2.2.1.om h.2.2.2.2.1 h.2.2.2.2.2.2.1 k⟩
end
def DPost (n₀ g gd : Nat) (w : World) (e : Ending) (w' : World) : Prop := (∃ b, e = .returned (.bool b)) ∧ (∃ s', Inv w' n₀ g s') ∧ FrD n₀ g gd w w'
theorem dEnd {n₀ g gd : Nat} {w W : World} {s : CS} (hi : Inv W n₀ g s) (hf : FrD n₀ g gd w W) (b : Bool) : DPost n₀ g gd w (.returned (.bool b)) W := ⟨⟨b, rfl⟩, ⟨s, hi⟩, hf⟩
theorem act_cell {W : World} {g : Nat} {x0 x1 x2 x3 x4 x5 x6 x7 x8 x9 x10 x11 : Value} (h : W.heap[g]? = some (.cells #[x0, x1, x2, x3, x4, x5, x6, x7, x8, x9, x10, x11] 45 (0, 0))) : W.cell? ⟨g, 0, none⟩ = some x0 ∧ W.cell? ⟨g, 1, none⟩ = some x1 ∧ W.cell? ⟨g, 2, none⟩ = some x2 ∧ W.cell? ⟨g, 3, none⟩ = some x3 ∧ W.cell? ⟨g, 4, none⟩ = some x4 ∧ W.cell? ⟨g, 5, none⟩ = some x5 ∧ W.cell? ⟨g, 6, none⟩ = some x6 ∧ W.cell? ⟨g, 7, none⟩ = some x7 ∧ W.cell? ⟨g, 8, none⟩ = some x8 ∧ W.cell? ⟨g, 9, none⟩ = some x9 ∧ W.cell? ⟨g, 10, none⟩ = some x10 ∧ W.cell? ⟨g, 11, none⟩ = some x11 :=
  ⟨(blk_cell h 0).trans rfl, (blk_cell h 1).trans rfl, (blk_cell h 2).trans rfl, (blk_cell h 3).trans rfl, (blk_cell h 4).trans rfl, (blk_cell h 5).trans rfl, (blk_cell h 6).trans rfl, (blk_cell h 7).trans rfl, (blk_cell h 8).trans rfl, (blk_cell h 9).trans rfl, (blk_cell h 10).trans rfl, (blk_cell h 11).trans rfl⟩
set_option maxHeartbeats 8000000 in
set_option maxRecDepth 100000 in
theorem does1_calls (n₀ g gd : Nat) (s : CS) (k i sb : Int) (A : Option Addr) (c : Nat) (bs : List Int) (x : Nat → Int) (w : World) (h : Inv w n₀ g s) (hd : DAt w gd .zero) (hn : n₀ ≤ gd) (hgd : gd ≠ g) (hk : k = 1) :
    Calls Try.prog 22 #[.pointer (some ⟨g, 0, none⟩), .pointer (some ⟨gd, 0, none⟩), .agg #[.int .i64 k, .int .u16 i, .int .u8 sb, .slice A bs.length c, .int .u8 (x 0), .int .u8 (x 1), .int .u8 (x 2), .int .u8 (x 3), .int .u8 (x 4), .int .u8 (x 5), .int .u8 (x 6), .int .u8 (x 7)]] w (DPost n₀ g gd w) := by
  have hl := h.1.lt
  have hld := blk_lt hd
  have HP := Aside0.mk (DP.start h hd hn hgd #[.int .i64 k, .int .u16 i, .int .u8 sb, .slice A bs.length c, .int .u8 (x 0), .int .u8 (x 1), .int .u8 (x 2), .int .u8 (x 3), .int .u8 (x 4), .int .u8 (x 5), .int .u8 (x 6), .int .u8 (x 7)])
  have HN := Aside0.mk HP.out.2.2.2.2.2.2.1
  subst hk
  clear h hd
  obtain ⟨b0, b1, b2, b3, b4, b5, b6, b7, b8, b9, b10, b11⟩ := act_cell HP.out.2.2.2.1
  have heq := run_eq8
  go_enter Try.func22, Try.ntmps22
  go_wp2_with (first | (go_at_call 64; have HPX := HP.out; refine ((read_calls n₀ g _ i sb _ HPX.1)).mono ?_; rintro e w3 ⟨⟨y, r, rfl⟩, ⟨s3, hi3⟩, hf3⟩; have HP3 := Aside0.mk (HPX.fr hf3 hi3); clear b0 b1 b2 b3 b4 b5 b6 b7 b8 b9 b10 b11; clear HP hi3 hf3; have HP := HP3; clear HP3; have hl3 := blk_lt HP.out.2.1; have hl4 := blk_lt HP.out.2.2.2.1; obtain ⟨b0, b1, b2, b3, b4, b5, b6, b7, b8, b9, b10, b11⟩ := act_cell HP.out.2.2.2.1; unfold fr8) | (go_at_call 65; have HPY := HP.out.alloc (Obj.cells (fr8 y) 43); have hyb := blk_new w3 (Obj.cells (fr8 y) 43); refine (rread_calls gd i sb _ HPY.2.1).mono ?_; rintro e w4 ⟨⟨z, r2, rfl⟩, hom⟩; have HI := Aside0.mk (HPY.omEnd hom).1; have HF := Aside0.mk (HPY.omEnd hom).2; have hyb4 := hom.blk hyb (by omega); clear hyb HPY hom; unfold fr8 at hyb4; obtain ⟨y0, y1, y2, y3, y4, y5, y6, y7⟩ := fr8_cell hyb4; have hyl := blk_lt hyb4; clear hyb4; clear b0 b1 b2 b3 b4 b5 b6 b7 b8 b9 b10 b11; unfold fr8))
  all_goals (go_ret; exact dEnd (InvL.alloc HI.out _) (FrD.alloc HF.out HN.out _) _)
set_option maxHeartbeats 8000000 in
set_option maxRecDepth 100000 in
theorem does2_calls (n₀ g gd : Nat) (s : CS) (k i sb : Int) (A : Option Addr) (c : Nat) (bs : List Int) (x : Nat → Int) (w : World) (h : Inv w n₀ g s) (hd : DAt w gd .zero) (hn : n₀ ≤ gd) (hgd : gd ≠ g) (hk : k = 2) (hx : ∀ i, 0 ≤ x i ∧ x i < 256) :
    Calls Try.prog 22 #[.pointer (some ⟨g, 0, none⟩), .pointer (some ⟨gd, 0, none⟩), .agg #[.int .i64 k, .int .u16 i, .int .u8 sb, .slice A bs.length c, .int .u8 (x 0), .int .u8 (x 1), .int .u8 (x 2), .int .u8 (x 3), .int .u8 (x 4), .int .u8 (x 5), .int .u8 (x 6), .int .u8 (x 7)]] w (DPost n₀ g gd w) := by
  have hl := h.1.lt
  have hld := blk_lt hd
  have HP := Aside0.mk (DP.start h hd hn hgd #[.int .i64 k, .int .u16 i, .int .u8 sb, .slice A bs.length c, .int .u8 (x 0), .int .u8 (x 1), .int .u8 (x 2), .int .u8 (x 3), .int .u8 (x 4), .int .u8 (x 5), .int .u8 (x 6), .int .u8 (x 7)])
  have HN := Aside0.mk HP.out.2.2.2.2.2.2.1
  have HXB := Aside0.mk hx
  clear hx
  subst hk
  clear h hd
  obtain ⟨b0, b1, b2, b3, b4, b5, b6, b7, b8, b9, b10, b11⟩ := act_cell HP.out.2.2.2.1
  have heq := run_eq8
  go_enter Try.func22, Try.ntmps22
  go_wp2_with (first | (go_at_call 66; have HPX := HP.out; refine (feed_calls n₀ g s x _ HPX.1 HXB.out).mono ?_; rintro e w3 ⟨⟨y, r, rfl⟩, ⟨s3, hi3⟩, hf3⟩; have HP3 := Aside0.mk (HPX.fr hf3 hi3); clear b0 b1 b2 b3 b4 b5 b6 b7 b8 b9 b10 b11; clear HP hi3 hf3; have HP := HP3; clear HP3; have hl3 := blk_lt HP.out.2.1; have hl4 := blk_lt HP.out.2.2.2.1; obtain ⟨b0, b1, b2, b3, b4, b5, b6, b7, b8, b9, b10, b11⟩ := act_cell HP.out.2.2.2.1; unfold fr8) | (go_at_call 67; have HPY := HP.out.alloc (Obj.cells (fr8 y) 43); have hyb := blk_new w3 (Obj.cells (fr8 y) 43); refine (rfeed_calls gd x _ HPY.2.1).mono ?_; rintro e w4 ⟨rfl, hb4⟩; have HPZ := HPY.below hb4; have HI := Aside0.mk HPZ.1; have HF := Aside0.mk HPZ.2.2.1; have hyb4 := (hb4.block _ (blk_lt hyb)).trans hyb; clear hyb HPY HPZ hb4; unfold fr8 at hyb4; obtain ⟨y0, y1, y2, y3, y4, y5, y6, y7⟩ := fr8_cell hyb4; have hyl := blk_lt hyb4; clear hyb4; clear b0 b1 b2 b3 b4 b5 b6 b7 b8 b9 b10 b11; unfold zero8))
  all_goals (go_ret; exact dEnd (InvL.alloc HI.out _) (FrD.alloc HF.out HN.out _) _)
set_option maxHeartbeats 8000000 in
set_option maxRecDepth 100000 in
theorem does3_calls (n₀ g gd : Nat) (s : CS) (k i sb : Int) (A : Option Addr) (c : Nat) (bs : List Int) (x : Nat → Int) (w : World) (h : Inv w n₀ g s) (hd : DAt w gd .zero) (hn : n₀ ≤ gd) (hgd : gd ≠ g) (hk : k = 3) :
    Calls Try.prog 22 #[.pointer (some ⟨g, 0, none⟩), .pointer (some ⟨gd, 0, none⟩), .agg #[.int .i64 k, .int .u16 i, .int .u8 sb, .slice A bs.length c, .int .u8 (x 0), .int .u8 (x 1), .int .u8 (x 2), .int .u8 (x 3), .int .u8 (x 4), .int .u8 (x 5), .int .u8 (x 6), .int .u8 (x 7)]] w (DPost n₀ g gd w) := by
  have hl := h.1.lt
  have hld := blk_lt hd
  have HP := Aside0.mk (DP.start h hd hn hgd #[.int .i64 k, .int .u16 i, .int .u8 sb, .slice A bs.length c, .int .u8 (x 0), .int .u8 (x 1), .int .u8 (x 2), .int .u8 (x 3), .int .u8 (x 4), .int .u8 (x 5), .int .u8 (x 6), .int .u8 (x 7)])
  have HN := Aside0.mk HP.out.2.2.2.2.2.2.1
  by_cases hw : s.waits = 0
  · have HW := Aside0.mk hw
    clear hw
    subst hk
    clear h hd
    obtain ⟨b0, b1, b2, b3, b4, b5, b6, b7, b8, b9, b10, b11⟩ := act_cell HP.out.2.2.2.1
    have heq := run_eq8
    go_enter Try.func22, Try.ntmps22
    go_wp2_with (first | (go_at_call 24; have HPX := HP.out; refine (expire0_calls n₀ g s _ HPX.1 HW.out).mono ?_; rintro e w3 ⟨⟨y, rfl⟩, hi3, hf3⟩; have HP3 := HPX.fr hf3 hi3; have HI := Aside0.mk HP3.1; have HF := Aside0.mk HP3.2.2.1; obtain ⟨g0, g1, g2, g3, g4, g5, g6, g7, g8, g9⟩ := HP3.2.1.cell; have hl3 := blk_lt HP3.2.1; clear g1 g2 g3 g4 g5 g6 g7 g8 g9; dsimp only at g0; clear HP HP3 hi3 hf3; clear b0 b1 b2 b3 b4 b5 b6 b7 b8 b9 b10 b11; unfold fr8))
    all_goals (go_ret; exact dEnd (InvL.alloc HI.out _) (FrD.alloc HF.out HN.out _) _)
  · have HW := Aside0.mk hw
    clear hw
    subst hk
    clear h hd
    obtain ⟨b0, b1, b2, b3, b4, b5, b6, b7, b8, b9, b10, b11⟩ := act_cell HP.out.2.2.2.1
    have heq := run_eq8
    go_enter Try.func22, Try.ntmps22
    go_wp2_with (first | (go_at_call 24; have HPX := HP.out; refine (expire1_calls n₀ g s _ HPX.1 HW.out).mono ?_; rintro e w3 ⟨⟨y, rfl⟩, hi3, hf3⟩; have HP3 := HPX.fr hf3 hi3; have HI := Aside0.mk HP3.1; have HF := Aside0.mk HP3.2.2.1; obtain ⟨g0, g1, g2, g3, g4, g5, g6, g7, g8, g9⟩ := HP3.2.1.cell; have hl3 := blk_lt HP3.2.1; clear g1 g2 g3 g4 g5 g6 g7 g8 g9; dsimp only at g0; clear HP HP3 hi3 hf3; clear b0 b1 b2 b3 b4 b5 b6 b7 b8 b9 b10 b11; unfold fr8))
    all_goals (go_ret; exact dEnd (InvL.alloc HI.out _) (FrD.alloc HF.out HN.out _) _)
set_option maxHeartbeats 8000000 in
set_option maxRecDepth 100000 in
theorem does4_calls (n₀ g gd : Nat) (s : CS) (k i sb : Int) (A : Option Addr) (c : Nat) (bs : List Int) (x : Nat → Int) (w : World) (h : Inv w n₀ g s) (hd : DAt w gd .zero) (hn : n₀ ≤ gd) (hgd : gd ≠ g) (hk : k = 4) :
    Calls Try.prog 22 #[.pointer (some ⟨g, 0, none⟩), .pointer (some ⟨gd, 0, none⟩), .agg #[.int .i64 k, .int .u16 i, .int .u8 sb, .slice A bs.length c, .int .u8 (x 0), .int .u8 (x 1), .int .u8 (x 2), .int .u8 (x 3), .int .u8 (x 4), .int .u8 (x 5), .int .u8 (x 6), .int .u8 (x 7)]] w (DPost n₀ g gd w) := by
  have hl := h.1.lt
  have hld := blk_lt hd
  have HP := Aside0.mk (DP.start h hd hn hgd #[.int .i64 k, .int .u16 i, .int .u8 sb, .slice A bs.length c, .int .u8 (x 0), .int .u8 (x 1), .int .u8 (x 2), .int .u8 (x 3), .int .u8 (x 4), .int .u8 (x 5), .int .u8 (x 6), .int .u8 (x 7)])
  have HN := Aside0.mk HP.out.2.2.2.2.2.2.1
  subst hk
  clear h hd
  have hs0 : ∀ W : World, (convert 23 9 (.slice none 0 0)).run Try.prog W = .ok (.string (strOfNums ([] : List Int))) W := fun W => Kd.C_string (P := Try.prog) (c := 0) Try.underlying23 Try.underlying5 Try.underlying9 (Kd.C_nil (Kd.int .u8) W)
  cases hw : s.has
  · have HW := Aside0.mk hw
    clear hw
    obtain ⟨b0, b1, b2, b3, b4, b5, b6, b7, b8, b9, b10, b11⟩ := act_cell HP.out.2.2.2.1
    go_enter Try.func22, Try.ntmps22
    go_wp2_with (first | (go_at_call 25; have HPX := HP.out; refine (result0_calls n₀ g s _ HPX.1 HW.out).mono ?_; rintro e w3 ⟨rfl, hw3⟩; subst hw3) | (go_at_call 69; have HPX := HP.out; refine (rtake_calls gd _ HPX.2.1).mono ?_; rintro e w4 ⟨rfl, hom⟩; have HI := Aside0.mk (HPX.omEnd hom).1; have HF := Aside0.mk (HPX.omEnd hom).2; clear HPX; clear hom HP; (try (clear b0 b1 b2 b3 b4 b5 b6 b7 b8 b9 b10 b11))))
    all_goals (go_ret; exact dEnd HI.out HF.out _)
  · have HW := Aside0.mk hw
    clear hw
    obtain ⟨b0, b1, b2, b3, b4, b5, b6, b7, b8, b9, b10, b11⟩ := act_cell HP.out.2.2.2.1
    go_enter Try.func22, Try.ntmps22
    go_wp2_with (first | (go_at_call 25; have HPX := HP.out; refine (result1_calls n₀ g s _ HPX.1 HW.out).mono ?_; rintro e w3 ⟨rfl, hi3, hf3, ⟨rs, hrs⟩⟩; have HP3 := Aside0.mk (HPX.fr hf3 hi3); obtain ⟨Ar, cr, er, hcr, hCr⟩ := BQ.slice hrs; rw [er] at hrs ⊢; have HQ := Aside0.mk hrs; clear HP hi3 hf3 HPX hrs hCr er hcr; have HP := HP3; clear HP3; have hl3 := blk_lt HP.out.2.1; clear b0 b1 b2 b3 b4 b5 b6 b7 b8 b9 b10 b11) | (go_at_call 69; have HPX := HP.out; refine (rtake_calls gd _ HPX.2.1).mono ?_; rintro e w4 ⟨rfl, hom⟩; have HI := Aside0.mk (HPX.omEnd hom).1; have HF := Aside0.mk (HPX.omEnd hom).2; clear HPX; have hq4 := BQ.om HQ.out HP.out.2.1 hom; obtain ⟨Aq, cq, eqq, hcq, hCq⟩ := BQ.slice hq4; cases eqq; have hs1 := Kd.C_string (P := Try.prog) (c := cr) Try.underlying23 Try.underlying5 Try.underlying9 hCq; clear hq4 hCq HQ; clear hom HP; (try (clear b0 b1 b2 b3 b4 b5 b6 b7 b8 b9 b10 b11))))
    all_goals (go_ret; exact dEnd HI.out HF.out _)
set_option maxHeartbeats 8000000 in
set_option maxRecDepth 100000 in
theorem does5_calls (n₀ g gd : Nat) (s : CS) (k i sb : Int) (A : Option Addr) (c : Nat) (bs : List Int) (x : Nat → Int) (w : World) (h : Inv w n₀ g s) (hd : DAt w gd .zero) (hn : n₀ ≤ gd) (hgd : gd ≠ g) (h0 : k ≠ 0) (h1 : k ≠ 1) (h2 : k ≠ 2) (h3 : k ≠ 3) (h4 : k ≠ 4) :
    Calls Try.prog 22 #[.pointer (some ⟨g, 0, none⟩), .pointer (some ⟨gd, 0, none⟩), .agg #[.int .i64 k, .int .u16 i, .int .u8 sb, .slice A bs.length c, .int .u8 (x 0), .int .u8 (x 1), .int .u8 (x 2), .int .u8 (x 3), .int .u8 (x 4), .int .u8 (x 5), .int .u8 (x 6), .int .u8 (x 7)]] w (DPost n₀ g gd w) := by
  have hl := h.1.lt
  have hld := blk_lt hd
  have HP := Aside0.mk (DP.start h hd hn hgd #[.int .i64 k, .int .u16 i, .int .u8 sb, .slice A bs.length c, .int .u8 (x 0), .int .u8 (x 1), .int .u8 (x 2), .int .u8 (x 3), .int .u8 (x 4), .int .u8 (x 5), .int .u8 (x 6), .int .u8 (x 7)])
  have HN := Aside0.mk HP.out.2.2.2.2.2.2.1
  clear h hd
  have k0 : (k == 0) = false := beq_eq_false_iff_ne.2 h0
  have k1 : (k == 1) = false := beq_eq_false_iff_ne.2 h1
  have k2 : (k == 2) = false := beq_eq_false_iff_ne.2 h2
  have k3 : (k == 3) = false := beq_eq_false_iff_ne.2 h3
  have k4 : (k == 4) = false := beq_eq_false_iff_ne.2 h4
  clear h0 h1 h2 h3 h4
  obtain ⟨b0, b1, b2, b3, b4, b5, b6, b7, b8, b9, b10, b11⟩ := act_cell HP.out.2.2.2.1
  go_enter Try.func22, Try.ntmps22
  go_wp2_with fail
  go_ret
  exact dEnd HP.out.1 HP.out.2.2.1 _
end Go.Proofs.Yteefnclkcnkbhaa.GClientExpires
