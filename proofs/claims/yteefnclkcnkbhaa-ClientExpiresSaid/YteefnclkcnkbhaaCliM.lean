import Derived.Test.YteefnclkcnkbhaaProg
import Derived.Below
import Derived.Deep.Draws
import Derived.Deep.AppendLies
import Derived.Maps.AppendAt
import Derived.OwnWalk
import Derived.Laws.BytesArg
import Derived.Laws.MakeOwn
import Derived.Laws.OwnMore
import Derived.Deep.OwnRows
import Derived.Tactics
import Derived.Lib.ConvBytes
import Derived.Laws.Slices
import Derived.WalkKit
import Derived.KernelRfl
import Derived.RowKit3
import Derived.Deep.LoopGhost
import Derived.Deep.QuietTactic
import Derived.BigQuiet
import Derived.WideLaws
import Derived.Deep.DeepCutAuto
import Derived.Deep.CutBlock
import Derived.Deep.RegionHeld3
import Derived.Laws.Rows
import Derived.Lib.AppendStr
import Derived.ArgAppend
import Derived.Laws.IdiomCopy
import Derived.OrdersHeld
import Derived.Laws.BitsLemmas
import Derived.RowKit
import Derived.Test.YteefnclkcnkbhaaWWords
import Derived.Test.YteefnclkcnkbhaaWLast
import Derived.Test.YteefnclkcnkbhaaWTab
import Derived.Test.YteefnclkcnkbhaaWFour
import Derived.Test.YteefnclkcnkbhaaWQPut
import Derived.Test.YteefnclkcnkbhaaWApart
import Derived.Test.YteefnclkcnkbhaaWArr
import Derived.Test.YteefnclkcnkbhaaWZeros
import Derived.Test.YteefnclkcnkbhaaWFoot
import Derived.Test.YteefnclkcnkbhaaWKept
import Derived.Test.YteefnclkcnkbhaaWShare
import Derived.Test.YteefnclkcnkbhaaWN
import Derived.Test.YteefnclkcnkbhaaWFootNe
import Derived.Test.YteefnclkcnkbhaaWAt
import Derived.Test.YteefnclkcnkbhaaWEqStruct
import Derived.Test.YteefnclkcnkbhaaWRepsOne
import Derived.Test.YteefnclkcnkbhaaWInv
import Derived.Test.YteefnclkcnkbhaaWInvWords
import Derived.Test.YteefnclkcnkbhaaWGuard
import Derived.Test.YteefnclkcnkbhaaWNEv
import Derived.Test.YteefnclkcnkbhaaWMore
import Derived.Stop.BytesEq
import Derived.Deep.RegionLaw
import Derived.Laws.BitsAllLaws
import Derived.Lib.SliceRun
import Derived.Deep.RegionWith
import Derived.StillTailTactics
import Derived.Laws.CopyOwn
import Derived.Test.YteefnclkcnkbhaaCliA
import Derived.Test.YteefnclkcnkbhaaCliB
import Derived.Test.YteefnclkcnkbhaaCliC
import Derived.Test.YteefnclkcnkbhaaCliD
import Derived.Test.YteefnclkcnkbhaaCliE
import Derived.Test.YteefnclkcnkbhaaCliF
import Derived.Test.YteefnclkcnkbhaaCliG
import Derived.Test.YteefnclkcnkbhaaCliH
import Derived.Test.YteefnclkcnkbhaaCliI
import Derived.Test.YteefnclkcnkbhaaCliJ
import Derived.Test.YteefnclkcnkbhaaCliL
namespace Go.Proofs.Yteefnclkcnkbhaa.GClientExpires
open Go.RowKit Go.Proofs.YteefnclkcnkbhaaW.PrintWords Go.Proofs.YteefnclkcnkbhaaW.PrintLast Go.Proofs.YteefnclkcnkbhaaW.PrintMore
attribute [local go_sem] max2_int min2_int max_two min_two max_three min_three max_four min_four   -- for this text's walks alone
set_option linter.unusedVariables false
set_option linter.unusedSimpArgs false



theorem lit2_Q {W : World} {base h : Nat} (hb : W.heap[h]? = some (.cells #[.int .u8 5, .int .u8 0] 5 (0, 0))) (hle : base ≤ h) : BQ W base (.slice (some ⟨h, 0, none⟩) 2 2) [5, 0] :=
  Kd.Q_of_R (Kd.R_of_own (enc := Value.int .u8) (h1 := fun _ => rfl) (xs := [5, 0]) ⟨rfl, .inr ⟨h, 2, #[.int .u8 5, .int .u8 0], rfl, hle, hb, Nat.le_refl _, by decide, rfl, rfl⟩⟩ (fun _ _ => trivial))
theorem eqOne (W : World) : (binOp .eql 43 (.agg #[Value.int .u8 43, Value.int .u8 0, Value.int .u8 32, Value.int .u8 1, Value.int .u8 5, Value.int .u8 0, Value.int .u8 0, Value.int .u8 0]) (.agg #[Value.int .u8 43, Value.int .u8 0, Value.int .u8 32, Value.int .u8 1, Value.int .u8 5, Value.int .u8 0, Value.int .u8 0, Value.int .u8 0])).run Try.prog W = .ok (.bool true) W := run_eq8 W _ _ _ _ _ _ _ _ _ _ _ _ _ _ _ _
theorem eqZero (W : World) : (binOp .eql 43 (.agg #[Value.int .u8 0, Value.int .u8 0, Value.int .u8 0, Value.int .u8 0, Value.int .u8 0, Value.int .u8 0, Value.int .u8 0, Value.int .u8 0]) (.agg #[Value.int .u8 0, Value.int .u8 0, Value.int .u8 0, Value.int .u8 0, Value.int .u8 0, Value.int .u8 0, Value.int .u8 0, Value.int .u8 0])).run Try.prog W = .ok (.bool true) W := run_eq8 W _ _ _ _ _ _ _ _ _ _ _ _ _ _ _ _
set_option maxHeartbeats 8000000 in
set_option maxRecDepth 100000 in
theorem lives_calls (w : World) : Calls Try.prog 27 #[] w fun e w' => e = .returned (.bool true) ∧ Below w.heap.size w w' := by
  have hq1 := eqOne
  have hq2 := eqZero
  go_enter Try.func27, Try.ntmps27
  go_wp2_with fail
  refine (new_calls _).mono ?_
  rintro e w1 ⟨rfl, hi1, hb1⟩
  have HI := Aside0.mk hi1
  have HB := Aside0.mk hb1
  have hl1 := hi1.1.lt
  clear hi1 hb1
  go_wp2_with fail
  refine (write_one w.heap.size w.heap.size _ _ 2 _ (HI.out.alloc _) rfl (lit2_Q (blk_new _ _) (Nat.le_of_lt hl1))).mono ?_
  rintro e w2 ⟨rfl, ⟨bv, hi2⟩, hf2⟩
  have HB2 := Aside0.mk ((below_alloc HB.out _).trans hf2.1)
  clear HI HB
  have HI := Aside0.mk hi2
  have HB := HB2
  clear HB2
  have hl2 := hi2.1.lt
  clear hi2 hf2
  go_wp2_with fail
  have hba := blk_new w2 (Obj.cells #[Value.int .u8 43, Value.int .u8 0, Value.int .u8 32, Value.int .u8 1, Value.int .u8 5, Value.int .u8 0, Value.int .u8 0, Value.int .u8 0] 43)
  refine (feed_one w.heap.size w.heap.size _ xo _ (HI.out.alloc _) rfl (by decide) (by decide) (show (xo 0 / 32 != hdOf 1) = false by decide) (show (bits .or .u16 (IntKind.u16.wrap (xo 1)) (IntKind.u16.wrap (IntKind.u16.wrap (xo 2) * 256)) == (8192 : Int)) = true by decide) (show (xo 3 == (1 : Int)) = true by decide)).mono ?_
  rintro e w3 ⟨rfl, hi3, hf3⟩
  have HBA := Aside0.mk (hf3.other hba (by omega) (cells_ne5 (by decide)))
  have HB2 := Aside0.mk ((below_alloc HB.out _).trans hf3.1)
  clear HI HB hba
  have HI := Aside0.mk hi3
  have HB := HB2
  clear HB2
  have hl3 := hi3.1.lt
  have hl4 := blk_lt HBA.out
  clear hi3 hf3
  go_wp2_with fail
  have hbb := blk_new w3 (Obj.cells #[Value.int .u8 0, Value.int .u8 0, Value.int .u8 0, Value.int .u8 0, Value.int .u8 0, Value.int .u8 0, Value.int .u8 0, Value.int .u8 0] 43)
  refine (result1_calls w.heap.size w.heap.size _ _ (HI.out.alloc _) rfl).mono ?_
  rintro e w4 ⟨rfl, hi4, hf4, hq4⟩
  have hba4 := hf4.other (blk_alloc HBA.out _) (by omega) (cells_ne5 (by decide))
  have hbb4 := hf4.other hbb (by omega) (cells_ne5 (by decide))
  obtain ⟨x0, x1, x2, x3, x4, x5, x6, x7⟩ := fr8_cell hba4
  obtain ⟨y0, y1, y2, y3, y4, y5, y6, y7⟩ := fr8_cell hbb4
  have HB2 := Aside0.mk ((below_alloc HB.out _).trans hf4.1)
  have hl5 := blk_lt hba4
  have hl6 := blk_lt hbb4
  clear HI HB hbb HBA hba4 hbb4 hi4 hf4 hq4
  have HB := HB2
  clear HB2
  go_wp2_with fail
  go_ret
  exact ⟨rfl, by repeat (first | exact HB.out | apply below_alloc)⟩
end Go.Proofs.Yteefnclkcnkbhaa.GClientExpires
