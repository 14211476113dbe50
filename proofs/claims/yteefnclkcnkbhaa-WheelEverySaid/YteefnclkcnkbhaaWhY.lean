/-
  A HELPER OF THE PROOF: the wheel (text Y).
-/
import Derived.Test.YteefnclkcnkbhaaProg
import Derived.Below
import Derived.Deep.Draws
import Derived.Deep.AppendLies
import Derived.Maps.AppendAt
import Derived.OwnWalk
import Derived.Laws.BytesArg
import Derived.Laws.MakeOwn
import Derived.Laws.OwnMore
import Derived.Deep.OwnRows
import Derived.Tactics
import Derived.Lib.ConvBytes
import Derived.Laws.Slices
import Derived.WalkKit
import Derived.KernelRfl
import Derived.RowKit3
import Derived.Deep.LoopGhost
import Derived.Deep.QuietTactic
import Derived.BigQuiet
import Derived.WideLaws
import Derived.Deep.DeepCutAuto
import Derived.Deep.CutBlock
import Derived.Deep.RegionHeld3
import Derived.Laws.Rows
import Derived.Lib.AppendStr
import Derived.ArgAppend
import Derived.Laws.IdiomCopy
import Derived.OrdersHeld
import Derived.Laws.BitsLemmas
import Derived.RowKit
import Derived.Test.YteefnclkcnkbhaaWWords
import Derived.Test.YteefnclkcnkbhaaWLast
import Derived.Test.YteefnclkcnkbhaaWTab
import Derived.Test.YteefnclkcnkbhaaWFour
import Derived.Test.YteefnclkcnkbhaaWQPut
import Derived.Test.YteefnclkcnkbhaaWApart
import Derived.Test.YteefnclkcnkbhaaWArr
import Derived.Test.YteefnclkcnkbhaaWZeros
import Derived.Test.YteefnclkcnkbhaaWFoot
import Derived.Test.YteefnclkcnkbhaaWKept
import Derived.Test.YteefnclkcnkbhaaWShare
import Derived.Test.YteefnclkcnkbhaaWN
import Derived.Test.YteefnclkcnkbhaaWFootNe
import Derived.Test.YteefnclkcnkbhaaWAt
import Derived.Test.YteefnclkcnkbhaaWEqStruct
import Derived.Test.YteefnclkcnkbhaaWRepsOne
import Derived.Test.YteefnclkcnkbhaaWInv
import Derived.Test.YteefnclkcnkbhaaWInvWords
import Derived.Test.YteefnclkcnkbhaaWGuard
import Derived.Test.YteefnclkcnkbhaaWNEv
import Derived.Test.YteefnclkcnkbhaaWMore
import Derived.Deep.RegionLaw
import Derived.Laws.BitsAllLaws
import Derived.Deep.RegionWith
import Derived.StillTailTactics
import Derived.BigRegion
import Derived.Maps.OwnSet
import Derived.Maps.OwnOps
import Derived.Maps.RangeWalk
import Derived.Maps.Ext
import Derived.WideKeyEntry
import Derived.Test.YteefnclkcnkbhaaWhA
import Derived.Test.YteefnclkcnkbhaaWhB
import Derived.Test.YteefnclkcnkbhaaWhC
import Derived.Test.YteefnclkcnkbhaaWhN
import Derived.Test.YteefnclkcnkbhaaWhKeys
import Derived.Test.YteefnclkcnkbhaaWhF
import Derived.Test.YteefnclkcnkbhaaWhP
import Derived.Test.YteefnclkcnkbhaaWhR
import Derived.Test.YteefnclkcnkbhaaWhU
import Derived.Test.YteefnclkcnkbhaaWhV
import Derived.Test.YteefnclkcnkbhaaWhX
namespace Go.Proofs.Yteefnclkcnkbhaa.Wh
open Go.RowKit Go.Proofs.YteefnclkcnkbhaaW.PrintWords Go.Proofs.YteefnclkcnkbhaaW.PrintLast Go.Proofs.YteefnclkcnkbhaaW.PrintMore
attribute [local go_sem] max2_int min2_int max_two min_two max_three min_three max_four min_four   -- for this text's walks alone
set_option linter.unusedVariables false
set_option linter.unusedSimpArgs false



open Go.Maps Go.Sort Go.Shelf
theorem ok_nil : Ok 0 0 [] where
  rise := List.Pairwise.nil
  len := by simp
  num := fun e he => by cases he
  due := fun e he => by cases he
  per := fun e he => by cases he
  wh := fun e he => by cases he
  now0 := by omega
  now1 := by omega
  last0 := by omega
  last1 := by omega
theorem lit_row {W : World} {base : Nat} (hb : base ≤ W.heap.size) (l : List Int) (hl : l.length ≤ 1024) : (W.alloc (.cells (l.map (Value.int .i64)).toArray 3)).ownsRow base 3 1 (.slice (some ⟨W.heap.size, 0, none⟩) l.length l.length) l.length (l.map encZ) :=
  ⟨by simp, .inr ⟨W.heap.size, l.length, _, rfl, hb, heap_alloc_new _ _, Nat.le_refl _, by unfold maxLen; omega, by simp, by rw [List.toList_toArray, List.take_of_length_le (by simp)]⟩⟩
theorem add_a : addR 3 0 false 0 0 7 [] = ((1, 0), (1, [(1, ⟨3, 0, 7⟩)])) := by rfl
theorem add_b : addR 1 2 true 0 1 5 [(1, ⟨3, 0, 7⟩)] = ((2, 0), (2, [(1, ⟨3, 0, 7⟩), (2, ⟨1, 2, 5⟩)])) := by rfl
theorem tick_a : tickF 5 4 0 [(1, ⟨3, 0, 7⟩), (2, ⟨1, 2, 5⟩)] [] = (4, [(2, ⟨5, 2, 5⟩)], [5, 7, 5]) := by rfl
theorem cut_a : cut [5, 7, 5] = [5, 7, 5] := by rfl
set_option maxHeartbeats 2000000 in
set_option maxRecDepth 100000 in
theorem lives_calls (w : World) : Calls Try.prog 36 #[] w fun e w' => e = .returned (.bool true) ∧ Below w.heap.size w w' := by
  go_enter Try.func36, Try.ntmps36
  go_wp2_with fail
  refine (new_calls w 3 (by omega) (by omega)).mono ?_
  rintro e W1 ⟨b, rfl, hK, hlo, hhi, hR, hB⟩
  have h1 := fun (hv : (Lit.int .i64 7).wf = true) => add_calls b W1 0 0 [] 3 7 hR ok_nil (by omega) (by omega) hv (by omega)
  rw [add_a] at h1
  have H1 := Aside0.mk (h1 (by decide))
  have HB := Aside0.mk hB
  clear hR hB h1
  go_wp2_with fail
  refine H1.out.mono ?_
  rintro e W2 ⟨rfl, hR, hO⟩
  have hok := add_ok ok_nil 3 0 7 false (fun _ => rfl) (by decide) (by omega)
  rw [add_a] at hok
  have h2 := fun (hv : (Lit.int .i64 5).wf = true) => every_calls b W2 0 1 [(1, ⟨3, 0, 7⟩)] 1 2 5 hR hok (by omega) (by omega) (by omega) (by omega) hv (by omega)
  rw [add_b] at h2
  have H2 := Aside0.mk (h2 (by decide))
  have HO := Aside0.mk hO
  have HK := Aside0.mk hok
  clear hR hO h2 hok H1
  go_wp2_with fail
  refine H2.out.mono ?_
  rintro e W3 ⟨rfl, hR, hO2⟩
  have hok := add_ok HK.out 1 2 5 true (fun e => by cases e) (by decide) (by omega)
  rw [add_b] at hok
  have h3 := tick_calls b W3 0 2 4 [(1, ⟨3, 0, 7⟩), (2, ⟨1, 2, 5⟩)] 4 hR hok (by omega) (by omega) (by simp) (by omega) 5 (by omega)
  rw [tick_a] at h3
  dsimp only at h3
  rw [cut_a] at h3
  have H3 := Aside0.mk h3
  have HO2 := Aside0.mk hO2
  clear hR hO2 h3 hok H2
  go_wp2_with fail
  refine H3.out.mono ?_
  rintro e W4 ⟨v', rfl, hrow, hR, hok, hO3⟩
  have h4 := same_calls (W4.alloc (.cells #[.int .i64 5, .int .i64 7, .int .i64 5] 3)) W3.heap.size W4.heap.size v' (.slice (some ⟨W4.heap.size, 0, none⟩) 3 3) [5, 7, 5] [5, 7, 5] (hrow.alloc _) (lit_row (Nat.le_refl _) [5, 7, 5] (by simp))
  have H4 := Aside0.mk h4
  have HR := Aside0.mk hR
  have HOK := Aside0.mk hok
  have HO3 := Aside0.mk hO3
  clear hR hok hO3 hrow h4 H3
  go_wp2_with fail
  refine H4.out.mono ?_
  rintro e W5 ⟨rfl, m, hm⟩
  have hA : Only (fun k => b.In k ∨ W3.heap.size ≤ k) W3 W5 := by rw [hm]; exact (HO3.out.alloc _).drewN m
  have hR5 : Rep b W5 4 2 (get [(2, ⟨5, 2, 5⟩)]) := by rw [hm]; exact ((HR.out.below (below_alloc (Below.refl _ _) _))).drewN m
  have hz := HB.out.size
  have hz2 := HO.out.size
  have hz3 := HO2.out.size
  have B5 : Below w.heap.size w W5 := ((HB.out.trans (HO.out.toBelow (fun k hk => by have := hk.1; omega) hz)).trans (HO2.out.toBelow (fun k hk => by have := hk.1; omega) (by omega))).trans (hA.toBelow (fun k hk => by
    rcases hk with hk | hk
    · have := hk.1; omega
    · omega) (by omega))
  have HB5 := Aside0.mk B5
  have HR5 := Aside0.mk hR5
  have HRise := Aside0.mk HOK.out.rise
  clear hA hR5 B5 hm H4 HR HO3
  go_wp2_with fail
  refine (now_calls b W5 4 2 _ HR5.out).mono ?_
  rintro e W6 ⟨rfl, rfl⟩
  go_wp2_with fail
  refine (len_calls b _ 4 2 _ HR5.out HRise.out).mono ?_
  rintro e W7 ⟨rfl, rfl⟩
  go_wp2_with fail
  go_ret
  exact ⟨rfl, HB5.out⟩
end Go.Proofs.Yteefnclkcnkbhaa.Wh
