/-
  A HELPER OF THE PROOF: the wheel (text X).
-/
import Derived.Test.YteefnclkcnkbhaaProg
import Derived.Below
import Derived.Deep.Draws
import Derived.Deep.AppendLies
import Derived.Maps.AppendAt
import Derived.OwnWalk
import Derived.Laws.BytesArg
import Derived.Laws.MakeOwn
import Derived.Laws.OwnMore
import Derived.Deep.OwnRows
import Derived.Tactics
import Derived.Lib.ConvBytes
import Derived.Laws.Slices
import Derived.WalkKit
import Derived.KernelRfl
import Derived.RowKit3
import Derived.Deep.LoopGhost
import Derived.Deep.QuietTactic
import Derived.BigQuiet
import Derived.WideLaws
import Derived.Deep.DeepCutAuto
import Derived.Deep.CutBlock
import Derived.Deep.RegionHeld3
import Derived.Laws.Rows
import Derived.Lib.AppendStr
import Derived.ArgAppend
import Derived.Laws.IdiomCopy
import Derived.OrdersHeld
import Derived.Laws.BitsLemmas
import Derived.RowKit
import Derived.Test.YteefnclkcnkbhaaWWords
import Derived.Test.YteefnclkcnkbhaaWLast
import Derived.Test.YteefnclkcnkbhaaWTab
import Derived.Test.YteefnclkcnkbhaaWFour
import Derived.Test.YteefnclkcnkbhaaWQPut
import Derived.Test.YteefnclkcnkbhaaWApart
import Derived.Test.YteefnclkcnkbhaaWArr
import Derived.Test.YteefnclkcnkbhaaWZeros
import Derived.Test.YteefnclkcnkbhaaWFoot
import Derived.Test.YteefnclkcnkbhaaWKept
import Derived.Test.YteefnclkcnkbhaaWShare
import Derived.Test.YteefnclkcnkbhaaWN
import Derived.Test.YteefnclkcnkbhaaWFootNe
import Derived.Test.YteefnclkcnkbhaaWAt
import Derived.Test.YteefnclkcnkbhaaWEqStruct
import Derived.Test.YteefnclkcnkbhaaWRepsOne
import Derived.Test.YteefnclkcnkbhaaWInv
import Derived.Test.YteefnclkcnkbhaaWInvWords
import Derived.Test.YteefnclkcnkbhaaWGuard
import Derived.Test.YteefnclkcnkbhaaWNEv
import Derived.Test.YteefnclkcnkbhaaWMore
import Derived.Deep.RegionLaw
import Derived.Laws.BitsAllLaws
import Derived.Deep.RegionWith
import Derived.StillTailTactics
import Derived.BigRegion
import Derived.Maps.OwnSet
import Derived.Maps.OwnOps
import Derived.Maps.RangeWalk
import Derived.Maps.Ext
import Derived.WideKeyEntry
import Derived.Test.YteefnclkcnkbhaaWhA
import Derived.Test.YteefnclkcnkbhaaWhB
import Derived.Test.YteefnclkcnkbhaaWhC
import Derived.Test.YteefnclkcnkbhaaWhN
import Derived.Test.YteefnclkcnkbhaaWhKeys
import Derived.Test.YteefnclkcnkbhaaWhF
import Derived.Test.YteefnclkcnkbhaaWhP
import Derived.Test.YteefnclkcnkbhaaWhR
import Derived.Test.YteefnclkcnkbhaaWhU
import Derived.Test.YteefnclkcnkbhaaWhV
namespace Go.Proofs.Yteefnclkcnkbhaa.Wh
open Go.RowKit Go.Proofs.YteefnclkcnkbhaaW.PrintWords Go.Proofs.YteefnclkcnkbhaaW.PrintLast Go.Proofs.YteefnclkcnkbhaaW.PrintMore
attribute [local go_sem] max2_int min2_int max_two min_two max_three min_three max_four min_four   -- for this text's walks alone
set_option linter.unusedVariables false
set_option linter.unusedSimpArgs false



/-- the numbers of a row, read one by one -/
theorem row_at {W : World} {base : Nat} {v : Value} {l : List Int} (h : W.ownsRow base 3 1 v l.length (l.map encZ)) : ∃ ao c, v = .slice ao l.length c ∧ ∀ i x, l[i]? = some x → ∃ g, ao = some ⟨g, 0, none⟩ ∧ W.cell? ⟨g, i, none⟩ = some (.int .i64 x) := by
  obtain ⟨ao, c, rfl⟩ := row_form h
  refine ⟨ao, c, rfl, fun i x hx => ?_⟩
  have hi : i < l.length := (List.getElem?_eq_some_iff.1 hx).1
  obtain ⟨n, hn⟩ : ∃ n, l.length = n + 1 := ⟨l.length - 1, by omega⟩
  have h2 := h
  rw [hn] at h2
  obtain ⟨g, cap, e⟩ := row_succ h2
  injection e with e1 e2 e3
  subst e1
  refine ⟨g, rfl, ?_⟩
  rw [h.cellAt i (by omega), List.getElem?_map, hx]
  rfl
theorem drewN_add (W : World) (m n : Nat) : (W.drewN m).drewN n = W.drewN (m + n) := by simp [World.drewN, Nat.add_assoc]
set_option maxHeartbeats 2000000 in
set_option maxRecDepth 100000 in
theorem same_calls (W : World) (b1 b2 : Nat) (v1 v2 : Value) (l1 l2 : List Int) (h1 : W.ownsRow b1 3 1 v1 l1.length (l1.map encZ)) (h2 : W.ownsRow b2 3 1 v2 l2.length (l2.map encZ)) :
    Calls Try.prog 32 #[v1, v2] W fun e w' => e = .returned (.bool (decide (l1 = l2))) ∧ ∃ m, w' = W.drewN m := by
  obtain ⟨a1, c1, rfl, hc1⟩ := row_at h1
  obtain ⟨a2, c2, rfl, hc2⟩ := row_at h2
  have hb : (l1.length : Int) ≤ 9223372036854775807 := by
    rcases h1.2 with ⟨_, h0⟩ | ⟨g, cap, cur, _, _, _, hn, hm, _⟩
    · omega
    · unfold maxLen at hm; omega
  have HC1 := Aside0.mk hc1
  have HC2 := Aside0.mk hc2
  clear h1 h2 hc1 hc2
  by_cases hne : l1.length = l2.length
  · go_enter Try.func32, Try.ntmps32
    rw [← hne]
    go_wp2_with fail
    go_loopw [5] (fun u5 wr => ∃ i : Nat, u5 = .int .i64 i ∧ i ≤ l1.length ∧ (∀ j, j < i → l1[j]? = l2[j]?) ∧ ∃ m, wr = W.drewN m)
      (fun u5 _ => l1.length - ix u5)
    case atStart => exact ⟨0, rfl, Nat.zero_le _, fun j hj => absurd hj (Nat.not_lt_zero _), 0, rfl⟩
    case round =>
      obtain ⟨i, rfl, hi, heq, m, rfl⟩ := hrel
      have HEQ := Aside0.mk heq
      clear heq
      rcases Nat.lt_or_ge i l1.length with hlt | hge
      · obtain ⟨x, hx⟩ : ∃ x, l1[i]? = some x := ⟨_, List.getElem?_eq_getElem hlt⟩
        obtain ⟨y, hy⟩ : ∃ y, l2[i]? = some y := ⟨_, List.getElem?_eq_getElem (by omega)⟩
        obtain ⟨g1, rfl, d1⟩ := HC1.out i x hx
        obtain ⟨g2, rfl, d2⟩ := HC2.out i y hy
        have d1 : (W.drewN m).cell? ⟨g1, i, none⟩ = some (.int .i64 x) := d1
        have d2 : (W.drewN m).cell? ⟨g2, i, none⟩ = some (.int .i64 y) := d2
        have hl2 : (i : Int) < (l1.length : Int) := by omega
        have HX := Aside0.mk hx
        have HY := Aside0.mk hy
        clear hx hy HC1 HC2
        go_wp2_with fail
        go_quiet (fail)
        by_cases hxy : x = y
        · have hst : Aside0 (∀ j, j < i + 1 → l1[j]? = l2[j]?) := Aside0.mk fun j hj => by
            rcases Nat.lt_or_ge j i with h | h
            · exact HEQ.out j h
            · obtain rfl : j = i := by omega
              rw [HX.out, HY.out, hxy]
          go_wp2_with fail
          exact ⟨⟨i + 1, by rw [Int.natCast_succ], by omega, hst.out, m + nq, rfl⟩, by simp only [ix]; omega⟩
        · have hd : decide (l1 = l2) = false := decide_eq_false (fun e => hxy (by have := HX.out; rw [e, HY.out] at this; exact (Option.some.inj this).symm))
          go_wp2_with fail
          go_ret
          exact ⟨by rw [hd]; rfl, m + nq, drewN_add W m nq⟩
      · have hd : decide (l1 = l2) = true := decide_eq_true (List.ext_getElem? fun j => by
          rcases Nat.lt_or_ge j i with h | h
          · exact HEQ.out j h
          · rw [List.getElem?_eq_none (by omega), List.getElem?_eq_none (by omega)])
        go_wp2_with fail
        go_ret
        exact ⟨by rw [hd]; rfl, m, rfl⟩
  · go_enter Try.func32, Try.ntmps32
    go_wp2_with fail
    go_ret
    exact ⟨by rw [show decide (l1 = l2) = false from decide_eq_false (fun e => hne (by rw [e]))]; rfl, 0, rfl⟩
end Go.Proofs.Yteefnclkcnkbhaa.Wh
