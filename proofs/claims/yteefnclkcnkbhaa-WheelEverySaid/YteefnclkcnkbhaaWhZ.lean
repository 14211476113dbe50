/-
  A HELPER OF THE PROOF: the wheel (text Z).
-/
import Derived.Test.YteefnclkcnkbhaaProg
import Derived.Below
import Derived.Deep.Draws
import Derived.Deep.AppendLies
import Derived.Maps.AppendAt
import Derived.OwnWalk
import Derived.Laws.BytesArg
import Derived.Laws.MakeOwn
import Derived.Laws.OwnMore
import Derived.Deep.OwnRows
import Derived.Tactics
import Derived.Lib.ConvBytes
import Derived.Laws.Slices
import Derived.WalkKit
import Derived.KernelRfl
import Derived.RowKit3
import Derived.Deep.LoopGhost
import Derived.Deep.QuietTactic
import Derived.BigQuiet
import Derived.WideLaws
import Derived.Deep.DeepCutAuto
import Derived.Deep.CutBlock
import Derived.Deep.RegionHeld3
import Derived.Laws.Rows
import Derived.Lib.AppendStr
import Derived.ArgAppend
import Derived.Laws.IdiomCopy
import Derived.OrdersHeld
import Derived.Laws.BitsLemmas
import Derived.RowKit
import Derived.Test.YteefnclkcnkbhaaWWords
import Derived.Test.YteefnclkcnkbhaaWLast
import Derived.Test.YteefnclkcnkbhaaWTab
import Derived.Test.YteefnclkcnkbhaaWFour
import Derived.Test.YteefnclkcnkbhaaWQPut
import Derived.Test.YteefnclkcnkbhaaWApart
import Derived.Test.YteefnclkcnkbhaaWArr
import Derived.Test.YteefnclkcnkbhaaWZeros
import Derived.Test.YteefnclkcnkbhaaWFoot
import Derived.Test.YteefnclkcnkbhaaWKept
import Derived.Test.YteefnclkcnkbhaaWShare
import Derived.Test.YteefnclkcnkbhaaWN
import Derived.Test.YteefnclkcnkbhaaWFootNe
import Derived.Test.YteefnclkcnkbhaaWAt
import Derived.Test.YteefnclkcnkbhaaWEqStruct
import Derived.Test.YteefnclkcnkbhaaWRepsOne
import Derived.Test.YteefnclkcnkbhaaWInv
import Derived.Test.YteefnclkcnkbhaaWInvWords
import Derived.Test.YteefnclkcnkbhaaWGuard
import Derived.Test.YteefnclkcnkbhaaWNEv
import Derived.Test.YteefnclkcnkbhaaWMore
import Derived.Deep.RegionLaw
import Derived.Laws.BitsAllLaws
import Derived.Deep.RegionWith
import Derived.StillTailTactics
import Derived.BigRegion
import Derived.Maps.OwnSet
import Derived.Maps.OwnOps
import Derived.Maps.RangeWalk
import Derived.Maps.Ext
import Derived.WideKeyEntry
import Derived.Test.YteefnclkcnkbhaaWhA
import Derived.Test.YteefnclkcnkbhaaWhB
import Derived.Test.YteefnclkcnkbhaaWhC
import Derived.Test.YteefnclkcnkbhaaWhN
import Derived.Test.YteefnclkcnkbhaaWhKeys
import Derived.Test.YteefnclkcnkbhaaWhF
import Derived.Test.YteefnclkcnkbhaaWhP
import Derived.Test.YteefnclkcnkbhaaWhR
import Derived.Test.YteefnclkcnkbhaaWhU
import Derived.Test.YteefnclkcnkbhaaWhV
import Derived.Test.YteefnclkcnkbhaaWhX
import Derived.Test.YteefnclkcnkbhaaWhY
import Derived.Test.YteefnclkcnkbhaaWhEv
namespace Go.Proofs.Yteefnclkcnkbhaa.Wh
open Go.RowKit Go.Proofs.YteefnclkcnkbhaaW.PrintWords Go.Proofs.YteefnclkcnkbhaaW.PrintLast Go.Proofs.YteefnclkcnkbhaaW.PrintMore
attribute [local go_sem] max2_int min2_int max_two min_two max_three min_three max_four min_four   -- for this text's walks alone
set_option linter.unusedVariables false
set_option linter.unusedSimpArgs false



set_option maxHeartbeats 4000000 in
set_option maxRecDepth 100000 in
theorem wheelEvery_calls (w : World) (a1 a2 a3 : Int) (ha : 0 ≤ a1 ∧ a1 < 65536) (hb : 0 ≤ a2 ∧ a2 < 65536) (hc : 0 ≤ a3 ∧ a3 < 65536) : Calls Try.prog 6 #[.int .u16 a1, .int .u16 a2, .int .u16 a3] w fun e w' => e = .returned (.bool true) ∧ Below w.heap.size w w' := by
  obtain ⟨x, hx⟩ : ∃ x, x = 1 + a1 % 300 := ⟨_, rfl⟩
  obtain ⟨p, hp⟩ : ∃ p, p = 1 + a2 % 50 := ⟨_, rfl⟩
  obtain ⟨n, hn⟩ : ∃ n, n = a3 % 2000 := ⟨_, rfl⟩
  have hx1 : 1 ≤ x ∧ x ≤ 300 := by omega
  have hp1 : 1 ≤ p ∧ p ≤ 50 := by omega
  have hn1 : 0 ≤ n ∧ n < 2000 := by omega
  obtain ⟨ha0, ha1⟩ := ha
  obtain ⟨hb0, hb1⟩ := hb
  obtain ⟨hc0, hc1⟩ := hc
  go_enter Try.func6, Try.ntmps6
  go_wp2_with fail
  refine (new_calls w 8 (by omega) (by omega)).mono ?_
  rintro e W1 ⟨b, rfl, hK, hlo, hhi, hR, hB⟩
  have h1 := fun (hv : (Lit.int .i64 3).wf = true) => every_calls b W1 0 0 [] x p 3 hR ok_nil (by omega) (by omega) (by omega) (by omega) hv (by omega)
  have e1 : addR x p true 0 0 3 [] = ((1, 0), (1, one x p)) := by
    unfold addR
    rw [if_pos (by simp [isIn]; omega), if_pos (by simp)]
    simp [one]
  rw [e1] at h1
  have H1 := Aside0.mk (h1 (by decide))
  have HB := Aside0.mk hB
  have HE1 := Aside0.mk e1
  clear hR hB h1 e1
  go_wp2_with fail
  rw [← hx, ← hp, ← hn]
  clear hx hp hn ha0 ha1 hb0 hb1 hc0 hc1
  obtain ⟨hx1, hx2⟩ := hx1
  obtain ⟨hp1, hp2⟩ := hp1
  obtain ⟨hn1, hn2⟩ := hn1
  refine H1.out.mono ?_
  rintro e W2 ⟨rfl, hR, hO⟩
  have hok := add_ok ok_nil x p 3 true (fun e => by cases e) (by decide) (by omega)
  rw [HE1.out] at hok
  have h3 := tick_calls b W2 0 1 n (one x p) n hR hok (by omega) (by omega) (by rw [if_pos (by omega)]; omega) (by omega) 2001 (by omega)
  obtain ⟨c, ht, hc1, hc2⟩ := tick_one p (by omega) 2001 n 0 x [] (by omega) (by omega) (by omega) (by simp; omega)
  have hcn := count_one (by omega) hc1 hc2
  have hdiv : 0 ≤ (n - x) / p ∨ n < x := by
    rcases (show n < x ∨ x ≤ n by omega) with h | h
    · exact .inr h
    · exact .inl (Int.ediv_nonneg (by omega) (by omega))
  have hdv2 : x ≤ n → (n - x) / p ≤ 2000 := fun h => Int.le_trans (Int.ediv_le_self p (by omega)) (by omega)
  have hcl : c ≤ 2001 := by
    by_cases h : x ≤ n
    · rw [if_pos h] at hcn; have := hdv2 h; omega
    · rw [if_neg h] at hcn; omega
  rw [ht] at h3
  dsimp only at h3
  have hcut : cut ([] ++ List.replicate c 3) = List.replicate c 3 := by
    unfold cut; rw [List.nil_append, List.take_of_length_le (by rw [List.length_replicate]; omega)]
  rw [hcut, List.length_replicate] at h3
  obtain ⟨d, hd⟩ : ∃ d, d = x + (c : Int) * p := ⟨_, rfl⟩
  rw [← hd] at h3 hc1
  have H3 := Aside0.mk h3
  have HO := Aside0.mk hO
  have HCN := Aside0.mk hcn
  have HD := Aside0.mk hd
  have HC2 := Aside0.mk hc2
  clear hR hO h3 hok H1 HE1 ht hcut hcn hd hc2
  by_cases hxn : x ≤ n
  · have hdn := hdv2 hxn
    have hdp : 0 ≤ (n - x) / p := by omega
    have hbx : decide (x ≤ n) = true := by simp [hxn]
    clear hdv2 hdiv
    go_wp2_with fail
    refine H3.out.mono ?_
    rintro e W3 ⟨v', rfl, hrow, hR, hok, hO3⟩
    have h4 := left_calls b W3 n 1 (one d p) 1 hR hok (by decide)
    rw [show get (one d p) 1 = some ⟨d, p, 3⟩ from rfl] at h4
    dsimp only at h4
    have hd1 := (hok.due (1, ⟨d, p, 3⟩) (by simp [one])).2
    dsimp only at hd1
    obtain ⟨mi, hmi, hlen⟩ := row_len hrow
    have hmi2 : mi = 1 + (n - x) / p := by rw [hmi, HCN.out, if_pos hxn]
    subst hmi2
    have H4 := Aside0.mk h4
    have HO3 := Aside0.mk hO3
    have hz : (n + (d - n) - x) % p = 0 := by rw [show n + (d - n) - x = (c : Int) * p by have := HD.out; omega]; exact Int.mul_emod_left _ _
    clear hR hok hO3 hrow h4 H3 hmi
    go_wp2_with fail
    refine H4.out.mono ?_
    rintro e W4 ⟨rfl, m, hm⟩
    have HM := Aside0.mk hm
    clear hm H4
    go_wp2_with fail
    have hz1 := HB.out.size
    have hz2 := HO.out.size
    have hA : Only (fun k => b.In k ∨ W2.heap.size ≤ k) W2 W4 := by rw [HM.out]; exact HO3.out.drewN m
    have B4 : Below w.heap.size w W4 := (HB.out.trans (HO.out.toBelow (fun k hk => by have := hk.1; omega) hz1)).trans (hA.toBelow (fun k hk => by
      rcases hk with hk | hk
      · have := hk.1; omega
      · omega) (by omega))
    have HB4 := Aside0.mk B4
    clear hA B4
    refine (lives_calls W4).mono ?_
    rintro e W5 ⟨rfl, b5⟩
    have HB5 := Aside0.mk (HB4.out.trans (b5.mono (HB4.out.size)))
    clear b5
    go_wp2_with fail
    go_ret
    exact ⟨rfl, HB5.out⟩
  · have hbx : decide (x ≤ n) = false := by simp [hxn]
    have hnx : n < x := by omega
    have hc0 : (c : Int) = 0 := by rw [HCN.out, if_neg hxn]
    clear hdv2 hdiv hxn
    go_wp2_with fail
    refine H3.out.mono ?_
    rintro e W3 ⟨v', rfl, hrow, hR, hok, hO3⟩
    have h4 := left_calls b W3 n 1 (one d p) 1 hR hok (by decide)
    rw [show get (one d p) 1 = some ⟨d, p, 3⟩ from rfl] at h4
    dsimp only at h4
    have hd1 := (hok.due (1, ⟨d, p, 3⟩) (by simp [one])).2
    dsimp only at hd1
    obtain ⟨mi, hmi, hlen⟩ := row_len hrow
    have hmi2 : mi = 0 := by rw [hmi, hc0]
    subst hmi2
    have hdx : d = x := by rw [HD.out, hc0]; omega
    subst hdx
    have H4 := Aside0.mk h4
    have HO3 := Aside0.mk hO3
    have hz : n + (d - n) = d := by omega
    clear hR hok hO3 hrow h4 H3 hmi hc0
    go_wp2_with fail
    refine H4.out.mono ?_
    rintro e W4 ⟨rfl, m, hm⟩
    have HM := Aside0.mk hm
    clear hm H4
    go_wp2_with fail
    have hz1 := HB.out.size
    have hz2 := HO.out.size
    have hA : Only (fun k => b.In k ∨ W2.heap.size ≤ k) W2 W4 := by rw [HM.out]; exact HO3.out.drewN m
    have B4 : Below w.heap.size w W4 := (HB.out.trans (HO.out.toBelow (fun k hk => by have := hk.1; omega) hz1)).trans (hA.toBelow (fun k hk => by
      rcases hk with hk | hk
      · have := hk.1; omega
      · omega) (by omega))
    have HB4 := Aside0.mk B4
    clear hA B4
    refine (lives_calls W4).mono ?_
    rintro e W5 ⟨rfl, b5⟩
    have HB5 := Aside0.mk (HB4.out.trans (b5.mono (HB4.out.size)))
    clear b5
    go_wp2_with fail
    go_ret
    exact ⟨rfl, HB5.out⟩
end Go.Proofs.Yteefnclkcnkbhaa.Wh
