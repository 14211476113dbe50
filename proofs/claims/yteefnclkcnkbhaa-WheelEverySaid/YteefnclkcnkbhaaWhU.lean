/-
  A HELPER OF THE PROOF: the wheel (text U).
-/
import Derived.Test.YteefnclkcnkbhaaProg
import Derived.Below
import Derived.Deep.Draws
import Derived.Deep.AppendLies
import Derived.Maps.AppendAt
import Derived.OwnWalk
import Derived.Laws.BytesArg
import Derived.Laws.MakeOwn
import Derived.Laws.OwnMore
import Derived.Deep.OwnRows
import Derived.Tactics
import Derived.Lib.ConvBytes
import Derived.Laws.Slices
import Derived.WalkKit
import Derived.KernelRfl
import Derived.RowKit3
import Derived.Deep.LoopGhost
import Derived.Deep.QuietTactic
import Derived.BigQuiet
import Derived.WideLaws
import Derived.Deep.DeepCutAuto
import Derived.Deep.CutBlock
import Derived.Deep.RegionHeld3
import Derived.Laws.Rows
import Derived.Lib.AppendStr
import Derived.ArgAppend
import Derived.Laws.IdiomCopy
import Derived.OrdersHeld
import Derived.Laws.BitsLemmas
import Derived.RowKit
import Derived.Test.YteefnclkcnkbhaaWWords
import Derived.Test.YteefnclkcnkbhaaWLast
import Derived.Test.YteefnclkcnkbhaaWTab
import Derived.Test.YteefnclkcnkbhaaWFour
import Derived.Test.YteefnclkcnkbhaaWQPut
import Derived.Test.YteefnclkcnkbhaaWApart
import Derived.Test.YteefnclkcnkbhaaWArr
import Derived.Test.YteefnclkcnkbhaaWZeros
import Derived.Test.YteefnclkcnkbhaaWFoot
import Derived.Test.YteefnclkcnkbhaaWKept
import Derived.Test.YteefnclkcnkbhaaWShare
import Derived.Test.YteefnclkcnkbhaaWN
import Derived.Test.YteefnclkcnkbhaaWFootNe
import Derived.Test.YteefnclkcnkbhaaWAt
import Derived.Test.YteefnclkcnkbhaaWEqStruct
import Derived.Test.YteefnclkcnkbhaaWRepsOne
import Derived.Test.YteefnclkcnkbhaaWInv
import Derived.Test.YteefnclkcnkbhaaWInvWords
import Derived.Test.YteefnclkcnkbhaaWGuard
import Derived.Test.YteefnclkcnkbhaaWNEv
import Derived.Test.YteefnclkcnkbhaaWMore
import Derived.Deep.RegionLaw
import Derived.Laws.BitsAllLaws
import Derived.Deep.RegionWith
import Derived.StillTailTactics
import Derived.BigRegion
import Derived.Maps.OwnSet
import Derived.Maps.OwnOps
import Derived.Maps.RangeWalk
import Derived.Maps.Ext
import Derived.WideKeyEntry
import Derived.Test.YteefnclkcnkbhaaWhA
import Derived.Test.YteefnclkcnkbhaaWhB
import Derived.Test.YteefnclkcnkbhaaWhC
import Derived.Test.YteefnclkcnkbhaaWhN
import Derived.Test.YteefnclkcnkbhaaWhKeys
import Derived.Test.YteefnclkcnkbhaaWhF
import Derived.Test.YteefnclkcnkbhaaWhP
import Derived.Test.YteefnclkcnkbhaaWhR
namespace Go.Proofs.Yteefnclkcnkbhaa.Wh
open Go.RowKit Go.Proofs.YteefnclkcnkbhaaW.PrintWords Go.Proofs.YteefnclkcnkbhaaW.PrintLast Go.Proofs.YteefnclkcnkbhaaW.PrintMore
attribute [local go_sem] max2_int min2_int max_two min_two max_three min_three max_four min_four   -- for this text's walks alone
set_option linter.unusedVariables false
set_option linter.unusedSimpArgs false



open Go.Maps Go.Sort Go.Shelf
/-! #### Tick -/
theorem Ok.at {now last now' : Int} {L : TL} (h : Ok now last L) (h1 : now ≤ now') (h2 : ∀ e ∈ L, now' ≤ e.2.due) (h3 : now' ≤ 4611686018427387904) : Ok1 now' last L where
  rise := h.rise
  len := h.len
  num := h.num
  due := fun e he => ⟨h2 e he, by have := (h.due e he).2; omega⟩
  per := h.per
  wh := h.wh
  now0 := by have := h.now0; omega
  now1 := h3
  last0 := h.last0
  last1 := h.last1
theorem Ok1.fire {now last : Int} {L : TL} (h : Ok1 now last L) : Ok now last (fireL now L) where
  rise := rise_fireL h.rise
  len := Nat.le_trans (length_fireL _ _) h.len
  num := fun e he => by
    obtain ⟨u, hu, _⟩ := mem_fireL.1 (show (e.1, e.2) ∈ fireL now L from he)
    exact h.num (e.1, u) hu
  due := fun e he => by
    obtain ⟨u, hu, hf⟩ := mem_fireL.1 (show (e.1, e.2) ∈ fireL now L from he)
    have h1 := h.due _ hu
    have h2 := h.per _ hu
    simp at h1 h2
    unfold fire1 at hf
    split at hf
    · split at hf
      · have := Option.some.inj hf
        rw [← this]; dsimp only; omega
      · cases hf
    · have := Option.some.inj hf
      rw [← this]; omega
  per := fun e he => by
    obtain ⟨u, hu, hf⟩ := mem_fireL.1 (show (e.1, e.2) ∈ fireL now L from he)
    have h2 := h.per _ hu
    unfold fire1 at hf
    split at hf
    · split at hf
      · have := Option.some.inj hf
        rw [← this]; exact h2
      · cases hf
    · have := Option.some.inj hf
      rw [← this]; exact h2
  wh := fun e he => by
    obtain ⟨u, hu, hf⟩ := mem_fireL.1 (show (e.1, e.2) ∈ fireL now L from he)
    have h2 := h.wh _ hu
    unfold fire1 at hf
    split at hf
    · split at hf
      · have := Option.some.inj hf
        rw [← this]; exact h2
      · cases hf
    · have := Option.some.inj hf
      rw [← this]; exact h2
  now0 := h.now0
  now1 := h.now1
  last0 := h.last0
  last1 := h.last1
theorem Ok.setNow {now last fin : Int} {L : TL} (h : Ok now last L) (h1 : now ≤ fin) (h2 : ∀ e ∈ L, fin < e.2.due) (h3 : fin ≤ 4611686018427387904) : Ok fin last L where
  rise := h.rise
  len := h.len
  num := h.num
  due := fun e he => ⟨h2 e he, by have := (h.due e he).2; omega⟩
  per := h.per
  wh := h.wh
  now0 := by have := h.now0; omega
  now1 := h3
  last0 := h.last0
  last1 := h.last1
theorem Ok.least_pos {now last : Int} {L : TL} (h : Ok now last L) (hne : L ≠ []) : 1 ≤ least now L ∧ least now L ≤ 4294967296 := by
  obtain ⟨⟨e, he, h1⟩, _⟩ := least_spec now L hne
  have := h.due e he
  omega
/-- where Tick's loop stands: what is left to do from here gives what is to come -/
structure TInv (b : Bl) (W wr : World) (last fin : Int) (base : Nat) (r : Int × TL × List Int) (now : Int) (L : TL) (tv : Value) (told : List Int) : Prop where
  rep : Rep b wr now last (get L)
  ok : Ok now last L
  le : now ≤ fin
  own : wr.ownsRow base 3 1 tv (cut told).length ((cut told).map encZ)
  only : Only (fun k => b.In k ∨ base ≤ k) W wr
  todo : ∃ k : Nat, fin - now < (k : Int) ∧ tickF k fin now L told = r
theorem TInv.last {b : Bl} {W wr : World} {last fin : Int} {base : Nat} {r : Int × TL × List Int} {now : Int} {L : TL} {tv : Value} {told : List Int} (h : TInv b W wr last fin base r now L tv told) (hs : L = [] ∨ fin - now < least now L) : r = (fin, L, told) := by
  obtain ⟨k, hk, hr⟩ := h.todo
  cases k with
  | zero => have := h.le; omega
  | succ k =>
    rw [tickF, if_pos hs] at hr
    exact hr.symm
theorem TInv.more {b : Bl} {W wr : World} {last fin : Int} {base : Nat} {r : Int × TL × List Int} {now : Int} {L : TL} {tv : Value} {told : List Int} (h : TInv b W wr last fin base r now L tv told) (hne : L ≠ []) (hs : ¬ fin - now < least now L) :
    ∃ k : Nat, fin - (now + least now L) < (k : Int) ∧ tickF k fin (now + least now L) (fireL (now + least now L) L) (cut (told ++ whats (now + least now L) L)) = r := by
  obtain ⟨k, hk, hr⟩ := h.todo
  have h1 := (h.ok.least_pos hne).1
  cases k with
  | zero => have := h.le; omega
  | succ k =>
    rw [tickF, if_neg (by rintro (e | e); exact hne e; exact hs e)] at hr
    exact ⟨k, by omega, hr⟩
theorem TInv.ok1 {b : Bl} {W wr : World} {last fin : Int} {base : Nat} {r : Int × TL × List Int} {now : Int} {L : TL} {tv : Value} {told : List Int} (h : TInv b W wr last fin base r now L tv told) (hf : fin ≤ 4611686018427387904) (hne : L ≠ []) (hs : ¬ fin - now < least now L) : Ok1 (now + least now L) last L := by
  have h1 := (h.ok.least_pos hne).1
  exact h.ok.at (by omega) (fun e he => by have := (least_spec now L hne).2 e he; omega) (by omega)
def wnow (b : Bl) (W : World) : Int := match W.cell? ⟨b.g, 2, none⟩ with | some (.int _ i) => i | _ => 0
theorem wnow_is {b : Bl} {W : World} {now last : Int} {F : Int → Option Tm} (h : Rep b W now last F) : wnow b W = now := by
  unfold wnow
  rw [h.gcell.2.2.1]
theorem cut2 (l : List Int) : cut (cut l) = cut l := by unfold cut; rw [List.take_take]; simp
set_option maxHeartbeats 2000000 in
set_option maxRecDepth 100000 in
theorem tick_calls (b : Bl) (W : World) (now last fin : Int) (L : TL) (x : Int) (h : Rep b W now last (get L)) (ho : Ok now last L) (hx0 : 0 ≤ x) (hx1 : x < 18446744073709551616) (hfin : fin = now + (if x ≤ 1048576 then x else 1048576)) (hf : fin ≤ 4611686018427387904) (k0 : Nat) (hk0 : fin - now < (k0 : Int)) :
    Calls Try.prog 33 #[.pointer (some ⟨b.g, 0, none⟩), .int .u64 x] W fun e w' => ∃ v', e = .returned v' ∧ w'.ownsRow W.heap.size 3 1 v' (cut (tickF k0 fin now L []).2.2).length ((cut (tickF k0 fin now L []).2.2).map encZ) ∧ Rep b w' (tickF k0 fin now L []).1 last (get (tickF k0 fin now L []).2.1) ∧ Ok (tickF k0 fin now L []).1 last (tickF k0 fin now L []).2.1 ∧ Only (fun k => b.In k ∨ W.heap.size ≤ k) W w' := by
  have k1 := h.apart.k1
  have k2 := h.apart.k2
  obtain ⟨g0, g1, g2, g3⟩ := h.gcell
  have hn0 := ho.now0
  have hn1 := ho.now1
  have hle : now ≤ fin := by rw [hfin]; split <;> omega
  have HSZ := Aside0.mk h.size
  generalize hr : tickF k0 fin now L [] = r at *
  have HI : Aside0 (TInv b W W last fin W.heap.size r now L (.slice none 0 0) []) := Aside0.mk ⟨h, ho, hle, World.ownsRow_nil _ _ _ _, Only.refl _ _, k0, hk0, hr⟩
  clear h ho hr hk0 g0 g1 g3
  go_enter Try.func33, Try.ntmps33
  by_cases hx : x ≤ 1048576
  · rw [if_pos hx] at hfin
    go_wp2_with fail
    rw [← hfin]
    clear hfin
    go_loopw [6] (fun u6 wr => ∃ now' L' told, TInv b W wr last fin W.heap.size r now' L' u6 told)
      (fun _ wr => (fin - wnow b wr).toNat)
    case atStart => exact ⟨_, _, _, HI.out⟩
    case round =>
      obtain ⟨now', L', told, hI⟩ := hrel
      have hle' := hI.le
      have hm0 := hI.ok.now0
      have hm1 := hI.ok.now1
      have hwn := wnow_is hI.rep
      have HN := Aside0.mk (next_calls b wr now' last L' hI.rep hI.ok)
      have HT := Aside0.mk hI
      clear hI
      go_wp2_with fail
      refine HN.out.mono ?_
      rintro e w1 ⟨rfl, o1⟩
      have r1 := HT.out.rep.only o1 (fun _ _ e => e)
      have own1 := row_only HT.out.own o1 (fun _ _ e => e)
      have O1 := HT.out.only.trans o1.widen
      have f2 := blk_frozen r1.cells 2
      obtain ⟨g0, g1, g2, g3⟩ := r1.gcell
      have hin := r1.apart.gi
      have R1 := Aside0.mk r1
      have OWN1 := Aside0.mk own1
      have HO1 := Aside0.mk O1
      clear r1 own1 O1 o1 HN g0 g1 g3
      by_cases hne : L' = []
      · have hb : decide (L' ≠ []) = false := by simp [hne]
        have hr := HT.out.last (.inl hne)
        subst hr
        have HF := Aside0.mk (HT.out.ok.setNow hle' (fun e he => by rw [hne] at he; cases he) hf)
        have HR := Aside0.mk (R1.out.setNow fin)
        have HOS := Aside0.mk (HO1.out.set (p := ⟨b.g, 2, none⟩) (.inl (.inl (show b.In b.g from hin))) (.int .u64 fin))
        have HOW := Aside0.mk (row_only OWN1.out ((Only.refl (fun k => k = b.g) w1).set (p := ⟨b.g, 2, none⟩) (.inl rfl) (.int .u64 fin)) (fun k e e2 => by have := (OWN1.out.lt k e).1; have := hin.2; have := HSZ.out; omega))
        rw [hb]
        clear hne hwn
        go_wp2_with fail
        go_ret
        exact ⟨_, rfl, HOW.out, HR.out, HF.out, HOS.out⟩
      · have hb : decide (L' ≠ []) = true := by simp [hne]
        have hlp := HT.out.ok.least_pos hne
        obtain ⟨hlp1, hlp2⟩ := hlp
        rw [hb]
        by_cases hd : fin - now' < least now' L'
        · have hr := HT.out.last (.inr hd)
          subst hr
          have HF := Aside0.mk (HT.out.ok.setNow hle' (fun e he => by have := (least_spec now' L' hne).2 e he; omega) hf)
          have HR := Aside0.mk (R1.out.setNow fin)
          have HOS := Aside0.mk (HO1.out.set (p := ⟨b.g, 2, none⟩) (.inl (.inl (show b.In b.g from hin))) (.int .u64 fin))
          have HOW := Aside0.mk (row_only OWN1.out ((Only.refl (fun k => k = b.g) w1).set (p := ⟨b.g, 2, none⟩) (.inl rfl) (.int .u64 fin)) (fun k e e2 => by have := (OWN1.out.lt k e).1; have := hin.2; have := HSZ.out; omega))
          have hbd : decide (fin - now' < least now' L') = true := by simp [hd]
          clear hne hwn
          go_wp2_with fail
          go_ret
          exact ⟨_, rfl, HOW.out, HR.out, HF.out, HOS.out⟩
        · have hbd : decide (fin - now' < least now' L') = false := by simp [hd]
          have HM := Aside0.mk (HT.out.more hne hd)
          have HK1 := Aside0.mk (HT.out.ok1 hf hne hd)
          have hdl : least now' L' ≤ fin - now' := by omega
          have hR2 := R1.out.setNow (now' + least now' L')
          have hOS := HO1.out.set (p := ⟨b.g, 2, none⟩) (.inl (.inl (show b.In b.g from hin))) (.int .u64 (now' + least now' L'))
          have hOW := row_only OWN1.out ((Only.refl (fun k => k = b.g) w1).set (p := ⟨b.g, 2, none⟩) (.inl rfl) (.int .u64 (now' + least now' L'))) (fun k e e2 => by have := (OWN1.out.lt k e).1; have := hin.2; have := HSZ.out; omega)
          have hFI := fires_calls b _ _ last L' told u6 W.heap.size hR2 HK1.out hOW HSZ.out hOS.size
          have HFI := Aside0.mk hFI
          have HOS := Aside0.mk hOS
          clear hR2 hOS hOW hFI hne
          go_wp2_with fail
          refine HFI.out.mono ?_
          rintro e w2 ⟨v', rfl, own2, r2, o2⟩
          have hI2 : TInv b W w2 last fin W.heap.size r (now' + least now' L') (fireL (now' + least now' L') L') v' (cut (told ++ whats (now' + least now' L') L')) :=
            ⟨r2, HK1.out.fire, by omega, by rw [cut2]; exact own2, HOS.out.trans o2, HM.out⟩
          have hw2 := wnow_is r2
          have HI2 := Aside0.mk hI2
          clear r2 o2 own2 hI2 HFI g2 f2
          go_wp2_with fail
          exact ⟨⟨_, _, _, HI2.out⟩, by rw [hw2, hwn]; omega⟩
  · rw [if_neg hx] at hfin
    go_wp2_with fail
    rw [← hfin]
    clear hfin
    go_loopw [6] (fun u6 wr => ∃ now' L' told, TInv b W wr last fin W.heap.size r now' L' u6 told)
      (fun _ wr => (fin - wnow b wr).toNat)
    case atStart => exact ⟨_, _, _, HI.out⟩
    case round =>
      obtain ⟨now', L', told, hI⟩ := hrel
      have hle' := hI.le
      have hm0 := hI.ok.now0
      have hm1 := hI.ok.now1
      have hwn := wnow_is hI.rep
      have HN := Aside0.mk (next_calls b wr now' last L' hI.rep hI.ok)
      have HT := Aside0.mk hI
      clear hI
      go_wp2_with fail
      refine HN.out.mono ?_
      rintro e w1 ⟨rfl, o1⟩
      have r1 := HT.out.rep.only o1 (fun _ _ e => e)
      have own1 := row_only HT.out.own o1 (fun _ _ e => e)
      have O1 := HT.out.only.trans o1.widen
      have f2 := blk_frozen r1.cells 2
      obtain ⟨g0, g1, g2, g3⟩ := r1.gcell
      have hin := r1.apart.gi
      have R1 := Aside0.mk r1
      have OWN1 := Aside0.mk own1
      have HO1 := Aside0.mk O1
      clear r1 own1 O1 o1 HN g0 g1 g3
      by_cases hne : L' = []
      · have hb : decide (L' ≠ []) = false := by simp [hne]
        have hr := HT.out.last (.inl hne)
        subst hr
        have HF := Aside0.mk (HT.out.ok.setNow hle' (fun e he => by rw [hne] at he; cases he) hf)
        have HR := Aside0.mk (R1.out.setNow fin)
        have HOS := Aside0.mk (HO1.out.set (p := ⟨b.g, 2, none⟩) (.inl (.inl (show b.In b.g from hin))) (.int .u64 fin))
        have HOW := Aside0.mk (row_only OWN1.out ((Only.refl (fun k => k = b.g) w1).set (p := ⟨b.g, 2, none⟩) (.inl rfl) (.int .u64 fin)) (fun k e e2 => by have := (OWN1.out.lt k e).1; have := hin.2; have := HSZ.out; omega))
        rw [hb]
        clear hne hwn
        go_wp2_with fail
        go_ret
        exact ⟨_, rfl, HOW.out, HR.out, HF.out, HOS.out⟩
      · have hb : decide (L' ≠ []) = true := by simp [hne]
        have hlp := HT.out.ok.least_pos hne
        obtain ⟨hlp1, hlp2⟩ := hlp
        rw [hb]
        by_cases hd : fin - now' < least now' L'
        · have hr := HT.out.last (.inr hd)
          subst hr
          have HF := Aside0.mk (HT.out.ok.setNow hle' (fun e he => by have := (least_spec now' L' hne).2 e he; omega) hf)
          have HR := Aside0.mk (R1.out.setNow fin)
          have HOS := Aside0.mk (HO1.out.set (p := ⟨b.g, 2, none⟩) (.inl (.inl (show b.In b.g from hin))) (.int .u64 fin))
          have HOW := Aside0.mk (row_only OWN1.out ((Only.refl (fun k => k = b.g) w1).set (p := ⟨b.g, 2, none⟩) (.inl rfl) (.int .u64 fin)) (fun k e e2 => by have := (OWN1.out.lt k e).1; have := hin.2; have := HSZ.out; omega))
          have hbd : decide (fin - now' < least now' L') = true := by simp [hd]
          clear hne hwn
          go_wp2_with fail
          go_ret
          exact ⟨_, rfl, HOW.out, HR.out, HF.out, HOS.out⟩
        · have hbd : decide (fin - now' < least now' L') = false := by simp [hd]
          have HM := Aside0.mk (HT.out.more hne hd)
          have HK1 := Aside0.mk (HT.out.ok1 hf hne hd)
          have hdl : least now' L' ≤ fin - now' := by omega
          have hR2 := R1.out.setNow (now' + least now' L')
          have hOS := HO1.out.set (p := ⟨b.g, 2, none⟩) (.inl (.inl (show b.In b.g from hin))) (.int .u64 (now' + least now' L'))
          have hOW := row_only OWN1.out ((Only.refl (fun k => k = b.g) w1).set (p := ⟨b.g, 2, none⟩) (.inl rfl) (.int .u64 (now' + least now' L'))) (fun k e e2 => by have := (OWN1.out.lt k e).1; have := hin.2; have := HSZ.out; omega)
          have hFI := fires_calls b _ _ last L' told u6 W.heap.size hR2 HK1.out hOW HSZ.out hOS.size
          have HFI := Aside0.mk hFI
          have HOS := Aside0.mk hOS
          clear hR2 hOS hOW hFI hne
          go_wp2_with fail
          refine HFI.out.mono ?_
          rintro e w2 ⟨v', rfl, own2, r2, o2⟩
          have hI2 : TInv b W w2 last fin W.heap.size r (now' + least now' L') (fireL (now' + least now' L') L') v' (cut (told ++ whats (now' + least now' L') L')) :=
            ⟨r2, HK1.out.fire, by omega, by rw [cut2]; exact own2, HOS.out.trans o2, HM.out⟩
          have hw2 := wnow_is r2
          have HI2 := Aside0.mk hI2
          clear r2 o2 own2 hI2 HFI g2 f2
          go_wp2_with fail
          exact ⟨⟨_, _, _, HI2.out⟩, by rw [hw2, hwn]; omega⟩
end Go.Proofs.Yteefnclkcnkbhaa.Wh
