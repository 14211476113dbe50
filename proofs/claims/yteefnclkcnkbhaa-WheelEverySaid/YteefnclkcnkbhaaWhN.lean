/-
  A HELPER OF THE PROOF: the wheel (text N).
-/
import Derived.Test.YteefnclkcnkbhaaProg
import Derived.Below
import Derived.Deep.Draws
import Derived.Deep.AppendLies
import Derived.Maps.AppendAt
import Derived.OwnWalk
import Derived.Laws.BytesArg
import Derived.Laws.MakeOwn
import Derived.Laws.OwnMore
import Derived.Deep.OwnRows
import Derived.Tactics
import Derived.Lib.ConvBytes
import Derived.Laws.Slices
import Derived.WalkKit
import Derived.KernelRfl
import Derived.RowKit3
import Derived.Deep.LoopGhost
import Derived.Deep.QuietTactic
import Derived.BigQuiet
import Derived.WideLaws
import Derived.Deep.DeepCutAuto
import Derived.Deep.CutBlock
import Derived.Deep.RegionHeld3
import Derived.Laws.Rows
import Derived.Lib.AppendStr
import Derived.ArgAppend
import Derived.Laws.IdiomCopy
import Derived.OrdersHeld
import Derived.Laws.BitsLemmas
import Derived.RowKit
import Derived.Test.YteefnclkcnkbhaaWWords
import Derived.Test.YteefnclkcnkbhaaWLast
import Derived.Test.YteefnclkcnkbhaaWTab
import Derived.Test.YteefnclkcnkbhaaWFour
import Derived.Test.YteefnclkcnkbhaaWQPut
import Derived.Test.YteefnclkcnkbhaaWApart
import Derived.Test.YteefnclkcnkbhaaWArr
import Derived.Test.YteefnclkcnkbhaaWZeros
import Derived.Test.YteefnclkcnkbhaaWFoot
import Derived.Test.YteefnclkcnkbhaaWKept
import Derived.Test.YteefnclkcnkbhaaWShare
import Derived.Test.YteefnclkcnkbhaaWN
import Derived.Test.YteefnclkcnkbhaaWFootNe
import Derived.Test.YteefnclkcnkbhaaWAt
import Derived.Test.YteefnclkcnkbhaaWEqStruct
import Derived.Test.YteefnclkcnkbhaaWRepsOne
import Derived.Test.YteefnclkcnkbhaaWInv
import Derived.Test.YteefnclkcnkbhaaWInvWords
import Derived.Test.YteefnclkcnkbhaaWGuard
import Derived.Test.YteefnclkcnkbhaaWNEv
import Derived.Test.YteefnclkcnkbhaaWMore
import Derived.Deep.RegionLaw
import Derived.Laws.BitsAllLaws
import Derived.Deep.RegionWith
import Derived.StillTailTactics
import Derived.BigRegion
import Derived.Maps.OwnSet
import Derived.Maps.OwnOps
import Derived.Maps.RangeWalk
import Derived.Maps.Ext
import Derived.WideKeyEntry
import Derived.Test.YteefnclkcnkbhaaWhA
import Derived.Test.YteefnclkcnkbhaaWhB
import Derived.Test.YteefnclkcnkbhaaWhC
namespace Go.Proofs.Yteefnclkcnkbhaa.Wh
open Go.RowKit Go.Proofs.YteefnclkcnkbhaaW.PrintWords Go.Proofs.YteefnclkcnkbhaaW.PrintLast Go.Proofs.YteefnclkcnkbhaaW.PrintMore
attribute [local go_sem] max2_int min2_int max_two min_two max_three min_three max_four min_four   -- for this text's walks alone
set_option linter.unusedVariables false
set_option linter.unusedSimpArgs false



/-- what has come of the map of places: the least so far -/
structure Lst (now : Int) (L : TL) (left : Lit → Bool) (m : Int) (any : Bool) : Prop where
  no : any = false → m = 0 ∧ ∀ x t, get L x = some t → left (kl x) = true
  yes : any = true → (∃ e ∈ L, left (kl e.1) = false ∧ m = e.2.due - now) ∧ ∀ e ∈ L, left (kl e.1) = false → m ≤ e.2.due - now
theorem Lst.start {now : Int} {L : TL} {K : Nat} {M : DU} (hm : MapIs M (whereF K (get L))) : Lst now L (Go.Maps.has M) 0 false :=
  ⟨fun _ => ⟨rfl, fun x t ht => by rw [(hm x).1]; simp [whereF, ht]⟩, fun h => by cases h⟩
theorem rg_drewN {w : World} {P : Program} {k : TypeId} {H : Type} {R : Value → Option (DataW H × List MemPlace)} {b r n : Nat} {D : DataW H} {left : Lit → Bool} {cnt : Nat} (h : w.ranges P k R b r n D left cnt) (m : Nat) : (w.drewN m).ranges P k R b r n D left cnt := h
theorem left_step (left : Lit → Bool) (x y : Int) : (left (kl y) && !(kl y).sameKey (.int .i64 x)) = if y = x then false else left (kl y) := by
  by_cases h : y = x
  · subst h; simp [kl, Lit.sameKey]
  · have : (Lit.int .i64 y).sameKey (.int .i64 x) = false := by simp [Lit.sameKey, h]
    simp [kl, this, h]
theorem Lst.step {now : Int} {L : TL} {left : Lit → Bool} {m : Int} {any : Bool} (h : Lst now L left m any) (hr : Rise L) {x : Int} {t : Tm} (hx : get L x = some t) (m' : Int) (hm : m' = if any = true ∧ m ≤ t.due - now then m else t.due - now) :
    Lst now L (fun z => left z && !z.sameKey (.int .i64 x)) m' true := by
  refine ⟨(fun e => by cases e), fun _ => ⟨?_, fun e he hl => ?_⟩⟩
  · by_cases hc : any = true ∧ m ≤ t.due - now
    · rw [if_pos hc] at hm
      obtain ⟨⟨e, he, hl, hme⟩, _⟩ := h.yes hc.1
      refine ⟨e, he, ?_, by rw [hm]; exact hme⟩
      rw [left_step]
      split
      · rfl
      · exact hl
    · rw [if_neg hc] at hm
      exact ⟨(x, t), get_mem hx, by rw [left_step, if_pos rfl], hm⟩
  · rw [left_step] at hl
    by_cases hex : e.1 = x
    · have : e.2 = t := by
        have h1 := mem_get hr (show (e.1, e.2) ∈ L from he)
        rw [hex, hx] at h1
        exact (Option.some.inj h1).symm
      rw [this, hm]
      split
      · rename_i hc; exact hc.2
      · omega
    · rw [if_neg hex] at hl
      cases ha : any with
      | false =>
        have h1 := (h.no ha).2 e.1 e.2 (mem_get hr he)
        rw [h1] at hl; cases hl
      | true =>
        have h1 := (h.yes ha).2 e he hl
        rw [hm]
        split
        · exact h1
        · rename_i hc
          have : ¬ m ≤ t.due - now := fun h2 => hc ⟨ha, h2⟩
          omega
theorem Lst.fin {now : Int} {L : TL} {left : Lit → Bool} {m : Int} {any : Bool} (h : Lst now L left m any) (hr : Rise L) (hl : ∀ z, left z = false) : m = least now L ∧ any = decide (L ≠ []) := by
  cases any with
  | false =>
    have h1 := h.no rfl
    have : L = [] := by
      cases L with
      | nil => rfl
      | cons e L =>
        have := h1.2 e.1 e.2 (mem_get hr (by simp))
        rw [hl] at this; cases this
    subst this
    exact ⟨h1.1, rfl⟩
  | true =>
    obtain ⟨⟨e, he, _, hm⟩, h2⟩ := h.yes rfl
    have hne : L ≠ [] := fun e0 => by subst e0; cases he
    exact ⟨least_unique now L m hne ⟨e, he, hm⟩ (fun x hx => h2 x hx (hl _)), by simp [hne]⟩
theorem where_at {K : Nat} {L : TL} {M : DU} (hm : MapIs M (whereF K (get L))) {x c : Int} (hat : ∀ zd, M.atKey (.int .i64 x) zd = .lit (.int .i64 c)) : ∃ t, get L x = some t ∧ slotOf K t = c := by
  have h1 := (hm x).2 .nil
  rw [show kl x = Lit.int .i64 x from rfl, hat] at h1
  cases hg : get L x with
  | none => rw [show whereF K (get L) x = none by simp [whereF, hg]] at h1; cases h1
  | some t =>
    rw [show whereF K (get L) x = some (.lit (.int .i64 (slotOf K t))) by simp [whereF, hg]] at h1
    simp at h1
    exact ⟨t, rfl, h1.symm⟩
set_option maxHeartbeats 2000000 in
set_option maxRecDepth 100000 in
theorem next_calls (b : Bl) (W : World) (now last : Int) (L : TL) (h : Rep b W now last (get L)) (ho : Ok now last L) :
    Calls Try.prog 74 #[.pointer (some ⟨b.g, 0, none⟩)] W fun e w' => e = .returned (.tuple #[.int .u64 (least now L), .bool (decide (L ≠ []))]) ∧ Only (fun _ => False) W w' := by
  have k1 := h.apart.k1
  have k2 := h.apart.k2
  obtain ⟨g0, g1, g2, g3⟩ := h.gcell
  obtain ⟨n, M, hown, hm⟩ := h.wher
  have HW := Aside0.mk h
  have HO := Aside0.mk ho
  have HM := Aside0.mk hm
  clear h ho hm g0 g2 g3
  go_enter Try.func74, Try.ntmps74
  go_wp2_with (first
    | (at_range; refine wpList_range_own _ rfl _ 133 rfl 3 3 K3 Try.underlying133 _ b.wb n _ rfl hown ?_; intro w0 hrg0 hg0 hs0)
    | go_in)
  go_frame
  clear g1 hown
  go_loopw [4, 5] (fun u4 u5 wr => ∃ (left : Lit → Bool) (cnt : Nat) (m : Int) (any : Bool), u4 = .int .u64 m ∧ u5 = .bool any ∧ wr.ranges Try.prog 3 (plainElem Try.prog 3) b.wb W.heap.size n M left cnt ∧ Lst now L left m any ∧ Only (fun _ => False) W wr)
    (fun _ _ wr => wr.rangeLeft b.wb W.heap.size)
  case atStart => exact ⟨_, _, 0, false, rfl, rfl, hrg0, Lst.start HM.out, (Only.refl _ W).grown hg0 (fun k e => by cases e)⟩
  case round =>
    obtain ⟨left, cnt, m, any, rfl, rfl, hrg, hL, hOn⟩ := hrel
    have HL := Aside0.mk hL
    have HOn := Aside0.mk hOn
    clear hL hOn
    go_wp2_with (first | (at_next; refine wpList_next_ranges_ii _ rfl _ rfl 3 3 .i64 .i64 K3 Try.underlying3 Try.underlying3 b.wb W.heap.size n _ _ _ rfl hrg ?_ ?_) | go_in)
    · intro _ hl0
      have HL0 := Aside0.mk hl0
      clear hl0
      go_wp2
      go_ret2
      obtain ⟨e1, e2⟩ := Lst.fin HL.out HO.out.rise HL0.out
      refine ⟨?_, HOn.out⟩
      subst e1 e2
      rfl
    · intro x c w1 cnt1 hwx hwc hlx hat hrg1 hlt hg1 hs1 hen
      obtain ⟨t, ht, hc⟩ := where_at HM.out hat
      have o1 : Only (fun _ => False) W w1 := HOn.out.grown hg1 (fun k e => by cases e; exact .inr (Nat.le_refl _))
      have h1 : Rep b w1 now last (get L) := HW.out.only o1 (fun _ _ e => e)
      have ho := HO.out
      have hd := ho.due _ (get_mem ht)
      have hn0 := ho.now0
      have hn1 := ho.now1
      obtain ⟨s, hsk, hs⟩ := slot_nat (b := b) (t := t) k1 (by have := hd.1; simp at this; omega)
      have hcs : c = (s : Int) := by rw [← hc, hs]
      subst hcs
      have sc := h1.scell hsk
      have hsl := fun m => slot_look (h1.drewN m) hwx hsk
      rw [ht] at hsl
      simp only [Option.bind_some, hs, if_true] at hsl
      have hsn : (0 : Int) ≤ (s : Int) := Int.natCast_nonneg _
      have hsk2 : (s : Int) < (b.K : Int) := by omega
      simp at hd
      obtain ⟨hd1, hd2⟩ := hd
      unfold timV at hsl
      obtain ⟨g0, g1, g2, g3⟩ := h1.gcell
      have hfd := field0
      have HH1 := Aside0.mk h1
      have HO1 := Aside0.mk o1
      have HT := Aside0.mk ht
      have HR := Aside0.mk hrg1
      have HRG := Aside0.mk hrg
      have HLX := Aside0.mk hlt
      clear h1 ho o1 ht hs hc hat hg1 hs1 g1 g3 hlx hrg hrg1 hlt
      go_wp2_with fail
      go_quiet (fail)
      cases hav : any with
      | false =>
        have hst := (hav ▸ HL.out : Lst now L left m false).step HO.out.rise HT.out (t.due - now) (by rw [if_neg (by simp)])
        have HST := Aside0.mk hst
        clear hst
        subst hav
        go_wp2_with fail
        refine ⟨⟨_, _, _, _, rfl, rfl, rg_drewN HR.out nq, HST.out, HO1.out.drewN nq⟩, ?_⟩
        rw [(rg_drewN HR.out nq).left_eq, HRG.out.left_eq]; exact HLX.out
      | true =>
        subst hav
        by_cases hc : t.due - now < m
        · have hst := HL.out.step HO.out.rise HT.out (t.due - now) (by rw [if_neg (by omega)])
          have hb : decide (t.due - now < m) = true := by simp [hc]
          have HST := Aside0.mk hst
          clear hst hc
          go_wp2_with fail
          refine ⟨⟨_, _, _, _, rfl, rfl, rg_drewN HR.out nq, HST.out, HO1.out.drewN nq⟩, ?_⟩
          rw [(rg_drewN HR.out nq).left_eq, HRG.out.left_eq]; exact HLX.out
        · have hst := HL.out.step HO.out.rise HT.out m (by rw [if_pos ⟨rfl, by omega⟩])
          have hb : decide (t.due - now < m) = false := by simp [hc]
          have HST := Aside0.mk hst
          clear hst hc
          go_wp2_with fail
          refine ⟨⟨_, _, _, _, rfl, rfl, rg_drewN HR.out nq, HST.out, HO1.out.drewN nq⟩, ?_⟩
          rw [(rg_drewN HR.out nq).left_eq, HRG.out.left_eq]; exact HLX.out
end Go.Proofs.Yteefnclkcnkbhaa.Wh
