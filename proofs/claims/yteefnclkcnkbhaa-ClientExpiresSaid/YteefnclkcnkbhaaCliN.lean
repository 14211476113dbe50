import Derived.Test.YteefnclkcnkbhaaProg
import Derived.Below
import Derived.Deep.Draws
import Derived.Deep.AppendLies
import Derived.Maps.AppendAt
import Derived.OwnWalk
import Derived.Laws.BytesArg
import Derived.Laws.MakeOwn
import Derived.Laws.OwnMore
import Derived.Deep.OwnRows
import Derived.Tactics
import Derived.Lib.ConvBytes
import Derived.Laws.Slices
import Derived.WalkKit
import Derived.KernelRfl
import Derived.RowKit3
import Derived.Deep.LoopGhost
import Derived.Deep.QuietTactic
import Derived.BigQuiet
import Derived.WideLaws
import Derived.Deep.DeepCutAuto
import Derived.Deep.CutBlock
import Derived.Deep.RegionHeld3
import Derived.Laws.Rows
import Derived.Lib.AppendStr
import Derived.ArgAppend
import Derived.Laws.IdiomCopy
import Derived.OrdersHeld
import Derived.Laws.BitsLemmas
import Derived.RowKit
import Derived.Test.YteefnclkcnkbhaaWWords
import Derived.Test.YteefnclkcnkbhaaWLast
import Derived.Test.YteefnclkcnkbhaaWTab
import Derived.Test.YteefnclkcnkbhaaWFour
import Derived.Test.YteefnclkcnkbhaaWQPut
import Derived.Test.YteefnclkcnkbhaaWApart
import Derived.Test.YteefnclkcnkbhaaWArr
import Derived.Test.YteefnclkcnkbhaaWZeros
import Derived.Test.YteefnclkcnkbhaaWFoot
import Derived.Test.YteefnclkcnkbhaaWKept
import Derived.Test.YteefnclkcnkbhaaWShare
import Derived.Test.YteefnclkcnkbhaaWN
import Derived.Test.YteefnclkcnkbhaaWFootNe
import Derived.Test.YteefnclkcnkbhaaWAt
import Derived.Test.YteefnclkcnkbhaaWEqStruct
import Derived.Test.YteefnclkcnkbhaaWRepsOne
import Derived.Test.YteefnclkcnkbhaaWInv
import Derived.Test.YteefnclkcnkbhaaWInvWords
import Derived.Test.YteefnclkcnkbhaaWGuard
import Derived.Test.YteefnclkcnkbhaaWNEv
import Derived.Test.YteefnclkcnkbhaaWMore
import Derived.Stop.BytesEq
import Derived.Deep.RegionLaw
import Derived.Laws.BitsAllLaws
import Derived.Lib.SliceRun
import Derived.Deep.RegionWith
import Derived.StillTailTactics
import Derived.Laws.CopyOwn
import Derived.Test.YteefnclkcnkbhaaCliA
import Derived.Test.YteefnclkcnkbhaaCliB
import Derived.Test.YteefnclkcnkbhaaCliC
import Derived.Test.YteefnclkcnkbhaaCliD
import Derived.Test.YteefnclkcnkbhaaCliE
import Derived.Test.YteefnclkcnkbhaaCliF
import Derived.Test.YteefnclkcnkbhaaCliG
import Derived.Test.YteefnclkcnkbhaaCliH
import Derived.Test.YteefnclkcnkbhaaCliI
import Derived.Test.YteefnclkcnkbhaaCliJ
import Derived.Test.YteefnclkcnkbhaaCliK
import Derived.Test.YteefnclkcnkbhaaCliL
import Derived.Test.YteefnclkcnkbhaaCliM
namespace Go.Proofs.Yteefnclkcnkbhaa.GClientExpires
open Go.RowKit Go.Proofs.YteefnclkcnkbhaaW.PrintWords Go.Proofs.YteefnclkcnkbhaaW.PrintLast Go.Proofs.YteefnclkcnkbhaaW.PrintMore
attribute [local go_sem] max2_int min2_int max_two min_two max_three min_three max_four min_four   -- for this text's walks alone
set_option linter.unusedVariables false
set_option linter.unusedSimpArgs false



theorem does_all (n₀ g gd : Nat) (s : CS) (k i sb : Int) (A : Option Addr) (c : Nat) (bs : List Int) (x : Nat → Int) (w : World) (h : Inv w n₀ g s) (hd : DAt w gd .zero) (hn : n₀ ≤ gd) (hgd : gd ≠ g) (hC : (Kd.int .u8).C w A bs.length bs) (hA : 0 < bs.length → ∀ ad, A = some ad → ad.block < n₀) (hbl : bs.length ≤ 140737488351232) (hx : ∀ i, 0 ≤ x i ∧ x i < 256) :
    Calls Try.prog 22 #[.pointer (some ⟨g, 0, none⟩), .pointer (some ⟨gd, 0, none⟩), .agg #[.int .i64 k, .int .u16 i, .int .u8 sb, .slice A bs.length c, .int .u8 (x 0), .int .u8 (x 1), .int .u8 (x 2), .int .u8 (x 3), .int .u8 (x 4), .int .u8 (x 5), .int .u8 (x 6), .int .u8 (x 7)]] w (DPost n₀ g gd w) := by
  by_cases h0 : k = 0
  · exact does0_calls n₀ g gd s k i sb A c bs x w h hd hn hgd h0 hC hA hbl
  by_cases h1 : k = 1
  · exact does1_calls n₀ g gd s k i sb A c bs x w h hd hn hgd h1
  by_cases h2 : k = 2
  · exact does2_calls n₀ g gd s k i sb A c bs x w h hd hn hgd h2 hx
  by_cases h3 : k = 3
  · exact does3_calls n₀ g gd s k i sb A c bs x w h hd hn hgd h3
  by_cases h4 : k = 4
  · exact does4_calls n₀ g gd s k i sb A c bs x w h hd hn hgd h4
  exact does5_calls n₀ g gd s k i sb A c bs x w h hd hn hgd h0 h1 h2 h3 h4
structure AV where
  k : Int
  i : Int
  sb : Int
  bs : List Int
  x : Nat → Int
/-- an act in memory -/
def ActM (w : World) (ad : Addr) (y : AV) : Prop := ∃ (A : Option Addr) (c : Nat), (w.cell? ad = some (.int .i64 y.k) ∧ w.cell? ⟨ad.block, ad.off + 1, none⟩ = some (.int .u16 y.i) ∧ w.cell? ⟨ad.block, ad.off + 2, none⟩ = some (.int .u8 y.sb) ∧ w.cell? ⟨ad.block, ad.off + 3, none⟩ = some (.slice A y.bs.length c) ∧
  w.cell? ⟨ad.block, ad.off + 4, none⟩ = some (.int .u8 (y.x 0)) ∧ w.cell? ⟨ad.block, ad.off + 5, none⟩ = some (.int .u8 (y.x 1)) ∧ w.cell? ⟨ad.block, ad.off + 6, none⟩ = some (.int .u8 (y.x 2)) ∧ w.cell? ⟨ad.block, ad.off + 7, none⟩ = some (.int .u8 (y.x 3)) ∧
  w.cell? ⟨ad.block, ad.off + 8, none⟩ = some (.int .u8 (y.x 4)) ∧ w.cell? ⟨ad.block, ad.off + 9, none⟩ = some (.int .u8 (y.x 5)) ∧ w.cell? ⟨ad.block, ad.off + 10, none⟩ = some (.int .u8 (y.x 6)) ∧ w.cell? ⟨ad.block, ad.off + 11, none⟩ = some (.int .u8 (y.x 7))) ∧
  (Kd.int .u8).C w A y.bs.length y.bs ∧ y.bs.length ≤ 140737488351232 ∧ ∀ t, 0 ≤ y.x t ∧ y.x t < 256
def ActsM (w : World) (A : Option Addr) (ys : List AV) : Prop := ∀ j y, ys[j]? = some y → ∃ ad, A = some ad ∧ ActM w (ad.add (j * 12)) y
theorem below_cell {B : Nat} {w W : World} (h : Below w.heap.size w W) {p : Addr} {v : Value} (hc : w.cell? p = some v) : W.cell? p = some v := (h.cell (World.block_lt_of_cell? w p hc)).trans hc
theorem ActM.below {w W : World} {ad : Addr} {y : AV} (h : ActM w ad y) (hb : Below w.heap.size w W) : ActM W ad y := by
  obtain ⟨A, c, ⟨h0, h1, h2, h3, h4, h5, h6, h7, h8, h9, h10, h11⟩, hC, hl, hx⟩ := h
  exact ⟨A, c, ⟨below_cell (B := 0) hb h0, below_cell (B := 0) hb h1, below_cell (B := 0) hb h2, below_cell (B := 0) hb h3, below_cell (B := 0) hb h4, below_cell (B := 0) hb h5, below_cell (B := 0) hb h6, below_cell (B := 0) hb h7, below_cell (B := 0) hb h8, below_cell (B := 0) hb h9, below_cell (B := 0) hb h10, below_cell (B := 0) hb h11⟩, Kd.C_below hC hb, hl, hx⟩
theorem C_block {w : World} {A : Option Addr} {bs : List Int} (h : (Kd.int .u8).C w A bs.length bs) (hp : 0 < bs.length) : ∀ ad, A = some ad → ad.block < w.heap.size := by
  obtain ⟨ad, hA, hc⟩ := (Kd.reads_of_C (d := (0 : Int)) h).2.2 hp
  intro ad' e
  rw [hA] at e
  cases e
  have h0 := World.block_lt_of_cell? w _ (hc 0 hp)
  rwa [add_block] at h0
theorem write_big (n₀ g : Nat) (s : CS) (i sb : Int) (A : Option Addr) (c : Nat) (bs : List Int) (w : World) (h : Inv w n₀ g s) (hw : s.waits = 0) (hbig : 65536 < bs.length) (hv0 : BQ w n₀ (.slice A bs.length c) bs) :
    Calls Try.prog 26 #[.pointer (some ⟨g, 0, none⟩), .int .u16 i, .int .u8 sb, .slice A bs.length c] w fun e w' => (∃ x, e = .returned (.tuple #[.agg (fr8 x), .int .i64 2])) ∧ (∃ s', Inv w' n₀ g s') ∧ Fr n₀ g w w' :=
  (write_calls n₀ g s i sb A c bs w h hv0).mono fun e w' hh => by
    obtain ⟨⟨x, hx⟩, ⟨s', h1, _⟩, h2⟩ := hh
    rw [if_neg (fun h => h hw), if_pos hbig] at hx
    exact ⟨⟨x, hx⟩, ⟨s', h1⟩, h2⟩
theorem write_ok (n₀ g : Nat) (s : CS) (i sb : Int) (A : Option Addr) (c : Nat) (bs : List Int) (w : World) (h : Inv w n₀ g s) (hw : s.waits = 0) (hbig : ¬ 65536 < bs.length) (hv0 : BQ w n₀ (.slice A bs.length c) bs) :
    Calls Try.prog 26 #[.pointer (some ⟨g, 0, none⟩), .int .u16 i, .int .u8 sb, .slice A bs.length c] w fun e w' => (∃ x, e = .returned (.tuple #[.agg (fr8 x), .int .i64 0])) ∧ (∃ s', Inv w' n₀ g s' ∧ s'.waits ≠ 0) ∧ Fr n₀ g w w' :=
  (write_calls n₀ g s i sb A c bs w h hv0).mono fun e w' hh => by
    obtain ⟨⟨x, hx⟩, ⟨s', h1, h3⟩, h2⟩ := hh
    rw [if_neg (fun h => h hw), if_neg hbig] at hx
    exact ⟨⟨x, hx⟩, ⟨s', h1, h3 hw (by omega)⟩, h2⟩
theorem invAt {W : World} {n₀ g : Nat} {s : CS} (h : Inv W n₀ g s) : At W g s := h.1
set_option maxHeartbeats 8000000 in
set_option maxRecDepth 100000 in
theorem law_calls (A : Option Addr) (c : Nat) (ys : List AV) (B : Option Addr) (d : Nat) (bs : List Int) (w : World) (hY : ActsM w A ys) (hyl : ys.length ≤ 4611686018427387904) (hB : (Kd.int .u8).C w B bs.length bs) (hbl : bs.length ≤ 140737488351232) :
    Calls Try.prog 4 #[.slice A ys.length c, .slice B bs.length d] w fun e w' => e = .returned (.bool true) ∧ Below w.heap.size w w' := by
  have HY := Aside0.mk hY
  have HC0 := Aside0.mk hB
  clear hY hB
  go_enter Try.func4, Try.ntmps4
  go_wp2_with fail
  refine (new_calls _).mono ?_
  rintro e w1 ⟨rfl, hi1, hb1⟩
  have HI0 := Aside0.mk hi1
  have HB0 := Aside0.mk hb1
  clear hi1 hb1
  go_wp2_with fail
  go_loopw [6] (fun i wr => ∃ k : Nat, k ≤ ys.length ∧ i = .int .i64 k ∧ (∃ s, Inv wr w.heap.size w.heap.size s) ∧ Below w.heap.size w wr) (fun i _ => ys.length - (intOf i).toNat)
  case atStart => exact ⟨0, Nat.zero_le _, rfl, ⟨_, HI0.out⟩, HB0.out⟩
  case round =>
    obtain ⟨k, hk, rfl, ⟨s, hI⟩, hB⟩ := hrel
    have HI := Aside0.mk hI
    have HB := Aside0.mk hB
    have hlg := hI.1.lt
    clear HI0 HB0 hI hB
    by_cases hlt : k < ys.length
    · obtain ⟨y, hy⟩ : ∃ y, ys[k]? = some y := ⟨ys[k], List.getElem?_eq_getElem hlt⟩
      obtain ⟨ad, rfl, A2, c2, hc, hC, hl, hx⟩ := HY.out k y hy
      have HC := Aside0.mk hC
      have HL2 := Aside0.mk hl
      have HX2 := Aside0.mk hx
      have HA2 := Aside0.mk (C_block hC)
      have hcW := (ActM.below (⟨A2, c2, hc, hC, hl, hx⟩ : ActM w _ y) HB.out)
      have hdl : decide ((k : Int) < (ys.length : Int)) = true := decide_eq_true (by omega)
      have hk0 : (0 : Int) ≤ (k : Int) := Int.natCast_nonneg _
      have hk1 : (k : Int) < (ys.length : Int) := by omega
      obtain ⟨h0, h1, h2, h3, h4, h5, h6, h7, h8, h9, h10, h11⟩ := hc
      replace h0 := below_cell (B := 0) HB.out h0
      replace h1 := below_cell (B := 0) HB.out h1
      replace h2 := below_cell (B := 0) HB.out h2
      replace h3 := below_cell (B := 0) HB.out h3
      replace h4 := below_cell (B := 0) HB.out h4
      replace h5 := below_cell (B := 0) HB.out h5
      replace h6 := below_cell (B := 0) HB.out h6
      replace h7 := below_cell (B := 0) HB.out h7
      replace h8 := below_cell (B := 0) HB.out h8
      replace h9 := below_cell (B := 0) HB.out h9
      replace h10 := below_cell (B := 0) HB.out h10
      replace h11 := below_cell (B := 0) HB.out h11
      have hbl0 := World.block_lt_of_cell? wr _ h0
      clear hC hl hx hcW hy
      go_wp2_with fail
      have hI2 := HI.out.alloc (Obj.cells #[.int .i64 0, .int .u16 0, .int .u8 0, .slice none 0 0, .int .u8 0, .bool false, .int .i64 0, .slice none 0 0, .int .u32 0, .bool false] 42)
      have hC2 := Kd.C_below HC.out ((below_alloc HB.out (Obj.cells #[.int .i64 0, .int .u16 0, .int .u8 0, .slice none 0 0, .int .u8 0, .bool false, .int .i64 0, .slice none 0 0, .int .u32 0, .bool false] 42)))
      refine (does_all w.heap.size w.heap.size wr.heap.size _ y.k y.i y.sb A2 c2 y.bs y.x _ hI2 (blk_new _ _) HB.out.size (by omega) hC2 HA2.out HL2.out HX2.out).mono ?_
      rintro e w3 ⟨⟨bb, rfl⟩, ⟨s3, hi3⟩, hf3⟩
      have HI3 := Aside0.mk hi3
      have HB3 := Aside0.mk ((below_alloc HB.out (Obj.cells #[.int .i64 0, .int .u16 0, .int .u8 0, .slice none 0 0, .int .u8 0, .bool false, .int .i64 0, .slice none 0 0, .int .u32 0, .bool false] 42)).trans hf3.1)
      clear HI HB hI2 hC2 hi3 hf3 h0 h1 h2 h3 h4 h5 h6 h7 h8 h9 h10 h11
      have HI := HI3
      have HB := HB3
      clear HI3 HB3
      go_wp2_with fail
      go_roundw
      case rel => exact ⟨k + 1, by omega, by go_num, ⟨_, HI.out⟩, HB.out⟩
      case measure => simp [intOf]; omega
    · have hdl : decide ((k : Int) < (ys.length : Int)) = false := decide_eq_false (by omega)
      clear HY
      by_cases hw : s.waits = 0
      · cases hh : s.has
        · have HH := Aside0.mk hh
          clear hh
          have HW := Aside0.mk hw
          clear hw
          have wb : (s.waits != 0) = false := by have := HW.out; simpa using this
          go_wp2_with fail
          refine (busy_calls w.heap.size _ _ (invAt HI.out)).mono ?_
          rintro e w' ⟨rfl, rfl⟩
          go_wp2_with fail
          refine (expire0_calls w.heap.size w.heap.size _ _ HI.out HW.out).mono ?_
          rintro e w3 ⟨⟨y1, rfl⟩, hi3, hf3⟩
          have HI3 := Aside0.mk hi3
          have HB3 := Aside0.mk (HB.out.trans hf3.1)
          clear HI HB hi3 hf3
          have HI := HI3
          have HB := HB3
          clear HI3 HB3
          unfold fr8
          go_wp2_with fail
          refine (result0_calls w.heap.size w.heap.size _ _ (HI.out.alloc _) HH.out).mono ?_
          rintro e w4 ⟨rfl, rfl⟩
          go_wp2_with fail
          refine (busy_calls w.heap.size _ _ (invAt (HI.out.alloc _))).mono ?_
          rintro e w' ⟨rfl, rfl⟩
          go_wp2_with (first | ((with_reducible refine gate_dst (N := 65) rfl ?_); refine Kd.R_lit (Kd.int .u8) _ 5 ?hg (N := 65) ?hd (xs := ([] : List Int)) (inner := []) (ok := fun _ => True) (okp := fun _ => True) ?hr ?hp (fun _ hk => hk) trivial (Below.refl _ _) (Nat.le_refl _) (by simp) ?_; (case hd => rfl); (case hg => rfl); (case hr => first | (go_simp; done) | (go_simp; rfl)); (case hp => exact (Reps.none _ _)); intro v1 w5 ho1 hb1 hg_ hnew_; clear hg_ hnew_; have HO := Aside0.mk ho1; have HB1 := Aside0.mk hb1; clear ho1 hb1) | ((with_reducible refine gate_builtin (b := .append) (xs := #[.tmp 65, .tmp 66]) rfl ?_); at_builtin; refine Kd.R_append_row (Value.int .u8) (0 : Int) (h1 := fun _ => rfl) _ rfl (.tmp 65) (.tmp 66) 23 5 (.int .u8 0) 1 rfl Try.underlying23 info5 rfl (by decide) v1 ([] : List Int) bs _ bs.length d (fun _ => True) rfl rfl (fun _ _ => trivial) HO.out (Kd.C_below HC0.out (below_step (below_alloc HB.out _) HB1.out)) HB1.out HB1.out.size (by simp; omega) ?_; intro v2 w6 ho hb hg hat; rw [List.nil_append] at ho; obtain ⟨Av, cv, ev⟩ := Kd.R_slice ho; subst ev; have HV := Aside0.mk (Kd.Q_lower (Kd.Q_of_R ho) (below_size (below_alloc HB.out _))); have HI3 := Aside0.mk (((HI.out.alloc _)).below hb); have HB3 := Aside0.mk (below_step (below_alloc HB.out _) hb); clear ho hb hg hat HO HB1 HI HB; have HI := HI3; have HB := HB3; clear HI3 HB3))
          by_cases hbg : 65536 < bs.length
          · have hbd : decide ((65536 : Int) < (bs.length : Int)) = true := decide_eq_true (by omega)
            refine (write_big w.heap.size w.heap.size _ _ _ Av cv bs _ HI.out HW.out hbg HV.out).mono ?_
            rintro e w7 ⟨⟨y2, rfl⟩, ⟨s7, hi3⟩, hf3⟩
            have HI3 := Aside0.mk hi3
            have HB3 := Aside0.mk (HB.out.trans hf3.1)
            clear HI HB hi3 hf3
            have HI := HI3
            have HB := HB3
            clear HI3 HB3
            unfold fr8
            go_wp2_with fail
            refine (lives_calls _).mono ?_
            rintro e w8 ⟨rfl, hb8⟩
            have HB3 := Aside0.mk (below_step (below_alloc HB.out _) hb8)
            clear HB hb8
            have HB := HB3
            clear HB3
            go_wp2_with fail
            go_ret
            exact ⟨rfl, HB.out⟩
          · have hbd : decide ((65536 : Int) < (bs.length : Int)) = false := decide_eq_false (by omega)
            refine (write_ok w.heap.size w.heap.size _ _ _ Av cv bs _ HI.out HW.out hbg HV.out).mono ?_
            rintro e w7 ⟨⟨y2, rfl⟩, ⟨s7, hi3, hne7⟩, hf3⟩
            have hw7 : (s7.waits != 0) = true := by (simpa using hne7)
            clear hne7
            have HI3 := Aside0.mk hi3
            have HB3 := Aside0.mk (HB.out.trans hf3.1)
            clear HI HB hi3 hf3
            have HI := HI3
            have HB := HB3
            clear HI3 HB3
            unfold fr8
            go_wp2_with fail
            refine (busy_calls w.heap.size _ _ (invAt (HI.out.alloc _))).mono ?_
            rintro e w' ⟨rfl, rfl⟩
            go_wp2_with fail
            refine (lives_calls _).mono ?_
            rintro e w8 ⟨rfl, hb8⟩
            have HB3 := Aside0.mk (below_step (below_alloc HB.out _) hb8)
            clear HB hb8
            have HB := HB3
            clear HB3
            go_wp2_with fail
            go_ret
            exact ⟨rfl, HB.out⟩
        · have HH := Aside0.mk hh
          clear hh
          have HW := Aside0.mk hw
          clear hw
          have wb : (s.waits != 0) = false := by have := HW.out; simpa using this
          go_wp2_with fail
          refine (busy_calls w.heap.size _ _ (invAt HI.out)).mono ?_
          rintro e w' ⟨rfl, rfl⟩
          go_wp2_with fail
          refine (expire0_calls w.heap.size w.heap.size _ _ HI.out HW.out).mono ?_
          rintro e w3 ⟨⟨y1, rfl⟩, hi3, hf3⟩
          have HI3 := Aside0.mk hi3
          have HB3 := Aside0.mk (HB.out.trans hf3.1)
          clear HI HB hi3 hf3
          have HI := HI3
          have HB := HB3
          clear HI3 HB3
          unfold fr8
          go_wp2_with fail
          refine (result1_calls w.heap.size w.heap.size _ _ (HI.out.alloc _) HH.out).mono ?_
          rintro e w3 ⟨rfl, hi3, hf3, ⟨rs, hrs⟩⟩
          obtain ⟨Ar, cr, er, _, _⟩ := BQ.slice hrs
          clear hrs
          have HI3 := Aside0.mk hi3
          have HB3 := Aside0.mk ((below_alloc HB.out _).trans hf3.1)
          clear HI HB hi3 hf3
          have HI := HI3
          have HB := HB3
          clear HI3 HB3
          go_wp2_with fail
          refine (busy_calls w.heap.size _ _ (invAt HI.out)).mono ?_
          rintro e w' ⟨rfl, rfl⟩
          go_wp2_with (first | ((with_reducible refine gate_dst (N := 65) rfl ?_); refine Kd.R_lit (Kd.int .u8) _ 5 ?hg (N := 65) ?hd (xs := ([] : List Int)) (inner := []) (ok := fun _ => True) (okp := fun _ => True) ?hr ?hp (fun _ hk => hk) trivial (Below.refl _ _) (Nat.le_refl _) (by simp) ?_; (case hd => rfl); (case hg => rfl); (case hr => first | (go_simp; done) | (go_simp; rfl)); (case hp => exact (Reps.none _ _)); intro v1 w5 ho1 hb1 hg_ hnew_; clear hg_ hnew_; have HO := Aside0.mk ho1; have HB1 := Aside0.mk hb1; clear ho1 hb1) | ((with_reducible refine gate_builtin (b := .append) (xs := #[.tmp 65, .tmp 66]) rfl ?_); at_builtin; refine Kd.R_append_row (Value.int .u8) (0 : Int) (h1 := fun _ => rfl) _ rfl (.tmp 65) (.tmp 66) 23 5 (.int .u8 0) 1 rfl Try.underlying23 info5 rfl (by decide) v1 ([] : List Int) bs _ bs.length d (fun _ => True) rfl rfl (fun _ _ => trivial) HO.out (Kd.C_below HC0.out (below_step HB.out HB1.out)) HB1.out HB1.out.size (by simp; omega) ?_; intro v2 w6 ho hb hg hat; rw [List.nil_append] at ho; obtain ⟨Av, cv, ev⟩ := Kd.R_slice ho; subst ev; have HV := Aside0.mk (Kd.Q_lower (Kd.Q_of_R ho) (below_size HB.out)); have HI3 := Aside0.mk ((HI.out).below hb); have HB3 := Aside0.mk (below_step HB.out hb); clear ho hb hg hat HO HB1 HI HB; have HI := HI3; have HB := HB3; clear HI3 HB3))
          by_cases hbg : 65536 < bs.length
          · have hbd : decide ((65536 : Int) < (bs.length : Int)) = true := decide_eq_true (by omega)
            refine (write_big w.heap.size w.heap.size _ _ _ Av cv bs _ HI.out HW.out hbg HV.out).mono ?_
            rintro e w7 ⟨⟨y2, rfl⟩, ⟨s7, hi3⟩, hf3⟩
            have HI3 := Aside0.mk hi3
            have HB3 := Aside0.mk (HB.out.trans hf3.1)
            clear HI HB hi3 hf3
            have HI := HI3
            have HB := HB3
            clear HI3 HB3
            unfold fr8
            go_wp2_with fail
            refine (lives_calls _).mono ?_
            rintro e w8 ⟨rfl, hb8⟩
            have HB3 := Aside0.mk (below_step (below_alloc HB.out _) hb8)
            clear HB hb8
            have HB := HB3
            clear HB3
            go_wp2_with fail
            go_ret
            exact ⟨rfl, HB.out⟩
          · have hbd : decide ((65536 : Int) < (bs.length : Int)) = false := decide_eq_false (by omega)
            refine (write_ok w.heap.size w.heap.size _ _ _ Av cv bs _ HI.out HW.out hbg HV.out).mono ?_
            rintro e w7 ⟨⟨y2, rfl⟩, ⟨s7, hi3, hne7⟩, hf3⟩
            have hw7 : (s7.waits != 0) = true := by (simpa using hne7)
            clear hne7
            have HI3 := Aside0.mk hi3
            have HB3 := Aside0.mk (HB.out.trans hf3.1)
            clear HI HB hi3 hf3
            have HI := HI3
            have HB := HB3
            clear HI3 HB3
            unfold fr8
            go_wp2_with fail
            refine (busy_calls w.heap.size _ _ (invAt (HI.out.alloc _))).mono ?_
            rintro e w' ⟨rfl, rfl⟩
            go_wp2_with fail
            refine (lives_calls _).mono ?_
            rintro e w8 ⟨rfl, hb8⟩
            have HB3 := Aside0.mk (below_step (below_alloc HB.out _) hb8)
            clear HB hb8
            have HB := HB3
            clear HB3
            go_wp2_with fail
            go_ret
            exact ⟨rfl, HB.out⟩
      · skip
        have HW := Aside0.mk hw
        clear hw
        have wb : (s.waits != 0) = true := by have := HW.out; simpa using this
        go_wp2_with fail
        refine (busy_calls w.heap.size _ _ (invAt HI.out)).mono ?_
        rintro e w' ⟨rfl, rfl⟩
        go_wp2_with fail
        refine (expire1_calls w.heap.size w.heap.size _ _ HI.out HW.out).mono ?_
        rintro e w3 ⟨⟨y1, rfl⟩, hi3, hf3⟩
        have HI3 := Aside0.mk hi3
        have HB3 := Aside0.mk (HB.out.trans hf3.1)
        clear HI HB hi3 hf3
        have HI := HI3
        have HB := HB3
        clear HI3 HB3
        unfold fr8
        go_wp2_with fail
        refine (result1_calls w.heap.size w.heap.size _ _ (HI.out.alloc _) rfl).mono ?_
        rintro e w3 ⟨rfl, hi3, hf3, ⟨rs, hrs⟩⟩
        obtain ⟨Ar, cr, er, _, _⟩ := BQ.slice hrs
        clear hrs
        have HI3 := Aside0.mk hi3
        have HB3 := Aside0.mk ((below_alloc HB.out _).trans hf3.1)
        clear HI HB hi3 hf3
        have HI := HI3
        have HB := HB3
        clear HI3 HB3
        go_wp2_with fail
        refine (busy_calls w.heap.size _ _ (invAt HI.out)).mono ?_
        rintro e w' ⟨rfl, rfl⟩
        go_wp2_with (first | ((with_reducible refine gate_dst (N := 65) rfl ?_); refine Kd.R_lit (Kd.int .u8) _ 5 ?hg (N := 65) ?hd (xs := ([] : List Int)) (inner := []) (ok := fun _ => True) (okp := fun _ => True) ?hr ?hp (fun _ hk => hk) trivial (Below.refl _ _) (Nat.le_refl _) (by simp) ?_; (case hd => rfl); (case hg => rfl); (case hr => first | (go_simp; done) | (go_simp; rfl)); (case hp => exact (Reps.none _ _)); intro v1 w5 ho1 hb1 hg_ hnew_; clear hg_ hnew_; have HO := Aside0.mk ho1; have HB1 := Aside0.mk hb1; clear ho1 hb1) | ((with_reducible refine gate_builtin (b := .append) (xs := #[.tmp 65, .tmp 66]) rfl ?_); at_builtin; refine Kd.R_append_row (Value.int .u8) (0 : Int) (h1 := fun _ => rfl) _ rfl (.tmp 65) (.tmp 66) 23 5 (.int .u8 0) 1 rfl Try.underlying23 info5 rfl (by decide) v1 ([] : List Int) bs _ bs.length d (fun _ => True) rfl rfl (fun _ _ => trivial) HO.out (Kd.C_below HC0.out (below_step HB.out HB1.out)) HB1.out HB1.out.size (by simp; omega) ?_; intro v2 w6 ho hb hg hat; rw [List.nil_append] at ho; obtain ⟨Av, cv, ev⟩ := Kd.R_slice ho; subst ev; have HV := Aside0.mk (Kd.Q_lower (Kd.Q_of_R ho) (below_size HB.out)); have HI3 := Aside0.mk ((HI.out).below hb); have HB3 := Aside0.mk (below_step HB.out hb); clear ho hb hg hat HO HB1 HI HB; have HI := HI3; have HB := HB3; clear HI3 HB3))
        by_cases hbg : 65536 < bs.length
        · have hbd : decide ((65536 : Int) < (bs.length : Int)) = true := decide_eq_true (by omega)
          refine (write_big w.heap.size w.heap.size _ _ _ Av cv bs _ HI.out rfl hbg HV.out).mono ?_
          rintro e w7 ⟨⟨y2, rfl⟩, ⟨s7, hi3⟩, hf3⟩
          have HI3 := Aside0.mk hi3
          have HB3 := Aside0.mk (HB.out.trans hf3.1)
          clear HI HB hi3 hf3
          have HI := HI3
          have HB := HB3
          clear HI3 HB3
          unfold fr8
          go_wp2_with fail
          refine (lives_calls _).mono ?_
          rintro e w8 ⟨rfl, hb8⟩
          have HB3 := Aside0.mk (below_step (below_alloc HB.out _) hb8)
          clear HB hb8
          have HB := HB3
          clear HB3
          go_wp2_with fail
          go_ret
          exact ⟨rfl, HB.out⟩
        · have hbd : decide ((65536 : Int) < (bs.length : Int)) = false := decide_eq_false (by omega)
          refine (write_ok w.heap.size w.heap.size _ _ _ Av cv bs _ HI.out rfl hbg HV.out).mono ?_
          rintro e w7 ⟨⟨y2, rfl⟩, ⟨s7, hi3, hne7⟩, hf3⟩
          have hw7 : (s7.waits != 0) = true := by (simpa using hne7)
          clear hne7
          have HI3 := Aside0.mk hi3
          have HB3 := Aside0.mk (HB.out.trans hf3.1)
          clear HI HB hi3 hf3
          have HI := HI3
          have HB := HB3
          clear HI3 HB3
          unfold fr8
          go_wp2_with fail
          refine (busy_calls w.heap.size _ _ (invAt (HI.out.alloc _))).mono ?_
          rintro e w' ⟨rfl, rfl⟩
          go_wp2_with fail
          refine (lives_calls _).mono ?_
          rintro e w8 ⟨rfl, hb8⟩
          have HB3 := Aside0.mk (below_step (below_alloc HB.out _) hb8)
          clear HB hb8
          have HB := HB3
          clear HB3
          go_wp2_with fail
          go_ret
          exact ⟨rfl, HB.out⟩
end Go.Proofs.Yteefnclkcnkbhaa.GClientExpires
