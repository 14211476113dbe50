-- written by gen.py over print.py's words; hand-written sections are marked so
import Derived.LoopIn
import Derived.LoopNIn
import Derived.TacticsInMore
import Derived.OwnWalkIn
import Derived.Shelf.Abstract
import Derived.RangeFuncLeaves
import Derived.RangeFuncCalls
import Derived.RangeFuncBound
import Derived.RangeFuncNested
import Derived.Test.YteefnclkcnkbhaaMapW
import Derived.Lib.SliceRun
import Derived.Test.YteefnclkcnkbhaaGDcfEncodesx0
import Derived.Test.YteefnclkcnkbhaaGDcfEncodesx1
import Derived.Test.YteefnclkcnkbhaaGDcfEncodesx2
import Derived.Test.YteefnclkcnkbhaaGDcfEncodesx3
import Derived.Test.YteefnclkcnkbhaaGDcfEncodesx4
namespace Go.Proofs.Yteefnclkcnkbhaa.GDcfEncodes
open Go.RowKit Go.Proofs.YteefnclkcnkbhaaW.PrintWords Go.Proofs.YteefnclkcnkbhaaW.PrintLast Go.Proofs.YteefnclkcnkbhaaW.PrintMore
attribute [local go_sem] max2_int min2_int max_two min_two max_three min_three max_four min_four   -- for this text's walks alone
set_option linter.unusedVariables false
set_option linter.unusedSimpArgs false

/-! ### dcf_Decode: function 20, by hand -/
def item_f (l0 : List Int) : Option (Int × Int × List Int × List Int × Int) :=
  if l0.length < 7 then some (0, 0, [], [], 3) else (dcf_read32.f (l0.drop 3)).bind fun n =>
    if n > 65536 then some (Go.bits .or .u16 (IntKind.u16.wrap (rd l0 0)) (IntKind.u16.wrap ((IntKind.u16.wrap (rd l0 1)) * 256)), rd l0 2, [], [], 2)
    else if n > ((l0.length - 7 : Nat) : Int) then some (Go.bits .or .u16 (IntKind.u16.wrap (rd l0 0)) (IntKind.u16.wrap ((IntKind.u16.wrap (rd l0 1)) * 256)), rd l0 2, [], [], 3)
    else if 0 ≤ n then some (Go.bits .or .u16 (IntKind.u16.wrap (rd l0 0)) (IntKind.u16.wrap ((IntKind.u16.wrap (rd l0 1)) * 256)), rd l0 2, (l0.drop 7).take n.toNat, (l0.drop 7).drop n.toNat, 0) else none
theorem map_add_u8 (b o q : Nat) : (some (⟨b, o, none⟩ : Addr)).map (fun x => x.add (q * (Kd.int .u8).sz)) = some ⟨b, o + q, none⟩ := by
  cases q with
  | zero => rfl
  | succ q =>
    show some (Addr.add ⟨b, o, none⟩ ((q + 1) * 1)) = _
    rw [Nat.mul_one]
    rfl
theorem item_end {w w2 : World} {v : Value} {ys : List Int} {n : Nat} (hb : Below w.heap.size w w2) (hR : Kd.R (Kd.int .u8) 5 w2 n (fun _ => True) v ys) (a b c d : Value) (hn : n = w.heap.size + 1 + 1 := by simp) :
    Kd.R (Kd.int .u8) 5 ((((w2.setCell ⟨w.heap.size + 1, 2, none⟩ c).setCell ⟨w.heap.size, 0, none⟩ a).setCell ⟨w.heap.size, 1, none⟩ b).setCell ⟨w.heap.size, 2, none⟩ d).drew w.heap.size (fun _ => True) v ys ∧ Below w.heap.size w ((((w2.setCell ⟨w.heap.size + 1, 2, none⟩ c).setCell ⟨w.heap.size, 0, none⟩ a).setCell ⟨w.heap.size, 1, none⟩ b).setCell ⟨w.heap.size, 2, none⟩ d).drew := by
  subst hn
  refine ⟨Kd.R_drew (Kd.R_mono (Kd.R_far (Kd.R_far (Kd.R_far (Kd.R_far (Kd.R_lower (Kd.R_bound hR) (by omega)) ?_ _) ?_ _) ?_ _) ?_ _) (fun _ _ => trivial)), below_drew1 (below_set (below_set (below_set (below_set hb (by omega)) (Nat.le_refl _)) (Nat.le_refl _)) (Nat.le_refl _))⟩ <;>
  · rintro k ⟨_, h, _⟩
    show k ≠ _
    simp only
    omega
def ItemPost (w0 w : World) (r1 r2 : Int) (r3 r4 : List Int) (r5 : Int) (e : Ending) (w' : World) : Prop := ∃ (v2 : Value) (A1 : Option Addr) (c1 : Nat), e = .returned (.tuple #[.agg #[.int .u16 r1, .int .u8 r2, v2], .slice A1 r4.length c1, .int .i64 r5]) ∧ Kd.R (Kd.int .u8) 5 w' w.heap.size (fun _ => True) v2 r3 ∧ Kd.C (Kd.int .u8) w0 A1 r4.length r4 ∧ r4.length ≤ c1 ∧ Below w.heap.size w w'
set_option maxHeartbeats 8000000 in
set_option maxRecDepth 100000 in
theorem item_reads (A0 : Option Addr) (c0 : Nat) (l0 : List Int) (r1 r2 : Int) (r3 r4 : List Int) (r5 : Int) (w0 w : World) (hr00 : Kd.C (Kd.int .u8) w0 A0 l0.length l0) (hb0 : Below w0.heap.size w0 w) (hc0 : l0.length ≤ c0) (h : item_f l0 = some (r1, r2, r3, r4, r5)) :
    Calls Try.prog 62 #[.slice A0 l0.length c0] w (ItemPost w0 w r1 r2 r3 r4 r5) := by
  have hr0 := Kd.C_below hr00 hb0
  unfold item_f at h
  have HB := Aside0.mk (Below.refl w.heap.size w)
  have hmax : l0.length ≤ 9223372036854775807 := hr0.2.1
  have hu117 := Try.underlying117
  by_cases c2 : l0.length < 7
  · rw [if_pos c2] at h
    simp only [Option.some.injEq, Prod.mk.injEq] at h
    obtain ⟨rfl, rfl, rfl, rfl, rfl⟩ := h
    clear hr0 hr00 hb0
    go_enter Try.func62, Try.ntmps62
    go_wp2
    refine bodyPost_ret (results_ctt rfl _ _ _ 117 #[.int .u16 0, .int .u8 0, .slice none 0 0] (0, 0) _ rfl (blk_new _ _) Try.underlying117 rfl (by kernel_rfl)) rfl ?_
    exact ⟨_, none, 0, rfl, Kd.R_nil _ _ _ _ _, Kd.C_nil _ _, Nat.le_refl _, by repeat (first | exact HB.out | apply below_alloc)⟩
  · rw [if_neg c2] at h
    obtain ⟨n, hn, h⟩ := Option.bind_eq_some_iff.mp h
    obtain ⟨ad, hA, hx0⟩ := Kd.at_int hr0 0 (by omega) (by omega)
    cases hA
    obtain ⟨ad1, e1, hx1⟩ := Kd.at_int hr0 1 (by omega) (by omega)
    obtain rfl : ad = ad1 := by injection e1
    obtain ⟨ad2, e2, hx2⟩ := Kd.at_int hr0 2 (by omega) (by omega)
    obtain rfl : ad = ad2 := by injection e2
    have h3 := Kd.C_drop (m := 3) hr0 (by omega) hc0
    have h7 := Kd.C_drop (m := 7) hr00 (by omega) hc0
    have hab := World.block_lt_of_cell? w _ hx0
    rw [add_block] at hab
    simp only [Int.toNat_zero, Addr.add_zero', show (1 : Int).toNat = 1 from rfl, show (2 : Int).toNat = 2 from rfl, Go.Addr.add, if_true, Nat.one_ne_zero, show (2 : Nat) ≠ 0 from by decide, if_false, Nat.add_zero] at hx0 hx1 hx2
    have hl3 : (l0.drop 3).length = l0.length - 3 := by simp
    have hl7 : (l0.drop 7).length = l0.length - 7 := by simp
    rw [if_neg (by omega), hl3] at h3
    have h32 : ∀ W, Below w.heap.size w W → Calls Try.prog 61 #[.slice (some ⟨ad.block, ad.off + 3, none⟩) (l0.length - 3) (c0 - 3)] W fun e w' => e = .returned (.int .u64 n) ∧ Drawn0 W w' := by
      intro W hW
      have := dcf_read32.calls (some ⟨ad.block, ad.off + 3, none⟩) (c0 - 3) (l0.drop 3) n W (by rw [hl3]; exact Kd.C_below h3 hW) (by rw [hl3]; omega) hn
      rwa [hl3] at this
    have H32 := Aside0.mk h32
    have hcap : 7 ≤ c0 := by omega
    have HAB := Aside0.mk hab
    replace h7 : Kd.C (Kd.int .u8) w0 (if c0 = 7 then some ad else some ⟨ad.block, ad.off + 7, none⟩) (l0.drop 7).length (l0.drop 7) := h7
    by_cases c65 : n > 65536
    · rw [if_pos c65] at h
      simp only [Option.some.injEq, Prod.mk.injEq] at h
      obtain ⟨rfl, rfl, rfl, rfl, rfl⟩ := h
      clear hr0 hr00 hb0 hn h3 h7 e1 e2 h32
      go_enter Try.func62, Try.ntmps62
      go_wp2_with fail
      go_region
      go_wp2_with (go_at_call 61; refine (H32.out _ (by repeat (first | exact HB.out | apply below_alloc | apply below_drew1))).mono ?_; rintro e w' ⟨rfl, ⟨⟨m, rfl⟩⟩⟩)
      all_goals (refine bodyPost_ret (results_ctt rfl _ _ _ 117 #[.int .u16 _, .int .u8 _, .slice none 0 0] (0, 0) _ rfl (blk_put (blk_put (blk_put (blk_drewN (blk_alloc (blk_new _ _) _) _) 0 _ rfl) 1 _ rfl) 2 _ rfl) Try.underlying117 rfl (by kernel_rfl)) rfl ?_)
      all_goals exact ⟨_, none, 0, rfl, Kd.R_nil _ _ _ _ _, Kd.C_nil _ _, Nat.le_refl _, by repeat (first | exact HB.out | apply below_alloc | apply pw_below_drewN | refine below_set ?_ (Nat.le_refl _))⟩
    · rw [if_neg c65] at h
      have c65b : decide (65536 < n) = false := decide_eq_false c65
      by_cases cl : n > ((l0.length - 7 : Nat) : Int)
      · rw [if_pos cl] at h
        simp only [Option.some.injEq, Prod.mk.injEq] at h
        obtain ⟨rfl, rfl, rfl, rfl, rfl⟩ := h
        clear hr0 hr00 hb0 hn h3 h7 e1 e2 h32
        go_enter Try.func62, Try.ntmps62
        go_wp2_with fail
        go_region
        go_wp2_with (go_at_call 61; refine (H32.out _ (by repeat (first | exact HB.out | apply below_alloc | apply below_drew1))).mono ?_; rintro e w' ⟨rfl, ⟨⟨m, rfl⟩⟩⟩)
        all_goals (refine bodyPost_ret (results_ctt rfl _ _ _ 117 #[.int .u16 _, .int .u8 _, .slice none 0 0] (0, 0) _ rfl (blk_put (blk_put (blk_put (blk_drewN (blk_alloc (blk_new _ _) _) _) 0 _ rfl) 1 _ rfl) 2 _ rfl) Try.underlying117 rfl (by kernel_rfl)) rfl ?_)
        all_goals exact ⟨_, none, 0, rfl, Kd.R_nil _ _ _ _ _, Kd.C_nil _ _, Nat.le_refl _, by repeat (first | exact HB.out | apply below_alloc | apply pw_below_drewN | refine below_set ?_ (Nat.le_refl _))⟩
      · rw [if_neg cl] at h
        have clb : decide (((l0.length - 7 : Nat) : Int) < n) = false := decide_eq_false cl
        by_cases c0n : 0 ≤ n
        case neg => rw [if_neg c0n] at h; cases h
        rw [if_pos c0n] at h
        simp only [Option.some.injEq, Prod.mk.injEq] at h
        obtain ⟨rfl, rfl, rfl, rfl, rfl⟩ := h
        obtain ⟨q, rfl⟩ := Int.eq_ofNat_of_zero_le c0n
        have hq : q ≤ l0.length - 7 := by omega
        have htk := Kd.C_take (m := q) h7 (by simpa using hq)
        have hdr := Kd.C_drop (m := q) h7 (by simpa using hq) (by rw [hl7]; omega : (l0.drop 7).length ≤ c0 - 7)
        have hlt : ((l0.drop 7).take q).length = q := by simp; omega
        have hld : ((l0.drop 7).drop q).length = l0.length - 7 - q := by simp; omega
        simp only [Int.toNat_natCast]
        obtain ⟨ys, hys⟩ : ∃ ys, ys = (l0.drop 7).take q := ⟨_, rfl⟩
        obtain ⟨zs, hzs⟩ : ∃ zs, zs = (l0.drop 7).drop q := ⟨_, rfl⟩
        rw [← hys] at htk hlt ⊢
        rw [← hzs] at hdr hld ⊢
        have hcl := fun (A : Option Addr) W (hb : Below w.heap.size w W) (hA : A = if c0 = 7 then some ad else some ⟨ad.block, ad.off + 7, none⟩) => slices_Clone_byte_byte.calls A (c0 - 7) ys ys W (Kd.C_below (Kd.C_below (by rw [hA]; exact htk) hb0) hb) (by rw [hlt]; omega) (by unfold slices_Clone_byte_byte.f; rw [if_pos (by rw [hlt]; omega)])
        rw [hlt] at hcl
        have HCL := Aside0.mk hcl
        have HDR := Aside0.mk hdr
        have hq63 : (q : Int) ≤ 65536 := by omega
        clear hr0 hr00 hb0 hn h3 h7 e1 e2 h32 htk hdr hcl hys hzs
        by_cases hc7 : c0 = 7
        · have hq0 : q = 0 := by omega
          subst hc7 hq0
          rw [if_pos rfl] at HCL
          go_enter Try.func62, Try.ntmps62
          go_wp2_with fail
          go_region
          go_wp2_with (first | (go_at_call 61; refine (H32.out _ (by repeat (first | exact HB.out | apply below_alloc | apply below_drew1))).mono ?_; rintro e w' ⟨rfl, ⟨⟨m, rfl⟩⟩⟩) | (go_at_call 60; refine (HCL.out _ _ (by repeat (first | exact HB.out | apply below_alloc | apply pw_below_drewN)) rfl).mono ?_))
          rintro e w2 ⟨v0, rfl, hR, hB2⟩
          obtain ⟨Av, cv, rfl, -, -⟩ := Kd.R_reads hR
          rw [hlt] at hR
          have hB3 : Below w.heap.size w w2 := by
            refine Below.trans ?goalB (hB2.mono ?goalS)
            case goalS => simp <;> omega
            case goalB => repeat (first | exact HB.out | apply below_alloc | apply pw_below_drewN)
          have b1 := (hB2.block (w.heap.size + 1) (by simp <;> omega)).trans (blk_drewN (by have := blk_new (w.alloc (Obj.cells #[Value.int .u16 0, .int .u8 0, .slice none 0 0] 117)) (Obj.cells #[Value.int .u16 (bits .or .u16 (IntKind.u16.wrap (rd l0 0)) (IntKind.u16.wrap (IntKind.u16.wrap (rd l0 1) * 256))), .int .u8 (rd l0 2), .slice none 0 0] 117); rwa [World.size_alloc] at this) _)
          have b0 := (hB2.block w.heap.size (by simp <;> omega)).trans (blk_drewN (blk_alloc (blk_new _ _) _) _)
          have c10 := cell_of_blk b1 0
          have c11 := cell_of_blk b1 1
          have c12 := cell_of_blk b1 2
          have f12 := frozen_of_blk b1 2
          have c00 := cell_of_blk b0 0
          have c01 := cell_of_blk b0 1
          have c02 := cell_of_blk b0 2
          have f00 := frozen_of_blk b0 0
          have f01 := frozen_of_blk b0 1
          have f02 := frozen_of_blk b0 2
          simp only [List.getElem?_toArray, List.getElem?_cons_zero, List.getElem?_cons_succ] at c10 c11 c12 c00 c01 c02
          have HR2 := Aside0.mk hR
          have HB3 := Aside0.mk hB3
          have B0 := Aside0.mk b0
          clear hR hB2 hB3 b0 b1
          go_wp2_with fail
          go_region
          go_wp2_with fail
          refine bodyPost_ret (results_ctt rfl _ _ w.heap.size 117 #[.int .u16 _, .int .u8 _, .slice Av 0 cv] (0, 0) _ rfl (blk_drew (blk_put (blk_put (blk_put ((Below.heap_setCell _ _ _ _ (by simp)).trans B0.out) 0 _ rfl) 1 _ rfl) 2 _ rfl)) Try.underlying117 rfl (by kernel_rfl)) rfl ?_
          obtain ⟨e1, e2⟩ := item_end HB3.out HR2.out (.int .u16 (bits .or .u16 (IntKind.u16.wrap (rd l0 0)) (IntKind.u16.wrap (IntKind.u16.wrap (rd l0 1) * 256)))) (.int .u8 (rd l0 2)) (.slice Av 0 cv) (.slice Av 0 cv)
          have hd := HDR.out
          simp only [Nat.sub_self, if_true] at hd
          refine ⟨.slice Av 0 cv, some ad, 0, ?_, e1, hd, by omega, e2⟩
          rw [show zs.length = 0 by omega]
          rfl
        · rw [if_neg hc7] at HCL
          go_enter Try.func62, Try.ntmps62
          go_wp2_with fail
          go_region
          go_wp2_with (first | (go_at_call 61; refine (H32.out _ (by repeat (first | exact HB.out | apply below_alloc | apply below_drew1))).mono ?_; rintro e w' ⟨rfl, ⟨⟨m, rfl⟩⟩⟩) | (go_at_call 60; refine (HCL.out _ _ (by repeat (first | exact HB.out | apply below_alloc | apply pw_below_drewN)) rfl).mono ?_))
          rintro e w2 ⟨v0, rfl, hR, hB2⟩
          obtain ⟨Av, cv, rfl, -, -⟩ := Kd.R_reads hR
          rw [hlt] at hR
          have hB3 : Below w.heap.size w w2 := by
            refine Below.trans ?goalB (hB2.mono ?goalS)
            case goalS => simp <;> omega
            case goalB => repeat (first | exact HB.out | apply below_alloc | apply pw_below_drewN)
          have b1 := (hB2.block (w.heap.size + 1) (by simp <;> omega)).trans (blk_drewN (by have := blk_new (w.alloc (Obj.cells #[Value.int .u16 0, .int .u8 0, .slice none 0 0] 117)) (Obj.cells #[Value.int .u16 (bits .or .u16 (IntKind.u16.wrap (rd l0 0)) (IntKind.u16.wrap (IntKind.u16.wrap (rd l0 1) * 256))), .int .u8 (rd l0 2), .slice none 0 0] 117); rwa [World.size_alloc] at this) _)
          have b0 := (hB2.block w.heap.size (by simp <;> omega)).trans (blk_drewN (blk_alloc (blk_new _ _) _) _)
          have c10 := cell_of_blk b1 0
          have c11 := cell_of_blk b1 1
          have c12 := cell_of_blk b1 2
          have f12 := frozen_of_blk b1 2
          have c00 := cell_of_blk b0 0
          have c01 := cell_of_blk b0 1
          have c02 := cell_of_blk b0 2
          have f00 := frozen_of_blk b0 0
          have f01 := frozen_of_blk b0 1
          have f02 := frozen_of_blk b0 2
          simp only [List.getElem?_toArray, List.getElem?_cons_zero, List.getElem?_cons_succ] at c10 c11 c12 c00 c01 c02
          have HR2 := Aside0.mk hR
          have HB3 := Aside0.mk hB3
          have B0 := Aside0.mk b0
          clear hR hB2 hB3 b0 b1
          go_wp2_with fail
          go_region
          go_wp2_with fail
          all_goals (refine bodyPost_ret (results_ctt rfl _ _ w.heap.size 117 #[.int .u16 _, .int .u8 _, .slice Av q cv] (0, 0) _ rfl (blk_drew (blk_put (blk_put (blk_put ((Below.heap_setCell _ _ _ _ (by simp)).trans B0.out) 0 _ rfl) 1 _ rfl) 2 _ rfl)) Try.underlying117 rfl (by kernel_rfl)) rfl ?_)
          all_goals (obtain ⟨e1, e2⟩ := item_end HB3.out HR2.out (.int .u16 (bits .or .u16 (IntKind.u16.wrap (rd l0 0)) (IntKind.u16.wrap (IntKind.u16.wrap (rd l0 1) * 256)))) (.int .u8 (rd l0 2)) (.slice Av q cv) (.slice Av q cv))
          · have hd := HDR.out
            rw [if_pos (by omega), if_neg hc7] at hd
            refine ⟨.slice Av q cv, some ⟨ad.block, ad.off + 7, none⟩, 0, ?_, e1, hd, by omega, e2⟩
            rw [hld]
            rfl
          · have hd := HDR.out
            rw [if_neg (by omega), if_neg hc7, map_add_u8] at hd
            refine ⟨.slice Av q cv, some ⟨ad.block, ad.off + 7 + q, none⟩, c0 - 7 - q, ?_, e1, hd, by omega, e2⟩
            rw [hld]
            rfl
def decodeGo : Nat → List Int → List S117 → Option (List S117 × Int)
  | 0, data, acc => some (if 0 < data.length then ([], 8) else (acc, 0))
  | k + 1, data, acc => (item_f data).bind fun t => if t.2.2.2.2 ≠ 0 then some ([], t.2.2.2.2) else decodeGo k t.2.2.2.1 (acc ++ [⟨t.1, t.2.1, t.2.2.1⟩])
def dcf_Decode.f (l0 : List Int) : Option (List (S117) × Int) := if l0.length < 4 then some ([], 3) else (dcf_read32.f l0).bind fun n => if n > 1024 then some ([], 2) else if 0 ≤ n then decodeGo n.toNat (l0.drop 4) [] else none
set_option maxHeartbeats 8000000 in
set_option maxRecDepth 100000 in
theorem dcf_Decode.calls (A0 : Option Addr) (c0 : Nat) (l0 : List Int) (r1 : List (S117)) (r2 : Int) (w : World) (hr0 : Kd.C (Kd.int .u8) w A0 l0.length l0) (hc0 : l0.length ≤ c0) (h : dcf_Decode.f l0 = some (r1, r2)) :
    Calls Try.prog 20 #[.slice A0 l0.length c0] w fun e w' => ∃ v0_ : Value, e = .returned (.tuple #[v0_, .int .i64 r2]) ∧ Kd.S k117 117 w' w.heap.size (fun _ => True) v0_ r1 ∧ Below w.heap.size w w' := by
  have hmax : l0.length ≤ 9223372036854775807 := hr0.2.1
  have HB := Aside0.mk (Below.refl w.heap.size w)
  unfold dcf_Decode.f at h
  by_cases c4 : l0.length < 4
  · rw [if_pos c4] at h
    simp only [Option.some.injEq, Prod.mk.injEq] at h
    obtain ⟨rfl, rfl⟩ := h
    clear hr0
    go_enter Try.func20, Try.ntmps20
    go_wp2_with fail
    go_ret2
    exact ⟨_, rfl, Kd.S_nil _ _ _ _ _, HB.out⟩
  rw [if_neg c4] at h
  obtain ⟨n, hn, h⟩ := Option.bind_eq_some_iff.mp h
  obtain ⟨ad, hA, hx0⟩ := Kd.at_int hr0 0 (by omega) (by omega)
  cases hA
  clear hx0
  have h4 := Kd.C_drop (m := 4) hr0 (by omega) hc0
  have hr32 := fun W hW => dcf_read32.calls (some ad) c0 l0 n W (Kd.C_below hr0 hW) hc0 hn
  have HR32 := Aside0.mk hr32
  have HN := Aside0.mk hn
  by_cases c1024 : n > 1024
  · rw [if_pos c1024] at h
    simp only [Option.some.injEq, Prod.mk.injEq] at h
    obtain ⟨rfl, rfl⟩ := h
    clear hr0 h4 hn hr32
    go_enter Try.func20, Try.ntmps20
    go_wp2_with (go_at_call 61; refine (HR32.out _ HB.out).mono ?_; rintro e w' ⟨rfl, ⟨⟨m, rfl⟩⟩⟩)
    go_ret2
    exact ⟨_, rfl, Kd.S_nil _ _ _ _ _, pw_below_drewN HB.out _⟩
  rw [if_neg c1024] at h
  by_cases cn0 : 0 ≤ n
  case neg => rw [if_neg cn0] at h; cases h
  rw [if_pos cn0] at h
  obtain ⟨N, rfl⟩ := Int.eq_ofNat_of_zero_le cn0
  have hN : N ≤ 1024 := by omega
  have hc1 : decide (1024 < (N : Int)) = false := decide_eq_false c1024
  rw [Int.toNat_natCast] at h
  obtain ⟨A4, hA4⟩ : ∃ A4, A4 = (if c0 = 4 then some ad else some (⟨ad.block, ad.off + 4, none⟩ : Addr)) := ⟨_, rfl⟩
  replace h4 : Kd.C (Kd.int .u8) w A4 (l0.drop 4).length (l0.drop 4) := by rw [hA4]; exact h4
  have hl4 : (l0.drop 4).length = l0.length - 4 := by simp
  have H := Aside0.mk h
  have H4 := Aside0.mk h4
  have HC0 := Aside0.mk hc0
  clear hr0 h4 hn hr32 h
  go_enter Try.func20, Try.ntmps20
  go_wp2_with (go_at_call 61; refine (HR32.out _ HB.out).mono ?_; rintro e w' ⟨rfl, ⟨⟨m, rfl⟩⟩⟩)
  all_goals (
    go_loopg [0, 5, 19] N (fun gk v0 v5 v19 wr => ∃ (data : List Int) (acc : List S117) (i : Nat) (A : Option Addr) (c : Nat), v0 = .slice A data.length c ∧ v19 = .int .u64 (i : Int) ∧ Aside0 (i + gk = N) ∧ Aside0 (decodeGo gk data acc = some (r1, r2)) ∧ Aside0 (Kd.C (Kd.int .u8) w A data.length data) ∧ Aside0 (data.length ≤ c) ∧ Aside0 (acc.length ≤ i) ∧ Aside0 (Kd.S k117 117 wr w.heap.size (fun _ => True) v5 acc) ∧ Aside0 (Below w.heap.size w wr))
    case atStart => exact ⟨l0.drop 4, [], 0, A4, c0 - 4, by rw [hl4]; simp [hA4, *], rfl, ⟨by omega⟩, H, H4, ⟨by rw [hl4]; have := HC0.out; omega⟩, ⟨by simp⟩, ⟨Kd.S_nil _ _ _ _ _⟩, ⟨pw_below_drewN HB.out _⟩⟩
    case round =>
      obtain ⟨data, acc, i, A, c, rfl, rfl, HI, HG, HC, HCC, HL, HS, HBW⟩ := hrel
      have hi := HI.out
      by_cases hlt : i < N
      · obtain ⟨k, rfl⟩ : ∃ k, gk = k + 1 := ⟨gk - 1, by omega⟩
        have hg := HG.out
        rw [decodeGo] at hg
        obtain ⟨⟨t1, t2, t3, t4, t5⟩, ht, hg⟩ := Option.bind_eq_some_iff.mp hg
        have hit := item_reads A c data t1 t2 t3 t4 t5 w wr HC.out HBW.out HCC.out ht
        have HIT := Aside0.mk hit
        have hiN : decide ((i : Int) < (N : Int)) = true := decide_eq_true (by omega)
        dsimp only at hg
        clear hit ht HG HC HCC
        by_cases h5 : t5 ≠ 0
        · rw [if_pos h5] at hg
          simp only [Option.some.injEq, Prod.mk.injEq] at hg
          obtain ⟨rfl, rfl⟩ := hg
          go_wp2_with (go_at_call 62; refine HIT.out.mono ?_; rintro e w1 ⟨v2, A1, c1, rfl, hR, hC1, hc1, hb1⟩; obtain ⟨Av, cv, rfl⟩ := Kd.R_slice hR; have HB1 := Aside0.mk hb1; clear hR hC1 hb1)
          go_ret2
          exact ⟨_, rfl, Kd.S_nil _ _ _ _ _, below_alloc (HBW.out.trans (HB1.out.mono HBW.out.size)) _⟩
        · rw [if_neg h5] at hg
          have h5' : t5 = 0 := by omega
          subst h5'
          have HG := Aside0.mk hg
          clear hg h5
          go_wp2_with (first | (go_at_call 62; refine HIT.out.mono ?_; rintro e w1 ⟨v2, A1, c1, rfl, hR, hC1, hc1, hb1⟩; obtain ⟨Av, cv, rfl⟩ := Kd.R_slice hR; have HB1 := Aside0.mk hb1; have HR1 := Aside0.mk hR; have HC1 := Aside0.mk hC1; have HCC1 := Aside0.mk hc1; clear hR hC1 hb1 hc1) | ((with_reducible refine gate_builtin (b := .append) (xs := #[.tmp 30, .tmp 32]) rfl ?_); apply stopHere))
          unfold id
          refine Kd.S_append k117 (w0 := w) w.heap.size rfl (.tmp 30) (.tmp 32) 22 117 (.agg #[(.int .u16 0), (.int .u8 0), (.slice none 0 0)]) 32 rfl Try.underlying22 info117 rfl (by decide) (by omega) _ acc (⟨t1, t2, t3⟩ : S117) [.int .u16 t1, .int .u8 t2, .slice Av t3.length cv] (fun _ => True) (fun k_ => some k_ = (Value.slice Av t3.length cv : Value).ownBlock) rfl (by rw [World.size_alloc]; rfl) (k117_mkM _ _ _ (⟨t1, t2, t3⟩ : S117) (Kd.R_tight rfl (Kd.R_lower (Kd.R_alloc HR1.out _) HBW.out.size))) (fun k_ hk => ⟨trivial, fun e => by have h1 := Kd.R_base HR1.out k_ hk.symm; have h2 := Kd.S_lt HS.out k_ e.symm; omega⟩) (fun _ _ => trivial) (Kd.S_alloc (Kd.S_mono (Kd.S_old HS.out HB1.out) (fun k_ hk => ⟨trivial, fun e => by have h1 := Kd.R_base HR1.out k_ e.symm; have := hk.2; omega⟩)) _) (below_alloc (HBW.out.trans (HB1.out.mono HBW.out.size)) _) (below_alloc (HBW.out.trans (HB1.out.mono HBW.out.size)) _).size (by have := HL.out; omega) ?_
          intro v1 w3 hS3 hB3 _ _
          have HS3 := Aside0.mk hS3
          have HB3 := Aside0.mk hB3
          clear hS3 hB3
          go_wp2_with fail
          go_roundg k
          case measure => omega
          case rel => exact ⟨t4, acc ++ [⟨t1, t2, t3⟩], i + 1, A1, c1, rfl, by go_num, ⟨by omega⟩, HG, HC1, HCC1, ⟨by have := HL.out; simp; omega⟩, HS3, HB3⟩
      · have hgk : gk = 0 := by omega
        subst hgk
        have hiN : decide ((i : Int) < (N : Int)) = false := decide_eq_false (by omega)
        have hg := HG.out
        rw [decodeGo] at hg
        by_cases hpos : 0 < data.length
        · rw [if_pos hpos] at hg
          simp only [Option.some.injEq, Prod.mk.injEq] at hg
          obtain ⟨rfl, rfl⟩ := hg
          have hp : decide (0 < (data.length : Int)) = true := decide_eq_true (by omega)
          go_wp2_with fail
          go_ret2
          exact ⟨_, rfl, Kd.S_nil _ _ _ _ _, HBW.out⟩
        · rw [if_neg hpos] at hg
          simp only [Option.some.injEq, Prod.mk.injEq] at hg
          obtain ⟨rfl, rfl⟩ := hg
          have hp : decide (0 < (data.length : Int)) = false := decide_eq_false (by omega)
          go_wp2_with fail
          go_ret2
          exact ⟨_, rfl, HS.out, HBW.out⟩)
  

/-! ### tramwaylaw21_lives: function 19 -/
def tramwaylaw21_lives.f (k : Nat)  : Option (Bool) := (dcf_Encode.f k (([(⟨4119, 0, (([232, 3] : List Int))⟩ : S117)] : List (S117)))).bind fun bt248 => ((dcf_Decode.f bt248.1).bind fun bt252 => (if bt248.2 = 0 then (if bt252.2 = 0 then (if (strOfNums bt248.1).toList = ([1, 0, 0, 0, 23, 16, 0, 2, 0, 0, 0, 232, 3] : List UInt8) then (if (bt252.1.length : Int) = 1 then (if 0 < (bt252.1.length : Int) then (some (((rd_T117 bt252.1 0).f0) == 4119)) else (none)) else (some false)) else (some false)) else (some false)) else (some false)))
theorem tramwaylaw21_lives.mono : ∀ k, LeO (tramwaylaw21_lives.f k ) (tramwaylaw21_lives.f (k + 1) ) := by
  intro  k
  unfold tramwaylaw21_lives.f
  repeat' first
      | (with_reducible exact dcf_Encode.mono _ _)
      | (with_reducible exact LeO.refl _)
      | (with_reducible exact LeO.none _)
      | (with_reducible refine LeO.ite ?_ ?_)
      | (with_reducible refine LeO.bind ?_ (fun _ => ?_))
      | exact dcf_Encode.mono _ _
      | exact LeO.none _
      | refine LeO.ite ?_ ?_
      | refine LeO.bind ?_ (fun _ => ?_)
set_option maxHeartbeats 8000000 in
set_option maxRecDepth 100000 in
theorem tramwaylaw21_lives.calls (k : Nat)  (r : Bool) (w : World) (h : tramwaylaw21_lives.f k  = some r) :
    Calls Try.prog 19 #[] w fun e w' => e = .returned (.bool r) ∧ Below w.heap.size w w' := by
  have hu117 := Try.underlying117
  have HB := Aside0.mk (Below.refl w.heap.size w)
  have H : ((dcf_Encode.f k (([(⟨4119, 0, (([232, 3] : List Int))⟩ : S117)] : List (S117)))).bind fun bt248 => ((dcf_Decode.f bt248.1).bind fun bt252 => (if bt248.2 = 0 then (if bt252.2 = 0 then (if (strOfNums bt248.1).toList = ([1, 0, 0, 0, 23, 16, 0, 2, 0, 0, 0, 232, 3] : List UInt8) then (if (bt252.1.length : Int) = 1 then (if 0 < (bt252.1.length : Int) then (some (((rd_T117 bt252.1 0).f0) == 4119)) else (none)) else (some false)) else (some false)) else (some false)) else (some false)))) = some r := h
  clear h
  obtain ⟨y242, hy242⟩ : ∃ y_ : List Int, y_ = (([232, 3] : List Int)) := ⟨_, rfl⟩
  replace H : ((dcf_Encode.f k (([(⟨4119, 0, y242⟩ : S117)] : List (S117)))).bind fun bt248 => ((dcf_Decode.f bt248.1).bind fun bt252 => (if bt248.2 = 0 then (if bt252.2 = 0 then (if (strOfNums bt248.1).toList = ([1, 0, 0, 0, 23, 16, 0, 2, 0, 0, 0, 232, 3] : List UInt8) then (if (bt252.1.length : Int) = 1 then (if 0 < (bt252.1.length : Int) then (some (((rd_T117 bt252.1 0).f0) == 4119)) else (none)) else (some false)) else (some false)) else (some false)) else (some false)))) = some r := by first | (rw [hy242]; with_reducible exact H) | (have H2_ := (Option.bind_some _ _).symm.trans H; rw [hy242]; with_reducible exact H2_) | (have H2_ := (Option.bind_some _ _).symm.trans H; with_reducible exact H2_) | with_reducible exact H | (rw [hy242]; exact H) | exact H
  have Ny242 := Aside0.mk hy242
  clear hy242
  obtain ⟨y245, hy245⟩ : ∃ y_ : List (S117), y_ = (([(⟨4119, 0, y242⟩ : S117)] : List (S117))) := ⟨_, rfl⟩
  replace H : ((dcf_Encode.f k y245).bind fun bt248 => ((dcf_Decode.f bt248.1).bind fun bt252 => (if bt248.2 = 0 then (if bt252.2 = 0 then (if (strOfNums bt248.1).toList = ([1, 0, 0, 0, 23, 16, 0, 2, 0, 0, 0, 232, 3] : List UInt8) then (if (bt252.1.length : Int) = 1 then (if 0 < (bt252.1.length : Int) then (some (((rd_T117 bt252.1 0).f0) == 4119)) else (none)) else (some false)) else (some false)) else (some false)) else (some false)))) = some r := by first | (rw [hy245]; with_reducible exact H) | (have H2_ := (Option.bind_some _ _).symm.trans H; rw [hy245]; with_reducible exact H2_) | (have H2_ := (Option.bind_some _ _).symm.trans H; with_reducible exact H2_) | with_reducible exact H | (rw [hy245]; exact H) | exact H
  have Ny245 := Aside0.mk hy245
  clear hy245
  replace H := Option.bind_eq_some_iff.mp H
  obtain ⟨⟨t248, t249⟩, A10, H⟩ := H
  replace H : ((dcf_Decode.f t248).bind fun bt252 => (if t249 = 0 then (if bt252.2 = 0 then (if (strOfNums t248).toList = ([1, 0, 0, 0, 23, 16, 0, 2, 0, 0, 0, 232, 3] : List UInt8) then (if (bt252.1.length : Int) = 1 then (if 0 < (bt252.1.length : Int) then (some (((rd_T117 bt252.1 0).f0) == 4119)) else (none)) else (some false)) else (some false)) else (some false)) else (some false))) = some r := H
  have A1 := Aside0.mk A10
  clear A10
  replace H := Option.bind_eq_some_iff.mp H
  obtain ⟨⟨t252, t253⟩, A20, H⟩ := H
  replace H : (if t249 = 0 then (if t253 = 0 then (if (strOfNums t248).toList = ([1, 0, 0, 0, 23, 16, 0, 2, 0, 0, 0, 232, 3] : List UInt8) then (if (t252.length : Int) = 1 then (if 0 < (t252.length : Int) then (some (((rd_T117 t252 0).f0) == 4119)) else (none)) else (some false)) else (some false)) else (some false)) else (some false)) = some r := H
  have A2 := Aside0.mk A20
  clear A20
  by_cases c3 : t249 = 0
  · rw [if_pos c3] at H
    have c3b0 : (t249 == 0) = true := beq_iff_eq.mpr c3
    have c3b1 : (t249 != 0) = false := bne_eq_false_iff_eq.mpr c3
    clear c3
    by_cases c4 : t253 = 0
    · rw [if_pos c4] at H
      have c4b0 : (t253 == 0) = true := beq_iff_eq.mpr c4
      have c4b1 : (t253 != 0) = false := bne_eq_false_iff_eq.mpr c4
      clear c4
      by_cases c5 : (strOfNums t248).toList = ([1, 0, 0, 0, 23, 16, 0, 2, 0, 0, 0, 232, 3] : List UInt8)
      · rw [if_pos c5] at H
        have c5b0 : ((strOfNums t248).toList == ([1, 0, 0, 0, 23, 16, 0, 2, 0, 0, 0, 232, 3] : List UInt8)) = true := beq_iff_eq.mpr c5
        have c5b1 : ((strOfNums t248).toList != ([1, 0, 0, 0, 23, 16, 0, 2, 0, 0, 0, 232, 3] : List UInt8)) = false := bne_eq_false_iff_eq.mpr c5
        clear c5
        by_cases c6 : (t252.length : Int) = 1
        · rw [if_pos c6] at H
          have c6b0 : ((t252.length : Int) == 1) = true := beq_iff_eq.mpr c6
          have c6b1 : ((t252.length : Int) != 1) = false := bne_eq_false_iff_eq.mpr c6
          clear c6
          by_cases c7 : 0 < (t252.length : Int)
          · rw [if_pos c7] at H
            have c7b0 : decide (0 < (t252.length : Int)) = true := decide_eq_true c7
            have c7b1 : decide (0 < t252.length) = true := decide_eq_true (by omega)
            clear c7
            obtain rfl := Option.some.inj H
            go_enter Try.func19, Try.ntmps19
            go_wp2_with (first | ((with_reducible refine gate_dst (N := 6) rfl ?_); (try (refine gate_guard (by rfl) ?_; dsimp only)); refine Kd.R_lit (Kd.int .u8) _ 5 ?hg (N := 6) ?hd (xs := ([232, 3] : List Int)) (inner := [.int .u8 232, .int .u8 3]) (ok := fun _ => True) (okp := fun _ => True) ?hr ?hp (fun _ hk => hk) trivial (Below.refl _ _) (Nat.le_refl _) (by simp) ?_; (case hd => rfl); (case hg => rfl); (case hr => first | (go_simp; done) | (go_simp; rfl)); (case hp => exact (Reps.one (show Kd.M (Kd.int .u8) _ _ _ 232 [.int .u8 232] from rfl) (Reps.one (show Kd.M (Kd.int .u8) _ _ _ 3 [.int .u8 3] from rfl) (Reps.none _ _)))); intro v243 w8 ho9 hb hg_ hnew_; clear hg_ hnew_; (first | rw [← Ny242.out] at ho9 | (simp only [Int.reduceToNat] at ho9; rw [← Ny242.out] at ho9)); have n0_ := Aside0.mk (Kd.R_lower ho9 (below_size (by repeat (first | (with_reducible first | exact HB.out | apply below_alloc | apply pw_below_drewN | apply below_drew1) | exact HB.out)))); have n1_ := Aside0.mk (below_step (by repeat (first | (with_reducible first | exact HB.out | apply below_alloc | apply pw_below_drewN | apply below_drew1) | exact HB.out)) hb); clear HB; have HO244 := n0_; have HB := n1_; clear n0_ n1_; clear hb ho9; obtain ⟨Ao10, co10, eo10⟩ := Kd.R_slice HO244.out; subst eo10) | ((with_reducible refine gate_dst (N := 8) rfl ?_); (try (refine gate_guard (by rfl) ?_; dsimp only)); refine Kd.N_lit k117 _ 117 ?hg (N' := 8) ?hd (xs := ([(⟨4119, 0, y242⟩ : S117)] : List (S117))) (inner := [.int .u16 4119, .int .u8 0, .slice Ao10 y242.length co10]) (ok := (fun _ => True)) (okp := (fun _ => True)) ?hr ?hp (fun _ hk => hk) ((show ∀ k_, w8.heap.size ≤ k_ → (fun _ => True) k_ from fun k_ hk => trivial) _ (Nat.le_refl _)) (Below.refl _ _) (Nat.le_refl _) (by simp) ?_; (case hd => rfl); (case hg => rfl); (case hr => first | (go_simp; done) | (go_simp; rfl)); (case hp => exact (Reps.c3 (show Kd.FK k117 _ _ (⟨4119, 0, y242⟩ : S117) [.int .u16 4119, .int .u8 0, .slice Ao10 y242.length co10] from (k117_mkF _ _ (⟨4119, 0, y242⟩ : S117) (Kd.R_reads' (Kd.R_mono (ok' := (fun _ => True)) (HO244.out) (fun k_ hk => trivial))).2.1 (Kd.R_F (Kd.R_mono (ok' := (fun _ => True)) (HO244.out) (fun k_ hk => trivial))))) (Reps.none _ _))); intro v246 w11 ho12 hb hg_ hnew_; clear hg_ hnew_; (first | rw [← Ny245.out] at ho12 | (simp only [Int.reduceToNat] at ho12; rw [← Ny245.out] at ho12)); have n0_ := Aside0.mk (Kd.N_lower ho12 (below_size (by repeat (first | (with_reducible first | exact HB.out | apply below_alloc | apply pw_below_drewN | apply below_drew1) | exact HB.out)))); have n1_ := Aside0.mk (below_step (by repeat (first | (with_reducible first | exact HB.out | apply below_alloc | apply pw_below_drewN | apply below_drew1) | exact HB.out)) hb); clear HB; clear HO244; have HO247 := n0_; have HB := n1_; clear n0_ n1_; clear hb ho12; obtain ⟨Ao13, co13, eo13⟩ := Kd.N_slice HO247.out; subst eo13) | ((with_reducible refine gate_callee (f := 13) rfl ?_); refine goesL_ (some 9) rfl rfl Try.func13 (by kernel_rfl) rfl #[.slice Ao13 y245.length co13] rfl (by (try simp only [List.map_toArray, List.map_cons, List.map_nil]); first | done | rfl | (simp only [List.length_drop, List.length_take]; rfl)) ?_; (with_reducible refine (dcf_Encode.calls k _ _ y245 t248 t249 _ ?side1 ?side2 A1.out).mono ?_); (case side1 => repeat (first | exact (Kd.N_reads' HO247.out).2.2 | (with_reducible refine Kd.C_alloc ?_ _) | (with_reducible refine Kd.C_drewN ?_ _) | (with_reducible refine Kd.C_drew ?_))); (case side2 => exact (Kd.N_reads' HO247.out).2.1); rintro e w14 ⟨v250, rfl, ho0, hb⟩; refine ⟨_, rfl, ?_⟩; have n0_ := Aside0.mk (Kd.N_elder' (by (with_reducible repeat (first | apply Kd.N_alloc | apply Kd.N_drewN | apply Kd.N_drew)); exact HO247.out) (Kd.R_base ho0) hb); have n1_ := Aside0.mk (Kd.R_lower ho0 (below_size (by repeat (first | (with_reducible first | exact HB.out | apply below_alloc | apply pw_below_drewN | apply below_drew1) | exact HB.out)))); have n2_ := Aside0.mk (below_step (by repeat (first | (with_reducible first | exact HB.out | apply below_alloc | apply pw_below_drewN | apply below_drew1) | exact HB.out)) hb); clear HO247; clear HB; have HO247 := n0_; have HO251 := n1_; have HB := n2_; clear n0_ n1_ n2_; (try clear hb); (try clear hb2); (try clear hk); (try clear hi); (try clear ho0); obtain ⟨Ao15, co15, eo15⟩ := Kd.R_slice HO251.out; subst eo15) | ((with_reducible refine gate_callee (f := 20) rfl ?_); refine goesL_ (some 14) rfl rfl Try.func20 (by kernel_rfl) rfl #[.slice Ao15 t248.length co15] rfl (by (try simp only [List.map_toArray, List.map_cons, List.map_nil]); first | done | rfl | (simp only [List.length_drop, List.length_take]; rfl)) ?_; (with_reducible refine (dcf_Decode.calls _ _ t248 t252 t253 _ ?side1 ?side2 A2.out).mono ?_); (case side1 => repeat (first | exact (Kd.R_reads' HO251.out).2.2 | (with_reducible refine Kd.C_alloc ?_ _) | (with_reducible refine Kd.C_drewN ?_ _) | (with_reducible refine Kd.C_drew ?_))); (case side2 => exact (Kd.R_reads' HO251.out).2.1); rintro e w16 ⟨v254, rfl, ho0, hb⟩; refine ⟨_, rfl, ?_⟩; have n0_ := Aside0.mk (Kd.N_elder' (by (with_reducible repeat (first | apply Kd.N_alloc | apply Kd.N_drewN | apply Kd.N_drew)); exact HO247.out) (by first | exact Kd.N_base ho0 | exact Kd.S_base ho0) hb); have n1_ := Aside0.mk (Kd.R_below (by (with_reducible repeat (first | apply Kd.R_alloc | apply Kd.R_drewN | apply Kd.R_drew)); exact HO251.out) hb); have n2_ := Aside0.mk (Kd.N_lower (Kd.N_mono (ok' := fun k_ => some k_ ≠ (.slice Ao13 y245.length co13 : Value).ownBlock ∧ some k_ ≠ (.slice Ao15 t248.length co15 : Value).ownBlock) (Kd.S_N (Kd.S_bound ho0)) (fun k_ hk_ => ⟨(Kd.fresh' (Kd.N_lt (by (with_reducible repeat (first | apply Kd.N_alloc | apply Kd.N_drewN | apply Kd.N_drew)); exact HO247.out)) k_ hk_.2.1), (Kd.fresh' (Kd.R_lt (by (with_reducible repeat (first | apply Kd.R_alloc | apply Kd.R_drewN | apply Kd.R_drew)); exact HO251.out)) k_ hk_.2.1)⟩)) (below_size (by repeat (first | (with_reducible first | exact HB.out | apply below_alloc | apply pw_below_drewN | apply below_drew1) | exact HB.out)))); have n3_ := Aside0.mk (below_step (by repeat (first | (with_reducible first | exact HB.out | apply below_alloc | apply pw_below_drewN | apply below_drew1) | exact HB.out)) hb); clear HO247; clear HO251; clear HB; have HO247 := n0_; have HO251 := n1_; have HO255 := n2_; have HB := n3_; clear n0_ n1_ n2_ n3_; (try clear hb); (try clear hb2); (try clear hk); (try clear hi); (try clear ho0); have hcv17 := own_string (P := Try.prog) Try.underlying23 Try.underlying5 Try.underlying9 (Kd.own_of_R HO251.out); obtain ⟨Ao18, co18, eo18⟩ := Kd.N_slice HO255.out; subst eo18; have p256 : 0 ≤ (0 : Int) := (by omega); have q256 : 0 < (t252.length : Int) := of_decide_eq_true (by first | (with_reducible assumption) | assumption); obtain ⟨ad256, A256_2, c256_2, e256, hx256_0, hx256_1, hx256_2, hl256_2, hi256_2⟩ := at_T117 (Kd.N_reads' HO255.out).2.2 0 p256 q256; cases e256; obtain ⟨ce256, hce256, hMe256, hcc256⟩ := Kd.N_get HO255.out z117 0 p256 (by first | exact q256 | exact of_decide_eq_true (by first | (with_reducible assumption) | assumption) | (have e_ := (Kd.N_reads' HO255.out).1; omega)); obtain ⟨ua256_2, uc256_2, rfl, ul256_2, ge256_2⟩ := k117_openF hMe256; have hv256_2 := hcc256 2 _ rfl; rw [add_field _ _ 2 (by omega)] at hv256_2; replace hv256_2 := Option.some.inj (hv256_2.symm.trans hx256_2); injection hv256_2 with hva_ hvn_ hvc_; rw [hva_] at ge256_2; rw [hvc_] at ul256_2; have HL256_2 := Aside0.mk (show Kd.V (Kd.int .u8) 5 _ w.heap.size _ _ ((rd_T117 t252 0).f2) from Kd.V_mk ul256_2 ge256_2); clear hva_ hvn_ hvc_ ge256_2 ul256_2; clear hcc256 hce256; have qi256 : (0 < t252.length) = True := eq_true (by omega); (try rw [show ((0 : Int)).toNat = 0 from rfl] at hx256_0); (try rw [show 0 * 3 = 0 from rfl] at hx256_0); (try rw [Addr.add_zero'] at hx256_0); (try rw [show ((0 : Int)).toNat = 0 from rfl] at hx256_1); (try rw [show 0 * 3 = 0 from rfl] at hx256_1); (try rw [Addr.add_zero'] at hx256_1); (try rw [show ((0 : Int)).toNat = 0 from rfl] at hx256_2); (try rw [show 0 * 3 = 0 from rfl] at hx256_2); (try rw [Addr.add_zero'] at hx256_2); have HR256_2 := Aside0.mk hi256_2; have HC256_2 := Aside0.mk hl256_2; clear hi256_2 hl256_2; replace p256 := eq_true p256; replace q256 := eq_true q256))
            go_ret
            exact ⟨by first | rfl | (simp [errW_none, errW_some] <;> rfl) | (simp [*, errW_none, errW_some] <;> rfl), by repeat (first | (with_reducible first | exact HB.out | apply below_alloc | apply pw_below_drewN | apply below_drew1) | exact HB.out)⟩
          · rw [if_neg c7] at H
            exact absurd H (by simp)
        · rw [if_neg c6] at H
          have c6b0 : ((t252.length : Int) == 1) = false := beq_eq_false_iff_ne.mpr c6
          have c6b1 : ((t252.length : Int) != 1) = true := bne_iff_ne.mpr c6
          obtain rfl := Option.some.inj H
          go_enter Try.func19, Try.ntmps19
          go_wp2_with (first | ((with_reducible refine gate_dst (N := 6) rfl ?_); (try (refine gate_guard (by rfl) ?_; dsimp only)); refine Kd.R_lit (Kd.int .u8) _ 5 ?hg (N := 6) ?hd (xs := ([232, 3] : List Int)) (inner := [.int .u8 232, .int .u8 3]) (ok := fun _ => True) (okp := fun _ => True) ?hr ?hp (fun _ hk => hk) trivial (Below.refl _ _) (Nat.le_refl _) (by simp) ?_; (case hd => rfl); (case hg => rfl); (case hr => first | (go_simp; done) | (go_simp; rfl)); (case hp => exact (Reps.one (show Kd.M (Kd.int .u8) _ _ _ 232 [.int .u8 232] from rfl) (Reps.one (show Kd.M (Kd.int .u8) _ _ _ 3 [.int .u8 3] from rfl) (Reps.none _ _)))); intro v243 w19 ho20 hb hg_ hnew_; clear hg_ hnew_; (first | rw [← Ny242.out] at ho20 | (simp only [Int.reduceToNat] at ho20; rw [← Ny242.out] at ho20)); have n0_ := Aside0.mk (Kd.R_lower ho20 (below_size (by repeat (first | (with_reducible first | exact HB.out | apply below_alloc | apply pw_below_drewN | apply below_drew1) | exact HB.out)))); have n1_ := Aside0.mk (below_step (by repeat (first | (with_reducible first | exact HB.out | apply below_alloc | apply pw_below_drewN | apply below_drew1) | exact HB.out)) hb); clear HB; have HO244 := n0_; have HB := n1_; clear n0_ n1_; clear hb ho20; obtain ⟨Ao21, co21, eo21⟩ := Kd.R_slice HO244.out; subst eo21) | ((with_reducible refine gate_dst (N := 8) rfl ?_); (try (refine gate_guard (by rfl) ?_; dsimp only)); refine Kd.N_lit k117 _ 117 ?hg (N' := 8) ?hd (xs := ([(⟨4119, 0, y242⟩ : S117)] : List (S117))) (inner := [.int .u16 4119, .int .u8 0, .slice Ao21 y242.length co21]) (ok := (fun _ => True)) (okp := (fun _ => True)) ?hr ?hp (fun _ hk => hk) ((show ∀ k_, w19.heap.size ≤ k_ → (fun _ => True) k_ from fun k_ hk => trivial) _ (Nat.le_refl _)) (Below.refl _ _) (Nat.le_refl _) (by simp) ?_; (case hd => rfl); (case hg => rfl); (case hr => first | (go_simp; done) | (go_simp; rfl)); (case hp => exact (Reps.c3 (show Kd.FK k117 _ _ (⟨4119, 0, y242⟩ : S117) [.int .u16 4119, .int .u8 0, .slice Ao21 y242.length co21] from (k117_mkF _ _ (⟨4119, 0, y242⟩ : S117) (Kd.R_reads' (Kd.R_mono (ok' := (fun _ => True)) (HO244.out) (fun k_ hk => trivial))).2.1 (Kd.R_F (Kd.R_mono (ok' := (fun _ => True)) (HO244.out) (fun k_ hk => trivial))))) (Reps.none _ _))); intro v246 w22 ho23 hb hg_ hnew_; clear hg_ hnew_; (first | rw [← Ny245.out] at ho23 | (simp only [Int.reduceToNat] at ho23; rw [← Ny245.out] at ho23)); have n0_ := Aside0.mk (Kd.N_lower ho23 (below_size (by repeat (first | (with_reducible first | exact HB.out | apply below_alloc | apply pw_below_drewN | apply below_drew1) | exact HB.out)))); have n1_ := Aside0.mk (below_step (by repeat (first | (with_reducible first | exact HB.out | apply below_alloc | apply pw_below_drewN | apply below_drew1) | exact HB.out)) hb); clear HB; clear HO244; have HO247 := n0_; have HB := n1_; clear n0_ n1_; clear hb ho23; obtain ⟨Ao24, co24, eo24⟩ := Kd.N_slice HO247.out; subst eo24) | ((with_reducible refine gate_callee (f := 13) rfl ?_); refine goesL_ (some 9) rfl rfl Try.func13 (by kernel_rfl) rfl #[.slice Ao24 y245.length co24] rfl (by (try simp only [List.map_toArray, List.map_cons, List.map_nil]); first | done | rfl | (simp only [List.length_drop, List.length_take]; rfl)) ?_; (with_reducible refine (dcf_Encode.calls k _ _ y245 t248 t249 _ ?side1 ?side2 A1.out).mono ?_); (case side1 => repeat (first | exact (Kd.N_reads' HO247.out).2.2 | (with_reducible refine Kd.C_alloc ?_ _) | (with_reducible refine Kd.C_drewN ?_ _) | (with_reducible refine Kd.C_drew ?_))); (case side2 => exact (Kd.N_reads' HO247.out).2.1); rintro e w25 ⟨v250, rfl, ho0, hb⟩; refine ⟨_, rfl, ?_⟩; have n0_ := Aside0.mk (Kd.N_elder' (by (with_reducible repeat (first | apply Kd.N_alloc | apply Kd.N_drewN | apply Kd.N_drew)); exact HO247.out) (Kd.R_base ho0) hb); have n1_ := Aside0.mk (Kd.R_lower ho0 (below_size (by repeat (first | (with_reducible first | exact HB.out | apply below_alloc | apply pw_below_drewN | apply below_drew1) | exact HB.out)))); have n2_ := Aside0.mk (below_step (by repeat (first | (with_reducible first | exact HB.out | apply below_alloc | apply pw_below_drewN | apply below_drew1) | exact HB.out)) hb); clear HO247; clear HB; have HO247 := n0_; have HO251 := n1_; have HB := n2_; clear n0_ n1_ n2_; (try clear hb); (try clear hb2); (try clear hk); (try clear hi); (try clear ho0); obtain ⟨Ao26, co26, eo26⟩ := Kd.R_slice HO251.out; subst eo26) | ((with_reducible refine gate_callee (f := 20) rfl ?_); refine goesL_ (some 14) rfl rfl Try.func20 (by kernel_rfl) rfl #[.slice Ao26 t248.length co26] rfl (by (try simp only [List.map_toArray, List.map_cons, List.map_nil]); first | done | rfl | (simp only [List.length_drop, List.length_take]; rfl)) ?_; (with_reducible refine (dcf_Decode.calls _ _ t248 t252 t253 _ ?side1 ?side2 A2.out).mono ?_); (case side1 => repeat (first | exact (Kd.R_reads' HO251.out).2.2 | (with_reducible refine Kd.C_alloc ?_ _) | (with_reducible refine Kd.C_drewN ?_ _) | (with_reducible refine Kd.C_drew ?_))); (case side2 => exact (Kd.R_reads' HO251.out).2.1); rintro e w27 ⟨v254, rfl, ho0, hb⟩; refine ⟨_, rfl, ?_⟩; have n0_ := Aside0.mk (Kd.N_elder' (by (with_reducible repeat (first | apply Kd.N_alloc | apply Kd.N_drewN | apply Kd.N_drew)); exact HO247.out) (by first | exact Kd.N_base ho0 | exact Kd.S_base ho0) hb); have n1_ := Aside0.mk (Kd.R_below (by (with_reducible repeat (first | apply Kd.R_alloc | apply Kd.R_drewN | apply Kd.R_drew)); exact HO251.out) hb); have n2_ := Aside0.mk (Kd.N_lower (Kd.N_mono (ok' := fun k_ => some k_ ≠ (.slice Ao24 y245.length co24 : Value).ownBlock ∧ some k_ ≠ (.slice Ao26 t248.length co26 : Value).ownBlock) (Kd.S_N (Kd.S_bound ho0)) (fun k_ hk_ => ⟨(Kd.fresh' (Kd.N_lt (by (with_reducible repeat (first | apply Kd.N_alloc | apply Kd.N_drewN | apply Kd.N_drew)); exact HO247.out)) k_ hk_.2.1), (Kd.fresh' (Kd.R_lt (by (with_reducible repeat (first | apply Kd.R_alloc | apply Kd.R_drewN | apply Kd.R_drew)); exact HO251.out)) k_ hk_.2.1)⟩)) (below_size (by repeat (first | (with_reducible first | exact HB.out | apply below_alloc | apply pw_below_drewN | apply below_drew1) | exact HB.out)))); have n3_ := Aside0.mk (below_step (by repeat (first | (with_reducible first | exact HB.out | apply below_alloc | apply pw_below_drewN | apply below_drew1) | exact HB.out)) hb); clear HO247; clear HO251; clear HB; have HO247 := n0_; have HO251 := n1_; have HO255 := n2_; have HB := n3_; clear n0_ n1_ n2_ n3_; (try clear hb); (try clear hb2); (try clear hk); (try clear hi); (try clear ho0); have hcv28 := own_string (P := Try.prog) Try.underlying23 Try.underlying5 Try.underlying9 (Kd.own_of_R HO251.out); obtain ⟨Ao29, co29, eo29⟩ := Kd.N_slice HO255.out; subst eo29))
          go_ret
          exact ⟨by first | rfl | (simp [errW_none, errW_some] <;> rfl) | (simp [*, errW_none, errW_some] <;> rfl), by repeat (first | (with_reducible first | exact HB.out | apply below_alloc | apply pw_below_drewN | apply below_drew1) | exact HB.out)⟩
      · rw [if_neg c5] at H
        have c5b0 : ((strOfNums t248).toList == ([1, 0, 0, 0, 23, 16, 0, 2, 0, 0, 0, 232, 3] : List UInt8)) = false := beq_eq_false_iff_ne.mpr c5
        have c5b1 : ((strOfNums t248).toList != ([1, 0, 0, 0, 23, 16, 0, 2, 0, 0, 0, 232, 3] : List UInt8)) = true := bne_iff_ne.mpr c5
        obtain rfl := Option.some.inj H
        go_enter Try.func19, Try.ntmps19
        go_wp2_with (first | ((with_reducible refine gate_dst (N := 6) rfl ?_); (try (refine gate_guard (by rfl) ?_; dsimp only)); refine Kd.R_lit (Kd.int .u8) _ 5 ?hg (N := 6) ?hd (xs := ([232, 3] : List Int)) (inner := [.int .u8 232, .int .u8 3]) (ok := fun _ => True) (okp := fun _ => True) ?hr ?hp (fun _ hk => hk) trivial (Below.refl _ _) (Nat.le_refl _) (by simp) ?_; (case hd => rfl); (case hg => rfl); (case hr => first | (go_simp; done) | (go_simp; rfl)); (case hp => exact (Reps.one (show Kd.M (Kd.int .u8) _ _ _ 232 [.int .u8 232] from rfl) (Reps.one (show Kd.M (Kd.int .u8) _ _ _ 3 [.int .u8 3] from rfl) (Reps.none _ _)))); intro v243 w30 ho31 hb hg_ hnew_; clear hg_ hnew_; (first | rw [← Ny242.out] at ho31 | (simp only [Int.reduceToNat] at ho31; rw [← Ny242.out] at ho31)); have n0_ := Aside0.mk (Kd.R_lower ho31 (below_size (by repeat (first | (with_reducible first | exact HB.out | apply below_alloc | apply pw_below_drewN | apply below_drew1) | exact HB.out)))); have n1_ := Aside0.mk (below_step (by repeat (first | (with_reducible first | exact HB.out | apply below_alloc | apply pw_below_drewN | apply below_drew1) | exact HB.out)) hb); clear HB; have HO244 := n0_; have HB := n1_; clear n0_ n1_; clear hb ho31; obtain ⟨Ao32, co32, eo32⟩ := Kd.R_slice HO244.out; subst eo32) | ((with_reducible refine gate_dst (N := 8) rfl ?_); (try (refine gate_guard (by rfl) ?_; dsimp only)); refine Kd.N_lit k117 _ 117 ?hg (N' := 8) ?hd (xs := ([(⟨4119, 0, y242⟩ : S117)] : List (S117))) (inner := [.int .u16 4119, .int .u8 0, .slice Ao32 y242.length co32]) (ok := (fun _ => True)) (okp := (fun _ => True)) ?hr ?hp (fun _ hk => hk) ((show ∀ k_, w30.heap.size ≤ k_ → (fun _ => True) k_ from fun k_ hk => trivial) _ (Nat.le_refl _)) (Below.refl _ _) (Nat.le_refl _) (by simp) ?_; (case hd => rfl); (case hg => rfl); (case hr => first | (go_simp; done) | (go_simp; rfl)); (case hp => exact (Reps.c3 (show Kd.FK k117 _ _ (⟨4119, 0, y242⟩ : S117) [.int .u16 4119, .int .u8 0, .slice Ao32 y242.length co32] from (k117_mkF _ _ (⟨4119, 0, y242⟩ : S117) (Kd.R_reads' (Kd.R_mono (ok' := (fun _ => True)) (HO244.out) (fun k_ hk => trivial))).2.1 (Kd.R_F (Kd.R_mono (ok' := (fun _ => True)) (HO244.out) (fun k_ hk => trivial))))) (Reps.none _ _))); intro v246 w33 ho34 hb hg_ hnew_; clear hg_ hnew_; (first | rw [← Ny245.out] at ho34 | (simp only [Int.reduceToNat] at ho34; rw [← Ny245.out] at ho34)); have n0_ := Aside0.mk (Kd.N_lower ho34 (below_size (by repeat (first | (with_reducible first | exact HB.out | apply below_alloc | apply pw_below_drewN | apply below_drew1) | exact HB.out)))); have n1_ := Aside0.mk (below_step (by repeat (first | (with_reducible first | exact HB.out | apply below_alloc | apply pw_below_drewN | apply below_drew1) | exact HB.out)) hb); clear HB; clear HO244; have HO247 := n0_; have HB := n1_; clear n0_ n1_; clear hb ho34; obtain ⟨Ao35, co35, eo35⟩ := Kd.N_slice HO247.out; subst eo35) | ((with_reducible refine gate_callee (f := 13) rfl ?_); refine goesL_ (some 9) rfl rfl Try.func13 (by kernel_rfl) rfl #[.slice Ao35 y245.length co35] rfl (by (try simp only [List.map_toArray, List.map_cons, List.map_nil]); first | done | rfl | (simp only [List.length_drop, List.length_take]; rfl)) ?_; (with_reducible refine (dcf_Encode.calls k _ _ y245 t248 t249 _ ?side1 ?side2 A1.out).mono ?_); (case side1 => repeat (first | exact (Kd.N_reads' HO247.out).2.2 | (with_reducible refine Kd.C_alloc ?_ _) | (with_reducible refine Kd.C_drewN ?_ _) | (with_reducible refine Kd.C_drew ?_))); (case side2 => exact (Kd.N_reads' HO247.out).2.1); rintro e w36 ⟨v250, rfl, ho0, hb⟩; refine ⟨_, rfl, ?_⟩; have n0_ := Aside0.mk (Kd.N_elder' (by (with_reducible repeat (first | apply Kd.N_alloc | apply Kd.N_drewN | apply Kd.N_drew)); exact HO247.out) (Kd.R_base ho0) hb); have n1_ := Aside0.mk (Kd.R_lower ho0 (below_size (by repeat (first | (with_reducible first | exact HB.out | apply below_alloc | apply pw_below_drewN | apply below_drew1) | exact HB.out)))); have n2_ := Aside0.mk (below_step (by repeat (first | (with_reducible first | exact HB.out | apply below_alloc | apply pw_below_drewN | apply below_drew1) | exact HB.out)) hb); clear HO247; clear HB; have HO247 := n0_; have HO251 := n1_; have HB := n2_; clear n0_ n1_ n2_; (try clear hb); (try clear hb2); (try clear hk); (try clear hi); (try clear ho0); obtain ⟨Ao37, co37, eo37⟩ := Kd.R_slice HO251.out; subst eo37) | ((with_reducible refine gate_callee (f := 20) rfl ?_); refine goesL_ (some 14) rfl rfl Try.func20 (by kernel_rfl) rfl #[.slice Ao37 t248.length co37] rfl (by (try simp only [List.map_toArray, List.map_cons, List.map_nil]); first | done | rfl | (simp only [List.length_drop, List.length_take]; rfl)) ?_; (with_reducible refine (dcf_Decode.calls _ _ t248 t252 t253 _ ?side1 ?side2 A2.out).mono ?_); (case side1 => repeat (first | exact (Kd.R_reads' HO251.out).2.2 | (with_reducible refine Kd.C_alloc ?_ _) | (with_reducible refine Kd.C_drewN ?_ _) | (with_reducible refine Kd.C_drew ?_))); (case side2 => exact (Kd.R_reads' HO251.out).2.1); rintro e w38 ⟨v254, rfl, ho0, hb⟩; refine ⟨_, rfl, ?_⟩; have n0_ := Aside0.mk (Kd.N_elder' (by (with_reducible repeat (first | apply Kd.N_alloc | apply Kd.N_drewN | apply Kd.N_drew)); exact HO247.out) (by first | exact Kd.N_base ho0 | exact Kd.S_base ho0) hb); have n1_ := Aside0.mk (Kd.R_below (by (with_reducible repeat (first | apply Kd.R_alloc | apply Kd.R_drewN | apply Kd.R_drew)); exact HO251.out) hb); have n2_ := Aside0.mk (Kd.N_lower (Kd.N_mono (ok' := fun k_ => some k_ ≠ (.slice Ao35 y245.length co35 : Value).ownBlock ∧ some k_ ≠ (.slice Ao37 t248.length co37 : Value).ownBlock) (Kd.S_N (Kd.S_bound ho0)) (fun k_ hk_ => ⟨(Kd.fresh' (Kd.N_lt (by (with_reducible repeat (first | apply Kd.N_alloc | apply Kd.N_drewN | apply Kd.N_drew)); exact HO247.out)) k_ hk_.2.1), (Kd.fresh' (Kd.R_lt (by (with_reducible repeat (first | apply Kd.R_alloc | apply Kd.R_drewN | apply Kd.R_drew)); exact HO251.out)) k_ hk_.2.1)⟩)) (below_size (by repeat (first | (with_reducible first | exact HB.out | apply below_alloc | apply pw_below_drewN | apply below_drew1) | exact HB.out)))); have n3_ := Aside0.mk (below_step (by repeat (first | (with_reducible first | exact HB.out | apply below_alloc | apply pw_below_drewN | apply below_drew1) | exact HB.out)) hb); clear HO247; clear HO251; clear HB; have HO247 := n0_; have HO251 := n1_; have HO255 := n2_; have HB := n3_; clear n0_ n1_ n2_ n3_; (try clear hb); (try clear hb2); (try clear hk); (try clear hi); (try clear ho0); have hcv39 := own_string (P := Try.prog) Try.underlying23 Try.underlying5 Try.underlying9 (Kd.own_of_R HO251.out)))
        go_ret
        exact ⟨by first | rfl | (simp [errW_none, errW_some] <;> rfl) | (simp [*, errW_none, errW_some] <;> rfl), by repeat (first | (with_reducible first | exact HB.out | apply below_alloc | apply pw_below_drewN | apply below_drew1) | exact HB.out)⟩
    · rw [if_neg c4] at H
      have c4b0 : (t253 == 0) = false := beq_eq_false_iff_ne.mpr c4
      have c4b1 : (t253 != 0) = true := bne_iff_ne.mpr c4
      obtain rfl := Option.some.inj H
      go_enter Try.func19, Try.ntmps19
      go_wp2_with (first | ((with_reducible refine gate_dst (N := 6) rfl ?_); (try (refine gate_guard (by rfl) ?_; dsimp only)); refine Kd.R_lit (Kd.int .u8) _ 5 ?hg (N := 6) ?hd (xs := ([232, 3] : List Int)) (inner := [.int .u8 232, .int .u8 3]) (ok := fun _ => True) (okp := fun _ => True) ?hr ?hp (fun _ hk => hk) trivial (Below.refl _ _) (Nat.le_refl _) (by simp) ?_; (case hd => rfl); (case hg => rfl); (case hr => first | (go_simp; done) | (go_simp; rfl)); (case hp => exact (Reps.one (show Kd.M (Kd.int .u8) _ _ _ 232 [.int .u8 232] from rfl) (Reps.one (show Kd.M (Kd.int .u8) _ _ _ 3 [.int .u8 3] from rfl) (Reps.none _ _)))); intro v243 w40 ho41 hb hg_ hnew_; clear hg_ hnew_; (first | rw [← Ny242.out] at ho41 | (simp only [Int.reduceToNat] at ho41; rw [← Ny242.out] at ho41)); have n0_ := Aside0.mk (Kd.R_lower ho41 (below_size (by repeat (first | (with_reducible first | exact HB.out | apply below_alloc | apply pw_below_drewN | apply below_drew1) | exact HB.out)))); have n1_ := Aside0.mk (below_step (by repeat (first | (with_reducible first | exact HB.out | apply below_alloc | apply pw_below_drewN | apply below_drew1) | exact HB.out)) hb); clear HB; have HO244 := n0_; have HB := n1_; clear n0_ n1_; clear hb ho41; obtain ⟨Ao42, co42, eo42⟩ := Kd.R_slice HO244.out; subst eo42) | ((with_reducible refine gate_dst (N := 8) rfl ?_); (try (refine gate_guard (by rfl) ?_; dsimp only)); refine Kd.N_lit k117 _ 117 ?hg (N' := 8) ?hd (xs := ([(⟨4119, 0, y242⟩ : S117)] : List (S117))) (inner := [.int .u16 4119, .int .u8 0, .slice Ao42 y242.length co42]) (ok := (fun _ => True)) (okp := (fun _ => True)) ?hr ?hp (fun _ hk => hk) ((show ∀ k_, w40.heap.size ≤ k_ → (fun _ => True) k_ from fun k_ hk => trivial) _ (Nat.le_refl _)) (Below.refl _ _) (Nat.le_refl _) (by simp) ?_; (case hd => rfl); (case hg => rfl); (case hr => first | (go_simp; done) | (go_simp; rfl)); (case hp => exact (Reps.c3 (show Kd.FK k117 _ _ (⟨4119, 0, y242⟩ : S117) [.int .u16 4119, .int .u8 0, .slice Ao42 y242.length co42] from (k117_mkF _ _ (⟨4119, 0, y242⟩ : S117) (Kd.R_reads' (Kd.R_mono (ok' := (fun _ => True)) (HO244.out) (fun k_ hk => trivial))).2.1 (Kd.R_F (Kd.R_mono (ok' := (fun _ => True)) (HO244.out) (fun k_ hk => trivial))))) (Reps.none _ _))); intro v246 w43 ho44 hb hg_ hnew_; clear hg_ hnew_; (first | rw [← Ny245.out] at ho44 | (simp only [Int.reduceToNat] at ho44; rw [← Ny245.out] at ho44)); have n0_ := Aside0.mk (Kd.N_lower ho44 (below_size (by repeat (first | (with_reducible first | exact HB.out | apply below_alloc | apply pw_below_drewN | apply below_drew1) | exact HB.out)))); have n1_ := Aside0.mk (below_step (by repeat (first | (with_reducible first | exact HB.out | apply below_alloc | apply pw_below_drewN | apply below_drew1) | exact HB.out)) hb); clear HB; clear HO244; have HO247 := n0_; have HB := n1_; clear n0_ n1_; clear hb ho44; obtain ⟨Ao45, co45, eo45⟩ := Kd.N_slice HO247.out; subst eo45) | ((with_reducible refine gate_callee (f := 13) rfl ?_); refine goesL_ (some 9) rfl rfl Try.func13 (by kernel_rfl) rfl #[.slice Ao45 y245.length co45] rfl (by (try simp only [List.map_toArray, List.map_cons, List.map_nil]); first | done | rfl | (simp only [List.length_drop, List.length_take]; rfl)) ?_; (with_reducible refine (dcf_Encode.calls k _ _ y245 t248 t249 _ ?side1 ?side2 A1.out).mono ?_); (case side1 => repeat (first | exact (Kd.N_reads' HO247.out).2.2 | (with_reducible refine Kd.C_alloc ?_ _) | (with_reducible refine Kd.C_drewN ?_ _) | (with_reducible refine Kd.C_drew ?_))); (case side2 => exact (Kd.N_reads' HO247.out).2.1); rintro e w46 ⟨v250, rfl, ho0, hb⟩; refine ⟨_, rfl, ?_⟩; have n0_ := Aside0.mk (Kd.N_elder' (by (with_reducible repeat (first | apply Kd.N_alloc | apply Kd.N_drewN | apply Kd.N_drew)); exact HO247.out) (Kd.R_base ho0) hb); have n1_ := Aside0.mk (Kd.R_lower ho0 (below_size (by repeat (first | (with_reducible first | exact HB.out | apply below_alloc | apply pw_below_drewN | apply below_drew1) | exact HB.out)))); have n2_ := Aside0.mk (below_step (by repeat (first | (with_reducible first | exact HB.out | apply below_alloc | apply pw_below_drewN | apply below_drew1) | exact HB.out)) hb); clear HO247; clear HB; have HO247 := n0_; have HO251 := n1_; have HB := n2_; clear n0_ n1_ n2_; (try clear hb); (try clear hb2); (try clear hk); (try clear hi); (try clear ho0); obtain ⟨Ao47, co47, eo47⟩ := Kd.R_slice HO251.out; subst eo47) | ((with_reducible refine gate_callee (f := 20) rfl ?_); refine goesL_ (some 14) rfl rfl Try.func20 (by kernel_rfl) rfl #[.slice Ao47 t248.length co47] rfl (by (try simp only [List.map_toArray, List.map_cons, List.map_nil]); first | done | rfl | (simp only [List.length_drop, List.length_take]; rfl)) ?_; (with_reducible refine (dcf_Decode.calls _ _ t248 t252 t253 _ ?side1 ?side2 A2.out).mono ?_); (case side1 => repeat (first | exact (Kd.R_reads' HO251.out).2.2 | (with_reducible refine Kd.C_alloc ?_ _) | (with_reducible refine Kd.C_drewN ?_ _) | (with_reducible refine Kd.C_drew ?_))); (case side2 => exact (Kd.R_reads' HO251.out).2.1); rintro e w48 ⟨v254, rfl, ho0, hb⟩; refine ⟨_, rfl, ?_⟩; have n0_ := Aside0.mk (Kd.N_elder' (by (with_reducible repeat (first | apply Kd.N_alloc | apply Kd.N_drewN | apply Kd.N_drew)); exact HO247.out) (by first | exact Kd.N_base ho0 | exact Kd.S_base ho0) hb); have n1_ := Aside0.mk (Kd.R_below (by (with_reducible repeat (first | apply Kd.R_alloc | apply Kd.R_drewN | apply Kd.R_drew)); exact HO251.out) hb); have n2_ := Aside0.mk (Kd.N_lower (Kd.N_mono (ok' := fun k_ => some k_ ≠ (.slice Ao45 y245.length co45 : Value).ownBlock ∧ some k_ ≠ (.slice Ao47 t248.length co47 : Value).ownBlock) (Kd.S_N (Kd.S_bound ho0)) (fun k_ hk_ => ⟨(Kd.fresh' (Kd.N_lt (by (with_reducible repeat (first | apply Kd.N_alloc | apply Kd.N_drewN | apply Kd.N_drew)); exact HO247.out)) k_ hk_.2.1), (Kd.fresh' (Kd.R_lt (by (with_reducible repeat (first | apply Kd.R_alloc | apply Kd.R_drewN | apply Kd.R_drew)); exact HO251.out)) k_ hk_.2.1)⟩)) (below_size (by repeat (first | (with_reducible first | exact HB.out | apply below_alloc | apply pw_below_drewN | apply below_drew1) | exact HB.out)))); have n3_ := Aside0.mk (below_step (by repeat (first | (with_reducible first | exact HB.out | apply below_alloc | apply pw_below_drewN | apply below_drew1) | exact HB.out)) hb); clear HO247; clear HO251; clear HB; have HO247 := n0_; have HO251 := n1_; have HO255 := n2_; have HB := n3_; clear n0_ n1_ n2_ n3_; (try clear hb); (try clear hb2); (try clear hk); (try clear hi); (try clear ho0)))
      go_ret
      exact ⟨by first | rfl | (simp [errW_none, errW_some] <;> rfl) | (simp [*, errW_none, errW_some] <;> rfl), by repeat (first | (with_reducible first | exact HB.out | apply below_alloc | apply pw_below_drewN | apply below_drew1) | exact HB.out)⟩
  · rw [if_neg c3] at H
    have c3b0 : (t249 == 0) = false := beq_eq_false_iff_ne.mpr c3
    have c3b1 : (t249 != 0) = true := bne_iff_ne.mpr c3
    obtain rfl := Option.some.inj H
    go_enter Try.func19, Try.ntmps19
    go_wp2_with (first | ((with_reducible refine gate_dst (N := 6) rfl ?_); (try (refine gate_guard (by rfl) ?_; dsimp only)); refine Kd.R_lit (Kd.int .u8) _ 5 ?hg (N := 6) ?hd (xs := ([232, 3] : List Int)) (inner := [.int .u8 232, .int .u8 3]) (ok := fun _ => True) (okp := fun _ => True) ?hr ?hp (fun _ hk => hk) trivial (Below.refl _ _) (Nat.le_refl _) (by simp) ?_; (case hd => rfl); (case hg => rfl); (case hr => first | (go_simp; done) | (go_simp; rfl)); (case hp => exact (Reps.one (show Kd.M (Kd.int .u8) _ _ _ 232 [.int .u8 232] from rfl) (Reps.one (show Kd.M (Kd.int .u8) _ _ _ 3 [.int .u8 3] from rfl) (Reps.none _ _)))); intro v243 w49 ho50 hb hg_ hnew_; clear hg_ hnew_; (first | rw [← Ny242.out] at ho50 | (simp only [Int.reduceToNat] at ho50; rw [← Ny242.out] at ho50)); have n0_ := Aside0.mk (Kd.R_lower ho50 (below_size (by repeat (first | (with_reducible first | exact HB.out | apply below_alloc | apply pw_below_drewN | apply below_drew1) | exact HB.out)))); have n1_ := Aside0.mk (below_step (by repeat (first | (with_reducible first | exact HB.out | apply below_alloc | apply pw_below_drewN | apply below_drew1) | exact HB.out)) hb); clear HB; have HO244 := n0_; have HB := n1_; clear n0_ n1_; clear hb ho50; obtain ⟨Ao51, co51, eo51⟩ := Kd.R_slice HO244.out; subst eo51) | ((with_reducible refine gate_dst (N := 8) rfl ?_); (try (refine gate_guard (by rfl) ?_; dsimp only)); refine Kd.N_lit k117 _ 117 ?hg (N' := 8) ?hd (xs := ([(⟨4119, 0, y242⟩ : S117)] : List (S117))) (inner := [.int .u16 4119, .int .u8 0, .slice Ao51 y242.length co51]) (ok := (fun _ => True)) (okp := (fun _ => True)) ?hr ?hp (fun _ hk => hk) ((show ∀ k_, w49.heap.size ≤ k_ → (fun _ => True) k_ from fun k_ hk => trivial) _ (Nat.le_refl _)) (Below.refl _ _) (Nat.le_refl _) (by simp) ?_; (case hd => rfl); (case hg => rfl); (case hr => first | (go_simp; done) | (go_simp; rfl)); (case hp => exact (Reps.c3 (show Kd.FK k117 _ _ (⟨4119, 0, y242⟩ : S117) [.int .u16 4119, .int .u8 0, .slice Ao51 y242.length co51] from (k117_mkF _ _ (⟨4119, 0, y242⟩ : S117) (Kd.R_reads' (Kd.R_mono (ok' := (fun _ => True)) (HO244.out) (fun k_ hk => trivial))).2.1 (Kd.R_F (Kd.R_mono (ok' := (fun _ => True)) (HO244.out) (fun k_ hk => trivial))))) (Reps.none _ _))); intro v246 w52 ho53 hb hg_ hnew_; clear hg_ hnew_; (first | rw [← Ny245.out] at ho53 | (simp only [Int.reduceToNat] at ho53; rw [← Ny245.out] at ho53)); have n0_ := Aside0.mk (Kd.N_lower ho53 (below_size (by repeat (first | (with_reducible first | exact HB.out | apply below_alloc | apply pw_below_drewN | apply below_drew1) | exact HB.out)))); have n1_ := Aside0.mk (below_step (by repeat (first | (with_reducible first | exact HB.out | apply below_alloc | apply pw_below_drewN | apply below_drew1) | exact HB.out)) hb); clear HB; clear HO244; have HO247 := n0_; have HB := n1_; clear n0_ n1_; clear hb ho53; obtain ⟨Ao54, co54, eo54⟩ := Kd.N_slice HO247.out; subst eo54) | ((with_reducible refine gate_callee (f := 13) rfl ?_); refine goesL_ (some 9) rfl rfl Try.func13 (by kernel_rfl) rfl #[.slice Ao54 y245.length co54] rfl (by (try simp only [List.map_toArray, List.map_cons, List.map_nil]); first | done | rfl | (simp only [List.length_drop, List.length_take]; rfl)) ?_; (with_reducible refine (dcf_Encode.calls k _ _ y245 t248 t249 _ ?side1 ?side2 A1.out).mono ?_); (case side1 => repeat (first | exact (Kd.N_reads' HO247.out).2.2 | (with_reducible refine Kd.C_alloc ?_ _) | (with_reducible refine Kd.C_drewN ?_ _) | (with_reducible refine Kd.C_drew ?_))); (case side2 => exact (Kd.N_reads' HO247.out).2.1); rintro e w55 ⟨v250, rfl, ho0, hb⟩; refine ⟨_, rfl, ?_⟩; have n0_ := Aside0.mk (Kd.N_elder' (by (with_reducible repeat (first | apply Kd.N_alloc | apply Kd.N_drewN | apply Kd.N_drew)); exact HO247.out) (Kd.R_base ho0) hb); have n1_ := Aside0.mk (Kd.R_lower ho0 (below_size (by repeat (first | (with_reducible first | exact HB.out | apply below_alloc | apply pw_below_drewN | apply below_drew1) | exact HB.out)))); have n2_ := Aside0.mk (below_step (by repeat (first | (with_reducible first | exact HB.out | apply below_alloc | apply pw_below_drewN | apply below_drew1) | exact HB.out)) hb); clear HO247; clear HB; have HO247 := n0_; have HO251 := n1_; have HB := n2_; clear n0_ n1_ n2_; (try clear hb); (try clear hb2); (try clear hk); (try clear hi); (try clear ho0); obtain ⟨Ao56, co56, eo56⟩ := Kd.R_slice HO251.out; subst eo56) | ((with_reducible refine gate_callee (f := 20) rfl ?_); refine goesL_ (some 14) rfl rfl Try.func20 (by kernel_rfl) rfl #[.slice Ao56 t248.length co56] rfl (by (try simp only [List.map_toArray, List.map_cons, List.map_nil]); first | done | rfl | (simp only [List.length_drop, List.length_take]; rfl)) ?_; (with_reducible refine (dcf_Decode.calls _ _ t248 t252 t253 _ ?side1 ?side2 A2.out).mono ?_); (case side1 => repeat (first | exact (Kd.R_reads' HO251.out).2.2 | (with_reducible refine Kd.C_alloc ?_ _) | (with_reducible refine Kd.C_drewN ?_ _) | (with_reducible refine Kd.C_drew ?_))); (case side2 => exact (Kd.R_reads' HO251.out).2.1); rintro e w57 ⟨v254, rfl, ho0, hb⟩; refine ⟨_, rfl, ?_⟩; have n0_ := Aside0.mk (Kd.N_elder' (by (with_reducible repeat (first | apply Kd.N_alloc | apply Kd.N_drewN | apply Kd.N_drew)); exact HO247.out) (by first | exact Kd.N_base ho0 | exact Kd.S_base ho0) hb); have n1_ := Aside0.mk (Kd.R_below (by (with_reducible repeat (first | apply Kd.R_alloc | apply Kd.R_drewN | apply Kd.R_drew)); exact HO251.out) hb); have n2_ := Aside0.mk (Kd.N_lower (Kd.N_mono (ok' := fun k_ => some k_ ≠ (.slice Ao54 y245.length co54 : Value).ownBlock ∧ some k_ ≠ (.slice Ao56 t248.length co56 : Value).ownBlock) (Kd.S_N (Kd.S_bound ho0)) (fun k_ hk_ => ⟨(Kd.fresh' (Kd.N_lt (by (with_reducible repeat (first | apply Kd.N_alloc | apply Kd.N_drewN | apply Kd.N_drew)); exact HO247.out)) k_ hk_.2.1), (Kd.fresh' (Kd.R_lt (by (with_reducible repeat (first | apply Kd.R_alloc | apply Kd.R_drewN | apply Kd.R_drew)); exact HO251.out)) k_ hk_.2.1)⟩)) (below_size (by repeat (first | (with_reducible first | exact HB.out | apply below_alloc | apply pw_below_drewN | apply below_drew1) | exact HB.out)))); have n3_ := Aside0.mk (below_step (by repeat (first | (with_reducible first | exact HB.out | apply below_alloc | apply pw_below_drewN | apply below_drew1) | exact HB.out)) hb); clear HO247; clear HO251; clear HB; have HO247 := n0_; have HO251 := n1_; have HO255 := n2_; have HB := n3_; clear n0_ n1_ n2_ n3_; (try clear hb); (try clear hb2); (try clear hk); (try clear hi); (try clear ho0)))
    go_ret
    exact ⟨by first | rfl | (simp [errW_none, errW_some] <;> rfl) | (simp [*, errW_none, errW_some] <;> rfl), by repeat (first | (with_reducible first | exact HB.out | apply below_alloc | apply pw_below_drewN | apply below_drew1) | exact HB.out)⟩

/-! ### tramwaylaw21_DcfEncodes: function 3 -/
mutual
def tramwaylaw21_DcfEncodes.j0 : Nat → List (S117) → List Int → Int → Bool → Option (Bool)
  | 0, _, _, _, _ => none
  | k + 1, x0, x3, x4, x32 => if x32 = true then (some false) else ((tramwaylaw21_Own.f k x0).bind fun t268 => ((dcf_Last.f k t268).bind fun t271 => (tramwaylaw21_DcfEncodes.l0 k x0 x3 x4 t271 0 0)))
def tramwaylaw21_DcfEncodes.l0 : Nat → List (S117) → List Int → Int → List (S117) → Int → Int → Option (Bool)
  | 0, _, _, _, _, _, _ => none
  | k + 1, x0, x3, x4, x7, x8, x9 => if x9 < (x0.length : Int) then (tramwaylaw21_DcfEncodes.j2 k x0 x3 x4 x7 x8 x9 (decide ((x0.length : Int) < 2000))) else (tramwaylaw21_DcfEncodes.j2 k x0 x3 x4 x7 x8 x9 false)
def tramwaylaw21_DcfEncodes.j2 : Nat → List (S117) → List Int → Int → List (S117) → Int → Int → Bool → Option (Bool)
  | 0, _, _, _, _, _, _, _ => none
  | k + 1, x0, x3, x4, x7, x8, x9, x44 => if x44 = true then ((tramwayref21_Again.f k x0 x9).bind fun t274 => (if t274 = true then (tramwaylaw21_DcfEncodes.l0 k x0 x3 x4 x7 x8 (wrap64 (x9 + 1))) else (if x8 ≥ (x7.length : Int) then (some false) else (if 0 ≤ x8 then (if x8 ≤ (wrap64 (x8 + 1)) then (if (wrap64 (x8 + 1)) ≤ (x7.length : Int) then (if 0 ≤ x9 then (if x9 ≤ (wrap64 (x9 + 1)) then (if (wrap64 (x9 + 1)) ≤ (x0.length : Int) then ((tramwaylaw21_Same.f k ((x7.take ((wrap64 (x8 + 1)) : Int).toNat).drop (x8 : Int).toNat) ((x0.take ((wrap64 (x9 + 1)) : Int).toNat).drop (x9 : Int).toNat)).bind fun t283 => (if t283 = true then (tramwaylaw21_DcfEncodes.l0 k x0 x3 x4 x7 (wrap64 (x8 + 1)) (wrap64 (x9 + 1))) else (some false))) else (none)) else (none)) else (none)) else (none)) else (none)) else (none))))) else (if x4 = 0 then ((dcf_Decode.f x3).bind fun bt284 => ((tramwaylaw21_Same.f k bt284.1 x0).bind fun t288 => (if t288 = true then (if bt284.2 = 0 then (if x8 = (x7.length : Int) then ((tramwaylaw21_lives.f k).bind fun t289 => (some t289)) else (some false)) else (some false)) else (some false)))) else ((tramwaylaw21_lives.f k).bind fun t290 => (some t290)))
end
def tramwaylaw21_DcfEncodes.f (k : Nat) (l0 : List (S117)) : Option (Bool) := (tramwaylaw21_Own.f k l0).bind fun t257 => ((dcf_Encode.f k t257).bind fun bt260 => ((tramwayref21_Encode.f k l0).bind fun bt264 => (if (strOfNums bt260.1).toList = (strOfNums bt264.1).toList then (tramwaylaw21_DcfEncodes.j0 k l0 bt260.1 bt260.2 (bt260.2 != bt264.2)) else (tramwaylaw21_DcfEncodes.j0 k l0 bt260.1 bt260.2 true))))
theorem tramwaylaw21_DcfEncodes.mono_l : ∀ k, (∀ y0 y1 y2 y3, LeO (tramwaylaw21_DcfEncodes.j0 k y0 y1 y2 y3) (tramwaylaw21_DcfEncodes.j0 (k + 1) y0 y1 y2 y3)) ∧ (∀ y0 y1 y2 y3 y4 y5, LeO (tramwaylaw21_DcfEncodes.l0 k y0 y1 y2 y3 y4 y5) (tramwaylaw21_DcfEncodes.l0 (k + 1) y0 y1 y2 y3 y4 y5)) ∧ (∀ y0 y1 y2 y3 y4 y5 y6, LeO (tramwaylaw21_DcfEncodes.j2 k y0 y1 y2 y3 y4 y5 y6) (tramwaylaw21_DcfEncodes.j2 (k + 1) y0 y1 y2 y3 y4 y5 y6))
  | 0 => ⟨fun _ _ _ _ r h => by simp [tramwaylaw21_DcfEncodes.j0] at h, fun _ _ _ _ _ _ r h => by simp [tramwaylaw21_DcfEncodes.l0] at h, fun _ _ _ _ _ _ _ r h => by simp [tramwaylaw21_DcfEncodes.j2] at h⟩
  | k + 1 => by
    obtain ⟨ih0, ih1, ih2⟩ := tramwaylaw21_DcfEncodes.mono_l k
    refine ⟨?_, ?_, ?_⟩
    · intro y0 y1 y2 y3
      unfold tramwaylaw21_DcfEncodes.j0
      repeat' first
      | (with_reducible exact ih0 _ _ _ _)
      | (with_reducible exact ih1 _ _ _ _ _ _)
      | (with_reducible exact ih2 _ _ _ _ _ _ _)
      | (with_reducible exact dcf_Encode.mono _ _)
      | (with_reducible exact dcf_Last.mono _ _)
      | (with_reducible exact tramwaylaw21_Own.mono _ _)
      | (with_reducible exact tramwaylaw21_Same.mono _ _ _)
      | (with_reducible exact tramwaylaw21_lives.mono _)
      | (with_reducible exact tramwayref21_Again.mono _ _ _)
      | (with_reducible exact tramwayref21_Encode.mono _ _)
      | (with_reducible exact LeO.refl _)
      | (with_reducible exact LeO.none _)
      | (with_reducible refine LeO.ite ?_ ?_)
      | (with_reducible refine LeO.bind ?_ (fun _ => ?_))
      | exact ih0 _ _ _ _
      | exact ih1 _ _ _ _ _ _
      | exact ih2 _ _ _ _ _ _ _
      | exact dcf_Encode.mono _ _
      | exact dcf_Last.mono _ _
      | exact tramwaylaw21_Own.mono _ _
      | exact tramwaylaw21_Same.mono _ _ _
      | exact tramwaylaw21_lives.mono _
      | exact tramwayref21_Again.mono _ _ _
      | exact tramwayref21_Encode.mono _ _
      | exact LeO.none _
      | refine LeO.ite ?_ ?_
      | refine LeO.bind ?_ (fun _ => ?_)
    · intro y0 y1 y2 y3 y4 y5
      unfold tramwaylaw21_DcfEncodes.l0
      repeat' first
      | (with_reducible exact ih0 _ _ _ _)
      | (with_reducible exact ih1 _ _ _ _ _ _)
      | (with_reducible exact ih2 _ _ _ _ _ _ _)
      | (with_reducible exact dcf_Encode.mono _ _)
      | (with_reducible exact dcf_Last.mono _ _)
      | (with_reducible exact tramwaylaw21_Own.mono _ _)
      | (with_reducible exact tramwaylaw21_Same.mono _ _ _)
      | (with_reducible exact tramwaylaw21_lives.mono _)
      | (with_reducible exact tramwayref21_Again.mono _ _ _)
      | (with_reducible exact tramwayref21_Encode.mono _ _)
      | (with_reducible exact LeO.refl _)
      | (with_reducible exact LeO.none _)
      | (with_reducible refine LeO.ite ?_ ?_)
      | (with_reducible refine LeO.bind ?_ (fun _ => ?_))
      | exact ih0 _ _ _ _
      | exact ih1 _ _ _ _ _ _
      | exact ih2 _ _ _ _ _ _ _
      | exact dcf_Encode.mono _ _
      | exact dcf_Last.mono _ _
      | exact tramwaylaw21_Own.mono _ _
      | exact tramwaylaw21_Same.mono _ _ _
      | exact tramwaylaw21_lives.mono _
      | exact tramwayref21_Again.mono _ _ _
      | exact tramwayref21_Encode.mono _ _
      | exact LeO.none _
      | refine LeO.ite ?_ ?_
      | refine LeO.bind ?_ (fun _ => ?_)
    · intro y0 y1 y2 y3 y4 y5 y6
      unfold tramwaylaw21_DcfEncodes.j2
      repeat' first
      | (with_reducible exact ih0 _ _ _ _)
      | (with_reducible exact ih1 _ _ _ _ _ _)
      | (with_reducible exact ih2 _ _ _ _ _ _ _)
      | (with_reducible exact dcf_Encode.mono _ _)
      | (with_reducible exact dcf_Last.mono _ _)
      | (with_reducible exact tramwaylaw21_Own.mono _ _)
      | (with_reducible exact tramwaylaw21_Same.mono _ _ _)
      | (with_reducible exact tramwaylaw21_lives.mono _)
      | (with_reducible exact tramwayref21_Again.mono _ _ _)
      | (with_reducible exact tramwayref21_Encode.mono _ _)
      | (with_reducible exact LeO.refl _)
      | (with_reducible exact LeO.none _)
      | (with_reducible refine LeO.ite ?_ ?_)
      | (with_reducible refine LeO.bind ?_ (fun _ => ?_))
      | exact ih0 _ _ _ _
      | exact ih1 _ _ _ _ _ _
      | exact ih2 _ _ _ _ _ _ _
      | exact dcf_Encode.mono _ _
      | exact dcf_Last.mono _ _
      | exact tramwaylaw21_Own.mono _ _
      | exact tramwaylaw21_Same.mono _ _ _
      | exact tramwaylaw21_lives.mono _
      | exact tramwayref21_Again.mono _ _ _
      | exact tramwayref21_Encode.mono _ _
      | exact LeO.none _
      | refine LeO.ite ?_ ?_
      | refine LeO.bind ?_ (fun _ => ?_)
theorem tramwaylaw21_DcfEncodes.mono : ∀ a0 k, LeO (tramwaylaw21_DcfEncodes.f k a0) (tramwaylaw21_DcfEncodes.f (k + 1) a0) := by
  intro a0 k
  obtain ⟨ih0, ih1, ih2⟩ := tramwaylaw21_DcfEncodes.mono_l k
  unfold tramwaylaw21_DcfEncodes.f
  repeat' first
      | (with_reducible exact ih0 _ _ _ _)
      | (with_reducible exact ih1 _ _ _ _ _ _)
      | (with_reducible exact ih2 _ _ _ _ _ _ _)
      | (with_reducible exact dcf_Encode.mono _ _)
      | (with_reducible exact dcf_Last.mono _ _)
      | (with_reducible exact tramwaylaw21_Own.mono _ _)
      | (with_reducible exact tramwaylaw21_Same.mono _ _ _)
      | (with_reducible exact tramwaylaw21_lives.mono _)
      | (with_reducible exact tramwayref21_Again.mono _ _ _)
      | (with_reducible exact tramwayref21_Encode.mono _ _)
      | (with_reducible exact LeO.refl _)
      | (with_reducible exact LeO.none _)
      | (with_reducible refine LeO.ite ?_ ?_)
      | (with_reducible refine LeO.bind ?_ (fun _ => ?_))
      | exact ih0 _ _ _ _
      | exact ih1 _ _ _ _ _ _
      | exact ih2 _ _ _ _ _ _ _
      | exact dcf_Encode.mono _ _
      | exact dcf_Last.mono _ _
      | exact tramwaylaw21_Own.mono _ _
      | exact tramwaylaw21_Same.mono _ _ _
      | exact tramwaylaw21_lives.mono _
      | exact tramwayref21_Again.mono _ _ _
      | exact tramwayref21_Encode.mono _ _
      | exact LeO.none _
      | refine LeO.ite ?_ ?_
      | refine LeO.bind ?_ (fun _ => ?_)
set_option maxHeartbeats 8000000 in
set_option maxRecDepth 100000 in
theorem tramwaylaw21_DcfEncodes.calls (k : Nat) (A0 : Option Addr) (c0 : Nat) (l0 : List (S117)) (r : Bool) (w : World) (hr0 : Kd.C k117 w A0 l0.length l0) (hc0 : l0.length ≤ c0) (h : tramwaylaw21_DcfEncodes.f k l0 = some r) :
    Calls Try.prog 3 #[.slice A0 l0.length c0] w fun e w' => e = .returned (.bool r) ∧ Below w.heap.size w w' := by
  have HR0 := Aside0.mk hr0
  have HC0 := Aside0.mk hc0
  clear hr0 hc0
  have HB := Aside0.mk (Below.refl w.heap.size w)
  have H : ((tramwaylaw21_Own.f k l0).bind fun t257 => ((dcf_Encode.f k t257).bind fun bt260 => ((tramwayref21_Encode.f k l0).bind fun bt264 => (if (strOfNums bt260.1).toList = (strOfNums bt264.1).toList then (tramwaylaw21_DcfEncodes.j0 k l0 bt260.1 bt260.2 (bt260.2 != bt264.2)) else (tramwaylaw21_DcfEncodes.j0 k l0 bt260.1 bt260.2 true))))) = some r := h
  clear h
  replace H := Option.bind_eq_some_iff.mp H
  obtain ⟨t257, A20, H⟩ := H
  replace H : ((dcf_Encode.f k t257).bind fun bt260 => ((tramwayref21_Encode.f k l0).bind fun bt264 => (if (strOfNums bt260.1).toList = (strOfNums bt264.1).toList then (tramwaylaw21_DcfEncodes.j0 k l0 bt260.1 bt260.2 (bt260.2 != bt264.2)) else (tramwaylaw21_DcfEncodes.j0 k l0 bt260.1 bt260.2 true)))) = some r := H
  have A2 := Aside0.mk A20
  clear A20
  replace H := Option.bind_eq_some_iff.mp H
  obtain ⟨⟨t260, t261⟩, A30, H⟩ := H
  replace H : ((tramwayref21_Encode.f k l0).bind fun bt264 => (if (strOfNums t260).toList = (strOfNums bt264.1).toList then (tramwaylaw21_DcfEncodes.j0 k l0 t260 t261 (t261 != bt264.2)) else (tramwaylaw21_DcfEncodes.j0 k l0 t260 t261 true))) = some r := H
  have A3 := Aside0.mk A30
  clear A30
  replace H := Option.bind_eq_some_iff.mp H
  obtain ⟨⟨t264, t265⟩, A40, H⟩ := H
  replace H : (if (strOfNums t260).toList = (strOfNums t264).toList then (tramwaylaw21_DcfEncodes.j0 k l0 t260 t261 (t261 != t265)) else (tramwaylaw21_DcfEncodes.j0 k l0 t260 t261 true)) = some r := H
  have A4 := Aside0.mk A40
  clear A40
  have HC5 := Aside0.mk H
  clear H
  go_enter Try.func3, Try.ntmps3
  go_upto_region 3 with (first | (go_at_call 14; (with_reducible refine (tramwaylaw21_Own.calls k _ _ l0 t257 _ ?side1 ?side2 A2.out).mono ?_); (case side1 => repeat (first | exact HR0.out | (with_reducible refine Kd.C_alloc ?_ _) | (with_reducible refine Kd.C_drewN ?_ _) | (with_reducible refine Kd.C_drew ?_))); (case side2 => exact HC0.out); rintro e w6 ⟨v258, rfl, ho0, hb⟩; have n0_ := Aside0.mk (Kd.S_lower ho0 (below_size (by repeat (first | (with_reducible first | exact HB.out | apply below_alloc | apply pw_below_drewN | apply below_drew1) | exact HB.out)))); have n1_ := Aside0.mk (below_step (by repeat (first | (with_reducible first | exact HB.out | apply below_alloc | apply pw_below_drewN | apply below_drew1) | exact HB.out)) hb); clear HB; have HO259 := n0_; have HB := n1_; clear n0_ n1_; (try clear hb); (try clear hb2); (try clear hk); (try clear hi); (try clear ho0); obtain ⟨Ao7, co7, eo7⟩ := Kd.S_slice HO259.out; subst eo7) | (go_at_call 13; (with_reducible refine (dcf_Encode.calls k _ _ t257 t260 t261 _ ?side1 ?side2 A3.out).mono ?_); (case side1 => repeat (first | exact (Kd.S_reads' HO259.out).2.2 | (with_reducible refine Kd.C_alloc ?_ _) | (with_reducible refine Kd.C_drewN ?_ _) | (with_reducible refine Kd.C_drew ?_))); (case side2 => exact (Kd.S_reads' HO259.out).2.1); rintro e w8 ⟨v262, rfl, ho0, hb⟩; have n0_ := Aside0.mk (Kd.S_elder' (by (with_reducible repeat (first | apply Kd.S_alloc | apply Kd.S_drewN | apply Kd.S_drew)); exact HO259.out) (Kd.R_base ho0) hb); have n1_ := Aside0.mk (Kd.R_lower ho0 (below_size (by repeat (first | (with_reducible first | exact HB.out | apply below_alloc | apply pw_below_drewN | apply below_drew1) | exact HB.out)))); have n2_ := Aside0.mk (below_step (by repeat (first | (with_reducible first | exact HB.out | apply below_alloc | apply pw_below_drewN | apply below_drew1) | exact HB.out)) hb); clear HO259; clear HB; have HO259 := n0_; have HO263 := n1_; have HB := n2_; clear n0_ n1_ n2_; (try clear hb); (try clear hb2); (try clear hk); (try clear hi); (try clear ho0)) | (go_at_call 15; (with_reducible refine (tramwayref21_Encode.calls k _ _ l0 t264 t265 _ ?side1 ?side2 A4.out).mono ?_); (case side1 => repeat (first | exact (Kd.C_below HR0.out HB.out) | (with_reducible refine Kd.C_alloc ?_ _) | (with_reducible refine Kd.C_drewN ?_ _) | (with_reducible refine Kd.C_drew ?_))); (case side2 => exact HC0.out); rintro e w9 ⟨v266, rfl, ho0, hb⟩; have n0_ := Aside0.mk (Kd.S_elder' (by (with_reducible repeat (first | apply Kd.S_alloc | apply Kd.S_drewN | apply Kd.S_drew)); exact HO259.out) (Kd.R_base ho0) hb); have n1_ := Aside0.mk (Kd.R_elder' (by (with_reducible repeat (first | apply Kd.R_alloc | apply Kd.R_drewN | apply Kd.R_drew)); exact HO263.out) (Kd.R_base ho0) hb); have n2_ := Aside0.mk (Kd.R_lower (Kd.R_new' ho0 (Kd.R_lt (by (with_reducible repeat (first | apply Kd.R_alloc | apply Kd.R_drewN | apply Kd.R_drew)); exact HO263.out))) (below_size (by repeat (first | (with_reducible first | exact HB.out | apply below_alloc | apply pw_below_drewN | apply below_drew1) | exact HB.out)))); have n3_ := Aside0.mk (below_step (by repeat (first | (with_reducible first | exact HB.out | apply below_alloc | apply pw_below_drewN | apply below_drew1) | exact HB.out)) hb); clear HO259; clear HO263; clear HB; have HO259 := n0_; have HO263 := n1_; have HO267 := n2_; have HB := n3_; clear n0_ n1_ n2_ n3_; (try clear hb); (try clear hb2); (try clear hk); (try clear hi); (try clear ho0)))
  repeat (go_quiet (first | (go_at_call 14; (with_reducible refine (tramwaylaw21_Own.calls k _ _ l0 t257 _ ?side1 ?side2 A2.out).mono ?_); (case side1 => repeat (first | exact HR0.out | (with_reducible refine Kd.C_alloc ?_ _) | (with_reducible refine Kd.C_drewN ?_ _) | (with_reducible refine Kd.C_drew ?_))); (case side2 => exact HC0.out); rintro e w6 ⟨v258, rfl, ho0, hb⟩; have n0_ := Aside0.mk (Kd.S_lower ho0 (below_size (by repeat (first | (with_reducible first | exact HB.out | apply below_alloc | apply pw_below_drewN | apply below_drew1) | exact HB.out)))); have n1_ := Aside0.mk (below_step (by repeat (first | (with_reducible first | exact HB.out | apply below_alloc | apply pw_below_drewN | apply below_drew1) | exact HB.out)) hb); clear HB; have HO259 := n0_; have HB := n1_; clear n0_ n1_; (try clear hb); (try clear hb2); (try clear hk); (try clear hi); (try clear ho0); obtain ⟨Ao7, co7, eo7⟩ := Kd.S_slice HO259.out; subst eo7) | (go_at_call 13; (with_reducible refine (dcf_Encode.calls k _ _ t257 t260 t261 _ ?side1 ?side2 A3.out).mono ?_); (case side1 => repeat (first | exact (Kd.S_reads' HO259.out).2.2 | (with_reducible refine Kd.C_alloc ?_ _) | (with_reducible refine Kd.C_drewN ?_ _) | (with_reducible refine Kd.C_drew ?_))); (case side2 => exact (Kd.S_reads' HO259.out).2.1); rintro e w8 ⟨v262, rfl, ho0, hb⟩; have n0_ := Aside0.mk (Kd.S_elder' (by (with_reducible repeat (first | apply Kd.S_alloc | apply Kd.S_drewN | apply Kd.S_drew)); exact HO259.out) (Kd.R_base ho0) hb); have n1_ := Aside0.mk (Kd.R_lower ho0 (below_size (by repeat (first | (with_reducible first | exact HB.out | apply below_alloc | apply pw_below_drewN | apply below_drew1) | exact HB.out)))); have n2_ := Aside0.mk (below_step (by repeat (first | (with_reducible first | exact HB.out | apply below_alloc | apply pw_below_drewN | apply below_drew1) | exact HB.out)) hb); clear HO259; clear HB; have HO259 := n0_; have HO263 := n1_; have HB := n2_; clear n0_ n1_ n2_; (try clear hb); (try clear hb2); (try clear hk); (try clear hi); (try clear ho0)) | (go_at_call 15; (with_reducible refine (tramwayref21_Encode.calls k _ _ l0 t264 t265 _ ?side1 ?side2 A4.out).mono ?_); (case side1 => repeat (first | exact (Kd.C_below HR0.out HB.out) | (with_reducible refine Kd.C_alloc ?_ _) | (with_reducible refine Kd.C_drewN ?_ _) | (with_reducible refine Kd.C_drew ?_))); (case side2 => exact HC0.out); rintro e w9 ⟨v266, rfl, ho0, hb⟩; have n0_ := Aside0.mk (Kd.S_elder' (by (with_reducible repeat (first | apply Kd.S_alloc | apply Kd.S_drewN | apply Kd.S_drew)); exact HO259.out) (Kd.R_base ho0) hb); have n1_ := Aside0.mk (Kd.R_elder' (by (with_reducible repeat (first | apply Kd.R_alloc | apply Kd.R_drewN | apply Kd.R_drew)); exact HO263.out) (Kd.R_base ho0) hb); have n2_ := Aside0.mk (Kd.R_lower (Kd.R_new' ho0 (Kd.R_lt (by (with_reducible repeat (first | apply Kd.R_alloc | apply Kd.R_drewN | apply Kd.R_drew)); exact HO263.out))) (below_size (by repeat (first | (with_reducible first | exact HB.out | apply below_alloc | apply pw_below_drewN | apply below_drew1) | exact HB.out)))); have n3_ := Aside0.mk (below_step (by repeat (first | (with_reducible first | exact HB.out | apply below_alloc | apply pw_below_drewN | apply below_drew1) | exact HB.out)) hb); clear HO259; clear HO263; clear HB; have HO259 := n0_; have HO263 := n1_; have HO267 := n2_; have HB := n3_; clear n0_ n1_ n2_ n3_; (try clear hb); (try clear hb2); (try clear hk); (try clear hi); (try clear ho0))); go_upto_region 3 with (first | (go_at_call 14; (with_reducible refine (tramwaylaw21_Own.calls k _ _ l0 t257 _ ?side1 ?side2 A2.out).mono ?_); (case side1 => repeat (first | exact HR0.out | (with_reducible refine Kd.C_alloc ?_ _) | (with_reducible refine Kd.C_drewN ?_ _) | (with_reducible refine Kd.C_drew ?_))); (case side2 => exact HC0.out); rintro e w6 ⟨v258, rfl, ho0, hb⟩; have n0_ := Aside0.mk (Kd.S_lower ho0 (below_size (by repeat (first | (with_reducible first | exact HB.out | apply below_alloc | apply pw_below_drewN | apply below_drew1) | exact HB.out)))); have n1_ := Aside0.mk (below_step (by repeat (first | (with_reducible first | exact HB.out | apply below_alloc | apply pw_below_drewN | apply below_drew1) | exact HB.out)) hb); clear HB; have HO259 := n0_; have HB := n1_; clear n0_ n1_; (try clear hb); (try clear hb2); (try clear hk); (try clear hi); (try clear ho0); obtain ⟨Ao7, co7, eo7⟩ := Kd.S_slice HO259.out; subst eo7) | (go_at_call 13; (with_reducible refine (dcf_Encode.calls k _ _ t257 t260 t261 _ ?side1 ?side2 A3.out).mono ?_); (case side1 => repeat (first | exact (Kd.S_reads' HO259.out).2.2 | (with_reducible refine Kd.C_alloc ?_ _) | (with_reducible refine Kd.C_drewN ?_ _) | (with_reducible refine Kd.C_drew ?_))); (case side2 => exact (Kd.S_reads' HO259.out).2.1); rintro e w8 ⟨v262, rfl, ho0, hb⟩; have n0_ := Aside0.mk (Kd.S_elder' (by (with_reducible repeat (first | apply Kd.S_alloc | apply Kd.S_drewN | apply Kd.S_drew)); exact HO259.out) (Kd.R_base ho0) hb); have n1_ := Aside0.mk (Kd.R_lower ho0 (below_size (by repeat (first | (with_reducible first | exact HB.out | apply below_alloc | apply pw_below_drewN | apply below_drew1) | exact HB.out)))); have n2_ := Aside0.mk (below_step (by repeat (first | (with_reducible first | exact HB.out | apply below_alloc | apply pw_below_drewN | apply below_drew1) | exact HB.out)) hb); clear HO259; clear HB; have HO259 := n0_; have HO263 := n1_; have HB := n2_; clear n0_ n1_ n2_; (try clear hb); (try clear hb2); (try clear hk); (try clear hi); (try clear ho0)) | (go_at_call 15; (with_reducible refine (tramwayref21_Encode.calls k _ _ l0 t264 t265 _ ?side1 ?side2 A4.out).mono ?_); (case side1 => repeat (first | exact (Kd.C_below HR0.out HB.out) | (with_reducible refine Kd.C_alloc ?_ _) | (with_reducible refine Kd.C_drewN ?_ _) | (with_reducible refine Kd.C_drew ?_))); (case side2 => exact HC0.out); rintro e w9 ⟨v266, rfl, ho0, hb⟩; have n0_ := Aside0.mk (Kd.S_elder' (by (with_reducible repeat (first | apply Kd.S_alloc | apply Kd.S_drewN | apply Kd.S_drew)); exact HO259.out) (Kd.R_base ho0) hb); have n1_ := Aside0.mk (Kd.R_elder' (by (with_reducible repeat (first | apply Kd.R_alloc | apply Kd.R_drewN | apply Kd.R_drew)); exact HO263.out) (Kd.R_base ho0) hb); have n2_ := Aside0.mk (Kd.R_lower (Kd.R_new' ho0 (Kd.R_lt (by (with_reducible repeat (first | apply Kd.R_alloc | apply Kd.R_drewN | apply Kd.R_drew)); exact HO263.out))) (below_size (by repeat (first | (with_reducible first | exact HB.out | apply below_alloc | apply pw_below_drewN | apply below_drew1) | exact HB.out)))); have n3_ := Aside0.mk (below_step (by repeat (first | (with_reducible first | exact HB.out | apply below_alloc | apply pw_below_drewN | apply below_drew1) | exact HB.out)) hb); clear HO259; clear HO263; clear HB; have HO259 := n0_; have HO263 := n1_; have HO267 := n2_; have HB := n3_; clear n0_ n1_ n2_ n3_; (try clear hb); (try clear hb2); (try clear hk); (try clear hi); (try clear ho0))))
  (try simp only [Act.put, List.setIfInBounds_toArray, List.set_cons_zero, List.set_cons_succ])
  go_cut [32] (fun v32 wc => ∃ (kq : Nat) (x32_4 : Bool), v32 = .bool x32_4 ∧ Aside0 (tramwaylaw21_DcfEncodes.j0 kq l0 t260 t261 x32_4 = some r) ∧ Aside0 (kq ≤ k) ∧ Aside0 (Kd.R (Kd.int .u8) 5 wc w.heap.size (fun _ => True) v262 t260) ∧ Aside0 (Below w.heap.size w wc))
  case first =>
    have H := HC5.out
    clear HC5
    by_cases c10 : (strOfNums t260).toList = (strOfNums t264).toList
    · rw [if_pos c10] at H
      have c10b0 : ((strOfNums t260).toList == (strOfNums t264).toList) = true := beq_iff_eq.mpr c10
      have c10b1 : ((strOfNums t260).toList != (strOfNums t264).toList) = false := bne_eq_false_iff_eq.mpr c10
      clear c10
      (first | rw [c10b0] | (simp only [i64_w, i32_w]; rw [c10b0]) | skip)
      have H' := Aside0.mk H
      clear H
      have hcv11 := own_string (P := Try.prog) Try.underlying23 Try.underlying5 Try.underlying9 (Kd.own_of_R HO263.out)
      have hcv12 := own_string (P := Try.prog) Try.underlying23 Try.underlying5 Try.underlying9 (Kd.own_of_R HO267.out)
      go_wp2
      repeat (go_quiet (fail); try go_wp2)
      go_meet
      case rel => exact ⟨_, ((t261 != t265)), (by first | rfl | (simp; done) | (simp [*]; done)), H', ⟨by first | omega | exact Nat.le_refl _⟩, ⟨by (with_reducible repeat (first | apply Kd.R_alloc | apply Kd.R_drewN | apply Kd.R_drew)); exact Kd.R_mono HO263.out (fun _ hk => trivial)⟩, ⟨by repeat (first | (with_reducible first | exact HB.out | apply below_alloc | apply pw_below_drewN | apply below_drew1) | exact HB.out)⟩⟩
    · rw [if_neg c10] at H
      have c10b0 : ((strOfNums t260).toList == (strOfNums t264).toList) = false := beq_eq_false_iff_ne.mpr c10
      have c10b1 : ((strOfNums t260).toList != (strOfNums t264).toList) = true := bne_iff_ne.mpr c10
      (first | rw [c10b0] | (simp only [i64_w, i32_w]; rw [c10b0]) | skip)
      have H' := Aside0.mk H
      clear H
      have hcv13 := own_string (P := Try.prog) Try.underlying23 Try.underlying5 Try.underlying9 (Kd.own_of_R HO263.out)
      have hcv14 := own_string (P := Try.prog) Try.underlying23 Try.underlying5 Try.underlying9 (Kd.own_of_R HO267.out)
      go_wp2
      repeat (go_quiet (fail); try go_wp2)
      go_meet
      case rel => exact ⟨_, (true), (by first | rfl | (simp; done) | (simp [*]; done)), H', ⟨by first | omega | exact Nat.le_refl _⟩, ⟨by (with_reducible repeat (first | apply Kd.R_alloc | apply Kd.R_drewN | apply Kd.R_drew)); exact Kd.R_mono HO263.out (fun _ hk => trivial)⟩, ⟨by repeat (first | (with_reducible first | exact HB.out | apply below_alloc | apply pw_below_drewN | apply below_drew1) | exact HB.out)⟩⟩
  case rest =>
    clear HC5
    try clear c1
    try clear hcv1
    try clear p2
    try clear c3
    try clear c10
    try clear c10b0
    try clear c10b1
    try clear hcv11
    try clear hcv12
    try clear hcv13
    try clear hcv14
    obtain ⟨kq, x32_4, rfl, HA, HJ4, HO_3, HB⟩ := hcut
    cases kq with
    | zero => exact absurd HA.out (by simp [tramwaylaw21_DcfEncodes.j0])
    | succ kj4 =>
      have H := HA.out
      clear HA
      simp only [tramwaylaw21_DcfEncodes.j0] at H
      by_cases c15 : x32_4 = true
      · subst c15
        have H1 : (some false) = some r := by rw [if_pos rfl] at H; exact H
        clear H
        have H := H1
        clear H1
        obtain rfl := Option.some.inj H
        go_wp2
        repeat (go_quiet (fail); try go_wp2)
        go_ret
        exact ⟨by first | rfl | (simp [errW_none, errW_some] <;> rfl) | (simp [*, errW_none, errW_some] <;> rfl), by repeat (first | (with_reducible first | exact HB.out | apply below_alloc | apply pw_below_drewN | apply below_drew1) | exact HB.out)⟩
      · replace c15 := Bool.eq_false_iff.mpr c15
        subst c15
        have H1 : ((tramwaylaw21_Own.f kj4 l0).bind fun t268 => ((dcf_Last.f kj4 t268).bind fun t271 => (tramwaylaw21_DcfEncodes.l0 kj4 l0 t260 t261 t271 0 0))) = some r := by rw [if_neg (show ¬ (false = true) by decide)] at H; exact H
        clear H
        have H := H1
        clear H1
        replace H := Option.bind_eq_some_iff.mp H
        obtain ⟨t268, A160, H⟩ := H
        replace H : ((dcf_Last.f kj4 t268).bind fun t271 => (tramwaylaw21_DcfEncodes.l0 kj4 l0 t260 t261 t271 0 0)) = some r := H
        have A16 := Aside0.mk A160
        clear A160
        replace H := Option.bind_eq_some_iff.mp H
        obtain ⟨t271, A170, H⟩ := H
        replace H : (tramwaylaw21_DcfEncodes.l0 kj4 l0 t260 t261 t271 0 0) = some r := H
        have A17 := Aside0.mk A170
        clear A170
        have H' := Aside0.mk H
        clear H
        go_wp2_with (first | (go_at_call 14; (with_reducible refine (tramwaylaw21_Own.calls kj4 _ _ l0 t268 _ ?side1 ?side2 A16.out).mono ?_); (case side1 => repeat (first | exact (Kd.C_below HR0.out HB.out) | (with_reducible refine Kd.C_alloc ?_ _) | (with_reducible refine Kd.C_drewN ?_ _) | (with_reducible refine Kd.C_drew ?_))); (case side2 => exact HC0.out); rintro e w18 ⟨v269, rfl, ho0, hb⟩; have n0_ := Aside0.mk (Kd.R_below (by (with_reducible repeat (first | apply Kd.R_alloc | apply Kd.R_drewN | apply Kd.R_drew)); exact HO_3.out) hb); have n1_ := Aside0.mk (Kd.S_lower (Kd.S_new' ho0 (Kd.R_lt (by (with_reducible repeat (first | apply Kd.R_alloc | apply Kd.R_drewN | apply Kd.R_drew)); exact HO_3.out))) (below_size (by repeat (first | (with_reducible first | exact HB.out | apply below_alloc | apply pw_below_drewN | apply below_drew1) | exact HB.out)))); have n2_ := Aside0.mk (below_step (by repeat (first | (with_reducible first | exact HB.out | apply below_alloc | apply pw_below_drewN | apply below_drew1) | exact HB.out)) hb); clear HO_3; clear HB; have HO_3 := n0_; have HO270 := n1_; have HB := n2_; clear n0_ n1_ n2_; (try clear hb); (try clear hb2); (try clear hk); (try clear hi); (try clear ho0); obtain ⟨Ao19, co19, eo19⟩ := Kd.S_slice HO270.out; subst eo19) | (go_at_call 16; (with_reducible refine (dcf_Last.calls kj4 _ _ t268 t271 _ ?side1 ?side2 A17.out).mono ?_); (case side1 => repeat (first | exact (Kd.S_reads' HO270.out).2.2 | (with_reducible refine Kd.C_alloc ?_ _) | (with_reducible refine Kd.C_drewN ?_ _) | (with_reducible refine Kd.C_drew ?_))); (case side2 => exact (Kd.S_reads' HO270.out).2.1); rintro e w20 ⟨v272, rfl, ho0, hb⟩; have n0_ := Aside0.mk (Kd.R_below (by (with_reducible repeat (first | apply Kd.R_alloc | apply Kd.R_drewN | apply Kd.R_drew)); exact HO_3.out) hb); have n1_ := Aside0.mk (Kd.S_elder' (by (with_reducible repeat (first | apply Kd.S_alloc | apply Kd.S_drewN | apply Kd.S_drew)); exact HO270.out) (Kd.S_base ho0) hb); have n2_ := Aside0.mk (Kd.S_lower (Kd.S_new' (Kd.S_new' ho0 (Kd.R_lt (by (with_reducible repeat (first | apply Kd.R_alloc | apply Kd.R_drewN | apply Kd.R_drew)); exact HO_3.out))) (Kd.S_lt (by (with_reducible repeat (first | apply Kd.S_alloc | apply Kd.S_drewN | apply Kd.S_drew)); exact HO270.out))) (below_size (by repeat (first | (with_reducible first | exact HB.out | apply below_alloc | apply pw_below_drewN | apply below_drew1) | exact HB.out)))); have n3_ := Aside0.mk (below_step (by repeat (first | (with_reducible first | exact HB.out | apply below_alloc | apply pw_below_drewN | apply below_drew1) | exact HB.out)) hb); clear HO_3; clear HO270; clear HB; have HO_3 := n0_; have HO270 := n1_; have HO273 := n2_; have HB := n3_; clear n0_ n1_ n2_ n3_; (try clear hb); (try clear hb2); (try clear hk); (try clear hi); (try clear ho0)))
        repeat (go_quiet (first | (go_at_call 14; (with_reducible refine (tramwaylaw21_Own.calls kj4 _ _ l0 t268 _ ?side1 ?side2 A16.out).mono ?_); (case side1 => repeat (first | exact (Kd.C_below HR0.out HB.out) | (with_reducible refine Kd.C_alloc ?_ _) | (with_reducible refine Kd.C_drewN ?_ _) | (with_reducible refine Kd.C_drew ?_))); (case side2 => exact HC0.out); rintro e w18 ⟨v269, rfl, ho0, hb⟩; have n0_ := Aside0.mk (Kd.R_below (by (with_reducible repeat (first | apply Kd.R_alloc | apply Kd.R_drewN | apply Kd.R_drew)); exact HO_3.out) hb); have n1_ := Aside0.mk (Kd.S_lower (Kd.S_new' ho0 (Kd.R_lt (by (with_reducible repeat (first | apply Kd.R_alloc | apply Kd.R_drewN | apply Kd.R_drew)); exact HO_3.out))) (below_size (by repeat (first | (with_reducible first | exact HB.out | apply below_alloc | apply pw_below_drewN | apply below_drew1) | exact HB.out)))); have n2_ := Aside0.mk (below_step (by repeat (first | (with_reducible first | exact HB.out | apply below_alloc | apply pw_below_drewN | apply below_drew1) | exact HB.out)) hb); clear HO_3; clear HB; have HO_3 := n0_; have HO270 := n1_; have HB := n2_; clear n0_ n1_ n2_; (try clear hb); (try clear hb2); (try clear hk); (try clear hi); (try clear ho0); obtain ⟨Ao19, co19, eo19⟩ := Kd.S_slice HO270.out; subst eo19) | (go_at_call 16; (with_reducible refine (dcf_Last.calls kj4 _ _ t268 t271 _ ?side1 ?side2 A17.out).mono ?_); (case side1 => repeat (first | exact (Kd.S_reads' HO270.out).2.2 | (with_reducible refine Kd.C_alloc ?_ _) | (with_reducible refine Kd.C_drewN ?_ _) | (with_reducible refine Kd.C_drew ?_))); (case side2 => exact (Kd.S_reads' HO270.out).2.1); rintro e w20 ⟨v272, rfl, ho0, hb⟩; have n0_ := Aside0.mk (Kd.R_below (by (with_reducible repeat (first | apply Kd.R_alloc | apply Kd.R_drewN | apply Kd.R_drew)); exact HO_3.out) hb); have n1_ := Aside0.mk (Kd.S_elder' (by (with_reducible repeat (first | apply Kd.S_alloc | apply Kd.S_drewN | apply Kd.S_drew)); exact HO270.out) (Kd.S_base ho0) hb); have n2_ := Aside0.mk (Kd.S_lower (Kd.S_new' (Kd.S_new' ho0 (Kd.R_lt (by (with_reducible repeat (first | apply Kd.R_alloc | apply Kd.R_drewN | apply Kd.R_drew)); exact HO_3.out))) (Kd.S_lt (by (with_reducible repeat (first | apply Kd.S_alloc | apply Kd.S_drewN | apply Kd.S_drew)); exact HO270.out))) (below_size (by repeat (first | (with_reducible first | exact HB.out | apply below_alloc | apply pw_below_drewN | apply below_drew1) | exact HB.out)))); have n3_ := Aside0.mk (below_step (by repeat (first | (with_reducible first | exact HB.out | apply below_alloc | apply pw_below_drewN | apply below_drew1) | exact HB.out)) hb); clear HO_3; clear HO270; clear HB; have HO_3 := n0_; have HO270 := n1_; have HO273 := n2_; have HB := n3_; clear n0_ n1_ n2_ n3_; (try clear hb); (try clear hb2); (try clear hk); (try clear hi); (try clear ho0))); try go_wp2_with (first | (go_at_call 14; (with_reducible refine (tramwaylaw21_Own.calls kj4 _ _ l0 t268 _ ?side1 ?side2 A16.out).mono ?_); (case side1 => repeat (first | exact (Kd.C_below HR0.out HB.out) | (with_reducible refine Kd.C_alloc ?_ _) | (with_reducible refine Kd.C_drewN ?_ _) | (with_reducible refine Kd.C_drew ?_))); (case side2 => exact HC0.out); rintro e w18 ⟨v269, rfl, ho0, hb⟩; have n0_ := Aside0.mk (Kd.R_below (by (with_reducible repeat (first | apply Kd.R_alloc | apply Kd.R_drewN | apply Kd.R_drew)); exact HO_3.out) hb); have n1_ := Aside0.mk (Kd.S_lower (Kd.S_new' ho0 (Kd.R_lt (by (with_reducible repeat (first | apply Kd.R_alloc | apply Kd.R_drewN | apply Kd.R_drew)); exact HO_3.out))) (below_size (by repeat (first | (with_reducible first | exact HB.out | apply below_alloc | apply pw_below_drewN | apply below_drew1) | exact HB.out)))); have n2_ := Aside0.mk (below_step (by repeat (first | (with_reducible first | exact HB.out | apply below_alloc | apply pw_below_drewN | apply below_drew1) | exact HB.out)) hb); clear HO_3; clear HB; have HO_3 := n0_; have HO270 := n1_; have HB := n2_; clear n0_ n1_ n2_; (try clear hb); (try clear hb2); (try clear hk); (try clear hi); (try clear ho0); obtain ⟨Ao19, co19, eo19⟩ := Kd.S_slice HO270.out; subst eo19) | (go_at_call 16; (with_reducible refine (dcf_Last.calls kj4 _ _ t268 t271 _ ?side1 ?side2 A17.out).mono ?_); (case side1 => repeat (first | exact (Kd.S_reads' HO270.out).2.2 | (with_reducible refine Kd.C_alloc ?_ _) | (with_reducible refine Kd.C_drewN ?_ _) | (with_reducible refine Kd.C_drew ?_))); (case side2 => exact (Kd.S_reads' HO270.out).2.1); rintro e w20 ⟨v272, rfl, ho0, hb⟩; have n0_ := Aside0.mk (Kd.R_below (by (with_reducible repeat (first | apply Kd.R_alloc | apply Kd.R_drewN | apply Kd.R_drew)); exact HO_3.out) hb); have n1_ := Aside0.mk (Kd.S_elder' (by (with_reducible repeat (first | apply Kd.S_alloc | apply Kd.S_drewN | apply Kd.S_drew)); exact HO270.out) (Kd.S_base ho0) hb); have n2_ := Aside0.mk (Kd.S_lower (Kd.S_new' (Kd.S_new' ho0 (Kd.R_lt (by (with_reducible repeat (first | apply Kd.R_alloc | apply Kd.R_drewN | apply Kd.R_drew)); exact HO_3.out))) (Kd.S_lt (by (with_reducible repeat (first | apply Kd.S_alloc | apply Kd.S_drewN | apply Kd.S_drew)); exact HO270.out))) (below_size (by repeat (first | (with_reducible first | exact HB.out | apply below_alloc | apply pw_below_drewN | apply below_drew1) | exact HB.out)))); have n3_ := Aside0.mk (below_step (by repeat (first | (with_reducible first | exact HB.out | apply below_alloc | apply pw_below_drewN | apply below_drew1) | exact HB.out)) hb); clear HO_3; clear HO270; clear HB; have HO_3 := n0_; have HO270 := n1_; have HO273 := n2_; have HB := n3_; clear n0_ n1_ n2_ n3_; (try clear hb); (try clear hb2); (try clear hk); (try clear hi); (try clear ho0))))
        go_loopg [8, 9] kj4 (fun kq v8 v9 w' => ∃ (x8_2 : Int) (x9_2 : Int), v8 = .int .i64 x8_2 ∧ v9 = .int .i64 x9_2 ∧ Aside0 (tramwaylaw21_DcfEncodes.l0 kq l0 t260 t261 t271 x8_2 x9_2 = some r) ∧ Aside0 (kq ≤ kj4) ∧ Aside0 (Kd.R (Kd.int .u8) 5 w' w.heap.size (fun _ => True) v262 t260) ∧ Aside0 (Kd.S k117 117 w' w.heap.size (fun k_ => some k_ ≠ (v262 : Value).ownBlock) v272 t271) ∧ Aside0 (Below w.heap.size w w'))
        case atStart => exact ⟨(0), (0), (by first | rfl | (simp; done) | (simp [*]; done)), (by first | rfl | (simp; done) | (simp [*]; done)), H', ⟨Nat.le_refl _⟩, ⟨by (with_reducible repeat (first | apply Kd.R_alloc | apply Kd.R_drewN | apply Kd.R_drew)); exact HO_3.out⟩, ⟨by (with_reducible repeat (first | apply Kd.S_alloc | apply Kd.S_drewN | apply Kd.S_drew)); exact Kd.S_mono HO273.out (fun _ hk => hk.1.2)⟩, ⟨by repeat (first | (with_reducible first | exact HB.out | apply below_alloc | apply pw_below_drewN | apply below_drew1) | exact HB.out)⟩⟩
        case round =>
          clear H'
          try clear c1
          try clear hcv1
          try clear p2
          try clear c3
          try clear c10
          try clear c10b0
          try clear c10b1
          try clear hcv11
          try clear hcv12
          try clear hcv13
          try clear hcv14
          try clear c15
          try clear p2
          obtain ⟨x8_2, x9_2, rfl, rfl, HA, HK2, HO_3, HO_7, HB⟩ := hrel
          cases gk with
          | zero => exact absurd HA.out (by simp [tramwaylaw21_DcfEncodes.l0])
          | succ k2 =>
            have H := HA.out
            clear HA
            simp only [tramwaylaw21_DcfEncodes.l0] at H
            have HC21 := Aside0.mk H
            clear H
            go_upto_region 8 with (fail)
            repeat (go_quiet (fail); go_upto_region 8 with (fail))
            go_cut [44] (fun v44 wc => ∃ (kq : Nat) (x44_20 : Bool), v44 = .bool x44_20 ∧ Aside0 (tramwaylaw21_DcfEncodes.j2 kq l0 t260 t261 t271 x8_2 x9_2 x44_20 = some r) ∧ Aside0 (kq ≤ k2) ∧ Aside0 (Kd.R (Kd.int .u8) 5 wc w.heap.size (fun _ => True) v262 t260) ∧ Aside0 (Kd.S k117 117 wc w.heap.size (fun k_ => some k_ ≠ (v262 : Value).ownBlock) v272 t271) ∧ Aside0 (Below w.heap.size w wc))
            case first =>
              have H := HC21.out
              clear HC21
              by_cases c22 : x9_2 < (l0.length : Int)
              · rw [if_pos c22] at H
                have c22b0 : decide (x9_2 < (l0.length : Int)) = true := decide_eq_true c22
                clear c22
                (first | rw [c22b0] | (simp only [i64_w, i32_w]; rw [c22b0]) | skip)
                have H' := Aside0.mk H
                clear H
                go_wp2
                repeat (go_quiet (fail); try go_wp2)
                go_meet
                case rel => exact ⟨_, (decide ((l0.length : Int) < 2000)), (by first | rfl | (simp; done) | (simp [*]; done)), H', ⟨by have := HJ4.out; have := HK2.out; first | omega | exact Nat.le_refl _⟩, ⟨by (with_reducible repeat (first | apply Kd.R_alloc | apply Kd.R_drewN | apply Kd.R_drew)); exact HO_3.out⟩, ⟨by (with_reducible repeat (first | apply Kd.S_alloc | apply Kd.S_drewN | apply Kd.S_drew)); exact HO_7.out⟩, ⟨by repeat (first | (with_reducible first | exact HB.out | apply below_alloc | apply pw_below_drewN | apply below_drew1) | exact HB.out)⟩⟩
              · rw [if_neg c22] at H
                have c22b0 : decide (x9_2 < (l0.length : Int)) = false := decide_eq_false c22
                clear c22
                (first | rw [c22b0] | (simp only [i64_w, i32_w]; rw [c22b0]) | skip)
                have H' := Aside0.mk H
                clear H
                go_wp2
                repeat (go_quiet (fail); try go_wp2)
                go_meet
                case rel => exact ⟨_, (false), (by first | rfl | (simp; done) | (simp [*]; done)), H', ⟨by have := HJ4.out; have := HK2.out; first | omega | exact Nat.le_refl _⟩, ⟨by (with_reducible repeat (first | apply Kd.R_alloc | apply Kd.R_drewN | apply Kd.R_drew)); exact HO_3.out⟩, ⟨by (with_reducible repeat (first | apply Kd.S_alloc | apply Kd.S_drewN | apply Kd.S_drew)); exact HO_7.out⟩, ⟨by repeat (first | (with_reducible first | exact HB.out | apply below_alloc | apply pw_below_drewN | apply below_drew1) | exact HB.out)⟩⟩
            case rest =>
              clear HC21
              try clear c1
              try clear hcv1
              try clear c2
              try clear p2
              try clear c3
              try clear c10
              try clear c10b0
              try clear c10b1
              try clear hcv11
              try clear hcv12
              try clear hcv13
              try clear hcv14
              try clear c15
              try clear c22
              try clear c22b0
              try clear p2
              obtain ⟨kq, x44_20, rfl, HA, HJ20, HO_3, HO_7, HB⟩ := hcut
              cases kq with
              | zero => exact absurd HA.out (by simp [tramwaylaw21_DcfEncodes.j2])
              | succ kj20 =>
                have H := HA.out
                clear HA
                simp only [tramwaylaw21_DcfEncodes.j2] at H
                by_cases c23 : x44_20 = true
                · subst c23
                  have H1 : ((tramwayref21_Again.f kj20 l0 x9_2).bind fun t274 => (if t274 = true then (tramwaylaw21_DcfEncodes.l0 kj20 l0 t260 t261 t271 x8_2 (wrap64 (x9_2 + 1))) else (if x8_2 ≥ (t271.length : Int) then (some false) else (if 0 ≤ x8_2 then (if x8_2 ≤ (wrap64 (x8_2 + 1)) then (if (wrap64 (x8_2 + 1)) ≤ (t271.length : Int) then (if 0 ≤ x9_2 then (if x9_2 ≤ (wrap64 (x9_2 + 1)) then (if (wrap64 (x9_2 + 1)) ≤ (l0.length : Int) then ((tramwaylaw21_Same.f kj20 ((t271.take ((wrap64 (x8_2 + 1)) : Int).toNat).drop (x8_2 : Int).toNat) ((l0.take ((wrap64 (x9_2 + 1)) : Int).toNat).drop (x9_2 : Int).toNat)).bind fun t283 => (if t283 = true then (tramwaylaw21_DcfEncodes.l0 kj20 l0 t260 t261 t271 (wrap64 (x8_2 + 1)) (wrap64 (x9_2 + 1))) else (some false))) else (none)) else (none)) else (none)) else (none)) else (none)) else (none))))) = some r := by rw [if_pos rfl] at H; exact H
                  clear H
                  have H := H1
                  clear H1
                  replace H := Option.bind_eq_some_iff.mp H
                  obtain ⟨t274, A240, H⟩ := H
                  replace H : (if t274 = true then (tramwaylaw21_DcfEncodes.l0 kj20 l0 t260 t261 t271 x8_2 (wrap64 (x9_2 + 1))) else (if x8_2 ≥ (t271.length : Int) then (some false) else (if 0 ≤ x8_2 then (if x8_2 ≤ (wrap64 (x8_2 + 1)) then (if (wrap64 (x8_2 + 1)) ≤ (t271.length : Int) then (if 0 ≤ x9_2 then (if x9_2 ≤ (wrap64 (x9_2 + 1)) then (if (wrap64 (x9_2 + 1)) ≤ (l0.length : Int) then ((tramwaylaw21_Same.f kj20 ((t271.take ((wrap64 (x8_2 + 1)) : Int).toNat).drop (x8_2 : Int).toNat) ((l0.take ((wrap64 (x9_2 + 1)) : Int).toNat).drop (x9_2 : Int).toNat)).bind fun t283 => (if t283 = true then (tramwaylaw21_DcfEncodes.l0 kj20 l0 t260 t261 t271 (wrap64 (x8_2 + 1)) (wrap64 (x9_2 + 1))) else (some false))) else (none)) else (none)) else (none)) else (none)) else (none)) else (none)))) = some r := H
                  have A24 := Aside0.mk A240
                  clear A240
                  by_cases c25 : t274 = true
                  · subst c25
                    have H1 : (tramwaylaw21_DcfEncodes.l0 kj20 l0 t260 t261 t271 x8_2 (wrap64 (x9_2 + 1))) = some r := by rw [if_pos rfl] at H; exact H
                    clear H
                    have H := H1
                    clear H1
                    have H' := Aside0.mk H
                    clear H
                    go_wp2_with (first | (go_at_call 17; (with_reducible refine (tramwayref21_Again.calls kj20 _ _ l0 x9_2 true _ ?side1 ?side2 A24.out).mono ?_); (case side1 => repeat (first | exact (Kd.C_below HR0.out HB.out) | (with_reducible refine Kd.C_alloc ?_ _) | (with_reducible refine Kd.C_drewN ?_ _) | (with_reducible refine Kd.C_drew ?_))); (case side2 => exact HC0.out); rintro e w' ⟨rfl, ⟨nd, rfl⟩⟩; (try first | exact ⟨rfl, _, World.drewN_drewN _ _ _⟩ | exact ⟨rfl, _, Eq.trans (World.drewN_drewN _ _ _) (congrArg (World.drewN _) (Nat.add_assoc _ _ _))⟩)))
                    repeat (go_quiet (first | (go_at_call 17; (with_reducible refine (tramwayref21_Again.calls kj20 _ _ l0 x9_2 true _ ?side1 ?side2 A24.out).mono ?_); (case side1 => repeat (first | exact (Kd.C_below HR0.out HB.out) | (with_reducible refine Kd.C_alloc ?_ _) | (with_reducible refine Kd.C_drewN ?_ _) | (with_reducible refine Kd.C_drew ?_))); (case side2 => exact HC0.out); rintro e w' ⟨rfl, ⟨nd, rfl⟩⟩; (try first | exact ⟨rfl, _, World.drewN_drewN _ _ _⟩ | exact ⟨rfl, _, Eq.trans (World.drewN_drewN _ _ _) (congrArg (World.drewN _) (Nat.add_assoc _ _ _))⟩))); try go_wp2_with (first | (go_at_call 17; (with_reducible refine (tramwayref21_Again.calls kj20 _ _ l0 x9_2 true _ ?side1 ?side2 A24.out).mono ?_); (case side1 => repeat (first | exact (Kd.C_below HR0.out HB.out) | (with_reducible refine Kd.C_alloc ?_ _) | (with_reducible refine Kd.C_drewN ?_ _) | (with_reducible refine Kd.C_drew ?_))); (case side2 => exact HC0.out); rintro e w' ⟨rfl, ⟨nd, rfl⟩⟩; (try first | exact ⟨rfl, _, World.drewN_drewN _ _ _⟩ | exact ⟨rfl, _, Eq.trans (World.drewN_drewN _ _ _) (congrArg (World.drewN _) (Nat.add_assoc _ _ _))⟩))))
                    go_roundg kj20
                    case measure => have := HJ4.out; have := HK2.out; have := HJ20.out; omega
                    case rel => exact ⟨(x8_2), (wrap64 (x9_2 + 1)), (by first | rfl | (simp; done) | (simp [*]; done)), (by first | rfl | (simp; done) | (simp [*]; done)), H', ⟨by have := HJ4.out; have := HK2.out; have := HJ20.out; omega⟩, ⟨by (with_reducible repeat (first | apply Kd.R_alloc | apply Kd.R_drewN | apply Kd.R_drew)); exact HO_3.out⟩, ⟨by (with_reducible repeat (first | apply Kd.S_alloc | apply Kd.S_drewN | apply Kd.S_drew)); exact HO_7.out⟩, ⟨by repeat (first | (with_reducible first | exact HB.out | apply below_alloc | apply pw_below_drewN | apply below_drew1) | exact HB.out)⟩⟩
                  · replace c25 := Bool.eq_false_iff.mpr c25
                    subst c25
                    have H1 : (if x8_2 ≥ (t271.length : Int) then (some false) else (if 0 ≤ x8_2 then (if x8_2 ≤ (wrap64 (x8_2 + 1)) then (if (wrap64 (x8_2 + 1)) ≤ (t271.length : Int) then (if 0 ≤ x9_2 then (if x9_2 ≤ (wrap64 (x9_2 + 1)) then (if (wrap64 (x9_2 + 1)) ≤ (l0.length : Int) then ((tramwaylaw21_Same.f kj20 ((t271.take ((wrap64 (x8_2 + 1)) : Int).toNat).drop (x8_2 : Int).toNat) ((l0.take ((wrap64 (x9_2 + 1)) : Int).toNat).drop (x9_2 : Int).toNat)).bind fun t283 => (if t283 = true then (tramwaylaw21_DcfEncodes.l0 kj20 l0 t260 t261 t271 (wrap64 (x8_2 + 1)) (wrap64 (x9_2 + 1))) else (some false))) else (none)) else (none)) else (none)) else (none)) else (none)) else (none))) = some r := by rw [if_neg (show ¬ (false = true) by decide)] at H; exact H
                    clear H
                    have H := H1
                    clear H1
                    by_cases c26 : x8_2 ≥ (t271.length : Int)
                    · rw [if_pos c26] at H
                      have c26b0 : decide ((t271.length : Int) ≤ x8_2) = true := decide_eq_true c26
                      clear c26
                      obtain rfl := Option.some.inj H
                      go_wp2_with (first | (go_at_call 17; (with_reducible refine (tramwayref21_Again.calls kj20 _ _ l0 x9_2 false _ ?side1 ?side2 A24.out).mono ?_); (case side1 => repeat (first | exact (Kd.C_below HR0.out HB.out) | (with_reducible refine Kd.C_alloc ?_ _) | (with_reducible refine Kd.C_drewN ?_ _) | (with_reducible refine Kd.C_drew ?_))); (case side2 => exact HC0.out); rintro e w' ⟨rfl, ⟨nd, rfl⟩⟩; (try first | exact ⟨rfl, _, World.drewN_drewN _ _ _⟩ | exact ⟨rfl, _, Eq.trans (World.drewN_drewN _ _ _) (congrArg (World.drewN _) (Nat.add_assoc _ _ _))⟩); obtain ⟨Ao27, co27, eo27⟩ := Kd.S_slice HO_7.out; subst eo27))
                      repeat (go_quiet (first | (go_at_call 17; (with_reducible refine (tramwayref21_Again.calls kj20 _ _ l0 x9_2 false _ ?side1 ?side2 A24.out).mono ?_); (case side1 => repeat (first | exact (Kd.C_below HR0.out HB.out) | (with_reducible refine Kd.C_alloc ?_ _) | (with_reducible refine Kd.C_drewN ?_ _) | (with_reducible refine Kd.C_drew ?_))); (case side2 => exact HC0.out); rintro e w' ⟨rfl, ⟨nd, rfl⟩⟩; (try first | exact ⟨rfl, _, World.drewN_drewN _ _ _⟩ | exact ⟨rfl, _, Eq.trans (World.drewN_drewN _ _ _) (congrArg (World.drewN _) (Nat.add_assoc _ _ _))⟩); obtain ⟨Ao27, co27, eo27⟩ := Kd.S_slice HO_7.out; subst eo27)); try go_wp2_with (first | (go_at_call 17; (with_reducible refine (tramwayref21_Again.calls kj20 _ _ l0 x9_2 false _ ?side1 ?side2 A24.out).mono ?_); (case side1 => repeat (first | exact (Kd.C_below HR0.out HB.out) | (with_reducible refine Kd.C_alloc ?_ _) | (with_reducible refine Kd.C_drewN ?_ _) | (with_reducible refine Kd.C_drew ?_))); (case side2 => exact HC0.out); rintro e w' ⟨rfl, ⟨nd, rfl⟩⟩; (try first | exact ⟨rfl, _, World.drewN_drewN _ _ _⟩ | exact ⟨rfl, _, Eq.trans (World.drewN_drewN _ _ _) (congrArg (World.drewN _) (Nat.add_assoc _ _ _))⟩); obtain ⟨Ao27, co27, eo27⟩ := Kd.S_slice HO_7.out; subst eo27)))
                      go_ret
                      exact ⟨by first | rfl | (simp [errW_none, errW_some] <;> rfl) | (simp [*, errW_none, errW_some] <;> rfl), by repeat (first | (with_reducible first | exact HB.out | apply below_alloc | apply pw_below_drewN | apply below_drew1) | exact HB.out)⟩
                    · rw [if_neg c26] at H
                      have c26b0 : decide ((t271.length : Int) ≤ x8_2) = false := decide_eq_false c26
                      clear c26
                      by_cases c28 : 0 ≤ x8_2
                      · rw [if_pos c28] at H
                        have c28b0 := eq_true c28
                        have c28b1 : decide (0 ≤ x8_2) = true := decide_eq_true c28
                        clear c28
                        by_cases c29 : x8_2 ≤ (wrap64 (x8_2 + 1))
                        · rw [if_pos c29] at H
                          have c29b0 := eq_true c29
                          have c29b1 : decide (x8_2 ≤ (wrap64 (x8_2 + 1))) = true := decide_eq_true c29
                          by_cases c30 : (wrap64 (x8_2 + 1)) ≤ (t271.length : Int)
                          · rw [if_pos c30] at H
                            have c30b0 := eq_true c30
                            have c30b1 : decide ((wrap64 (x8_2 + 1)) ≤ (t271.length : Int)) = true := decide_eq_true c30
                            obtain ⟨y275, hy275⟩ : ∃ y_ : List (S117), y_ = ((t271.take ((wrap64 (x8_2 + 1)) : Int).toNat).drop (x8_2 : Int).toNat) := ⟨_, rfl⟩
                            replace H : (if 0 ≤ x9_2 then (if x9_2 ≤ (wrap64 (x9_2 + 1)) then (if (wrap64 (x9_2 + 1)) ≤ (l0.length : Int) then ((tramwaylaw21_Same.f kj20 y275 ((l0.take ((wrap64 (x9_2 + 1)) : Int).toNat).drop (x9_2 : Int).toNat)).bind fun t283 => (if t283 = true then (tramwaylaw21_DcfEncodes.l0 kj20 l0 t260 t261 t271 (wrap64 (x8_2 + 1)) (wrap64 (x9_2 + 1))) else (some false))) else (none)) else (none)) else (none)) = some r := by first | (rw [hy275]; with_reducible exact H) | (have H2_ := (Option.bind_some _ _).symm.trans H; rw [hy275]; with_reducible exact H2_) | (have H2_ := (Option.bind_some _ _).symm.trans H; with_reducible exact H2_) | with_reducible exact H | (rw [hy275]; exact H) | exact H
                            have Ny275 := Aside0.mk hy275
                            clear hy275
                            by_cases c31 : 0 ≤ x9_2
                            · rw [if_pos c31] at H
                              have c31b0 := eq_true c31
                              have c31b1 : decide (0 ≤ x9_2) = true := decide_eq_true c31
                              clear c31
                              by_cases c32 : x9_2 ≤ (wrap64 (x9_2 + 1))
                              · rw [if_pos c32] at H
                                have c32b0 := eq_true c32
                                have c32b1 : decide (x9_2 ≤ (wrap64 (x9_2 + 1))) = true := decide_eq_true c32
                                by_cases c33 : (wrap64 (x9_2 + 1)) ≤ (l0.length : Int)
                                · rw [if_pos c33] at H
                                  have c33b0 := eq_true c33
                                  have c33b1 : decide ((wrap64 (x9_2 + 1)) ≤ (l0.length : Int)) = true := decide_eq_true c33
                                  obtain ⟨y279, hy279⟩ : ∃ y_ : List (S117), y_ = ((l0.take ((wrap64 (x9_2 + 1)) : Int).toNat).drop (x9_2 : Int).toNat) := ⟨_, rfl⟩
                                  replace H : ((tramwaylaw21_Same.f kj20 y275 y279).bind fun t283 => (if t283 = true then (tramwaylaw21_DcfEncodes.l0 kj20 l0 t260 t261 t271 (wrap64 (x8_2 + 1)) (wrap64 (x9_2 + 1))) else (some false))) = some r := by first | (rw [hy279]; with_reducible exact H) | (have H2_ := (Option.bind_some _ _).symm.trans H; rw [hy279]; with_reducible exact H2_) | (have H2_ := (Option.bind_some _ _).symm.trans H; with_reducible exact H2_) | with_reducible exact H | (rw [hy279]; exact H) | exact H
                                  have Ny279 := Aside0.mk hy279
                                  clear hy279
                                  replace H := Option.bind_eq_some_iff.mp H
                                  obtain ⟨t283, A340, H⟩ := H
                                  replace H : (if t283 = true then (tramwaylaw21_DcfEncodes.l0 kj20 l0 t260 t261 t271 (wrap64 (x8_2 + 1)) (wrap64 (x9_2 + 1))) else (some false)) = some r := H
                                  have A34 := Aside0.mk A340
                                  clear A340
                                  by_cases c35 : t283 = true
                                  · subst c35
                                    have H1 : (tramwaylaw21_DcfEncodes.l0 kj20 l0 t260 t261 t271 (wrap64 (x8_2 + 1)) (wrap64 (x9_2 + 1))) = some r := by rw [if_pos rfl] at H; exact H
                                    clear H
                                    have H := H1
                                    clear H1
                                    have H' := Aside0.mk H
                                    clear H
                                    go_wp2_with (first | (go_at_call 17; (with_reducible refine (tramwayref21_Again.calls kj20 _ _ l0 x9_2 false _ ?side1 ?side2 A24.out).mono ?_); (case side1 => repeat (first | exact (Kd.C_below HR0.out HB.out) | (with_reducible refine Kd.C_alloc ?_ _) | (with_reducible refine Kd.C_drewN ?_ _) | (with_reducible refine Kd.C_drew ?_))); (case side2 => exact HC0.out); rintro e w' ⟨rfl, ⟨nd, rfl⟩⟩; (try first | exact ⟨rfl, _, World.drewN_drewN _ _ _⟩ | exact ⟨rfl, _, Eq.trans (World.drewN_drewN _ _ _) (congrArg (World.drewN _) (Nat.add_assoc _ _ _))⟩); obtain ⟨Ao36, co36, eo36⟩ := Kd.S_slice HO_7.out; subst eo36; have q37 : ((wrap64 (x8_2 + 1)) : Int) ≤ ((t271.length : Int) : Int) := of_decide_eq_true (by first | (with_reducible assumption) | assumption); obtain ⟨i037, hi037, _, hsz37, _⟩ := info_parts info117; have hroom37 : t271.length ≤ co36 := (Kd.S_reads' HO_7.out).2.1; have hC37 : Kd.C k117 _ Ao36 t271.length t271 := (Kd.S_reads' HO_7.out).2.2; have ql37 : (x8_2 : Int) ≤ ((wrap64 (x8_2 + 1)) : Int) := of_decide_eq_true (by first | (with_reducible assumption) | assumption); have q037 : (0 : Int) ≤ (x8_2 : Int) := of_decide_eq_true (by first | (with_reducible assumption) | assumption); have hcut37 := cut_mid (P := Try.prog) 22 117 .i64 .i64 Try.underlying22 hi037 3 hsz37 Ao36 t271.length co36 x8_2 (wrap64 (x8_2 + 1)) q037 ql37 q37 hroom37; have hr37 := Kd.C_mid (lo := (x8_2 : Int).toNat) (hi := ((wrap64 (x8_2 + 1)) : Int).toNat) (c := co36) hC37 (by omega) (by omega) hroom37; obtain ⟨A37, hA37⟩ : ∃ A1, A1 = (if co36 = (x8_2 : Int).toNat then Ao36 else (Ao36 : Option Addr).map (·.add ((x8_2 : Int).toNat * 3))) := ⟨_, rfl⟩; obtain ⟨c37, hc37⟩ : ∃ c1, c1 = co36 - (x8_2 : Int).toNat := ⟨_, rfl⟩; have hy37 : y275.length = ((wrap64 (x8_2 + 1)) : Int).toNat - (x8_2 : Int).toNat := (by rw [Ny275.out, List.length_drop, List.length_take] <;> omega); rw [show ((t271).take ((wrap64 (x8_2 + 1)) : Int).toNat).drop (x8_2 : Int).toNat = y275 from Ny275.out.symm] at hr37; replace hr37 : Kd.C k117 _ A37 y275.length y275 := (by rw [hA37]; exact hr37); rw [← hy37, ← hA37, ← hc37] at hcut37; have HR278 := Aside0.mk hr37; have HC278 := Aside0.mk (show y275.length ≤ c37 from by rw [hy37, hc37]; exact Nat.sub_le_sub_right (Nat.le_trans (by omega) hroom37) _); clear hr37 hC37 hroom37 hi037 hsz37 hc37; have KY37 := Aside0.mk hy37; have KA37 := Aside0.mk hA37; clear hy37 hA37; have KL37 := Aside0.mk (show ((wrap64 (x8_2 + 1)) : Int).toNat ≤ t271.length from by omega); have KM37 := Aside0.mk (show (x8_2 : Int).toNat ≤ ((wrap64 (x8_2 + 1)) : Int).toNat from by omega); replace q37 := eq_true q37; have q38 : ((wrap64 (x9_2 + 1)) : Int) ≤ ((l0.length : Int) : Int) := of_decide_eq_true (by first | (with_reducible assumption) | assumption); obtain ⟨i038, hi038, _, hsz38, _⟩ := info_parts info117; have hroom38 : l0.length ≤ c0 := HC0.out; have hC38 : Kd.C k117 _ A0 l0.length l0 := HR0.out; have ql38 : (x9_2 : Int) ≤ ((wrap64 (x9_2 + 1)) : Int) := of_decide_eq_true (by first | (with_reducible assumption) | assumption); have q038 : (0 : Int) ≤ (x9_2 : Int) := of_decide_eq_true (by first | (with_reducible assumption) | assumption); have hcut38 := cut_mid (P := Try.prog) 22 117 .i64 .i64 Try.underlying22 hi038 3 hsz38 A0 l0.length c0 x9_2 (wrap64 (x9_2 + 1)) q038 ql38 q38 hroom38; have hr38 := Kd.C_mid (lo := (x9_2 : Int).toNat) (hi := ((wrap64 (x9_2 + 1)) : Int).toNat) (c := c0) hC38 (by omega) (by omega) hroom38; obtain ⟨A38, hA38⟩ : ∃ A1, A1 = (if c0 = (x9_2 : Int).toNat then A0 else (A0 : Option Addr).map (·.add ((x9_2 : Int).toNat * 3))) := ⟨_, rfl⟩; obtain ⟨c38, hc38⟩ : ∃ c1, c1 = c0 - (x9_2 : Int).toNat := ⟨_, rfl⟩; have hy38 : y279.length = ((wrap64 (x9_2 + 1)) : Int).toNat - (x9_2 : Int).toNat := (by rw [Ny279.out, List.length_drop, List.length_take] <;> omega); rw [show ((l0).take ((wrap64 (x9_2 + 1)) : Int).toNat).drop (x9_2 : Int).toNat = y279 from Ny279.out.symm] at hr38; replace hr38 : Kd.C k117 _ A38 y279.length y279 := (by rw [hA38]; exact hr38); rw [← hy38, ← hA38, ← hc38] at hcut38; have HR282 := Aside0.mk hr38; have HC282 := Aside0.mk (show y279.length ≤ c38 from by rw [hy38, hc38]; exact Nat.sub_le_sub_right (Nat.le_trans (by omega) hroom38) _); clear hr38 hC38 hroom38 hi038 hsz38 hc38; have KY38 := Aside0.mk hy38; have KA38 := Aside0.mk hA38; clear hy38 hA38; replace q38 := eq_true q38) | (go_at_call 18; (with_reducible refine (tramwaylaw21_Same.calls kj20 _ _ y275 _ _ y279 true _ ?side1 ?side2 ?side3 ?side4 A34.out).mono ?_); (case side1 => repeat (first | exact (by repeat (first | (with_reducible exact HR278.out) | (with_reducible refine Kd.C_alloc ?_ _) | (with_reducible refine Kd.C_drewN ?_ _) | (with_reducible refine Kd.C_drew ?_) | exact HR278.out)) | (with_reducible refine Kd.C_alloc ?_ _) | (with_reducible refine Kd.C_drewN ?_ _) | (with_reducible refine Kd.C_drew ?_))); (case side2 => exact HC278.out); (case side3 => repeat (first | exact (Kd.C_below HR282.out (by repeat (first | (with_reducible first | exact HB.out | apply below_alloc | apply pw_below_drewN | apply below_drew1) | exact HB.out))) | (with_reducible refine Kd.C_alloc ?_ _) | (with_reducible refine Kd.C_drewN ?_ _) | (with_reducible refine Kd.C_drew ?_))); (case side4 => exact HC282.out); rintro e w' ⟨rfl, ⟨nd, rfl⟩⟩; (try first | exact ⟨rfl, _, World.drewN_drewN _ _ _⟩ | exact ⟨rfl, _, Eq.trans (World.drewN_drewN _ _ _) (congrArg (World.drewN _) (Nat.add_assoc _ _ _))⟩)))
                                    repeat (go_quiet (first | (go_at_call 17; (with_reducible refine (tramwayref21_Again.calls kj20 _ _ l0 x9_2 false _ ?side1 ?side2 A24.out).mono ?_); (case side1 => repeat (first | exact (Kd.C_below HR0.out HB.out) | (with_reducible refine Kd.C_alloc ?_ _) | (with_reducible refine Kd.C_drewN ?_ _) | (with_reducible refine Kd.C_drew ?_))); (case side2 => exact HC0.out); rintro e w' ⟨rfl, ⟨nd, rfl⟩⟩; (try first | exact ⟨rfl, _, World.drewN_drewN _ _ _⟩ | exact ⟨rfl, _, Eq.trans (World.drewN_drewN _ _ _) (congrArg (World.drewN _) (Nat.add_assoc _ _ _))⟩); obtain ⟨Ao36, co36, eo36⟩ := Kd.S_slice HO_7.out; subst eo36; have q37 : ((wrap64 (x8_2 + 1)) : Int) ≤ ((t271.length : Int) : Int) := of_decide_eq_true (by first | (with_reducible assumption) | assumption); obtain ⟨i037, hi037, _, hsz37, _⟩ := info_parts info117; have hroom37 : t271.length ≤ co36 := (Kd.S_reads' HO_7.out).2.1; have hC37 : Kd.C k117 _ Ao36 t271.length t271 := (Kd.S_reads' HO_7.out).2.2; have ql37 : (x8_2 : Int) ≤ ((wrap64 (x8_2 + 1)) : Int) := of_decide_eq_true (by first | (with_reducible assumption) | assumption); have q037 : (0 : Int) ≤ (x8_2 : Int) := of_decide_eq_true (by first | (with_reducible assumption) | assumption); have hcut37 := cut_mid (P := Try.prog) 22 117 .i64 .i64 Try.underlying22 hi037 3 hsz37 Ao36 t271.length co36 x8_2 (wrap64 (x8_2 + 1)) q037 ql37 q37 hroom37; have hr37 := Kd.C_mid (lo := (x8_2 : Int).toNat) (hi := ((wrap64 (x8_2 + 1)) : Int).toNat) (c := co36) hC37 (by omega) (by omega) hroom37; obtain ⟨A37, hA37⟩ : ∃ A1, A1 = (if co36 = (x8_2 : Int).toNat then Ao36 else (Ao36 : Option Addr).map (·.add ((x8_2 : Int).toNat * 3))) := ⟨_, rfl⟩; obtain ⟨c37, hc37⟩ : ∃ c1, c1 = co36 - (x8_2 : Int).toNat := ⟨_, rfl⟩; have hy37 : y275.length = ((wrap64 (x8_2 + 1)) : Int).toNat - (x8_2 : Int).toNat := (by rw [Ny275.out, List.length_drop, List.length_take] <;> omega); rw [show ((t271).take ((wrap64 (x8_2 + 1)) : Int).toNat).drop (x8_2 : Int).toNat = y275 from Ny275.out.symm] at hr37; replace hr37 : Kd.C k117 _ A37 y275.length y275 := (by rw [hA37]; exact hr37); rw [← hy37, ← hA37, ← hc37] at hcut37; have HR278 := Aside0.mk hr37; have HC278 := Aside0.mk (show y275.length ≤ c37 from by rw [hy37, hc37]; exact Nat.sub_le_sub_right (Nat.le_trans (by omega) hroom37) _); clear hr37 hC37 hroom37 hi037 hsz37 hc37; have KY37 := Aside0.mk hy37; have KA37 := Aside0.mk hA37; clear hy37 hA37; have KL37 := Aside0.mk (show ((wrap64 (x8_2 + 1)) : Int).toNat ≤ t271.length from by omega); have KM37 := Aside0.mk (show (x8_2 : Int).toNat ≤ ((wrap64 (x8_2 + 1)) : Int).toNat from by omega); replace q37 := eq_true q37; have q38 : ((wrap64 (x9_2 + 1)) : Int) ≤ ((l0.length : Int) : Int) := of_decide_eq_true (by first | (with_reducible assumption) | assumption); obtain ⟨i038, hi038, _, hsz38, _⟩ := info_parts info117; have hroom38 : l0.length ≤ c0 := HC0.out; have hC38 : Kd.C k117 _ A0 l0.length l0 := HR0.out; have ql38 : (x9_2 : Int) ≤ ((wrap64 (x9_2 + 1)) : Int) := of_decide_eq_true (by first | (with_reducible assumption) | assumption); have q038 : (0 : Int) ≤ (x9_2 : Int) := of_decide_eq_true (by first | (with_reducible assumption) | assumption); have hcut38 := cut_mid (P := Try.prog) 22 117 .i64 .i64 Try.underlying22 hi038 3 hsz38 A0 l0.length c0 x9_2 (wrap64 (x9_2 + 1)) q038 ql38 q38 hroom38; have hr38 := Kd.C_mid (lo := (x9_2 : Int).toNat) (hi := ((wrap64 (x9_2 + 1)) : Int).toNat) (c := c0) hC38 (by omega) (by omega) hroom38; obtain ⟨A38, hA38⟩ : ∃ A1, A1 = (if c0 = (x9_2 : Int).toNat then A0 else (A0 : Option Addr).map (·.add ((x9_2 : Int).toNat * 3))) := ⟨_, rfl⟩; obtain ⟨c38, hc38⟩ : ∃ c1, c1 = c0 - (x9_2 : Int).toNat := ⟨_, rfl⟩; have hy38 : y279.length = ((wrap64 (x9_2 + 1)) : Int).toNat - (x9_2 : Int).toNat := (by rw [Ny279.out, List.length_drop, List.length_take] <;> omega); rw [show ((l0).take ((wrap64 (x9_2 + 1)) : Int).toNat).drop (x9_2 : Int).toNat = y279 from Ny279.out.symm] at hr38; replace hr38 : Kd.C k117 _ A38 y279.length y279 := (by rw [hA38]; exact hr38); rw [← hy38, ← hA38, ← hc38] at hcut38; have HR282 := Aside0.mk hr38; have HC282 := Aside0.mk (show y279.length ≤ c38 from by rw [hy38, hc38]; exact Nat.sub_le_sub_right (Nat.le_trans (by omega) hroom38) _); clear hr38 hC38 hroom38 hi038 hsz38 hc38; have KY38 := Aside0.mk hy38; have KA38 := Aside0.mk hA38; clear hy38 hA38; replace q38 := eq_true q38) | (go_at_call 18; (with_reducible refine (tramwaylaw21_Same.calls kj20 _ _ y275 _ _ y279 true _ ?side1 ?side2 ?side3 ?side4 A34.out).mono ?_); (case side1 => repeat (first | exact (by repeat (first | (with_reducible exact HR278.out) | (with_reducible refine Kd.C_alloc ?_ _) | (with_reducible refine Kd.C_drewN ?_ _) | (with_reducible refine Kd.C_drew ?_) | exact HR278.out)) | (with_reducible refine Kd.C_alloc ?_ _) | (with_reducible refine Kd.C_drewN ?_ _) | (with_reducible refine Kd.C_drew ?_))); (case side2 => exact HC278.out); (case side3 => repeat (first | exact (Kd.C_below HR282.out (by repeat (first | (with_reducible first | exact HB.out | apply below_alloc | apply pw_below_drewN | apply below_drew1) | exact HB.out))) | (with_reducible refine Kd.C_alloc ?_ _) | (with_reducible refine Kd.C_drewN ?_ _) | (with_reducible refine Kd.C_drew ?_))); (case side4 => exact HC282.out); rintro e w' ⟨rfl, ⟨nd, rfl⟩⟩; (try first | exact ⟨rfl, _, World.drewN_drewN _ _ _⟩ | exact ⟨rfl, _, Eq.trans (World.drewN_drewN _ _ _) (congrArg (World.drewN _) (Nat.add_assoc _ _ _))⟩))); try go_wp2_with (first | (go_at_call 17; (with_reducible refine (tramwayref21_Again.calls kj20 _ _ l0 x9_2 false _ ?side1 ?side2 A24.out).mono ?_); (case side1 => repeat (first | exact (Kd.C_below HR0.out HB.out) | (with_reducible refine Kd.C_alloc ?_ _) | (with_reducible refine Kd.C_drewN ?_ _) | (with_reducible refine Kd.C_drew ?_))); (case side2 => exact HC0.out); rintro e w' ⟨rfl, ⟨nd, rfl⟩⟩; (try first | exact ⟨rfl, _, World.drewN_drewN _ _ _⟩ | exact ⟨rfl, _, Eq.trans (World.drewN_drewN _ _ _) (congrArg (World.drewN _) (Nat.add_assoc _ _ _))⟩); obtain ⟨Ao36, co36, eo36⟩ := Kd.S_slice HO_7.out; subst eo36; have q37 : ((wrap64 (x8_2 + 1)) : Int) ≤ ((t271.length : Int) : Int) := of_decide_eq_true (by first | (with_reducible assumption) | assumption); obtain ⟨i037, hi037, _, hsz37, _⟩ := info_parts info117; have hroom37 : t271.length ≤ co36 := (Kd.S_reads' HO_7.out).2.1; have hC37 : Kd.C k117 _ Ao36 t271.length t271 := (Kd.S_reads' HO_7.out).2.2; have ql37 : (x8_2 : Int) ≤ ((wrap64 (x8_2 + 1)) : Int) := of_decide_eq_true (by first | (with_reducible assumption) | assumption); have q037 : (0 : Int) ≤ (x8_2 : Int) := of_decide_eq_true (by first | (with_reducible assumption) | assumption); have hcut37 := cut_mid (P := Try.prog) 22 117 .i64 .i64 Try.underlying22 hi037 3 hsz37 Ao36 t271.length co36 x8_2 (wrap64 (x8_2 + 1)) q037 ql37 q37 hroom37; have hr37 := Kd.C_mid (lo := (x8_2 : Int).toNat) (hi := ((wrap64 (x8_2 + 1)) : Int).toNat) (c := co36) hC37 (by omega) (by omega) hroom37; obtain ⟨A37, hA37⟩ : ∃ A1, A1 = (if co36 = (x8_2 : Int).toNat then Ao36 else (Ao36 : Option Addr).map (·.add ((x8_2 : Int).toNat * 3))) := ⟨_, rfl⟩; obtain ⟨c37, hc37⟩ : ∃ c1, c1 = co36 - (x8_2 : Int).toNat := ⟨_, rfl⟩; have hy37 : y275.length = ((wrap64 (x8_2 + 1)) : Int).toNat - (x8_2 : Int).toNat := (by rw [Ny275.out, List.length_drop, List.length_take] <;> omega); rw [show ((t271).take ((wrap64 (x8_2 + 1)) : Int).toNat).drop (x8_2 : Int).toNat = y275 from Ny275.out.symm] at hr37; replace hr37 : Kd.C k117 _ A37 y275.length y275 := (by rw [hA37]; exact hr37); rw [← hy37, ← hA37, ← hc37] at hcut37; have HR278 := Aside0.mk hr37; have HC278 := Aside0.mk (show y275.length ≤ c37 from by rw [hy37, hc37]; exact Nat.sub_le_sub_right (Nat.le_trans (by omega) hroom37) _); clear hr37 hC37 hroom37 hi037 hsz37 hc37; have KY37 := Aside0.mk hy37; have KA37 := Aside0.mk hA37; clear hy37 hA37; have KL37 := Aside0.mk (show ((wrap64 (x8_2 + 1)) : Int).toNat ≤ t271.length from by omega); have KM37 := Aside0.mk (show (x8_2 : Int).toNat ≤ ((wrap64 (x8_2 + 1)) : Int).toNat from by omega); replace q37 := eq_true q37; have q38 : ((wrap64 (x9_2 + 1)) : Int) ≤ ((l0.length : Int) : Int) := of_decide_eq_true (by first | (with_reducible assumption) | assumption); obtain ⟨i038, hi038, _, hsz38, _⟩ := info_parts info117; have hroom38 : l0.length ≤ c0 := HC0.out; have hC38 : Kd.C k117 _ A0 l0.length l0 := HR0.out; have ql38 : (x9_2 : Int) ≤ ((wrap64 (x9_2 + 1)) : Int) := of_decide_eq_true (by first | (with_reducible assumption) | assumption); have q038 : (0 : Int) ≤ (x9_2 : Int) := of_decide_eq_true (by first | (with_reducible assumption) | assumption); have hcut38 := cut_mid (P := Try.prog) 22 117 .i64 .i64 Try.underlying22 hi038 3 hsz38 A0 l0.length c0 x9_2 (wrap64 (x9_2 + 1)) q038 ql38 q38 hroom38; have hr38 := Kd.C_mid (lo := (x9_2 : Int).toNat) (hi := ((wrap64 (x9_2 + 1)) : Int).toNat) (c := c0) hC38 (by omega) (by omega) hroom38; obtain ⟨A38, hA38⟩ : ∃ A1, A1 = (if c0 = (x9_2 : Int).toNat then A0 else (A0 : Option Addr).map (·.add ((x9_2 : Int).toNat * 3))) := ⟨_, rfl⟩; obtain ⟨c38, hc38⟩ : ∃ c1, c1 = c0 - (x9_2 : Int).toNat := ⟨_, rfl⟩; have hy38 : y279.length = ((wrap64 (x9_2 + 1)) : Int).toNat - (x9_2 : Int).toNat := (by rw [Ny279.out, List.length_drop, List.length_take] <;> omega); rw [show ((l0).take ((wrap64 (x9_2 + 1)) : Int).toNat).drop (x9_2 : Int).toNat = y279 from Ny279.out.symm] at hr38; replace hr38 : Kd.C k117 _ A38 y279.length y279 := (by rw [hA38]; exact hr38); rw [← hy38, ← hA38, ← hc38] at hcut38; have HR282 := Aside0.mk hr38; have HC282 := Aside0.mk (show y279.length ≤ c38 from by rw [hy38, hc38]; exact Nat.sub_le_sub_right (Nat.le_trans (by omega) hroom38) _); clear hr38 hC38 hroom38 hi038 hsz38 hc38; have KY38 := Aside0.mk hy38; have KA38 := Aside0.mk hA38; clear hy38 hA38; replace q38 := eq_true q38) | (go_at_call 18; (with_reducible refine (tramwaylaw21_Same.calls kj20 _ _ y275 _ _ y279 true _ ?side1 ?side2 ?side3 ?side4 A34.out).mono ?_); (case side1 => repeat (first | exact (by repeat (first | (with_reducible exact HR278.out) | (with_reducible refine Kd.C_alloc ?_ _) | (with_reducible refine Kd.C_drewN ?_ _) | (with_reducible refine Kd.C_drew ?_) | exact HR278.out)) | (with_reducible refine Kd.C_alloc ?_ _) | (with_reducible refine Kd.C_drewN ?_ _) | (with_reducible refine Kd.C_drew ?_))); (case side2 => exact HC278.out); (case side3 => repeat (first | exact (Kd.C_below HR282.out (by repeat (first | (with_reducible first | exact HB.out | apply below_alloc | apply pw_below_drewN | apply below_drew1) | exact HB.out))) | (with_reducible refine Kd.C_alloc ?_ _) | (with_reducible refine Kd.C_drewN ?_ _) | (with_reducible refine Kd.C_drew ?_))); (case side4 => exact HC282.out); rintro e w' ⟨rfl, ⟨nd, rfl⟩⟩; (try first | exact ⟨rfl, _, World.drewN_drewN _ _ _⟩ | exact ⟨rfl, _, Eq.trans (World.drewN_drewN _ _ _) (congrArg (World.drewN _) (Nat.add_assoc _ _ _))⟩))))
                                    go_roundg kj20
                                    case measure => have := HJ4.out; have := HK2.out; have := HJ20.out; omega
                                    case rel => exact ⟨(wrap64 (x8_2 + 1)), (wrap64 (x9_2 + 1)), (by first | rfl | (simp; done) | (simp [*]; done)), (by first | rfl | (simp; done) | (simp [*]; done)), H', ⟨by have := HJ4.out; have := HK2.out; have := HJ20.out; omega⟩, ⟨by (with_reducible repeat (first | apply Kd.R_alloc | apply Kd.R_drewN | apply Kd.R_drew)); exact HO_3.out⟩, ⟨by (with_reducible repeat (first | apply Kd.S_alloc | apply Kd.S_drewN | apply Kd.S_drew)); exact HO_7.out⟩, ⟨by repeat (first | (with_reducible first | exact HB.out | apply below_alloc | apply pw_below_drewN | apply below_drew1) | exact HB.out)⟩⟩
                                  · replace c35 := Bool.eq_false_iff.mpr c35
                                    subst c35
                                    have H1 : (some false) = some r := by rw [if_neg (show ¬ (false = true) by decide)] at H; exact H
                                    clear H
                                    have H := H1
                                    clear H1
                                    obtain rfl := Option.some.inj H
                                    go_wp2_with (first | (go_at_call 17; (with_reducible refine (tramwayref21_Again.calls kj20 _ _ l0 x9_2 false _ ?side1 ?side2 A24.out).mono ?_); (case side1 => repeat (first | exact (Kd.C_below HR0.out HB.out) | (with_reducible refine Kd.C_alloc ?_ _) | (with_reducible refine Kd.C_drewN ?_ _) | (with_reducible refine Kd.C_drew ?_))); (case side2 => exact HC0.out); rintro e w' ⟨rfl, ⟨nd, rfl⟩⟩; (try first | exact ⟨rfl, _, World.drewN_drewN _ _ _⟩ | exact ⟨rfl, _, Eq.trans (World.drewN_drewN _ _ _) (congrArg (World.drewN _) (Nat.add_assoc _ _ _))⟩); obtain ⟨Ao39, co39, eo39⟩ := Kd.S_slice HO_7.out; subst eo39; have q40 : ((wrap64 (x8_2 + 1)) : Int) ≤ ((t271.length : Int) : Int) := of_decide_eq_true (by first | (with_reducible assumption) | assumption); obtain ⟨i040, hi040, _, hsz40, _⟩ := info_parts info117; have hroom40 : t271.length ≤ co39 := (Kd.S_reads' HO_7.out).2.1; have hC40 : Kd.C k117 _ Ao39 t271.length t271 := (Kd.S_reads' HO_7.out).2.2; have ql40 : (x8_2 : Int) ≤ ((wrap64 (x8_2 + 1)) : Int) := of_decide_eq_true (by first | (with_reducible assumption) | assumption); have q040 : (0 : Int) ≤ (x8_2 : Int) := of_decide_eq_true (by first | (with_reducible assumption) | assumption); have hcut40 := cut_mid (P := Try.prog) 22 117 .i64 .i64 Try.underlying22 hi040 3 hsz40 Ao39 t271.length co39 x8_2 (wrap64 (x8_2 + 1)) q040 ql40 q40 hroom40; have hr40 := Kd.C_mid (lo := (x8_2 : Int).toNat) (hi := ((wrap64 (x8_2 + 1)) : Int).toNat) (c := co39) hC40 (by omega) (by omega) hroom40; obtain ⟨A40, hA40⟩ : ∃ A1, A1 = (if co39 = (x8_2 : Int).toNat then Ao39 else (Ao39 : Option Addr).map (·.add ((x8_2 : Int).toNat * 3))) := ⟨_, rfl⟩; obtain ⟨c40, hc40⟩ : ∃ c1, c1 = co39 - (x8_2 : Int).toNat := ⟨_, rfl⟩; have hy40 : y275.length = ((wrap64 (x8_2 + 1)) : Int).toNat - (x8_2 : Int).toNat := (by rw [Ny275.out, List.length_drop, List.length_take] <;> omega); rw [show ((t271).take ((wrap64 (x8_2 + 1)) : Int).toNat).drop (x8_2 : Int).toNat = y275 from Ny275.out.symm] at hr40; replace hr40 : Kd.C k117 _ A40 y275.length y275 := (by rw [hA40]; exact hr40); rw [← hy40, ← hA40, ← hc40] at hcut40; have HR278 := Aside0.mk hr40; have HC278 := Aside0.mk (show y275.length ≤ c40 from by rw [hy40, hc40]; exact Nat.sub_le_sub_right (Nat.le_trans (by omega) hroom40) _); clear hr40 hC40 hroom40 hi040 hsz40 hc40; have KY40 := Aside0.mk hy40; have KA40 := Aside0.mk hA40; clear hy40 hA40; have KL40 := Aside0.mk (show ((wrap64 (x8_2 + 1)) : Int).toNat ≤ t271.length from by omega); have KM40 := Aside0.mk (show (x8_2 : Int).toNat ≤ ((wrap64 (x8_2 + 1)) : Int).toNat from by omega); replace q40 := eq_true q40; have q41 : ((wrap64 (x9_2 + 1)) : Int) ≤ ((l0.length : Int) : Int) := of_decide_eq_true (by first | (with_reducible assumption) | assumption); obtain ⟨i041, hi041, _, hsz41, _⟩ := info_parts info117; have hroom41 : l0.length ≤ c0 := HC0.out; have hC41 : Kd.C k117 _ A0 l0.length l0 := HR0.out; have ql41 : (x9_2 : Int) ≤ ((wrap64 (x9_2 + 1)) : Int) := of_decide_eq_true (by first | (with_reducible assumption) | assumption); have q041 : (0 : Int) ≤ (x9_2 : Int) := of_decide_eq_true (by first | (with_reducible assumption) | assumption); have hcut41 := cut_mid (P := Try.prog) 22 117 .i64 .i64 Try.underlying22 hi041 3 hsz41 A0 l0.length c0 x9_2 (wrap64 (x9_2 + 1)) q041 ql41 q41 hroom41; have hr41 := Kd.C_mid (lo := (x9_2 : Int).toNat) (hi := ((wrap64 (x9_2 + 1)) : Int).toNat) (c := c0) hC41 (by omega) (by omega) hroom41; obtain ⟨A41, hA41⟩ : ∃ A1, A1 = (if c0 = (x9_2 : Int).toNat then A0 else (A0 : Option Addr).map (·.add ((x9_2 : Int).toNat * 3))) := ⟨_, rfl⟩; obtain ⟨c41, hc41⟩ : ∃ c1, c1 = c0 - (x9_2 : Int).toNat := ⟨_, rfl⟩; have hy41 : y279.length = ((wrap64 (x9_2 + 1)) : Int).toNat - (x9_2 : Int).toNat := (by rw [Ny279.out, List.length_drop, List.length_take] <;> omega); rw [show ((l0).take ((wrap64 (x9_2 + 1)) : Int).toNat).drop (x9_2 : Int).toNat = y279 from Ny279.out.symm] at hr41; replace hr41 : Kd.C k117 _ A41 y279.length y279 := (by rw [hA41]; exact hr41); rw [← hy41, ← hA41, ← hc41] at hcut41; have HR282 := Aside0.mk hr41; have HC282 := Aside0.mk (show y279.length ≤ c41 from by rw [hy41, hc41]; exact Nat.sub_le_sub_right (Nat.le_trans (by omega) hroom41) _); clear hr41 hC41 hroom41 hi041 hsz41 hc41; have KY41 := Aside0.mk hy41; have KA41 := Aside0.mk hA41; clear hy41 hA41; replace q41 := eq_true q41) | (go_at_call 18; (with_reducible refine (tramwaylaw21_Same.calls kj20 _ _ y275 _ _ y279 false _ ?side1 ?side2 ?side3 ?side4 A34.out).mono ?_); (case side1 => repeat (first | exact (by repeat (first | (with_reducible exact HR278.out) | (with_reducible refine Kd.C_alloc ?_ _) | (with_reducible refine Kd.C_drewN ?_ _) | (with_reducible refine Kd.C_drew ?_) | exact HR278.out)) | (with_reducible refine Kd.C_alloc ?_ _) | (with_reducible refine Kd.C_drewN ?_ _) | (with_reducible refine Kd.C_drew ?_))); (case side2 => exact HC278.out); (case side3 => repeat (first | exact (Kd.C_below HR282.out (by repeat (first | (with_reducible first | exact HB.out | apply below_alloc | apply pw_below_drewN | apply below_drew1) | exact HB.out))) | (with_reducible refine Kd.C_alloc ?_ _) | (with_reducible refine Kd.C_drewN ?_ _) | (with_reducible refine Kd.C_drew ?_))); (case side4 => exact HC282.out); rintro e w' ⟨rfl, ⟨nd, rfl⟩⟩; (try first | exact ⟨rfl, _, World.drewN_drewN _ _ _⟩ | exact ⟨rfl, _, Eq.trans (World.drewN_drewN _ _ _) (congrArg (World.drewN _) (Nat.add_assoc _ _ _))⟩)))
                                    repeat (go_quiet (first | (go_at_call 17; (with_reducible refine (tramwayref21_Again.calls kj20 _ _ l0 x9_2 false _ ?side1 ?side2 A24.out).mono ?_); (case side1 => repeat (first | exact (Kd.C_below HR0.out HB.out) | (with_reducible refine Kd.C_alloc ?_ _) | (with_reducible refine Kd.C_drewN ?_ _) | (with_reducible refine Kd.C_drew ?_))); (case side2 => exact HC0.out); rintro e w' ⟨rfl, ⟨nd, rfl⟩⟩; (try first | exact ⟨rfl, _, World.drewN_drewN _ _ _⟩ | exact ⟨rfl, _, Eq.trans (World.drewN_drewN _ _ _) (congrArg (World.drewN _) (Nat.add_assoc _ _ _))⟩); obtain ⟨Ao39, co39, eo39⟩ := Kd.S_slice HO_7.out; subst eo39; have q40 : ((wrap64 (x8_2 + 1)) : Int) ≤ ((t271.length : Int) : Int) := of_decide_eq_true (by first | (with_reducible assumption) | assumption); obtain ⟨i040, hi040, _, hsz40, _⟩ := info_parts info117; have hroom40 : t271.length ≤ co39 := (Kd.S_reads' HO_7.out).2.1; have hC40 : Kd.C k117 _ Ao39 t271.length t271 := (Kd.S_reads' HO_7.out).2.2; have ql40 : (x8_2 : Int) ≤ ((wrap64 (x8_2 + 1)) : Int) := of_decide_eq_true (by first | (with_reducible assumption) | assumption); have q040 : (0 : Int) ≤ (x8_2 : Int) := of_decide_eq_true (by first | (with_reducible assumption) | assumption); have hcut40 := cut_mid (P := Try.prog) 22 117 .i64 .i64 Try.underlying22 hi040 3 hsz40 Ao39 t271.length co39 x8_2 (wrap64 (x8_2 + 1)) q040 ql40 q40 hroom40; have hr40 := Kd.C_mid (lo := (x8_2 : Int).toNat) (hi := ((wrap64 (x8_2 + 1)) : Int).toNat) (c := co39) hC40 (by omega) (by omega) hroom40; obtain ⟨A40, hA40⟩ : ∃ A1, A1 = (if co39 = (x8_2 : Int).toNat then Ao39 else (Ao39 : Option Addr).map (·.add ((x8_2 : Int).toNat * 3))) := ⟨_, rfl⟩; obtain ⟨c40, hc40⟩ : ∃ c1, c1 = co39 - (x8_2 : Int).toNat := ⟨_, rfl⟩; have hy40 : y275.length = ((wrap64 (x8_2 + 1)) : Int).toNat - (x8_2 : Int).toNat := (by rw [Ny275.out, List.length_drop, List.length_take] <;> omega); rw [show ((t271).take ((wrap64 (x8_2 + 1)) : Int).toNat).drop (x8_2 : Int).toNat = y275 from Ny275.out.symm] at hr40; replace hr40 : Kd.C k117 _ A40 y275.length y275 := (by rw [hA40]; exact hr40); rw [← hy40, ← hA40, ← hc40] at hcut40; have HR278 := Aside0.mk hr40; have HC278 := Aside0.mk (show y275.length ≤ c40 from by rw [hy40, hc40]; exact Nat.sub_le_sub_right (Nat.le_trans (by omega) hroom40) _); clear hr40 hC40 hroom40 hi040 hsz40 hc40; have KY40 := Aside0.mk hy40; have KA40 := Aside0.mk hA40; clear hy40 hA40; have KL40 := Aside0.mk (show ((wrap64 (x8_2 + 1)) : Int).toNat ≤ t271.length from by omega); have KM40 := Aside0.mk (show (x8_2 : Int).toNat ≤ ((wrap64 (x8_2 + 1)) : Int).toNat from by omega); replace q40 := eq_true q40; have q41 : ((wrap64 (x9_2 + 1)) : Int) ≤ ((l0.length : Int) : Int) := of_decide_eq_true (by first | (with_reducible assumption) | assumption); obtain ⟨i041, hi041, _, hsz41, _⟩ := info_parts info117; have hroom41 : l0.length ≤ c0 := HC0.out; have hC41 : Kd.C k117 _ A0 l0.length l0 := HR0.out; have ql41 : (x9_2 : Int) ≤ ((wrap64 (x9_2 + 1)) : Int) := of_decide_eq_true (by first | (with_reducible assumption) | assumption); have q041 : (0 : Int) ≤ (x9_2 : Int) := of_decide_eq_true (by first | (with_reducible assumption) | assumption); have hcut41 := cut_mid (P := Try.prog) 22 117 .i64 .i64 Try.underlying22 hi041 3 hsz41 A0 l0.length c0 x9_2 (wrap64 (x9_2 + 1)) q041 ql41 q41 hroom41; have hr41 := Kd.C_mid (lo := (x9_2 : Int).toNat) (hi := ((wrap64 (x9_2 + 1)) : Int).toNat) (c := c0) hC41 (by omega) (by omega) hroom41; obtain ⟨A41, hA41⟩ : ∃ A1, A1 = (if c0 = (x9_2 : Int).toNat then A0 else (A0 : Option Addr).map (·.add ((x9_2 : Int).toNat * 3))) := ⟨_, rfl⟩; obtain ⟨c41, hc41⟩ : ∃ c1, c1 = c0 - (x9_2 : Int).toNat := ⟨_, rfl⟩; have hy41 : y279.length = ((wrap64 (x9_2 + 1)) : Int).toNat - (x9_2 : Int).toNat := (by rw [Ny279.out, List.length_drop, List.length_take] <;> omega); rw [show ((l0).take ((wrap64 (x9_2 + 1)) : Int).toNat).drop (x9_2 : Int).toNat = y279 from Ny279.out.symm] at hr41; replace hr41 : Kd.C k117 _ A41 y279.length y279 := (by rw [hA41]; exact hr41); rw [← hy41, ← hA41, ← hc41] at hcut41; have HR282 := Aside0.mk hr41; have HC282 := Aside0.mk (show y279.length ≤ c41 from by rw [hy41, hc41]; exact Nat.sub_le_sub_right (Nat.le_trans (by omega) hroom41) _); clear hr41 hC41 hroom41 hi041 hsz41 hc41; have KY41 := Aside0.mk hy41; have KA41 := Aside0.mk hA41; clear hy41 hA41; replace q41 := eq_true q41) | (go_at_call 18; (with_reducible refine (tramwaylaw21_Same.calls kj20 _ _ y275 _ _ y279 false _ ?side1 ?side2 ?side3 ?side4 A34.out).mono ?_); (case side1 => repeat (first | exact (by repeat (first | (with_reducible exact HR278.out) | (with_reducible refine Kd.C_alloc ?_ _) | (with_reducible refine Kd.C_drewN ?_ _) | (with_reducible refine Kd.C_drew ?_) | exact HR278.out)) | (with_reducible refine Kd.C_alloc ?_ _) | (with_reducible refine Kd.C_drewN ?_ _) | (with_reducible refine Kd.C_drew ?_))); (case side2 => exact HC278.out); (case side3 => repeat (first | exact (Kd.C_below HR282.out (by repeat (first | (with_reducible first | exact HB.out | apply below_alloc | apply pw_below_drewN | apply below_drew1) | exact HB.out))) | (with_reducible refine Kd.C_alloc ?_ _) | (with_reducible refine Kd.C_drewN ?_ _) | (with_reducible refine Kd.C_drew ?_))); (case side4 => exact HC282.out); rintro e w' ⟨rfl, ⟨nd, rfl⟩⟩; (try first | exact ⟨rfl, _, World.drewN_drewN _ _ _⟩ | exact ⟨rfl, _, Eq.trans (World.drewN_drewN _ _ _) (congrArg (World.drewN _) (Nat.add_assoc _ _ _))⟩))); try go_wp2_with (first | (go_at_call 17; (with_reducible refine (tramwayref21_Again.calls kj20 _ _ l0 x9_2 false _ ?side1 ?side2 A24.out).mono ?_); (case side1 => repeat (first | exact (Kd.C_below HR0.out HB.out) | (with_reducible refine Kd.C_alloc ?_ _) | (with_reducible refine Kd.C_drewN ?_ _) | (with_reducible refine Kd.C_drew ?_))); (case side2 => exact HC0.out); rintro e w' ⟨rfl, ⟨nd, rfl⟩⟩; (try first | exact ⟨rfl, _, World.drewN_drewN _ _ _⟩ | exact ⟨rfl, _, Eq.trans (World.drewN_drewN _ _ _) (congrArg (World.drewN _) (Nat.add_assoc _ _ _))⟩); obtain ⟨Ao39, co39, eo39⟩ := Kd.S_slice HO_7.out; subst eo39; have q40 : ((wrap64 (x8_2 + 1)) : Int) ≤ ((t271.length : Int) : Int) := of_decide_eq_true (by first | (with_reducible assumption) | assumption); obtain ⟨i040, hi040, _, hsz40, _⟩ := info_parts info117; have hroom40 : t271.length ≤ co39 := (Kd.S_reads' HO_7.out).2.1; have hC40 : Kd.C k117 _ Ao39 t271.length t271 := (Kd.S_reads' HO_7.out).2.2; have ql40 : (x8_2 : Int) ≤ ((wrap64 (x8_2 + 1)) : Int) := of_decide_eq_true (by first | (with_reducible assumption) | assumption); have q040 : (0 : Int) ≤ (x8_2 : Int) := of_decide_eq_true (by first | (with_reducible assumption) | assumption); have hcut40 := cut_mid (P := Try.prog) 22 117 .i64 .i64 Try.underlying22 hi040 3 hsz40 Ao39 t271.length co39 x8_2 (wrap64 (x8_2 + 1)) q040 ql40 q40 hroom40; have hr40 := Kd.C_mid (lo := (x8_2 : Int).toNat) (hi := ((wrap64 (x8_2 + 1)) : Int).toNat) (c := co39) hC40 (by omega) (by omega) hroom40; obtain ⟨A40, hA40⟩ : ∃ A1, A1 = (if co39 = (x8_2 : Int).toNat then Ao39 else (Ao39 : Option Addr).map (·.add ((x8_2 : Int).toNat * 3))) := ⟨_, rfl⟩; obtain ⟨c40, hc40⟩ : ∃ c1, c1 = co39 - (x8_2 : Int).toNat := ⟨_, rfl⟩; have hy40 : y275.length = ((wrap64 (x8_2 + 1)) : Int).toNat - (x8_2 : Int).toNat := (by rw [Ny275.out, List.length_drop, List.length_take] <;> omega); rw [show ((t271).take ((wrap64 (x8_2 + 1)) : Int).toNat).drop (x8_2 : Int).toNat = y275 from Ny275.out.symm] at hr40; replace hr40 : Kd.C k117 _ A40 y275.length y275 := (by rw [hA40]; exact hr40); rw [← hy40, ← hA40, ← hc40] at hcut40; have HR278 := Aside0.mk hr40; have HC278 := Aside0.mk (show y275.length ≤ c40 from by rw [hy40, hc40]; exact Nat.sub_le_sub_right (Nat.le_trans (by omega) hroom40) _); clear hr40 hC40 hroom40 hi040 hsz40 hc40; have KY40 := Aside0.mk hy40; have KA40 := Aside0.mk hA40; clear hy40 hA40; have KL40 := Aside0.mk (show ((wrap64 (x8_2 + 1)) : Int).toNat ≤ t271.length from by omega); have KM40 := Aside0.mk (show (x8_2 : Int).toNat ≤ ((wrap64 (x8_2 + 1)) : Int).toNat from by omega); replace q40 := eq_true q40; have q41 : ((wrap64 (x9_2 + 1)) : Int) ≤ ((l0.length : Int) : Int) := of_decide_eq_true (by first | (with_reducible assumption) | assumption); obtain ⟨i041, hi041, _, hsz41, _⟩ := info_parts info117; have hroom41 : l0.length ≤ c0 := HC0.out; have hC41 : Kd.C k117 _ A0 l0.length l0 := HR0.out; have ql41 : (x9_2 : Int) ≤ ((wrap64 (x9_2 + 1)) : Int) := of_decide_eq_true (by first | (with_reducible assumption) | assumption); have q041 : (0 : Int) ≤ (x9_2 : Int) := of_decide_eq_true (by first | (with_reducible assumption) | assumption); have hcut41 := cut_mid (P := Try.prog) 22 117 .i64 .i64 Try.underlying22 hi041 3 hsz41 A0 l0.length c0 x9_2 (wrap64 (x9_2 + 1)) q041 ql41 q41 hroom41; have hr41 := Kd.C_mid (lo := (x9_2 : Int).toNat) (hi := ((wrap64 (x9_2 + 1)) : Int).toNat) (c := c0) hC41 (by omega) (by omega) hroom41; obtain ⟨A41, hA41⟩ : ∃ A1, A1 = (if c0 = (x9_2 : Int).toNat then A0 else (A0 : Option Addr).map (·.add ((x9_2 : Int).toNat * 3))) := ⟨_, rfl⟩; obtain ⟨c41, hc41⟩ : ∃ c1, c1 = c0 - (x9_2 : Int).toNat := ⟨_, rfl⟩; have hy41 : y279.length = ((wrap64 (x9_2 + 1)) : Int).toNat - (x9_2 : Int).toNat := (by rw [Ny279.out, List.length_drop, List.length_take] <;> omega); rw [show ((l0).take ((wrap64 (x9_2 + 1)) : Int).toNat).drop (x9_2 : Int).toNat = y279 from Ny279.out.symm] at hr41; replace hr41 : Kd.C k117 _ A41 y279.length y279 := (by rw [hA41]; exact hr41); rw [← hy41, ← hA41, ← hc41] at hcut41; have HR282 := Aside0.mk hr41; have HC282 := Aside0.mk (show y279.length ≤ c41 from by rw [hy41, hc41]; exact Nat.sub_le_sub_right (Nat.le_trans (by omega) hroom41) _); clear hr41 hC41 hroom41 hi041 hsz41 hc41; have KY41 := Aside0.mk hy41; have KA41 := Aside0.mk hA41; clear hy41 hA41; replace q41 := eq_true q41) | (go_at_call 18; (with_reducible refine (tramwaylaw21_Same.calls kj20 _ _ y275 _ _ y279 false _ ?side1 ?side2 ?side3 ?side4 A34.out).mono ?_); (case side1 => repeat (first | exact (by repeat (first | (with_reducible exact HR278.out) | (with_reducible refine Kd.C_alloc ?_ _) | (with_reducible refine Kd.C_drewN ?_ _) | (with_reducible refine Kd.C_drew ?_) | exact HR278.out)) | (with_reducible refine Kd.C_alloc ?_ _) | (with_reducible refine Kd.C_drewN ?_ _) | (with_reducible refine Kd.C_drew ?_))); (case side2 => exact HC278.out); (case side3 => repeat (first | exact (Kd.C_below HR282.out (by repeat (first | (with_reducible first | exact HB.out | apply below_alloc | apply pw_below_drewN | apply below_drew1) | exact HB.out))) | (with_reducible refine Kd.C_alloc ?_ _) | (with_reducible refine Kd.C_drewN ?_ _) | (with_reducible refine Kd.C_drew ?_))); (case side4 => exact HC282.out); rintro e w' ⟨rfl, ⟨nd, rfl⟩⟩; (try first | exact ⟨rfl, _, World.drewN_drewN _ _ _⟩ | exact ⟨rfl, _, Eq.trans (World.drewN_drewN _ _ _) (congrArg (World.drewN _) (Nat.add_assoc _ _ _))⟩))))
                                    go_ret
                                    exact ⟨by first | rfl | (simp [errW_none, errW_some] <;> rfl) | (simp [*, errW_none, errW_some] <;> rfl), by repeat (first | (with_reducible first | exact HB.out | apply below_alloc | apply pw_below_drewN | apply below_drew1) | exact HB.out)⟩
                                · rw [if_neg c33] at H
                                  exact absurd H (by simp)
                              · rw [if_neg c32] at H
                                exact absurd H (by simp)
                            · rw [if_neg c31] at H
                              exact absurd H (by simp)
                          · rw [if_neg c30] at H
                            exact absurd H (by simp)
                        · rw [if_neg c29] at H
                          exact absurd H (by simp)
                      · rw [if_neg c28] at H
                        exact absurd H (by simp)
                · replace c23 := Bool.eq_false_iff.mpr c23
                  subst c23
                  have H1 : (if t261 = 0 then ((dcf_Decode.f t260).bind fun bt284 => ((tramwaylaw21_Same.f kj20 bt284.1 l0).bind fun t288 => (if t288 = true then (if bt284.2 = 0 then (if x8_2 = (t271.length : Int) then ((tramwaylaw21_lives.f kj20).bind fun t289 => (some t289)) else (some false)) else (some false)) else (some false)))) else ((tramwaylaw21_lives.f kj20).bind fun t290 => (some t290))) = some r := by rw [if_neg (show ¬ (false = true) by decide)] at H; exact H
                  clear H
                  have H := H1
                  clear H1
                  by_cases c42 : t261 = 0
                  · rw [if_pos c42] at H
                    have c42b0 : (t261 == 0) = true := beq_iff_eq.mpr c42
                    have c42b1 : (t261 != 0) = false := bne_eq_false_iff_eq.mpr c42
                    clear c42
                    replace H := Option.bind_eq_some_iff.mp H
                    obtain ⟨⟨t284, t285⟩, A430, H⟩ := H
                    replace H : ((tramwaylaw21_Same.f kj20 t284 l0).bind fun t288 => (if t288 = true then (if t285 = 0 then (if x8_2 = (t271.length : Int) then ((tramwaylaw21_lives.f kj20).bind fun t289 => (some t289)) else (some false)) else (some false)) else (some false))) = some r := H
                    have A43 := Aside0.mk A430
                    clear A430
                    replace H := Option.bind_eq_some_iff.mp H
                    obtain ⟨t288, A440, H⟩ := H
                    replace H : (if t288 = true then (if t285 = 0 then (if x8_2 = (t271.length : Int) then ((tramwaylaw21_lives.f kj20).bind fun t289 => (some t289)) else (some false)) else (some false)) else (some false)) = some r := H
                    have A44 := Aside0.mk A440
                    clear A440
                    by_cases c45 : t288 = true
                    · subst c45
                      have H1 : (if t285 = 0 then (if x8_2 = (t271.length : Int) then ((tramwaylaw21_lives.f kj20).bind fun t289 => (some t289)) else (some false)) else (some false)) = some r := by rw [if_pos rfl] at H; exact H
                      clear H
                      have H := H1
                      clear H1
                      by_cases c46 : t285 = 0
                      · rw [if_pos c46] at H
                        have c46b0 : (t285 == 0) = true := beq_iff_eq.mpr c46
                        have c46b1 : (t285 != 0) = false := bne_eq_false_iff_eq.mpr c46
                        clear c46
                        by_cases c47 : x8_2 = (t271.length : Int)
                        · rw [if_pos c47] at H
                          have c47b0 : (x8_2 == (t271.length : Int)) = true := beq_iff_eq.mpr c47
                          have c47b1 : (x8_2 != (t271.length : Int)) = false := bne_eq_false_iff_eq.mpr c47
                          clear c47
                          replace H := Option.bind_eq_some_iff.mp H
                          obtain ⟨t289, A480, H⟩ := H
                          replace H : (some t289) = some r := H
                          have A48 := Aside0.mk A480
                          clear A480
                          obtain rfl := Option.some.inj H
                          obtain ⟨Ao49, co49, eo49⟩ := Kd.R_slice HO_3.out
                          subst eo49
                          go_wp2_with (first | (go_at_call 20; (with_reducible refine (dcf_Decode.calls _ _ t260 t284 t285 _ ?side1 ?side2 A43.out).mono ?_); (case side1 => repeat (first | exact (Kd.R_reads' HO_3.out).2.2 | (with_reducible refine Kd.C_alloc ?_ _) | (with_reducible refine Kd.C_drewN ?_ _) | (with_reducible refine Kd.C_drew ?_))); (case side2 => exact (Kd.R_reads' HO_3.out).2.1); rintro e w50 ⟨v286, rfl, ho0, hb⟩; have n0_ := Aside0.mk (Kd.R_below (by (with_reducible repeat (first | apply Kd.R_alloc | apply Kd.R_drewN | apply Kd.R_drew)); exact HO_3.out) hb); have n1_ := Aside0.mk (Kd.S_elder' (by (with_reducible repeat (first | apply Kd.S_alloc | apply Kd.S_drewN | apply Kd.S_drew)); exact HO_7.out) (Kd.S_base ho0) hb); have n2_ := Aside0.mk (Kd.S_lower (Kd.S_new' (Kd.S_new' ho0 (Kd.R_lt (by (with_reducible repeat (first | apply Kd.R_alloc | apply Kd.R_drewN | apply Kd.R_drew)); exact HO_3.out))) (Kd.S_lt (by (with_reducible repeat (first | apply Kd.S_alloc | apply Kd.S_drewN | apply Kd.S_drew)); exact HO_7.out))) (below_size (by repeat (first | (with_reducible first | exact HB.out | apply below_alloc | apply pw_below_drewN | apply below_drew1) | exact HB.out)))); have n3_ := Aside0.mk (below_step (by repeat (first | (with_reducible first | exact HB.out | apply below_alloc | apply pw_below_drewN | apply below_drew1) | exact HB.out)) hb); clear HO_3; clear HO_7; clear HB; have HO_3 := n0_; have HO_7 := n1_; have HO287 := n2_; have HB := n3_; clear n0_ n1_ n2_ n3_; (try clear hb); (try clear hb2); (try clear hk); (try clear hi); (try clear ho0); obtain ⟨Ao51, co51, eo51⟩ := Kd.S_slice HO287.out; subst eo51) | (go_at_call 18; (with_reducible refine (tramwaylaw21_Same.calls kj20 _ _ t284 _ _ l0 true _ ?side1 ?side2 ?side3 ?side4 A44.out).mono ?_); (case side1 => repeat (first | exact (Kd.S_reads' HO287.out).2.2 | (with_reducible refine Kd.C_alloc ?_ _) | (with_reducible refine Kd.C_drewN ?_ _) | (with_reducible refine Kd.C_drew ?_))); (case side2 => exact (Kd.S_reads' HO287.out).2.1); (case side3 => repeat (first | exact (Kd.C_below HR0.out HB.out) | (with_reducible refine Kd.C_alloc ?_ _) | (with_reducible refine Kd.C_drewN ?_ _) | (with_reducible refine Kd.C_drew ?_))); (case side4 => exact HC0.out); rintro e w' ⟨rfl, ⟨nd, rfl⟩⟩; (try first | exact ⟨rfl, _, World.drewN_drewN _ _ _⟩ | exact ⟨rfl, _, Eq.trans (World.drewN_drewN _ _ _) (congrArg (World.drewN _) (Nat.add_assoc _ _ _))⟩); obtain ⟨Ao52, co52, eo52⟩ := Kd.S_slice HO_7.out; subst eo52) | (go_at_call 19; (with_reducible refine (tramwaylaw21_lives.calls kj20  t289 _ A48.out).mono ?_); rintro e w53 ⟨rfl, hb⟩; have n0_ := Aside0.mk (Kd.R_below (by (with_reducible repeat (first | apply Kd.R_alloc | apply Kd.R_drewN | apply Kd.R_drew)); exact HO_3.out) hb); have n1_ := Aside0.mk (Kd.S_below (by (with_reducible repeat (first | apply Kd.S_alloc | apply Kd.S_drewN | apply Kd.S_drew)); exact HO_7.out) hb); have n2_ := Aside0.mk (Kd.S_below (by (with_reducible repeat (first | apply Kd.S_alloc | apply Kd.S_drewN | apply Kd.S_drew)); exact HO287.out) hb); have n3_ := Aside0.mk (below_step (by repeat (first | (with_reducible first | exact HB.out | apply below_alloc | apply pw_below_drewN | apply below_drew1) | exact HB.out)) hb); clear HO_3; clear HO_7; clear HO287; clear HB; have HO_3 := n0_; have HO_7 := n1_; have HO287 := n2_; have HB := n3_; clear n0_ n1_ n2_ n3_; (try clear hb); (try clear hb2); (try clear hk); (try clear hi)))
                          repeat (go_quiet (first | (go_at_call 20; (with_reducible refine (dcf_Decode.calls _ _ t260 t284 t285 _ ?side1 ?side2 A43.out).mono ?_); (case side1 => repeat (first | exact (Kd.R_reads' HO_3.out).2.2 | (with_reducible refine Kd.C_alloc ?_ _) | (with_reducible refine Kd.C_drewN ?_ _) | (with_reducible refine Kd.C_drew ?_))); (case side2 => exact (Kd.R_reads' HO_3.out).2.1); rintro e w50 ⟨v286, rfl, ho0, hb⟩; have n0_ := Aside0.mk (Kd.R_below (by (with_reducible repeat (first | apply Kd.R_alloc | apply Kd.R_drewN | apply Kd.R_drew)); exact HO_3.out) hb); have n1_ := Aside0.mk (Kd.S_elder' (by (with_reducible repeat (first | apply Kd.S_alloc | apply Kd.S_drewN | apply Kd.S_drew)); exact HO_7.out) (Kd.S_base ho0) hb); have n2_ := Aside0.mk (Kd.S_lower (Kd.S_new' (Kd.S_new' ho0 (Kd.R_lt (by (with_reducible repeat (first | apply Kd.R_alloc | apply Kd.R_drewN | apply Kd.R_drew)); exact HO_3.out))) (Kd.S_lt (by (with_reducible repeat (first | apply Kd.S_alloc | apply Kd.S_drewN | apply Kd.S_drew)); exact HO_7.out))) (below_size (by repeat (first | (with_reducible first | exact HB.out | apply below_alloc | apply pw_below_drewN | apply below_drew1) | exact HB.out)))); have n3_ := Aside0.mk (below_step (by repeat (first | (with_reducible first | exact HB.out | apply below_alloc | apply pw_below_drewN | apply below_drew1) | exact HB.out)) hb); clear HO_3; clear HO_7; clear HB; have HO_3 := n0_; have HO_7 := n1_; have HO287 := n2_; have HB := n3_; clear n0_ n1_ n2_ n3_; (try clear hb); (try clear hb2); (try clear hk); (try clear hi); (try clear ho0); obtain ⟨Ao51, co51, eo51⟩ := Kd.S_slice HO287.out; subst eo51) | (go_at_call 18; (with_reducible refine (tramwaylaw21_Same.calls kj20 _ _ t284 _ _ l0 true _ ?side1 ?side2 ?side3 ?side4 A44.out).mono ?_); (case side1 => repeat (first | exact (Kd.S_reads' HO287.out).2.2 | (with_reducible refine Kd.C_alloc ?_ _) | (with_reducible refine Kd.C_drewN ?_ _) | (with_reducible refine Kd.C_drew ?_))); (case side2 => exact (Kd.S_reads' HO287.out).2.1); (case side3 => repeat (first | exact (Kd.C_below HR0.out HB.out) | (with_reducible refine Kd.C_alloc ?_ _) | (with_reducible refine Kd.C_drewN ?_ _) | (with_reducible refine Kd.C_drew ?_))); (case side4 => exact HC0.out); rintro e w' ⟨rfl, ⟨nd, rfl⟩⟩; (try first | exact ⟨rfl, _, World.drewN_drewN _ _ _⟩ | exact ⟨rfl, _, Eq.trans (World.drewN_drewN _ _ _) (congrArg (World.drewN _) (Nat.add_assoc _ _ _))⟩); obtain ⟨Ao52, co52, eo52⟩ := Kd.S_slice HO_7.out; subst eo52) | (go_at_call 19; (with_reducible refine (tramwaylaw21_lives.calls kj20  t289 _ A48.out).mono ?_); rintro e w53 ⟨rfl, hb⟩; have n0_ := Aside0.mk (Kd.R_below (by (with_reducible repeat (first | apply Kd.R_alloc | apply Kd.R_drewN | apply Kd.R_drew)); exact HO_3.out) hb); have n1_ := Aside0.mk (Kd.S_below (by (with_reducible repeat (first | apply Kd.S_alloc | apply Kd.S_drewN | apply Kd.S_drew)); exact HO_7.out) hb); have n2_ := Aside0.mk (Kd.S_below (by (with_reducible repeat (first | apply Kd.S_alloc | apply Kd.S_drewN | apply Kd.S_drew)); exact HO287.out) hb); have n3_ := Aside0.mk (below_step (by repeat (first | (with_reducible first | exact HB.out | apply below_alloc | apply pw_below_drewN | apply below_drew1) | exact HB.out)) hb); clear HO_3; clear HO_7; clear HO287; clear HB; have HO_3 := n0_; have HO_7 := n1_; have HO287 := n2_; have HB := n3_; clear n0_ n1_ n2_ n3_; (try clear hb); (try clear hb2); (try clear hk); (try clear hi))); try go_wp2_with (first | (go_at_call 20; (with_reducible refine (dcf_Decode.calls _ _ t260 t284 t285 _ ?side1 ?side2 A43.out).mono ?_); (case side1 => repeat (first | exact (Kd.R_reads' HO_3.out).2.2 | (with_reducible refine Kd.C_alloc ?_ _) | (with_reducible refine Kd.C_drewN ?_ _) | (with_reducible refine Kd.C_drew ?_))); (case side2 => exact (Kd.R_reads' HO_3.out).2.1); rintro e w50 ⟨v286, rfl, ho0, hb⟩; have n0_ := Aside0.mk (Kd.R_below (by (with_reducible repeat (first | apply Kd.R_alloc | apply Kd.R_drewN | apply Kd.R_drew)); exact HO_3.out) hb); have n1_ := Aside0.mk (Kd.S_elder' (by (with_reducible repeat (first | apply Kd.S_alloc | apply Kd.S_drewN | apply Kd.S_drew)); exact HO_7.out) (Kd.S_base ho0) hb); have n2_ := Aside0.mk (Kd.S_lower (Kd.S_new' (Kd.S_new' ho0 (Kd.R_lt (by (with_reducible repeat (first | apply Kd.R_alloc | apply Kd.R_drewN | apply Kd.R_drew)); exact HO_3.out))) (Kd.S_lt (by (with_reducible repeat (first | apply Kd.S_alloc | apply Kd.S_drewN | apply Kd.S_drew)); exact HO_7.out))) (below_size (by repeat (first | (with_reducible first | exact HB.out | apply below_alloc | apply pw_below_drewN | apply below_drew1) | exact HB.out)))); have n3_ := Aside0.mk (below_step (by repeat (first | (with_reducible first | exact HB.out | apply below_alloc | apply pw_below_drewN | apply below_drew1) | exact HB.out)) hb); clear HO_3; clear HO_7; clear HB; have HO_3 := n0_; have HO_7 := n1_; have HO287 := n2_; have HB := n3_; clear n0_ n1_ n2_ n3_; (try clear hb); (try clear hb2); (try clear hk); (try clear hi); (try clear ho0); obtain ⟨Ao51, co51, eo51⟩ := Kd.S_slice HO287.out; subst eo51) | (go_at_call 18; (with_reducible refine (tramwaylaw21_Same.calls kj20 _ _ t284 _ _ l0 true _ ?side1 ?side2 ?side3 ?side4 A44.out).mono ?_); (case side1 => repeat (first | exact (Kd.S_reads' HO287.out).2.2 | (with_reducible refine Kd.C_alloc ?_ _) | (with_reducible refine Kd.C_drewN ?_ _) | (with_reducible refine Kd.C_drew ?_))); (case side2 => exact (Kd.S_reads' HO287.out).2.1); (case side3 => repeat (first | exact (Kd.C_below HR0.out HB.out) | (with_reducible refine Kd.C_alloc ?_ _) | (with_reducible refine Kd.C_drewN ?_ _) | (with_reducible refine Kd.C_drew ?_))); (case side4 => exact HC0.out); rintro e w' ⟨rfl, ⟨nd, rfl⟩⟩; (try first | exact ⟨rfl, _, World.drewN_drewN _ _ _⟩ | exact ⟨rfl, _, Eq.trans (World.drewN_drewN _ _ _) (congrArg (World.drewN _) (Nat.add_assoc _ _ _))⟩); obtain ⟨Ao52, co52, eo52⟩ := Kd.S_slice HO_7.out; subst eo52) | (go_at_call 19; (with_reducible refine (tramwaylaw21_lives.calls kj20  t289 _ A48.out).mono ?_); rintro e w53 ⟨rfl, hb⟩; have n0_ := Aside0.mk (Kd.R_below (by (with_reducible repeat (first | apply Kd.R_alloc | apply Kd.R_drewN | apply Kd.R_drew)); exact HO_3.out) hb); have n1_ := Aside0.mk (Kd.S_below (by (with_reducible repeat (first | apply Kd.S_alloc | apply Kd.S_drewN | apply Kd.S_drew)); exact HO_7.out) hb); have n2_ := Aside0.mk (Kd.S_below (by (with_reducible repeat (first | apply Kd.S_alloc | apply Kd.S_drewN | apply Kd.S_drew)); exact HO287.out) hb); have n3_ := Aside0.mk (below_step (by repeat (first | (with_reducible first | exact HB.out | apply below_alloc | apply pw_below_drewN | apply below_drew1) | exact HB.out)) hb); clear HO_3; clear HO_7; clear HO287; clear HB; have HO_3 := n0_; have HO_7 := n1_; have HO287 := n2_; have HB := n3_; clear n0_ n1_ n2_ n3_; (try clear hb); (try clear hb2); (try clear hk); (try clear hi))))
                          go_ret
                          exact ⟨by first | rfl | (simp [errW_none, errW_some] <;> rfl) | (simp [*, errW_none, errW_some] <;> rfl), by repeat (first | (with_reducible first | exact HB.out | apply below_alloc | apply pw_below_drewN | apply below_drew1) | exact HB.out)⟩
                        · rw [if_neg c47] at H
                          have c47b0 : (x8_2 == (t271.length : Int)) = false := beq_eq_false_iff_ne.mpr c47
                          have c47b1 : (x8_2 != (t271.length : Int)) = true := bne_iff_ne.mpr c47
                          obtain rfl := Option.some.inj H
                          obtain ⟨Ao54, co54, eo54⟩ := Kd.R_slice HO_3.out
                          subst eo54
                          go_wp2_with (first | (go_at_call 20; (with_reducible refine (dcf_Decode.calls _ _ t260 t284 t285 _ ?side1 ?side2 A43.out).mono ?_); (case side1 => repeat (first | exact (Kd.R_reads' HO_3.out).2.2 | (with_reducible refine Kd.C_alloc ?_ _) | (with_reducible refine Kd.C_drewN ?_ _) | (with_reducible refine Kd.C_drew ?_))); (case side2 => exact (Kd.R_reads' HO_3.out).2.1); rintro e w55 ⟨v286, rfl, ho0, hb⟩; have n0_ := Aside0.mk (Kd.R_below (by (with_reducible repeat (first | apply Kd.R_alloc | apply Kd.R_drewN | apply Kd.R_drew)); exact HO_3.out) hb); have n1_ := Aside0.mk (Kd.S_elder' (by (with_reducible repeat (first | apply Kd.S_alloc | apply Kd.S_drewN | apply Kd.S_drew)); exact HO_7.out) (Kd.S_base ho0) hb); have n2_ := Aside0.mk (Kd.S_lower (Kd.S_new' (Kd.S_new' ho0 (Kd.R_lt (by (with_reducible repeat (first | apply Kd.R_alloc | apply Kd.R_drewN | apply Kd.R_drew)); exact HO_3.out))) (Kd.S_lt (by (with_reducible repeat (first | apply Kd.S_alloc | apply Kd.S_drewN | apply Kd.S_drew)); exact HO_7.out))) (below_size (by repeat (first | (with_reducible first | exact HB.out | apply below_alloc | apply pw_below_drewN | apply below_drew1) | exact HB.out)))); have n3_ := Aside0.mk (below_step (by repeat (first | (with_reducible first | exact HB.out | apply below_alloc | apply pw_below_drewN | apply below_drew1) | exact HB.out)) hb); clear HO_3; clear HO_7; clear HB; have HO_3 := n0_; have HO_7 := n1_; have HO287 := n2_; have HB := n3_; clear n0_ n1_ n2_ n3_; (try clear hb); (try clear hb2); (try clear hk); (try clear hi); (try clear ho0); obtain ⟨Ao56, co56, eo56⟩ := Kd.S_slice HO287.out; subst eo56) | (go_at_call 18; (with_reducible refine (tramwaylaw21_Same.calls kj20 _ _ t284 _ _ l0 true _ ?side1 ?side2 ?side3 ?side4 A44.out).mono ?_); (case side1 => repeat (first | exact (Kd.S_reads' HO287.out).2.2 | (with_reducible refine Kd.C_alloc ?_ _) | (with_reducible refine Kd.C_drewN ?_ _) | (with_reducible refine Kd.C_drew ?_))); (case side2 => exact (Kd.S_reads' HO287.out).2.1); (case side3 => repeat (first | exact (Kd.C_below HR0.out HB.out) | (with_reducible refine Kd.C_alloc ?_ _) | (with_reducible refine Kd.C_drewN ?_ _) | (with_reducible refine Kd.C_drew ?_))); (case side4 => exact HC0.out); rintro e w' ⟨rfl, ⟨nd, rfl⟩⟩; (try first | exact ⟨rfl, _, World.drewN_drewN _ _ _⟩ | exact ⟨rfl, _, Eq.trans (World.drewN_drewN _ _ _) (congrArg (World.drewN _) (Nat.add_assoc _ _ _))⟩); obtain ⟨Ao57, co57, eo57⟩ := Kd.S_slice HO_7.out; subst eo57))
                          repeat (go_quiet (first | (go_at_call 20; (with_reducible refine (dcf_Decode.calls _ _ t260 t284 t285 _ ?side1 ?side2 A43.out).mono ?_); (case side1 => repeat (first | exact (Kd.R_reads' HO_3.out).2.2 | (with_reducible refine Kd.C_alloc ?_ _) | (with_reducible refine Kd.C_drewN ?_ _) | (with_reducible refine Kd.C_drew ?_))); (case side2 => exact (Kd.R_reads' HO_3.out).2.1); rintro e w55 ⟨v286, rfl, ho0, hb⟩; have n0_ := Aside0.mk (Kd.R_below (by (with_reducible repeat (first | apply Kd.R_alloc | apply Kd.R_drewN | apply Kd.R_drew)); exact HO_3.out) hb); have n1_ := Aside0.mk (Kd.S_elder' (by (with_reducible repeat (first | apply Kd.S_alloc | apply Kd.S_drewN | apply Kd.S_drew)); exact HO_7.out) (Kd.S_base ho0) hb); have n2_ := Aside0.mk (Kd.S_lower (Kd.S_new' (Kd.S_new' ho0 (Kd.R_lt (by (with_reducible repeat (first | apply Kd.R_alloc | apply Kd.R_drewN | apply Kd.R_drew)); exact HO_3.out))) (Kd.S_lt (by (with_reducible repeat (first | apply Kd.S_alloc | apply Kd.S_drewN | apply Kd.S_drew)); exact HO_7.out))) (below_size (by repeat (first | (with_reducible first | exact HB.out | apply below_alloc | apply pw_below_drewN | apply below_drew1) | exact HB.out)))); have n3_ := Aside0.mk (below_step (by repeat (first | (with_reducible first | exact HB.out | apply below_alloc | apply pw_below_drewN | apply below_drew1) | exact HB.out)) hb); clear HO_3; clear HO_7; clear HB; have HO_3 := n0_; have HO_7 := n1_; have HO287 := n2_; have HB := n3_; clear n0_ n1_ n2_ n3_; (try clear hb); (try clear hb2); (try clear hk); (try clear hi); (try clear ho0); obtain ⟨Ao56, co56, eo56⟩ := Kd.S_slice HO287.out; subst eo56) | (go_at_call 18; (with_reducible refine (tramwaylaw21_Same.calls kj20 _ _ t284 _ _ l0 true _ ?side1 ?side2 ?side3 ?side4 A44.out).mono ?_); (case side1 => repeat (first | exact (Kd.S_reads' HO287.out).2.2 | (with_reducible refine Kd.C_alloc ?_ _) | (with_reducible refine Kd.C_drewN ?_ _) | (with_reducible refine Kd.C_drew ?_))); (case side2 => exact (Kd.S_reads' HO287.out).2.1); (case side3 => repeat (first | exact (Kd.C_below HR0.out HB.out) | (with_reducible refine Kd.C_alloc ?_ _) | (with_reducible refine Kd.C_drewN ?_ _) | (with_reducible refine Kd.C_drew ?_))); (case side4 => exact HC0.out); rintro e w' ⟨rfl, ⟨nd, rfl⟩⟩; (try first | exact ⟨rfl, _, World.drewN_drewN _ _ _⟩ | exact ⟨rfl, _, Eq.trans (World.drewN_drewN _ _ _) (congrArg (World.drewN _) (Nat.add_assoc _ _ _))⟩); obtain ⟨Ao57, co57, eo57⟩ := Kd.S_slice HO_7.out; subst eo57)); try go_wp2_with (first | (go_at_call 20; (with_reducible refine (dcf_Decode.calls _ _ t260 t284 t285 _ ?side1 ?side2 A43.out).mono ?_); (case side1 => repeat (first | exact (Kd.R_reads' HO_3.out).2.2 | (with_reducible refine Kd.C_alloc ?_ _) | (with_reducible refine Kd.C_drewN ?_ _) | (with_reducible refine Kd.C_drew ?_))); (case side2 => exact (Kd.R_reads' HO_3.out).2.1); rintro e w55 ⟨v286, rfl, ho0, hb⟩; have n0_ := Aside0.mk (Kd.R_below (by (with_reducible repeat (first | apply Kd.R_alloc | apply Kd.R_drewN | apply Kd.R_drew)); exact HO_3.out) hb); have n1_ := Aside0.mk (Kd.S_elder' (by (with_reducible repeat (first | apply Kd.S_alloc | apply Kd.S_drewN | apply Kd.S_drew)); exact HO_7.out) (Kd.S_base ho0) hb); have n2_ := Aside0.mk (Kd.S_lower (Kd.S_new' (Kd.S_new' ho0 (Kd.R_lt (by (with_reducible repeat (first | apply Kd.R_alloc | apply Kd.R_drewN | apply Kd.R_drew)); exact HO_3.out))) (Kd.S_lt (by (with_reducible repeat (first | apply Kd.S_alloc | apply Kd.S_drewN | apply Kd.S_drew)); exact HO_7.out))) (below_size (by repeat (first | (with_reducible first | exact HB.out | apply below_alloc | apply pw_below_drewN | apply below_drew1) | exact HB.out)))); have n3_ := Aside0.mk (below_step (by repeat (first | (with_reducible first | exact HB.out | apply below_alloc | apply pw_below_drewN | apply below_drew1) | exact HB.out)) hb); clear HO_3; clear HO_7; clear HB; have HO_3 := n0_; have HO_7 := n1_; have HO287 := n2_; have HB := n3_; clear n0_ n1_ n2_ n3_; (try clear hb); (try clear hb2); (try clear hk); (try clear hi); (try clear ho0); obtain ⟨Ao56, co56, eo56⟩ := Kd.S_slice HO287.out; subst eo56) | (go_at_call 18; (with_reducible refine (tramwaylaw21_Same.calls kj20 _ _ t284 _ _ l0 true _ ?side1 ?side2 ?side3 ?side4 A44.out).mono ?_); (case side1 => repeat (first | exact (Kd.S_reads' HO287.out).2.2 | (with_reducible refine Kd.C_alloc ?_ _) | (with_reducible refine Kd.C_drewN ?_ _) | (with_reducible refine Kd.C_drew ?_))); (case side2 => exact (Kd.S_reads' HO287.out).2.1); (case side3 => repeat (first | exact (Kd.C_below HR0.out HB.out) | (with_reducible refine Kd.C_alloc ?_ _) | (with_reducible refine Kd.C_drewN ?_ _) | (with_reducible refine Kd.C_drew ?_))); (case side4 => exact HC0.out); rintro e w' ⟨rfl, ⟨nd, rfl⟩⟩; (try first | exact ⟨rfl, _, World.drewN_drewN _ _ _⟩ | exact ⟨rfl, _, Eq.trans (World.drewN_drewN _ _ _) (congrArg (World.drewN _) (Nat.add_assoc _ _ _))⟩); obtain ⟨Ao57, co57, eo57⟩ := Kd.S_slice HO_7.out; subst eo57)))
                          go_ret
                          exact ⟨by first | rfl | (simp [errW_none, errW_some] <;> rfl) | (simp [*, errW_none, errW_some] <;> rfl), by repeat (first | (with_reducible first | exact HB.out | apply below_alloc | apply pw_below_drewN | apply below_drew1) | exact HB.out)⟩
                      · rw [if_neg c46] at H
                        have c46b0 : (t285 == 0) = false := beq_eq_false_iff_ne.mpr c46
                        have c46b1 : (t285 != 0) = true := bne_iff_ne.mpr c46
                        obtain rfl := Option.some.inj H
                        obtain ⟨Ao58, co58, eo58⟩ := Kd.R_slice HO_3.out
                        subst eo58
                        go_wp2_with (first | (go_at_call 20; (with_reducible refine (dcf_Decode.calls _ _ t260 t284 t285 _ ?side1 ?side2 A43.out).mono ?_); (case side1 => repeat (first | exact (Kd.R_reads' HO_3.out).2.2 | (with_reducible refine Kd.C_alloc ?_ _) | (with_reducible refine Kd.C_drewN ?_ _) | (with_reducible refine Kd.C_drew ?_))); (case side2 => exact (Kd.R_reads' HO_3.out).2.1); rintro e w59 ⟨v286, rfl, ho0, hb⟩; have n0_ := Aside0.mk (Kd.R_below (by (with_reducible repeat (first | apply Kd.R_alloc | apply Kd.R_drewN | apply Kd.R_drew)); exact HO_3.out) hb); have n1_ := Aside0.mk (Kd.S_elder' (by (with_reducible repeat (first | apply Kd.S_alloc | apply Kd.S_drewN | apply Kd.S_drew)); exact HO_7.out) (Kd.S_base ho0) hb); have n2_ := Aside0.mk (Kd.S_lower (Kd.S_new' (Kd.S_new' ho0 (Kd.R_lt (by (with_reducible repeat (first | apply Kd.R_alloc | apply Kd.R_drewN | apply Kd.R_drew)); exact HO_3.out))) (Kd.S_lt (by (with_reducible repeat (first | apply Kd.S_alloc | apply Kd.S_drewN | apply Kd.S_drew)); exact HO_7.out))) (below_size (by repeat (first | (with_reducible first | exact HB.out | apply below_alloc | apply pw_below_drewN | apply below_drew1) | exact HB.out)))); have n3_ := Aside0.mk (below_step (by repeat (first | (with_reducible first | exact HB.out | apply below_alloc | apply pw_below_drewN | apply below_drew1) | exact HB.out)) hb); clear HO_3; clear HO_7; clear HB; have HO_3 := n0_; have HO_7 := n1_; have HO287 := n2_; have HB := n3_; clear n0_ n1_ n2_ n3_; (try clear hb); (try clear hb2); (try clear hk); (try clear hi); (try clear ho0); obtain ⟨Ao60, co60, eo60⟩ := Kd.S_slice HO287.out; subst eo60) | (go_at_call 18; (with_reducible refine (tramwaylaw21_Same.calls kj20 _ _ t284 _ _ l0 true _ ?side1 ?side2 ?side3 ?side4 A44.out).mono ?_); (case side1 => repeat (first | exact (Kd.S_reads' HO287.out).2.2 | (with_reducible refine Kd.C_alloc ?_ _) | (with_reducible refine Kd.C_drewN ?_ _) | (with_reducible refine Kd.C_drew ?_))); (case side2 => exact (Kd.S_reads' HO287.out).2.1); (case side3 => repeat (first | exact (Kd.C_below HR0.out HB.out) | (with_reducible refine Kd.C_alloc ?_ _) | (with_reducible refine Kd.C_drewN ?_ _) | (with_reducible refine Kd.C_drew ?_))); (case side4 => exact HC0.out); rintro e w' ⟨rfl, ⟨nd, rfl⟩⟩; (try first | exact ⟨rfl, _, World.drewN_drewN _ _ _⟩ | exact ⟨rfl, _, Eq.trans (World.drewN_drewN _ _ _) (congrArg (World.drewN _) (Nat.add_assoc _ _ _))⟩)))
                        repeat (go_quiet (first | (go_at_call 20; (with_reducible refine (dcf_Decode.calls _ _ t260 t284 t285 _ ?side1 ?side2 A43.out).mono ?_); (case side1 => repeat (first | exact (Kd.R_reads' HO_3.out).2.2 | (with_reducible refine Kd.C_alloc ?_ _) | (with_reducible refine Kd.C_drewN ?_ _) | (with_reducible refine Kd.C_drew ?_))); (case side2 => exact (Kd.R_reads' HO_3.out).2.1); rintro e w59 ⟨v286, rfl, ho0, hb⟩; have n0_ := Aside0.mk (Kd.R_below (by (with_reducible repeat (first | apply Kd.R_alloc | apply Kd.R_drewN | apply Kd.R_drew)); exact HO_3.out) hb); have n1_ := Aside0.mk (Kd.S_elder' (by (with_reducible repeat (first | apply Kd.S_alloc | apply Kd.S_drewN | apply Kd.S_drew)); exact HO_7.out) (Kd.S_base ho0) hb); have n2_ := Aside0.mk (Kd.S_lower (Kd.S_new' (Kd.S_new' ho0 (Kd.R_lt (by (with_reducible repeat (first | apply Kd.R_alloc | apply Kd.R_drewN | apply Kd.R_drew)); exact HO_3.out))) (Kd.S_lt (by (with_reducible repeat (first | apply Kd.S_alloc | apply Kd.S_drewN | apply Kd.S_drew)); exact HO_7.out))) (below_size (by repeat (first | (with_reducible first | exact HB.out | apply below_alloc | apply pw_below_drewN | apply below_drew1) | exact HB.out)))); have n3_ := Aside0.mk (below_step (by repeat (first | (with_reducible first | exact HB.out | apply below_alloc | apply pw_below_drewN | apply below_drew1) | exact HB.out)) hb); clear HO_3; clear HO_7; clear HB; have HO_3 := n0_; have HO_7 := n1_; have HO287 := n2_; have HB := n3_; clear n0_ n1_ n2_ n3_; (try clear hb); (try clear hb2); (try clear hk); (try clear hi); (try clear ho0); obtain ⟨Ao60, co60, eo60⟩ := Kd.S_slice HO287.out; subst eo60) | (go_at_call 18; (with_reducible refine (tramwaylaw21_Same.calls kj20 _ _ t284 _ _ l0 true _ ?side1 ?side2 ?side3 ?side4 A44.out).mono ?_); (case side1 => repeat (first | exact (Kd.S_reads' HO287.out).2.2 | (with_reducible refine Kd.C_alloc ?_ _) | (with_reducible refine Kd.C_drewN ?_ _) | (with_reducible refine Kd.C_drew ?_))); (case side2 => exact (Kd.S_reads' HO287.out).2.1); (case side3 => repeat (first | exact (Kd.C_below HR0.out HB.out) | (with_reducible refine Kd.C_alloc ?_ _) | (with_reducible refine Kd.C_drewN ?_ _) | (with_reducible refine Kd.C_drew ?_))); (case side4 => exact HC0.out); rintro e w' ⟨rfl, ⟨nd, rfl⟩⟩; (try first | exact ⟨rfl, _, World.drewN_drewN _ _ _⟩ | exact ⟨rfl, _, Eq.trans (World.drewN_drewN _ _ _) (congrArg (World.drewN _) (Nat.add_assoc _ _ _))⟩))); try go_wp2_with (first | (go_at_call 20; (with_reducible refine (dcf_Decode.calls _ _ t260 t284 t285 _ ?side1 ?side2 A43.out).mono ?_); (case side1 => repeat (first | exact (Kd.R_reads' HO_3.out).2.2 | (with_reducible refine Kd.C_alloc ?_ _) | (with_reducible refine Kd.C_drewN ?_ _) | (with_reducible refine Kd.C_drew ?_))); (case side2 => exact (Kd.R_reads' HO_3.out).2.1); rintro e w59 ⟨v286, rfl, ho0, hb⟩; have n0_ := Aside0.mk (Kd.R_below (by (with_reducible repeat (first | apply Kd.R_alloc | apply Kd.R_drewN | apply Kd.R_drew)); exact HO_3.out) hb); have n1_ := Aside0.mk (Kd.S_elder' (by (with_reducible repeat (first | apply Kd.S_alloc | apply Kd.S_drewN | apply Kd.S_drew)); exact HO_7.out) (Kd.S_base ho0) hb); have n2_ := Aside0.mk (Kd.S_lower (Kd.S_new' (Kd.S_new' ho0 (Kd.R_lt (by (with_reducible repeat (first | apply Kd.R_alloc | apply Kd.R_drewN | apply Kd.R_drew)); exact HO_3.out))) (Kd.S_lt (by (with_reducible repeat (first | apply Kd.S_alloc | apply Kd.S_drewN | apply Kd.S_drew)); exact HO_7.out))) (below_size (by repeat (first | (with_reducible first | exact HB.out | apply below_alloc | apply pw_below_drewN | apply below_drew1) | exact HB.out)))); have n3_ := Aside0.mk (below_step (by repeat (first | (with_reducible first | exact HB.out | apply below_alloc | apply pw_below_drewN | apply below_drew1) | exact HB.out)) hb); clear HO_3; clear HO_7; clear HB; have HO_3 := n0_; have HO_7 := n1_; have HO287 := n2_; have HB := n3_; clear n0_ n1_ n2_ n3_; (try clear hb); (try clear hb2); (try clear hk); (try clear hi); (try clear ho0); obtain ⟨Ao60, co60, eo60⟩ := Kd.S_slice HO287.out; subst eo60) | (go_at_call 18; (with_reducible refine (tramwaylaw21_Same.calls kj20 _ _ t284 _ _ l0 true _ ?side1 ?side2 ?side3 ?side4 A44.out).mono ?_); (case side1 => repeat (first | exact (Kd.S_reads' HO287.out).2.2 | (with_reducible refine Kd.C_alloc ?_ _) | (with_reducible refine Kd.C_drewN ?_ _) | (with_reducible refine Kd.C_drew ?_))); (case side2 => exact (Kd.S_reads' HO287.out).2.1); (case side3 => repeat (first | exact (Kd.C_below HR0.out HB.out) | (with_reducible refine Kd.C_alloc ?_ _) | (with_reducible refine Kd.C_drewN ?_ _) | (with_reducible refine Kd.C_drew ?_))); (case side4 => exact HC0.out); rintro e w' ⟨rfl, ⟨nd, rfl⟩⟩; (try first | exact ⟨rfl, _, World.drewN_drewN _ _ _⟩ | exact ⟨rfl, _, Eq.trans (World.drewN_drewN _ _ _) (congrArg (World.drewN _) (Nat.add_assoc _ _ _))⟩))))
                        go_ret
                        exact ⟨by first | rfl | (simp [errW_none, errW_some] <;> rfl) | (simp [*, errW_none, errW_some] <;> rfl), by repeat (first | (with_reducible first | exact HB.out | apply below_alloc | apply pw_below_drewN | apply below_drew1) | exact HB.out)⟩
                    · replace c45 := Bool.eq_false_iff.mpr c45
                      subst c45
                      have H1 : (some false) = some r := by rw [if_neg (show ¬ (false = true) by decide)] at H; exact H
                      clear H
                      have H := H1
                      clear H1
                      obtain rfl := Option.some.inj H
                      obtain ⟨Ao61, co61, eo61⟩ := Kd.R_slice HO_3.out
                      subst eo61
                      go_wp2_with (first | (go_at_call 20; (with_reducible refine (dcf_Decode.calls _ _ t260 t284 t285 _ ?side1 ?side2 A43.out).mono ?_); (case side1 => repeat (first | exact (Kd.R_reads' HO_3.out).2.2 | (with_reducible refine Kd.C_alloc ?_ _) | (with_reducible refine Kd.C_drewN ?_ _) | (with_reducible refine Kd.C_drew ?_))); (case side2 => exact (Kd.R_reads' HO_3.out).2.1); rintro e w62 ⟨v286, rfl, ho0, hb⟩; have n0_ := Aside0.mk (Kd.R_below (by (with_reducible repeat (first | apply Kd.R_alloc | apply Kd.R_drewN | apply Kd.R_drew)); exact HO_3.out) hb); have n1_ := Aside0.mk (Kd.S_elder' (by (with_reducible repeat (first | apply Kd.S_alloc | apply Kd.S_drewN | apply Kd.S_drew)); exact HO_7.out) (Kd.S_base ho0) hb); have n2_ := Aside0.mk (Kd.S_lower (Kd.S_new' (Kd.S_new' ho0 (Kd.R_lt (by (with_reducible repeat (first | apply Kd.R_alloc | apply Kd.R_drewN | apply Kd.R_drew)); exact HO_3.out))) (Kd.S_lt (by (with_reducible repeat (first | apply Kd.S_alloc | apply Kd.S_drewN | apply Kd.S_drew)); exact HO_7.out))) (below_size (by repeat (first | (with_reducible first | exact HB.out | apply below_alloc | apply pw_below_drewN | apply below_drew1) | exact HB.out)))); have n3_ := Aside0.mk (below_step (by repeat (first | (with_reducible first | exact HB.out | apply below_alloc | apply pw_below_drewN | apply below_drew1) | exact HB.out)) hb); clear HO_3; clear HO_7; clear HB; have HO_3 := n0_; have HO_7 := n1_; have HO287 := n2_; have HB := n3_; clear n0_ n1_ n2_ n3_; (try clear hb); (try clear hb2); (try clear hk); (try clear hi); (try clear ho0); obtain ⟨Ao63, co63, eo63⟩ := Kd.S_slice HO287.out; subst eo63) | (go_at_call 18; (with_reducible refine (tramwaylaw21_Same.calls kj20 _ _ t284 _ _ l0 false _ ?side1 ?side2 ?side3 ?side4 A44.out).mono ?_); (case side1 => repeat (first | exact (Kd.S_reads' HO287.out).2.2 | (with_reducible refine Kd.C_alloc ?_ _) | (with_reducible refine Kd.C_drewN ?_ _) | (with_reducible refine Kd.C_drew ?_))); (case side2 => exact (Kd.S_reads' HO287.out).2.1); (case side3 => repeat (first | exact (Kd.C_below HR0.out HB.out) | (with_reducible refine Kd.C_alloc ?_ _) | (with_reducible refine Kd.C_drewN ?_ _) | (with_reducible refine Kd.C_drew ?_))); (case side4 => exact HC0.out); rintro e w' ⟨rfl, ⟨nd, rfl⟩⟩; (try first | exact ⟨rfl, _, World.drewN_drewN _ _ _⟩ | exact ⟨rfl, _, Eq.trans (World.drewN_drewN _ _ _) (congrArg (World.drewN _) (Nat.add_assoc _ _ _))⟩)))
                      repeat (go_quiet (first | (go_at_call 20; (with_reducible refine (dcf_Decode.calls _ _ t260 t284 t285 _ ?side1 ?side2 A43.out).mono ?_); (case side1 => repeat (first | exact (Kd.R_reads' HO_3.out).2.2 | (with_reducible refine Kd.C_alloc ?_ _) | (with_reducible refine Kd.C_drewN ?_ _) | (with_reducible refine Kd.C_drew ?_))); (case side2 => exact (Kd.R_reads' HO_3.out).2.1); rintro e w62 ⟨v286, rfl, ho0, hb⟩; have n0_ := Aside0.mk (Kd.R_below (by (with_reducible repeat (first | apply Kd.R_alloc | apply Kd.R_drewN | apply Kd.R_drew)); exact HO_3.out) hb); have n1_ := Aside0.mk (Kd.S_elder' (by (with_reducible repeat (first | apply Kd.S_alloc | apply Kd.S_drewN | apply Kd.S_drew)); exact HO_7.out) (Kd.S_base ho0) hb); have n2_ := Aside0.mk (Kd.S_lower (Kd.S_new' (Kd.S_new' ho0 (Kd.R_lt (by (with_reducible repeat (first | apply Kd.R_alloc | apply Kd.R_drewN | apply Kd.R_drew)); exact HO_3.out))) (Kd.S_lt (by (with_reducible repeat (first | apply Kd.S_alloc | apply Kd.S_drewN | apply Kd.S_drew)); exact HO_7.out))) (below_size (by repeat (first | (with_reducible first | exact HB.out | apply below_alloc | apply pw_below_drewN | apply below_drew1) | exact HB.out)))); have n3_ := Aside0.mk (below_step (by repeat (first | (with_reducible first | exact HB.out | apply below_alloc | apply pw_below_drewN | apply below_drew1) | exact HB.out)) hb); clear HO_3; clear HO_7; clear HB; have HO_3 := n0_; have HO_7 := n1_; have HO287 := n2_; have HB := n3_; clear n0_ n1_ n2_ n3_; (try clear hb); (try clear hb2); (try clear hk); (try clear hi); (try clear ho0); obtain ⟨Ao63, co63, eo63⟩ := Kd.S_slice HO287.out; subst eo63) | (go_at_call 18; (with_reducible refine (tramwaylaw21_Same.calls kj20 _ _ t284 _ _ l0 false _ ?side1 ?side2 ?side3 ?side4 A44.out).mono ?_); (case side1 => repeat (first | exact (Kd.S_reads' HO287.out).2.2 | (with_reducible refine Kd.C_alloc ?_ _) | (with_reducible refine Kd.C_drewN ?_ _) | (with_reducible refine Kd.C_drew ?_))); (case side2 => exact (Kd.S_reads' HO287.out).2.1); (case side3 => repeat (first | exact (Kd.C_below HR0.out HB.out) | (with_reducible refine Kd.C_alloc ?_ _) | (with_reducible refine Kd.C_drewN ?_ _) | (with_reducible refine Kd.C_drew ?_))); (case side4 => exact HC0.out); rintro e w' ⟨rfl, ⟨nd, rfl⟩⟩; (try first | exact ⟨rfl, _, World.drewN_drewN _ _ _⟩ | exact ⟨rfl, _, Eq.trans (World.drewN_drewN _ _ _) (congrArg (World.drewN _) (Nat.add_assoc _ _ _))⟩))); try go_wp2_with (first | (go_at_call 20; (with_reducible refine (dcf_Decode.calls _ _ t260 t284 t285 _ ?side1 ?side2 A43.out).mono ?_); (case side1 => repeat (first | exact (Kd.R_reads' HO_3.out).2.2 | (with_reducible refine Kd.C_alloc ?_ _) | (with_reducible refine Kd.C_drewN ?_ _) | (with_reducible refine Kd.C_drew ?_))); (case side2 => exact (Kd.R_reads' HO_3.out).2.1); rintro e w62 ⟨v286, rfl, ho0, hb⟩; have n0_ := Aside0.mk (Kd.R_below (by (with_reducible repeat (first | apply Kd.R_alloc | apply Kd.R_drewN | apply Kd.R_drew)); exact HO_3.out) hb); have n1_ := Aside0.mk (Kd.S_elder' (by (with_reducible repeat (first | apply Kd.S_alloc | apply Kd.S_drewN | apply Kd.S_drew)); exact HO_7.out) (Kd.S_base ho0) hb); have n2_ := Aside0.mk (Kd.S_lower (Kd.S_new' (Kd.S_new' ho0 (Kd.R_lt (by (with_reducible repeat (first | apply Kd.R_alloc | apply Kd.R_drewN | apply Kd.R_drew)); exact HO_3.out))) (Kd.S_lt (by (with_reducible repeat (first | apply Kd.S_alloc | apply Kd.S_drewN | apply Kd.S_drew)); exact HO_7.out))) (below_size (by repeat (first | (with_reducible first | exact HB.out | apply below_alloc | apply pw_below_drewN | apply below_drew1) | exact HB.out)))); have n3_ := Aside0.mk (below_step (by repeat (first | (with_reducible first | exact HB.out | apply below_alloc | apply pw_below_drewN | apply below_drew1) | exact HB.out)) hb); clear HO_3; clear HO_7; clear HB; have HO_3 := n0_; have HO_7 := n1_; have HO287 := n2_; have HB := n3_; clear n0_ n1_ n2_ n3_; (try clear hb); (try clear hb2); (try clear hk); (try clear hi); (try clear ho0); obtain ⟨Ao63, co63, eo63⟩ := Kd.S_slice HO287.out; subst eo63) | (go_at_call 18; (with_reducible refine (tramwaylaw21_Same.calls kj20 _ _ t284 _ _ l0 false _ ?side1 ?side2 ?side3 ?side4 A44.out).mono ?_); (case side1 => repeat (first | exact (Kd.S_reads' HO287.out).2.2 | (with_reducible refine Kd.C_alloc ?_ _) | (with_reducible refine Kd.C_drewN ?_ _) | (with_reducible refine Kd.C_drew ?_))); (case side2 => exact (Kd.S_reads' HO287.out).2.1); (case side3 => repeat (first | exact (Kd.C_below HR0.out HB.out) | (with_reducible refine Kd.C_alloc ?_ _) | (with_reducible refine Kd.C_drewN ?_ _) | (with_reducible refine Kd.C_drew ?_))); (case side4 => exact HC0.out); rintro e w' ⟨rfl, ⟨nd, rfl⟩⟩; (try first | exact ⟨rfl, _, World.drewN_drewN _ _ _⟩ | exact ⟨rfl, _, Eq.trans (World.drewN_drewN _ _ _) (congrArg (World.drewN _) (Nat.add_assoc _ _ _))⟩))))
                      go_ret
                      exact ⟨by first | rfl | (simp [errW_none, errW_some] <;> rfl) | (simp [*, errW_none, errW_some] <;> rfl), by repeat (first | (with_reducible first | exact HB.out | apply below_alloc | apply pw_below_drewN | apply below_drew1) | exact HB.out)⟩
                  · rw [if_neg c42] at H
                    have c42b0 : (t261 == 0) = false := beq_eq_false_iff_ne.mpr c42
                    have c42b1 : (t261 != 0) = true := bne_iff_ne.mpr c42
                    replace H := Option.bind_eq_some_iff.mp H
                    obtain ⟨t290, A640, H⟩ := H
                    replace H : (some t290) = some r := H
                    have A64 := Aside0.mk A640
                    clear A640
                    obtain rfl := Option.some.inj H
                    go_wp2_with (first | (go_at_call 19; (with_reducible refine (tramwaylaw21_lives.calls kj20  t290 _ A64.out).mono ?_); rintro e w65 ⟨rfl, hb⟩; have n0_ := Aside0.mk (Kd.R_below (by (with_reducible repeat (first | apply Kd.R_alloc | apply Kd.R_drewN | apply Kd.R_drew)); exact HO_3.out) hb); have n1_ := Aside0.mk (Kd.S_below (by (with_reducible repeat (first | apply Kd.S_alloc | apply Kd.S_drewN | apply Kd.S_drew)); exact HO_7.out) hb); have n2_ := Aside0.mk (below_step (by repeat (first | (with_reducible first | exact HB.out | apply below_alloc | apply pw_below_drewN | apply below_drew1) | exact HB.out)) hb); clear HO_3; clear HO_7; clear HB; have HO_3 := n0_; have HO_7 := n1_; have HB := n2_; clear n0_ n1_ n2_; (try clear hb); (try clear hb2); (try clear hk); (try clear hi)))
                    repeat (go_quiet (first | (go_at_call 19; (with_reducible refine (tramwaylaw21_lives.calls kj20  t290 _ A64.out).mono ?_); rintro e w65 ⟨rfl, hb⟩; have n0_ := Aside0.mk (Kd.R_below (by (with_reducible repeat (first | apply Kd.R_alloc | apply Kd.R_drewN | apply Kd.R_drew)); exact HO_3.out) hb); have n1_ := Aside0.mk (Kd.S_below (by (with_reducible repeat (first | apply Kd.S_alloc | apply Kd.S_drewN | apply Kd.S_drew)); exact HO_7.out) hb); have n2_ := Aside0.mk (below_step (by repeat (first | (with_reducible first | exact HB.out | apply below_alloc | apply pw_below_drewN | apply below_drew1) | exact HB.out)) hb); clear HO_3; clear HO_7; clear HB; have HO_3 := n0_; have HO_7 := n1_; have HB := n2_; clear n0_ n1_ n2_; (try clear hb); (try clear hb2); (try clear hk); (try clear hi))); try go_wp2_with (first | (go_at_call 19; (with_reducible refine (tramwaylaw21_lives.calls kj20  t290 _ A64.out).mono ?_); rintro e w65 ⟨rfl, hb⟩; have n0_ := Aside0.mk (Kd.R_below (by (with_reducible repeat (first | apply Kd.R_alloc | apply Kd.R_drewN | apply Kd.R_drew)); exact HO_3.out) hb); have n1_ := Aside0.mk (Kd.S_below (by (with_reducible repeat (first | apply Kd.S_alloc | apply Kd.S_drewN | apply Kd.S_drew)); exact HO_7.out) hb); have n2_ := Aside0.mk (below_step (by repeat (first | (with_reducible first | exact HB.out | apply below_alloc | apply pw_below_drewN | apply below_drew1) | exact HB.out)) hb); clear HO_3; clear HO_7; clear HB; have HO_3 := n0_; have HO_7 := n1_; have HB := n2_; clear n0_ n1_ n2_; (try clear hb); (try clear hb2); (try clear hk); (try clear hi))))
                    go_ret
                    exact ⟨by first | rfl | (simp [errW_none, errW_some] <;> rfl) | (simp [*, errW_none, errW_some] <;> rfl), by repeat (first | (with_reducible first | exact HB.out | apply below_alloc | apply pw_below_drewN | apply below_drew1) | exact HB.out)⟩

end Go.Proofs.Yteefnclkcnkbhaa.GDcfEncodes
