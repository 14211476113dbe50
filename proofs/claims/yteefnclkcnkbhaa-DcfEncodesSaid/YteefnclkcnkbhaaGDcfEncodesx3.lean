-- written by gen.py over print.py's words; hand-written sections are marked so
import Derived.LoopIn
import Derived.LoopNIn
import Derived.TacticsInMore
import Derived.OwnWalkIn
import Derived.Shelf.Abstract
import Derived.RangeFuncLeaves
import Derived.RangeFuncCalls
import Derived.RangeFuncBound
import Derived.RangeFuncNested
import Derived.Test.YteefnclkcnkbhaaMapW
import Derived.Lib.SliceRun
import Derived.Test.YteefnclkcnkbhaaGDcfEncodesx0
namespace Go.Proofs.Yteefnclkcnkbhaa.GDcfEncodes
open Go.RowKit Go.Proofs.YteefnclkcnkbhaaW.PrintWords Go.Proofs.YteefnclkcnkbhaaW.PrintLast Go.Proofs.YteefnclkcnkbhaaW.PrintMore
attribute [local go_sem] max2_int min2_int max_two min_two max_three min_three max_four min_four   -- for this text's walks alone
set_option linter.unusedVariables false
set_option linter.unusedSimpArgs false

-- NOT PRINTED: function 115 (api_Item_115)

/-! ### slices_Reverse_int_int: function 116 -/
def slices_Reverse_int_int.l0 : Nat → List Int → Int → Int → Option (List Int)
  | 0, _, _, _ => none
  | k + 1, x0, x2, x3 => if x2 < x3 then (if 0 ≤ x3 then (if x3 < (x0.length : Int) then (if 0 ≤ x2 then (if x2 < (x0.length : Int) then (slices_Reverse_int_int.l0 k ((x0.set (x2 : Int).toNat (rd x0 x3)).set (x3 : Int).toNat (rd x0 x2)) (wrap64 (x2 + 1)) (wrap64 (x3 - 1))) else (none)) else (none)) else (none)) else (none)) else (some x0)
def slices_Reverse_int_int.f (k : Nat) (l0 : List Int) : Option (List Int) := slices_Reverse_int_int.l0 k l0 0 (wrap64 ((l0.length : Int) - 1))
theorem slices_Reverse_int_int.mono_l : ∀ k, (∀ y0 y1 y2, LeO (slices_Reverse_int_int.l0 k y0 y1 y2) (slices_Reverse_int_int.l0 (k + 1) y0 y1 y2))
  | 0 => fun _ _ _ r h => by simp [slices_Reverse_int_int.l0] at h
  | k + 1 => by
    have ih0 := slices_Reverse_int_int.mono_l k
    · intro y0 y1 y2
      unfold slices_Reverse_int_int.l0
      repeat' first
      | (with_reducible exact ih0 _ _ _)
      | (with_reducible exact LeO.refl _)
      | (with_reducible exact LeO.none _)
      | (with_reducible refine LeO.ite ?_ ?_)
      | (with_reducible refine LeO.bind ?_ (fun _ => ?_))
      | exact ih0 _ _ _
      | exact LeO.none _
      | refine LeO.ite ?_ ?_
      | refine LeO.bind ?_ (fun _ => ?_)
theorem slices_Reverse_int_int.mono : ∀ a0 k, LeO (slices_Reverse_int_int.f k a0) (slices_Reverse_int_int.f (k + 1) a0) := by
  intro a0 k
  have ih0 := slices_Reverse_int_int.mono_l k
  unfold slices_Reverse_int_int.f
  repeat' first
      | (with_reducible exact ih0 _ _ _)
      | (with_reducible exact LeO.refl _)
      | (with_reducible exact LeO.none _)
      | (with_reducible refine LeO.ite ?_ ?_)
      | (with_reducible refine LeO.bind ?_ (fun _ => ?_))
      | exact ih0 _ _ _
      | exact LeO.none _
      | refine LeO.ite ?_ ?_
      | refine LeO.bind ?_ (fun _ => ?_)
def slices_Reverse_int_int.T3 : Bool × List (List Nat × List Nat) := (true, [([], []), ([], []), ([], []), ([], []), ([], []), ([], []), ([4, 5], [4, 5]), ([6], [6]), ([], []), ([], []), ([8, 9], [8, 9]), ([10], [10]), ([0, 1, 0, 1, 4, 5, 6, 7, 11], [0, 1]), ([12, 7, 0, 1, 4, 5, 6, 7, 11], [7, 12]), ([2, 3, 0, 1, 2, 3, 4, 5, 6, 7, 8, 9, 10, 11, 12, 13], [2, 3]), ([14, 11, 13, 0, 1, 2, 3, 4, 5, 6, 7, 8, 9, 10, 11, 12, 13], [11, 14])])
def slices_Reverse_int_int.B3 : List Nat := [0, 0, 0, 0, 0, 0, 48, 112, 0, 0, 768, 1792, 4083, 8179, 16383, 32767]
theorem slices_Reverse_int_int.tab3 : rtab .any (opsOf Try.f116 3) = slices_Reverse_int_int.T3 := by kernel_rfl
theorem slices_Reverse_int_int.bits3 : waitsOk slices_Reverse_int_int.T3.2 slices_Reverse_int_int.B3 = true := by kernel_rfl
set_option maxHeartbeats 8000000 in
set_option maxRecDepth 100000 in
theorem slices_Reverse_int_int.calls (k : Nat) (P0_ : Nat → Prop) (u9000_ : Value) (l0 : List Int) (r : List Int) (w0 w : World) (hB : Below w0.heap.size w0 w) (ho0 : Kd.R (Kd.int .i64) 3 w w0.heap.size P0_ u9000_ l0) (h : slices_Reverse_int_int.f k l0 = some r) :
    Calls Try.prog 116 #[u9000_] w fun e w' => e = .returned (.tuple #[]) ∧ Kd.R (Kd.int .i64) 3 w' w0.heap.size (fun k_ => (P0_ k_ ∨ w.heap.size ≤ k_)) u9000_ r ∧ Below w0.heap.size w0 w' ∧ Kept w w' (fun k_ => P0_ k_) := by
  have HO0 := Aside0.mk (show Kd.R (Kd.int .i64) 3 w w0.heap.size (fun k_ => (P0_ k_ ∨ w.heap.size ≤ k_)) u9000_ l0 from Kd.R_mono ho0 (fun k_ hk => (.inl hk)))
  have HK := Aside0.mk (Kept.refl w (fun k_ => P0_ k_))
  have HW0 := Aside0.mk hB.size
  have HB := Aside0.mk hB
  clear hB
  have H : (slices_Reverse_int_int.l0 k l0 0 (wrap64 ((l0.length : Int) - 1))) = some r := h
  clear h
  have H' := Aside0.mk H
  clear H
  obtain ⟨Ao2, co2, eo2⟩ := Kd.R_slice HO0.out
  subst eo2
  go_enter Try.func116, Try.ntmps116
  go_wp2
  go_loopg [2, 3] k (fun kq v2 v3 w' => ∃ (x0_1 : List Int) (x2_1 : Int) (x3_1 : Int), v2 = .int .i64 x2_1 ∧ v3 = .int .i64 x3_1 ∧ Aside0 (slices_Reverse_int_int.l0 kq x0_1 x2_1 x3_1 = some r) ∧ Aside0 (kq ≤ k) ∧ Aside0 (Kd.R (Kd.int .i64) 3 w' w0.heap.size (fun k_ => (P0_ k_ ∨ w.heap.size ≤ k_)) (.slice Ao2 l0.length co2) x0_1) ∧ Aside0 (Kept w w' (fun k_ => P0_ k_)) ∧ Aside0 (Below w0.heap.size w0 w'))
  case atStart => exact ⟨(l0), (0), (wrap64 ((l0.length : Int) - 1)), (by first | rfl | (simp; done) | (simp [*]; done)), (by first | rfl | (simp; done) | (simp [*]; done)), H', ⟨Nat.le_refl _⟩, ⟨by (with_reducible repeat (first | apply Kd.R_alloc | apply Kd.R_drewN | apply Kd.R_drew)); exact HO0.out⟩, ⟨by repeat (first | (with_reducible first | exact HK.out | apply Kept.alloc | apply Kept.drewN | apply Kept.drew) | exact HK.out)⟩, ⟨by repeat (first | (with_reducible first | exact HB.out | apply below_alloc | apply pw_below_drewN | apply below_drew1) | exact HB.out)⟩⟩
  case round =>
    clear H'
    try clear c1
    try clear p2
    obtain ⟨x0_1, x2_1, x3_1, rfl, rfl, HA, HK1, HO_0, HK, HB⟩ := hrel
    have hl0_1 := (Kd.R_reads' HO_0.out).1
    rw [hl0_1] at HO_0
    (try simp only [hl0_1])
    cases gk with
    | zero => exact absurd HA.out (by simp [slices_Reverse_int_int.l0])
    | succ k1 =>
      have H := HA.out
      clear HA
      simp only [slices_Reverse_int_int.l0] at H
      by_cases c3 : x2_1 < x3_1
      · rw [if_pos c3] at H
        have c3b0 : decide (x2_1 < x3_1) = true := decide_eq_true c3
        clear c3
        by_cases c4 : 0 ≤ x3_1
        · rw [if_pos c4] at H
          have c4b0 : decide (0 ≤ x3_1) = true := decide_eq_true c4
          clear c4
          by_cases c5 : x3_1 < (x0_1.length : Int)
          · rw [if_pos c5] at H
            have c5b0 : decide (x3_1 < (x0_1.length : Int)) = true := decide_eq_true c5
            clear c5
            by_cases c6 : 0 ≤ x2_1
            · rw [if_pos c6] at H
              have c6b0 : decide (0 ≤ x2_1) = true := decide_eq_true c6
              clear c6
              by_cases c7 : x2_1 < (x0_1.length : Int)
              · rw [if_pos c7] at H
                have c7b0 : decide (x2_1 < (x0_1.length : Int)) = true := decide_eq_true c7
                clear c7
                obtain ⟨y179, hy179⟩ : ∃ y_ : List Int, y_ = (x0_1.set (x2_1 : Int).toNat (rd x0_1 x3_1)) := ⟨_, rfl⟩
                replace H : (slices_Reverse_int_int.l0 k1 (y179.set (x3_1 : Int).toNat (rd x0_1 x2_1)) (wrap64 (x2_1 + 1)) (wrap64 (x3_1 - 1))) = some r := by first | (rw [hy179]; with_reducible exact H) | (have H2_ := (Option.bind_some _ _).symm.trans H; rw [hy179]; with_reducible exact H2_) | (have H2_ := (Option.bind_some _ _).symm.trans H; with_reducible exact H2_) | with_reducible exact H | (rw [hy179]; exact H) | exact H
                have Ny179 := Aside0.mk hy179
                clear hy179
                obtain ⟨y180, hy180⟩ : ∃ y_ : List Int, y_ = (y179.set (x3_1 : Int).toNat (rd x0_1 x2_1)) := ⟨_, rfl⟩
                replace H : (slices_Reverse_int_int.l0 k1 y180 (wrap64 (x2_1 + 1)) (wrap64 (x3_1 - 1))) = some r := by first | (rw [hy180]; with_reducible exact H) | (have H2_ := (Option.bind_some _ _).symm.trans H; rw [hy180]; with_reducible exact H2_) | (have H2_ := (Option.bind_some _ _).symm.trans H; with_reducible exact H2_) | with_reducible exact H | (rw [hy180]; exact H) | exact H
                have Ny180 := Aside0.mk hy180
                clear hy180
                have H' := Aside0.mk H
                clear H
                try go_wp2
                have n0_ := Aside0.mk (Kd.R_drew HO_0.out)
                have n1_ := Aside0.mk (Kept.drew HK.out)
                have n2_ := Aside0.mk (below_drew1 HB.out)
                clear HO_0
                clear HK
                clear HB
                have HO_0 := n0_
                have HK := n1_
                have HB := n2_
                clear n0_ n1_ n2_
                have p177 : 0 ≤ (x3_1 : Int) := of_decide_eq_true (by first | (with_reducible assumption) | assumption)
                have q177 : x3_1 < (x0_1.length : Int) := of_decide_eq_true (by first | (with_reducible assumption) | assumption)
                obtain ⟨ad177, e177, hx177_0⟩ := Kd.at_int (Kd.R_reads' HO_0.out).2.2 x3_1 p177 q177
                cases e177
                replace p177 := eq_true p177
                replace q177 := eq_true q177
                have p178 : 0 ≤ (x2_1 : Int) := of_decide_eq_true (by first | (with_reducible assumption) | assumption)
                have q178 : x2_1 < (x0_1.length : Int) := of_decide_eq_true (by first | (with_reducible assumption) | assumption)
                obtain ⟨ad178, e178, hx178_0⟩ := Kd.at_int (Kd.R_reads' HO_0.out).2.2 x2_1 p178 q178
                obtain rfl : ad177 = ad178 := (by injection e178)
                replace p178 := eq_true p178
                replace q178 := eq_true q178
                have p8 : 0 ≤ (x2_1 : Int) := of_decide_eq_true (by first | (with_reducible assumption) | assumption)
                have q8 : (x2_1 : Int) < ((x0_1.length : Int) : Int) := of_decide_eq_true (by first | (with_reducible assumption) | assumption)
                obtain ⟨go8, co8, eo8, gb8, gl8, cl8, HG8⟩ := Kd.R_form HO_0.out (by omega)
                (first | cases eo8 | (injection eo8 with ea_ en_ ec_; (first | subst ea_ | (injection ea_ with ea_; subst ea_)); subst ec_; clear en_))
                have GB8 := Aside0.mk gb8
                have GG8 := Aside0.mk HG8
                clear gb8 gl8 HG8
                have HMgo8 := Aside0.mk (show (P0_ go8 ∨ w.heap.size ≤ go8) from (HO_0.out.1 _ rfl))
                (first | simp only [add_plain] at hx177_0 | skip)
                (first | simp only [add_plain] at hx178_0 | skip)
                obtain ⟨hx8_0, hf8_0⟩ := Kd.R_celln 0 HO_0.out (x2_1 : Int) p8 q8
                replace p8 := eq_true p8
                replace q8 := eq_true q8
                have HP11 := Kd.R_putn HO_0.out (x2_1 : Int) (rd x0_1 x3_1)
                rw [← Ny179.out] at HP11
                have HQ11 := Aside0.mk HP11
                clear HP11
                have p9 : 0 ≤ (x3_1 : Int) := of_decide_eq_true (by first | (with_reducible assumption) | assumption)
                have q9 : (x3_1 : Int) < ((x0_1.length : Int) : Int) := of_decide_eq_true (by first | (with_reducible assumption) | assumption)
                obtain ⟨hx9_0, hf9_0⟩ := Kd.R_celln 0 HQ11.out (x3_1 : Int) p9 q9
                replace p9 := eq_true p9
                replace q9 := eq_true q9
                have HP12 := Kd.R_putn HQ11.out (x3_1 : Int) (rd x0_1 x2_1)
                rw [← Ny180.out] at HP12
                have HQ12 := Aside0.mk HP12
                clear HP12
                refine start_ (n := 16) (S := fun w' => w'.cell? ⟨go8, (x3_1).toNat, none⟩ = some (.int .i64 (rd x0_1 x3_1)) ∧ w'.cell? ⟨go8, (x2_1).toNat, none⟩ = some (.int .i64 (rd x0_1 x2_1))) (ds := [13, 15]) #[false, false, false, false, false, false, false, false, false, false, false, false, false, false, false, false] (by kernel_rfl) rfl rfl ⟨hx177_0, hx178_0⟩ (fun hHeld => ?_); refine with_tabW slices_Reverse_int_int.tab3 slices_Reverse_int_int.bits3 (fun HT_ HW_ => ?_)
                generalize wr.drew = w10 at HO_0 HK HB GG8 HQ11 HQ12 hf8_0 hf9_0 hx177_0 hx178_0 hx8_0 hx9_0 hHeld ⊢
                refine pure_ (i := 0) (N := some 14) (v := ?_) (a' := ?_) #[true, false, false, false, false, false, false, false, false, false, false, false, false, false, false, false] rfl rfl (any_of HT_.out (by kernel_rfl)) (fun _ _ _ h => h) (Or.inl ⟨by rfl, ?_⟩) ?_ ?_
                rotate_left
                · intro w'
                  go_simp
                  with_reducible rfl
                rotate_left
                · simp only [Act.put, List.setIfInBounds_toArray, List.set_cons_zero, List.set_cons_succ, i64_w, i32_w]
                  rfl
                refine pure_ (i := 1) (N := some 15) (v := ?_) (a' := ?_) #[true, true, false, false, false, false, false, false, false, false, false, false, false, false, false, false] rfl rfl (any_of HT_.out (by kernel_rfl)) (fun _ _ _ h => h) (Or.inl ⟨by rfl, ?_⟩) ?_ ?_
                rotate_left
                · intro w'
                  go_simp
                  with_reducible rfl
                rotate_left
                · simp only [Act.put, List.setIfInBounds_toArray, List.set_cons_zero, List.set_cons_succ, i64_w, i32_w]
                  rfl
                refine pure_ (i := 2) (N := some 16) (v := ?_) (a' := ?_) #[true, true, true, false, false, false, false, false, false, false, false, false, false, false, false, false] rfl rfl (any_of HT_.out (by kernel_rfl)) (fun _ _ _ h => h) (Or.inl ⟨by rfl, ?_⟩) ?_ ?_
                rotate_left
                · intro w'
                  go_simp
                  with_reducible rfl
                rotate_left
                · simp only [Act.put, List.setIfInBounds_toArray, List.set_cons_zero, List.set_cons_succ, i64_w, i32_w]
                  rfl
                refine pure_ (i := 3) (N := some 17) (v := ?_) (a' := ?_) #[true, true, true, true, false, false, false, false, false, false, false, false, false, false, false, false] rfl rfl (any_of HT_.out (by kernel_rfl)) (fun _ _ _ h => h) (Or.inl ⟨by rfl, ?_⟩) ?_ ?_
                rotate_left
                · intro w'
                  go_simp
                  with_reducible rfl
                rotate_left
                · simp only [Act.put, List.setIfInBounds_toArray, List.set_cons_zero, List.set_cons_succ, i64_w, i32_w]
                  rfl
                refine pure_ (i := 4) (N := some 18) (v := ?_) (a' := ?_) #[true, true, true, true, true, false, false, false, false, false, false, false, false, false, false, false] rfl rfl (any_of HT_.out (by kernel_rfl)) (fun _ _ _ h => h) (Or.inl ⟨by rfl, ?_⟩) ?_ ?_
                rotate_left
                · intro w'
                  go_simp
                  with_reducible rfl
                rotate_left
                · simp only [Act.put, List.setIfInBounds_toArray, List.set_cons_zero, List.set_cons_succ, i64_w, i32_w]
                  rfl
                refine pure_ (i := 5) (N := some 19) (v := ?_) (a' := ?_) #[true, true, true, true, true, true, false, false, false, false, false, false, false, false, false, false] rfl rfl (any_of HT_.out (by kernel_rfl)) (fun _ _ _ h => h) (Or.inl ⟨by rfl, ?_⟩) ?_ ?_
                rotate_left
                · intro w'
                  go_simp
                  with_reducible rfl
                rotate_left
                · simp only [Act.put, List.setIfInBounds_toArray, List.set_cons_zero, List.set_cons_succ, i64_w, i32_w]
                  rfl
                refine pure_ (i := 6) (N := some 20) (v := ?_) (a' := ?_) #[true, true, true, true, true, true, true, false, false, false, false, false, false, false, false, false] rfl rfl (any_of HT_.out (by kernel_rfl)) (fun _ _ _ h => h) (Or.inl ⟨by rfl, ?_⟩) ?_ ?_
                rotate_left
                · intro w'
                  go_simp
                  with_reducible rfl
                rotate_left
                · simp only [Act.put, List.setIfInBounds_toArray, List.set_cons_zero, List.set_cons_succ, i64_w, i32_w]
                  rfl
                refine pure_ (i := 8) (N := some 22) (v := ?_) (a' := ?_) #[true, true, true, true, true, true, true, false, true, false, false, false, false, false, false, false] rfl rfl (any_of HT_.out (by kernel_rfl)) (fun _ _ _ h => h) (Or.inl ⟨by rfl, ?_⟩) ?_ ?_
                rotate_left
                · intro w'
                  go_simp
                  with_reducible rfl
                rotate_left
                · simp only [Act.put, List.setIfInBounds_toArray, List.set_cons_zero, List.set_cons_succ, i64_w, i32_w]
                  rfl
                refine pure_ (i := 9) (N := some 23) (v := ?_) (a' := ?_) #[true, true, true, true, true, true, true, false, true, true, false, false, false, false, false, false] rfl rfl (any_of HT_.out (by kernel_rfl)) (fun _ _ _ h => h) (Or.inl ⟨by rfl, ?_⟩) ?_ ?_
                rotate_left
                · intro w'
                  go_simp
                  with_reducible rfl
                rotate_left
                · simp only [Act.put, List.setIfInBounds_toArray, List.set_cons_zero, List.set_cons_succ, i64_w, i32_w]
                  rfl
                refine pure_ (i := 10) (N := some 24) (v := ?_) (a' := ?_) #[true, true, true, true, true, true, true, false, true, true, true, false, false, false, false, false] rfl rfl (any_of HT_.out (by kernel_rfl)) (fun _ _ _ h => h) (Or.inl ⟨by rfl, ?_⟩) ?_ ?_
                rotate_left
                · intro w'
                  go_simp
                  with_reducible rfl
                rotate_left
                · simp only [Act.put, List.setIfInBounds_toArray, List.set_cons_zero, List.set_cons_succ, i64_w, i32_w]
                  rfl
                refine take_ (i := 7) (N := some 21) (v := ?_) (a' := ?_) #[true, true, true, true, true, true, true, true, true, true, true, false, false, false, false, false] rfl rfl (take_ofW HT_.out HW_.out (by kernel_rfl)) (fun _ _ _ h => h) (Or.inl ⟨by rfl, ?_⟩) hHeld ?_ ?_
                rotate_left
                · rintro w' ⟨s0, s1⟩
                  go_simp
                  with_reducible rfl
                rotate_left
                · simp only [Act.put, List.setIfInBounds_toArray, List.set_cons_zero, List.set_cons_succ, i64_w, i32_w]
                  rfl
                refine take_ (i := 11) (N := some 25) (v := ?_) (a' := ?_) #[true, true, true, true, true, true, true, true, true, true, true, true, false, false, false, false] rfl rfl (take_ofW HT_.out HW_.out (by kernel_rfl)) (fun _ _ _ h => h) (Or.inl ⟨by rfl, ?_⟩) hHeld ?_ ?_
                rotate_left
                · rintro w' ⟨s0, s1⟩
                  go_simp
                  with_reducible rfl
                rotate_left
                · simp only [Act.put, List.setIfInBounds_toArray, List.set_cons_zero, List.set_cons_succ, i64_w, i32_w]
                  rfl
                refine pure_ (i := 12) (N := some 26) (v := ?_) (a' := ?_) #[true, true, true, true, true, true, true, true, true, true, true, true, true, false, false, false] rfl rfl (any_of HT_.out (by kernel_rfl)) (fun _ _ _ h => h) (Or.inl ⟨by rfl, ?_⟩) ?_ ?_
                rotate_left
                · intro w'
                  go_simp
                  with_reducible rfl
                rotate_left
                · simp only [Act.put, List.setIfInBounds_toArray, List.set_cons_zero, List.set_cons_succ, i64_w, i32_w]
                  rfl
                refine last_ (i := 13) (N := none) #[true, true, true, true, true, true, true, true, true, true, true, true, true, true, false, false] rfl rfl (one_of HT_.out (by kernel_rfl)) (by decide) (fun K hK => ?_)
                refine skip_ (w1 := ?_) (by rfl) rfl ?_ ?_
                rotate_left
                · go_simp
                  rfl
                refine hK.out _ _ ?_
                clear hK K
                refine pure_ (i := 14) (N := some 27) (v := ?_) (a' := ?_) #[true, true, true, true, true, true, true, true, true, true, true, true, true, true, true, false] rfl rfl (any_of HT_.out (by kernel_rfl)) (fun _ _ _ h => h) (Or.inl ⟨by rfl, ?_⟩) ?_ ?_
                rotate_left
                · intro w'
                  go_simp
                  with_reducible rfl
                rotate_left
                · simp only [Act.put, List.setIfInBounds_toArray, List.set_cons_zero, List.set_cons_succ, i64_w, i32_w]
                  rfl
                refine last_ (i := 15) (N := none) #[true, true, true, true, true, true, true, true, true, true, true, true, true, true, true, true] rfl rfl (one_of HT_.out (by kernel_rfl)) (by decide) (fun K hK => ?_)
                refine skip_ (w1 := ?_) (by rfl) rfl ?_ ?_
                rotate_left
                · go_simp
                  rfl
                refine hK.out _ _ ?_
                clear hK K
                refine done_ (done_of HT_.out (by kernel_rfl)) ?_
                try go_wp2
                (try simp only [← hl0_1])
                go_roundg k1
                case measure => have := HK1.out; omega
                case rel => exact ⟨(y180), (wrap64 (x2_1 + 1)), (wrap64 (x3_1 - 1)), (by first | rfl | (simp; done) | (simp [*]; done)), (by first | rfl | (simp; done) | (simp [*]; done)), H', ⟨by have := HK1.out; omega⟩, ⟨by (try simp only [hl0_1]); (with_reducible repeat (first | apply Kd.R_alloc | apply Kd.R_drewN | apply Kd.R_drew)); exact HQ12.out⟩, ⟨by repeat (first | (with_reducible first | exact HK.out | apply Kept.alloc | apply Kept.drewN | apply Kept.drew | refine Kept.setCell ?_ HMgo8.out _ | refine Kept.setCell ?_ HMgo8.out _) | exact HK.out)⟩, ⟨by repeat (first | (with_reducible first | exact HB.out | apply below_alloc | apply pw_below_drewN | apply below_drew1 | refine below_set ?_ GB8.out | refine below_set ?_ GB8.out) | exact HB.out)⟩⟩
              · rw [if_neg c7] at H
                exact absurd H (by simp)
            · rw [if_neg c6] at H
              exact absurd H (by simp)
          · rw [if_neg c5] at H
            exact absurd H (by simp)
        · rw [if_neg c4] at H
          exact absurd H (by simp)
      · rw [if_neg c3] at H
        have c3b0 : decide (x2_1 < x3_1) = false := decide_eq_false c3
        clear c3
        obtain rfl := Option.some.inj H
        go_wp2
        first | go_end0 | ((try simp only [Exit.inBlock, Exit.then]); refine bodyPost_ret (results_none rfl _ _ _) rfl ?_)
        exact ⟨by first | rfl | (simp [errW_none, errW_some] <;> rfl) | (simp [*, errW_none, errW_some] <;> rfl), (by first | exact (by (with_reducible repeat (first | apply Kd.R_alloc | apply Kd.R_drewN | apply Kd.R_drew)); exact HO_0.out) | (simp only [hl0_1]; exact (by (with_reducible repeat (first | apply Kd.R_alloc | apply Kd.R_drewN | apply Kd.R_drew)); exact HO_0.out))), by repeat (first | (with_reducible first | exact HB.out | apply below_alloc | apply pw_below_drewN | apply below_drew1) | exact HB.out), by repeat (first | (with_reducible first | exact HK.out | apply Kept.alloc | apply Kept.drewN | apply Kept.drew) | exact HK.out)⟩

/-! ### dcf_lasts: function 59, by hand -/
/-! #### slices.Backward: an iterator that reads the slice's box between two rounds -/
def KpB (n₀ Bs : Nat) (W W' : World) : Prop := Below n₀ W W' ∧ W'.heap[Bs]? = W.heap[Bs]?
/-- the cells of a slice, place by place, as three functions -/
structure SV where
  A : Nat → Option Addr
  n : Nat → Nat
  c : Nat → Nat
def itemV (f0 f1 : Nat → Int) (sv : SV) (x : Nat) : Array Value := #[.int .i64 (x : Int), .agg #[.int .u16 (f0 x), .int .u8 (f1 x), .slice (sv.A x) (sv.n x) (sv.c x)]]
def downTo (len k : Nat) : List Nat := ((List.range len).reverse).take k
theorem downTo_succ {len k : Nat} (hk : k < len) : downTo len (k + 1) = downTo len k ++ [len - 1 - k] := by
  unfold downTo
  rw [List.take_succ_eq_append_getElem (by simpa using hk)]
  simp
theorem downTo_length {len k : Nat} (hk : k ≤ len) : (downTo len k).length = k := by simp [downTo, hk]
theorem downTo_all (len : Nat) : downTo len len = (List.range len).reverse := by
  unfold downTo
  exact List.take_of_length_le (by simp)
attribute [local go_sem] Oper.semAt_some
set_option maxRecDepth 100000 in
set_option maxHeartbeats 4000000 in
theorem back1_in (n l Bs n₀ : Nat) (hn : 1 ≤ n) (A : Option Addr) (len cap : Nat) (f0 f1 : Nat → Int) (sv : SV) (hlen : len ≤ 9223372036854775807) (J Jx : List Nat → World → Prop)
    (hY : ∀ pre x W, J pre W → pre.length < len → YieldAt Fence.wide (n - 1) Try.prog l (itemV f0 f1 sv x) W fun e W' =>
      (e = .returned (.bool true) ∧ J (pre ++ [x]) W' ∧ KpB n₀ Bs W W') ∨ (e = .returned (.bool false) ∧ Jx (pre ++ [x]) W'))
    (W : World) (hBs : W.cell? ⟨Bs, 0, none⟩ = some (.slice A len cap))
    (hc : ∀ j, j < len → ∃ ad, A = some ad ∧ ad.block < n₀ ∧ W.cell? (ad.add (j * 3)) = some (.int .u16 (f0 j)) ∧ W.cell? ⟨(ad.add (j * 3)).block, (ad.add (j * 3)).off + 1, none⟩ = some (.int .u8 (f1 j)) ∧ W.cell? ⟨(ad.add (j * 3)).block, (ad.add (j * 3)).off + 2, none⟩ = some (.slice (sv.A j) (sv.n j) (sv.c j))) (h0 : J [] W) :
    CallsIn Fence.wide n Try.prog 158 #[.func (.yield l) #[] #[], .pointer (some ⟨Bs, 0, none⟩)] W fun e W' => (∃ v, e = .returned v) ∧
      ((∃ ys, ys = (List.range len).reverse ∧ J ys W') ∨ (∃ pre, True ∧ Jx pre W')) := by
  refine callsIn_of_wp Try.func158 rfl trivial ?_ rfl
  simp only [Try.ntmps158, List.size_toArray, List.length_cons, List.length_nil, Nat.reduceAdd, Nat.reduceSub, Array.replicate_succ, Array.replicate_zero, List.push_toArray, List.append_toArray, List.nil_append, List.cons_append]
  gi_wp2
  gi_loopw [3] (fun i wr => ∃ k : Nat, k ≤ len ∧ i = .int .i64 ((len : Int) - 1 - (k : Int)) ∧ Aside0 (J (downTo len k) wr) ∧ Aside0 (KpB n₀ Bs W wr))
    (fun i _ => (intOf i + 1).toNat)
  case atStart => exact ⟨0, Nat.zero_le _, by simp, ⟨by simpa [downTo] using h0⟩, ⟨⟨Below.refl _ _, rfl⟩⟩⟩
  case round =>
    obtain ⟨k, hk, rfl, hJs, hnx⟩ := hrel
    have hbs' : wr.cell? ⟨Bs, 0, none⟩ = some (.slice A len cap) := (World.cell?_of_block hnx.out.2).trans hBs
    by_cases hlt : k < len
    · obtain ⟨j, hj⟩ : ∃ j : Nat, (len : Int) - 1 - (k : Int) = j := ⟨len - 1 - k, by omega⟩
      have hjl : j < len := by omega
      have hjk : len - 1 - k = j := by omega
      obtain ⟨ad, hA, hab, hx0, hx1, hx2⟩ := hc j hjl
      replace hx0 := (hnx.out.1.cell (by rw [add_block]; exact hab)).trans hx0
      replace hx1 := (hnx.out.1.cell (p := ⟨(ad.add (j * 3)).block, (ad.add (j * 3)).off + 1, none⟩) (by rw [add_block]; exact hab)).trans hx1
      replace hx2 := (hnx.out.1.cell (p := ⟨(ad.add (j * 3)).block, (ad.add (j * 3)).off + 2, none⟩) (by rw [add_block]; exact hab)).trans hx2
      subst hA
      obtain ⟨fn, tmps, assign, body, hy, hR⟩ := hY _ j wr hJs.out (by rw [downTo_length hk]; exact hlt)
      have HJ := Aside0.mk hj
      have HJK := Aside0.mk hjk
      unfold itemV at hy
      clear hc hY hBs h0 hjk
      rw [hj]
      clear hj
      gi_wp2
      refine hR.mono ?_
      rintro e W3 (⟨rfl, hJ3, hk3⟩ | ⟨rfl, hJx3⟩)
      · have HJ3 := Aside0.mk hJ3
        have HK3 := Aside0.mk hk3
        clear hJ3 hk3
        gi_wp2
        go_roundw
        case rel => exact ⟨k + 1, by omega, by have := HJ.out; congr 1; omega, ⟨by rw [downTo_succ hlt, HJK.out]; exact HJ3.out⟩, ⟨⟨hnx.out.1.trans HK3.out.1, HK3.out.2.trans hnx.out.2⟩⟩⟩
        case measure => simp [intOf]
      · have HJx3 := Aside0.mk hJx3
        clear hJx3
        gi_wp2
        refine bodyPost_ret (results_none rfl _ _ _) rfl ?_
        exact ⟨⟨_, rfl⟩, .inr ⟨_, trivial, HJx3.out⟩⟩
    · have hkl : k = len := by omega
      subst hkl
      have hneg : ((k : Int) - 1 - (k : Int)) = -1 := by omega
      rw [hneg]
      clear hneg hc hY
      gi_wp2
      go_end0
      exact ⟨⟨_, rfl⟩, .inl ⟨_, downTo_all k, hJs.out⟩⟩

def placeOf (l : List S117) (j : Nat) : Int × Int := ((rd_T117 l (j : Int)).f0, (rd_T117 l (j : Int)).f1)
def lastStep (l : List S117) (s : List (Int × Int) × List Int) (j : Nat) : List (Int × Int) × List Int := (s.1 ++ [placeOf l j], if placeOf l j ∈ s.1 then s.2 else s.2 ++ [(j : Int)])
def lastRun (l : List S117) (pre : List Nat) : List (Int × Int) × List Int := pre.foldl (lastStep l) ([], [])
theorem lastRun_snoc (l : List S117) (pre : List Nat) (j : Nat) : lastRun l (pre ++ [j]) = lastStep l (lastRun l pre) j := by simp [lastRun]
theorem lastRun_length (l : List S117) (pre : List Nat) : (lastRun l pre).2.length ≤ pre.length := by
  have key : ∀ (pre : List Nat) (s : List (Int × Int) × List Int), (pre.foldl (lastStep l) s).2.length ≤ s.2.length + pre.length := by
    intro pre
    induction pre with
    | nil => intro s; simp
    | cons j pre ih =>
      intro s
      rw [List.foldl_cons]
      have h1 := ih (lastStep l s j)
      have h2 : (lastStep l s j).2.length ≤ s.2.length + 1 := by
        unfold lastStep
        dsimp only
        split
        · omega
        · simp
      simp only [List.length_cons]
      omega
  simpa [lastRun] using key pre ([], [])
def pk (p : Int × Int) : Value := .agg #[.int .u16 p.1, .int .u8 p.2]
theorem pk_same (x y : Int × Int) (w : World) : (Op.equal 198 (pk x) (pk y)).run Try.prog w = .ok (decide (x = y)) w := by
  obtain ⟨a, b⟩ := x
  obtain ⟨c, d⟩ := y
  have h2 : (Op.equalIn 10000 198 (.agg #[.int .u16 a, .int .u8 b]) (.agg #[.int .u16 c, .int .u8 d])).run Try.prog w = .ok (a == c && b == d) w := by
    go_simp
    by_cases h1 : a = c <;> by_cases h2 : b = d <;> simp [h1, h2]
  unfold pk Op.equal Op.maxDepth
  rw [h2]
  by_cases h1 : a = c <;> by_cases h2 : b = d <;> simp [h1, h2]
theorem ck39 (em : Bool) (a : Int) (w : World) : (Instr.checkKey em 9999 39 (.int .u16 a)).run Try.prog w = .ok () w := by
  rw [Instr.checkKey]
  go_simp
theorem ck5 (em : Bool) (a : Int) (w : World) : (Instr.checkKey em 9999 5 (.int .u8 a)).run Try.prog w = .ok () w := by
  rw [Instr.checkKey]
  go_simp
theorem pk_check (em : Bool) (x : Int × Int) (w : World) : (Instr.checkKey em 10000 198 (pk x)).run Try.prog w = .ok () w := by
  unfold pk
  rw [Instr.checkKey]
  go_simp
  simp [ck39, ck5]
theorem pk_key : Raw.KeyAt Try.prog 198 pk where
  check := pk_check
  same := pk_same
  now := ⟨_, Try.underlying198, .inr (fun _ _ => rfl)⟩
  bits := fun x => by simp [pk, Instr.sameBits]
theorem zero4 (w : World) : (zeroValue 4).run Try.prog w = .ok (.bool false) w := by kernel_rfl
/-- what the loop knows when the rounds pre are over; bm: the map's block, bm + 1 its box, bm + 1 + 1 the box of the answer, bm + 1 + 1 + 1 the iterator's box -/
def LastsI (l : List S117) (sv0 : Value) (n₀ bm : Nat) (w : World) (pre : List Nat) (W : World) : Prop :=
  ((∃ es clock, Raw.MapIs W pk Value.bool bm es clock ∧ (∀ q, Raw.getE es q = if q ∈ (lastRun l pre).1 then some true else none)) ∧ Boxed W (bm + 1) 193 (.map (some bm)) ∧ Boxed W (bm + 1 + 1 + 1) 22 sv0 ∧
    (∃ v, Boxed W (bm + 1 + 1) 65 v ∧ W.ownsRow n₀ 3 1 v (lastRun l pre).2.length ((lastRun l pre).2.map (Value.int .i64)) ∧ True)) ∧ Below n₀ w W
theorem LastsI.own {l : List S117} {sv0 : Value} {n₀ bm : Nat} {w : World} {B : Nat} (hB : bm + 1 + 1 + 1 < B) (hn : n₀ ≤ w.heap.size) (hnB : n₀ ≤ B) : OwnFrom B (LastsI l sv0 n₀ bm w) := by
  refine OwnFrom.and (fun pre X Y row hs hg hr => ?_) (ownFrom_below hn hnB)
  obtain ⟨⟨es, clock, hm, hq⟩, hb, hb3, hv⟩ := hs
  refine ⟨⟨es, clock, hm.kept hg (fun e => by have := (hr bm e.symm).1; omega), hq⟩, hb.kept hg (fun e => by have := (hr _ e.symm).1; omega), hb3.kept hg (fun e => by have := (hr _ e.symm).1; omega), ?_⟩
  exact holdsRow_own n₀ (bm + 1 + 1) 65 3 1 (fun pre => (lastRun l pre).2.length) (fun pre => (lastRun l pre).2.map (Value.int .i64)) (fun _ _ => True) pre X Y row hv hg (fun r e => (hr r e).2)
theorem map_not_row {W : World} {es : List ((Int × Int) × Bool × Nat)} {clock bm : Nat} (h : Raw.MapIs W pk Value.bool bm es clock) {base size k e : Nat} {v : Value} {xs : List Value} (hr : W.ownsRow base e size v k xs) : some bm ≠ v.ownBlock := by
  rcases hr.2 with ⟨rfl, _⟩ | ⟨g, cap, cur, rfl, _, hgb, _⟩
  · simp [Value.ownBlock]
  · intro e'
    obtain rfl : bm = g := by simpa [Value.ownBlock] using e'
    have := h.symm.trans hgb
    simp at this
theorem seen_put {es : List ((Int × Int) × Bool × Nat)} {clock : Nat} {l : List S117} {pre : List Nat} {x : Nat} (hq : ∀ q, Raw.getE es q = if q ∈ (lastRun l pre).1 then some true else none) :
    ∀ q, Raw.getE (Raw.putE (placeOf l x) true es clock).1 q = if q ∈ (lastRun l (pre ++ [x])).1 then some true else none := by
  intro q
  rw [Raw.getE_put, hq, lastRun_snoc]
  simp only [lastStep, List.mem_append, List.mem_singleton]
  by_cases h1 : q = placeOf l x <;> by_cases h2 : q ∈ (lastRun l pre).1 <;> simp [h1, h2]
/-- a round at a place that was seen: the map is written alone (W1: behind the box of p) -/
theorem round_old {l : List S117} {sv0 : Value} {n₀ bm B : Nat} {w W w2 : World} {o : Obj} {pre : List Nat} {x : Nat} {es : List ((Int × Int) × Bool × Nat)} {clock : Nat}
    (hB : bm + 1 + 1 + 1 < B) (hn : n₀ ≤ bm) (hbm : bm < W.heap.size) (hq : ∀ q, Raw.getE es q = if q ∈ (lastRun l pre).1 then some true else none) (hp : placeOf l x ∈ (lastRun l pre).1)
    (hb : Boxed W (bm + 1) 193 (.map (some bm))) (hb3 : Boxed W (bm + 1 + 1 + 1) 22 sv0) {v : Value} (hv : Boxed W (bm + 1 + 1) 65 v) (hr : W.ownsRow n₀ 3 1 v (lastRun l pre).2.length ((lastRun l pre).2.map (Value.int .i64))) (hBel : Below n₀ w W)
    (hm : Raw.MapIs (W.alloc o) pk Value.bool bm es clock) (hm2 : Raw.MapIs w2 pk Value.bool bm (Raw.putE (placeOf l x) true es clock).1 (Raw.putE (placeOf l x) true es clock).2) (hg : (W.alloc o).grownBy w2 (some bm)) :
    KeepsFrom B W w2 ∧ KpB n₀ (bm + 1 + 1 + 1) W w2 ∧ LastsI l sv0 n₀ bm w (pre ++ [x]) w2 := by
  have hW : Below n₀ W w2 := ((Below.refl n₀ W).alloc (by omega) o).grown hg (by simp; omega) (fun k e => by cases e; exact hn)
  have hb3' := (hb3.alloc o).kept hg (by simp <;> omega)
  have he : (lastRun l (pre ++ [x])).2 = (lastRun l pre).2 := by rw [lastRun_snoc]; simp [lastStep, hp]
  refine ⟨((KeepsOthers.alloc W o).from B).trans (KeepsFrom.of_grownBy hg (fun j e => by cases e; omega)), ⟨hW, hb3'.trans hb3.symm⟩, ⟨⟨_, _, hm2, seen_put hq⟩, (hb.alloc o).kept hg (by simp <;> omega), hb3', ⟨v, (hv.alloc o).kept hg (by simp <;> omega), ?_, trivial⟩⟩, hBel.trans hW⟩
  rw [he]
  refine (hr.alloc o).kept hg ?_
  have := map_not_row hm (hr.alloc o)
  cases hvb : v.ownBlock with
  | none => exact .inl rfl
  | some k => rw [hvb] at this; exact .inr (Ne.symm this)
/-- a round at a new place: the answer grows, then the map is written -/
theorem round_new {l : List S117} {sv0 : Value} {n₀ bm B : Nat} {w W w1 : World} {o tmp : Obj} {pre : List Nat} {x : Nat} {es : List ((Int × Int) × Bool × Nat)} {clock : Nat}
    (hB : bm + 1 + 1 + 1 < B) (hn : n₀ ≤ bm) (hbm : bm < W.heap.size) (hq : ∀ q, Raw.getE es q = if q ∈ (lastRun l pre).1 then some true else none) (hp : placeOf l x ∉ (lastRun l pre).1)
    (hb : Boxed W (bm + 1) 193 (.map (some bm))) (hb3 : Boxed W (bm + 1 + 1 + 1) 22 sv0) {v v' : Value} (hv : Boxed W (bm + 1 + 1) 65 v) (hr : W.ownsRow n₀ 3 1 v (lastRun l pre).2.length ((lastRun l pre).2.map (Value.int .i64))) (hBel : Below n₀ w W)
    (hm : Raw.MapIs (W.alloc o) pk Value.bool bm es clock) (hr' : w1.ownsRow n₀ 3 1 v' ((lastRun l pre).2.length + 1) ((lastRun l pre).2.map (Value.int .i64) ++ [Value.int .i64 (x : Int)])) (hgrow : ((W.alloc o).alloc tmp).grownBy w1 v.ownBlock) :
    (Boxed w1 (bm + 1) 193 (.map (some bm)) ∧ Boxed w1 (bm + 1 + 1) 65 v ∧ Raw.MapIs (w1.setCell ⟨bm + 1 + 1, 0, none⟩ v') pk Value.bool bm es clock ∧ Boxed (w1.setCell ⟨bm + 1 + 1, 0, none⟩ v') (bm + 1) 193 (.map (some bm)) ∧ (∀ g t cs, W.heap.size = g → (W.alloc o).heap[g]? = some (.cells cs t (0, 0)) → t ≠ 3 → w1.heap[g]? = some (.cells cs t (0, 0)) ∧ (g ≠ bm + 1 + 1 → (w1.setCell ⟨bm + 1 + 1, 0, none⟩ v').heap[g]? = some (.cells cs t (0, 0))))) ∧
    (∀ w2, Raw.MapIs w2 pk Value.bool bm (Raw.putE (placeOf l x) true es clock).1 (Raw.putE (placeOf l x) true es clock).2 → (w1.setCell ⟨bm + 1 + 1, 0, none⟩ v').grownBy w2 (some bm) → KeepsFrom B W w2 ∧ KpB n₀ (bm + 1 + 1 + 1) W w2 ∧ LastsI l sv0 n₀ bm w (pre ++ [x]) w2) := by
  have happ := Boxed.appended (tmp := tmp) (hv.alloc o) (by decide) (hr.alloc o) (by simp; omega) (by omega : n₀ ≤ bm + 1 + 1) hr' hgrow
  obtain ⟨hv1, hv2, hr2, hk2, hb2⟩ := happ
  have hmr := map_not_row hm (hr.alloc o)
  have hm1 : Raw.MapIs w1 pk Value.bool bm es clock := (hm.kept (World.grownBy_alloc _ tmp none) (by simp <;> omega)).kept hgrow hmr
  have hm3 : Raw.MapIs (w1.setCell ⟨bm + 1 + 1, 0, none⟩ v') pk Value.bool bm es clock := hm1.kept (grownBy_setCell' w1 (bm + 1 + 1) v') (by simp <;> omega)
  have hbA : Boxed w1 (bm + 1) 193 (.map (some bm)) := ((hb.alloc o).alloc tmp).kept hgrow ((hb.alloc o).not_row (by decide) (hr.alloc o))
  have hbB : Boxed (w1.setCell ⟨bm + 1 + 1, 0, none⟩ v') (bm + 1) 193 (.map (some bm)) := hbA.other (by omega) v'
  have hb3A : Boxed w1 (bm + 1 + 1 + 1) 22 sv0 := ((hb3.alloc o).alloc tmp).kept hgrow ((hb3.alloc o).not_row (by decide) (hr.alloc o))
  have hb3B : Boxed (w1.setCell ⟨bm + 1 + 1, 0, none⟩ v') (bm + 1 + 1 + 1) 22 sv0 := hb3A.other (by omega) v'
  refine ⟨⟨hbA, hv1, hm3, hbB, ?_⟩, ?_⟩
  · intro g t cs hg hcs ht
    have hlt : g < (W.alloc o).heap.size := (Array.getElem?_eq_some_iff.1 hcs).1
    have h1 : ((W.alloc o).alloc tmp).heap[g]? = some (.cells cs t (0, 0)) := (Below.heap_alloc _ tmp g hlt).trans hcs
    have hne : some g ≠ v.ownBlock := by
      rcases (hr.alloc o).2 with ⟨rfl, _⟩ | ⟨q, cap, cur, rfl, _, hqb, _⟩
      · simp [Value.ownBlock]
      · intro e'
        obtain rfl : g = q := by simpa [Value.ownBlock] using e'
        rw [hcs] at hqb
        injection hqb with hqb
        injection hqb with _ hqb
        exact ht hqb
    have h2 := (hgrow.block g (by simp at hlt ⊢; omega) hne).trans h1
    exact ⟨h2, fun hne2 => (Below.heap_setCell _ _ _ g hne2).trans h2⟩
  · intro w2 hm2 hg
    have hW : Below n₀ W w2 := (((Below.refl n₀ W).alloc (by omega) o).trans hb2).grown hg (by have := hv2.lt; omega) (fun k e => by cases e; exact hn)
    have hb3' := hb3B.kept hg (by simp <;> omega)
    have he : (lastRun l (pre ++ [x])).2 = (lastRun l pre).2 ++ [(x : Int)] := by rw [lastRun_snoc]; simp [lastStep, hp]
    refine ⟨(((KeepsOthers.alloc W o).trans hk2).from B).trans (KeepsFrom.of_grownBy hg (fun j e => by cases e; omega)), ⟨hW, hb3'.trans hb3.symm⟩, ⟨⟨_, _, hm2, seen_put hq⟩, hbB.kept hg (by simp <;> omega), hb3', ⟨v', hv2.kept hg (by simp <;> omega), ?_, trivial⟩⟩, hBel.trans hW⟩
    rw [he]
    have hmr2 := map_not_row hm3 hr2
    refine World.ownsRow.kept (by simpa using hr2) hg ?_
    cases hvb : v'.ownBlock with
    | none => exact .inl rfl
    | some k => rw [hvb] at hmr2; exact .inr (Ne.symm hmr2)
theorem Backward_calls (A : Option Addr) (n c : Nat) (w : World) : Calls Try.prog 115 #[.slice A n c] w fun e w' => e = .returned (.func (.func 158) #[] #[.pointer (some ⟨w.heap.size, 0, none⟩)]) ∧ w' = w.alloc (.cells #[.slice A n c] 22) := by
  go_enter Try.func115, Try.ntmps115
  go_wp2
  go_ret
  exact ⟨rfl, rfl⟩
theorem reverse_loop : ∀ (m : Nat) (x : List Int) (i j : Int), 0 ≤ i → j < x.length → x.length < 9223372036854775807 → -1 ≤ j → i ≤ x.length → j - i < m → ∃ k y, slices_Reverse_int_int.l0 k x i j = some y ∧ y.length = x.length ∧ ∀ t : Nat, t < x.length → y[t]? = if i ≤ (t : Int) ∧ (t : Int) ≤ j then x[(i + j - t).toNat]? else x[t]?
  | 0, x, i, j, h1, h2, h3, h4, h5, h6 => ⟨1, x, by simp only [slices_Reverse_int_int.l0]; rw [if_neg (by omega)], rfl, fun t _ => by
      split
      · omega
      · rfl⟩
  | m + 1, x, i, j, h1, h2, h3, h4, h5, h6 => by
    by_cases hij : i < j
    · obtain ⟨k, y, hk, hl, hy⟩ := reverse_loop m ((x.set i.toNat (rd x j)).set j.toNat (rd x i)) (i + 1) (j - 1) (by omega) (by simp; omega) (by simpa using h3) (by omega) (by simp; omega) (by omega)
      refine ⟨k + 1, y, ?_, by simpa using hl, ?_⟩
      · simp only [slices_Reverse_int_int.l0]
        rw [if_pos hij, if_pos (by omega), if_pos h2, if_pos h1, if_pos (by omega), IntWalk.wrap64_in (i + 1) ⟨by omega, by omega⟩, IntWalk.wrap64_in (j - 1) ⟨by omega, by omega⟩]
        exact hk
      · intro t ht
        rw [hy t (by simpa using ht)]
        have hi : rd x i = x[i.toNat]'(by omega) := by simp [rd, show i.toNat < x.length by omega]
        have hj : rd x j = x[j.toNat]'(by omega) := by simp [rd, show j.toNat < x.length by omega]
        rw [hi, hj]
        by_cases h7 : i + 1 ≤ (t : Int) ∧ (t : Int) ≤ j - 1
        · rw [if_pos h7, if_pos (by omega), show i + 1 + (j - 1) - (t : Int) = i + j - t by omega, List.getElem?_set_ne (by omega), List.getElem?_set_ne (by omega)]
        · rw [if_neg h7]
          by_cases h8 : (t : Int) = j
          · obtain rfl : t = j.toNat := by omega
            rw [List.getElem?_set_self (by simpa using ht), if_pos (by omega), show (i + j - (j.toNat : Int)).toNat = i.toNat by omega, List.getElem?_eq_getElem (by omega)]
          · rw [List.getElem?_set_ne (by omega)]
            by_cases h9 : (t : Int) = i
            · obtain rfl : t = i.toNat := by omega
              rw [List.getElem?_set_self ht, if_pos (by omega), show (i + j - (i.toNat : Int)).toNat = j.toNat by omega, List.getElem?_eq_getElem (by omega)]
            · rw [List.getElem?_set_ne (by omega), if_neg (by omega)]
    · exact ⟨1, x, by simp only [slices_Reverse_int_int.l0]; rw [if_neg hij], rfl, fun t _ => by
        split
        · rw [show (i + j - (t : Int)).toNat = t by omega]
        · rfl⟩
theorem reverse_i64_ok (xs : List Int) (h : xs.length < 9223372036854775807) : ∃ k, slices_Reverse_int_int.f k xs = some xs.reverse := by
  obtain ⟨k, y, hk, hl, hy⟩ := reverse_loop (xs.length + 1) xs 0 ((xs.length : Int) - 1) (by omega) (by omega) h (by omega) (by omega) (by omega)
  refine ⟨k, ?_⟩
  unfold slices_Reverse_int_int.f
  rw [IntWalk.wrap64_in _ ⟨by omega, by omega⟩, hk]
  congr 1
  refine List.ext_getElem? fun t => ?_
  by_cases ht : t < xs.length
  · rw [hy t ht, if_pos (by omega), List.getElem?_reverse ht]
    congr 1
    omega
  · rw [List.getElem?_eq_none (by omega), List.getElem?_eq_none (by simp; omega)]
theorem stopHere {p : Prop} (h : id p) : p := h
theorem KpB_t {n₀ Bs : Nat} {A B C : World} (h : KpB n₀ Bs A B) (k : KpB n₀ Bs B C) : KpB n₀ Bs A C := ⟨h.1.trans k.1, k.2.trans h.2⟩
theorem KpB_b {n₀ Bs : Nat} {w : World} (hn : n₀ ≤ w.heap.size) (hB : Bs < w.heap.size) (W : World) (l : Nat) (o o' : Obj) (hl : w.heap.size ≤ l) (h : W.heap[l]? = some o) (hc : o.isCells = false) (hw : o.isWalk = false) : KpB n₀ Bs W (W.putObj l o') :=
  ⟨belowK_b hn W l o o' hl h hc hw, World.putObj_heap_other (by omega)⟩
def itemBox (l : List S117) (sv : SV) (x : Nat) : Array Value := #[.int .u16 (rd_T117 l (x : Int)).f0, .int .u8 (rd_T117 l (x : Int)).f1, .slice (sv.A x) (sv.n x) (sv.c x)]
def sliceAt (w : World) (A0 : Option Addr) (j : Nat) : Option Addr × Nat × Nat :=
  match A0.bind (fun ad => w.cell? ⟨(ad.add (j * 3)).block, (ad.add (j * 3)).off + 2, none⟩) with
  | some (.slice A n c) => (A, n, c)
  | _ => (none, 0, 0)
theorem cell_of_blk {W : World} {g : Nat} {t : TypeId} {cs : Array Value} (h : W.heap[g]? = some (.cells cs t (0, 0))) (i : Nat) : W.cell? ⟨g, i, none⟩ = cs[i]? := by simp [World.cell?, h]
theorem frozen_of_blk {W : World} {g : Nat} {t : TypeId} {cs : Array Value} (h : W.heap[g]? = some (.cells cs t (0, 0))) (i : Nat) : W.frozen? ⟨g, i, none⟩ = false := by simp [World.frozen?, h]
def dcf_lasts.f (l0 : List (S117)) : Option (List Int) := if l0.length < 17592186044416 then some (lastRun l0 (List.range l0.length).reverse).2.reverse else none
set_option maxHeartbeats 8000000 in
set_option maxRecDepth 100000 in
theorem dcf_lasts.calls (A0 : Option Addr) (c0 : Nat) (l0 : List (S117)) (r : List Int) (w : World) (hr0 : Kd.C k117 w A0 l0.length l0) (hc0 : l0.length ≤ c0) (h : dcf_lasts.f l0 = some r) :
    Calls Try.prog 59 #[.slice A0 l0.length c0] w fun e w' => ∃ v0_ : Value, e = .returned (v0_) ∧ Kd.R (Kd.int .i64) 3 w' w.heap.size (fun _ => True) v0_ r ∧ Below w.heap.size w w' := by
  unfold dcf_lasts.f at h
  by_cases hlim : l0.length < 17592186044416
  case neg => rw [if_neg hlim] at h; cases h
  rw [if_pos hlim] at h
  have HR := Aside0.mk (Option.some.inj h)
  clear h
  have hmax : l0.length ≤ 9223372036854775807 := hr0.2.1
  have HR0 := Aside0.mk hr0
  have HC0 := Aside0.mk hc0
  clear hr0 hc0
  refine (callsIn_wide (n := 9)).1 ?_
  refine callsIn_of_wp_marks Try.func59 rfl trivial ?_ rfl
  simp only [Try.ntmps59, List.size_toArray, List.length_cons, List.length_nil, Nat.reduceAdd, Nat.reduceSub, Array.replicate_succ, Array.replicate_zero, List.push_toArray, List.append_toArray, List.nil_append, List.cons_append]
  have hmm := @run_makeMap Try.prog
  gi_wp2_with fail
  refine ⟨trivial, (callsIn_wide.2 (Backward_calls _ _ _ _)).mono ?_⟩
  rintro e w' ⟨rfl, rfl⟩
  have bM : Raw.MapIs ((((w.alloc (.map #[] 0)).alloc (.cells #[.map (some w.heap.size)] 193)).alloc (.cells #[.slice none 0 0] 65)).alloc (.cells #[.slice A0 l0.length c0] 22)) pk Value.bool w.heap.size [] 0 :=
    ((Raw.mapIs_made w pk Value.bool).kept (World.grownBy_alloc _ _ none) (by simp) |>.kept (World.grownBy_alloc _ _ none) (by simp)).kept (World.grownBy_alloc _ _ none) (by simp)
  have bS := ((Boxed.new (w.alloc (.map #[] 0)) 193 (.map (some w.heap.size))).alloc (.cells #[.slice none 0 0] 65)).alloc (.cells #[.slice A0 l0.length c0] 22)
  have bO := (Boxed.new ((w.alloc (.map #[] 0)).alloc (.cells #[.map (some w.heap.size)] 193)) 65 (.slice none 0 0)).alloc (.cells #[.slice A0 l0.length c0] 22)
  have bA := Boxed.new (((w.alloc (.map #[] 0)).alloc (.cells #[.map (some w.heap.size)] 193)).alloc (.cells #[.slice none 0 0] 65)) 22 (.slice A0 l0.length c0)
  simp only [World.size_alloc] at bS bO bA
  have hB0 : Below w.heap.size w ((((w.alloc (.map #[] 0)).alloc (.cells #[.map (some w.heap.size)] 193)).alloc (.cells #[.slice none 0 0] 65)).alloc (.cells #[.slice A0 l0.length c0] 22)) :=
    ((((Below.refl _ w).alloc (Nat.le_refl _) _).alloc (by simp) _).alloc (by simp; omega) _).alloc (by simp; omega) _
  have hsz : ((((w.alloc (.map #[] 0)).alloc (.cells #[.map (some w.heap.size)] 193)).alloc (.cells #[.slice none 0 0] 65)).alloc (.cells #[.slice A0 l0.length c0] 22)).heap.size = w.heap.size + 4 := by simp
  have hO : ((((w.alloc (.map #[] 0)).alloc (.cells #[.map (some w.heap.size)] 193)).alloc (.cells #[.slice none 0 0] 65)).alloc (.cells #[.slice A0 l0.length c0] 22)).ownsRow w.heap.size 3 1 (.slice none 0 0) 0 [] := World.ownsRow_nil _ _ _ _
  generalize hW0 : ((((w.alloc (.map #[] 0)).alloc (.cells #[.map (some w.heap.size)] 193)).alloc (.cells #[.slice none 0 0] 65)).alloc (.cells #[.slice A0 l0.length c0] 22)) = W0 at bM bS bO bA hB0 hsz hO ⊢
  clear hW0
  have HBM := Aside0.mk bM
  have HBS := Aside0.mk bS
  have HBO := Aside0.mk bO
  have HBA := Aside0.mk bA
  have HB0 := Aside0.mk hB0
  have HSZ := Aside0.mk hsz
  have HO := Aside0.mk hO
  clear bM bS bO bA hB0 hsz hO
  obtain ⟨sv, hsv⟩ : ∃ sv : SV, sv = ⟨fun j => (sliceAt w A0 j).1, fun j => (sliceAt w A0 j).2.1, fun j => (sliceAt w A0 j).2.2⟩ := ⟨_, rfl⟩
  have hcells : ∀ j : Nat, j < l0.length → ∃ ad, A0 = some ad ∧ ad.block < w.heap.size ∧ W0.cell? (ad.add (j * 3)) = some (.int .u16 (rd_T117 l0 (j : Int)).f0) ∧ W0.cell? ⟨(ad.add (j * 3)).block, (ad.add (j * 3)).off + 1, none⟩ = some (.int .u8 (rd_T117 l0 (j : Int)).f1) ∧ W0.cell? ⟨(ad.add (j * 3)).block, (ad.add (j * 3)).off + 2, none⟩ = some (.slice (sv.A j) (sv.n j) (sv.c j)) := by
    intro j hj
    obtain ⟨ad, A2, c2, e, hx0, hx1, hx2, _, _⟩ := at_T117 HR0.out (j : Int) (by omega) (by omega)
    rw [Int.toNat_natCast] at hx0 hx1 hx2
    have hs : sliceAt w A0 j = (A2, (rd_T117 l0 (j : Int)).f2.length, c2) := by unfold sliceAt; simp [e, hx2]
    have hs2 : Value.slice (sv.A j) (sv.n j) (sv.c j) = .slice A2 (rd_T117 l0 (j : Int)).f2.length c2 := by rw [hsv]; simp [hs]
    have hb := World.block_lt_of_cell? w _ hx0
    rw [add_block] at hb
    refine ⟨ad, e, hb, ?_, ?_, ?_⟩
    · exact (HB0.out.cell (by rw [add_block]; exact hb)).trans hx0
    · exact (HB0.out.cell (p := ⟨(ad.add (j * 3)).block, (ad.add (j * 3)).off + 1, none⟩) (by rw [add_block]; exact hb)).trans hx1
    · rw [hs2]; exact (HB0.out.cell (p := ⟨(ad.add (j * 3)).block, (ad.add (j * 3)).off + 2, none⟩) (by rw [add_block]; exact hb)).trans hx2
  have HC := Aside0.mk hcells
  clear hsv hcells
  have hsq : SeqStopsK Fence.wide 8 Try.prog 158 #[.pointer (some ⟨w.heap.size + 1 + 1 + 1, 0, none⟩)] (itemV (fun j => (rd_T117 l0 (j : Int)).f0) (fun j => (rd_T117 l0 (j : Int)).f1) sv) (KpB w.heap.size (w.heap.size + 1 + 1 + 1)) (fun ys => ys = (List.range l0.length).reverse) (fun _ => True) l0.length W0 := by
    intro l J Jx W hW _ _ hY h0
    have hsz := HSZ.out
    refine back1_in 8 l (w.heap.size + 1 + 1 + 1) w.heap.size (by omega) A0 l0.length c0 _ _ sv hmax J Jx hY W ((hW.cell (p := ⟨w.heap.size + 1 + 1 + 1, 0, none⟩) (by show w.heap.size + 1 + 1 + 1 < _; omega)).trans HBA.out.cell) (fun j hj => ?_) h0
    obtain ⟨ad, e, hb, hx0, hx1, hx2⟩ := HC.out j hj
    have hb' : ad.block < W0.heap.size := by omega
    exact ⟨ad, e, hb, (hW.cell (by rw [add_block]; exact hb')).trans hx0, (hW.cell (p := ⟨(ad.add (j * 3)).block, (ad.add (j * 3)).off + 1, none⟩) (by rw [add_block]; exact hb')).trans hx1, (hW.cell (p := ⟨(ad.add (j * 3)).block, (ad.add (j * 3)).off + 2, none⟩) (by rw [add_block]; exact hb')).trans hx2⟩
  have HSQ := Aside0.mk hsq
  clear hsq
  gi_wp2
  refine wpIn_rangeFunc_ownH rfl (by omega) (gf := 158) (lb := #[.pointer (some ⟨w.heap.size + 1 + 1 + 1, 0, none⟩)]) rfl trivial (enters_of Try.func158 (by kernel_rfl) rfl)
    HSQ.out KpB_t (KpB_b (by have := HSZ.out; omega) (by have := HSZ.out; omega)) (Below.refl _ _) (fun _ => rfl)
    (LastsI l0 (.slice A0 l0.length c0) w.heap.size w.heap.size w) (fun _ _ _ => False) (LastsI.own (by have := HSZ.out; omega) (Nat.le_refl _) (by have := HSZ.out; omega)) (fun _ _ _ _ _ hs _ _ => hs)
    ⟨⟨⟨[], 0, HBM.out, by intro q; simp [lastRun, Raw.getE, Raw.findE]⟩, HBS.out, HBA.out, ⟨_, HBO.out, by simpa [lastRun] using HO.out, trivial⟩⟩, HB0.out⟩
    (fun x a' W => ∃ Bx, w.heap.size + 1 + 1 + 1 < Bx ∧ W.heap[Bx]? = some (.cells (itemBox l0 sv x) 117 (0, 0)) ∧ a' = { tmps := #[.slice A0 l0.length c0, undef, .slice none 0 0, .pointer (some ⟨w.heap.size + 1, 0, none⟩), .pointer (some ⟨w.heap.size + 1 + 1, 0, none⟩), .int .i64 (x : Int), .pointer (some ⟨Bx, 0, none⟩), undef, .map (some w.heap.size), .slice A0 l0.length c0, .func (.func 158) #[] #[.pointer (some ⟨w.heap.size + 1 + 1 + 1, 0, none⟩)], .int .i64 (x : Int), .agg (itemBox l0 sv x), undef, undef, undef, undef, undef, undef, undef, undef, undef, undef, undef, undef, undef, undef, undef, undef, undef, undef], defers := [] })
    (fun x a' _ X Y row hs hg hr => by
      obtain ⟨Bx, h1, h2, h3⟩ := hs
      refine ⟨Bx, h1, (hg.block Bx (Array.getElem?_eq_some_iff.1 h2).1 (fun e => ?_)).trans h2, h3⟩
      obtain ⟨o, ho, hc⟩ := (hr Bx e.symm).2
      rw [h2] at ho; cases ho; cases hc)
    ?assign ?body ?done ?stop
  case assign =>
    intro l pre x W K hI hK
    unfold itemV
    simp only [itemBox] at hK
    have HI := Aside0.mk hI
    clear hI
    gi_wp2
    have hI := HI.out
    have hlt := hI.1.2.2.1.lt
    have hle : w.heap.size ≤ W.heap.size := by omega
    exact hK _ _ ((KeepsOthers.alloc _ _).from _) ⟨(Below.refl _ W).alloc hle _, Below.heap_alloc W _ _ hlt⟩
      (LastsI.own (B := W0.heap.size) (by have := HSZ.out; omega) (Nat.le_refl _) (by have := HSZ.out; omega) _ _ _ none hI (World.grownBy_alloc W _ none) (fun r e => by cases e))
      ⟨W.heap.size, by omega, heap_alloc_new W _, rfl⟩
  case body =>
    rintro l pre x a' W hl ⟨rl, hrl⟩ hI ⟨Bx, hBx, bX, rfl⟩ hlt
    obtain ⟨⟨⟨es, clock, hm, hq⟩, hb1, hb3, ⟨v, hv, hr, _⟩⟩, hB⟩ := hI
    have hlen := lastRun_length l0 pre
    have hB3 : w.heap.size + 3 < W0.heap.size := by have := HSZ.out; omega
    have hbmW : w.heap.size < W.heap.size := by have := hb3.lt; omega
    have cx0 := cell_of_blk bX 0
    have cx1 := cell_of_blk bX 1
    simp only [itemBox, List.getElem?_toArray, List.getElem?_cons_zero, List.getElem?_cons_succ] at cx0 cx1
    have fX0 : ((rd_T117 l0 (x : Int)).f0, (rd_T117 l0 (x : Int)).f1) = placeOf l0 x := rfl
    have cM := (hb1.alloc (.cells #[.int .u16 (rd_T117 l0 (x : Int)).f0, .int .u8 (rd_T117 l0 (x : Int)).f1] 198)).cell
    have cV := (hv.alloc (.cells #[.int .u16 (rd_T117 l0 (x : Int)).f0, .int .u8 (rd_T117 l0 (x : Int)).f1] 198)).cell
    have hm1 : Raw.MapIs (W.alloc (.cells #[.int .u16 (rd_T117 l0 (x : Int)).f0, .int .u8 (rd_T117 l0 (x : Int)).f1] 198)) pk Value.bool w.heap.size es clock := hm.kept (World.grownBy_alloc _ _ none) (by simp)
    have hlook := Raw.run_look pk_key Try.underlying193 hm1 (zero4 _) (placeOf l0 x) false
    rw [hq] at hlook
    have hnew := fun (t : Obj) (w1 : World) (v' : Value) hr' hgrow hp => round_new (B := W0.heap.size) (x := x) (w1 := w1) (tmp := t) (v' := v') hB3 (Nat.le_refl _) hbmW hq hp hb1 hb3 hv hr hB hm1 hr' hgrow
    have hold := fun (w2 : World) hp hm2 hg => round_old (B := W0.heap.size) (x := x) (w2 := w2) hB3 (Nat.le_refl _) hbmW hq hp hb1 hb3 hv hr hB hm1 hm2 hg
    have hput := Raw.run_put pk_key Try.underlying193 hm1 (placeOf l0 x) true
    have HNEW := Aside0.mk hnew
    have HOLD := Aside0.mk hold
    have HBV := Aside0.mk hv
    have HR1 := Aside0.mk (hr.alloc (.cells #[.int .u16 (rd_T117 l0 (x : Int)).f0, .int .u8 (rd_T117 l0 (x : Int)).f1] 198))
    have HBW := Aside0.mk hB
    have HL := Aside0.mk hlen
    clear hnew hold hq hm hm1 hb1 hb3 hv hr hB bX hlen
    by_cases hp : placeOf l0 x ∈ (lastRun l0 pre).1
    · simp only [hp, if_true, Option.map_some, Option.getD_some, Bool.false_eq_true, if_false] at hlook
      obtain ⟨w2, hrun, hm2, hg2⟩ := hput
      have HP := Aside0.mk (HOLD.out w2 hp hm2 hg2)
      clear hp hm2 hg2
      unfold pk placeOf at hlook hrun
      simp only [itemBox]
      gi_wp2_with (first | (gi_at_lookup; refine Raw.wpListIn_lookup_raw _ rfl _ _ _ _ rfl _ hlook ?_) | (gi_at_mapUpdate; refine Raw.wpListIn_mapUpdate_raw _ rfl _ _ _ _ rfl _ hrun ?_))
      exact HP.out
    · simp only [hp, if_false, Option.map_none, Option.getD_none, Bool.false_eq_true] at hlook
      have HP := Aside0.mk hp
      clear hp hput
      unfold pk placeOf at hlook
      simp only [itemBox]
      obtain ⟨i0, hi, hz0, hz1, hz2⟩ := info_parts info3
      have hLb := HL.out
      have hBx1 := Bx
      gi_wp2_with (first | (gi_at_lookup; refine Raw.wpListIn_lookup_raw _ rfl _ _ _ _ rfl _ hlook ?_) | (gi_at_builtin; apply stopHere))
      unfold id
      refine wpListIn_append_own _ rfl (.tmp 22) (.tmp 24) 65 rfl w.heap.size 3 i0 (.int .i64 0) 1 8 Try.underlying65 hi hz0 hz1 hz2 rfl (by decide) _ _ _ rfl (HR1.out.alloc _) ⟨W.heap.size + 1, 0, none⟩ 1 1 [.int .i64 x] rfl rfl (by have h1 := cell_one_new (W.alloc (.cells #[.int .u16 (rd_T117 l0 (x : Int)).f0, .int .u8 (rd_T117 l0 (x : Int)).f1] 198)) (Value.int .i64 (x : Int)) 3; rw [World.size_alloc] at h1; exact h1) (by simp [Value.oneCell']) (by unfold maxLen; omega) (by omega) (by simp; omega) ?_
      intro v' w1 hown' hgrow _
      obtain ⟨g', cap', rfl⟩ := ownsRow_succ hown'
      obtain ⟨⟨kA, kB, kC, kD, kE⟩, hfin⟩ := HNEW.out _ w1 _ hown' hgrow HP.out
      obtain ⟨kE1, kE2⟩ := kE W.heap.size 198 _ rfl (heap_alloc_new W _) (by decide)
      have kE3 := kE2 (by have := cV; intro e; have h1 := World.block_lt_of_cell? _ _ this; have h2 := HBV.out.lt; simp at h1; omega)
      have HFIN := Aside0.mk hfin
      have cB1 := kB.cell
      have fB1 := kB.frozen
      have cD1 := kD.cell
      have cE0 := cell_of_blk kE3 0
      have cE1 := cell_of_blk kE3 1
      simp only [List.getElem?_toArray, List.getElem?_cons_zero, List.getElem?_cons_succ] at cE0 cE1
      have hput := Raw.run_put pk_key Try.underlying193 kC (placeOf l0 x) true
      obtain ⟨w2, hrun, hm2, hg2⟩ := hput
      have HP2 := Aside0.mk (HFIN.out w2 hm2 hg2)
      clear hm2 hg2 hfin kA kB kC kD kE kE1 kE2 kE3 hown' hgrow
      unfold pk placeOf at hrun
      gi_wp2_with (first | (gi_at_mapUpdate; refine Raw.wpListIn_mapUpdate_raw _ rfl _ _ _ _ rfl _ hrun ?_))
      exact HP2.out
  case done =>
    intro D ys W hD hys hI hK
    subst hys
    obtain ⟨⟨_, hb1, hb3, ⟨v, hv, hr, _⟩⟩, hB⟩ := hI
    have hlen := lastRun_length l0 (List.range l0.length).reverse
    simp only [List.length_reverse, List.length_range] at hlen
    obtain ⟨k, hk⟩ := reverse_i64_ok (lastRun l0 (List.range l0.length).reverse).2 (by omega)
    rw [HR.out] at hk
    have hRev := slices_Reverse_int_int.calls k (fun j => v.ownBlock = some j) v _ _ w W hB (Kd.R_of_own (by simpa [encs] using hr) (fun k hk => hk)) hk
    have hnb := hv.not_row (by decide) hr
    have hnD : some D ≠ v.ownBlock := by
      rcases hr.2 with ⟨rfl, _⟩ | ⟨q, cap, cur, rfl, _, hqb, _⟩
      · simp [Value.ownBlock]
      · intro e'
        obtain rfl : D = q := by simpa [Value.ownBlock] using e'
        rw [hK] at hqb
        cases hqb
    have HREV := Aside0.mk hRev
    have HV := Aside0.mk hv
    have HKD := Aside0.mk hK
    have HNB := Aside0.mk hnb
    have HND := Aside0.mk hnD
    have cV := hv.cell
    clear hRev hv hK hnb hnD hb1 hb3 hr hB hk
    gi_wp2_with fail
    refine ⟨trivial, (callsIn_wide.2 HREV.out).mono ?_⟩
    rintro e w' ⟨rfl, h1, h2, h3⟩
    have H1 := Aside0.mk h1
    have H2 := Aside0.mk h2
    have hv' : Boxed w' (w.heap.size + 1 + 1) 65 v := (h3.2 _ HV.out.lt (fun e => HNB.out e.symm)).trans HV.out
    have hK' := (h3.2 D (Array.getElem?_eq_some_iff.1 HKD.out).1 (fun e => HND.out e.symm)).trans HKD.out
    have HK' := Aside0.mk hK'
    have cV' := hv'.cell
    clear h1 h2 h3 hv' hK' cV
    gi_wp2_with fail
    refine ⟨by simp, .inl ⟨_, _, rfl, run_takeDeferred HK'.out, ?_⟩⟩
    refine ⟨_, results_tmp rfl _ _ _, ⟨_, rfl, Kd.R_mono (Kd.R_step H1.out (fun j hj _ => ?_)) (fun _ _ => trivial), H2.out.trans (belowK_b (w := w) (Nat.le_refl _) w' D _ _ (by have := HSZ.out; omega) HK'.out rfl rfl)⟩⟩
    refine World.putObj_heap_other ?_
    rintro rfl
    rcases hj with hj | hj
    · exact HND.out hj.symm
    · have := (Array.getElem?_eq_some_iff.1 HKD.out).1
      omega
  case stop =>
    intro D c pre W _ _ h _
    exact h.elim

/-! ### slices_Clone_byte_byte: function 60, by hand -/
def slices_Clone_byte_byte.f (l0 : List Int) : Option (List Int) := if l0.length < 140737488355328 then some l0 else none
set_option maxHeartbeats 8000000 in
set_option maxRecDepth 100000 in
theorem slices_Clone_byte_byte.calls (A0 : Option Addr) (c0 : Nat) (l0 : List Int) (r : List Int) (w : World) (hr0 : Kd.C (Kd.int .u8) w A0 l0.length l0) (hc0 : l0.length ≤ c0) (h : slices_Clone_byte_byte.f l0 = some r) :
    Calls Try.prog 60 #[.slice A0 l0.length c0] w fun e w' => ∃ v0_ : Value, e = .returned (v0_) ∧ Kd.R (Kd.int .u8) 5 w' w.heap.size (fun _ => True) v0_ r ∧ Below w.heap.size w w' := by
  have HR0 := Aside0.mk hr0
  have HC0 := Aside0.mk hc0
  have HB := Aside0.mk (Below.refl w.heap.size w)
  unfold slices_Clone_byte_byte.f at h
  by_cases c2 : l0.length < 140737488355328
  · rw [if_pos c2] at h
    have LMc2 := Aside0.mk c2
    obtain rfl := Option.some.inj h
    clear h
    have hq := fun W => Lib.run_eql_slice_nil (P := Try.prog) W 23 5 A0 l0.length c0 0 0 Try.underlying23
    cases A0 with
    | none =>
      have hl : l0 = [] := by
        rcases Nat.eq_zero_or_pos l0.length with h0 | h0
        · exact List.eq_nil_of_length_eq_zero h0
        · obtain ⟨ad, _, e, _⟩ := Kd.C_get hr0 0 0 (Int.le_refl _) (by omega)
          cases e
      have HL := Aside0.mk hl
      clear c2 hl hr0 hc0
      simp only [Option.isNone_none] at hq
      go_enter Try.func60, Try.ntmps60
      go_wp2
      go_ret
      exact ⟨_, rfl, by rw [HL.out]; exact Kd.R_nil _ _ _ _ _, HB.out⟩
    | some ad =>
      clear c2 hr0 hc0
      simp only [Option.isNone_some] at hq
      go_enter Try.func60, Try.ntmps60
      go_wp2_with (first | ((with_reducible refine gate_dst (N := 5) rfl ?_); refine Kd.R_lit (Kd.int .u8) _ 5 ?hg (N := 5) ?hd (xs := ([] : List Int)) (inner := []) (ok := fun _ => True) (okp := fun _ => True) ?hr ?hp (fun _ hk => hk) trivial (Below.refl _ _) (Nat.le_refl _) (by simp) ?_; (case hd => rfl); (case hg => rfl); (case hr => first | (go_simp; done) | (go_simp; rfl)); (case hp => exact (Reps.none _ _)); intro v185 w3 ho4 hb hg_ hnew_; clear hg_ hnew_; have HO186 := Aside0.mk ho4; have HB1 := Aside0.mk hb; clear hb ho4) | ((with_reducible refine gate_builtin (b := .append) (xs := #[.tmp 5, .tmp 6]) rfl ?_); at_builtin; refine Kd.R_append_rows (Kd.int .u8) (w0 := w) w.heap.size rfl (.tmp 5) (.tmp 6) 23 5 (.int .u8 0) 1 rfl Try.underlying23 info5 rfl (by decide) (by omega) v185 [] l0 _ _ _ (fun _ => True) (fun _ => False) rfl rfl ?aO ?aR (fun _ _ h => h) (fun _ h => h.elim) ?aF ?aB ?aS ?aL ?_; (case aR => exact Kd.C_below HR0.out HB1.out); (case aB => exact HB1.out); (case aF => exact (fun _ _ => trivial)); (case aO => exact HO186.out); (case aS => exact HB1.out.size); (case aL => have := LMc2.out; simp; omega); intro v188 w5 ho hb hg hat; have HB2 := Aside0.mk hb; have HO189 := Aside0.mk ho; clear ho hb hg hat))
      go_ret
      exact ⟨_, rfl, by simpa using HO189.out, HB2.out⟩
  · rw [if_neg c2] at h
    exact absurd h (by simp)

/-! ### dcf_Last: function 16 -/
def dcf_Last.l0 : Nat → List (S117) → List (S117) → List Int → Int → Int → Option ((List (S117)))
  | 0, _, _, _, _, _ => none
  | k + 1, x0, x3, x8, x9, x10 => if x10 < x9 then (if 0 ≤ x10 then (if x10 < (x8.length : Int) then (if 0 ≤ (rd x8 x10) then (if (rd x8 x10) < (x0.length : Int) then ((slices_Clone_byte_byte.f ((rd_T117 x0 (rd x8 x10)).f2)).bind fun t196 => (if x3.length < 4398046511104 then (dcf_Last.l0 k x0 (x3 ++ [(⟨(rd_T117 x0 (rd x8 x10)).f0, (rd_T117 x0 (rd x8 x10)).f1, t196⟩ : S117)]) x8 x9 (wrap64 (x10 + 1))) else (none))) else (none)) else (none)) else (none)) else (none)) else (some x3)
def dcf_Last.f (k : Nat) (l0 : List (S117)) : Option ((List (S117))) := (dcf_lasts.f l0).bind fun t190 => (dcf_Last.l0 k l0 ([] : List (S117)) t190 (t190.length : Int) 0)
theorem dcf_Last.mono_l : ∀ k, (∀ y0 y1 y2 y3 y4, LeO (dcf_Last.l0 k y0 y1 y2 y3 y4) (dcf_Last.l0 (k + 1) y0 y1 y2 y3 y4))
  | 0 => fun _ _ _ _ _ r h => by simp [dcf_Last.l0] at h
  | k + 1 => by
    have ih0 := dcf_Last.mono_l k
    · intro y0 y1 y2 y3 y4
      unfold dcf_Last.l0
      repeat' first
      | (with_reducible exact ih0 _ _ _ _ _)
      | (with_reducible exact LeO.refl _)
      | (with_reducible exact LeO.none _)
      | (with_reducible refine LeO.ite ?_ ?_)
      | (with_reducible refine LeO.bind ?_ (fun _ => ?_))
      | exact ih0 _ _ _ _ _
      | exact LeO.none _
      | refine LeO.ite ?_ ?_
      | refine LeO.bind ?_ (fun _ => ?_)
theorem dcf_Last.mono : ∀ a0 k, LeO (dcf_Last.f k a0) (dcf_Last.f (k + 1) a0) := by
  intro a0 k
  have ih0 := dcf_Last.mono_l k
  unfold dcf_Last.f
  repeat' first
      | (with_reducible exact ih0 _ _ _ _ _)
      | (with_reducible exact LeO.refl _)
      | (with_reducible exact LeO.none _)
      | (with_reducible refine LeO.ite ?_ ?_)
      | (with_reducible refine LeO.bind ?_ (fun _ => ?_))
      | exact ih0 _ _ _ _ _
      | exact LeO.none _
      | refine LeO.ite ?_ ?_
      | refine LeO.bind ?_ (fun _ => ?_)
set_option maxHeartbeats 8000000 in
set_option maxRecDepth 100000 in
theorem dcf_Last.calls (k : Nat) (A0 : Option Addr) (c0 : Nat) (l0 : List (S117)) (r : List (S117)) (w : World) (hr0 : Kd.C k117 w A0 l0.length l0) (hc0 : l0.length ≤ c0) (h : dcf_Last.f k l0 = some r) :
    Calls Try.prog 16 #[.slice A0 l0.length c0] w fun e w' => ∃ v0_ : Value, e = .returned (v0_) ∧ Kd.S k117 117 w' w.heap.size (fun _ => True) v0_ r ∧ Below w.heap.size w w' := by
  have hu117 := Try.underlying117
  have HR0 := Aside0.mk hr0
  have HC0 := Aside0.mk hc0
  clear hr0 hc0
  have HB := Aside0.mk (Below.refl w.heap.size w)
  have H : ((dcf_lasts.f l0).bind fun t190 => (dcf_Last.l0 k l0 ([] : List (S117)) t190 (t190.length : Int) 0)) = some r := h
  clear h
  replace H := Option.bind_eq_some_iff.mp H
  obtain ⟨t190, A20, H⟩ := H
  replace H : (dcf_Last.l0 k l0 ([] : List (S117)) t190 (t190.length : Int) 0) = some r := H
  have A2 := Aside0.mk A20
  clear A20
  have H' := Aside0.mk H
  clear H
  go_enter Try.func16, Try.ntmps16
  go_wp2_with (first | ((with_reducible refine gate_callee (f := 59) rfl ?_); refine goesL_ (some 8) rfl rfl Try.func59 (by kernel_rfl) rfl #[.slice A0 l0.length c0] rfl (by (try simp only [List.map_toArray, List.map_cons, List.map_nil]); first | done | rfl | (simp only [List.length_drop, List.length_take]; rfl)) ?_; (with_reducible refine (dcf_lasts.calls _ _ l0 t190 _ ?side1 ?side2 A2.out).mono ?_); (case side1 => repeat (first | exact HR0.out | (with_reducible refine Kd.C_alloc ?_ _) | (with_reducible refine Kd.C_drewN ?_ _) | (with_reducible refine Kd.C_drew ?_))); (case side2 => exact HC0.out); rintro e w3 ⟨v191, rfl, ho0, hb⟩; refine ⟨_, rfl, ?_⟩; have n0_ := Aside0.mk (Kd.R_lower ho0 (below_size (by repeat (first | (with_reducible first | exact HB.out | apply below_alloc | apply pw_below_drewN | apply below_drew1) | exact HB.out)))); have n1_ := Aside0.mk (below_step (by repeat (first | (with_reducible first | exact HB.out | apply below_alloc | apply pw_below_drewN | apply below_drew1) | exact HB.out)) hb); clear HB; have HO192 := n0_; have HB := n1_; clear n0_ n1_; (try clear hb); (try clear hb2); (try clear hk); (try clear hi); (try clear ho0); obtain ⟨Ao4, co4, eo4⟩ := Kd.R_slice HO192.out; subst eo4))
  go_loopg [3, 10] k (fun kq v3 v10 w' => ∃ (x3_1 : List (S117)) (x10_1 : Int), v10 = .int .i64 x10_1 ∧ Aside0 (dcf_Last.l0 kq l0 x3_1 t190 (t190.length : Int) x10_1 = some r) ∧ Aside0 (kq ≤ k) ∧ Aside0 (Kd.S k117 117 w' w.heap.size (fun _ => True) v3 x3_1) ∧ Aside0 (Kd.R (Kd.int .i64) 3 w' w.heap.size (fun _ => True) (.slice Ao4 t190.length co4) t190) ∧ Aside0 (Below w.heap.size w w'))
  case atStart => exact ⟨(([] : List (S117))), (0), (by first | rfl | (simp; done) | (simp [*]; done)), H', ⟨Nat.le_refl _⟩, ⟨by first | exact Kd.S_nil _ _ _ _ _ | exact Kd.N_nil _ _ _ _ _ | exact Kd.V_nil _ _ _ _ _ | exact Kd.Q_nil _ _ _ _ _ | exact Kd.R_nil _ _ _ _ _⟩, ⟨by (with_reducible repeat (first | apply Kd.R_alloc | apply Kd.R_drewN | apply Kd.R_drew)); exact HO192.out⟩, ⟨by repeat (first | (with_reducible first | exact HB.out | apply below_alloc | apply pw_below_drewN | apply below_drew1) | exact HB.out)⟩⟩
  case round =>
    clear H'
    try clear c1
    try clear p2
    obtain ⟨x3_1, x10_1, rfl, HA, HK1, HO_3, HO_8, HB⟩ := hrel
    cases gk with
    | zero => exact absurd HA.out (by simp [dcf_Last.l0])
    | succ k1 =>
      have H := HA.out
      clear HA
      simp only [dcf_Last.l0] at H
      by_cases c5 : x10_1 < (t190.length : Int)
      · rw [if_pos c5] at H
        have c5b0 : decide (x10_1 < (t190.length : Int)) = true := decide_eq_true c5
        clear c5
        by_cases c6 : 0 ≤ x10_1
        · rw [if_pos c6] at H
          have c6b0 : decide (0 ≤ x10_1) = true := decide_eq_true c6
          clear c6
          by_cases c7 : x10_1 < (t190.length : Int)
          · rw [if_pos c7] at H
            have c7b0 : decide (x10_1 < (t190.length : Int)) = true := decide_eq_true c7
            clear c7
            by_cases c8 : 0 ≤ (rd t190 x10_1)
            · rw [if_pos c8] at H
              have c8b0 : decide (0 ≤ (rd t190 x10_1)) = true := decide_eq_true c8
              clear c8
              by_cases c9 : (rd t190 x10_1) < (l0.length : Int)
              · rw [if_pos c9] at H
                have c9b0 : decide ((rd t190 x10_1) < (l0.length : Int)) = true := decide_eq_true c9
                clear c9
                replace H := Option.bind_eq_some_iff.mp H
                obtain ⟨t196, A100, H⟩ := H
                replace H : (if x3_1.length < 4398046511104 then (dcf_Last.l0 k1 l0 (x3_1 ++ [(⟨(rd_T117 l0 (rd t190 x10_1)).f0, (rd_T117 l0 (rd t190 x10_1)).f1, t196⟩ : S117)]) t190 (t190.length : Int) (wrap64 (x10_1 + 1))) else (none)) = some r := H
                have A10 := Aside0.mk A100
                clear A100
                by_cases c11 : x3_1.length < 4398046511104
                · rw [if_pos c11] at H
                  have LMc11 := Aside0.mk c11
                  clear c11
                  obtain ⟨y199, hy199⟩ : ∃ y_ : List (S117), y_ = (x3_1 ++ [(⟨(rd_T117 l0 (rd t190 x10_1)).f0, (rd_T117 l0 (rd t190 x10_1)).f1, t196⟩ : S117)]) := ⟨_, rfl⟩
                  replace H : (dcf_Last.l0 k1 l0 y199 t190 (t190.length : Int) (wrap64 (x10_1 + 1))) = some r := by first | (rw [hy199]; with_reducible exact H) | (have H2_ := (Option.bind_some _ _).symm.trans H; rw [hy199]; with_reducible exact H2_) | (have H2_ := (Option.bind_some _ _).symm.trans H; with_reducible exact H2_) | with_reducible exact H | (rw [hy199]; exact H) | exact H
                  have Ny199 := Aside0.mk hy199
                  clear hy199
                  have H' := Aside0.mk H
                  clear H
                  have p193 : 0 ≤ (x10_1 : Int) := of_decide_eq_true (by first | (with_reducible assumption) | assumption)
                  have q193 : x10_1 < (t190.length : Int) := of_decide_eq_true (by first | (with_reducible assumption) | assumption)
                  obtain ⟨ad193, e193, hx193_0⟩ := Kd.at_int (Kd.R_reads' HO_8.out).2.2 x10_1 p193 q193
                  cases e193
                  replace p193 := eq_true p193
                  replace q193 := eq_true q193
                  have p194 : 0 ≤ ((rd t190 x10_1) : Int) := of_decide_eq_true (by first | (with_reducible assumption) | assumption)
                  have q194 : (rd t190 x10_1) < (l0.length : Int) := of_decide_eq_true (by first | (with_reducible assumption) | assumption)
                  obtain ⟨ad194, A194_2, c194_2, e194, hx194_0, hx194_1, hx194_2, hl194_2, hi194_2⟩ := at_T117 HR0.out (rd t190 x10_1) p194 q194
                  cases e194
                  replace hx194_0 := (HB.out.cell (World.block_lt_of_cell? w _ hx194_0)).trans hx194_0
                  replace hx194_1 := (HB.out.cell (World.block_lt_of_cell? w _ hx194_1)).trans hx194_1
                  replace hx194_2 := (HB.out.cell (World.block_lt_of_cell? w _ hx194_2)).trans hx194_2
                  have HR194_2 := Aside0.mk hi194_2
                  have HC194_2 := Aside0.mk hl194_2
                  clear hi194_2 hl194_2
                  replace p194 := eq_true p194
                  replace q194 := eq_true q194
                  go_wp2_with (first | ((with_reducible refine gate_dst (N := 6) rfl ?_); refine box_event ?hg (N := 6) ?hd (cs := #[.int .u16 0, .int .u8 0, .slice none 0 0]) (t := 117) ?hr ?_; (case hd => rfl); (case hg => rfl); (case hr => first | (go_simp; done) | (go_simp; rfl)); intro gb195 hg w12 hbox hb; have n0_ := Aside0.mk (Kd.S_below (Kd.S_elderB (by (with_reducible repeat (first | apply Kd.S_alloc | apply Kd.S_drewN | apply Kd.S_drew)); exact HO_3.out) gb195 (Nat.le_of_eq hg.symm)) hb); have n1_ := Aside0.mk (Kd.R_below (by (with_reducible repeat (first | apply Kd.R_alloc | apply Kd.R_drewN | apply Kd.R_drew)); exact HO_8.out) hb); have n2_ := Aside0.mk (below_step (by repeat (first | (with_reducible first | exact HB.out | apply below_alloc | apply pw_below_drewN | apply below_drew1) | exact HB.out)) hb); have n3_ := Aside0.mk (hbox); have n4_ := Aside0.mk ((by rw [hg]; exact (below_size (by repeat (first | (with_reducible first | exact HB.out | apply below_alloc | apply pw_below_drewN | apply below_drew1) | exact HB.out))) : w.heap.size ≤ gb195)); have n5_ := Aside0.mk ((by rw [hg]; exact (below_size (by repeat (first | (with_reducible first | exact HB.out | apply below_alloc | apply pw_below_drewN | apply below_drew1) | exact HB.out))) : w.heap.size ≤ gb195)); clear HO_3; clear HO_8; clear HB; have HO_3 := n0_; have HO_8 := n1_; have HB := n2_; have BK195 := n3_; have GW195 := n4_; have GE195 := n5_; clear n0_ n1_ n2_ n3_ n4_ n5_; clear hb hbox hg; have hcz13_0 : w12.cell? ⟨gb195, 0, none⟩ = some (.int .u16 0) := (blk_cell BK195.out 0).trans rfl; have hcz13_1 : w12.cell? ⟨gb195, 1, none⟩ = some (.int .u8 0) := (blk_cell BK195.out 1).trans rfl; have hcz13_2 : w12.cell? ⟨gb195, 2, none⟩ = some (.slice none 0 0) := (blk_cell BK195.out 2).trans rfl; have hfz13_0 := blk_frozen BK195.out 0; have hfz13_1 := blk_frozen BK195.out 1; have hfz13_2 := blk_frozen BK195.out 2) | ((with_reducible refine gate_callee (f := 60) rfl ?_); refine goesL_ (some 20) rfl rfl Try.func60 (by kernel_rfl) rfl #[.slice A194_2 ((rd_T117 l0 (rd t190 x10_1)).f2).length c194_2] rfl (by (try simp only [List.map_toArray, List.map_cons, List.map_nil]); first | done | rfl | (simp only [List.length_drop, List.length_take]; rfl)) ?_; (with_reducible refine (slices_Clone_byte_byte.calls _ _ ((rd_T117 l0 (rd t190 x10_1)).f2) t196 _ ?side1 ?side2 A10.out).mono ?_); (case side1 => exact Kd.C_below HR194_2.out (by repeat (first | (with_reducible first | exact HB.out | apply below_alloc | apply pw_below_drewN | apply below_drew1 | refine below_set ?_ GE195.out) | exact HB.out))); (case side2 => exact HC194_2.out); rintro e w14 ⟨v197, rfl, ho0, hb⟩; refine ⟨_, rfl, ?_⟩; have n0_ := Aside0.mk (Kd.S_elder' (by (with_reducible repeat (first | apply Kd.S_alloc | apply Kd.S_drewN | apply Kd.S_drew)); exact (Kd.S_mono (Kd.S_far (p := ⟨gb195, 2, none⟩) (Kd.S_far (p := ⟨gb195, 1, none⟩) (Kd.S_far (p := ⟨gb195, 0, none⟩) (Kd.S_mono HO_3.out (fun k_ hk => (⟨hk, hk.2⟩ : _ ∧ k_ ≠ gb195))) (fun _ hk => hk.2) (.int .u16 ((rd_T117 l0 (rd t190 x10_1)).f0))) (fun _ hk => hk.2) (.int .u8 ((rd_T117 l0 (rd t190 x10_1)).f1))) (fun _ hk => hk.2) (.slice A194_2 ((rd_T117 l0 (rd t190 x10_1)).f2).length c194_2)) (fun _ h_ => h_.1))) (Kd.R_base ho0) hb); have n1_ := Aside0.mk (Kd.R_below (by (with_reducible repeat (first | apply Kd.R_alloc | apply Kd.R_drewN | apply Kd.R_drew)); exact (Kd.R_mono (Kd.R_far (p := ⟨gb195, 2, none⟩) (Kd.R_far (p := ⟨gb195, 1, none⟩) (Kd.R_far (p := ⟨gb195, 0, none⟩) (Kd.R_types HO_8.out BK195.out (by decide)) (fun _ hk => hk.2) (.int .u16 ((rd_T117 l0 (rd t190 x10_1)).f0))) (fun _ hk => hk.2) (.int .u8 ((rd_T117 l0 (rd t190 x10_1)).f1))) (fun _ hk => hk.2) (.slice A194_2 ((rd_T117 l0 (rd t190 x10_1)).f2).length c194_2)) (fun _ h_ => h_.1))) hb); have n2_ := Aside0.mk (Kd.R_lower ho0 (below_size (by repeat (first | (with_reducible first | exact HB.out | apply below_alloc | apply pw_below_drewN | apply below_drew1 | refine below_set ?_ GE195.out) | exact HB.out)))); have n3_ := Aside0.mk (blk_below (g := gb195) (o := .cells #[.int .u16 ((rd_T117 l0 (rd t190 x10_1)).f0), .int .u8 ((rd_T117 l0 (rd t190 x10_1)).f1), .slice A194_2 ((rd_T117 l0 (rd t190 x10_1)).f2).length c194_2] 117 (0, 0)) (by (with_reducible repeat (first | refine blk_drewN ?_ _ | refine blk_drew ?_ | refine blk_alloc ?_ _)); refine blk_put (cs := #[.int .u16 ((rd_T117 l0 (rd t190 x10_1)).f0), .int .u8 ((rd_T117 l0 (rd t190 x10_1)).f1), .slice none 0 0]) ?_ 2 _ rfl; (with_reducible repeat (first | refine blk_drewN ?_ _ | refine blk_drew ?_ | refine blk_alloc ?_ _)); refine blk_put (cs := #[.int .u16 ((rd_T117 l0 (rd t190 x10_1)).f0), .int .u8 0, .slice none 0 0]) ?_ 1 _ rfl; (with_reducible repeat (first | refine blk_drewN ?_ _ | refine blk_drew ?_ | refine blk_alloc ?_ _)); refine blk_put (cs := #[.int .u16 0, .int .u8 0, .slice none 0 0]) ?_ 0 _ rfl; (with_reducible repeat (first | refine blk_drewN ?_ _ | refine blk_drew ?_ | refine blk_alloc ?_ _)); exact BK195.out) hb); have n4_ := Aside0.mk (below_step (by repeat (first | (with_reducible first | exact HB.out | apply below_alloc | apply pw_below_drewN | apply below_drew1 | refine below_set ?_ GE195.out) | exact HB.out)) hb); clear HO_3; clear HO_8; clear BK195; clear HB; have HO_3 := n0_; have HO_8 := n1_; have HO198 := n2_; have BK195 := n3_; have HB := n4_; clear n0_ n1_ n2_ n3_ n4_; (try clear hb); (try clear hb2); (try clear hk); (try clear hi); (try clear ho0); obtain ⟨Ao15, co15, eo15⟩ := Kd.R_slice HO198.out; subst eo15; have hcz16_0 : w14.cell? ⟨gb195, 0, none⟩ = some (.int .u16 ((rd_T117 l0 (rd t190 x10_1)).f0)) := (blk_cell BK195.out 0).trans rfl; have hcz16_1 : w14.cell? ⟨gb195, 1, none⟩ = some (.int .u8 ((rd_T117 l0 (rd t190 x10_1)).f1)) := (blk_cell BK195.out 1).trans rfl; have hcz16_2 : w14.cell? ⟨gb195, 2, none⟩ = some (.slice A194_2 ((rd_T117 l0 (rd t190 x10_1)).f2).length c194_2) := (blk_cell BK195.out 2).trans rfl; have hfz16_0 := blk_frozen BK195.out 0; have hfz16_1 := blk_frozen BK195.out 1; have hfz16_2 := blk_frozen BK195.out 2) | ((with_reducible refine gate_store (t := 23) (p := 21) rfl ?_); refine store_event (t := 23) (p := 21) (v := ?vo_w17) (w1 := (w14.setCell ⟨gb195, 2, none⟩ (.slice Ao15 t196.length co15))) ?hg ?ho ?hn ?hr ?_; (case ho => rfl); (case hg => rfl); (case hn => rfl); (case hr => first | (go_simp; done) | (go_simp; rfl)); intro w17 hw; have n0_ : Aside0 (Kd.S k117 117 w17 w.heap.size (fun k_ => some k_ ≠ (.slice Ao15 t196.length co15 : Value).ownBlock ∧ k_ ≠ gb195) u3 x3_1) := ⟨(by rw [hw]; exact (by (with_reducible repeat (first | apply Kd.S_alloc | apply Kd.S_drewN | apply Kd.S_drew)); exact Kd.S_mono (Kd.S_far (p := ⟨gb195, 2, none⟩) (Kd.S_mono HO_3.out (fun k_ hk => (⟨hk, hk.1.2⟩ : _ ∧ k_ ≠ gb195))) (fun _ hk => hk.2) (.slice Ao15 t196.length co15)) (fun _ hk => ⟨hk.1.2, hk.1.1.2⟩)))⟩; have n1_ : Aside0 (Kd.R (Kd.int .i64) 3 w17 w.heap.size (fun _ => True) (.slice (some ad193) t190.length co4) t190) := ⟨(by rw [hw]; exact (by (with_reducible repeat (first | apply Kd.R_alloc | apply Kd.R_drewN | apply Kd.R_drew)); exact Kd.R_mono (Kd.R_far (p := ⟨gb195, 2, none⟩) (Kd.R_types HO_8.out BK195.out (by decide)) (fun _ hk => hk.2) (.slice Ao15 t196.length co15)) (fun _ hk => trivial)))⟩; have n2_ : Aside0 (Kd.R (Kd.int .u8) 5 w17 w.heap.size (fun _ => True) (.slice Ao15 t196.length co15) t196) := ⟨(by rw [hw]; exact (by (with_reducible repeat (first | apply Kd.R_alloc | apply Kd.R_drewN | apply Kd.R_drew)); exact Kd.R_mono (Kd.R_far (p := ⟨gb195, 2, none⟩) (Kd.R_types HO198.out BK195.out (by decide)) (fun _ hk => hk.2) (.slice Ao15 t196.length co15)) (fun _ hk => trivial)))⟩; have n3_ : Aside0 (w17.heap[gb195]? = some (.cells #[.int .u16 ((rd_T117 l0 (rd t190 x10_1)).f0), .int .u8 ((rd_T117 l0 (rd t190 x10_1)).f1), .slice Ao15 t196.length co15] 117 (0, 0))) := ⟨(by rw [hw]; exact (by (with_reducible repeat (first | refine blk_drewN ?_ _ | refine blk_drew ?_ | refine blk_alloc ?_ _)); refine blk_put (cs := #[.int .u16 ((rd_T117 l0 (rd t190 x10_1)).f0), .int .u8 ((rd_T117 l0 (rd t190 x10_1)).f1), .slice A194_2 ((rd_T117 l0 (rd t190 x10_1)).f2).length c194_2]) ?_ 2 _ rfl; (with_reducible repeat (first | refine blk_drewN ?_ _ | refine blk_drew ?_ | refine blk_alloc ?_ _)); exact BK195.out))⟩; have n4_ : Aside0 (Below w.heap.size w w17) := ⟨(by rw [hw]; exact (by repeat (first | (with_reducible first | exact HB.out | apply below_alloc | apply pw_below_drewN | apply below_drew1 | refine below_set ?_ GE195.out) | exact HB.out)))⟩; clear hw; clear HO_3; clear HO_8; clear HO198; clear BK195; clear HB; have HO_3 := n0_; have HO_8 := n1_; have HO198 := n2_; have BK195 := n3_; have HB := n4_; clear n0_ n1_ n2_ n3_ n4_; have hcz18_0 : w17.cell? ⟨gb195, 0, none⟩ = some (.int .u16 ((rd_T117 l0 (rd t190 x10_1)).f0)) := (blk_cell BK195.out 0).trans rfl; have hcz18_1 : w17.cell? ⟨gb195, 1, none⟩ = some (.int .u8 ((rd_T117 l0 (rd t190 x10_1)).f1)) := (blk_cell BK195.out 1).trans rfl; have hcz18_2 : w17.cell? ⟨gb195, 2, none⟩ = some (.slice Ao15 t196.length co15) := (blk_cell BK195.out 2).trans rfl; have hfz18_0 := blk_frozen BK195.out 0; have hfz18_1 := blk_frozen BK195.out 1; have hfz18_2 := blk_frozen BK195.out 2) | ((with_reducible refine gate_builtin (b := .append) (xs := #[.tmp 22, .tmp 24]) rfl ?_); at_builtin; refine Kd.S_append k117 (w0 := w) w.heap.size rfl (.tmp 22) (.tmp 24) 22 117 (.agg #[(.int .u16 0), (.int .u8 0), (.slice none 0 0)]) 32 rfl Try.underlying22 info117 rfl (by decide) (by omega) u3 x3_1 (⟨(rd_T117 l0 (rd t190 x10_1)).f0, (rd_T117 l0 (rd t190 x10_1)).f1, t196⟩ : S117) [.int .u16 ((rd_T117 l0 (rd t190 x10_1)).f0), .int .u8 ((rd_T117 l0 (rd t190 x10_1)).f1), .slice Ao15 t196.length co15] (fun k_ => k_ ≠ gb195) (fun k_ => some k_ = (.slice Ao15 t196.length co15 : Value).ownBlock) rfl rfl ?aP (fun k_ hk_ => ((Kd.R_mono (ok' := fun k_ => ((fun k_ => k_ ≠ gb195)) k_ ∧ some k_ ≠ (u3 : Value).ownBlock) (Kd.R_types (Kd.R_apart' (HO198.out) (Kd.S_typed HO_3.out) (by decide)) BK195.out (by decide)) (fun k_ hk => ⟨hk.2, hk.1.2⟩))).1 k_ hk_.symm) ?aF ?aO ?aB ?aS ?aL ?_; (case aP => exact k117_mkM _ _ _ (⟨(rd_T117 l0 (rd t190 x10_1)).f0, (rd_T117 l0 (rd t190 x10_1)).f1, t196⟩ : S117) (Kd.R_mono (Kd.R_tight rfl (Kd.R_mono (ok' := fun k_ => ((fun k_ => k_ ≠ gb195)) k_ ∧ some k_ ≠ (u3 : Value).ownBlock) (Kd.R_types (Kd.R_apart' (HO198.out) (Kd.S_typed HO_3.out) (by decide)) BK195.out (by decide)) (fun k_ hk => ⟨hk.2, hk.1.2⟩))) (fun _ h_ => h_))); (case aB => exact (by repeat (first | (with_reducible first | exact HB.out | apply below_alloc | apply pw_below_drewN | apply below_drew1 | refine below_set ?_ GE195.out) | exact HB.out))); (case aF => exact (fun k_ hk => Kd.freshB (g := gb195) (o := .cells #[.int .u16 ((rd_T117 l0 (rd t190 x10_1)).f0), .int .u8 ((rd_T117 l0 (rd t190 x10_1)).f1), .slice Ao15 t196.length co15] 117 (0, 0)) (by (with_reducible repeat (first | refine blk_drewN ?_ _ | refine blk_drew ?_ | refine blk_alloc ?_ _)); exact BK195.out) k_ hk)); (case aO => exact (by (with_reducible repeat (first | apply Kd.S_alloc | apply Kd.S_drewN | apply Kd.S_drew)); exact Kd.S_mono HO_3.out (fun k_ hk => ⟨hk.2, fun e_ => hk.1 e_⟩))); (case aS => exact (below_size (by repeat (first | (with_reducible first | exact HB.out | apply below_alloc | apply pw_below_drewN | apply below_drew1 | refine below_set ?_ GE195.out) | exact HB.out)))); (case aL => have := LMc11.out; omega); intro v200 w19 ho hb hg hat; rw [← Ny199.out] at ho; have n0_ := Aside0.mk (Kd.R_over' (by (with_reducible repeat (first | apply Kd.R_alloc | apply Kd.R_drewN | apply Kd.R_drew)); exact HO_8.out) (Kd.S_typed (by (with_reducible repeat (first | apply Kd.S_alloc | apply Kd.S_drewN | apply Kd.S_drew)); exact HO_3.out)) (by decide) hg); have n1_ := Aside0.mk (blk_grown (g := gb195) (o := .cells #[.int .u16 ((rd_T117 l0 (rd t190 x10_1)).f0), .int .u8 ((rd_T117 l0 (rd t190 x10_1)).f1), .slice Ao15 t196.length co15] 117 (0, 0)) (by (with_reducible repeat (first | refine blk_drewN ?_ _ | refine blk_drew ?_ | refine blk_alloc ?_ _)); exact BK195.out) hg (Kd.S_away HO_3.out (fun _ hk => hk.2))); have n2_ := Aside0.mk (hb); have n3_ := Aside0.mk (ho); clear HO_8; clear BK195; clear HB; clear HO_3; clear HO198; have HO_8 := n0_; have BK195 := n1_; have HB := n2_; have HO201 := n3_; clear n0_ n1_ n2_ n3_; clear ho hb hg hat))
                  go_roundg k1
                  case measure => have := HK1.out; omega
                  case rel => exact ⟨(y199), (wrap64 (x10_1 + 1)), (by first | rfl | (simp; done) | (simp [*]; done)), H', ⟨by have := HK1.out; omega⟩, ⟨by (with_reducible repeat (first | apply Kd.S_alloc | apply Kd.S_drewN | apply Kd.S_drew)); exact Kd.S_mono HO201.out (fun _ hk => trivial)⟩, ⟨by (with_reducible repeat (first | apply Kd.R_alloc | apply Kd.R_drewN | apply Kd.R_drew)); exact HO_8.out⟩, ⟨by repeat (first | (with_reducible first | exact HB.out | apply below_alloc | apply pw_below_drewN | apply below_drew1 | refine below_set ?_ GE195.out) | exact HB.out)⟩⟩
                · rw [if_neg c11] at H
                  exact absurd H (by simp)
              · rw [if_neg c9] at H
                exact absurd H (by simp)
            · rw [if_neg c8] at H
              exact absurd H (by simp)
          · rw [if_neg c7] at H
            exact absurd H (by simp)
        · rw [if_neg c6] at H
          exact absurd H (by simp)
      · rw [if_neg c5] at H
        have c5b0 : decide (x10_1 < (t190.length : Int)) = false := decide_eq_false c5
        clear c5
        obtain rfl := Option.some.inj H
        go_wp2
        go_ret
        exact ⟨_, by first | rfl | (simp [errW_none, errW_some] <;> rfl) | (simp [*, errW_none, errW_some] <;> rfl), by (with_reducible repeat (first | apply Kd.S_alloc | apply Kd.S_drewN | apply Kd.S_drew)); exact HO_3.out, by repeat (first | (with_reducible first | exact HB.out | apply below_alloc | apply pw_below_drewN | apply below_drew1) | exact HB.out)⟩

/-! ### tramwayref21_Again: function 17 -/
def tramwayref21_Again.l0 : Nat → List (S117) → Int → Int → Option (Bool)
  | 0, _, _, _ => none
  | k + 1, x0, x1, x5 => if x5 < (x0.length : Int) then (if 0 ≤ x5 then (if 0 ≤ x1 then (if x1 < (x0.length : Int) then (if ((rd_T117 x0 x5).f0) = ((rd_T117 x0 x1).f0) then (if ((rd_T117 x0 x5).f1) = ((rd_T117 x0 x1).f1) then (some true) else (tramwayref21_Again.l0 k x0 x1 (wrap64 (x5 + 1)))) else (tramwayref21_Again.l0 k x0 x1 (wrap64 (x5 + 1)))) else (none)) else (none)) else (none)) else (some false)
def tramwayref21_Again.f (k : Nat) (l0 : List (S117)) (a1 : Int) : Option (Bool) := tramwayref21_Again.l0 k l0 a1 (wrap64 (a1 + 1))
theorem tramwayref21_Again.mono_l : ∀ k, (∀ y0 y1 y2, LeO (tramwayref21_Again.l0 k y0 y1 y2) (tramwayref21_Again.l0 (k + 1) y0 y1 y2))
  | 0 => fun _ _ _ r h => by simp [tramwayref21_Again.l0] at h
  | k + 1 => by
    have ih0 := tramwayref21_Again.mono_l k
    · intro y0 y1 y2
      unfold tramwayref21_Again.l0
      repeat' first
      | (with_reducible exact ih0 _ _ _)
      | (with_reducible exact LeO.refl _)
      | (with_reducible exact LeO.none _)
      | (with_reducible refine LeO.ite ?_ ?_)
      | (with_reducible refine LeO.bind ?_ (fun _ => ?_))
      | exact ih0 _ _ _
      | exact LeO.none _
      | refine LeO.ite ?_ ?_
      | refine LeO.bind ?_ (fun _ => ?_)
theorem tramwayref21_Again.mono : ∀ a0 a1 k, LeO (tramwayref21_Again.f k a0 a1) (tramwayref21_Again.f (k + 1) a0 a1) := by
  intro a0 a1 k
  have ih0 := tramwayref21_Again.mono_l k
  unfold tramwayref21_Again.f
  repeat' first
      | (with_reducible exact ih0 _ _ _)
      | (with_reducible exact LeO.refl _)
      | (with_reducible exact LeO.none _)
      | (with_reducible refine LeO.ite ?_ ?_)
      | (with_reducible refine LeO.bind ?_ (fun _ => ?_))
      | exact ih0 _ _ _
      | exact LeO.none _
      | refine LeO.ite ?_ ?_
      | refine LeO.bind ?_ (fun _ => ?_)
set_option maxHeartbeats 8000000 in
set_option maxRecDepth 100000 in
theorem tramwayref21_Again.calls (k : Nat) (A0 : Option Addr) (c0 : Nat) (l0 : List (S117)) (a1 : Int) (r : Bool) (w : World) (hr0 : Kd.C k117 w A0 l0.length l0) (hc0 : l0.length ≤ c0) (h : tramwayref21_Again.f k l0 a1 = some r) :
    Calls Try.prog 17 #[.slice A0 l0.length c0, .int .i64 a1] w fun e w' => e = .returned (.bool r) ∧ Drawn0 w w' := by
  have HR0 := Aside0.mk hr0
  have HC0 := Aside0.mk hc0
  clear hr0 hc0
  have H : (tramwayref21_Again.l0 k l0 a1 (wrap64 (a1 + 1))) = some r := h
  clear h
  have H' := Aside0.mk H
  clear H
  go_enter Try.func17, Try.ntmps17
  go_wp2
  repeat (go_quiet (fail); try go_wp2)
  go_loopg [5] k (fun kq v5 w' => ∃ (x5_1 : Int), v5 = .int .i64 x5_1 ∧ Aside0 (tramwayref21_Again.l0 kq l0 a1 x5_1 = some r) ∧ Aside0 (kq ≤ k) ∧ Drawn0 w w')
  case atStart => exact ⟨(wrap64 (a1 + 1)), (by first | rfl | (simp; done) | (simp [*]; done)), H', ⟨Nat.le_refl _⟩, by repeat (first | exact Drawn0.refl _ | apply Drawn0.step)⟩
  case round =>
    clear H'
    try clear c1
    try clear p2
    obtain ⟨x5_1, rfl, HA, HK1, ⟨m1, rfl⟩⟩ := hrel
    cases gk with
    | zero => exact absurd HA.out (by simp [tramwayref21_Again.l0])
    | succ k1 =>
      have H := HA.out
      clear HA
      simp only [tramwayref21_Again.l0] at H
      by_cases c3 : x5_1 < (l0.length : Int)
      · rw [if_pos c3] at H
        have c3b0 : decide (x5_1 < (l0.length : Int)) = true := decide_eq_true c3
        clear c3
        by_cases c4 : 0 ≤ x5_1
        · rw [if_pos c4] at H
          have c4b0 : decide (0 ≤ x5_1) = true := decide_eq_true c4
          clear c4
          by_cases c5 : 0 ≤ a1
          · rw [if_pos c5] at H
            have c5b0 : decide (0 ≤ a1) = true := decide_eq_true c5
            clear c5
            by_cases c6 : a1 < (l0.length : Int)
            · rw [if_pos c6] at H
              have c6b0 : decide (a1 < (l0.length : Int)) = true := decide_eq_true c6
              clear c6
              by_cases c7 : ((rd_T117 l0 x5_1).f0) = ((rd_T117 l0 a1).f0)
              · rw [if_pos c7] at H
                have c7b0 : (((rd_T117 l0 x5_1).f0) == ((rd_T117 l0 a1).f0)) = true := beq_iff_eq.mpr c7
                have c7b1 : (((rd_T117 l0 x5_1).f0) != ((rd_T117 l0 a1).f0)) = false := bne_eq_false_iff_eq.mpr c7
                clear c7
                by_cases c8 : ((rd_T117 l0 x5_1).f1) = ((rd_T117 l0 a1).f1)
                · rw [if_pos c8] at H
                  have c8b0 : (((rd_T117 l0 x5_1).f1) == ((rd_T117 l0 a1).f1)) = true := beq_iff_eq.mpr c8
                  have c8b1 : (((rd_T117 l0 x5_1).f1) != ((rd_T117 l0 a1).f1)) = false := bne_eq_false_iff_eq.mpr c8
                  clear c8
                  obtain rfl := Option.some.inj H
                  have p202 : 0 ≤ (x5_1 : Int) := of_decide_eq_true (by first | (with_reducible assumption) | assumption)
                  have q202 : x5_1 < (l0.length : Int) := of_decide_eq_true (by first | (with_reducible assumption) | assumption)
                  obtain ⟨ad202, A202_2, c202_2, e202, hx202_0, hx202_1, hx202_2, hl202_2, hi202_2⟩ := at_T117 HR0.out x5_1 p202 q202
                  cases e202
                  have HR202_2 := Aside0.mk hi202_2
                  have HC202_2 := Aside0.mk hl202_2
                  clear hi202_2 hl202_2
                  replace p202 := eq_true p202
                  replace q202 := eq_true q202
                  have p203 : 0 ≤ (a1 : Int) := of_decide_eq_true (by first | (with_reducible assumption) | assumption)
                  have q203 : a1 < (l0.length : Int) := of_decide_eq_true (by first | (with_reducible assumption) | assumption)
                  obtain ⟨ad203, A203_2, c203_2, e203, hx203_0, hx203_1, hx203_2, hl203_2, hi203_2⟩ := at_T117 HR0.out a1 p203 q203
                  obtain rfl : ad202 = ad203 := (by injection e203)
                  have HR203_2 := Aside0.mk hi203_2
                  have HC203_2 := Aside0.mk hl203_2
                  clear hi203_2 hl203_2
                  replace p203 := eq_true p203
                  replace q203 := eq_true q203
                  have p204 : 0 ≤ (x5_1 : Int) := of_decide_eq_true (by first | (with_reducible assumption) | assumption)
                  have q204 : x5_1 < (l0.length : Int) := of_decide_eq_true (by first | (with_reducible assumption) | assumption)
                  obtain ⟨ad204, A204_2, c204_2, e204, hx204_0, hx204_1, hx204_2, hl204_2, hi204_2⟩ := at_T117 HR0.out x5_1 p204 q204
                  obtain rfl : ad202 = ad204 := (by injection e204)
                  have HR204_2 := Aside0.mk hi204_2
                  have HC204_2 := Aside0.mk hl204_2
                  clear hi204_2 hl204_2
                  replace p204 := eq_true p204
                  replace q204 := eq_true q204
                  have ea_ := Option.some.inj (hx202_2.symm.trans hx204_2)
                  injection ea_ with ea_ en_ ec_
                  subst ea_
                  subst ec_
                  clear en_
                  have p205 : 0 ≤ (a1 : Int) := of_decide_eq_true (by first | (with_reducible assumption) | assumption)
                  have q205 : a1 < (l0.length : Int) := of_decide_eq_true (by first | (with_reducible assumption) | assumption)
                  obtain ⟨ad205, A205_2, c205_2, e205, hx205_0, hx205_1, hx205_2, hl205_2, hi205_2⟩ := at_T117 HR0.out a1 p205 q205
                  obtain rfl : ad202 = ad205 := (by injection e205)
                  have HR205_2 := Aside0.mk hi205_2
                  have HC205_2 := Aside0.mk hl205_2
                  clear hi205_2 hl205_2
                  replace p205 := eq_true p205
                  replace q205 := eq_true q205
                  have ea_ := Option.some.inj (hx203_2.symm.trans hx205_2)
                  injection ea_ with ea_ en_ ec_
                  subst ea_
                  subst ec_
                  clear en_
                  go_wp2
                  repeat (go_quiet (fail); try go_wp2)
                  go_ret
                  exact ⟨by first | rfl | (simp; done) | (simp [*]; done), by repeat (first | exact Drawn0.refl _ | apply Drawn0.step)⟩
                · rw [if_neg c8] at H
                  have c8b0 : (((rd_T117 l0 x5_1).f1) == ((rd_T117 l0 a1).f1)) = false := beq_eq_false_iff_ne.mpr c8
                  have c8b1 : (((rd_T117 l0 x5_1).f1) != ((rd_T117 l0 a1).f1)) = true := bne_iff_ne.mpr c8
                  have H' := Aside0.mk H
                  clear H
                  have p202 : 0 ≤ (x5_1 : Int) := of_decide_eq_true (by first | (with_reducible assumption) | assumption)
                  have q202 : x5_1 < (l0.length : Int) := of_decide_eq_true (by first | (with_reducible assumption) | assumption)
                  obtain ⟨ad202, A202_2, c202_2, e202, hx202_0, hx202_1, hx202_2, hl202_2, hi202_2⟩ := at_T117 HR0.out x5_1 p202 q202
                  cases e202
                  have HR202_2 := Aside0.mk hi202_2
                  have HC202_2 := Aside0.mk hl202_2
                  clear hi202_2 hl202_2
                  replace p202 := eq_true p202
                  replace q202 := eq_true q202
                  have p203 : 0 ≤ (a1 : Int) := of_decide_eq_true (by first | (with_reducible assumption) | assumption)
                  have q203 : a1 < (l0.length : Int) := of_decide_eq_true (by first | (with_reducible assumption) | assumption)
                  obtain ⟨ad203, A203_2, c203_2, e203, hx203_0, hx203_1, hx203_2, hl203_2, hi203_2⟩ := at_T117 HR0.out a1 p203 q203
                  obtain rfl : ad202 = ad203 := (by injection e203)
                  have HR203_2 := Aside0.mk hi203_2
                  have HC203_2 := Aside0.mk hl203_2
                  clear hi203_2 hl203_2
                  replace p203 := eq_true p203
                  replace q203 := eq_true q203
                  have p204 : 0 ≤ (x5_1 : Int) := of_decide_eq_true (by first | (with_reducible assumption) | assumption)
                  have q204 : x5_1 < (l0.length : Int) := of_decide_eq_true (by first | (with_reducible assumption) | assumption)
                  obtain ⟨ad204, A204_2, c204_2, e204, hx204_0, hx204_1, hx204_2, hl204_2, hi204_2⟩ := at_T117 HR0.out x5_1 p204 q204
                  obtain rfl : ad202 = ad204 := (by injection e204)
                  have HR204_2 := Aside0.mk hi204_2
                  have HC204_2 := Aside0.mk hl204_2
                  clear hi204_2 hl204_2
                  replace p204 := eq_true p204
                  replace q204 := eq_true q204
                  have ea_ := Option.some.inj (hx202_2.symm.trans hx204_2)
                  injection ea_ with ea_ en_ ec_
                  subst ea_
                  subst ec_
                  clear en_
                  have p205 : 0 ≤ (a1 : Int) := of_decide_eq_true (by first | (with_reducible assumption) | assumption)
                  have q205 : a1 < (l0.length : Int) := of_decide_eq_true (by first | (with_reducible assumption) | assumption)
                  obtain ⟨ad205, A205_2, c205_2, e205, hx205_0, hx205_1, hx205_2, hl205_2, hi205_2⟩ := at_T117 HR0.out a1 p205 q205
                  obtain rfl : ad202 = ad205 := (by injection e205)
                  have HR205_2 := Aside0.mk hi205_2
                  have HC205_2 := Aside0.mk hl205_2
                  clear hi205_2 hl205_2
                  replace p205 := eq_true p205
                  replace q205 := eq_true q205
                  have ea_ := Option.some.inj (hx203_2.symm.trans hx205_2)
                  injection ea_ with ea_ en_ ec_
                  subst ea_
                  subst ec_
                  clear en_
                  go_wp2
                  repeat (go_quiet (fail); try go_wp2)
                  go_roundg k1
                  case measure => have := HK1.out; omega
                  case rel => exact ⟨(wrap64 (x5_1 + 1)), (by first | rfl | (simp; done) | (simp [*]; done)), H', ⟨by have := HK1.out; omega⟩, by repeat (first | exact Drawn0.refl _ | apply Drawn0.step)⟩
              · rw [if_neg c7] at H
                have c7b0 : (((rd_T117 l0 x5_1).f0) == ((rd_T117 l0 a1).f0)) = false := beq_eq_false_iff_ne.mpr c7
                have c7b1 : (((rd_T117 l0 x5_1).f0) != ((rd_T117 l0 a1).f0)) = true := bne_iff_ne.mpr c7
                have H' := Aside0.mk H
                clear H
                have p202 : 0 ≤ (x5_1 : Int) := of_decide_eq_true (by first | (with_reducible assumption) | assumption)
                have q202 : x5_1 < (l0.length : Int) := of_decide_eq_true (by first | (with_reducible assumption) | assumption)
                obtain ⟨ad202, A202_2, c202_2, e202, hx202_0, hx202_1, hx202_2, hl202_2, hi202_2⟩ := at_T117 HR0.out x5_1 p202 q202
                cases e202
                have HR202_2 := Aside0.mk hi202_2
                have HC202_2 := Aside0.mk hl202_2
                clear hi202_2 hl202_2
                replace p202 := eq_true p202
                replace q202 := eq_true q202
                have p203 : 0 ≤ (a1 : Int) := of_decide_eq_true (by first | (with_reducible assumption) | assumption)
                have q203 : a1 < (l0.length : Int) := of_decide_eq_true (by first | (with_reducible assumption) | assumption)
                obtain ⟨ad203, A203_2, c203_2, e203, hx203_0, hx203_1, hx203_2, hl203_2, hi203_2⟩ := at_T117 HR0.out a1 p203 q203
                obtain rfl : ad202 = ad203 := (by injection e203)
                have HR203_2 := Aside0.mk hi203_2
                have HC203_2 := Aside0.mk hl203_2
                clear hi203_2 hl203_2
                replace p203 := eq_true p203
                replace q203 := eq_true q203
                go_wp2
                repeat (go_quiet (fail); try go_wp2)
                go_roundg k1
                case measure => have := HK1.out; omega
                case rel => exact ⟨(wrap64 (x5_1 + 1)), (by first | rfl | (simp; done) | (simp [*]; done)), H', ⟨by have := HK1.out; omega⟩, by repeat (first | exact Drawn0.refl _ | apply Drawn0.step)⟩
            · rw [if_neg c6] at H
              exact absurd H (by simp)
          · rw [if_neg c5] at H
            exact absurd H (by simp)
        · rw [if_neg c4] at H
          exact absurd H (by simp)
      · rw [if_neg c3] at H
        have c3b0 : decide (x5_1 < (l0.length : Int)) = false := decide_eq_false c3
        clear c3
        obtain rfl := Option.some.inj H
        go_wp2
        repeat (go_quiet (fail); try go_wp2)
        go_ret
        exact ⟨by first | rfl | (simp; done) | (simp [*]; done), by repeat (first | exact Drawn0.refl _ | apply Drawn0.step)⟩

end Go.Proofs.Yteefnclkcnkbhaa.GDcfEncodes
