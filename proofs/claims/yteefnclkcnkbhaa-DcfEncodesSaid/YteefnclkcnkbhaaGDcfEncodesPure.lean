/-
  The plain law of layer 21: what the printed functions of the items compute; no program in sight.
-/
import Derived.Test.YteefnclkcnkbhaaGDcfEncodesx6
import Derived.Laws.BitsAllLaws
namespace Go.Proofs.Yteefnclkcnkbhaa.GDcfEncodes
open Go.RowKit Go.Proofs.YteefnclkcnkbhaaW.PrintWords Go.Proofs.YteefnclkcnkbhaaW.PrintLast Go.Proofs.YteefnclkcnkbhaaW.PrintMore
set_option linter.unusedVariables false
set_option linter.unusedSimpArgs false

/-! ### The plain law of layer 21: what the printed functions compute (no program in sight) -/
def okB (b : Int) : Prop := 0 ≤ b ∧ b < 256
def okItem (x : S117) : Prop := (0 ≤ x.f0 ∧ x.f0 < 65536) ∧ okB x.f1 ∧ (∀ b ∈ x.f2, okB b) ∧ x.f2.length < 140737488355328
theorem rdT_get {l : List S117} {i : Nat} (h : i < l.length) : rd_T117 l (i : Int) = l[i] := by simp [rd_T117, h]
theorem wrap_nat (i : Nat) (h : i < 9223372036854775000) : wrap64 ((i : Int) + 1) = ((i + 1 : Nat) : Int) := by rw [IntWalk.wrap64_in _ ⟨by omega, by omega⟩]; omega
theorem Ev.eq {α : Type} {g f : Nat → Option α} {r : α} (h : ∀ k, g k = f k) (k : Ev f r) : Ev g r := Ev.congr h k

/-! #### Own -/
theorem own_loop (x0 : List S117) (hok : ∀ x ∈ x0, okItem x) (hl : x0.length < 4398046511104) : ∀ (m i : Nat), i + m = x0.length →
    Ev (fun k => tramwaylaw21_Own.l0 k x0 (x0.take i) (i : Int)) x0
  | 0, i, h => by
    refine Ev.step (f := fun _ => some x0) (fun k => ?_) (Ev.now _)
    simp only [tramwaylaw21_Own.l0]
    rw [if_neg (by omega), List.take_of_length_le (by omega)]
  | m + 1, i, h => by
    have hi : i < x0.length := by omega
    refine Ev.step (fun k => ?_) (own_loop x0 hok hl m (i + 1) (by omega))
    have hx := (hok x0[i] (List.getElem_mem hi)).2.2.2
    simp only [tramwaylaw21_Own.l0, rdT_get hi, Option.bind_some, List.nil_append, List.length_nil, Nat.zero_add]
    rw [if_pos (by omega), if_pos (by omega), if_pos hx, if_pos (by simp; omega), wrap_nat i (by omega), List.take_succ_eq_append_getElem hi]
theorem own_ev (x0 : List S117) (hok : ∀ x ∈ x0, okItem x) (hl : x0.length < 4398046511104) : Ev (fun k => tramwaylaw21_Own.f k x0) x0 := by
  have := own_loop x0 hok hl x0.length 0 (by omega)
  simpa [tramwaylaw21_Own.f] using this

/-! #### Encode -/
def low (n : Int) : List Int := [n % 256, n / 256 % 256, n / 65536 % 256, n / 16777216 % 256]
def itemB (x : S117) : List Int := [x.f0 % 256, x.f0 / 256 % 256, x.f1] ++ low (x.f2.length : Int) ++ x.f2
def itemsB (l : List S117) : List Int := (l.map itemB).flatten
def encB (l : List S117) : List Int := low (l.length : Int) ++ itemsB l
theorem itemB_length (x : S117) : (itemB x).length = x.f2.length + 7 := by simp [itemB, low]
theorem longB_false {x : S117} (h : longB x = false) : x.f2.length ≤ 65536 := by
  have := of_decide_eq_false h
  omega
theorem encode_loop (x17 : List S117) (hs : x17.any longB = false) (hn : x17.length ≤ 1024) : ∀ (m i : Nat) (acc : List Int), i + m = x17.length → acc.length ≤ 4 + i * 65543 →
    Ev (fun k => dcf_Encode.l0 k acc x17 (x17.length : Int) (i : Int)) (acc ++ itemsB (x17.drop i), 0)
  | 0, i, acc, h, ha => by
    refine Ev.step (f := fun _ => some (acc ++ itemsB (x17.drop i), 0)) (fun k => ?_) (Ev.now _)
    simp only [dcf_Encode.l0]
    rw [if_neg (by omega), List.drop_of_length_le (by omega)]
    simp [itemsB]
  | m + 1, i, acc, h, ha => by
    have hi : i < x17.length := by omega
    have hx : x17[i].f2.length ≤ 65536 := longB_false (by
      rw [List.any_eq_false] at hs
      simpa using hs x17[i] (List.getElem_mem hi))
    have hacc : (acc ++ itemB x17[i]).length ≤ 4 + (i + 1) * 65543 := by rw [List.length_append, itemB_length]; omega
    have ih := encode_loop x17 hs hn m (i + 1) (acc ++ itemB x17[i]) (by omega) hacc
    have e : acc ++ itemsB (x17.drop i) = acc ++ itemB x17[i] ++ itemsB (x17.drop (i + 1)) := by
      rw [List.drop_eq_getElem_cons hi]
      simp only [itemsB, List.map_cons, List.flatten_cons, List.append_assoc]
    rw [e]
    refine Ev.step (fun k => ?_) ih
    simp only [dcf_Encode.l0, dcf_low32.f, rdT_get hi, Option.bind_some]
    rw [if_pos (by omega), if_pos (by omega), if_pos (by omega), if_pos (by simp; omega), if_pos (by simp; omega), if_pos (by simp; omega), wrap_nat i (by omega)]
    congr 1
    simp [itemB, low]
def encR (l : List S117) : List Int × Int := if 1024 < l.length ∨ l.any longB = true then ([], 2) else (encB l, 0)
theorem encode_ev (l : List S117) : Ev (fun k => dcf_Encode.f k l) (encR l) := by
  by_cases h : 1024 < l.length
  · refine Ev.step (f := fun _ => some (encR l)) (fun k => ?_) (Ev.now _)
    simp only [dcf_Encode.f]
    rw [if_pos (by omega)]
    simp [dcf_Encode.j0, encR, h]
  · cases hb : l.any longB with
    | true =>
      refine Ev.step (f := fun _ => some (encR l)) (fun k => ?_) (Ev.now _)
      simp only [dcf_Encode.f, api_Item_55.f]
      rw [if_neg (by omega), hb]
      simp [dcf_Encode.j0, encR, hb]
    | false =>
      have := encode_loop l hb (by omega) l.length 0 (low (l.length : Int)) (by omega) (by simp [low])
      rw [show encR l = (low (l.length : Int) ++ itemsB (l.drop 0), 0) by simp [encR, h, hb, encB]]
      refine Ev.step (fun k => ?_) this
      simp only [dcf_Encode.f, api_Item_55.f]
      rw [if_neg (by omega), hb]
      simp [dcf_Encode.j0, dcf_low32.f, low]

/-! #### the reference's Encode -/
theorem number_ev (a : Int) (h0 : 0 ≤ a) (h1 : a < 9223372036854775807) (n : Nat) (hn : n ≤ 8) : ∀ (m i : Nat) (acc : List Int) (a : Int), 0 ≤ a → a < 9223372036854775807 → i + m = n → acc.length ≤ i →
    Ev (fun k => tramwayref21_number.l0 k a (n : Int) acc (i : Int)) (acc ++ (List.range m).map (fun j => a / 256 ^ j % 256))
  | 0, i, acc, a, h0, h1, h, ha => by
    refine Ev.step (f := fun _ => some acc) (fun k => ?_) (by simpa using Ev.now acc)
    simp only [tramwayref21_number.l0]
    rw [if_neg (by omega)]
  | m + 1, i, acc, a, h0, h1, h, ha => by
    have hd : 0 ≤ a / 256 := Int.ediv_nonneg h0 (by omega)
    have hd2 : a / 256 < 9223372036854775807 := by omega
    have ih := number_ev a h0 h1 n hn m (i + 1) (acc ++ [a % 256]) (a / 256) hd hd2 (by omega) (by simp; omega)
    have e : acc ++ (List.range (m + 1)).map (fun j => a / 256 ^ j % 256) = acc ++ [a % 256] ++ (List.range m).map (fun j => a / 256 / 256 ^ j % 256) := by
      rw [List.range_succ_eq_map]
      simp only [List.map_cons, List.map_map, List.append_assoc, List.cons_append, List.nil_append, Int.pow_zero, Int.ediv_one]
      congr 2
      apply List.map_congr_left
      intro j _
      simp only [Function.comp, Nat.succ_eq_add_one]
      rw [Int.pow_succ', Int.ediv_ediv_of_nonneg (by omega)]
    rw [e]
    refine Ev.step (fun k => ?_) ih
    simp only [tramwayref21_number.l0]
    rw [if_pos (by omega), if_pos (by omega), wrap_nat i (by omega), Int.tdiv_eq_ediv_of_nonneg h0, Int.tmod_eq_emod_of_nonneg h0, IntWalk.wrap64_in _ ⟨by omega, by omega⟩, Int.emod_emod_of_dvd a (by decide : (256 : Int) ∣ 256)]
theorem number4 (a : Int) (h0 : 0 ≤ a) (h1 : a < 9223372036854775807) : Ev (fun k => tramwayref21_number.f k a 4) (low a) := by
  have := number_ev a h0 h1 4 (by omega) 4 0 [] a h0 h1 (by omega) (by simp)
  simpa [tramwayref21_number.f, List.range_succ, low] using this
theorem number2 (a : Int) (h0 : 0 ≤ a) (h1 : a < 9223372036854775807) : Ev (fun k => tramwayref21_number.f k a 2) [a % 256, a / 256 % 256] := by
  have := number_ev a h0 h1 2 (by omega) 2 0 [] a h0 h1 (by omega) (by simp)
  simpa [tramwayref21_number.f, List.range_succ] using this

theorem ref_encode_loop (x0 : List S117) (hok : ∀ x ∈ x0, okItem x) (hn : x0.length ≤ 1024) : ∀ (m i : Nat) (acc : List Int), i + m = x0.length → acc.length ≤ 4 + i * 65543 →
    Ev (fun k => tramwayref21_Encode.l0 k x0 acc (i : Int)) (if (x0.drop i).any longB = true then ([], 2) else (acc ++ itemsB (x0.drop i), 0))
  | 0, i, acc, h, ha => by
    have hd : x0.drop i = [] := List.drop_of_length_le (by omega)
    rw [hd]
    refine Ev.step (f := fun _ => some (acc, 0)) (fun k => ?_) (by simpa [itemsB] using Ev.now (acc, (0 : Int)))
    simp only [tramwayref21_Encode.l0]
    rw [if_neg (by omega)]
  | m + 1, i, acc, h, ha => by
    have hi : i < x0.length := by omega
    have hx := hok x0[i] (List.getElem_mem hi)
    rw [List.drop_eq_getElem_cons hi, List.any_cons]
    cases hb : longB x0[i] with
    | true =>
      have hb' := of_decide_eq_true hb
      refine Ev.step (f := fun _ => some ([], 2)) (fun k => ?_) (by simpa using Ev.now (([] : List Int), (2 : Int)))
      simp only [tramwayref21_Encode.l0, rdT_get hi]
      rw [if_pos (by omega), if_pos (by omega), if_pos hb']
    | false =>
      have hb' : x0[i].f2.length ≤ 65536 := longB_false hb
      have hacc : (acc ++ itemB x0[i]).length ≤ 4 + (i + 1) * 65543 := by rw [List.length_append, itemB_length]; omega
      have ih := ref_encode_loop x0 hok hn m (i + 1) (acc ++ itemB x0[i]) (by omega) hacc
      have e : acc ++ itemsB (x0[i] :: x0.drop (i + 1)) = acc ++ itemB x0[i] ++ itemsB (x0.drop (i + 1)) := by
        simp only [itemsB, List.map_cons, List.flatten_cons, List.append_assoc]
      rw [Bool.false_or, e]
      have h64 : wrap64 x0[i].f0 = x0[i].f0 := IntWalk.wrap64_in _ ⟨by have := hx.1.1; omega, by have := hx.1.2; omega⟩
      refine Ev.step (f := fun k => (tramwayref21_number.f k x0[i].f0 2).bind fun t153 => if acc.length + t153.length < 140737488355328 then (if (acc ++ t153).length + [x0[i].f1].length < 140737488355328 then ((tramwayref21_number.f k (x0[i].f2.length : Int) 4).bind fun t167 => if (acc ++ t153 ++ [x0[i].f1]).length + t167.length < 140737488355328 then (if (acc ++ t153 ++ [x0[i].f1] ++ t167).length + x0[i].f2.length < 140737488355328 then tramwayref21_Encode.l0 k x0 (acc ++ t153 ++ [x0[i].f1] ++ t167 ++ x0[i].f2) (wrap64 ((i : Int) + 1)) else none) else none) else none) else none) (fun k => ?a) ?b
      case a =>
        simp only [tramwayref21_Encode.l0, rdT_get hi, Option.bind_some, h64]
        rw [if_pos (by omega), if_pos (by omega), if_neg (by omega)]
      case b =>
        refine Ev.bind (f := fun k t153 => if acc.length + t153.length < 140737488355328 then (if (acc ++ t153).length + [x0[i].f1].length < 140737488355328 then ((tramwayref21_number.f k (x0[i].f2.length : Int) 4).bind fun t167 => if (acc ++ t153 ++ [x0[i].f1]).length + t167.length < 140737488355328 then (if (acc ++ t153 ++ [x0[i].f1] ++ t167).length + x0[i].f2.length < 140737488355328 then tramwayref21_Encode.l0 k x0 (acc ++ t153 ++ [x0[i].f1] ++ t167 ++ x0[i].f2) (wrap64 ((i : Int) + 1)) else none) else none) else none) else none) (number2 x0[i].f0 hx.1.1 (by have := hx.1.2; omega)) ?_
        refine Ev.congr (f := fun k => (tramwayref21_number.f k (x0[i].f2.length : Int) 4).bind fun t167 => if (acc ++ [x0[i].f0 % 256, x0[i].f0 / 256 % 256] ++ [x0[i].f1]).length + t167.length < 140737488355328 then (if (acc ++ [x0[i].f0 % 256, x0[i].f0 / 256 % 256] ++ [x0[i].f1] ++ t167).length + x0[i].f2.length < 140737488355328 then tramwayref21_Encode.l0 k x0 (acc ++ [x0[i].f0 % 256, x0[i].f0 / 256 % 256] ++ [x0[i].f1] ++ t167 ++ x0[i].f2) (wrap64 ((i : Int) + 1)) else none) else none) (fun k => ?c) ?d
        case c =>
          rw [if_pos (by simp; omega), if_pos (by simp; omega)]
        case d =>
          refine Ev.bind (f := fun k t167 => if (acc ++ [x0[i].f0 % 256, x0[i].f0 / 256 % 256] ++ [x0[i].f1]).length + t167.length < 140737488355328 then (if (acc ++ [x0[i].f0 % 256, x0[i].f0 / 256 % 256] ++ [x0[i].f1] ++ t167).length + x0[i].f2.length < 140737488355328 then tramwayref21_Encode.l0 k x0 (acc ++ [x0[i].f0 % 256, x0[i].f0 / 256 % 256] ++ [x0[i].f1] ++ t167 ++ x0[i].f2) (wrap64 ((i : Int) + 1)) else none) else none) (number4 (x0[i].f2.length : Int) (by omega) (by omega)) ?_
          refine Ev.congr (fun k => ?_) ih
          rw [if_pos (by simp [low]; omega), if_pos (by simp [low]; omega), wrap_nat i (by omega)]
          congr 1
          simp [itemB, low]
theorem ref_encode_ev (l : List S117) (hok : ∀ x ∈ l, okItem x) : Ev (fun k => tramwayref21_Encode.f k l) (encR l) := by
  by_cases h : 1024 < l.length
  · refine Ev.step (f := fun _ => some (encR l)) (fun k => ?_) (Ev.now _)
    simp only [tramwayref21_Encode.f]
    rw [if_pos (by omega)]
    simp [encR, h]
  · have hl := ref_encode_loop l hok (by omega) l.length 0 (low (l.length : Int)) (by omega) (by simp [low])
    rw [show encR l = (if (l.drop 0).any longB = true then ([], 2) else (low (l.length : Int) ++ itemsB (l.drop 0), 0)) by simp [encR, h, encB]]
    refine Ev.congr (f := fun k => (tramwayref21_number.f k (l.length : Int) 4).bind fun t => tramwayref21_Encode.l0 k l t 0) (fun k => ?_) (Ev.bind (f := fun k t => tramwayref21_Encode.l0 k l t 0) (number4 (l.length : Int) (by omega) (by omega)) hl)
    simp only [tramwayref21_Encode.f]
    rw [if_neg (by omega)]

/-! #### Same -/
theorem same_loop (x : List S117) (hl : x.length < 4398046511104) : ∀ (m i : Nat), i + m = x.length → Ev (fun k => tramwaylaw21_Same.l0 k x x (i : Int)) true
  | 0, i, h => by
    refine Ev.step (f := fun _ => some true) (fun k => ?_) (Ev.now _)
    simp only [tramwaylaw21_Same.l0]
    rw [if_neg (by omega)]
  | m + 1, i, h => by
    refine Ev.step (fun k => ?_) (same_loop x hl m (i + 1) (by omega))
    simp only [tramwaylaw21_Same.l0]
    rw [if_pos (by omega), if_pos (by omega), if_pos (by omega)]
    simp only [if_true]
    rw [wrap_nat i (by omega)]
theorem same_ev (x : List S117) (hl : x.length < 4398046511104) : Ev (fun k => tramwaylaw21_Same.f k x x) true := by
  refine Ev.congr (fun k => ?_) (same_loop x hl x.length 0 (by omega))
  simp [tramwaylaw21_Same.f]

/-! #### Last -/
def again (l : List S117) (i : Nat) : Bool := ((List.range' (i + 1) (l.length - (i + 1))).any fun j => decide (placeOf l j = placeOf l i))
def keeps (l : List S117) (i : Nat) : List Nat := (List.range' i (l.length - i)).filter fun j => !again l j
theorem range'_cons {a n : Nat} (h : a < n) : List.range' a (n - a) = a :: List.range' (a + 1) (n - (a + 1)) := by
  rw [show n - a = (n - (a + 1)) + 1 by omega, List.range'_succ]
theorem lasts_run (l : List S117) : ∀ (m i : Nat), i + m = l.length → (∀ q, q ∈ (lastRun l (List.range' i (l.length - i)).reverse).1 ↔ ∃ j, j ∈ List.range' i (l.length - i) ∧ placeOf l j = q) ∧ (lastRun l (List.range' i (l.length - i)).reverse).2.reverse = (keeps l i).map (fun j : Nat => (j : Int))
  | 0, i, h => by
    rw [show l.length - i = 0 by omega]
    simp [lastRun, keeps, show l.length - i = 0 by omega]
  | m + 1, i, h => by
    obtain ⟨h1, h2⟩ := lasts_run l m (i + 1) (by omega)
    have hi : i < l.length := by omega
    rw [range'_cons hi, List.reverse_cons, lastRun_snoc]
    simp only [lastStep]
    refine ⟨fun q => ?_, ?_⟩
    · simp only [List.mem_append, List.mem_singleton, List.mem_cons, List.not_mem_nil, or_false, h1]
      constructor
      · rintro (⟨j, hj, rfl⟩ | rfl)
        · exact ⟨j, .inr hj, rfl⟩
        · exact ⟨i, .inl rfl, rfl⟩
      · rintro ⟨j, rfl | hj, rfl⟩
        · exact .inr rfl
        · exact .inl ⟨j, hj, rfl⟩
    · unfold keeps at h2 ⊢
      rw [range'_cons hi, List.filter_cons]
      have hag : (placeOf l i ∈ (lastRun l (List.range' (i + 1) (l.length - (i + 1))).reverse).1) ↔ again l i = true := by
        rw [h1]
        simp [again]
      by_cases ha : again l i = true
      · rw [if_pos (hag.2 ha), h2]
        simp [ha]
      · rw [if_neg (fun h => ha (hag.1 h)), List.reverse_append, h2]
        simp [ha]
theorem lasts_eq (l : List S117) (hl : l.length < 4398046511104) : dcf_lasts.f l = some ((keeps l 0).map (fun j : Nat => (j : Int))) := by
  have := (lasts_run l l.length 0 (by omega)).2
  unfold dcf_lasts.f
  rw [if_pos (by omega), ← this, List.range_eq_range']
  simp
theorem keeps_lt {l : List S117} {i j : Nat} (h : j ∈ keeps l i) : j < l.length := by
  have := List.mem_range'_1.1 (List.mem_filter.1 h).1
  omega
theorem keeps_length (l : List S117) (i : Nat) : (keeps l i).length ≤ l.length - i := by
  have := List.length_filter_le (fun j => !again l j) (List.range' i (l.length - i))
  simpa [keeps] using this
theorem last_loop (l : List S117) (hok : ∀ x ∈ l, okItem x) (hl : l.length < 4398046511104) (ks : List Nat) (hks : ∀ j ∈ ks, j < l.length) (hk : ks.length < 4398046511104) : ∀ (m i : Nat), i + m = ks.length →
    Ev (fun k => dcf_Last.l0 k l ((ks.take i).map fun j : Nat => rd_T117 l (j : Int)) (ks.map (fun j : Nat => (j : Int))) (ks.length : Int) (i : Int)) (ks.map fun j : Nat => rd_T117 l (j : Int))
  | 0, i, h => by
    refine Ev.step (f := fun _ => some (ks.map fun j : Nat => rd_T117 l (j : Int))) (fun k => ?_) (Ev.now _)
    simp only [dcf_Last.l0]
    rw [if_neg (by omega), List.take_of_length_le (by omega)]
  | m + 1, i, h => by
    have hi : i < ks.length := by omega
    have hj := hks ks[i] (List.getElem_mem hi)
    refine Ev.step (fun k => ?_) (last_loop l hok hl ks hks hk m (i + 1) (by omega))
    have hr : rd (ks.map (fun j : Nat => (j : Int))) (i : Int) = (ks[i] : Nat) := by simp [rd, hi]
    have hx : (rd_T117 l (ks[i] : Int)).f2.length < 140737488355328 := by rw [rdT_get hj]; exact (hok _ (List.getElem_mem hj)).2.2.2
    simp only [dcf_Last.l0, hr, slices_Clone_byte_byte.f]
    rw [if_pos (by omega), if_pos (by omega), if_pos (by simp; omega), if_pos (by omega), if_pos (by omega), if_pos hx]
    simp only [Option.bind_some]
    rw [if_pos (by simp; omega), wrap_nat i (by omega), List.take_succ_eq_append_getElem hi, List.map_append]
    rfl
theorem last_ev (l : List S117) (hok : ∀ x ∈ l, okItem x) (hl : l.length < 4398046511104) : Ev (fun k => dcf_Last.f k l) ((keeps l 0).map fun j : Nat => rd_T117 l (j : Int)) := by
  have hk := keeps_length l 0
  refine Ev.congr (fun k => ?_) (last_loop l hok hl (keeps l 0) (fun j hj => keeps_lt hj) (by omega) (keeps l 0).length 0 (by omega))
  simp [dcf_Last.f, lasts_eq l hl]

/-! #### Decode -/
theorem or8 {x y : Int} (i : Nat) (hi : 2 ^ i ≤ 4294967296) (h1 : 0 ≤ x) (h2 : x < 2 ^ i) (h3 : 0 ≤ y) (h4 : y < 256) : Go.bits .or .u64 x (y * 2 ^ i) = x + y * 2 ^ i := by
  obtain ⟨a, rfl⟩ := Int.eq_ofNat_of_zero_le h1
  obtain ⟨b, rfl⟩ := Int.eq_ofNat_of_zero_le h3
  have ha : a < 2 ^ i := by exact_mod_cast h2
  have hb : b < 256 := by omega
  have hm : b * 2 ^ i ≤ 255 * 4294967296 := Nat.mul_le_mul (by omega) hi
  have e : ((b : Int) * 2 ^ i) = ((b * 2 ^ i : Nat) : Int) := by push_cast; rfl
  rw [e, u64_or_nat a (b * 2 ^ i) (by omega) (by omega), Nat.or_comm, nat_join i _ _ (Nat.mul_mod_left _ _) ha]
  push_cast
  omega
theorem read32_low (n : Int) (h0 : 0 ≤ n) (h1 : n < 4294967296) (rest : List Int) : dcf_read32.f (low n ++ rest) = some n := by
  unfold dcf_read32.f
  rw [if_pos (by simp [low]; omega), if_pos (by simp [low]; omega), if_pos (by simp [low]; omega), if_pos (by simp [low]; omega)]
  have e0 : rd (low n ++ rest) 0 = n % 256 := by simp [rd, low]
  have e1 : rd (low n ++ rest) 1 = n / 256 % 256 := by simp [rd, low]
  have e2 : rd (low n ++ rest) 2 = n / 65536 % 256 := by simp [rd, low]
  have e3 : rd (low n ++ rest) 3 = n / 16777216 % 256 := by simp [rd, low]
  rw [e0, e1, e2, e3]
  have w (x : Int) (hx : 0 ≤ x) (hx2 : x < 18446744073709551616) : IntKind.u64.wrap x = x := by rw [IntKind.wrap_u64]; omega
  rw [w _ (by omega) (by omega), w (n / 256 % 256) (by omega) (by omega), w (n / 65536 % 256) (by omega) (by omega), w (n / 16777216 % 256) (by omega) (by omega), w _ (by omega) (by omega), w _ (by omega) (by omega), w _ (by omega) (by omega)]
  have o1 : Go.bits .or .u64 (n % 256) (n / 256 % 256 * 256) = n % 256 + n / 256 % 256 * 256 := or8 (x := n % 256) (y := n / 256 % 256) 8 (by decide) (by omega) (by omega) (by omega) (by omega)
  have o2 : Go.bits .or .u64 (n % 256 + n / 256 % 256 * 256) (n / 65536 % 256 * 65536) = n % 256 + n / 256 % 256 * 256 + n / 65536 % 256 * 65536 := or8 (x := n % 256 + n / 256 % 256 * 256) (y := n / 65536 % 256) 16 (by decide) (by omega) (by omega) (by omega) (by omega)
  have o3 : Go.bits .or .u64 (n % 256 + n / 256 % 256 * 256 + n / 65536 % 256 * 65536) (n / 16777216 % 256 * 16777216) = n % 256 + n / 256 % 256 * 256 + n / 65536 % 256 * 65536 + n / 16777216 % 256 * 16777216 := or8 (x := n % 256 + n / 256 % 256 * 256 + n / 65536 % 256 * 65536) (y := n / 16777216 % 256) 24 (by decide) (by omega) (by omega) (by omega) (by omega)
  rw [o1, o2, o3]
  congr 1
  omega
theorem or16 {x y : Int} (h1 : 0 ≤ x) (h2 : x < 256) (h3 : 0 ≤ y) (h4 : y < 256) : Go.bits .or .u16 x (y * 256) = x + y * 256 := by
  obtain ⟨a, rfl⟩ := Int.eq_ofNat_of_zero_le h1
  obtain ⟨b, rfl⟩ := Int.eq_ofNat_of_zero_le h3
  have e : ((b : Int) * 256) = ((b * 256 : Nat) : Int) := by omega
  rw [e, u16_or_nat a (b * 256) (by omega) (by omega), Nat.or_comm, nat_join 8 _ _ (by omega) (by omega)]
  omega
theorem item_ok (x : S117) (hx : okItem x) (hs : x.f2.length ≤ 65536) (rest : List Int) : item_f (itemB x ++ rest) = some (x.f0, x.f1, x.f2, rest, 0) := by
  obtain ⟨⟨h1, h2⟩, h3, _, _⟩ := hx
  unfold item_f
  have e3 : (itemB x ++ rest).drop 3 = low (x.f2.length : Int) ++ (x.f2 ++ rest) := by simp [itemB]
  have e7 : (itemB x ++ rest).drop 7 = x.f2 ++ rest := by simp [itemB, low]
  have el : (itemB x ++ rest).length - 7 = (x.f2 ++ rest).length := by rw [← e7]; simp
  rw [if_neg (by rw [List.length_append, itemB_length]; omega), e3, e7, el, read32_low _ (by omega) (by omega)]
  simp only [Option.bind_some]
  rw [if_neg (by omega), if_neg (by simp; omega), if_pos (by omega)]
  have e0 : rd (itemB x ++ rest) 0 = x.f0 % 256 := by simp [rd, itemB]
  have e1 : rd (itemB x ++ rest) 1 = x.f0 / 256 % 256 := by simp [rd, itemB]
  have e2 : rd (itemB x ++ rest) 2 = x.f1 := by simp [rd, itemB]
  have w (x : Int) (hx : 0 ≤ x) (hx2 : x < 65536) : IntKind.u16.wrap x = x := by rw [IntKind.wrap_u16]; omega
  rw [e0, e1, e2, w _ (by omega) (by omega), w (x.f0 / 256 % 256) (by omega) (by omega), w _ (by omega) (by omega), or16 (by omega) (by omega) (by omega) (by omega)]
  simp
  omega
theorem decode_go : ∀ (l acc : List S117), (∀ x ∈ l, okItem x) → l.any longB = false → decodeGo l.length (itemsB l) acc = some (acc ++ l, 0)
  | [], acc, _, _ => by simp [decodeGo, itemsB]
  | x :: l, acc, hok, hs => by
    rw [List.any_cons, Bool.or_eq_false_iff] at hs
    have h := item_ok x (hok x (List.mem_cons_self)) (longB_false hs.1) (itemsB l)
    have e : itemsB (x :: l) = itemB x ++ itemsB l := by simp [itemsB]
    rw [List.length_cons, decodeGo, e, h]
    simp only [Option.bind_some, ne_eq, not_true_eq_false, if_false]
    rw [decode_go l _ (fun y hy => hok y (List.mem_cons_of_mem _ hy)) hs.2]
    simp
theorem decode_ok (l : List S117) (hok : ∀ x ∈ l, okItem x) (hs : l.any longB = false) (hn : l.length ≤ 1024) : dcf_Decode.f (encB l) = some (l, 0) := by
  unfold dcf_Decode.f encB
  rw [if_neg (by simp [low]), read32_low _ (by omega) (by omega)]
  simp only [Option.bind_some]
  rw [if_neg (by omega), if_pos (by omega)]
  have := decode_go l [] hok hs
  simpa [low] using this
theorem lives_ok : tramwaylaw21_lives.f 9 = some true := by kernel_rfl
theorem lives_ev : Ev (fun k => tramwaylaw21_lives.f k) true := Ev.of (fun k => tramwaylaw21_lives.mono k) lives_ok
/-! #### Again -/
theorem again_loop (l : List S117) (hl : l.length < 4398046511104) (i : Nat) (hi : i < l.length) : ∀ (m j : Nat), j + m = l.length →
    Ev (fun k => tramwayref21_Again.l0 k l (i : Int) (j : Int)) ((List.range' j (l.length - j)).any fun q => decide (placeOf l q = placeOf l i))
  | 0, j, h => by
    rw [show l.length - j = 0 by omega]
    refine Ev.step (f := fun _ => some false) (fun k => ?_) (by simpa using Ev.now false)
    simp only [tramwayref21_Again.l0]
    rw [if_neg (by omega)]
  | m + 1, j, h => by
    have hj : j < l.length := by omega
    rw [range'_cons hj, List.any_cons]
    have ih := again_loop l hl i hi m (j + 1) (by omega)
    by_cases hp : placeOf l j = placeOf l i
    · have hp' := hp
      simp only [placeOf, Prod.mk.injEq] at hp'
      refine Ev.step (f := fun _ => some true) (fun k => ?_) (by simpa [hp] using Ev.now true)
      simp only [tramwayref21_Again.l0]
      rw [if_pos (by omega), if_pos (by omega), if_pos (by omega), if_pos (by omega), if_pos hp'.1, if_pos hp'.2]
    · rw [decide_eq_false hp, Bool.false_or]
      refine Ev.step (fun k => ?_) ih
      simp only [tramwayref21_Again.l0]
      rw [if_pos (by omega), if_pos (by omega), if_pos (by omega), if_pos (by omega), wrap_nat j (by omega)]
      by_cases h1 : (rd_T117 l (j : Int)).f0 = (rd_T117 l (i : Int)).f0
      · rw [if_pos h1, if_neg (fun h2 => hp (by simp [placeOf, h1, h2]))]
      · rw [if_neg h1]
theorem again_ev (l : List S117) (hl : l.length < 4398046511104) (i : Nat) (hi : i < l.length) : Ev (fun k => tramwayref21_Again.f k l (i : Int)) (again l i) := by
  refine Ev.congr (fun k => ?_) (again_loop l hl i hi (l.length - (i + 1)) (i + 1) (by omega))
  simp only [tramwayref21_Again.f]
  rw [wrap_nat i (by omega)]

/-! #### the law -/
def lastL (l : List S117) : List S117 := (keeps l 0).map fun j : Nat => rd_T117 l (j : Int)
theorem law_end (l : List S117) (hok : ∀ x ∈ l, okItem x) (hl : l.length < 4398046511104) (x8 x9 : Int) (h8 : (encR l).2 = 0 → x8 = ((lastL l).length : Int)) :
    Ev (fun k => tramwaylaw21_DcfEncodes.j2 k l (encR l).1 (encR l).2 (lastL l) x8 x9 false) true := by
  by_cases h : 1024 < l.length ∨ l.any longB = true
  · have e : encR l = ([], 2) := by unfold encR; rw [if_pos h]
    rw [e]
    refine Ev.step (f := fun k => (tramwaylaw21_lives.f k).bind fun t => some t) (fun k => ?_) (Ev.bind (f := fun _ t => some t) lives_ev (Ev.now true))
    simp only [tramwaylaw21_DcfEncodes.j2]
    rw [if_neg (by decide), if_neg (by decide)]
  · have e : encR l = (encB l, 0) := by unfold encR; rw [if_neg h]
    rw [e] at h8 ⊢
    have h8' := h8 rfl
    have hs : l.any longB = false := by
      cases hb : l.any longB with
      | true => exact absurd (Or.inr hb) h
      | false => rfl
    have hd := decode_ok l hok hs (by omega)
    refine Ev.step (f := fun k => (tramwaylaw21_Same.f k l l).bind fun t288 => if t288 = true then (if (0 : Int) = 0 then (if x8 = ((lastL l).length : Int) then ((tramwaylaw21_lives.f k).bind fun t => some t) else some false) else some false) else some false) (fun k => ?_) (Ev.bind (f := fun k t288 => if t288 = true then (if (0 : Int) = 0 then (if x8 = ((lastL l).length : Int) then ((tramwaylaw21_lives.f k).bind fun t => some t) else some false) else some false) else some false) (same_ev l hl) ?_)
    · simp only [tramwaylaw21_DcfEncodes.j2, hd, Option.bind_some]
      rw [if_neg (by decide), if_pos trivial]
    · refine Ev.congr (fun k => ?_) (Ev.bind (f := fun _ t => some t) lives_ev (Ev.now true))
      rw [if_pos rfl, if_pos rfl, if_pos h8']
theorem keeps_end {l : List S117} {i : Nat} (h : i = l.length) : keeps l i = [] := by simp [keeps, h]
theorem keeps_again {l : List S117} {i : Nat} (hi : i < l.length) (h : again l i = true) : keeps l i = keeps l (i + 1) := by
  unfold keeps
  rw [range'_cons hi, List.filter_cons]
  simp [h]
theorem keeps_new {l : List S117} {i : Nat} (hi : i < l.length) (h : again l i = false) : keeps l i = i :: keeps l (i + 1) := by
  unfold keeps
  rw [range'_cons hi, List.filter_cons]
  simp [h]
theorem one_slice {α : Type} (x : List α) (i : Nat) (h : i < x.length) : ((x.take (i + 1)).drop i) = [x[i]] := by
  rw [List.take_succ_eq_append_getElem h, List.drop_append_of_le_length (by simp; omega), List.drop_of_length_le (by simp; omega)]
  rfl
theorem law_loop (l : List S117) (hok : ∀ x ∈ l, okItem x) (hl : l.length < 4398046511104) : ∀ (m i p : Nat), i + m = l.length → (keeps l 0).drop p = keeps l i → p ≤ (keeps l 0).length →
    Ev (fun k => tramwaylaw21_DcfEncodes.l0 k l (encR l).1 (encR l).2 (lastL l) (p : Int) (i : Int)) true
  | 0, i, p, h, hp, hpl => by
    have h8 : (p : Int) = ((lastL l).length : Int) := by
      rw [keeps_end (i := i) (by omega)] at hp
      have := List.drop_eq_nil_iff.1 hp
      simp only [lastL, List.length_map]
      omega
    refine Ev.step (fun k => ?_) (law_end l hok hl (p : Int) (i : Int) (fun _ => h8))
    simp only [tramwaylaw21_DcfEncodes.l0]
    rw [if_neg (by omega)]
  | m + 1, i, p, h, hp, hpl => by
    have hi : i < l.length := by omega
    by_cases hn : l.length < 2000
    · refine Ev.step (f := fun k => tramwaylaw21_DcfEncodes.j2 k l (encR l).1 (encR l).2 (lastL l) (p : Int) (i : Int) true) (fun k => ?_) ?_
      · simp only [tramwaylaw21_DcfEncodes.l0]
        rw [if_pos (by omega), decide_eq_true (by omega)]
      cases ha : again l i with
      | true =>
        have ih := law_loop l hok hl m (i + 1) p (by omega) (by rw [hp, keeps_again hi ha]) hpl
        have ha' := again_ev l hl i hi
        rw [ha] at ha'
        obtain ⟨K1, h1⟩ := ha'
        obtain ⟨K2, h2⟩ := ih
        refine ⟨K1 + K2 + 1, fun k hk => ?_⟩
        obtain ⟨k, rfl⟩ : ∃ j, k = j + 1 := ⟨k - 1, by omega⟩
        simp only [tramwaylaw21_DcfEncodes.j2, if_true, h1 k (by omega), Option.bind_some]
        rw [wrap_nat i (by omega)]
        exact h2 k (by omega)
      | false =>
        have hkn := keeps_new hi ha
        rw [hkn] at hp
        have hpl' : p < (keeps l 0).length := by
          rcases Nat.lt_or_ge p (keeps l 0).length with h | h
          · exact h
          · rw [List.drop_of_length_le h] at hp
            cases hp
        rw [List.drop_eq_getElem_cons hpl'] at hp
        injection hp with hp1 hp2
        have ih := law_loop l hok hl m (i + 1) (p + 1) (by omega) hp2 hpl'
        have ha' := again_ev l hl i hi
        rw [ha] at ha'
        have hlen : (lastL l).length = (keeps l 0).length := by simp [lastL]
        have hkl := keeps_length l 0
        have e1 : ((lastL l).take ((p + 1 : Nat) : Int).toNat).drop (p : Int).toNat = [l[i]] := by
          rw [Int.toNat_natCast, Int.toNat_natCast, one_slice _ _ (by rw [hlen]; exact hpl')]
          simp only [lastL, List.getElem_map, hp1, rdT_get hi]
        have e2 : (l.take ((i + 1 : Nat) : Int).toNat).drop (i : Int).toNat = [l[i]] := by
          rw [Int.toNat_natCast, Int.toNat_natCast, one_slice _ _ hi]
        obtain ⟨K1, h1⟩ := ha'
        obtain ⟨K2, h2⟩ := ih
        obtain ⟨K3, h3⟩ := same_ev [l[i]] (by simp)
        refine ⟨K1 + K2 + K3 + 1, fun k hk => ?_⟩
        obtain ⟨k, rfl⟩ : ∃ j, k = j + 1 := ⟨k - 1, by omega⟩
        simp only [tramwaylaw21_DcfEncodes.j2, if_true, h1 k (by omega), Option.bind_some, Bool.false_eq_true, if_false]
        rw [wrap_nat i (by omega), wrap_nat p (by omega), e1, e2, show tramwaylaw21_Same.f k [l[i]] [l[i]] = some true from h3 k (by omega), if_neg (by omega), if_pos (by omega), if_pos (by omega), if_pos (by omega), if_pos (by omega), if_pos (by omega), if_pos (by omega)]
        simp only [Option.bind_some, if_true]
        exact h2 k (by omega)
    · refine Ev.step (fun k => ?_) (law_end l hok hl (p : Int) (i : Int) (fun h0 => ?_))
      · simp only [tramwaylaw21_DcfEncodes.l0]
        rw [if_pos (by omega), decide_eq_false (by omega)]
      · simp [encR, show 1024 < l.length by omega] at h0
theorem law_ev (l : List S117) (hok : ∀ x ∈ l, okItem x) (hl : l.length < 4398046511104) : ∃ k, tramwaylaw21_DcfEncodes.f k l = some true := by
  obtain ⟨K1, h1⟩ := own_ev l hok hl
  obtain ⟨K2, h2⟩ := encode_ev l
  obtain ⟨K3, h3⟩ := ref_encode_ev l hok
  obtain ⟨K4, h4⟩ := last_ev l hok hl
  obtain ⟨K5, h5⟩ := law_loop l hok hl l.length 0 0 (by omega) (by simp) (by omega)
  refine ⟨K1 + K2 + K3 + K4 + K5 + 1, ?_⟩
  simp only [tramwaylaw21_DcfEncodes.f, h1 (K1 + K2 + K3 + K4 + K5 + 1) (by omega), h2 (K1 + K2 + K3 + K4 + K5 + 1) (by omega), h3 (K1 + K2 + K3 + K4 + K5 + 1) (by omega), Option.bind_some, if_true, bne_self_eq_false]
  simp only [tramwaylaw21_DcfEncodes.j0, h1 (K1 + K2 + K3 + K4 + K5) (by omega), h4 (K1 + K2 + K3 + K4 + K5) (by omega), Option.bind_some, Bool.false_eq_true, if_false]
  exact h5 _ (by omega)
end Go.Proofs.Yteefnclkcnkbhaa.GDcfEncodes
