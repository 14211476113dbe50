/-
  PROVED: 'tramwaylaw11.ClientExpires' hands back true, whatever acts and bytes it is given, and both read behind the call as they read before.
  CONDITIONS: none but the row's own (what the given statement says of the machine and of sizes).
-/
import Derived.Test.YteefnclkcnkbhaaCliN
import Derived.Test.YteefnclkcnkbhaaRows
import Derived.WalkKit
import Derived.ProofKit
import Derived.OpenShut
import Derived.ShutString
import Derived.ChangeOld
import Derived.ChangeSame
import Derived.Below
import Derived.SizedLaws
import Derived.ChangeSlices
import Derived.Deep.Slices
import Derived.Deep.Fields
namespace Go.Proofs.Yteefnclkcnkbhaa.GClientExpires
open Go.ChangeShapes Go.WideShapes Go.ChangeAt Go.RowKit Go.Deep
open Go.ChangeMaps (open_string shut_string)
open Go.Proofs.YteefnclkcnkbhaaW.PrintWords Go.Proofs.YteefnclkcnkbhaaW.PrintLast Go.Proofs.YteefnclkcnkbhaaW.PrintMore
set_option linter.unusedVariables false
set_option linter.unusedSimpArgs false

theorem own : ownKnob Try.prog.godebug = none := by kernel_rfl
theorem laidOut : laidOutB Try.prog = true := by kernel_rfl
section
variable {H : Type} {enc : TypeId × Value → H} {w : World} {base : Nat} {spare : Nat → Bool} {held : Bool}
theorem weightsAll_mem {P : Program} {e : TypeId} : ∀ {l : List (DataW H)} {d : DataW H}, d ∈ l → ∀ n ∈ d.weights P e, n ∈ DataW.weightsAll P e l
  | x :: l, d, hd, n, hn => by
    unfold DataW.weightsAll
    rw [List.mem_append]
    rcases List.mem_cons.1 hd with rfl | hd
    · exact .inl hn
    · exact .inr (weightsAll_mem hd n hn)
theorem wf8 {b : Int} (h : (Lit.int .u8 b).wf = true) : 0 ≤ b ∧ b < 256 := by
  have h2 : (decide ((0 : Int) ≤ b) && decide (b ≤ 255)) = true := h
  simp at h2
  omega
theorem wf16 {b : Int} (h : (Lit.int .u16 b).wf = true) : 0 ≤ b ∧ b < 65536 := by
  have h2 : (decide ((0 : Int) ≤ b) && decide (b ≤ 65535)) = true := h
  simp at h2
  omega
theorem open_bytes {fuel : Nat} {v : Value} {y : DataW H × List MemPlace} (h : DataW.trod enc Try.prog w base spare held fuel 23 [v] = some y) :
    ∃ (A2 : Option Addr) (c2 : Nat) (ys : List Int), v = .slice A2 ys.length c2 ∧ ys.length ≤ c2 ∧ (Kd.int .u8).C w A2 ys.length ys ∧ ((y.1.weights Try.prog 23).all (· ≤ reachBytes) = true → ys.length ≤ 140737488351232) := by
  rcases open_ints Try.underlying23 Try.underlying5 (by kernel_rfl) h with ⟨hcs, _⟩ | ⟨x, l, c, zs, hcs, _, hl, hm, hz, hx, hcell, hwz⟩
  · simp only [List.cons.injEq, and_true] at hcs
    subst hcs
    exact ⟨none, 0, [], rfl, Nat.le_refl _, Kd.C_nil _ _, fun _ => by simp⟩
  · simp only [List.cons.injEq, and_true] at hcs
    subst hcs
    have hl2 : l ≤ zs.length := by
      rw [hz]
      split
      · exact hl
      · exact Nat.le_refl _
    have hlt : (zs.take l).length = l := by simp; omega
    refine ⟨some x, c, zs.take l, by rw [hlt], by omega, ?_, fun hw => ?_⟩
    · refine Kd.C_of_reads (d := 0) ⟨rfl, by rw [hlt]; unfold maxLen at hm; omega, fun _ => ⟨x, rfl, fun j hj => ?_⟩⟩
      rw [hlt] at hj
      rw [hcell j (by omega)]
      simp [List.getD_eq_getElem?_getD, hj]
    · have hx1 : y.1 = .slice (lits .u8 (zs.take l)) (lits .u8 (zs.drop l)) := by rw [hx]
      rw [hx1] at hw
      simp only [DataW.weights, Try.underlying23, List.all_cons, Bool.and_eq_true, decide_eq_true_eq] at hw
      have h1 := hw.1
      have hb : Try.prog.bytesOf 5 = 1 := by kernel_rfl
      rw [hb] at h1
      have h2 : (lits (H := H) .u8 (zs.take l)).length = l := by simp [lits]; omega
      rw [h2] at h1
      unfold reachBytes at h1
      omega

/-- an act, opened; the bytes' bound under the weights -/
def ActW (w : World) (ad : Addr) (d : DataW H) (y : AV) : Prop := (d.weights Try.prog 45).all (· ≤ reachBytes) = true → ActM w ad y
theorem add0 (ad : Addr) : ad.add 0 = ad := by unfold Addr.add; rw [if_pos rfl]
theorem addj (ad : Addr) (j : Nat) (hj : 0 < j) : ad.add j = ⟨ad.block, ad.off + j, none⟩ := by unfold Addr.add; rw [if_neg (by omega)]
theorem byte_of {fuel : Nat} {v : Value} {y : DataW H × List MemPlace} (h : DataW.trod enc Try.prog w base spare held fuel 5 [v] = some y) : ∃ b, v = .int .u8 b ∧ 0 ≤ b ∧ b < 256 := by
  obtain ⟨n, e, _, wf⟩ := DataW.trod_int Try.underlying5 h
  simp only [List.cons.injEq, and_true] at e
  exact ⟨n, e, wf8 wf⟩
theorem cells45 : Try.prog.cellsOf 45 = 12 := by kernel_rfl
theorem cells43 : Try.prog.cellsOf 43 = 8 := by kernel_rfl
theorem cells23 : Try.prog.cellsOf 23 = 1 := by kernel_rfl
theorem cells5 : Try.prog.cellsOf 5 = 1 := by kernel_rfl
theorem cells3 : Try.prog.cellsOf 3 = 1 := by kernel_rfl
theorem cells39 : Try.prog.cellsOf 39 = 1 := by kernel_rfl
set_option maxRecDepth 100000 in
theorem open_act {fuel : Nat} {ad : Addr} {cs : List Value} {x : DataW H × List MemPlace} (hc : w.cells? base ad 12 = some cs) (h : DataW.trod enc Try.prog w base spare held fuel 45 cs = some x) : ∃ y : AV, ActW w ad x.1 y := by
  obtain ⟨ys, n', _, hx, _, hyl, hf⟩ := DataW.trod_struct Try.underlying45 h
  obtain ⟨_, hcl, hat⟩ := World.cells?_some hc
  match cs, hcl with
  | [c0, c1, c2, c3, c4, c5, c6, c7, c8, c9, c10, c11], _ =>
    have t0 : DataW.trod enc Try.prog w base spare held n' 3 (([c0, c1, c2, c3, c4, c5, c6, c7, c8, c9, c10, c11].drop 0).take (Try.prog.cellsOf 3)) = ys[0]? := hf 0 _ rfl
    have t1 : DataW.trod enc Try.prog w base spare held n' 39 (([c0, c1, c2, c3, c4, c5, c6, c7, c8, c9, c10, c11].drop 1).take (Try.prog.cellsOf 39)) = ys[1]? := hf 1 _ rfl
    have t2 : DataW.trod enc Try.prog w base spare held n' 5 (([c0, c1, c2, c3, c4, c5, c6, c7, c8, c9, c10, c11].drop 2).take (Try.prog.cellsOf 5)) = ys[2]? := hf 2 _ rfl
    have t3 : DataW.trod enc Try.prog w base spare held n' 23 (([c0, c1, c2, c3, c4, c5, c6, c7, c8, c9, c10, c11].drop 3).take (Try.prog.cellsOf 23)) = ys[3]? := hf 3 _ rfl
    have t4 : DataW.trod enc Try.prog w base spare held n' 43 (([c0, c1, c2, c3, c4, c5, c6, c7, c8, c9, c10, c11].drop 4).take (Try.prog.cellsOf 43)) = ys[4]? := hf 4 _ rfl
    rw [show Try.prog.cellsOf 3 = 1 from cells3] at t0
    rw [show Try.prog.cellsOf 39 = 1 from cells39] at t1
    rw [show Try.prog.cellsOf 5 = 1 from cells5] at t2
    rw [show Try.prog.cellsOf 23 = 1 from cells23] at t3
    rw [show Try.prog.cellsOf 43 = 8 from cells43] at t4
    simp only [List.drop_zero, List.drop_succ_cons, List.take_succ_cons, List.take_zero] at t0 t1 t2 t3 t4
    have hy0 : ys[0]? = some (ys[0]'(by rw [hyl]; decide)) := List.getElem?_eq_getElem _
    have hy1 : ys[1]? = some (ys[1]'(by rw [hyl]; decide)) := List.getElem?_eq_getElem _
    have hy2 : ys[2]? = some (ys[2]'(by rw [hyl]; decide)) := List.getElem?_eq_getElem _
    have hy3 : ys[3]? = some (ys[3]'(by rw [hyl]; decide)) := List.getElem?_eq_getElem _
    have hy4 : ys[4]? = some (ys[4]'(by rw [hyl]; decide)) := List.getElem?_eq_getElem _
    obtain ⟨n0, e0, _, w0⟩ := DataW.trod_int Try.underlying3 (t0.trans hy0)
    obtain ⟨n1, e1, _, w1⟩ := DataW.trod_int Try.underlying39 (t1.trans hy1)
    obtain ⟨n2, e2, _, w2⟩ := DataW.trod_int Try.underlying5 (t2.trans hy2)
    obtain ⟨A2, c2', zs, rfl, hlz, hC, hwt⟩ := open_bytes (t3.trans hy3)
    obtain ⟨bs, m, _, _, _, hbl, hb⟩ := DataW.trod_array Try.underlying43 (t4.trans hy4)
    have q : ∀ i : Nat, i < 8 → ∃ z, DataW.trod enc Try.prog w base spare held m 5 ([c4, c5, c6, c7, c8, c9, c10, c11].drop (i * 1) |>.take 1) = some z := fun i hi => by
      have := hb i hi
      rw [cells5] at this
      exact ⟨_, this.trans (List.getElem?_eq_getElem (by omega))⟩
    obtain ⟨_, q0⟩ := q 0 (by decide)
    obtain ⟨_, q1⟩ := q 1 (by decide)
    obtain ⟨_, q2⟩ := q 2 (by decide)
    obtain ⟨_, q3⟩ := q 3 (by decide)
    obtain ⟨_, q4⟩ := q 4 (by decide)
    obtain ⟨_, q5⟩ := q 5 (by decide)
    obtain ⟨_, q6⟩ := q 6 (by decide)
    obtain ⟨_, q7⟩ := q 7 (by decide)
    simp only [Nat.mul_one, List.drop_zero, List.drop_succ_cons, List.take_succ_cons, List.take_zero] at q0 q1 q2 q3 q4 q5 q6 q7
    obtain ⟨x0, rfl, r0⟩ := byte_of q0
    obtain ⟨x1, rfl, r1⟩ := byte_of q1
    obtain ⟨x2, rfl, r2⟩ := byte_of q2
    obtain ⟨x3, rfl, r3⟩ := byte_of q3
    obtain ⟨x4, rfl, r4⟩ := byte_of q4
    obtain ⟨x5, rfl, r5⟩ := byte_of q5
    obtain ⟨x6, rfl, r6⟩ := byte_of q6
    obtain ⟨x7, rfl, r7⟩ := byte_of q7
    simp only [List.cons.injEq, and_true] at e0 e1 e2
    subst e0 e1 e2
    refine ⟨⟨n0, n1, n2, zs, fun i => match i with | 0 => x0 | 1 => x1 | 2 => x2 | 3 => x3 | 4 => x4 | 5 => x5 | 6 => x6 | _ => x7⟩, fun hw => ⟨A2, c2', ⟨?_, ?_, ?_, ?_, ?_, ?_, ?_, ?_, ?_, ?_, ?_, ?_⟩, hC, hwt ?_, fun t => ?_⟩⟩
    · exact (congrArg w.cell? (add0 ad)).symm.trans ((hat 0 (by decide)).trans rfl)
    · rw [← addj ad 1 (by decide)]; exact (hat 1 (by decide)).trans rfl
    · rw [← addj ad 2 (by decide)]; exact (hat 2 (by decide)).trans rfl
    · rw [← addj ad 3 (by decide)]; exact (hat 3 (by decide)).trans rfl
    · rw [← addj ad 4 (by decide)]; exact (hat 4 (by decide)).trans rfl
    · rw [← addj ad 5 (by decide)]; exact (hat 5 (by decide)).trans rfl
    · rw [← addj ad 6 (by decide)]; exact (hat 6 (by decide)).trans rfl
    · rw [← addj ad 7 (by decide)]; exact (hat 7 (by decide)).trans rfl
    · rw [← addj ad 8 (by decide)]; exact (hat 8 (by decide)).trans rfl
    · rw [← addj ad 9 (by decide)]; exact (hat 9 (by decide)).trans rfl
    · rw [← addj ad 10 (by decide)]; exact (hat 10 (by decide)).trans rfl
    · rw [← addj ad 11 (by decide)]; exact (hat 11 (by decide)).trans rfl
    · rw [hx] at hw
      simp only [DataW.weights, Try.underlying45] at hw
      refine List.all_eq_true.2 fun z hz => List.all_eq_true.1 hw z ?_
      refine DataW.weights_mem_each (j := 3) (t := 23) rfl ?_ z hz
      rw [List.getElem?_map, hy3]
      rfl
    · match t with
      | 0 => exact r0
      | 1 => exact r1
      | 2 => exact r2
      | 3 => exact r3
      | 4 => exact r4
      | 5 => exact r5
      | 6 => exact r6
      | _ + 7 => exact r7

set_option maxRecDepth 100000 in
theorem open_acts {fuel : Nat} {A0 : Option Addr} {len cap : Nat} {x : DataW H × List MemPlace} (h : DataW.trod enc Try.prog w base spare held fuel 34 [.slice A0 len cap] = some x) :
    ∃ (ys : List AV), ys.length = len ∧ len ≤ cap ∧ ((x.1.weights Try.prog 34).all (· ≤ reachBytes) = true → ActsM w A0 ys ∧ len ≤ 4611686018427387904) := by
  rcases open_slice Try.underlying34 h with ⟨hcs, _⟩ | ⟨a, l, c, m, n, D, Pl, hcs, _, hl, hm, hmm, hx, hi⟩
  · simp only [List.cons.injEq, and_true, Value.slice.injEq] at hcs
    obtain ⟨rfl, rfl, rfl⟩ := hcs
    exact ⟨[], rfl, Nat.le_refl _, fun _ => ⟨fun j y hy => by simp at hy, by omega⟩⟩
  · simp only [List.cons.injEq, and_true, Value.slice.injEq] at hcs
    obtain ⟨rfl, rfl, rfl⟩ := hcs
    have hlm : len ≤ m := by rw [hmm]; split <;> omega
    have hit : ∀ i, i < len → ∃ y : AV, ActW w (a.add (i * 12)) (D i) y := by
      intro i hil
      obtain ⟨cs', hc, ht⟩ := hi i (by omega)
      rw [cells45] at hc
      exact open_act hc ht
    obtain ⟨X, hX⟩ : ∃ X : Nat → AV, ∀ i, i < len → ActW w (a.add (i * 12)) (D i) (X i) :=
      ⟨fun i => if h : i < len then (hit i h).choose else ⟨0, 0, 0, [], fun _ => 0⟩, fun i h => by simp only [dif_pos h]; exact (hit i h).choose_spec⟩
    refine ⟨(List.range len).map X, by simp, hl, fun hw => ?_⟩
    rw [hx] at hw
    simp only [DataW.weights, Try.underlying34, List.all_cons, Bool.and_eq_true, decide_eq_true_eq, List.all_append] at hw
    obtain ⟨hw1, hw2, _⟩ := hw
    have hb : Try.prog.bytesOf 45 = 48 := by kernel_rfl
    rw [hb] at hw1
    simp only [List.length_map, List.length_range] at hw1
    unfold reachBytes at hw1
    refine ⟨fun j y hy => ?_, by omega⟩
    have hjl : j < len := by
      have := (List.getElem?_eq_some_iff.1 hy).1
      simpa using this
    obtain rfl : y = X j := by
      have h2 : ((List.range len).map X)[j]? = some (X j) := by simp [hjl]
      exact Option.some.inj (hy.symm.trans h2)
    exact ⟨a, rfl, hX j hjl (List.all_eq_true.2 fun z hz => List.all_eq_true.1 hw2 z (weightsAll_mem (List.mem_map.2 ⟨j, by simpa using hjl, rfl⟩) z hz))⟩
end

set_option maxRecDepth 100000 in
theorem lifted (os : Os) (started : os.Started) (H : Type) (enc : TypeId × Value → H) :
    ReturnsInHanded {} Try.checked os 4 .any (Rows.clientExpiresSpec.pre6 enc Try.prog Try.f4 Rows.clientExpiresRow.domain false) (Rows.clientExpiresSpec.post enc Try.prog Try.f4 false true false false) := by
  refine returnsInHanded_of_change_sized (C := Try.checked) own started (by kernel_rfl) Try.func4
    (ChangeSpec.witness6 (enc := enc) (C := Try.checked) false ⟨#[], #[.slice none 0 0, .slice none 0 0], []⟩ 8 (by kernel_rfl) (by kernel_rfl) (by kernel_rfl) (by kernel_rfl)) ?_
  intro W base args ds gs before hval0 hW hcnd hsz0 _
  have hval : ∀ (j : Nat) t v, Try.f4.params[j]? = some t → args[j]? = some v → Value.okWide Try.prog W .any base t v := hval0
  have hW' := hW
  obtain ⟨p, q, hA0, hV, rfl, hfz, hnd⟩ := hW
  have hA : DataW.TrodAll enc Try.prog W 0 (fun _ => true) true Try.f4.params.toList args.toList ds p := hA0
  rw [Try.params4] at hA hval
  obtain ⟨v0, vs0, d0, ds0, p0, q0, hargs, rfl, rfl, h0, r0⟩ := trodAll_cons hA
  obtain ⟨v1, vs1, d1, ds1, p1, q1, rfl, rfl, rfl, h1, r1⟩ := trodAll_cons r0
  obtain ⟨rfl, rfl, rfl⟩ := trodAll_nil r1
  obtain rfl : args = #[v0, v1] := by cases args; simp_all
  obtain ⟨rfl, rfl⟩ := trodVars_none hV
  obtain ⟨a0, len0, cap0, rfl⟩ := okWide_slice Try.underlying34 (hval 0 34 v0 rfl rfl)
  obtain ⟨a1, len1, cap1, rfl⟩ := okWide_slice Try.underlying23 (hval 1 23 v1 rfl rfl)
  have k0 := h0
  have k1 := h1
  have lt0 : ∀ x ∈ p0, x.block < W.heap.size := by obtain ⟨m, hm⟩ := k0; exact DataW.trod_lt m _ _ _ hm
  have lt1 : ∀ x ∈ p1, x.block < W.heap.size := by obtain ⟨m, hm⟩ := k1; exact DataW.trod_lt m _ _ _ hm
  obtain ⟨ys, rfl, hlc, hY, hyl⟩ : ∃ ys : List AV, ys.length = len0 ∧ len0 ≤ cap0 ∧ ActsM W a0 ys ∧ len0 ≤ 4611686018427387904 := by
    obtain ⟨fuel, hf⟩ := h0
    obtain ⟨ys, h1, h2, h3⟩ := open_acts hf
    have h4 := h3 (List.all_eq_true.2 fun z hz => List.all_eq_true.1 hsz0 z (DataW.weights_mem_each (j := 0) (t := 34) rfl rfl z hz))
    exact ⟨ys, h1, h2, h4.1, h4.2⟩
  obtain ⟨bs, rfl, hC, hbl⟩ : ∃ bs : List Int, bs.length = len1 ∧ (Kd.int .u8).C W a1 bs.length bs ∧ bs.length ≤ 140737488351232 := by
    obtain ⟨fuel, hf⟩ := h1
    obtain ⟨A2, c2, zs, e, _, h2, h3⟩ := open_bytes hf
    injection e with e1 e2 e3
    subst e1
    exact ⟨zs, e2.symm, h2, h3 (List.all_eq_true.2 fun z hz => List.all_eq_true.1 hsz0 z (DataW.weights_mem_each (j := 1) (t := 23) rfl rfl z hz))⟩
  clear hA0 hval0 hsz0
  refine (law_calls a0 cap0 ys a1 cap1 bs W hY hyl hC hbl).mono fun e W' ⟨he, bel⟩ => ?_
  subst he
  exact ⟨_, rfl, _, _, _, [], _, [], hW', trodAll_mk1 (shut_bool Try.underlying4 _), (trodAll_cons_mk (Below.trod laidOut (by kernel_rfl) (of_decide_eq_true (by kernel_rfl)) k0 bel lt0) (trodAll_cons_mk (Below.trod laidOut (by kernel_rfl) (of_decide_eq_true (by kernel_rfl)) k1 bel lt1) trodAll_mk0)), rfl, bel.frame _, fun h => by cases h⟩

theorem over : Rows.clientExpiresRow.holds Try.pinned (OpenSpec.ofChange Rows.clientExpiresSpec) :=
  OpenClaim.holds_of_wide 4 Try.f4 rfl rfl rfl rfl rfl rfl rfl ⟨rfl, rfl, rfl, rfl, rfl⟩ rfl rfl rfl rfl rfl (by kernel_rfl) Try.func4 (by kernel_rfl)
    (of_decide_eq_true (by kernel_rfl)) (by unfold Func.isWrapper; first | (rw [if_pos (by decide +kernel)]; kernel_rfl) | (rw [if_neg (by decide +kernel)]; exact ⟨rfl, rfl⟩))
    (fun os started H enc _ => lifted os started H enc)

/-- THE STATEMENT -/
theorem proved : Rows.ClientExpiresSaid := over
#print axioms proved
end Go.Proofs.Yteefnclkcnkbhaa.GClientExpires
