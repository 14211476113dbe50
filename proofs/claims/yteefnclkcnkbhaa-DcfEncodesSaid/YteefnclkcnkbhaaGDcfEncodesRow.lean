/-
  PROVED: 'tramwaylaw21.DcfEncodes' hands back true, whatever list of items it is given, and the list reads behind the call as it read before.
  CONDITIONS: none but the row's own (what the given statement says of the machine and of sizes).
-/
import Derived.Test.YteefnclkcnkbhaaGDcfEncodesPure
import Derived.Test.YteefnclkcnkbhaaRows
import Derived.WalkKit
import Derived.ProofKit
import Derived.OpenShut
import Derived.ShutString
import Derived.ChangeOld
import Derived.ChangeSame
import Derived.Below
import Derived.SizedLaws
import Derived.ChangeSlices
import Derived.Deep.Slices
import Derived.Deep.Fields
namespace Go.Proofs.Yteefnclkcnkbhaa.GDcfEncodes
open Go.ChangeShapes Go.WideShapes Go.ChangeAt Go.RowKit Go.Deep
open Go.ChangeMaps (open_string shut_string)
open Go.Proofs.YteefnclkcnkbhaaW.PrintWords Go.Proofs.YteefnclkcnkbhaaW.PrintLast Go.Proofs.YteefnclkcnkbhaaW.PrintMore
set_option linter.unusedVariables false
set_option linter.unusedSimpArgs false

theorem own : ownKnob Try.prog.godebug = none := by kernel_rfl
theorem laidOut : laidOutB Try.prog = true := by kernel_rfl
section
variable {H : Type} {enc : TypeId × Value → H} {P : Program} {w : World} {base : Nat} {spare : Nat → Bool} {held : Bool}
theorem open_slice_fields {t e : TypeId} {fs : Array Field} {fuel : Nat} {cs : List Value} {x : DataW H × List MemPlace} (ht : P.underlying t = some (.slice e)) (he : P.underlying e = some (.struct fs))
    (hone : oneCellFields P fs = true) (hC : P.cellsOf e = fs.size) (h : DataW.trod enc P w base spare held fuel t cs = some x) :
    (cs = [.slice none 0 0] ∧ x = (.nil, [])) ∨
    ∃ (a : Addr) (len cap m : Nat) (D : Nat → DataW H) (Pl : Nat → List MemPlace), cs = [.slice (some a) len cap] ∧ base ≤ a.block ∧ len ≤ cap ∧ cap ≤ maxLen ∧ m = (if spare a.block then cap else len) ∧
      x = (.slice ((List.range len).map D) ((List.range (m - len)).map fun j => D (len + j)), MemPlace.row a (m * fs.size) ++ (List.range m).flatMap Pl) ∧
      ∀ i, i < m → ∃ (ys : List (DataW H × List MemPlace)) (n : Nat), D i = .agg (ys.map (·.1)) ∧ Pl i = ys.flatMap (·.2) ∧ ys.length = fs.size ∧
        ∀ (j : Nat) (f : Field), fs[j]? = some f → ∃ (v : Value) (y : DataW H × List MemPlace), w.cell? (a.add (i * fs.size + j)) = some v ∧ ys[j]? = some y ∧ DataW.trod enc P w base spare held n f.type [v] = some y := by
  rcases open_slice ht h with h0 | ⟨a, len, cap, m, n, D, Pl, hcs, hb, hl, hm, hmm, hx, hi⟩
  · exact .inl h0
  · refine .inr ⟨a, len, cap, m, D, Pl, hcs, hb, hl, hm, hmm, by rw [hC] at hx; exact hx, fun i him => ?_⟩
    obtain ⟨cs', hc, ht'⟩ := hi i him
    rw [hC] at hc
    obtain ⟨ys, n', hn', hy, hlen, hyl, hf⟩ := DataW.trod_struct he ht'
    obtain ⟨_, hcl, hat⟩ := World.cells?_some hc
    simp only [Prod.mk.injEq] at hy
    refine ⟨ys, n', hy.1, hy.2, hyl, fun j f hj => ?_⟩
    obtain ⟨ho, hk⟩ := hone_of hone j f hj
    have hjl : j < fs.size := (Array.getElem?_eq_some_iff.1 hj).1
    have hcell := hat j hjl
    have hv : cs'[j]? = some (cs'[j]'(by omega)) := List.getElem?_eq_getElem (by omega)
    have h1 := hf j f hj
    rw [ho, hk] at h1
    have hone' : (cs'.drop j).take 1 = [cs'[j]'(by omega)] := by
      rw [List.drop_eq_getElem_cons (by omega)]
      rfl
    rw [hone'] at h1
    have hys : ys[j]? = some (ys[j]'(by omega)) := List.getElem?_eq_getElem (by omega)
    refine ⟨_, _, ?_, hys, h1.trans hys⟩
    rw [← Go.Deep.add_add, hcell, hv]
end
section
variable {H : Type} {enc : TypeId × Value → H} {w : World} {base : Nat} {spare : Nat → Bool} {held : Bool}
theorem weightsAll_mem {P : Program} {e : TypeId} : ∀ {l : List (DataW H)} {d : DataW H}, d ∈ l → ∀ n ∈ d.weights P e, n ∈ DataW.weightsAll P e l
  | x :: l, d, hd, n, hn => by
    unfold DataW.weightsAll
    rw [List.mem_append]
    rcases List.mem_cons.1 hd with rfl | hd
    · exact .inl hn
    · exact .inr (weightsAll_mem hd n hn)
theorem wf8 {b : Int} (h : (Lit.int .u8 b).wf = true) : 0 ≤ b ∧ b < 256 := by
  have h2 : (decide ((0 : Int) ≤ b) && decide (b ≤ 255)) = true := h
  simp at h2
  omega
theorem wf16 {b : Int} (h : (Lit.int .u16 b).wf = true) : 0 ≤ b ∧ b < 65536 := by
  have h2 : (decide ((0 : Int) ≤ b) && decide (b ≤ 65535)) = true := h
  simp at h2
  omega
/-- an item, opened: its cells, its numbers, its bytes; n: the weights that are no greater -/
def ItemAt (w : World) (a : Addr) (i : Nat) (d : DataW H) (x : S117) : Prop :=
  ∃ (A2 : Option Addr) (c2 : Nat), w.cell? (a.add (i * 3 + 0)) = some (.int .u16 x.f0) ∧ w.cell? (a.add (i * 3 + 1)) = some (.int .u8 x.f1) ∧ w.cell? (a.add (i * 3 + 2)) = some (.slice A2 x.f2.length c2) ∧ x.f2.length ≤ c2 ∧ (Kd.int .u8).C w A2 x.f2.length x.f2 ∧
    (0 ≤ x.f0 ∧ x.f0 < 65536) ∧ okB x.f1 ∧ (∀ b ∈ x.f2, okB b) ∧ ((d.weights Try.prog 117).all (· ≤ reachBytes) = true → x.f2.length < 140737488355328)
theorem open_bytes {fuel : Nat} {v : Value} {y : DataW H × List MemPlace} (h : DataW.trod enc Try.prog w base spare held fuel 23 [v] = some y) :
    ∃ (A2 : Option Addr) (c2 : Nat) (ys : List Int), v = .slice A2 ys.length c2 ∧ ys.length ≤ c2 ∧ (Kd.int .u8).C w A2 ys.length ys ∧ (∀ b ∈ ys, okB b) ∧ ((y.1.weights Try.prog 23).all (· ≤ reachBytes) = true → ys.length < 140737488355328) := by
  rcases open_ints Try.underlying23 Try.underlying5 (by kernel_rfl) h with ⟨hcs, _⟩ | ⟨x, l, c, zs, hcs, _, hl, hm, hz, hx, hcell, hwz⟩
  · simp only [List.cons.injEq, and_true] at hcs
    subst hcs
    exact ⟨none, 0, [], rfl, Nat.le_refl _, Kd.C_nil _ _, by simp, fun _ => by simp⟩
  · simp only [List.cons.injEq, and_true] at hcs
    subst hcs
    have hl2 : l ≤ zs.length := by
      rw [hz]
      split
      · exact hl
      · exact Nat.le_refl _
    have hlt : (zs.take l).length = l := by simp; omega
    refine ⟨some x, c, zs.take l, by rw [hlt], by omega, ?_, ?_, fun hw => ?_⟩
    · refine Kd.C_of_reads (d := 0) ⟨rfl, by rw [hlt]; unfold maxLen at hm; omega, fun _ => ⟨x, rfl, fun j hj => ?_⟩⟩
      rw [hlt] at hj
      rw [hcell j (by omega)]
      simp [List.getD_eq_getElem?_getD, hj]
    · intro b hb
      have := hwz b (List.mem_of_mem_take hb)
      exact wf8 this
    · have hx1 : y.1 = .slice (lits .u8 (zs.take l)) (lits .u8 (zs.drop l)) := by rw [hx]
      rw [hx1] at hw
      simp only [DataW.weights, Try.underlying23, List.all_cons, Bool.and_eq_true, decide_eq_true_eq] at hw
      have h1 := hw.1
      have hb : Try.prog.bytesOf 5 = 1 := by kernel_rfl
      rw [hb] at h1
      have h2 : (lits (H := H) .u8 (zs.take l)).length = l := by simp [lits]; omega
      rw [h2] at h1
      unfold reachBytes at h1
      omega
set_option maxRecDepth 100000 in
theorem open_items {fuel : Nat} {A0 : Option Addr} {len cap : Nat} {x : DataW H × List MemPlace} (h : DataW.trod enc Try.prog w base spare held fuel 22 [.slice A0 len cap] = some x) :
    ∃ (xs : List S117), xs.length = len ∧ len ≤ cap ∧ k117.C w A0 len xs ∧ ((x.1.weights Try.prog 22).all (· ≤ reachBytes) = true → (∀ y ∈ xs, okItem y) ∧ len < 4398046511104) := by
  rcases open_slice_fields Try.underlying22 Try.underlying117 (by kernel_rfl) (by kernel_rfl) h with ⟨hcs, _⟩ | ⟨a, l, c, m, D, Pl, hcs, _, hl, hm, hmm, hx, hi⟩
  · simp only [List.cons.injEq, and_true, Value.slice.injEq] at hcs
    obtain ⟨rfl, rfl, rfl⟩ := hcs
    exact ⟨[], rfl, Nat.le_refl _, Kd.C_nil _ _, fun _ => ⟨by simp, by omega⟩⟩
  · simp only [List.cons.injEq, and_true, Value.slice.injEq] at hcs
    obtain ⟨rfl, rfl, rfl⟩ := hcs
    have hlm : len ≤ m := by rw [hmm]; split <;> omega
    have hit : ∀ i, i < len → ∃ y : S117, ItemAt w a i (D i) y := by
      intro i hil
      obtain ⟨ys, n, hD, _, hyl, hf⟩ := hi i (by omega)
      obtain ⟨v0, y0, c0, hy0, t0⟩ := hf 0 _ rfl
      obtain ⟨v1, y1, c1, hy1, t1⟩ := hf 1 _ rfl
      obtain ⟨v2, y2, c2, hy2, t2⟩ := hf 2 _ rfl
      obtain ⟨n0, e0, _, w0⟩ := DataW.trod_int Try.underlying39 t0
      obtain ⟨n1, e1, _, w1⟩ := DataW.trod_int Try.underlying5 t1
      obtain ⟨A2, c2', zs, rfl, hlz, hC, hok, hwt⟩ := open_bytes t2
      simp only [List.cons.injEq, and_true] at e0 e1
      subst e0 e1
      refine ⟨⟨n0, n1, zs⟩, A2, c2', c0, c1, c2, hlz, hC, wf16 w0, wf8 w1, hok, fun hw => hwt ?_⟩
      rw [hD] at hw
      simp only [DataW.weights, Try.underlying117] at hw
      refine List.all_eq_true.2 fun z hz => List.all_eq_true.1 hw z ?_
      refine DataW.weights_mem_each (j := 2) (t := 23) rfl ?_ z hz
      rw [List.getElem?_map, hy2]
      rfl
    obtain ⟨X, hX⟩ : ∃ X : Nat → S117, ∀ i, i < len → ItemAt w a i (D i) (X i) :=
      ⟨fun i => if h : i < len then (hit i h).choose else z117, fun i h => by simp only [dif_pos h]; exact (hit i h).choose_spec⟩
    refine ⟨(List.range len).map X, by simp, hl, ⟨by simp, by unfold maxLen at hm; omega, fun _ => ⟨a, rfl, fun j p hj => ?_⟩⟩, fun hw => ?_⟩
    · have hjl : j < len := by
        have := (List.getElem?_eq_some_iff.1 hj).1
        simpa using this
      obtain rfl : p = X j := by
        have h2 : ((List.range len).map X)[j]? = some (X j) := by simp [hjl]
        exact Option.some.inj (hj.symm.trans h2)
      obtain ⟨A2, c2, h0, h1, h2, hlz, hC, _⟩ := hX j hjl
      refine ⟨_, rfl, k117_mk w (X j) hlz hC, fun i u hu => ?_⟩
      match i, hu with
      | 0, hu => cases hu; exact h0
      | 1, hu => cases hu; exact h1
      | 2, hu => cases hu; exact h2
    · rw [hx] at hw
      simp only [DataW.weights, Try.underlying22, List.all_cons, Bool.and_eq_true, decide_eq_true_eq, List.all_append] at hw
      obtain ⟨hw1, hw2, _⟩ := hw
      have hb : Try.prog.bytesOf 117 = 32 := by kernel_rfl
      rw [hb] at hw1
      simp only [List.length_map, List.length_range] at hw1
      unfold reachBytes at hw1
      refine ⟨fun y hy => ?_, by omega⟩
      obtain ⟨j, hj, rfl⟩ := List.mem_map.1 hy
      have hjl : j < len := by simpa using hj
      obtain ⟨A2, c2, _, _, _, _, _, b0, b1, b2, b3⟩ := hX j hjl
      refine ⟨b0, b1, b2, b3 (List.all_eq_true.2 fun z hz => List.all_eq_true.1 hw2 z (weightsAll_mem (List.mem_map.2 ⟨j, hj, rfl⟩) z hz))⟩
end
set_option maxRecDepth 100000 in
theorem lifted (os : Os) (started : os.Started) (H : Type) (enc : TypeId × Value → H) :
    ReturnsInHanded {} Try.checked os 3 .any (Rows.dcfEncodesSpec.pre6 enc Try.prog Try.f3 Rows.dcfEncodesRow.domain false) (Rows.dcfEncodesSpec.post enc Try.prog Try.f3 false true false false) := by
  refine returnsInHanded_of_change_sized (C := Try.checked) own started (by kernel_rfl) Try.func3
    (ChangeSpec.witness6 (enc := enc) (C := Try.checked) false ⟨#[], #[.slice none 0 0], []⟩ 8 (by kernel_rfl) (by kernel_rfl) (by kernel_rfl) (by kernel_rfl)) ?_
  intro W base args ds gs before hval0 hW hcnd hsz0 _
  have hval : ∀ (j : Nat) t v, Try.f3.params[j]? = some t → args[j]? = some v → Value.okWide Try.prog W .any base t v := hval0
  have hW' := hW
  obtain ⟨p, q, hA0, hV, rfl, hfz, hnd⟩ := hW
  have hA : DataW.TrodAll enc Try.prog W 0 (fun _ => true) true Try.f3.params.toList args.toList ds p := hA0
  rw [Try.params3] at hA hval
  obtain ⟨v0, vs0, d0, ds0, p0, q0, hargs, rfl, rfl, h0, r0⟩ := trodAll_cons hA
  obtain ⟨rfl, rfl, rfl⟩ := trodAll_nil r0
  obtain rfl : args = #[v0] := by cases args; simp_all
  obtain ⟨rfl, rfl⟩ := trodVars_none hV
  obtain ⟨a0, len0, cap0, rfl⟩ := okWide_slice Try.underlying22 (hval 0 22 v0 rfl rfl)
  have k0 := h0
  have lt0 : ∀ x ∈ p0, x.block < W.heap.size := by obtain ⟨m, hm⟩ := k0; exact DataW.trod_lt m _ _ _ hm
  obtain ⟨z0, rfl, hlc, hC, hok⟩ : ∃ xs : List S117, xs.length = len0 ∧ len0 ≤ cap0 ∧ k117.C W a0 len0 xs ∧ ((∀ y ∈ xs, okItem y) ∧ len0 < 4398046511104) := by
    obtain ⟨fuel, hf⟩ := h0
    obtain ⟨xs, h1, h2, h3, h4⟩ := open_items hf
    exact ⟨xs, h1, h2, h3, h4 (List.all_eq_true.2 fun z hz => List.all_eq_true.1 hsz0 z (DataW.weights_mem_each (j := 0) (t := 22) rfl rfl z hz))⟩
  clear hA0 hval0 hsz0
  obtain ⟨k, hk⟩ := law_ev z0 hok.1 hok.2
  refine (tramwaylaw21_DcfEncodes.calls k a0 cap0 z0 true W hC hlc hk).mono fun e W' ⟨he, bel⟩ => ?_
  subst he
  exact ⟨_, rfl, _, _, _, [], _, [], hW', trodAll_mk1 (shut_bool Try.underlying4 _), (trodAll_cons_mk (Below.trod laidOut (by kernel_rfl) (of_decide_eq_true (by kernel_rfl)) k0 bel lt0) trodAll_mk0), rfl, bel.frame _, fun h => by cases h⟩

theorem over : Rows.dcfEncodesRow.holds Try.pinned (OpenSpec.ofChange Rows.dcfEncodesSpec) :=
  OpenClaim.holds_of_wide 3 Try.f3 rfl rfl rfl rfl rfl rfl rfl ⟨rfl, rfl, rfl, rfl, rfl⟩ rfl rfl rfl rfl rfl (by kernel_rfl) Try.func3 (by kernel_rfl)
    (of_decide_eq_true (by kernel_rfl)) (by unfold Func.isWrapper; first | (rw [if_pos (by decide +kernel)]; kernel_rfl) | (rw [if_neg (by decide +kernel)]; exact ⟨rfl, rfl⟩))
    (fun os started H enc _ => lifted os started H enc)

/-- THE STATEMENT -/
theorem proved : Rows.DcfEncodesSaid := over
#print axioms proved
end Go.Proofs.Yteefnclkcnkbhaa.GDcfEncodes
