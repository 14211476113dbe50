/-
  A HELPER OF THE PROOF: the wheel (text B).
-/
import Derived.Test.YteefnclkcnkbhaaProg
import Derived.Below
import Derived.Deep.Draws
import Derived.Deep.AppendLies
import Derived.Maps.AppendAt
import Derived.OwnWalk
import Derived.Laws.BytesArg
import Derived.Laws.MakeOwn
import Derived.Laws.OwnMore
import Derived.Deep.OwnRows
import Derived.Tactics
import Derived.Lib.ConvBytes
import Derived.Laws.Slices
import Derived.WalkKit
import Derived.KernelRfl
import Derived.RowKit3
import Derived.Deep.LoopGhost
import Derived.Deep.QuietTactic
import Derived.BigQuiet
import Derived.WideLaws
import Derived.Deep.DeepCutAuto
import Derived.Deep.CutBlock
import Derived.Deep.RegionHeld3
import Derived.Laws.Rows
import Derived.Lib.AppendStr
import Derived.ArgAppend
import Derived.Laws.IdiomCopy
import Derived.OrdersHeld
import Derived.Laws.BitsLemmas
import Derived.RowKit
import Derived.Test.YteefnclkcnkbhaaWWords
import Derived.Test.YteefnclkcnkbhaaWLast
import Derived.Test.YteefnclkcnkbhaaWTab
import Derived.Test.YteefnclkcnkbhaaWFour
import Derived.Test.YteefnclkcnkbhaaWQPut
import Derived.Test.YteefnclkcnkbhaaWApart
import Derived.Test.YteefnclkcnkbhaaWArr
import Derived.Test.YteefnclkcnkbhaaWZeros
import Derived.Test.YteefnclkcnkbhaaWFoot
import Derived.Test.YteefnclkcnkbhaaWKept
import Derived.Test.YteefnclkcnkbhaaWShare
import Derived.Test.YteefnclkcnkbhaaWN
import Derived.Test.YteefnclkcnkbhaaWFootNe
import Derived.Test.YteefnclkcnkbhaaWAt
import Derived.Test.YteefnclkcnkbhaaWEqStruct
import Derived.Test.YteefnclkcnkbhaaWRepsOne
import Derived.Test.YteefnclkcnkbhaaWInv
import Derived.Test.YteefnclkcnkbhaaWInvWords
import Derived.Test.YteefnclkcnkbhaaWGuard
import Derived.Test.YteefnclkcnkbhaaWNEv
import Derived.Test.YteefnclkcnkbhaaWMore
import Derived.Deep.RegionLaw
import Derived.Laws.BitsAllLaws
import Derived.Deep.RegionWith
import Derived.StillTailTactics
import Derived.BigRegion
import Derived.Maps.OwnSet
import Derived.Maps.OwnOps
import Derived.Maps.RangeWalk
import Derived.Maps.Ext
import Derived.WideKeyEntry
import Derived.Test.YteefnclkcnkbhaaWhA
namespace Go.Proofs.Yteefnclkcnkbhaa.Wh
open Go.RowKit Go.Proofs.YteefnclkcnkbhaaW.PrintWords Go.Proofs.YteefnclkcnkbhaaW.PrintLast Go.Proofs.YteefnclkcnkbhaaW.PrintMore
attribute [local go_sem] max2_int min2_int max_two min_two max_three min_three max_four min_four   -- for this text's walks alone
set_option linter.unusedVariables false
set_option linter.unusedSimpArgs false



def Fin (F : Int → Option Tm) (m : Nat) : Prop := ∃ ks : List Int, ks.Nodup ∧ ks.length ≤ m ∧ ∀ x, (F x).isSome = true → x ∈ ks
theorem size_le {R : Value → Option (DU × List MemPlace)} {W : World} {b n m : Nat} {D : DU} (h : W.ownsMap Try.prog 3 R b n D) {f : Int → Option DU} (hf : MapIs D f) {F : Int → Option Tm} (hF : Fin F m) (hfF : ∀ x, (f x).isSome = true → (F x).isSome = true) : Go.Maps.size D ≤ m := by
  obtain ⟨ks, h1, h2, h3⟩ := hF
  rw [size_of h hf (ks := ks.filter fun x => (f x).isSome) (List.Pairwise.filter _ h1) (fun x => by
    rw [List.mem_filter]
    exact ⟨fun hx => ⟨h3 x (hfF x hx), hx⟩, fun hx => hx.2⟩)]
  exact Nat.le_trans (List.length_filter_le _ _) h2
theorem where_some {K : Nat} {F : Int → Option Tm} (x : Int) (h : (whereF K F x).isSome = true) : (F x).isSome = true := by
  unfold whereF at h
  simpa using h
theorem slot_some {K i : Nat} {F : Int → Option Tm} (x : Int) (h : (slotF K i F x).isSome = true) : (F x).isSome = true := by
  unfold slotF at h
  cases hF : F x with
  | none => rw [hF] at h; simp at h
  | some t => rfl
def upd (F : Int → Option Tm) (n : Int) (t : Option Tm) : Int → Option Tm := fun x => if x = n then t else F x
theorem setBlock_other {W : World} {b k : Nat} (o : Obj) (h : k ≠ b) : (ChangeMaps.setBlock W b o).heap[k]? = W.heap[k]? := by
  show (W.heap.setIfInBounds b o)[k]? = _
  rw [Array.getElem?_setIfInBounds, if_neg (Ne.symm h)]
theorem setBlock_size (W : World) (b : Nat) (o : Obj) : (ChangeMaps.setBlock W b o).heap.size = W.heap.size := by
  show (W.heap.setIfInBounds b o).size = _
  simp
theorem Only.setBlock {A : Nat → Prop} {w W : World} (h : Only A w W) {b : Nat} (hb : A b) (o : Obj) : Only A w (ChangeMaps.setBlock W b o) :=
  ⟨h.os, h.tape, h.output, by rw [setBlock_size]; exact h.size, fun k hk hn => (setBlock_other o (fun e => hn (by rw [e]; exact hb))).trans (h.block k hk hn)⟩
theorem findIdx_push (es : Array MapEntry) (e : MapEntry) (p : MapEntry → Bool) (h : ∀ x ∈ es.toList, p x = false) (he : p e = true) : (es.push e).findIdx? p = some es.size := by
  rw [Array.findIdx?_push]
  have : es.findIdx? p = none := by
    rw [Array.findIdx?_eq_none_iff]
    intro x hx
    simpa using h x (by simpa using hx)
  simp [this, he]
theorem modify_pushed (es : Array MapEntry) (e : MapEntry) (f : MapEntry → MapEntry) : (es.push e).modify es.size f = es.push (f e) := by
  apply Array.ext
  · simp
  · intro i h1 h2
    simp only [Array.size_modify, Array.size_push] at h1
    rw [Array.getElem_modify]
    by_cases hi : es.size = i
    · subst hi; simp
    · rw [if_neg hi, Array.getElem_push_lt (by omega), Array.getElem_push_lt (by omega)]
/-- no entry bears a key that the map has not -/
theorem absent {R : Value → Option (DU × List MemPlace)} {es : Array MapEntry} {clock : Nat} (F : WideElems.Fit Try.prog 3 R es clock) {k : Int} (hk : (Lit.int .i64 k).wf = true)
    (hh : Go.Maps.has (.map ((es.toList.map (WideElems.rg Try.prog 3 R)).foldr DataW.insert [])) (kl k) = false) : ∀ x ∈ es.toList, x.key ≠ .int .i64 k := by
  intro x hx e
  obtain ⟨y, hy⟩ := F.reads x hx
  have h1 := WideElems.rd_key hy
  rw [e, key3 hk] at h1
  injection h1 with h1
  have h2 : WideElems.rg Try.prog 3 R x ∈ (es.toList.map (WideElems.rg Try.prog 3 R)).foldr DataW.insert [] := Go.mem_sorted.2 (List.mem_map.2 ⟨x, hx, rfl⟩)
  rw [WideElems.rg_of hy] at h2
  rw [Go.Maps.has_eq] at hh
  have h3 := List.any_eq_false.1 hh _ h2
  rw [← h1] at h3
  simp [kl, Lit.sameKey] at h3
theorem store_run {W1 : World} {b : Nat} {es : Array MapEntry} {clock st i : Nat} {t : TypeId} {val : Value} (hw1 : W1.heap[b]? = some (.map es clock)) (hidx : es.findIdx? (fun e => ((e.born : Nat) : Int) == ((st : Nat) : Int)) = some i) :
    (Instr.entryStore t (.map (some b)) (.int .i64 st) val).run Try.prog W1 = .ok () (ChangeMaps.setBlock W1 b (.map (es.modify i fun e => { e with val := val }) clock)) := by
  simp [Instr.entryStore, MapKept.run_getObj_map hw1, asInt, asIntOf, hidx, MapKept.run_setObj_map _ hw1, Result.andThen, ChangeMaps.setBlock]
/-- 'm[k], .. = v, ..' where m has no k: the entry is asked for, then stored into -/
theorem entry_store {R : Value → Option (DU × List MemPlace)} {t e : TypeId} {W : World} {b n : Nat} {D : DU} (h : W.ownsMap Try.prog 3 R b n D) (ht : Try.prog.underlying t = some (.map 3 e)) {z : Value} (hz : ∀ u : World, (zeroValue e).run Try.prog u = .ok z u) (hn : Go.Maps.size D < maxLen)
    {k : Int} (hk : (Lit.int .i64 k).wf = true) (hh : Go.Maps.has D (kl k) = false) {val : Value} {d : DU} (hv : R val = some (d, [])) :
    ∃ (v0 : Value) (st : Nat) (W1 W2 : World), (Instr.mapEntry t (.map (some b)) (.int .i64 k)).run Try.prog W = .ok (.tuple #[v0, .int .i64 st]) W1 ∧ (Instr.entryStore t (.map (some b)) (.int .i64 st) val).run Try.prog W1 = .ok () W2 ∧
      W2.ownsMap Try.prog 3 R b (Go.Maps.size D + 1) (D.put (kl k) d) ∧ Only (· = b) W W1 ∧ Only (· = b) W W2 := by
  obtain ⟨w', hrun, hown', _⟩ := (own_tight h).update K3 ht hn (key3 hk) hv
  obtain ⟨es, clock, hb, F, hs, rfl⟩ := h
  have habs := absent F hk hh
  obtain ⟨s1, s2, _⟩ := F.stamped
  have hfind : (Instr.findKey 3 (.int .i64 k) es.toList).run Try.prog W = .ok none W := by
    rcases K3.find W (key3 hk) es.toList (fun e he => by obtain ⟨y, hy⟩ := F.reads e he; exact ⟨_, WideElems.rd_key hy⟩) with ⟨h1, _⟩ | ⟨j, e0, _, h2, h3⟩
    · exact h1
    · exact absurd h3 (habs e0 (List.mem_of_getElem? h2))
  have hw1 : (ChangeMaps.setBlock W b (.map (es.push ⟨.int .i64 k, z, clock⟩) (clock + 1))).heap[b]? = some (.map (es.push ⟨.int .i64 k, z, clock⟩) (clock + 1)) := ChangeMaps.heap_setBlock_same hb _
  have hlt : b < W.heap.size := (Array.getElem?_eq_some_iff.1 hb).1
  have hidx : (es.push ⟨.int .i64 k, z, clock⟩).findIdx? (fun e => ((e.born : Nat) : Int) == ((clock : Nat) : Int)) = some es.size :=
    findIdx_push _ _ _ (fun x hx => by
      have := s1 x hx
      rw [beq_eq_false_iff_ne]
      omega) (by simp)
  refine ⟨z, clock, ChangeMaps.setBlock W b (.map (es.push ⟨.int .i64 k, z, clock⟩) (clock + 1)), ChangeMaps.setBlock (ChangeMaps.setBlock W b (.map (es.push ⟨.int .i64 k, z, clock⟩) (clock + 1))) b (.map (es.push ⟨.int .i64 k, val, clock⟩) (clock + 1)), ?_, ?_, ?_, ((Only.refl (· = b) W).setBlock rfl _), (((Only.refl (· = b) W).setBlock rfl _).setBlock rfl _)⟩
  · simp [Instr.mapEntry, run_underlying ht, MapKept.run_getObj_map hb, K3.check W false (key3 hk), hfind, hz, MapKept.run_setObj_map _ hb, Result.andThen, ChangeMaps.setBlock, goInt]
  · rw [store_run hw1 hidx, modify_pushed]
  · have hrun2 : (Instr.mapUpdate t (.map (some b)) (.int .i64 k) val).run Try.prog W = .ok () (ChangeMaps.setBlock W b (.map (es.push ⟨.int .i64 k, val, clock⟩) (clock + 1))) := by
      simp [Instr.mapUpdate, run_underlying ht, MapKept.run_getObj_map hb, K3.check W false (key3 hk), hfind, MapKept.run_setObj_map _ hb, Result.andThen, ChangeMaps.setBlock]
    rw [hrun2] at hrun
    injection hrun with _ hrun
    subst hrun
    refine own_move hown' ?_
    rw [ChangeMaps.heap_setBlock_same hw1, ChangeMaps.heap_setBlock_same hb]
theorem zero143 (u : World) : (zeroValue 143).run Try.prog u = .ok (timV ⟨0, 0, 0⟩) u := by kernel_rfl
theorem zero3 (u : World) : (zeroValue 3).run Try.prog u = .ok (.int .i64 0) u := by kernel_rfl
theorem Rep.gcell {b : Bl} {W : World} {now last : Int} {F : Int → Option Tm} (h : Rep b W now last F) : W.cell? ⟨b.g, 0, none⟩ = some (.slice (some ⟨b.sb, 0, none⟩) b.K b.cap) ∧ W.cell? ⟨b.g, 1, none⟩ = some (.map (some b.wb)) ∧ W.cell? ⟨b.g, 2, none⟩ = some (.int .u64 now) ∧ W.cell? ⟨b.g, 3, none⟩ = some (.int .i64 last) :=
  ⟨(blk_cell h.cells 0).trans rfl, (blk_cell h.cells 1).trans rfl, (blk_cell h.cells 2).trans rfl, (blk_cell h.cells 3).trans rfl⟩
theorem Rep.scell {b : Bl} {W : World} {now last : Int} {F : Int → Option Tm} (h : Rep b W now last F) {i : Nat} (hi : i < b.K) : W.cell? ⟨b.sb, i, none⟩ = some (.map (some (b.mb i))) := by
  obtain ⟨cs, h1, h2⟩ := h.slots
  exact (blk_cell h1 i).trans (h2 i hi)
theorem Rep.glt {b : Bl} {W : World} {now last : Int} {F : Int → Option Tm} (h : Rep b W now last F) : b.g < W.heap.size := blk_lt h.cells
def okTm (t : Tm) : Prop := 0 ≤ t.due ∧ t.due < 9223372036854775808 ∧ 0 ≤ t.period ∧ t.period < 9223372036854775808 ∧ (Lit.int .i64 t.what).wf = true
theorem exStop {P : World → Prop} {K : Act → World → Prop} {Q : Exit → Act → World → Prop} {e : Exit} {a : Act} {W : World} (h : P W) (k : ∀ W, P W → Exit.then K Q e a W) : Exit.then K Q e a W := k W h
theorem slot_nat {b : Bl} {t : Tm} (h : 1 ≤ b.K) (h0 : 0 ≤ t.due) : ∃ s : Nat, s < b.K ∧ slotOf b.K t = (s : Int) := by
  unfold slotOf
  have h1 : 0 ≤ t.due % (b.K : Int) := Int.emod_nonneg _ (by omega)
  have h2 : t.due % (b.K : Int) < (b.K : Int) := Int.emod_lt_of_pos _ (by omega)
  exact ⟨(t.due % (b.K : Int)).toNat, by omega, by omega⟩
theorem wrap_slot {b : Bl} {t : Tm} {s : Nat} (hs : slotOf b.K t = (s : Int)) (hk : s < b.K) (h2 : b.K ≤ 4096) : wrap64 (t.due % (b.K : Int)) = (s : Int) := by
  have : t.due % (b.K : Int) = (s : Int) := hs
  rw [this]
  unfold wrap64
  omega
theorem slot_absent {K i : Nat} {F : Int → Option Tm} {M : DU} {n : Int} (h : MapIs M (slotF K i F)) (hno : F n = none) : Go.Maps.has M (kl n) = false := by
  rw [(h n).1]
  simp [slotF, hno]
theorem where_absent {K : Nat} {F : Int → Option Tm} {M : DU} {n : Int} (h : MapIs M (whereF K F)) (hno : F n = none) : Go.Maps.has M (kl n) = false := by
  rw [(h n).1]
  simp [whereF, hno]
theorem own_ismap {R : Value → Option (DU × List MemPlace)} {W : World} {b n : Nat} {D : DU} (h : W.ownsMap Try.prog 3 R b n D) : Go.Maps.IsMap D := by
  obtain ⟨_, _, _, _, _, rfl⟩ := h
  exact ⟨_, rfl⟩
theorem WFS {s K : Nat} (h : s < K) (h2 : K ≤ 4096) : (Lit.int .i64 (s : Int)).wf = true := WalkArith.wf_i64 (by omega)
theorem okmax : (4096 : Nat) < maxLen := by unfold maxLen; omega
/-- the wheel behind both stores of a new timer -/
theorem rep_put {b : Bl} {X W4 : World} {now last : Int} {F : Int → Option Tm} {n : Int} {t : Tm} {s : Nat} (h : Rep b X now last F) (hs : slotOf b.K t = (s : Int)) (hk : s < b.K) (hno : F n = none)
    {n1 n2 : Nat} {M1 M2 : DU} (hm1 : MapIs M1 (slotF b.K s F)) (hi1 : Go.Maps.IsMap M1) (hm2 : MapIs M2 (whereF b.K F)) (hi2 : Go.Maps.IsMap M2) (o : Only (fun k => k = b.mb s ∨ k = b.wb) X W4)
    (h1 : W4.ownsMap Try.prog 3 timR (b.mb s) n1 (M1.put (kl n) (timD t))) (h2 : W4.ownsMap Try.prog 3 (plainElem Try.prog 3) b.wb n2 (M2.put (kl n) (.lit (.int .i64 (s : Int))))) : Rep b W4 now last (upd F n (some t)) := by
  have hap := h.apart
  have blk : ∀ k, b.In k → k ≠ b.mb s → k ≠ b.wb → W4.heap[k]? = X.heap[k]? := fun k hin e1 e2 => o.block k (Nat.lt_of_lt_of_le hin.2 h.size) (fun e => e.elim e1 e2)
  refine ⟨hap, Nat.le_trans h.size o.size, (blk b.g hap.gi (Ne.symm (hap.mg s hk)) hap.gw).trans h.cells, ?_, ⟨_, _, h2, ?_⟩, fun i hi => ?_⟩
  · obtain ⟨cs, c1, c2⟩ := h.slots
    exact ⟨cs, (blk b.sb hap.si (Ne.symm (hap.ms s hk)) hap.sw).trans c1, c2⟩
  · refine (hm2.put hi2 (kl_isKey n) _).congr fun x => ?_
    by_cases hx : x = n
    · subst hx; simp [whereF, upd, hs]
    · simp [whereF, upd, hx]
  · by_cases his : i = s
    · subst his
      refine ⟨_, _, h1, (hm1.put hi1 (kl_isKey n) _).congr fun x => ?_⟩
      by_cases hx : x = n
      · subst hx; simp [slotF, upd, hs]
      · simp [slotF, upd, hx]
    · obtain ⟨n3, M3, e1, e2⟩ := h.maps i hi
      refine ⟨n3, M3, own_move e1 (blk (b.mb i) (hap.mi i hi) (hap.mm i s hi hk his) (hap.mw i hi)), e2.congr fun x => ?_⟩
      by_cases hx : x = n
      · subst hx
        have hne : (s : Int) ≠ (i : Int) := by omega
        simp [slotF, upd, hno, hs, hne]
      · simp [slotF, upd, hx]
theorem put_cells {b : Bl} {X W' : World} {now last : Int} {F : Int → Option Tm} {s B : Nat} {t : Tm} (h : Rep b X now last F) (hk : s < b.K) (hB : X.heap[B]? = some (.cells #[.int .u64 t.due, .int .u64 t.period, .int .i64 t.what] 143 (0, 0))) (hBi : b.hi ≤ B) (o : Only (fun k => k = b.mb s ∨ k = b.wb) X W') :
    W'.cell? ⟨b.g, 0, none⟩ = some (.slice (some ⟨b.sb, 0, none⟩) b.K b.cap) ∧ W'.cell? ⟨b.g, 1, none⟩ = some (.map (some b.wb)) ∧ W'.cell? ⟨b.sb, s, none⟩ = some (.map (some (b.mb s))) ∧ W'.cell? ⟨B, 0, none⟩ = some (.int .u64 t.due) ∧ W'.cell? ⟨B, 1, none⟩ = some (.int .u64 t.period) ∧ W'.cell? ⟨B, 2, none⟩ = some (.int .i64 t.what) := by
  have hap := h.apart
  have blk : ∀ k, k < X.heap.size → k ≠ b.mb s → k ≠ b.wb → W'.heap[k]? = X.heap[k]? := fun k hin e1 e2 => o.block k hin (fun e => e.elim e1 e2)
  have hm := hap.mi s hk
  have hw := hap.wi
  have c0 := (blk b.g (Nat.lt_of_lt_of_le hap.gi.2 h.size) (Ne.symm (hap.mg s hk)) hap.gw).trans h.cells
  have c1 := (blk B (blk_lt hB) (by omega) (by omega)).trans hB
  obtain ⟨cs, d1, d2⟩ := h.slots
  have c2 := (blk b.sb (Nat.lt_of_lt_of_le hap.si.2 h.size) (Ne.symm (hap.ms s hk)) hap.sw).trans d1
  exact ⟨(blk_cell c0 0).trans rfl, (blk_cell c0 1).trans rfl, (blk_cell c2 s).trans (d2 s hk), (blk_cell c1 0).trans rfl, (blk_cell c1 1).trans rfl, (blk_cell c1 2).trans rfl⟩
set_option maxHeartbeats 2000000 in
set_option maxRecDepth 100000 in
theorem put_calls (b : Bl) (W : World) (now last : Int) (F : Int → Option Tm) (n : Int) (t : Tm) (h : Rep b W now last F) (hn : (Lit.int .i64 n).wf = true) (ht : okTm t) (hF : Fin F 4096) (hno : F n = none) :
    Calls Try.prog 128 #[.pointer (some ⟨b.g, 0, none⟩), .int .i64 n, timV t] W fun e w' => e = .returned (.tuple #[]) ∧ Rep b w' now last (upd F n (some t)) ∧ Only b.In W w' := by
  obtain ⟨g0, g1, g2, g3⟩ := h.gcell
  have hg := h.glt
  have k1 := h.apart.k1
  have k2 := h.apart.k2
  have HR := Aside0.mk h
  have HNO := Aside0.mk hno
  have HT := Aside0.mk ht
  have HN := Aside0.mk hn
  have HF := Aside0.mk hF
  have HSZ := Aside0.mk h.size
  obtain ⟨t1, t2, t3, t4, t5⟩ := ht
  obtain ⟨s, hsk, hs⟩ := slot_nat k1 t1
  have HS := Aside0.mk hs
  clear h hno g1 g2 g3 hs hn hF
  unfold timV
  go_enter Try.func128, Try.ntmps128
  go_wp2_with fail
  go_quiet (fail)
  rw [wrap_slot HS.out hsk k2]
  refine exStop (P := fun X => Rep b X now last F ∧ Only b.In W X ∧ X.heap[W.heap.size]? = some (.cells #[.int .u64 t.due, .int .u64 t.period, .int .i64 t.what] 143 (0, 0))) ⟨(HR.out.below (below_alloc (Below.refl _ _) _)).only (Only.drewN (Only.refl (fun _ => False) _) _) (fun _ _ e => e), ((Only.refl _ _).alloc _).drewN _, blk_drewN (blk_new _ _) _⟩ ?_
  rintro X ⟨hX, hO, hB⟩
  clear HR g0 hg
  have hap := hX.apart
  obtain ⟨n1, M1, hown1, hm1⟩ := hX.maps s hsk
  obtain ⟨n2, M2, hown2, hm2⟩ := hX.wher
  obtain ⟨v1, st1, W1, W2, e1, e2, ho1, o1, o2⟩ := entry_store (hown1.drew) Try.underlying137 zero143 (Nat.lt_of_le_of_lt (size_le hown1 hm1 HF.out slot_some) okmax) HN.out (slot_absent hm1 HNO.out) (timR_mk t)
  have hw2 : W2.heap[b.wb]? = X.heap[b.wb]? := o2.block b.wb hown2.lt (Ne.symm (hap.mw s hsk))
  obtain ⟨v3, st3, W3, W4, e3, e4, ho2, o3, o4⟩ := entry_store (own_move hown2 hw2) Try.underlying133 zero3 (Nat.lt_of_le_of_lt (size_le hown2 hm2 HF.out where_some) okmax) HN.out (where_absent hm2 HNO.out) (plainElem_int (a := (s : Int)) Try.underlying3 (WFS hsk k2))
  have hsz := hX.size
  have hBi : b.hi ≤ W.heap.size := HSZ.out
  have S0 := put_cells hX hsk hB hBi (Only.refl _ X)
  have O1 : Only (fun k => k = b.mb s ∨ k = b.wb) X W1 := ((Only.refl _ X).drew).trans (o1.mono fun k e => .inl e)
  have O2 : Only (fun k => k = b.mb s ∨ k = b.wb) X W2 := ((Only.refl _ X).drew).trans (o2.mono fun k e => .inl e)
  have O3 := O2.trans (o3.mono fun k e => .inr e)
  have O4 := O2.trans (o4.mono fun k e => .inr e)
  have S1 := put_cells hX hsk hB hBi O1
  have S2 := put_cells hX hsk hB hBi O2
  have S3 := put_cells hX hsk hB hBi O3
  have S4 := put_cells hX hsk hB hBi O4
  have HEND : Aside0 (Rep b W4 now last (upd F n (some t)) ∧ Only b.In W W4) := ⟨rep_put hX HS.out hsk HNO.out hm1 (own_ismap hown1) hm2 (own_ismap hown2) O4 (own_move ho1 (o4.block _ ho1.lt (hap.mw s hsk))) ho2, hO.trans (O4.mono fun k e => by rcases e with rfl | rfl; exact hap.mi s hsk; exact hap.wi)⟩
  have H1 := Aside0.mk S1
  have H2 := Aside0.mk S2
  have H3 := Aside0.mk S3
  have H4 := Aside0.mk S4
  have hsn : (0 : Int) ≤ (s : Int) := Int.natCast_nonneg _
  have hsk2 : (s : Int) < (b.K : Int) := by omega
  unfold timV at e2
  obtain ⟨g0, g1, sc, b0, b1, b2⟩ := S0
  clear S1 S2 S3 S4 O1 O2 O3 O4 hX hO hB hown1 hown2 hm1 hm2 ho1 ho2 o1 o2 o3 o4 hw2 hap
  go_wp2_with fail
  go_region_held3 (fun W' => W'.cell? ⟨b.g, 0, none⟩ = some (.slice (some ⟨b.sb, 0, none⟩) b.K b.cap) ∧ W'.cell? ⟨b.g, 1, none⟩ = some (.map (some b.wb)) ∧ W'.cell? ⟨b.sb, s, none⟩ = some (.map (some (b.mb s))) ∧ W'.cell? ⟨W.heap.size, 0, none⟩ = some (.int .u64 t.due) ∧ W'.cell? ⟨W.heap.size, 1, none⟩ = some (.int .u64 t.period) ∧ W'.cell? ⟨W.heap.size, 2, none⟩ = some (.int .i64 t.what)) (first | (with_reducible exact H1.out) | (with_reducible exact H2.out) | (with_reducible exact H3.out) | (with_reducible exact H4.out) | go_keep) (fail)
  go_wp2_with fail
  go_end0
  exact ⟨rfl, HEND.out⟩
section
variable {b : Bl} {W : World} {now last : Int} {F : Int → Option Tm} {n : Int}
/-- 'm[n]' in the map of places -/
theorem where_look (h : Rep b W now last F) (hn : (Lit.int .i64 n).wf = true) : (Instr.lookup 133 (.map (some b.wb)) (.int .i64 n) true).run Try.prog W = .ok (match F n with | some t => .tuple #[.int .i64 (slotOf b.K t), .bool true] | none => .tuple #[.int .i64 0, .bool false]) W := by
  obtain ⟨m, M, ⟨es, clock, hb, Ft, _, rfl⟩, hm⟩ := h.wher
  obtain ⟨h1, h2⟩ := hm n
  rcases Go.Maps.fit_look true K3 Try.underlying133 (zero3 W) hb Ft (key3 hn) with ⟨hrun, _, hat⟩ | ⟨e0, y, _, _, hrun, hR, hat, _⟩
  · cases hF : F n with
    | none => simpa using hrun
    | some t =>
      have e1 := hat .nil
      have e2 := h2 .nil
      rw [show kl n = Lit.int .i64 n from rfl] at e2
      rw [show kl n = Lit.int .i64 n from rfl] at e1
      rw [e1] at e2
      simp [whereF, hF] at e2
  · cases hF : F n with
    | none =>
      obtain ⟨c, hc, hy, _⟩ := plainElem_int_inv Try.underlying3 hR
      have e1 := hat .nil
      have e2 := h2 .nil
      rw [e1, hy] at e2
      simp [whereF, hF] at e2
    | some t =>
      obtain ⟨c, hc, hy, _⟩ := plainElem_int_inv Try.underlying3 hR
      have e1 := hat .nil
      have e2 := h2 .nil
      rw [e1, hy] at e2
      simp [whereF, hF] at e2
      rw [hrun, hc, e2]
      rfl
/-- 'm[n]' in a slot -/
theorem slot_look (h : Rep b W now last F) (hn : (Lit.int .i64 n).wf = true) {i : Nat} (hi : i < b.K) : (Instr.lookup 137 (.map (some (b.mb i))) (.int .i64 n) false).run Try.prog W = .ok (match (F n).bind (fun t => if slotOf b.K t = (i : Int) then some t else none) with | some t => timV t | none => timV ⟨0, 0, 0⟩) W := by
  obtain ⟨m, M, ⟨es, clock, hb, Ft, _, rfl⟩, hm⟩ := h.maps i hi
  obtain ⟨h1, h2⟩ := hm n
  have hsl : slotF b.K i F n = ((F n).bind (fun t => if slotOf b.K t = (i : Int) then some t else none)).map timD := by
    unfold slotF
    cases F n with
    | none => rfl
    | some t => simp only [Option.bind_some]; split <;> rfl
  rw [hsl] at h2
  cases hG : (F n).bind (fun t => if slotOf b.K t = (i : Int) then some t else none) with
  | none =>
    rw [hG] at h2
    rcases Go.Maps.fit_look false K3 Try.underlying137 (zero143 W) hb Ft (key3 hn) with ⟨hrun, _, hat⟩ | ⟨e0, y, _, _, hrun, hR, hat, _⟩
    · simpa using hrun
    · obtain ⟨t, hv, rfl⟩ := timR_inv hR
      have e1 := hat .nil
      have e2 := h2 .nil
      rw [e1] at e2
      simp [timD] at e2
  | some t =>
    rw [hG] at h2
    rcases Go.Maps.fit_look false K3 Try.underlying137 (zero143 W) hb Ft (key3 hn) with ⟨hrun, _, hat⟩ | ⟨e0, y, _, _, hrun, hR, hat, _⟩
    · have e1 := hat .nil
      have e2 := h2 .nil
      rw [e1] at e2
      simp [timD] at e2
    · obtain ⟨u, hv, rfl⟩ := timR_inv hR
      have e1 := hat .nil
      have e2 := h2 .nil
      rw [e1] at e2
      have : u = t := timD_inj (by simpa using e2)
      subst this
      rw [hv] at hrun
      simpa using hrun
end
theorem only_turned {W w' : World} {b : Nat} (h : W.mapTurned w' b) : Only (· = b) W w' := by
  obtain ⟨es, clock, es', clock', _, rfl⟩ := h
  exact (Only.refl (· = b) W).setBlock rfl _
theorem upd_none {F : Int → Option Tm} {n : Int} (h : F n = none) (x : Int) : F x = upd F n none x := by
  unfold upd
  by_cases hx : x = n
  · subst hx; rw [if_pos rfl, h]
  · rw [if_neg hx]
theorem Rep.congr {b : Bl} {W : World} {now last : Int} {F G : Int → Option Tm} (h : Rep b W now last F) (e : ∀ x, F x = G x) : Rep b W now last G := by
  have : F = G := funext e
  rw [← this]
  exact h
/-- the wheel behind both deletes -/
theorem rep_del {b : Bl} {X W4 : World} {now last : Int} {F : Int → Option Tm} {n : Int} {t : Tm} {s : Nat} (h : Rep b X now last F) (hs : slotOf b.K t = (s : Int)) (hk : s < b.K) (hF : F n = some t)
    {n1 n2 : Nat} {M1 M2 : DU} (hm1 : MapIs M1 (slotF b.K s F)) (hm2 : MapIs M2 (whereF b.K F)) (o : Only (fun k => k = b.mb s ∨ k = b.wb) X W4)
    (h1 : W4.ownsMap Try.prog 3 timR (b.mb s) n1 (M1.del (kl n))) (h2 : W4.ownsMap Try.prog 3 (plainElem Try.prog 3) b.wb n2 (M2.del (kl n))) : Rep b W4 now last (upd F n none) := by
  have hap := h.apart
  have blk : ∀ k, b.In k → k ≠ b.mb s → k ≠ b.wb → W4.heap[k]? = X.heap[k]? := fun k hin e1 e2 => o.block k (Nat.lt_of_lt_of_le hin.2 h.size) (fun e => e.elim e1 e2)
  refine ⟨hap, Nat.le_trans h.size o.size, (blk b.g hap.gi (Ne.symm (hap.mg s hk)) hap.gw).trans h.cells, ?_, ⟨_, _, h2, ?_⟩, fun i hi => ?_⟩
  · obtain ⟨cs, c1, c2⟩ := h.slots
    exact ⟨cs, (blk b.sb hap.si (Ne.symm (hap.ms s hk)) hap.sw).trans c1, c2⟩
  · refine (hm2.del n).congr fun x => ?_
    by_cases hx : x = n
    · subst hx; simp [whereF, upd]
    · simp [whereF, upd, hx]
  · by_cases his : i = s
    · subst his
      refine ⟨_, _, h1, (hm1.del n).congr fun x => ?_⟩
      by_cases hx : x = n
      · subst hx; simp [slotF, upd]
      · simp [slotF, upd, hx]
    · obtain ⟨n3, M3, e1, e2⟩ := h.maps i hi
      refine ⟨n3, M3, own_move e1 (blk (b.mb i) (hap.mi i hi) (hap.mm i s hi hk his) (hap.mw i hi)), e2.congr fun x => ?_⟩
      by_cases hx : x = n
      · subst hx
        have hne : (s : Int) ≠ (i : Int) := by omega
        simp [slotF, upd, hF, hs, hne]
      · simp [slotF, upd, hx]
set_option maxHeartbeats 2000000 in
set_option maxRecDepth 100000 in
theorem cancel_calls (b : Bl) (W : World) (now last : Int) (F : Int → Option Tm) (n : Int) (h : Rep b W now last F) (hn : (Lit.int .i64 n).wf = true) (hok : ∀ t, F n = some t → 0 ≤ t.due) :
    Calls Try.prog 31 #[.pointer (some ⟨b.g, 0, none⟩), .int .i64 n] W fun e w' => e = .returned (.bool (F n).isSome) ∧ Rep b w' now last (upd F n none) ∧ Only b.In W w' := by
  have hap := h.apart
  have k1 := hap.k1
  have k2 := hap.k2
  obtain ⟨g0, g1, g2, g3⟩ := h.gcell
  have hl := where_look h hn
  cases hF : F n with
  | none =>
    rw [hF] at hl
    dsimp only at hl
    have HR := Aside0.mk (h.congr (G := upd F n none) (upd_none hF))
    clear h hF hap k1 k2 g0 g2 g3
    go_enter Try.func31, Try.ntmps31
    go_wp2_with fail
    go_ret
    exact ⟨rfl, HR.out, Only.refl _ _⟩
  | some t =>
    rw [hF] at hl
    dsimp only at hl
    obtain ⟨s, hsk, hs⟩ := slot_nat (t := t) k1 (hok t hF)
    rw [hs] at hl
    have sc := h.scell hsk
    obtain ⟨n1, M1, hown1, hm1⟩ := h.maps s hsk
    obtain ⟨n2, M2, hown2, hm2⟩ := h.wher
    obtain ⟨W1, e1, ho1, t1⟩ := hown1.drop K3 Try.underlying137 (key3 hn) 0
    have o1 := only_turned t1
    have hw1 : W1.heap[b.wb]? = W.heap[b.wb]? := o1.block b.wb hown2.lt (Ne.symm (hap.mw s hsk))
    obtain ⟨W2, e2, ho2, t2⟩ := (own_move hown2 hw1).drop K3 Try.underlying133 (key3 hn) 0
    have o2 := only_turned t2
    have O1 : Only (fun k => k = b.mb s ∨ k = b.wb) W W1 := o1.mono fun k e => .inl e
    have O2 : Only (fun k => k = b.mb s ∨ k = b.wb) W W2 := O1.trans (o2.mono fun k e => .inr e)
    have HEND : Aside0 (Rep b W2 now last (upd F n none) ∧ Only b.In W W2) := ⟨rep_del h hs hsk hF hm1 hm2 O2 (own_move ho1 (o2.block _ ho1.lt (hap.mw s hsk))) ho2, O2.mono fun k e => by rcases e with rfl | rfl; exact hap.mi s hsk; exact hap.wi⟩
    have c1 : W1.cell? ⟨b.g, 1, none⟩ = some (.map (some b.wb)) := (World.cell?_of_block (w := W) (o1.block b.g h.glt (Ne.symm (hap.mg s hsk)))).trans g1
    have hsn : (0 : Int) ≤ (s : Int) := Int.natCast_nonneg _
    have hsk2 : (s : Int) < (b.K : Int) := by omega
    clear h hF hap g2 g3 hown1 hown2 hm1 hm2 ho1 ho2 o1 o2 O1 O2 t1 t2 hw1 hs
    go_enter Try.func31, Try.ntmps31
    go_wp2_with fail
    go_ret
    exact ⟨rfl, HEND.out⟩
end Go.Proofs.Yteefnclkcnkbhaa.Wh
