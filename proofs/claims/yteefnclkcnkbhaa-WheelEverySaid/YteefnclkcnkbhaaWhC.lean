/-
  A HELPER OF THE PROOF: the wheel (text C).
-/
import Derived.Test.YteefnclkcnkbhaaProg
import Derived.Below
import Derived.Deep.Draws
import Derived.Deep.AppendLies
import Derived.Maps.AppendAt
import Derived.OwnWalk
import Derived.Laws.BytesArg
import Derived.Laws.MakeOwn
import Derived.Laws.OwnMore
import Derived.Deep.OwnRows
import Derived.Tactics
import Derived.Lib.ConvBytes
import Derived.Laws.Slices
import Derived.WalkKit
import Derived.KernelRfl
import Derived.RowKit3
import Derived.Deep.LoopGhost
import Derived.Deep.QuietTactic
import Derived.BigQuiet
import Derived.WideLaws
import Derived.Deep.DeepCutAuto
import Derived.Deep.CutBlock
import Derived.Deep.RegionHeld3
import Derived.Laws.Rows
import Derived.Lib.AppendStr
import Derived.ArgAppend
import Derived.Laws.IdiomCopy
import Derived.OrdersHeld
import Derived.Laws.BitsLemmas
import Derived.RowKit
import Derived.Test.YteefnclkcnkbhaaWWords
import Derived.Test.YteefnclkcnkbhaaWLast
import Derived.Test.YteefnclkcnkbhaaWTab
import Derived.Test.YteefnclkcnkbhaaWFour
import Derived.Test.YteefnclkcnkbhaaWQPut
import Derived.Test.YteefnclkcnkbhaaWApart
import Derived.Test.YteefnclkcnkbhaaWArr
import Derived.Test.YteefnclkcnkbhaaWZeros
import Derived.Test.YteefnclkcnkbhaaWFoot
import Derived.Test.YteefnclkcnkbhaaWKept
import Derived.Test.YteefnclkcnkbhaaWShare
import Derived.Test.YteefnclkcnkbhaaWN
import Derived.Test.YteefnclkcnkbhaaWFootNe
import Derived.Test.YteefnclkcnkbhaaWAt
import Derived.Test.YteefnclkcnkbhaaWEqStruct
import Derived.Test.YteefnclkcnkbhaaWRepsOne
import Derived.Test.YteefnclkcnkbhaaWInv
import Derived.Test.YteefnclkcnkbhaaWInvWords
import Derived.Test.YteefnclkcnkbhaaWGuard
import Derived.Test.YteefnclkcnkbhaaWNEv
import Derived.Test.YteefnclkcnkbhaaWMore
import Derived.Deep.RegionLaw
import Derived.Laws.BitsAllLaws
import Derived.Deep.RegionWith
import Derived.StillTailTactics
import Derived.BigRegion
import Derived.Maps.OwnSet
import Derived.Maps.OwnOps
import Derived.Maps.RangeWalk
import Derived.Maps.Ext
import Derived.WideKeyEntry
import Derived.Test.YteefnclkcnkbhaaWhA
import Derived.Test.YteefnclkcnkbhaaWhB
namespace Go.Proofs.Yteefnclkcnkbhaa.Wh
open Go.RowKit Go.Proofs.YteefnclkcnkbhaaW.PrintWords Go.Proofs.YteefnclkcnkbhaaW.PrintLast Go.Proofs.YteefnclkcnkbhaaW.PrintMore
attribute [local go_sem] max2_int min2_int max_two min_two max_three min_three max_four min_four   -- for this text's walks alone
set_option linter.unusedVariables false
set_option linter.unusedSimpArgs false



def isIn (x : Int) : Bool := decide (1 ≤ x ∧ x ≤ 4294967296)
set_option maxHeartbeats 1000000 in
theorem within_calls (x : Int) (w : World) (h0 : 0 ≤ x) (h1 : x < 18446744073709551616) : Calls Try.prog 72 #[.int .u64 x] w fun e w' => e = .returned (.bool (isIn x)) ∧ w' = w := by
  by_cases ha : 1 ≤ x
  · by_cases hb : x ≤ 4294967296
    · have e : isIn x = true := decide_eq_true ⟨ha, hb⟩
      rw [e]
      go_enter Try.func72, Try.ntmps72
      go_wp2_with fail
      go_ret
      exact ⟨rfl, rfl⟩
    · have e : isIn x = false := decide_eq_false (fun h => hb h.2)
      have hb' : ¬ x ≤ 4294967296 := hb
      have hbb : decide (x ≤ 4294967296) = false := decide_eq_false hb
      rw [e]
      clear e
      go_enter Try.func72, Try.ntmps72
      go_wp2_with fail
      go_ret
      exact ⟨rfl, rfl⟩
  · have e : isIn x = false := decide_eq_false (fun h => ha h.1)
    have hbb : decide (1 ≤ x) = false := decide_eq_false ha
    rw [e]
    clear e
    go_enter Try.func72, Try.ntmps72
    go_wp2_with fail
    go_ret
    exact ⟨rfl, rfl⟩
theorem Rep.setLast {b : Bl} {W : World} {now last : Int} {F : Int → Option Tm} (h : Rep b W now last F) (v : Int) : Rep b (W.setCell ⟨b.g, 3, none⟩ (.int .i64 v)) now v F := by
  have hap := h.apart
  have e : ∀ k, k ≠ b.g → (W.setCell ⟨b.g, 3, none⟩ (.int .i64 v)).heap[k]? = W.heap[k]? := fun k hk => set_far W _ hk
  refine ⟨hap, Nat.le_trans h.size (by simp), blk_put h.cells 3 _ rfl, ?_, ?_, fun i hi => ?_⟩
  · obtain ⟨cs, c1, c2⟩ := h.slots
    exact ⟨cs, (e _ (Ne.symm hap.gs)).trans c1, c2⟩
  · obtain ⟨n, M, h1, h2⟩ := h.wher
    exact ⟨n, M, own_move h1 (e _ (Ne.symm hap.gw)), h2⟩
  · obtain ⟨n, M, h1, h2⟩ := h.maps i hi
    exact ⟨n, M, own_move h1 (e _ (hap.mg i hi)), h2⟩
theorem Rep.setNow {b : Bl} {W : World} {now last : Int} {F : Int → Option Tm} (h : Rep b W now last F) (v : Int) : Rep b (W.setCell ⟨b.g, 2, none⟩ (.int .u64 v)) v last F := by
  have hap := h.apart
  have e : ∀ k, k ≠ b.g → (W.setCell ⟨b.g, 2, none⟩ (.int .u64 v)).heap[k]? = W.heap[k]? := fun k hk => set_far W _ hk
  refine ⟨hap, Nat.le_trans h.size (by simp), blk_put h.cells 2 _ rfl, ?_, ?_, fun i hi => ?_⟩
  · obtain ⟨cs, c1, c2⟩ := h.slots
    exact ⟨cs, (e _ (Ne.symm hap.gs)).trans c1, c2⟩
  · obtain ⟨n, M, h1, h2⟩ := h.wher
    exact ⟨n, M, own_move h1 (e _ (Ne.symm hap.gw)), h2⟩
  · obtain ⟨n, M, h1, h2⟩ := h.maps i hi
    exact ⟨n, M, own_move h1 (e _ (hap.mg i hi)), h2⟩
theorem where_len {b : Bl} {W : World} {now last : Int} {L : TL} (h : Rep b W now last (get L)) (hr : Rise L) (ty : TypeId) : (Builtin.len_ #[133] ty #[.map (some b.wb)]).run Try.prog W = .ok (.int .i64 (L.length : Int)) W := by
  obtain ⟨n, M, h1, h2⟩ := h.wher
  rw [h1.len Try.underlying133 ty, size_of h1 h2 (rise_nodup hr) (fun x => by
    rw [← get_isSome]
    unfold whereF
    simp), List.length_map]
theorem fin_get {L : TL} (hr : Rise L) {m : Nat} (hl : L.length ≤ m) : Fin (get L) m := ⟨L.map (·.1), rise_nodup hr, by rw [List.length_map]; exact hl, fun x hx => get_isSome x |>.1 hx⟩
/-- a list behind which a greater number stands -/
theorem rise_snoc {L : TL} (hr : Rise L) {n : Int} {t : Tm} (h : ∀ e ∈ L, e.1 < n) : Rise (L ++ [(n, t)]) := by
  unfold Rise
  rw [List.pairwise_append]
  exact ⟨hr, by simp, fun a ha b hb => by
    simp at hb
    subst hb
    exact h a ha⟩
theorem get_snoc {L : TL} {n : Int} {t : Tm} (h : ∀ e ∈ L, e.1 < n) (x : Int) : get (L ++ [(n, t)]) x = upd (get L) n (some t) x := by
  unfold upd
  induction L with
  | nil =>
    rw [List.nil_append, get_cons, get_nil]
    by_cases hx : x = n
    · subst hx; simp
    · rw [if_neg (Ne.symm hx), if_neg hx]
  | cons e L ih =>
    rw [List.cons_append, get_cons, get_cons, ih (fun y hy => h y (List.mem_cons_of_mem _ hy))]
    have := h e (by simp)
    by_cases hx : x = n
    · subst hx; rw [if_neg (by omega), if_pos rfl]; simp
    · simp [hx]
theorem get_above {L : TL} {n : Int} (h : ∀ e ∈ L, e.1 < n) : get L n = none := get_none.2 fun t ht => by have := h _ ht; simp at this
/-- what a wheel is like between two calls -/
structure Ok (now last : Int) (L : TL) : Prop where
  rise : Rise L
  len : L.length ≤ 1024
  num : ∀ e ∈ L, 1 ≤ e.1 ∧ e.1 ≤ last
  due : ∀ e ∈ L, now < e.2.due ∧ e.2.due ≤ now + 4294967296
  per : ∀ e ∈ L, 0 ≤ e.2.period ∧ e.2.period ≤ 4294967296
  wh : ∀ e ∈ L, (Lit.int .i64 e.2.what).wf = true
  now0 : 0 ≤ now
  now1 : now ≤ 4611686018427387904
  last0 : 0 ≤ last
  last1 : last ≤ 4611686018427387904
theorem Rep.drew {b : Bl} {W : World} {now last : Int} {F : Int → Option Tm} (h : Rep b W now last F) : Rep b W.drew now last F := h.only ((Only.refl (fun _ => False) W).drew) (fun _ _ e => e)
theorem Rep.drewN {b : Bl} {W : World} {now last : Int} {F : Int → Option Tm} (h : Rep b W now last F) (m : Nat) : Rep b (W.drewN m) now last F := h.only ((Only.refl (fun _ => False) W).drewN m) (fun _ _ e => e)
theorem cStop {P : World → Prop} {Pr : Program} {c : Code} {a : Act} {Q : Exit → Act → World → Prop} {W : World} (h : P W) (k : ∀ W, P W → Code.wp Pr c Q a W) : Code.wp Pr c Q a W := k W h
theorem i64_wf {n : Int} (h0 : 0 ≤ n) (h1 : n ≤ 4611686018427387905) : (Lit.int .i64 n).wf = true := WalkArith.wf_i64 (by omega)
set_option maxHeartbeats 2000000 in
set_option maxRecDepth 100000 in
theorem adds_full (b : Bl) (W : World) (now last : Int) (L : TL) (x p v : Int) (h : Rep b W now last (get L)) (ho : Ok now last L) (hl : 1024 ≤ L.length) :
    Calls Try.prog 73 #[.pointer (some ⟨b.g, 0, none⟩), .int .u64 x, .int .u64 p, .int .i64 v] W fun e w' => e = .returned (.tuple #[.int .i64 0, .int .i64 2]) ∧ w' = W := by
  obtain ⟨g0, g1, g2, g3⟩ := h.gcell
  have hlen := where_len h ho.rise
  have hd : decide ((1024 : Int) ≤ (L.length : Int)) = true := decide_eq_true (by omega)
  clear h ho g0 g2 g3
  go_enter Try.func73, Try.ntmps73
  go_wp2_with fail
  go_ret2
  exact ⟨rfl, rfl⟩
set_option maxHeartbeats 2000000 in
set_option maxRecDepth 100000 in
theorem adds_calls (b : Bl) (W : World) (now last : Int) (L : TL) (x p v : Int) (h : Rep b W now last (get L)) (ho : Ok now last L) (hl : L.length < 1024) (hx : 1 ≤ x ∧ x ≤ 4294967296) (hp : 0 ≤ p ∧ p ≤ 4294967296) (hv : (Lit.int .i64 v).wf = true) (hlast : last < 4611686018427387904) :
    Calls Try.prog 73 #[.pointer (some ⟨b.g, 0, none⟩), .int .u64 x, .int .u64 p, .int .i64 v] W fun e w' => e = .returned (.tuple #[.int .i64 (last + 1), .int .i64 0]) ∧ Rep b w' now (last + 1) (get (L ++ [(last + 1, ⟨now + x, p, v⟩)])) ∧ Only b.In W w' := by
  have hap := h.apart
  obtain ⟨g0, g1, g2, g3⟩ := h.gcell
  have f3 := blk_frozen h.cells 3
  have hlen := where_len h ho.rise
  have hd : decide ((1024 : Int) ≤ (L.length : Int)) = false := decide_eq_false (by omega)
  have hgt : ∀ e ∈ L, e.1 < last + 1 := fun e he => by have := (ho.num e he).2; omega
  have hn0 := ho.now0
  have hn1 := ho.now1
  have hl0 := ho.last0
  have h1 := h.setLast (last + 1)
  have hok : okTm ⟨now + x, p, v⟩ := ⟨by show 0 ≤ now + x; omega, by show now + x < _; omega, hp.1, by show p < _; omega, hv⟩
  have HP := Aside0.mk (fun X (hX : Rep b X now (last + 1) (get L)) => put_calls b X now (last + 1) (get L) (last + 1) ⟨now + x, p, v⟩ hX (i64_wf (by omega) (by omega)) hok (fin_get ho.rise (by omega)) (get_above hgt))
  have HG := Aside0.mk hgt
  have H1 := Aside0.mk h1
  have HO := Aside0.mk (show Only b.In W (W.setCell ⟨b.g, 3, none⟩ (.int .i64 (last + 1))) from (Only.refl _ W).set (.inl hap.gi) _)
  have HI := Aside0.mk hap.gi
  have hux : IntKind.u64.wrap (now + x) = now + x := by unfold IntKind.wrap; simp [IntKind.bits, IntKind.signed]; omega
  clear h ho hgt h1 hok hap
  unfold timV at HP
  go_enter Try.func73, Try.ntmps73
  go_wp2_with fail
  refine cStop (P := fun X => Rep b X now (last + 1) (get L) ∧ Only b.In W X) ⟨H1.out, HO.out⟩ ?_
  rintro X ⟨hX, hO⟩
  clear g0 g1 g2 g3 f3 hlen HO H1
  obtain ⟨g0, g1, g2, g3⟩ := hX.gcell
  have HX := Aside0.mk hX
  have HO := Aside0.mk hO
  clear hX hO g0 g1
  go_region_held3 (fun W' => W'.cell? ⟨b.g, 2, none⟩ = some (.int .u64 now) ∧ W'.cell? ⟨b.g, 3, none⟩ = some (.int .i64 (last + 1))) (first | (with_reducible exact ⟨q2, q3⟩) | go_keep)
    ((go_at_call 128; refine (HP.out _ (HX.out.drew)).mono ?_; rintro e w3 ⟨rfl, hr3, ho3⟩; obtain ⟨q0, q1, q2, q3⟩ := hr3.gcell; have HR3 := Aside0.mk hr3; have HO3 := Aside0.mk (HO.out.drew.trans ho3); clear q0 q1 hr3 ho3 g2 g3))
  go_wp2_with fail
  go_ret2
  exact ⟨rfl, HR3.out.congr (fun y => (get_snoc HG.out y).symm), HO3.out⟩
set_option maxHeartbeats 1000000 in
theorem len_calls (b : Bl) (W : World) (now last : Int) (L : TL) (h : Rep b W now last (get L)) (hr : Rise L) : Calls Try.prog 34 #[.pointer (some ⟨b.g, 0, none⟩)] W fun e w' => e = .returned (.int .i64 (L.length : Int)) ∧ w' = W := by
  obtain ⟨g0, g1, g2, g3⟩ := h.gcell
  have hlen := where_len h hr
  clear h g0 g2 g3
  go_enter Try.func34, Try.ntmps34
  go_wp2_with fail
  go_ret
  exact ⟨rfl, rfl⟩
set_option maxHeartbeats 1000000 in
theorem now_calls (b : Bl) (W : World) (now last : Int) (F : Int → Option Tm) (h : Rep b W now last F) : Calls Try.prog 35 #[.pointer (some ⟨b.g, 0, none⟩)] W fun e w' => e = .returned (.int .u64 now) ∧ w' = W := by
  obtain ⟨g0, g1, g2, g3⟩ := h.gcell
  clear h g0 g1 g3
  go_enter Try.func35, Try.ntmps35
  go_wp2_with fail
  go_ret
  exact ⟨rfl, rfl⟩
/-- what Add and Every hand back, and leave -/
def addR (x p : Int) (again : Bool) (now last v : Int) (L : TL) : (Int × Int) × (Int × TL) :=
  if isIn x && (!again || isIn p) then (if L.length < 1024 then ((last + 1, 0), (last + 1, L ++ [(last + 1, ⟨now + x, p, v⟩)])) else ((0, 2), (last, L))) else ((0, 1), (last, L))
def APost (b : Bl) (W : World) (now : Int) (r : (Int × Int) × (Int × TL)) (e : Ending) (w' : World) : Prop := e = .returned (.tuple #[.int .i64 r.1.1, .int .i64 r.1.2]) ∧ Rep b w' now r.2.1 (get r.2.2) ∧ Only b.In W w'
theorem isIn_le {x : Int} (h : isIn x = true) : 1 ≤ x ∧ x ≤ 4294967296 := of_decide_eq_true h
set_option maxHeartbeats 2000000 in
theorem add_calls (b : Bl) (W : World) (now last : Int) (L : TL) (x v : Int) (h : Rep b W now last (get L)) (ho : Ok now last L) (hx0 : 0 ≤ x) (hx1 : x < 18446744073709551616) (hv : (Lit.int .i64 v).wf = true) (hlast : last < 4611686018427387904) :
    Calls Try.prog 29 #[.pointer (some ⟨b.g, 0, none⟩), .int .u64 x, .int .i64 v] W (APost b W now (addR x 0 false now last v L)) := by
  unfold addR
  cases hi : isIn x with
  | false =>
    rw [if_neg (by simp)]
    have HE : Aside0 (APost b W now ((0, 1), (last, L)) (.returned (.tuple #[.int .i64 0, .int .i64 1])) W) := ⟨rfl, h, Only.refl _ _⟩
    have HW := Aside0.mk (within_calls x W hx0 hx1)
    clear h ho
    go_enter Try.func29, Try.ntmps29
    go_wp2_with (go_at_call 72; refine HW.out.mono ?_; rintro e w' ⟨rfl, rfl⟩; rw [hi])
    go_ret2
    exact HE.out
  | true =>
    rw [if_pos (by simp)]
    have HW := Aside0.mk (within_calls x W hx0 hx1)
    by_cases hl : L.length < 1024
    · rw [if_pos hl]
      have HA := Aside0.mk (adds_calls b W now last L x 0 v h ho hl (isIn_le hi) (by omega) hv hlast)
      clear h ho
      go_enter Try.func29, Try.ntmps29
      go_wp2_with (first | (go_at_call 72; refine HW.out.mono ?_; rintro e w' ⟨rfl, rfl⟩; rw [hi]) | (go_at_call 73; refine HA.out.mono ?_; rintro e w' ⟨rfl, hr, hs⟩; have HE := Aside0.mk (And.intro hr hs); clear hr hs HA))
      go_ret2
      exact ⟨rfl, HE.out⟩
    · rw [if_neg hl]
      have HE : Aside0 (APost b W now ((0, 2), (last, L)) (.returned (.tuple #[.int .i64 0, .int .i64 2])) W) := ⟨rfl, h, Only.refl _ _⟩
      have HA := Aside0.mk (adds_full b W now last L x 0 v h ho (by omega))
      clear h ho
      go_enter Try.func29, Try.ntmps29
      go_wp2_with (first | (go_at_call 72; refine HW.out.mono ?_; rintro e w' ⟨rfl, rfl⟩; rw [hi]) | (go_at_call 73; refine HA.out.mono ?_; rintro e w' ⟨rfl, rfl⟩))
      go_ret2
      exact HE.out
set_option maxHeartbeats 2000000 in
theorem every_calls (b : Bl) (W : World) (now last : Int) (L : TL) (x p v : Int) (h : Rep b W now last (get L)) (ho : Ok now last L) (hx0 : 0 ≤ x) (hx1 : x < 18446744073709551616) (hp0 : 0 ≤ p) (hp1 : p < 18446744073709551616) (hv : (Lit.int .i64 v).wf = true) (hlast : last < 4611686018427387904) :
    Calls Try.prog 30 #[.pointer (some ⟨b.g, 0, none⟩), .int .u64 x, .int .u64 p, .int .i64 v] W (APost b W now (addR x p true now last v L)) := by
  unfold addR
  cases hi : isIn x with
  | false =>
    rw [if_neg (by simp)]
    have HE : Aside0 (APost b W now ((0, 1), (last, L)) (.returned (.tuple #[.int .i64 0, .int .i64 1])) W) := ⟨rfl, h, Only.refl _ _⟩
    have HW := Aside0.mk (within_calls x W hx0 hx1)
    clear h ho
    go_enter Try.func30, Try.ntmps30
    go_wp2_with (go_at_call 72; refine HW.out.mono ?_; rintro e w' ⟨rfl, rfl⟩; rw [hi])
    go_ret2
    exact HE.out
  | true =>
    have HW := Aside0.mk (within_calls x W hx0 hx1)
    have HW2 := Aside0.mk (within_calls p W hp0 hp1)
    cases hj : isIn p with
    | false =>
      rw [if_neg (by simp)]
      have HE : Aside0 (APost b W now ((0, 1), (last, L)) (.returned (.tuple #[.int .i64 0, .int .i64 1])) W) := ⟨rfl, h, Only.refl _ _⟩
      clear h ho
      go_enter Try.func30, Try.ntmps30
      go_wp2_with fail
      refine HW.out.mono ?_
      rintro e w' ⟨rfl, rfl⟩
      rw [hi]
      go_wp2_with fail
      refine HW2.out.mono ?_
      rintro e w' ⟨rfl, rfl⟩
      rw [hj]
      go_wp2_with fail
      go_ret2
      exact HE.out
    | true =>
      rw [if_pos (by simp)]
      by_cases hl : L.length < 1024
      · rw [if_pos hl]
        have HA := Aside0.mk (adds_calls b W now last L x p v h ho hl (isIn_le hi) (by have := isIn_le hj; omega) hv hlast)
        clear h ho
        go_enter Try.func30, Try.ntmps30
        go_wp2_with fail
        refine HW.out.mono ?_
        rintro e w' ⟨rfl, rfl⟩
        rw [hi]
        go_wp2_with fail
        refine HW2.out.mono ?_
        rintro e w' ⟨rfl, rfl⟩
        rw [hj]
        go_wp2_with fail
        refine HA.out.mono ?_
        rintro e w' ⟨rfl, hr, hs⟩
        have HE := Aside0.mk (And.intro hr hs)
        clear hr hs HA
        go_wp2_with fail
        go_ret2
        exact ⟨rfl, HE.out⟩
      · rw [if_neg hl]
        have HE : Aside0 (APost b W now ((0, 2), (last, L)) (.returned (.tuple #[.int .i64 0, .int .i64 2])) W) := ⟨rfl, h, Only.refl _ _⟩
        have HA := Aside0.mk (adds_full b W now last L x p v h ho (by omega))
        clear h ho
        go_enter Try.func30, Try.ntmps30
        go_wp2_with fail
        refine HW.out.mono ?_
        rintro e w' ⟨rfl, rfl⟩
        rw [hi]
        go_wp2_with fail
        refine HW2.out.mono ?_
        rintro e w' ⟨rfl, rfl⟩
        rw [hj]
        go_wp2_with fail
        refine HA.out.mono ?_
        rintro e w' ⟨rfl, rfl⟩
        go_wp2_with fail
        go_ret2
        exact HE.out
theorem add_ok {now last : Int} {L : TL} (ho : Ok now last L) (x p v : Int) (again : Bool) (hp : again = false → p = 0) (hv : (Lit.int .i64 v).wf = true) (hlast : last < 4611686018427387904) : Ok now (addR x p again now last v L).2.1 (addR x p again now last v L).2.2 := by
  unfold addR
  by_cases hc : (isIn x && (!again || isIn p)) = true
  · rw [if_pos hc]
    by_cases hl : L.length < 1024
    · rw [if_pos hl]
      have hx := isIn_le ((Bool.and_eq_true _ _).mp hc).1
      have hpp : 0 ≤ p ∧ p ≤ 4294967296 := by
        have h2 := ((Bool.and_eq_true _ _).mp hc).2
        cases again with
        | false => rw [hp rfl]; omega
        | true => have := isIn_le (x := p) (by simpa using h2); omega
      have hgt : ∀ e ∈ L, e.1 < last + 1 := fun e he => by have := (ho.num e he).2; omega
      have h0 := ho.last0
      exact ⟨rise_snoc ho.rise hgt, by simp; omega,
        fun e he => by
          rcases List.mem_append.1 he with he | he
          · have := ho.num e he; exact ⟨this.1, by show e.1 ≤ last + 1; omega⟩
          · simp at he; subst he; exact ⟨by show 1 ≤ last + 1; omega, Int.le_refl _⟩,
        fun e he => by
          rcases List.mem_append.1 he with he | he
          · exact ho.due e he
          · simp at he; subst he; exact ⟨by show now < now + x; omega, by show now + x ≤ _; omega⟩,
        fun e he => by
          rcases List.mem_append.1 he with he | he
          · exact ho.per e he
          · simp at he; subst he; exact hpp,
        fun e he => by
          rcases List.mem_append.1 he with he | he
          · exact ho.wh e he
          · simp at he; subst he; exact hv,
        ho.now0, ho.now1, by show 0 ≤ last + 1; omega, by show last + 1 ≤ _; omega⟩
    · rw [if_neg hl]; exact ho
  · rw [if_neg hc]; exact ho
theorem field0 (d p x : Int) (W : World) : (Instr.field 143 (.agg #[.int .u64 d, .int .u64 p, .int .i64 x]) 0).run Try.prog W = .ok (.int .u64 d) W := by kernel_rfl
set_option maxHeartbeats 2000000 in
set_option maxRecDepth 100000 in

theorem left_calls (b : Bl) (W : World) (now last : Int) (L : TL) (n : Int) (h : Rep b W now last (get L)) (ho : Ok now last L) (hn : (Lit.int .i64 n).wf = true) :
    Calls Try.prog 37 #[.pointer (some ⟨b.g, 0, none⟩), .int .i64 n] W fun e w' => e = .returned (match get L n with | some t => .tuple #[.int .u64 (t.due - now), .bool true] | none => .tuple #[.int .u64 0, .bool false]) ∧ ∃ m, w' = W.drewN m := by
  have k1 := h.apart.k1
  have k2 := h.apart.k2
  obtain ⟨g0, g1, g2, g3⟩ := h.gcell
  have hl := where_look h hn
  cases hF : get L n with
  | none =>
    rw [hF] at hl
    dsimp only at hl ⊢
    clear h ho hF g0 g2 g3
    go_enter Try.func37, Try.ntmps37
    go_wp2_with fail
    go_ret2
    exact ⟨rfl, 0, rfl⟩
  | some t =>
    rw [hF] at hl
    dsimp only at hl ⊢
    have hd := ho.due _ (get_mem hF)
    have hn0 := ho.now0
    have hn1 := ho.now1
    obtain ⟨s, hsk, hs⟩ := slot_nat (b := b) (t := t) k1 (by have := hd.1; simp at this; omega)
    rw [hs] at hl
    have sc := h.scell hsk
    have hsl := fun m => slot_look (h.drewN m) hn hsk
    rw [hF] at hsl
    simp only [Option.bind_some, hs, if_true] at hsl
    have hsn : (0 : Int) ≤ (s : Int) := Int.natCast_nonneg _
    have hsk2 : (s : Int) < (b.K : Int) := by omega
    simp at hd
    obtain ⟨hd1, hd2⟩ := hd
    unfold timV at hsl
    clear h ho hF hs g3
    have hfd := field0
    go_enter Try.func37, Try.ntmps37
    go_wp2_with fail
    go_quiet (fail)
    go_wp2_with fail
    go_ret2
    exact ⟨rfl, nq, rfl⟩
end Go.Proofs.Yteefnclkcnkbhaa.Wh
