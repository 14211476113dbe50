/-
  A HELPER OF THE PROOF: the wheel (text A).
-/
import Derived.Test.YteefnclkcnkbhaaProg
import Derived.Below
import Derived.Deep.Draws
import Derived.Deep.AppendLies
import Derived.Maps.AppendAt
import Derived.OwnWalk
import Derived.Laws.BytesArg
import Derived.Laws.MakeOwn
import Derived.Laws.OwnMore
import Derived.Deep.OwnRows
import Derived.Tactics
import Derived.Lib.ConvBytes
import Derived.Laws.Slices
import Derived.WalkKit
import Derived.KernelRfl
import Derived.RowKit3
import Derived.Deep.LoopGhost
import Derived.Deep.QuietTactic
import Derived.BigQuiet
import Derived.WideLaws
import Derived.Deep.DeepCutAuto
import Derived.Deep.CutBlock
import Derived.Deep.RegionHeld3
import Derived.Laws.Rows
import Derived.Lib.AppendStr
import Derived.ArgAppend
import Derived.Laws.IdiomCopy
import Derived.OrdersHeld
import Derived.Laws.BitsLemmas
import Derived.RowKit
import Derived.Test.YteefnclkcnkbhaaWWords
import Derived.Test.YteefnclkcnkbhaaWLast
import Derived.Test.YteefnclkcnkbhaaWTab
import Derived.Test.YteefnclkcnkbhaaWFour
import Derived.Test.YteefnclkcnkbhaaWQPut
import Derived.Test.YteefnclkcnkbhaaWApart
import Derived.Test.YteefnclkcnkbhaaWArr
import Derived.Test.YteefnclkcnkbhaaWZeros
import Derived.Test.YteefnclkcnkbhaaWFoot
import Derived.Test.YteefnclkcnkbhaaWKept
import Derived.Test.YteefnclkcnkbhaaWShare
import Derived.Test.YteefnclkcnkbhaaWN
import Derived.Test.YteefnclkcnkbhaaWFootNe
import Derived.Test.YteefnclkcnkbhaaWAt
import Derived.Test.YteefnclkcnkbhaaWEqStruct
import Derived.Test.YteefnclkcnkbhaaWRepsOne
import Derived.Test.YteefnclkcnkbhaaWInv
import Derived.Test.YteefnclkcnkbhaaWInvWords
import Derived.Test.YteefnclkcnkbhaaWGuard
import Derived.Test.YteefnclkcnkbhaaWNEv
import Derived.Test.YteefnclkcnkbhaaWMore
import Derived.Deep.RegionLaw
import Derived.Laws.BitsAllLaws
import Derived.Deep.RegionWith
import Derived.StillTailTactics
import Derived.BigRegion
import Derived.Maps.OwnSet
import Derived.Maps.OwnOps
import Derived.Maps.RangeWalk
import Derived.Maps.Ext
import Derived.WideKeyEntry
namespace Go.Proofs.Yteefnclkcnkbhaa.Wh
open Go.RowKit Go.Proofs.YteefnclkcnkbhaaW.PrintWords Go.Proofs.YteefnclkcnkbhaaW.PrintLast Go.Proofs.YteefnclkcnkbhaaW.PrintMore
attribute [local go_sem] max2_int min2_int max_two min_two max_three min_three max_four min_four   -- for this text's walks alone
set_option linter.unusedVariables false
set_option linter.unusedSimpArgs false



/-! ### Timers, plainly: no program in sight -/
structure Tm where
  due : Int
  period : Int
  what : Int
abbrev TL := List (Int × Tm)
def get (L : TL) (n : Int) : Option Tm := (L.find? fun e => e.1 == n).map (·.2)
/-- rising numbers -/
def Rise (L : TL) : Prop := L.Pairwise fun a b => a.1 < b.1
def fire1 (now : Int) (t : Tm) : Option Tm := if t.due = now then (if 0 < t.period then some { t with due := t.due + t.period } else none) else some t
def fireL (now : Int) (L : TL) : TL := L.filterMap fun e => (fire1 now e.2).map fun t => (e.1, t)
def whats (now : Int) (L : TL) : List Int := (L.filter fun e => e.2.due == now).map fun e => e.2.what
def least (now : Int) : TL → Int
  | [] => 0
  | e :: r => r.foldl (fun m x => if x.2.due - now < m then x.2.due - now else m) (e.2.due - now)
def cut (l : List Int) : List Int := l.take 65536
def tickF : Nat → Int → Int → TL → List Int → Int × TL × List Int
  | 0, _, now, L, told => (now, L, told)
  | k + 1, fin, now, L, told =>
    if L = [] ∨ fin - now < least now L then (fin, L, told)
    else tickF k fin (now + least now L) (fireL (now + least now L) L) (cut (told ++ whats (now + least now L) L))
theorem least_fold (now : Int) : ∀ (r : TL) (m : Int), (r.foldl (fun m x => if x.2.due - now < m then x.2.due - now else m) m = m ∨ ∃ e ∈ r, r.foldl (fun m x => if x.2.due - now < m then x.2.due - now else m) m = e.2.due - now) ∧
    r.foldl (fun m x => if x.2.due - now < m then x.2.due - now else m) m ≤ m ∧ ∀ e ∈ r, r.foldl (fun m x => if x.2.due - now < m then x.2.due - now else m) m ≤ e.2.due - now
  | [], m => ⟨.inl rfl, Int.le_refl _, by simp⟩
  | x :: r, m => by
    obtain ⟨h1, h2, h3⟩ := least_fold now r (if x.2.due - now < m then x.2.due - now else m)
    simp only [List.foldl_cons]
    refine ⟨?_, ?_, ?_⟩
    · rcases h1 with h1 | ⟨e, he, h1⟩
      · rw [h1]
        by_cases hx : x.2.due - now < m
        · rw [if_pos hx]; exact .inr ⟨x, by simp, rfl⟩
        · rw [if_neg hx]; exact .inl rfl
      · exact .inr ⟨e, by simp [he], h1⟩
    · have : (if x.2.due - now < m then x.2.due - now else m) ≤ m := by split <;> omega
      exact Int.le_trans h2 this
    · intro e he
      rcases List.mem_cons.1 he with rfl | he
      · have : (if e.2.due - now < m then e.2.due - now else m) ≤ e.2.due - now := by split <;> omega
        exact Int.le_trans h2 this
      · exact h3 e he
theorem least_spec (now : Int) (L : TL) (h : L ≠ []) : (∃ e ∈ L, least now L = e.2.due - now) ∧ ∀ e ∈ L, least now L ≤ e.2.due - now := by
  cases L with
  | nil => exact absurd rfl h
  | cons e r =>
    obtain ⟨h1, h2, h3⟩ := least_fold now r (e.2.due - now)
    refine ⟨?_, ?_⟩
    · rcases h1 with h1 | ⟨x, hx, h1⟩
      · exact ⟨e, by simp, h1⟩
      · exact ⟨x, by simp [hx], h1⟩
    · intro x hx
      rcases List.mem_cons.1 hx with rfl | hx
      · exact h2
      · exact h3 x hx
theorem least_unique (now : Int) (L : TL) (m : Int) (h : L ≠ []) (h1 : ∃ e ∈ L, m = e.2.due - now) (h2 : ∀ e ∈ L, m ≤ e.2.due - now) : m = least now L := by
  obtain ⟨⟨e, he, h3⟩, h4⟩ := least_spec now L h
  obtain ⟨x, hx, h5⟩ := h1
  have := h2 e he
  have := h4 x hx
  omega
theorem get_nil (n : Int) : get [] n = none := rfl
theorem get_cons (e : Int × Tm) (L : TL) (n : Int) : get (e :: L) n = if e.1 = n then some e.2 else get L n := by
  unfold get
  by_cases h : e.1 = n
  · simp [h]
  · rw [List.find?_cons_of_neg (by simpa using h), if_neg h]
theorem Rise.tail {e : Int × Tm} {L : TL} (h : Rise (e :: L)) : Rise L := (List.pairwise_cons.1 h).2
theorem Rise.head {e : Int × Tm} {L : TL} (h : Rise (e :: L)) : ∀ x ∈ L, e.1 < x.1 := (List.pairwise_cons.1 h).1
theorem get_mem {L : TL} {n : Int} {t : Tm} (h : get L n = some t) : (n, t) ∈ L := by
  induction L with
  | nil => simp [get_nil] at h
  | cons e L ih =>
    rw [get_cons] at h
    by_cases he : e.1 = n
    · rw [if_pos he] at h
      injection h with h
      subst he; subst h
      simp
    · rw [if_neg he] at h
      exact List.mem_cons_of_mem _ (ih h)
theorem mem_get {L : TL} (hr : Rise L) {n : Int} {t : Tm} (h : (n, t) ∈ L) : get L n = some t := by
  induction L with
  | nil => simp at h
  | cons e L ih =>
    rw [get_cons]
    rcases List.mem_cons.1 h with rfl | h
    · simp
    · have := hr.head _ h
      rw [if_neg (by simp at this; omega)]
      exact ih hr.tail h
theorem get_none {L : TL} {n : Int} : get L n = none ↔ ∀ t, (n, t) ∉ L := by
  constructor
  · intro h t ht
    induction L with
    | nil => simp at ht
    | cons e L ih =>
      rw [get_cons] at h
      by_cases he : e.1 = n
      · rw [if_pos he] at h; cases h
      · rw [if_neg he] at h
        rcases List.mem_cons.1 ht with rfl | ht
        · exact he rfl
        · exact ih h ht
  · intro h
    cases hg : get L n with
    | none => rfl
    | some t => exact absurd (get_mem hg) (h t)
/-- two rising lists that read alike are one -/
theorem rise_ext {L M : TL} (hL : Rise L) (hM : Rise M) (h : ∀ n, get L n = get M n) : L = M := by
  induction L generalizing M with
  | nil =>
    cases M with
    | nil => rfl
    | cons e M => have := h e.1; rw [get_nil, get_cons, if_pos rfl] at this; cases this
  | cons e L ih =>
    cases M with
    | nil => have := h e.1; rw [get_nil, get_cons, if_pos rfl] at this; cases this
    | cons x M =>
      have hex : e.1 = x.1 := by
        have h1 := h e.1
        have h2 := h x.1
        rw [get_cons, if_pos rfl, get_cons] at h1
        rw [get_cons, get_cons, if_pos rfl] at h2
        by_cases h3 : x.1 = e.1
        · exact h3.symm
        · rw [if_neg h3] at h1
          rw [if_neg (Ne.symm h3)] at h2
          have a1 := hM.head _ (get_mem h1.symm)
          have a2 := hL.head _ (get_mem h2)
          simp at a1 a2
          omega
      have he2 : e.2 = x.2 := by
        have h1 := h e.1
        rw [get_cons, if_pos rfl, get_cons, if_pos hex.symm] at h1
        injection h1
      have hex2 : e = x := Prod.ext hex he2
      subst hex2
      congr 1
      refine ih hL.tail hM.tail fun n => ?_
      have h1 := h n
      rw [get_cons, get_cons] at h1
      by_cases hn : e.1 = n
      · have a1 : get L n = none := get_none.2 fun t ht => by have := hL.head _ ht; simp at this; omega
        have a2 : get M n = none := get_none.2 fun t ht => by have := hM.head _ ht; simp at this; omega
        rw [a1, a2]
      · rw [if_neg hn, if_neg hn] at h1
        exact h1
theorem rise_filter {L : TL} (h : Rise L) (p : Int × Tm → Bool) : Rise (L.filter p) := List.Pairwise.filter p h
theorem get_filter {L : TL} (hr : Rise L) (p : Int × Tm → Bool) (n : Int) : get (L.filter p) n = (get L n).bind fun t => if p (n, t) then some t else none := by
  cases hg : get L n with
  | none =>
    exact get_none.2 fun t ht => get_none.1 hg t (List.mem_filter.1 ht).1
  | some t =>
    simp only [Option.bind_some]
    by_cases hp : p (n, t) = true
    · rw [if_pos hp]
      exact mem_get (rise_filter hr p) (List.mem_filter.2 ⟨get_mem hg, hp⟩)
    · rw [if_neg hp]
      refine get_none.2 fun u hu => ?_
      obtain ⟨h1, h2⟩ := List.mem_filter.1 hu
      have := mem_get hr h1
      rw [hg] at this
      injection this with this
      subst this
      exact hp h2
theorem mem_fireL {now : Int} {L : TL} {n : Int} {t : Tm} : (n, t) ∈ fireL now L ↔ ∃ u, (n, u) ∈ L ∧ fire1 now u = some t := by
  unfold fireL
  rw [List.mem_filterMap]
  constructor
  · rintro ⟨⟨m, u⟩, hm, h⟩
    obtain ⟨v, hv, h⟩ := Option.map_eq_some_iff.1 h
    cases h
    exact ⟨u, hm, hv⟩
  · rintro ⟨u, hu, h⟩
    exact ⟨(n, u), hu, by simp [h]⟩
theorem rise_fireL {now : Int} {L : TL} (h : Rise L) : Rise (fireL now L) := by
  unfold fireL Rise
  rw [List.pairwise_filterMap]
  refine h.imp_of_mem ?_
  intro a b _ _ hab x hx y hy
  obtain ⟨v, hv, hx⟩ := Option.map_eq_some_iff.1 hx
  obtain ⟨u, hu, hy⟩ := Option.map_eq_some_iff.1 hy
  subst hx; subst hy
  exact hab
theorem get_fireL {now : Int} {L : TL} (hr : Rise L) (n : Int) : get (fireL now L) n = (get L n).bind (fire1 now) := by
  cases hg : get L n with
  | none =>
    refine get_none.2 fun t ht => ?_
    obtain ⟨u, hu, _⟩ := mem_fireL.1 ht
    exact get_none.1 hg u hu
  | some u =>
    simp only [Option.bind_some]
    cases hf : fire1 now u with
    | none =>
      refine get_none.2 fun t ht => ?_
      obtain ⟨u', hu, h⟩ := mem_fireL.1 ht
      have := mem_get hr hu
      rw [hg] at this
      injection this with this
      subst this
      rw [hf] at h; cases h
    | some t => exact mem_get (rise_fireL hr) (mem_fireL.2 ⟨u, get_mem hg, hf⟩)
theorem length_fireL (now : Int) (L : TL) : (fireL now L).length ≤ L.length := List.length_filterMap_le _ _
theorem whats_length (now : Int) (L : TL) : (whats now L).length ≤ L.length := by
  unfold whats
  rw [List.length_map]
  exact List.length_filter_le _ _
/-! ### The wheel of layer 6: what lies in memory -/
open Go.Maps (Keyed int_keyed keyOf_int_mk)
/-- nothing but the blocks of A, and what is new, has turned -/
structure Only (A : Nat → Prop) (w W : World) : Prop where
  os : W.os = w.os
  tape : W.tape = w.tape
  output : W.output = w.output
  size : w.heap.size ≤ W.heap.size
  block : ∀ k, k < w.heap.size → ¬ A k → W.heap[k]? = w.heap[k]?
section
variable {A : Nat → Prop} {w W X : World}
theorem Only.refl (A : Nat → Prop) (w : World) : Only A w w := ⟨rfl, rfl, rfl, Nat.le_refl _, fun _ _ _ => rfl⟩
theorem Only.trans (h : Only A w W) (k : Only A W X) : Only A w X := ⟨k.os.trans h.os, k.tape.trans h.tape, k.output.trans h.output, Nat.le_trans h.size k.size, fun i hi hn => (k.block i (Nat.lt_of_lt_of_le hi h.size) hn).trans (h.block i hi hn)⟩
theorem Only.mono {B : Nat → Prop} (h : Only A w W) (hb : ∀ k, A k → B k) : Only B w W := ⟨h.os, h.tape, h.output, h.size, fun i hi hn => h.block i hi (fun ha => hn (hb i ha))⟩
theorem Only.below (h : Only A w W) (hb : Below W.heap.size W X) : Only A w X := h.trans ⟨hb.os, hb.tape, hb.output, hb.size, fun i hi _ => hb.block i hi⟩
theorem Only.of_below (hb : Below w.heap.size w W) : Only A w W := (Only.refl A w).below hb
theorem Only.alloc (h : Only A w W) (o : Obj) : Only A w (W.alloc o) := h.below (below_alloc (Below.refl _ _) o)
theorem Only.drew (h : Only A w W) : Only A w W.drew := ⟨h.os, h.tape, h.output, h.size, h.block⟩
theorem Only.drewN (h : Only A w W) (m : Nat) : Only A w (W.drewN m) := ⟨h.os, h.tape, h.output, h.size, h.block⟩
theorem Only.grown {row : Option Nat} (h : Only A w W) (hg : W.grownBy X row) (hr : ∀ k, row = some k → A k ∨ w.heap.size ≤ k) : Only A w X :=
  ⟨hg.os.trans h.os, hg.tape.trans h.tape, hg.output.trans h.output, Nat.le_trans h.size hg.size, fun i hi hn => (hg.block i (Nat.lt_of_lt_of_le hi h.size) (fun e => by
    rcases hr i e.symm with ha | ha
    · exact hn ha
    · omega)).trans (h.block i hi hn)⟩
theorem set_far (W : World) {p : Addr} (v : Value) {k : Nat} (h : k ≠ p.block) : (W.setCell p v).heap[k]? = W.heap[k]? := Below.heap_setCell _ _ _ k h
theorem Only.set (h : Only A w W) {p : Addr} (hp : A p.block ∨ w.heap.size ≤ p.block) (v : Value) : Only A w (W.setCell p v) :=
  ⟨h.os, h.tape, h.output, Nat.le_trans h.size (by simp), fun i hi hn => (set_far W v (fun e => by
    rcases hp with hp | hp
    · exact hn (by rw [e]; exact hp)
    · omega)).trans (h.block i hi hn)⟩
theorem Only.toBelow {B : Nat} (h : Only A w W) (hA : ∀ k, A k → B ≤ k) (hB : B ≤ w.heap.size) : Below B w W :=
  ⟨h.os, h.tape, h.output, h.size, fun i hi => h.block i (Nat.lt_of_lt_of_le hi hB) (fun ha => by have := hA i ha; omega)⟩
end
/-! #### maps with whole numbers as keys -/
abbrev DU := DataW Unit
def kl (n : Int) : Lit := .int .i64 n
theorem kl_ne {a b : Int} (h : a ≠ b) : kl a ≠ kl b := fun e => h (by injection e)
theorem kl_isKey (n : Int) : WideAt.IsKeyLit (kl n) := trivial
/-- a map says what f says -/
def MapIs (M : DU) (f : Int → Option DU) : Prop := ∀ n, Go.Maps.has M (kl n) = (f n).isSome ∧ ∀ z, M.atKey (kl n) z = (f n).getD z
theorem MapIs.empty : MapIs (.map []) (fun _ => none) := fun n => ⟨rfl, fun z => rfl⟩
theorem MapIs.put {M : DU} {f : Int → Option DU} (h : MapIs M f) (hM : Go.Maps.IsMap M) {k : Int} (hk : WideAt.IsKeyLit (kl k)) (v : DU) : MapIs (M.put (kl k) v) (fun n => if n = k then some v else f n) := fun n => by
  by_cases e : n = k
  · subst e
    refine ⟨by rw [Go.Maps.has_put_same hM hk]; simp, fun z => by rw [Go.Maps.atKey_put_same hM hk]; simp⟩
  · refine ⟨by rw [Go.Maps.has_put_other (kl_ne e)]; simp [e, (h n).1], fun z => by rw [Go.Maps.atKey_put_other (kl_ne e)]; simp [e, (h n).2 z]⟩
theorem MapIs.del {M : DU} {f : Int → Option DU} (h : MapIs M f) (k : Int) : MapIs (M.del (kl k)) (fun n => if n = k then none else f n) := fun n => by
  by_cases e : n = k
  · subst e
    refine ⟨by rw [Go.Maps.has_del_same]; simp, fun z => by rw [Go.Maps.atKey_del_same]; simp⟩
  · refine ⟨by rw [Go.Maps.has_del_other (kl_ne e)]; simp [e, (h n).1], fun z => by rw [Go.Maps.atKey_del_other (kl_ne e)]; simp [e, (h n).2 z]⟩
theorem MapIs.congr {M : DU} {f g : Int → Option DU} (h : MapIs M f) (e : ∀ n, f n = g n) : MapIs M g := fun n => by rw [← e n]; exact h n
theorem K3 : Keyed Try.prog 3 := int_keyed Try.underlying3
theorem key3 {n : Int} (h : (Lit.int .i64 n).wf = true) : keyOf Try.prog 3 (.int .i64 n) = some (kl n) := keyOf_int_mk Try.underlying3 h
def litI : Lit → Int | .int _ n => n | _ => 0
section
variable {R : Value → Option (DU × List MemPlace)} {W : World} {b n : Nat} {D : DU}
theorem keys_int (h : W.ownsMap Try.prog 3 R b n D) : ∃ es, D = .map es ∧ es.Pairwise (fun p q => p.1 ≠ q.1) ∧ ∀ p ∈ es, ∃ x, p.1 = kl x := by
  obtain ⟨es, hD, hp, _⟩ := h.entries K3
  refine ⟨es, hD, hp, fun p hpm => ?_⟩
  obtain ⟨es0, clock, hb, F, hs, hD2⟩ := h
  rw [hD] at hD2
  injection hD2 with hD2
  subst hD2
  have h1 := Go.mem_sorted.1 hpm
  obtain ⟨v, hv⟩ := Go.Maps.fit_keys F p h1
  obtain ⟨x, _, hx, _⟩ := Go.Maps.keyOf_int_inv Try.underlying3 hv
  exact ⟨x, hx⟩
theorem own_tight (h : W.ownsMap Try.prog 3 R b n D) : W.ownsMap Try.prog 3 R b (Go.Maps.size D) D := by
  obtain ⟨es, clock, hb, F, hs, hD⟩ := h
  refine ⟨es, clock, hb, F, ?_, hD⟩
  rw [hD]
  show es.size ≤ _
  rw [Go.Maps.size_eq, Go.length_sorted]
  simp
theorem own_move {X : World} (h : W.ownsMap Try.prog 3 R b n D) (e : X.heap[b]? = W.heap[b]?) : X.ownsMap Try.prog 3 R b n D := by
  obtain ⟨es, clock, hb, r⟩ := h
  exact ⟨es, clock, e.trans hb, r⟩
theorem has_mem {es : List (Lit × DU)} (hk : ∀ p ∈ es, ∃ x, p.1 = kl x) (x : Int) : Go.Maps.has (.map es) (kl x) = true ↔ x ∈ es.map (fun p => litI p.1) := by
  rw [Go.Maps.has_eq, List.any_eq_true, List.mem_map]
  constructor
  · rintro ⟨p, hp, h⟩
    have := WideAt.sameKey_eq h
    exact ⟨p, hp, by rw [this]; rfl⟩
  · rintro ⟨p, hp, h⟩
    obtain ⟨y, hy⟩ := hk p hp
    rw [hy] at h
    have hxy : y = x := h
    refine ⟨p, hp, ?_⟩
    rw [hy, hxy]
    simp [kl, Lit.sameKey]
theorem keys_nodup {es : List (Lit × DU)} (hp : es.Pairwise (fun p q => p.1 ≠ q.1)) (hk : ∀ p ∈ es, ∃ x, p.1 = kl x) : (es.map (fun p => litI p.1)).Nodup := by
  rw [List.Nodup, List.pairwise_map]
  refine hp.imp_of_mem fun {p q} h1 h2 h3 e => h3 ?_
  obtain ⟨x, hx⟩ := hk p h1
  obtain ⟨y, hy⟩ := hk q h2
  rw [hx, hy] at e ⊢
  have : x = y := e
  rw [this]
theorem size_of (h : W.ownsMap Try.prog 3 R b n D) {f : Int → Option DU} (hf : MapIs D f) {ks : List Int} (hn : ks.Nodup) (hk : ∀ x, (f x).isSome = true ↔ x ∈ ks) : Go.Maps.size D = ks.length := by
  obtain ⟨es, rfl, hp, hi⟩ := keys_int h
  rw [Go.Maps.size_eq]
  have hperm : (es.map (fun p => litI p.1)).Perm ks := by
    rw [List.perm_ext_iff_of_nodup (keys_nodup hp hi) hn]
    intro x
    rw [← has_mem hi, (hf x).1, hk]
  have := hperm.length_eq
  simpa using this
end
theorem rise_nodup {L : TL} (h : Rise L) : (L.map (·.1)).Nodup := by
  rw [List.Nodup, List.pairwise_map]
  exact h.imp fun {a b} hab e => by omega
theorem get_isSome {L : TL} (x : Int) : (get L x).isSome = true ↔ x ∈ L.map (·.1) := by
  rw [List.mem_map]
  constructor
  · intro h
    obtain ⟨t, ht⟩ := Option.isSome_iff_exists.1 h
    exact ⟨(x, t), get_mem ht, rfl⟩
  · rintro ⟨⟨y, t⟩, hm, rfl⟩
    cases hg : get L y with
    | none => exact absurd hm (get_none.1 hg t)
    | some u => rfl
/-! #### the wheel -/
def timV (t : Tm) : Value := .agg #[.int .u64 t.due, .int .u64 t.period, .int .i64 t.what]
def timD (t : Tm) : DU := .agg [.lit (.int .u64 t.due), .lit (.int .u64 t.period), .lit (.int .i64 t.what)]
theorem timV_inj {a b : Tm} (h : timV a = timV b) : a = b := by
  obtain ⟨a1, a2, a3⟩ := a
  obtain ⟨b1, b2, b3⟩ := b
  simp [timV] at h
  obtain ⟨h1, h2, h3⟩ := h
  subst h1 h2 h3
  rfl
open Classical in
noncomputable def timR (v : Value) : Option (DU × List MemPlace) := if h : ∃ t, v = timV t then some (timD h.choose, []) else none
theorem timR_mk (t : Tm) : timR (timV t) = some (timD t, []) := by
  unfold timR
  have h : ∃ t', timV t = timV t' := ⟨t, rfl⟩
  rw [dif_pos h, ← timV_inj h.choose_spec]
theorem timR_inv {v : Value} {z : DU × List MemPlace} (h : timR v = some z) : ∃ t, v = timV t ∧ z = (timD t, []) := by
  unfold timR at h
  by_cases e : ∃ t, v = timV t
  · rw [dif_pos e] at h
    exact ⟨e.choose, e.choose_spec, (Option.some.inj h).symm⟩
  · rw [dif_neg e] at h
    cases h
theorem timD_inj {a b : Tm} (h : timD a = timD b) : a = b := by
  obtain ⟨a1, a2, a3⟩ := a
  obtain ⟨b1, b2, b3⟩ := b
  simp [timD] at h
  obtain ⟨h1, h2, h3⟩ := h
  subst h1 h2 h3
  rfl
structure Bl where
  lo : Nat
  hi : Nat
  g : Nat
  sb : Nat
  cap : Nat
  wb : Nat
  mb : Nat → Nat
  K : Nat
structure Apart (b : Bl) : Prop where
  k1 : 1 ≤ b.K
  k2 : b.K ≤ 4096
  kc : b.K ≤ b.cap
  cm : b.cap ≤ maxLen
  gi : b.lo ≤ b.g ∧ b.g < b.hi
  si : b.lo ≤ b.sb ∧ b.sb < b.hi
  wi : b.lo ≤ b.wb ∧ b.wb < b.hi
  mi : ∀ i, i < b.K → b.lo ≤ b.mb i ∧ b.mb i < b.hi
  gs : b.g ≠ b.sb
  gw : b.g ≠ b.wb
  sw : b.sb ≠ b.wb
  mg : ∀ i, i < b.K → b.mb i ≠ b.g
  ms : ∀ i, i < b.K → b.mb i ≠ b.sb
  mw : ∀ i, i < b.K → b.mb i ≠ b.wb
  mm : ∀ i j, i < b.K → j < b.K → i ≠ j → b.mb i ≠ b.mb j
def Bl.In (b : Bl) (k : Nat) : Prop := b.lo ≤ k ∧ k < b.hi
def slotOf (K : Nat) (t : Tm) : Int := t.due % (K : Int)
def whereF (K : Nat) (F : Int → Option Tm) (n : Int) : Option DU := (F n).map fun t => .lit (.int .i64 (slotOf K t))
def slotF (K : Nat) (i : Nat) (F : Int → Option Tm) (n : Int) : Option DU := (F n).bind fun t => if slotOf K t = (i : Int) then some (timD t) else none
def gCells (b : Bl) (now last : Int) : Array Value := #[.slice (some ⟨b.sb, 0, none⟩) b.K b.cap, .map (some b.wb), .int .u64 now, .int .i64 last]
structure Rep (b : Bl) (W : World) (now last : Int) (F : Int → Option Tm) : Prop where
  apart : Apart b
  size : b.hi ≤ W.heap.size
  cells : W.heap[b.g]? = some (.cells (gCells b now last) 136 (0, 0))
  slots : ∃ cs, W.heap[b.sb]? = some (.cells cs 137 (0, 0)) ∧ ∀ i, i < b.K → cs[i]? = some (.map (some (b.mb i)))
  wher : ∃ n M, W.ownsMap Try.prog 3 (plainElem Try.prog 3) b.wb n M ∧ MapIs M (whereF b.K F)
  maps : ∀ i, i < b.K → ∃ n M, W.ownsMap Try.prog 3 timR (b.mb i) n M ∧ MapIs M (slotF b.K i F)
theorem Rep.move {b : Bl} {W X : World} {now last : Int} {F : Int → Option Tm} (h : Rep b W now last F) (hs : W.heap.size ≤ X.heap.size) (e : ∀ k, b.In k → X.heap[k]? = W.heap[k]?) : Rep b X now last F where
  apart := h.apart
  size := Nat.le_trans h.size hs
  cells := (e _ h.apart.gi).trans h.cells
  slots := by
    obtain ⟨cs, h1, h2⟩ := h.slots
    exact ⟨cs, (e _ h.apart.si).trans h1, h2⟩
  wher := by
    obtain ⟨n, M, h1, h2⟩ := h.wher
    exact ⟨n, M, own_move h1 (e _ h.apart.wi), h2⟩
  maps := fun i hi => by
    obtain ⟨n, M, h1, h2⟩ := h.maps i hi
    exact ⟨n, M, own_move h1 (e _ (h.apart.mi i hi)), h2⟩
theorem Rep.only {b : Bl} {W X : World} {now last : Int} {F : Int → Option Tm} (h : Rep b W now last F) {A : Nat → Prop} (ho : Only A W X) (ha : ∀ k, b.In k → ¬ A k) : Rep b X now last F :=
  h.move ho.size (fun k hk => ho.block k (Nat.lt_of_lt_of_le hk.2 h.size) (ha k hk))
theorem Rep.below {b : Bl} {W X : World} {now last : Int} {F : Int → Option Tm} (h : Rep b W now last F) (hb : Below W.heap.size W X) : Rep b X now last F :=
  h.move hb.size (fun k hk => hb.block k (Nat.lt_of_lt_of_le hk.2 h.size))
end Go.Proofs.Yteefnclkcnkbhaa.Wh
