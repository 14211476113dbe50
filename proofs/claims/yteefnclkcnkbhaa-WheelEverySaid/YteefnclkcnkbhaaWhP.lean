/-
  A HELPER OF THE PROOF: the wheel (text P).
-/
import Derived.Test.YteefnclkcnkbhaaProg
import Derived.Below
import Derived.Deep.Draws
import Derived.Deep.AppendLies
import Derived.Maps.AppendAt
import Derived.OwnWalk
import Derived.Laws.BytesArg
import Derived.Laws.MakeOwn
import Derived.Laws.OwnMore
import Derived.Deep.OwnRows
import Derived.Tactics
import Derived.Lib.ConvBytes
import Derived.Laws.Slices
import Derived.WalkKit
import Derived.KernelRfl
import Derived.RowKit3
import Derived.Deep.LoopGhost
import Derived.Deep.QuietTactic
import Derived.BigQuiet
import Derived.WideLaws
import Derived.Deep.DeepCutAuto
import Derived.Deep.CutBlock
import Derived.Deep.RegionHeld3
import Derived.Laws.Rows
import Derived.Lib.AppendStr
import Derived.ArgAppend
import Derived.Laws.IdiomCopy
import Derived.OrdersHeld
import Derived.Laws.BitsLemmas
import Derived.RowKit
import Derived.Test.YteefnclkcnkbhaaWWords
import Derived.Test.YteefnclkcnkbhaaWLast
import Derived.Test.YteefnclkcnkbhaaWTab
import Derived.Test.YteefnclkcnkbhaaWFour
import Derived.Test.YteefnclkcnkbhaaWQPut
import Derived.Test.YteefnclkcnkbhaaWApart
import Derived.Test.YteefnclkcnkbhaaWArr
import Derived.Test.YteefnclkcnkbhaaWZeros
import Derived.Test.YteefnclkcnkbhaaWFoot
import Derived.Test.YteefnclkcnkbhaaWKept
import Derived.Test.YteefnclkcnkbhaaWShare
import Derived.Test.YteefnclkcnkbhaaWN
import Derived.Test.YteefnclkcnkbhaaWFootNe
import Derived.Test.YteefnclkcnkbhaaWAt
import Derived.Test.YteefnclkcnkbhaaWEqStruct
import Derived.Test.YteefnclkcnkbhaaWRepsOne
import Derived.Test.YteefnclkcnkbhaaWInv
import Derived.Test.YteefnclkcnkbhaaWInvWords
import Derived.Test.YteefnclkcnkbhaaWGuard
import Derived.Test.YteefnclkcnkbhaaWNEv
import Derived.Test.YteefnclkcnkbhaaWMore
import Derived.Deep.RegionLaw
import Derived.Laws.BitsAllLaws
import Derived.Deep.RegionWith
import Derived.StillTailTactics
import Derived.BigRegion
import Derived.Maps.OwnSet
import Derived.Maps.OwnOps
import Derived.Maps.RangeWalk
import Derived.Maps.Ext
import Derived.WideKeyEntry
import Derived.Test.YteefnclkcnkbhaaWhA
import Derived.Test.YteefnclkcnkbhaaWhB
import Derived.Test.YteefnclkcnkbhaaWhC
import Derived.Test.YteefnclkcnkbhaaWhN
import Derived.Test.YteefnclkcnkbhaaWhKeys
import Derived.Test.YteefnclkcnkbhaaWhF
namespace Go.Proofs.Yteefnclkcnkbhaa.Wh
open Go.RowKit Go.Proofs.YteefnclkcnkbhaaW.PrintWords Go.Proofs.YteefnclkcnkbhaaW.PrintLast Go.Proofs.YteefnclkcnkbhaaW.PrintMore
attribute [local go_sem] max2_int min2_int max_two min_two max_three min_three max_four min_four   -- for this text's walks alone
set_option linter.unusedVariables false
set_option linter.unusedSimpArgs false



open Go.Maps Go.Sort Go.Shelf
/-! #### what 'fires' does, plainly: over the numbers of a slot, one by one -/
def slotKs (K : Nat) (s : Int) (L : TL) : List Int := (L.filter fun e => slotOf K e.2 == s).map (·.1)
def procF (now : Int) (L : TL) (P : List Int) (n : Int) : Option Tm := if n ∈ P then (get L n).bind (fire1 now) else get L n
def toldS (now : Int) (L : TL) (P : List Int) : List Int := P.filterMap fun n => (get L n).bind fun t => if t.due = now then some t.what else none
theorem procF_nil (now : Int) (L : TL) (n : Int) : procF now L [] n = get L n := by simp [procF]
theorem procF_snoc (now : Int) (L : TL) (P : List Int) (x : Int) (n : Int) : procF now L (P ++ [x]) n = upd (procF now L P) x ((get L x).bind (fire1 now)) n := by
  unfold upd procF
  by_cases h : n = x
  · subst h; simp
  · simp [h]
theorem toldS_snoc (now : Int) (L : TL) (P : List Int) (x : Int) : toldS now L (P ++ [x]) = toldS now L P ++ ((get L x).bind fun t => if t.due = now then some t.what else none).toList := by
  unfold toldS
  rw [List.filterMap_append]
  congr 1
theorem mem_slotKs {K : Nat} {s : Int} {L : TL} (hr : Rise L) {x : Int} : x ∈ slotKs K s L ↔ ∃ t, get L x = some t ∧ slotOf K t = s := by
  unfold slotKs
  rw [List.mem_map]
  constructor
  · rintro ⟨e, he, rfl⟩
    rw [List.mem_filter] at he
    exact ⟨e.2, mem_get hr he.1, by simpa using he.2⟩
  · rintro ⟨t, ht, hs⟩
    exact ⟨(x, t), List.mem_filter.2 ⟨get_mem ht, by simpa using hs⟩, rfl⟩
theorem slotKs_sorted {K : Nat} {s : Int} {L : TL} (hr : Rise L) : (slotKs K s L).Pairwise (· < ·) := by
  unfold slotKs
  rw [List.pairwise_map]
  exact List.Pairwise.filter _ hr
theorem slotKs_nodup {K : Nat} {s : Int} {L : TL} (hr : Rise L) : (slotKs K s L).Nodup := (slotKs_sorted hr).imp fun h => by omega
theorem slotKs_length (K : Nat) (s : Int) (L : TL) : (slotKs K s L).length ≤ L.length := by
  unfold slotKs
  rw [List.length_map]
  exact List.length_filter_le _ _
theorem sorted_is {ss ks : List Int} (h : ss.Perm ks) (hk : ks.Pairwise (· < ·)) : ss.mergeSort (fun x y => decide (x ≤ y)) = ks := by
  have h1 : (ss.mergeSort (fun x y => decide (x ≤ y))).Perm ks := (List.mergeSort_perm _ _).trans h
  have h2 := List.pairwise_mergeSort (le := fun (x y : Int) => decide (x ≤ y)) (fun a b c h1 h2 => by simp at *; omega) (fun a b => by simp; omega) ss
  refine List.Perm.eq_of_pairwise (le := fun x y => x ≤ y) (fun a b _ _ h1 h2 => by omega) (h2.imp fun h => by simpa using h) (hk.imp fun h => by omega) h1
theorem procF_fire {K : Nat} {now : Int} {L : TL} (hr : Rise L) (n : Int) : procF now L (slotKs K (now % (K : Int)) L) n = get (fireL now L) n := by
  rw [get_fireL hr]
  unfold procF
  by_cases h : n ∈ slotKs K (now % (K : Int)) L
  · rw [if_pos h]
  · rw [if_neg h]
    cases hg : get L n with
    | none => rfl
    | some t =>
      simp only [Option.bind_some, fire1]
      rw [if_neg]
      intro e
      exact h ((mem_slotKs hr).2 ⟨t, hg, by unfold slotOf; rw [e]⟩)
theorem toldS_aux {K : Nat} {now : Int} {L : TL} : ∀ M : TL, (∀ e ∈ M, get L e.1 = some e.2) → toldS now L (slotKs K (now % (K : Int)) M) = whats now M
  | [], _ => rfl
  | e :: M, h => by
    have ih := toldS_aux (K := K) (now := now) M (fun x hx => h x (by simp [hx]))
    have h1 := h e (by simp)
    unfold toldS slotKs whats at *
    by_cases hd : e.2.due = now
    · simp [slotOf, hd, h1] at ih ⊢
      exact ih
    · by_cases hs : slotOf K e.2 = now % (K : Int)
      · simp [hs, hd, h1] at ih ⊢
        exact ih
      · simp [hs, hd] at ih ⊢
        exact ih
theorem toldS_whats {K : Nat} {now : Int} {L : TL} (hr : Rise L) : toldS now L (slotKs K (now % (K : Int)) L) = whats now L := toldS_aux L fun e he => mem_get hr he
theorem cut_snoc (l : List Int) (x : Int) (h : l.length < 65536) : cut (l ++ [x]) = cut l ++ [x] := by
  unfold cut
  rw [List.take_of_length_le (by simp; omega), List.take_of_length_le (by omega)]
theorem cut_full (l m : List Int) (h : 65536 ≤ l.length) : cut (l ++ m) = cut l := by
  unfold cut
  rw [List.take_append_of_le_length h]
theorem cut_length (l : List Int) : (cut l).length ≤ 65536 := by unfold cut; rw [List.length_take]; omega
theorem cut_lt {l : List Int} (h : (cut l).length < 65536) : l.length < 65536 := by unfold cut at h; rw [List.length_take] at h; omega
theorem cut_ge {l : List Int} (h : ¬ (cut l).length < 65536) : 65536 ≤ l.length := by unfold cut at h; rw [List.length_take] at h; omega
theorem cut_cut (l m : List Int) : cut (cut l ++ m) = cut (l ++ m) := by
  by_cases h : l.length ≤ 65536
  · unfold cut; rw [List.take_of_length_le (l := l) h]
  · rw [cut_full l m (by omega)]
    unfold cut
    rw [List.take_append_of_le_length (by rw [List.length_take]; omega), List.take_take]
    simp
theorem row_move {W X : World} {base : Nat} {e : TypeId} {s : Nat} {v : Value} {n : Nat} {xs : List Value} (h : W.ownsRow base e s v n xs) (hk : ∀ k, v.ownBlock = some k → X.heap[k]? = W.heap[k]?) : X.ownsRow base e s v n xs := by
  refine ⟨h.1, ?_⟩
  rcases h.2 with hn | ⟨g, cap, cur, rfl, hb, hgg, rest⟩
  · exact .inl hn
  · exact .inr ⟨g, cap, cur, rfl, hb, (hk g rfl).trans hgg, rest⟩
theorem row_only {W X : World} {base : Nat} {e : TypeId} {s : Nat} {v : Value} {n : Nat} {xs : List Value} (h : W.ownsRow base e s v n xs) {A : Nat → Prop} (ho : Only A W X) (hA : ∀ k, v.ownBlock = some k → ¬ A k) : X.ownsRow base e s v n xs :=
  row_move h fun k hk => ho.block k (h.lt k hk).2 (hA k hk)
/-- the keys of a slot's map, sorted -/
theorem slot_sorted {b : Bl} {W : World} {L : TL} {i n : Nat} {M : DU} (hown : W.ownsMap Try.prog 3 timR (b.mb i) n M) (hm : MapIs M (slotF b.K i (get L))) (hr : Rise L) {ss : List Int} (hs : ss.Perm (intKeys M)) :
    ss.mergeSort (fun x y => decide (x ≤ y)) = slotKs b.K (i : Int) L := by
  refine sorted_is (hs.trans ?_) (slotKs_sorted hr)
  obtain ⟨es, rfl, hp, hk⟩ := keys_int hown
  refine (perm_intKeys hp hk (slotKs_nodup hr) fun x => ?_).symm
  rw [show (Lit.int .i64 x) = kl x from rfl, (hm x).1, mem_slotKs hr]
  unfold slotF
  cases get L x with
  | none => simp
  | some t => by_cases h : slotOf b.K t = (i : Int) <;> simp [h]
/-- the timers at a moment that has come: none is late -/
structure Ok1 (now last : Int) (L : TL) : Prop where
  rise : Rise L
  len : L.length ≤ 1024
  num : ∀ e ∈ L, 1 ≤ e.1 ∧ e.1 ≤ last
  due : ∀ e ∈ L, now ≤ e.2.due ∧ e.2.due ≤ now + 4294967296
  per : ∀ e ∈ L, 0 ≤ e.2.period ∧ e.2.period ≤ 4294967296
  wh : ∀ e ∈ L, (Lit.int .i64 e.2.what).wf = true
  now0 : 0 ≤ now
  now1 : now ≤ 4611686018427387904
  last0 : 0 ≤ last
  last1 : last ≤ 4611686018427387904
theorem slot_size {b : Bl} {W : World} {L : TL} {i n : Nat} {M : DU} (hown : W.ownsMap Try.prog 3 timR (b.mb i) n M) (hm : MapIs M (slotF b.K i (get L))) (hr : Rise L) (hl : L.length ≤ 1024) : Go.Maps.size M ≤ 1024 :=
  size_le hown hm (fin_get hr hl) slot_some
theorem proc_fin {now : Int} {L : TL} (hr : Rise L) {m : Nat} (hl : L.length ≤ m) (P : List Int) : Fin (procF now L P) m :=
  ⟨L.map (·.1), rise_nodup hr, by rw [List.length_map]; exact hl, fun x hx => get_isSome x |>.1 (by
    unfold procF at hx
    cases hg : get L x with
    | none => rw [hg] at hx; split at hx <;> cases hx
    | some t => rfl)⟩
theorem fin_upd {F : Int → Option Tm} {m : Nat} (h : Fin F m) (n : Int) : Fin (upd F n none) m := by
  obtain ⟨ks, h1, h2, h3⟩ := h
  refine ⟨ks, h1, h2, fun x hx => h3 x ?_⟩
  unfold upd at hx
  split at hx
  · cases hx
  · exact hx
end Go.Proofs.Yteefnclkcnkbhaa.Wh
