/- Maps that a call owns, told entry by entry: what lookup, store, delete and len do to the list of entries. For any program. -/
import Derived.MapKept
import Derived.WalkKit
import Derived.Laws.StructEq
import Derived.ChangeMaps5
import Derived.OwnWalk
import Derived.Maps.OwnSet
namespace Go.Proofs.Yteefnclkcnkbhaa.Raw
open Go.ChangeMaps Go.MapKept Go.RowKit
set_option linter.unusedVariables false
set_option linter.unusedSimpArgs false
section
variable {κ ν : Type}
def ent (enc : κ → Value) (ev : ν → Value) (e : κ × ν × Nat) : MapEntry := ⟨enc e.1, ev e.2.1, e.2.2⟩
/-- Block b is the map of just these entries. -/
def MapIs (w : World) (enc : κ → Value) (ev : ν → Value) (b : Nat) (es : List (κ × ν × Nat)) (clock : Nat) : Prop :=
  w.heap[b]? = some (.map (es.map (ent enc ev)).toArray clock)
theorem map_modify_ent (enc : κ → Value) (ev : ν → Value) (v : ν) (k : κ) : ∀ (es : List (κ × ν × Nat)) (i : Nat) (n : Nat) (u : ν), es[i]? = some (k, u, n) →
    (es.map (ent enc ev)).modify i (fun e => { e with key := enc k, val := ev v }) = (es.modify i (fun e => (e.1, v, e.2.2))).map (ent enc ev)
  | [], i, _, _, h => by simp at h
  | e :: es, 0, n, u, h => by
    simp only [List.getElem?_cons_zero, Option.some.injEq] at h
    subst h
    rfl
  | e :: es, i + 1, n, u, h => by
    simp only [List.getElem?_cons_succ] at h
    simp only [List.map_cons, List.modify_succ_cons]
    rw [map_modify_ent enc ev v k es i n u h]
theorem mapIs_made (w : World) (enc : κ → Value) (ev : ν → Value) : MapIs (w.alloc (.map #[] 0)) enc ev w.heap.size [] 0 := by
  unfold MapIs
  exact (MapKept.heap_alloc w _).1
theorem MapIs.lt {w : World} {enc : κ → Value} {ev : ν → Value} {b : Nat} {es : List (κ × ν × Nat)} {clock : Nat} (h : MapIs w enc ev b es clock) : b < w.heap.size := (Array.getElem?_eq_some_iff.1 h).1
theorem MapIs.kept {w w' : World} {enc : κ → Value} {ev : ν → Value} {b : Nat} {es : List (κ × ν × Nat)} {clock : Nat} {row : Option Nat} (h : MapIs w enc ev b es clock) (hg : w.grownBy w' row) (hne : some b ≠ row) : MapIs w' enc ev b es clock :=
  (hg.block b h.lt hne).trans h
theorem MapIs.below {w w' : World} {enc : κ → Value} {ev : ν → Value} {b : Nat} {es : List (κ × ν × Nat)} {clock : Nat} (h : MapIs w enc ev b es clock) (hb : Below w.heap.size w w') : MapIs w' enc ev b es clock :=
  (hb.block b h.lt).trans h
theorem map_erase (f : κ → ν) : ∀ (l : List κ) (i : Nat), (l.map f).eraseIdx i = (l.eraseIdx i).map f
  | [], _ => by simp
  | x :: l, 0 => by simp
  | x :: l, i + 1 => by simp [map_erase f l i]
theorem map_fst_modify (v : ν) : ∀ (es : List (κ × ν × Nat)) (i : Nat), (es.modify i (fun e => (e.1, v, e.2.2))).map (·.1) = es.map (·.1)
  | [], i => by simp
  | e :: es, 0 => by simp
  | e :: es, i + 1 => by simp [List.modify_succ_cons, map_fst_modify v es i]
theorem run_maplen {P : Program} {t kt et ty : TypeId} (ht : P.underlying t = some (.map kt et)) {enc : κ → Value} {ev : ν → Value} {w : World} {b : Nat} {es : List (κ × ν × Nat)} {clock : Nat}
    (h : MapIs w enc ev b es clock) : (Builtin.len_ #[t] ty #[.map (some b)]).run P w = .ok (goInt es.length) w := by
  unfold MapIs at h
  simp [Builtin.len_, run_underlying ht, MapKept.run_getObj_map h]
end
section
variable {P : Program} {κ ν : Type} [DecidableEq κ]

/-- Keys of one type, told apart by what they stand for. -/
structure KeyAt (P : Program) (kt : TypeId) (enc : κ → Value) : Prop where
  check : ∀ (em : Bool) (x : κ) (w : World), (Instr.checkKey em 10000 kt (enc x)).run P w = .ok () w
  same : ∀ (x y : κ) (w : World), (Op.equal kt (enc x) (enc y)).run P w = .ok (decide (x = y)) w
  now : ∃ td, P.underlying kt = some td ∧ ((∀ x y, Instr.sameNow td (enc x) (enc y) = some (decide (x = y))) ∨ (∀ x y, Instr.sameNow td (enc x) (enc y) = none))
  bits : ∀ x, Instr.sameBits 10000 (enc x) (enc x) = true

/-- the first entry at a key, with its place -/
def findE (k : κ) : List (κ × ν × Nat) → Nat → Option (Nat × ν)
  | [], _ => none
  | e :: es, i => if k = e.1 then some (i, e.2.1) else findE k es (i + 1)

theorem run_findAsking {kt : TypeId} {enc : κ → Value} (K : KeyAt P kt enc) (ev : ν → Value) (k : κ) (w : World) : ∀ (es : List (κ × ν × Nat)) (i : Nat),
    (Instr.findAsking kt (enc k) (es.map (ent enc ev)) i).run P w = .ok ((findE k es i).map fun p => (p.1, ev p.2)) w
  | [], i => by simp [Instr.findAsking, findE]
  | e :: es, i => by
    have ih := run_findAsking K ev k w es (i + 1)
    simp only [List.map_cons, Instr.findAsking, Sem.run_bind, ent, K.same, Result.andThen_ok, findE]
    by_cases h : k = e.1
    · simp [h]
    · simp [h, ih]
theorem findNow_some {td : TypeDesc} {enc : κ → Value} (ev : ν → Value) (h : ∀ x y, Instr.sameNow td (enc x) (enc y) = some (decide (x = y))) (k : κ) : ∀ (es : List (κ × ν × Nat)) (i : Nat),
    Instr.findNow td (enc k) (es.map (ent enc ev)) i = some ((findE k es i).map fun p => (p.1, ev p.2))
  | [], i => by simp [Instr.findNow, findE]
  | e :: es, i => by
    have ih := findNow_some ev h k es (i + 1)
    simp only [List.map_cons, Instr.findNow, ent, h, findE]
    by_cases h : k = e.1
    · simp [h]
    · simp [h, ih]
theorem run_findKey {kt : TypeId} {enc : κ → Value} (K : KeyAt P kt enc) (ev : ν → Value) (k : κ) (w : World) (es : List (κ × ν × Nat)) :
    (Instr.findKey kt (enc k) (es.map (ent enc ev))).run P w = .ok ((findE k es 0).map fun p => (p.1, ev p.2)) w := by
  obtain ⟨td, ht, h | h⟩ := K.now
  · simp [Instr.findKey, run_underlying ht, findNow_some ev h k es 0]
  · cases es with
    | nil => simp [Instr.findKey, run_underlying ht, Instr.findNow, findE]
    | cons e es =>
      have hn : Instr.findNow td (enc k) ((e :: es).map (ent enc ev)) 0 = none := by simp [Instr.findNow, ent, h]
      have := run_findAsking K ev k w (e :: es) 0
      simp only [Instr.findKey, Sem.run_bind, run_underlying ht, Result.andThen_ok, hn]
      exact this

/-- what a key leads to -/
def getE (es : List (κ × ν × Nat)) (k : κ) : Option ν := (findE k es 0).map (·.2)
theorem run_look {t kt et : TypeId} {enc : κ → Value} (K : KeyAt P kt enc) (ht : P.underlying t = some (.map kt et)) {ev : ν → Value} {w : World} {b : Nat} {es : List (κ × ν × Nat)} {clock : Nat} {z : Value}
    (h : MapIs w enc ev b es clock) (hz : (zeroValue et).run P w = .ok z w) (k : κ) (c : Bool) :
    (Instr.lookup t (.map (some b)) (enc k) c).run P w = .ok (if c then .tuple #[((getE es k).map ev).getD z, .bool (getE es k).isSome] else ((getE es k).map ev).getD z) w := by
  unfold MapIs at h
  simp only [Instr.lookup, Sem.run_bind, run_underlying ht, Result.andThen_ok, MapKept.run_getObj_map h, Sem.run_pure, K.check, List.toList_toArray, run_findKey K, getE]
  cases hf : findE k es 0 with
  | none => simp [hz]
  | some p => simp

/-- the entries behind a store -/
def putE (k : κ) (v : ν) (es : List (κ × ν × Nat)) (clock : Nat) : List (κ × ν × Nat) × Nat :=
  match findE k es 0 with
  | some (i, _) => (es.modify i (fun e => (e.1, v, e.2.2)), clock)
  | none => (es ++ [(k, v, clock)], clock + 1)
theorem findE_at (k : κ) : ∀ (es : List (κ × ν × Nat)) (i j : Nat) (v : ν), findE k es i = some (j, v) → i ≤ j ∧ ∃ n, es[j - i]? = some (k, v, n)
  | [], _, _, _, h => by simp [findE] at h
  | e :: es, i, j, v, h => by
    unfold findE at h
    by_cases hk : k = e.1
    · rw [if_pos hk] at h
      injection h with h
      injection h with h1 h2
      subst h1 h2 hk
      exact ⟨Nat.le_refl _, e.2.2, by simp⟩
    · rw [if_neg hk] at h
      obtain ⟨h1, n, h2⟩ := findE_at k es (i + 1) j v h
      refine ⟨by omega, n, ?_⟩
      rw [show j - i = (j - (i + 1)) + 1 from by omega, List.getElem?_cons_succ]
      exact h2
theorem run_put {t kt et : TypeId} {enc : κ → Value} (K : KeyAt P kt enc) (ht : P.underlying t = some (.map kt et)) {ev : ν → Value} {w : World} {b : Nat} {es : List (κ × ν × Nat)} {clock : Nat}
    (h : MapIs w enc ev b es clock) (k : κ) (v : ν) :
    ∃ w', (Instr.mapUpdate t (.map (some b)) (enc k) (ev v)).run P w = .ok () w' ∧ MapIs w' enc ev b (putE k v es clock).1 (putE k v es clock).2 ∧ w.grownBy w' (some b) := by
  have h0 := h
  unfold MapIs at h
  have fin : ∀ (es' : List (κ × ν × Nat)) (clock' : Nat), MapIs (setBlock w b (.map (es'.map (ent enc ev)).toArray clock')) enc ev b es' clock' ∧ w.grownBy (setBlock w b (.map (es'.map (ent enc ev)).toArray clock')) (some b) :=
    fun es' clock' => ⟨heap_setBlock_same h _, ⟨rfl, rfl, rfl, by simp [setBlock], fun i _ hi => heap_setBlock_other h _ (fun e => hi (by rw [e]))⟩⟩
  unfold putE
  cases hf : findE k es 0 with
  | none =>
    refine ⟨_, ?_, fin _ _⟩
    simp [Instr.mapUpdate, run_underlying ht, MapKept.run_getObj_map h, K.check, run_findKey K, hf, MapKept.run_setObj_map _ h, setBlock, ent]
  | some p =>
    obtain ⟨i, u⟩ := p
    obtain ⟨_, n, hn⟩ := findE_at k es 0 i u hf
    rw [Nat.sub_zero] at hn
    refine ⟨_, ?_, fin _ _⟩
    have hm := map_modify_ent enc ev v k es i n u hn
    have ha : (es.map (ent enc ev)).toArray.modify i (fun e => { e with key := enc k, val := ev v }) = ((es.modify i (fun e => (e.1, v, e.2.2))).map (ent enc ev)).toArray := by
      rw [← hm]
      apply Array.ext'
      simp
    have hk : (Option.map (fun e : MapEntry => e.key) ((es.map (ent enc ev)).toArray[i]?)).getD (enc k) = enc k := by
      simp [hn, ent]
    simp only [Instr.mapUpdate, Sem.run_bind, run_underlying ht, Result.andThen_ok, MapKept.run_getObj_map h, K.check, List.toList_toArray, run_findKey K, hf, Option.map_some]
    simp only [hk, Instr.keyThatStays, K.bits, if_true, Sem.run_pure, Result.andThen_ok, MapKept.run_setObj_map _ h, ha, setBlock]

/-- the entries behind a delete -/
def delE (k : κ) (es : List (κ × ν × Nat)) : List (κ × ν × Nat) :=
  match findE k es 0 with
  | some (i, _) => es.eraseIdx i
  | none => es
theorem run_del {t kt et ty : TypeId} {enc : κ → Value} (K : KeyAt P kt enc) (ht : P.underlying t = some (.map kt et)) {ev : ν → Value} {w : World} {b : Nat} {es : List (κ × ν × Nat)} {clock : Nat}
    (h : MapIs w enc ev b es clock) (k : κ) (a2 : TypeId) :
    ∃ w', (Builtin.delete_ #[t, a2] ty #[.map (some b), enc k]).run P w = .ok (.tuple #[]) w' ∧ MapIs w' enc ev b (delE k es) clock ∧ w.grownBy w' (some b) := by
  unfold MapIs at h
  have fin : ∀ (es' : List (κ × ν × Nat)) (clock' : Nat), MapIs (setBlock w b (.map (es'.map (ent enc ev)).toArray clock')) enc ev b es' clock' ∧ w.grownBy (setBlock w b (.map (es'.map (ent enc ev)).toArray clock')) (some b) :=
    fun es' clock' => ⟨heap_setBlock_same h _, ⟨rfl, rfl, rfl, by simp [setBlock], fun i _ hi => heap_setBlock_other h _ (fun e => hi (by rw [e]))⟩⟩
  unfold delE
  cases hf : findE k es 0 with
  | none =>
    refine ⟨_, ?_, fin _ _⟩
    simp [Builtin.delete_, run_underlying ht, MapKept.run_getObj_map h, K.check, run_findKey K, hf, MapKept.run_setObj_map _ h, setBlock]
  | some p =>
    obtain ⟨i, u⟩ := p
    obtain ⟨_, n, hn⟩ := findE_at k es 0 i u hf
    rw [Nat.sub_zero] at hn
    have hi : i < es.length := (List.getElem?_eq_some_iff.1 hn).1
    have ha : (es.map (ent enc ev)).toArray.eraseIdxIfInBounds i = ((es.eraseIdx i).map (ent enc ev)).toArray := by
      unfold Array.eraseIdxIfInBounds
      rw [dif_pos (by simpa using hi)]
      apply Array.ext'
      simp [map_erase]
    refine ⟨_, ?_, fin _ _⟩
    simp [Builtin.delete_, run_underlying ht, MapKept.run_getObj_map h, K.check, run_findKey K, hf, MapKept.run_setObj_map _ h, setBlock, map_erase]
/-! ### what the entries say, key by key -/
theorem findE_none (k : κ) : ∀ (es : List (κ × ν × Nat)) (i : Nat), findE k es i = none ↔ ∀ e ∈ es, e.1 ≠ k
  | [], _ => by simp [findE]
  | e :: es, i => by
    unfold findE
    by_cases h : k = e.1
    · simp [h]
    · rw [if_neg h, findE_none k es (i + 1)]
      simp [Ne.symm h]
theorem findE_shift (k : κ) : ∀ (es : List (κ × ν × Nat)) (i j : Nat), (findE k es i).map (·.2) = (findE k es j).map (·.2)
  | [], _, _ => by simp [findE]
  | e :: es, i, j => by
    unfold findE
    by_cases h : k = e.1
    · simp [h]
    · rw [if_neg h, if_neg h, findE_shift k es (i + 1) (j + 1)]
theorem getE_cons (e : κ × ν × Nat) (es : List (κ × ν × Nat)) (k : κ) : getE (e :: es) k = if k = e.1 then some e.2.1 else getE es k := by
  unfold getE
  rw [findE]
  by_cases h : k = e.1
  · simp [h]
  · rw [if_neg h, if_neg h, findE_shift k es 1 0]
theorem getE_append (es fs : List (κ × ν × Nat)) (k : κ) : getE (es ++ fs) k = (getE es k).or (getE fs k) := by
  induction es with
  | nil => simp [getE, findE]
  | cons e es ih =>
    rw [List.cons_append, getE_cons, getE_cons, ih]
    by_cases h : k = e.1 <;> simp [h]
theorem getE_none (es : List (κ × ν × Nat)) (k : κ) : getE es k = none ↔ ∀ e ∈ es, e.1 ≠ k := by
  unfold getE
  rw [Option.map_eq_none_iff, findE_none]
theorem getE_modify (k : κ) (v : ν) : ∀ (es : List (κ × ν × Nat)) (i : Nat) (u : ν) (_n k0 : Nat), findE k es k0 = some (i + k0, u) → ∀ q, getE (es.modify i (fun e => (e.1, v, e.2.2))) q = if q = k then some v else getE es q
  | [], _, _, _, _, h, _ => by simp [findE] at h
  | e :: es, i, u, n, k0, h, q => by
    unfold findE at h
    by_cases hk : k = e.1
    · rw [if_pos hk] at h
      injection h with h
      injection h with h1 _
      have hi : i = 0 := by omega
      subst hi
      simp only [List.modify_zero_cons, getE_cons, hk]
      by_cases hq : q = e.1 <;> simp [hq]
    · rw [if_neg hk] at h
      have := (findE_at k es (k0 + 1) _ _ h).1
      obtain ⟨j, rfl⟩ : ∃ j, i = j + 1 := ⟨i - 1, by omega⟩
      have ih := getE_modify k v es j u n (k0 + 1) (by rw [h]; congr 2; omega) q
      simp only [List.modify_succ_cons, getE_cons, ih]
      by_cases hq : q = e.1
      · subst hq; simp [Ne.symm hk]
      · simp [hq]
theorem getE_put (es : List (κ × ν × Nat)) (clock : Nat) (k : κ) (v : ν) (q : κ) : getE (putE k v es clock).1 q = if q = k then some v else getE es q := by
  unfold putE
  cases hf : findE k es 0 with
  | none =>
    have hn := (findE_none k es 0).1 hf
    simp only [getE_append, getE_cons]
    by_cases hq : q = k
    · subst hq
      rw [(getE_none es q).2 hn]
      simp
    · simp [hq, getE, findE]
  | some p =>
    obtain ⟨i, u⟩ := p
    exact getE_modify k v es i u 0 0 (by simpa using hf) q
/-- no key stands twice -/
def Apart (es : List (κ × ν × Nat)) : Prop := (es.map (·.1)).Nodup
theorem Apart.put {es : List (κ × ν × Nat)} (h : Apart es) (k : κ) (v : ν) (clock : Nat) : Apart (putE k v es clock).1 := by
  unfold putE Apart at *
  cases hf : findE k es 0 with
  | none =>
    have hn := (findE_none k es 0).1 hf
    simp only [List.map_append, List.map_cons, List.map_nil]
    rw [List.nodup_append]
    refine ⟨h, by simp, ?_⟩
    intro a ha b hb
    simp only [List.mem_singleton] at hb
    subst hb
    obtain ⟨e, he, rfl⟩ := List.mem_map.1 ha
    exact hn e he
  | some p => simp only [map_fst_modify]; exact h
theorem keys_put (es : List (κ × ν × Nat)) (k : κ) (v : ν) (clock : Nat) : (putE k v es clock).1.map (·.1) = if k ∈ es.map (·.1) then es.map (·.1) else es.map (·.1) ++ [k] := by
  unfold putE
  cases hf : findE k es 0 with
  | none =>
    have hn := (findE_none k es 0).1 hf
    rw [if_neg (fun hk => by obtain ⟨e, he, h⟩ := List.mem_map.1 hk; exact hn e he h)]
    simp
  | some p =>
    obtain ⟨_, n, hn⟩ := findE_at k es 0 p.1 p.2 hf
    rw [if_pos (List.mem_map.2 ⟨_, List.mem_of_getElem? hn, rfl⟩)]
    simp only [map_fst_modify]
theorem Apart.del {es : List (κ × ν × Nat)} (h : Apart es) (k : κ) : Apart (delE k es) := by
  unfold delE Apart at *
  cases hf : findE k es 0 with
  | none => exact h
  | some p => exact h.sublist ((List.eraseIdx_sublist _ _).map _)
theorem delE_eq (k : κ) : ∀ (es : List (κ × ν × Nat)), Apart es → delE k es = es.filter (fun e => decide (e.1 ≠ k))
  | [], _ => by simp [delE, findE]
  | e :: es, h => by
    have hap : Apart es := (List.nodup_cons.1 h).2
    have hne : e.1 ∉ es.map (·.1) := (List.nodup_cons.1 h).1
    have ih := delE_eq k es hap
    by_cases hk : k = e.1
    · have h1 : delE k (e :: es) = es := by simp [delE, findE, hk]
      rw [h1, List.filter_cons]
      subst hk
      simp only [ne_eq, not_true_eq_false, decide_false, Bool.false_eq_true, if_false]
      rw [List.filter_eq_self.2]
      intro x hx
      simp only [decide_eq_true_eq]
      exact fun hc => hne (hc ▸ List.mem_map.2 ⟨x, hx, rfl⟩)
    · have h1 : delE k (e :: es) = e :: delE k es := by
        unfold delE
        rw [findE, if_neg hk]
        have hsh := findE_shift k es 1 0
        cases hf : findE k es 1 with
        | none => rw [(findE_none k es 0).2 ((findE_none k es 1).1 hf)]
        | some p =>
          obtain ⟨h1, n, h2⟩ := findE_at k es 1 p.1 p.2 hf
          have hf0 : ∃ q, findE k es 0 = some q ∧ q.1 + 1 = p.1 := by
            clear ih hsh hne hap h h2
            have key : ∀ (l : List (κ × ν × Nat)) (i j : Nat) (u : ν), findE k l (i + 1) = some (j, u) → findE k l i = some (j - 1, u) ∧ 1 ≤ j := by
              intro l
              induction l with
              | nil => intro i j u h; simp [findE] at h
              | cons x l ih =>
                intro i j u h
                unfold findE at h ⊢
                by_cases hx : k = x.1
                · rw [if_pos hx] at h ⊢
                  injection h with h
                  injection h with ha hb
                  subst ha hb
                  exact ⟨rfl, by omega⟩
                · rw [if_neg hx] at h ⊢
                  exact ih _ _ _ h
            obtain ⟨a, b⟩ := key es 0 p.1 p.2 hf
            exact ⟨_, a, by simp; omega⟩
          obtain ⟨q, hq, hqp⟩ := hf0
          rw [hq]
          show (e :: es).eraseIdx p.1 = e :: es.eraseIdx q.1
          rw [← hqp, List.eraseIdx_cons_succ]
      rw [h1, ih, List.filter_cons]
      simp [Ne.symm hk]
end
end Go.Proofs.Yteefnclkcnkbhaa.Raw
