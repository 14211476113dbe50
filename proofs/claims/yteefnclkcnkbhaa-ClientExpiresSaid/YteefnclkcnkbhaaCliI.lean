import Derived.Test.YteefnclkcnkbhaaProg
import Derived.Below
import Derived.Deep.Draws
import Derived.Deep.AppendLies
import Derived.Maps.AppendAt
import Derived.OwnWalk
import Derived.Laws.BytesArg
import Derived.Laws.MakeOwn
import Derived.Laws.OwnMore
import Derived.Deep.OwnRows
import Derived.Tactics
import Derived.Lib.ConvBytes
import Derived.Laws.Slices
import Derived.WalkKit
import Derived.KernelRfl
import Derived.RowKit3
import Derived.Deep.LoopGhost
import Derived.Deep.QuietTactic
import Derived.BigQuiet
import Derived.WideLaws
import Derived.Deep.DeepCutAuto
import Derived.Deep.CutBlock
import Derived.Deep.RegionHeld3
import Derived.Laws.Rows
import Derived.Lib.AppendStr
import Derived.ArgAppend
import Derived.Laws.IdiomCopy
import Derived.OrdersHeld
import Derived.Laws.BitsLemmas
import Derived.RowKit
import Derived.Test.YteefnclkcnkbhaaWWords
import Derived.Test.YteefnclkcnkbhaaWLast
import Derived.Test.YteefnclkcnkbhaaWTab
import Derived.Test.YteefnclkcnkbhaaWFour
import Derived.Test.YteefnclkcnkbhaaWQPut
import Derived.Test.YteefnclkcnkbhaaWApart
import Derived.Test.YteefnclkcnkbhaaWArr
import Derived.Test.YteefnclkcnkbhaaWZeros
import Derived.Test.YteefnclkcnkbhaaWFoot
import Derived.Test.YteefnclkcnkbhaaWKept
import Derived.Test.YteefnclkcnkbhaaWShare
import Derived.Test.YteefnclkcnkbhaaWN
import Derived.Test.YteefnclkcnkbhaaWFootNe
import Derived.Test.YteefnclkcnkbhaaWAt
import Derived.Test.YteefnclkcnkbhaaWEqStruct
import Derived.Test.YteefnclkcnkbhaaWRepsOne
import Derived.Test.YteefnclkcnkbhaaWInv
import Derived.Test.YteefnclkcnkbhaaWInvWords
import Derived.Test.YteefnclkcnkbhaaWGuard
import Derived.Test.YteefnclkcnkbhaaWNEv
import Derived.Test.YteefnclkcnkbhaaWMore
import Derived.Stop.BytesEq
import Derived.Deep.RegionLaw
import Derived.Laws.BitsAllLaws
import Derived.Lib.SliceRun
import Derived.Deep.RegionWith
import Derived.StillTailTactics
import Derived.Laws.CopyOwn
import Derived.Test.YteefnclkcnkbhaaCliA
import Derived.Test.YteefnclkcnkbhaaCliB
import Derived.Test.YteefnclkcnkbhaaCliC
import Derived.Test.YteefnclkcnkbhaaCliD
import Derived.Test.YteefnclkcnkbhaaCliE
import Derived.Test.YteefnclkcnkbhaaCliF
import Derived.Test.YteefnclkcnkbhaaCliG
import Derived.Test.YteefnclkcnkbhaaCliH
namespace Go.Proofs.Yteefnclkcnkbhaa.GClientExpires
open Go.RowKit Go.Proofs.YteefnclkcnkbhaaW.PrintWords Go.Proofs.YteefnclkcnkbhaaW.PrintLast Go.Proofs.YteefnclkcnkbhaaW.PrintMore
attribute [local go_sem] max2_int min2_int max_two min_two max_three min_three max_four min_four   -- for this text's walks alone
set_option linter.unusedVariables false
set_option linter.unusedSimpArgs false



/-- nothing but block gd, and what is new, has turned -/
structure Om (gd : Nat) (w W : World) : Prop where
  os : W.os = w.os
  tape : W.tape = w.tape
  output : W.output = w.output
  size : w.heap.size ≤ W.heap.size
  block : ∀ k, k < w.heap.size → k ≠ gd → W.heap[k]? = w.heap[k]?
section
variable {gd : Nat} {w W X : World}
theorem Om.refl (gd : Nat) (w : World) : Om gd w w := ⟨rfl, rfl, rfl, Nat.le_refl _, fun _ _ _ => rfl⟩
theorem Om.trans (h : Om gd w W) (k : Om gd W X) : Om gd w X := ⟨k.os.trans h.os, k.tape.trans h.tape, k.output.trans h.output, Nat.le_trans h.size k.size, fun i hi hn => (k.block i (Nat.lt_of_lt_of_le hi h.size) hn).trans (h.block i hi hn)⟩
theorem Om.below (h : Om gd w W) (hb : Below W.heap.size W X) : Om gd w X := h.trans ⟨hb.os, hb.tape, hb.output, hb.size, fun i hi _ => hb.block i hi⟩
theorem Om.of_below (hb : Below w.heap.size w W) : Om gd w W := (Om.refl gd w).below hb
theorem Om.alloc (h : Om gd w W) (o : Obj) : Om gd w (W.alloc o) := h.below (below_alloc (Below.refl _ _) o)
theorem Om.drewN (h : Om gd w W) (m : Nat) : Om gd w (W.drewN m) := ⟨h.os, h.tape, h.output, h.size, h.block⟩
theorem Om.set (h : Om gd w W) (i : Nat) (v : Value) : Om gd w (W.setCell ⟨gd, i, none⟩ v) :=
  ⟨h.os, h.tape, h.output, Nat.le_trans h.size ((Below.refl 0 W).setCell (p := ⟨gd, i, none⟩) (Nat.zero_le _) v).size, fun k hk hn => (set_other W i v hn).trans (h.block k hk hn)⟩
theorem Om.setn (h : Om gd w W) {r : Nat} (hr : w.heap.size ≤ r) (i : Nat) (v : Value) : Om gd w (W.setCell ⟨r, i, none⟩ v) :=
  ⟨h.os, h.tape, h.output, Nat.le_trans h.size ((Below.refl 0 W).setCell (p := ⟨r, i, none⟩) (Nat.zero_le _) v).size, fun k hk hn => (set_other W i v (by show k ≠ r; omega)).trans (h.block k hk hn)⟩
theorem Om.blk (h : Om gd w W) {k : Nat} {o : Obj} (hk : w.heap[k]? = some o) (hn : k ≠ gd) : W.heap[k]? = some o := (h.block k (blk_lt hk) hn).trans hk
end
structure DS where
  waits : Int
  index : Int
  sub : Int
  b : Value
  turn : Int
  last : Bool
  size : Int
  res : Value
  code : Int
  has : Bool
def DS.cells (s : DS) : Array Value := #[.int .i64 s.waits, .int .u16 s.index, .int .u8 s.sub, s.b, .int .u8 s.turn, .bool s.last, .int .i64 s.size, s.res, .int .u32 s.code, .bool s.has]
def DAt (W : World) (g : Nat) (s : DS) : Prop := W.heap[g]? = some (.cells s.cells 42 (0, 0))
abbrev DS.zero : DS := ⟨0, 0, 0, .slice none 0 0, 0, false, 0, .slice none 0 0, 0, false⟩
theorem DAt.cell {W : World} {g : Nat} {s : DS} (h : DAt W g s) : W.cell? ⟨g, 0, none⟩ = some (.int .i64 s.waits) ∧ W.cell? ⟨g, 1, none⟩ = some (.int .u16 s.index) ∧ W.cell? ⟨g, 2, none⟩ = some (.int .u8 s.sub) ∧ W.cell? ⟨g, 3, none⟩ = some s.b ∧ W.cell? ⟨g, 4, none⟩ = some (.int .u8 s.turn) ∧ W.cell? ⟨g, 5, none⟩ = some (.bool s.last) ∧ W.cell? ⟨g, 6, none⟩ = some (.int .i64 s.size) ∧ W.cell? ⟨g, 7, none⟩ = some s.res ∧ W.cell? ⟨g, 8, none⟩ = some (.int .u32 s.code) ∧ W.cell? ⟨g, 9, none⟩ = some (.bool s.has) :=
  ⟨(blk_cell h 0).trans rfl, (blk_cell h 1).trans rfl, (blk_cell h 2).trans rfl, (blk_cell h 3).trans rfl, (blk_cell h 4).trans rfl, (blk_cell h 5).trans rfl, (blk_cell h 6).trans rfl, (blk_cell h 7).trans rfl, (blk_cell h 8).trans rfl, (blk_cell h 9).trans rfl⟩
theorem DAt.frozen {W : World} {g : Nat} {s : DS} (h : DAt W g s) : W.frozen? ⟨g, 0, none⟩ = false ∧ W.frozen? ⟨g, 1, none⟩ = false ∧ W.frozen? ⟨g, 2, none⟩ = false ∧ W.frozen? ⟨g, 3, none⟩ = false ∧ W.frozen? ⟨g, 4, none⟩ = false ∧ W.frozen? ⟨g, 5, none⟩ = false ∧ W.frozen? ⟨g, 6, none⟩ = false ∧ W.frozen? ⟨g, 7, none⟩ = false ∧ W.frozen? ⟨g, 8, none⟩ = false ∧ W.frozen? ⟨g, 9, none⟩ = false :=
  ⟨blk_frozen h 0, blk_frozen h 1, blk_frozen h 2, blk_frozen h 3, blk_frozen h 4, blk_frozen h 5, blk_frozen h 6, blk_frozen h 7, blk_frozen h 8, blk_frozen h 9⟩
theorem DAt.put0 {W : World} {g : Nat} {s : DS} (h : DAt W g s) (v : Int) : DAt (W.setCell ⟨g, 0, none⟩ (.int .i64 v)) g { s with waits := v } := blk_put h 0 _ rfl
theorem DAt.store {W : World} {g : Nat} {s : DS} (h : DAt W g s) (t : DS) : DAt ((((((((((W.setCell ⟨g, 0, none⟩ (.int .i64 t.waits)).setCell ⟨g, 1, none⟩ (.int .u16 t.index)).setCell ⟨g, 2, none⟩ (.int .u8 t.sub)).setCell ⟨g, 3, none⟩ t.b).setCell ⟨g, 4, none⟩ (.int .u8 t.turn)).setCell ⟨g, 5, none⟩ (.bool t.last)).setCell ⟨g, 6, none⟩ (.int .i64 t.size)).setCell ⟨g, 7, none⟩ t.res).setCell ⟨g, 8, none⟩ (.int .u32 t.code)).setCell ⟨g, 9, none⟩ (.bool t.has)) g t := by
  have h0 := blk_put (cs' := ({ s with waits := t.waits } : DS).cells) h 0 (.int .i64 t.waits) rfl
  have h1 := blk_put (cs' := ({ s with waits := t.waits, index := t.index } : DS).cells) h0 1 (.int .u16 t.index) rfl
  have h2 := blk_put (cs' := ({ s with waits := t.waits, index := t.index, sub := t.sub } : DS).cells) h1 2 (.int .u8 t.sub) rfl
  have h3 := blk_put (cs' := ({ s with waits := t.waits, index := t.index, sub := t.sub, b := t.b } : DS).cells) h2 3 t.b rfl
  have h4 := blk_put (cs' := ({ s with waits := t.waits, index := t.index, sub := t.sub, b := t.b, turn := t.turn } : DS).cells) h3 4 (.int .u8 t.turn) rfl
  have h5 := blk_put (cs' := ({ s with waits := t.waits, index := t.index, sub := t.sub, b := t.b, turn := t.turn, last := t.last } : DS).cells) h4 5 (.bool t.last) rfl
  have h6 := blk_put (cs' := ({ t with res := s.res, code := s.code, has := s.has } : DS).cells) h5 6 (.int .i64 t.size) rfl
  have h7 := blk_put (cs' := ({ t with code := s.code, has := s.has } : DS).cells) h6 7 t.res rfl
  have h8 := blk_put (cs' := ({ t with has := s.has } : DS).cells) h7 8 (.int .u32 t.code) rfl
  exact blk_put h8 9 _ rfl
theorem Om.store {gd : Nat} {w W : World} (h : Om gd w W) (t : DS) : Om gd w ((((((((((W.setCell ⟨gd, 0, none⟩ (.int .i64 t.waits)).setCell ⟨gd, 1, none⟩ (.int .u16 t.index)).setCell ⟨gd, 2, none⟩ (.int .u8 t.sub)).setCell ⟨gd, 3, none⟩ t.b).setCell ⟨gd, 4, none⟩ (.int .u8 t.turn)).setCell ⟨gd, 5, none⟩ (.bool t.last)).setCell ⟨gd, 6, none⟩ (.int .i64 t.size)).setCell ⟨gd, 7, none⟩ t.res).setCell ⟨gd, 8, none⟩ (.int .u32 t.code)).setCell ⟨gd, 9, none⟩ (.bool t.has)) :=
  (((((((((h.set 0 _).set 1 _).set 2 _).set 3 _).set 4 _).set 5 _).set 6 _).set 7 _).set 8 _).set 9 _
theorem fr8_ret (a b c d e f p q : Int) : ∃ x, Ending.returned (.agg #[.int .u8 a, .int .u8 b, .int .u8 c, .int .u8 d, .int .u8 e, .int .u8 f, .int .u8 p, .int .u8 q]) = .returned (.agg (fr8 x)) := by
  obtain ⟨x, hx⟩ := fr8_mk a b c d e f p q
  exact ⟨x, by rw [hx]⟩
theorem fr8_ret2 (a b c d e f p q : Int) (v : Value) : ∃ x, Ending.returned (.tuple #[.agg #[.int .u8 a, .int .u8 b, .int .u8 c, .int .u8 d, .int .u8 e, .int .u8 f, .int .u8 p, .int .u8 q], v]) = .returned (.tuple #[.agg (fr8 x), v]) := by
  obtain ⟨x, hx⟩ := fr8_mk a b c d e f p q
  exact ⟨x, by rw [hx]⟩
def RPost (gd : Nat) (w : World) (e : Ending) (w' : World) : Prop := (∃ x r, e = .returned (.tuple #[.agg (fr8 x), .int .i64 r])) ∧ Om gd w w'
theorem rEnd {gd : Nat} {w W : World} (hO : Om gd w W) {z : Nat} (hz : w.heap.size ≤ z) (a b c d e f p q r : Int) :
    RPost gd w (.returned (.tuple #[.agg #[.int .u8 a, .int .u8 b, .int .u8 c, .int .u8 d, .int .u8 e, .int .u8 f, .int .u8 p, .int .u8 q], .int .i64 r])) ((((((((W.setCell ⟨z, 0, none⟩ (.int .u8 a)).setCell ⟨z, 1, none⟩ (.int .u8 b)).setCell ⟨z, 2, none⟩ (.int .u8 c)).setCell ⟨z, 3, none⟩ (.int .u8 d)).setCell ⟨z, 4, none⟩ (.int .u8 e)).setCell ⟨z, 5, none⟩ (.int .u8 f)).setCell ⟨z, 6, none⟩ (.int .u8 p)).setCell ⟨z, 7, none⟩ (.int .u8 q)) := by
  obtain ⟨x, hx⟩ := fr8_ret2 a b c d e f p q (.int .i64 r)
  exact ⟨⟨x, r, hx⟩, (((((((hO.setn hz 0 _).setn hz 1 _).setn hz 2 _).setn hz 3 _).setn hz 4 _).setn hz 5 _).setn hz 6 _).setn hz 7 _⟩
set_option maxHeartbeats 8000000 in
set_option maxRecDepth 100000 in
theorem rframe_calls (f i s n : Int) (w : World) :
    Calls Try.prog 117 #[.int .u8 f, .int .u16 i, .int .u8 s, .int .u32 n] w fun e w' => (∃ x, e = .returned (.agg (fr8 x))) ∧ Below w.heap.size w w' := by
  have HB := Aside0.mk (Below.refl w.heap.size w)
  go_enter Try.func117, Try.ntmps117
  go_wp2_with fail
  refine bodyPost_ret (results_single rfl (.cell _ 43 _ (0, 0) _ rfl (blk_new _ _) Try.underlying43 rfl (by kernel_rfl) .nil)) rfl ?_
  exact ⟨fr8_ret _ _ _ _ _ _ _ _, below_alloc HB.out _⟩
def RP (gd : Nat) (t : DS) (w W : World) : Prop := Om gd w W ∧ DAt W gd t ∧ W.heap[w.heap.size]? = some (.cells zero8 43 (0, 0))
theorem rStop {gd : Nat} {t : DS} {w W : World} {P : Program} {ops : Array Oper} {rest : List Oper} {a : Act} {Q : Exit → Act → World → Prop} (h : RP gd t w W) (k : ∀ W, RP gd t w W → wpList P ops Q rest a W) : id (wpList P ops Q rest a W) := k W h
theorem rStopC {gd : Nat} {t : DS} {w W : World} {P : Program} {f : FuncId} {args : Array Value} {Q : Ending → World → Prop} (h : RP gd t w W) (k : ∀ W, RP gd t w W → Calls P f args W Q) : Calls P f args W Q := k W h
theorem rp_mk {gd : Nat} {w : World} {s t : DS} (h : DAt w gd s) : RP gd t w (((((((((((w.setCell ⟨gd, 0, none⟩ (.int .i64 t.waits)).setCell ⟨gd, 1, none⟩ (.int .u16 t.index)).setCell ⟨gd, 2, none⟩ (.int .u8 t.sub)).setCell ⟨gd, 3, none⟩ t.b).setCell ⟨gd, 4, none⟩ (.int .u8 t.turn)).setCell ⟨gd, 5, none⟩ (.bool t.last)).setCell ⟨gd, 6, none⟩ (.int .i64 t.size)).setCell ⟨gd, 7, none⟩ t.res).setCell ⟨gd, 8, none⟩ (.int .u32 t.code)).setCell ⟨gd, 9, none⟩ (.bool t.has)).alloc (Obj.cells #[.int .u8 0, .int .u8 0, .int .u8 0, .int .u8 0, .int .u8 0, .int .u8 0, .int .u8 0, .int .u8 0] 43)) :=
  ⟨((Om.refl gd w).store t).alloc _, blk_alloc (h.store t) _, alloc_blk w.heap.size (by rw [size_set, size_set, size_set, size_set, size_set, size_set, size_set, size_set, size_set, size_set]) rfl⟩
theorem rp_store {gd : Nat} {w W : World} {s t : DS} (h : RP gd s w W) (hg : gd < w.heap.size) : RP gd t w ((((((((((W.setCell ⟨gd, 0, none⟩ (.int .i64 t.waits)).setCell ⟨gd, 1, none⟩ (.int .u16 t.index)).setCell ⟨gd, 2, none⟩ (.int .u8 t.sub)).setCell ⟨gd, 3, none⟩ t.b).setCell ⟨gd, 4, none⟩ (.int .u8 t.turn)).setCell ⟨gd, 5, none⟩ (.bool t.last)).setCell ⟨gd, 6, none⟩ (.int .i64 t.size)).setCell ⟨gd, 7, none⟩ t.res).setCell ⟨gd, 8, none⟩ (.int .u32 t.code)).setCell ⟨gd, 9, none⟩ (.bool t.has)) := by
  have hne : w.heap.size ≠ gd := by omega
  refine ⟨h.1.store t, h.2.1.store t, ?_⟩
  rw [set_other _ 9 _ hne, set_other _ 8 _ hne, set_other _ 7 _ hne, set_other _ 6 _ hne, set_other _ 5 _ hne, set_other _ 4 _ hne, set_other _ 3 _ hne, set_other _ 2 _ hne, set_other _ 1 _ hne, set_other _ 0 _ hne]
  exact h.2.2
theorem rp_put0 {gd : Nat} {w W : World} {s : DS} (h : RP gd s w W) (hg : gd < w.heap.size) (v : Int) : RP gd { s with waits := v } w (W.setCell ⟨gd, 0, none⟩ (.int .i64 v)) :=
  ⟨h.1.set 0 _, h.2.1.put0 v, other_blk h.2.2 (by omega) 0 _⟩
theorem add_block (ad : Addr) (k : Nat) : (ad.add k).block = ad.block := by
  cases k with
  | zero => cases ad with | mk b o s => cases s <;> rfl
  | succ k => cases ad with | mk b o s => cases s <;> rfl
theorem om_src {n₀ gd : Nat} {w : World} {t : DS} {ad : Addr} {n : Nat} {v : Nat → Value} (h : DAt w gd t) (hn : n₀ ≤ gd) (hA : ∀ a, some ad = some a → a.block < n₀) (hs : ∀ j, j < n → w.cell? (ad.add j) = some (v j)) :
    ∀ W : World, Om gd w W → ∀ k, k < n → W.cell? (ad.add k) = some (v k) := fun W hO k hk => by
  have hb : (ad.add k).block = ad.block := add_block ad k
  have h1 := hA ad rfl
  have h2 := blk_lt h
  rw [World.cell?_of_block (w := w) (hO.block (ad.add k).block (by rw [hb]; omega) (by rw [hb]; omega))]
  exact hs k hk
theorem fr8_get {W : World} {r : Nat} {y : Nat → Int} (h : W.heap[r]? = some (.cells (fr8 y) 43 (0, 0))) {j : Nat} (hj : j < 8) : W.cell? ⟨r, j, none⟩ = some (.int .u8 (y j)) := by
  refine (blk_cell h j).trans ?_
  match j, hj with
  | 0, _ => rfl
  | 1, _ => rfl
  | 2, _ => rfl
  | 3, _ => rfl
  | 4, _ => rfl
  | 5, _ => rfl
  | 6, _ => rfl
  | 7, _ => rfl
def LP (gd rb : Nat) (w W : World) : Prop := Om gd w W ∧ (∃ y, W.heap[rb]? = some (.cells (fr8 y) 43 (0, 0))) ∧ W.heap[w.heap.size]? = some (.cells zero8 43 (0, 0))
theorem lp_put {gd rb : Nat} {w W : World} (h : LP gd rb w W) (hr : w.heap.size < rb) (k : Nat) (hk : k < 8) (v : Int) : LP gd rb w (W.setCell ⟨rb, k, none⟩ (.int .u8 v)) := by
  obtain ⟨h1, ⟨y, h2⟩, h3⟩ := h
  refine ⟨h1.setn (by omega) k _, ⟨fun j => if j = k then v else y j, blk_put h2 k _ ?_⟩, other_blk h3 (by omega) k _⟩
  match k, hk with
  | 0, _ => rfl
  | 1, _ => rfl
  | 2, _ => rfl
  | 3, _ => rfl
  | 4, _ => rfl
  | 5, _ => rfl
  | 6, _ => rfl
  | 7, _ => rfl
theorem rp_start {gd : Nat} {w : World} {t : DS} (h : DAt w gd t) : RP gd t w (w.alloc (Obj.cells #[.int .u8 0, .int .u8 0, .int .u8 0, .int .u8 0, .int .u8 0, .int .u8 0, .int .u8 0, .int .u8 0] 43)) := ⟨(Om.refl gd w).alloc _, blk_alloc h _, blk_new _ _⟩
set_option maxHeartbeats 8000000 in
set_option maxRecDepth 100000 in
theorem rread_calls (gd : Nat) (i s : Int) (w : World) (h : DAt w gd .zero) :
    Calls Try.prog 65 #[.pointer (some ⟨gd, 0, none⟩), .int .u16 i, .int .u8 s] w (RPost gd w) := by
  have hg := blk_lt h
  have HD := Aside0.mk h
  clear h
  obtain ⟨c0, c1, c2, c3, c4, c5, c6, c7, c8, c9⟩ := HD.out.cell
  obtain ⟨k0, k1, k2, k3, k4, k5, k6, k7, k8, k9⟩ := HD.out.frozen
  dsimp only at c0 c1 c2 c3 c4 c5 c6 c7 c8 c9
  go_enter Try.func65, Try.ntmps65
  go_wp2_with fail
  refine rStopC (rp_mk (t := ⟨4, i, s, .slice none 0 0, 0, false, -1, .slice none 0 0, 0, false⟩) HD.out) ?_
  clear HD c0 c1 c2 c3 c4 c5 c6 c7 c8 c9 k0 k1 k2 k3 k4 k5 k6 k7 k8 k9
  rintro W ⟨hm, hd, hz⟩
  have HM := Aside0.mk hm
  have HZ := Aside0.mk hz
  clear hm hd hz
  go_wp2_with (go_at_call 117; refine (rframe_calls _ _ _ _ _).mono ?_; rintro e w3 ⟨⟨x, rfl⟩, hb3⟩; have hz3 := (hb3.block _ (blk_lt HZ.out)).trans HZ.out; have hm3 := HM.out.below hb3; clear HZ HM; have HZ := Aside0.mk hz3; have HM := Aside0.mk hm3; clear hb3 hz3 hm3; obtain ⟨z0, z1, z2, z3, z4, z5, z6, z7⟩ := fr8_cell HZ.out; obtain ⟨f0, f1, f2, f3, f4, f5, f6, f7⟩ := fr8_frozen HZ.out; unfold fr8)
  refine bodyPost_ret (results_ct rfl _ _ _ 43 _ (0, 0) _ rfl (fr8_put HZ.out _ _ _ _ _ _ _ _) Try.underlying43 rfl (by kernel_rfl)) rfl ?_
  exact rEnd HM.out (Nat.le_refl _) _ _ _ _ _ _ _ _ _
set_option maxHeartbeats 8000000 in
set_option maxRecDepth 100000 in
theorem rfeed_calls (gd : Nat) (x : Nat → Int) (w : World) (h : DAt w gd .zero) :
    Calls Try.prog 67 #[.pointer (some ⟨gd, 0, none⟩), .agg (fr8 x)] w fun e w' => e = .returned (.tuple #[.agg zero8, .bool false]) ∧ Below w.heap.size w w' := by
  have hg := blk_lt h
  have HD := Aside0.mk h
  have HB := Aside0.mk (Below.refl w.heap.size w)
  clear h
  obtain ⟨c0, c1, c2, c3, c4, c5, c6, c7, c8, c9⟩ := HD.out.cell
  dsimp only at c0
  clear c1 c2 c3 c4 c5 c6 c7 c8 c9
  unfold fr8
  go_enter Try.func67, Try.ntmps67
  go_wp2_with fail
  refine bodyPost_ret (results_ct rfl _ _ _ 43 _ (0, 0) _ rfl (alloc_blk (w.heap.size + 1) (World.size_alloc _ _) rfl) Try.underlying43 rfl (by kernel_rfl)) rfl ?_
  exact ⟨rfl, below_alloc (below_alloc HB.out _) _⟩
set_option maxHeartbeats 8000000 in
set_option maxRecDepth 100000 in
theorem rtake_calls (gd : Nat) (w : World) (h : DAt w gd .zero) :
    Calls Try.prog 69 #[.pointer (some ⟨gd, 0, none⟩)] w fun e w' => e = .returned (.tuple #[.slice none 0 0, .int .u32 0, .bool false]) ∧ Om gd w w' := by
  have HD := Aside0.mk h
  have HM := Aside0.mk (Om.refl gd w)
  clear h
  obtain ⟨c0, c1, c2, c3, c4, c5, c6, c7, c8, c9⟩ := HD.out.cell
  obtain ⟨k0, k1, k2, k3, k4, k5, k6, k7, k8, k9⟩ := HD.out.frozen
  dsimp only at c7 c8 c9
  clear c0 c1 c2 c3 c4 c5 c6 k0 k1 k2 k3 k4 k5 k6
  go_enter Try.func69, Try.ntmps69
  go_wp2_with fail
  go_quiet (fail)
  go_wp2_with fail
  go_ret3
  exact ⟨rfl, (((HM.out.drewN _).set 7 _).set 8 _).set 9 _⟩
set_option maxHeartbeats 8000000 in
set_option maxRecDepth 100000 in
theorem rwrite_calls (n₀ gd : Nat) (i s : Int) (A : Option Addr) (c : Nat) (bs : List Int) (w : World) (h : DAt w gd .zero) (hn : n₀ ≤ gd) (hC : (Kd.int .u8).C w A bs.length bs) (hA : 0 < bs.length → ∀ ad, A = some ad → ad.block < n₀) (hl : bs.length ≤ 140737488351232) :
    Calls Try.prog 63 #[.pointer (some ⟨gd, 0, none⟩), .int .u16 i, .int .u8 s, .slice A bs.length c] w (RPost gd w) := by
  have hg_ := blk_lt h
  have HD := Aside0.mk h
  have HC := Aside0.mk hC
  have HA := Aside0.mk hA
  have HL := Aside0.mk hl
  clear h hC hA
  by_cases hbig : 65536 < bs.length
  · obtain ⟨c0, c1, c2, c3, c4, c5, c6, c7, c8, c9⟩ := HD.out.cell
    dsimp only at c0
    clear c1 c2 c3 c4 c5 c6 c7 c8 c9
    go_enter Try.func63, Try.ntmps63
    go_wp2_with fail
    refine bodyPost_ret (results_ct rfl _ _ _ 43 _ (0, 0) _ rfl (blk_new _ _) Try.underlying43 rfl (by kernel_rfl)) rfl ?_
    obtain ⟨x, hx⟩ := fr8_ret2 0 0 0 0 0 0 0 0 (.int .i64 2)
    exact ⟨⟨x, 2, hx⟩, (Om.refl gd w).alloc _⟩
  · obtain ⟨c0, c1, c2, c3, c4, c5, c6, c7, c8, c9⟩ := HD.out.cell
    dsimp only at c0
    clear c1 c2 c3 c4 c5 c6 c7 c8 c9
    have hm : bs.length = 0 ∨ 4 < bs.length ∨ bs.length = 1 ∨ bs.length = 2 ∨ bs.length = 3 ∨ bs.length = 4 := by omega
    have hle : bs.length ≤ 65536 := by omega
    clear hbig
    have hbg : decide ((65536 : Int) < (bs.length : Int)) = false := decide_eq_false (by omega)
    by_cases hz : bs.length = 0
    · have b0 : ((bs.length : Int) == 0) = true := by rw [hz]; rfl
      clear hz hm
      go_enter Try.func63, Try.ntmps63
      go_wp2_with (first | ((with_reducible refine gate_dst (N := 34) rfl ?_); refine Kd.R_lit (Kd.int .u8) _ 5 ?hg (N := 34) ?hd (xs := ([] : List Int)) (inner := []) (ok := fun _ => True) (okp := fun _ => True) ?hr ?hp (fun _ hk => hk) trivial (Below.refl _ _) (Nat.le_refl _) (by simp) ?_; (case hd => rfl); (case hg => rfl); (case hr => first | (go_simp; done) | (go_simp; rfl)); (case hp => exact (Reps.none _ _)); intro v1 w1 ho1 hb1 hg_ hnew_; clear hg_ hnew_; have HO := Aside0.mk ho1; have HB1 := Aside0.mk hb1; clear ho1 hb1) | ((with_reducible refine gate_builtin (b := .append) (xs := #[.tmp 34, .tmp 35]) rfl ?_); at_builtin; refine Kd.R_append_row (Value.int .u8) (0 : Int) (h1 := fun _ => rfl) (w0 := w.alloc (Obj.cells #[.int .u8 0, .int .u8 0, .int .u8 0, .int .u8 0, .int .u8 0, .int .u8 0, .int .u8 0, .int .u8 0] 43)) (w.alloc (Obj.cells #[.int .u8 0, .int .u8 0, .int .u8 0, .int .u8 0, .int .u8 0, .int .u8 0, .int .u8 0, .int .u8 0] 43)).heap.size rfl (.tmp 34) (.tmp 35) 23 5 (.int .u8 0) 1 rfl Try.underlying23 info5 rfl (by decide) v1 ([] : List Int) bs _ bs.length c (fun _ => True) rfl rfl (fun _ _ => trivial) ?aO ?aR ?aB ?aS ?aL ?_; (case aO => exact HO.out); (case aR => exact Kd.C_below (Kd.C_alloc HC.out _) HB1.out); (case aB => exact HB1.out); (case aS => exact HB1.out.size); (case aL => have := HL.out; simp; omega); intro v2 w2 ho hb hg hat; obtain ⟨Av, cv, ev⟩ := Kd.R_slice ho; subst ev; have HB2 := Aside0.mk hb; clear ho hb hg hat HO HB1; have hrp2 : RP gd .zero w w2 := ⟨((Om.refl gd w).alloc _).below HB2.out, (HB2.out.block gd (by simp; omega)).trans (blk_alloc HD.out _), (HB2.out.block w.heap.size (by simp)).trans (blk_new _ _)⟩; have HR := Aside0.mk hrp2; clear hrp2 HB2; obtain ⟨c0, c1, c2, c3, c4, c5, c6, c7, c8, c9⟩ := HR.out.2.1.cell; obtain ⟨k0, k1, k2, k3, k4, k5, k6, k7, k8, k9⟩ := HR.out.2.1.frozen; dsimp only at c0 c1 c2 c3 c4 c5 c6 c7 c8 c9) | (go_at_call 117; refine rStopC (rp_store (t := ⟨2, i, s, .slice Av (([] : List Int) ++ bs).length cv, 0, false, -1, .slice none 0 0, 0, false⟩) HR.out hg_) ?_; clear HR c0 c1 c2 c3 c4 c5 c6 c7 c8 c9 k0 k1 k2 k3 k4 k5 k6 k7 k8 k9; rintro W ⟨hm, hd, hz⟩; have HM := Aside0.mk hm; have HZ := Aside0.mk hz; clear hm hd hz; refine (rframe_calls _ _ _ _ _).mono ?_; rintro e w3 ⟨⟨x, rfl⟩, hb3⟩; have hz3 := (hb3.block _ (blk_lt HZ.out)).trans HZ.out; have hm3 := HM.out.below hb3; clear HZ HM; have HZ := Aside0.mk hz3; have HM := Aside0.mk hm3; clear hb3 hz3 hm3; obtain ⟨z0, z1, z2, z3, z4, z5, z6, z7⟩ := fr8_cell HZ.out; obtain ⟨f0, f1, f2, f3, f4, f5, f6, f7⟩ := fr8_frozen HZ.out; unfold fr8))
      refine bodyPost_ret (results_ct rfl _ _ _ 43 _ (0, 0) _ rfl (fr8_put HZ.out _ _ _ _ _ _ _ _) Try.underlying43 rfl (by kernel_rfl)) rfl ?_
      exact rEnd HM.out (Nat.le_refl _) _ _ _ _ _ _ _ _ _
    by_cases h4 : 4 < bs.length
    · have b0 : ((bs.length : Int) == 0) = false := beq_eq_false_iff_ne.2 (by omega)
      have b4 : decide ((4 : Int) < (bs.length : Int)) = true := decide_eq_true (by omega)
      clear hz hm
      go_enter Try.func63, Try.ntmps63
      go_wp2_with (first | ((with_reducible refine gate_dst (N := 34) rfl ?_); refine Kd.R_lit (Kd.int .u8) _ 5 ?hg (N := 34) ?hd (xs := ([] : List Int)) (inner := []) (ok := fun _ => True) (okp := fun _ => True) ?hr ?hp (fun _ hk => hk) trivial (Below.refl _ _) (Nat.le_refl _) (by simp) ?_; (case hd => rfl); (case hg => rfl); (case hr => first | (go_simp; done) | (go_simp; rfl)); (case hp => exact (Reps.none _ _)); intro v1 w1 ho1 hb1 hg_ hnew_; clear hg_ hnew_; have HO := Aside0.mk ho1; have HB1 := Aside0.mk hb1; clear ho1 hb1) | ((with_reducible refine gate_builtin (b := .append) (xs := #[.tmp 34, .tmp 35]) rfl ?_); at_builtin; refine Kd.R_append_row (Value.int .u8) (0 : Int) (h1 := fun _ => rfl) (w0 := w.alloc (Obj.cells #[.int .u8 0, .int .u8 0, .int .u8 0, .int .u8 0, .int .u8 0, .int .u8 0, .int .u8 0, .int .u8 0] 43)) (w.alloc (Obj.cells #[.int .u8 0, .int .u8 0, .int .u8 0, .int .u8 0, .int .u8 0, .int .u8 0, .int .u8 0, .int .u8 0] 43)).heap.size rfl (.tmp 34) (.tmp 35) 23 5 (.int .u8 0) 1 rfl Try.underlying23 info5 rfl (by decide) v1 ([] : List Int) bs _ bs.length c (fun _ => True) rfl rfl (fun _ _ => trivial) ?aO ?aR ?aB ?aS ?aL ?_; (case aO => exact HO.out); (case aR => exact Kd.C_below (Kd.C_alloc HC.out _) HB1.out); (case aB => exact HB1.out); (case aS => exact HB1.out.size); (case aL => have := HL.out; simp; omega); intro v2 w2 ho hb hg hat; obtain ⟨Av, cv, ev⟩ := Kd.R_slice ho; subst ev; have HB2 := Aside0.mk hb; clear ho hb hg hat HO HB1; have hrp2 : RP gd .zero w w2 := ⟨((Om.refl gd w).alloc _).below HB2.out, (HB2.out.block gd (by simp; omega)).trans (blk_alloc HD.out _), (HB2.out.block w.heap.size (by simp)).trans (blk_new _ _)⟩; have HR := Aside0.mk hrp2; clear hrp2 HB2; obtain ⟨c0, c1, c2, c3, c4, c5, c6, c7, c8, c9⟩ := HR.out.2.1.cell; obtain ⟨k0, k1, k2, k3, k4, k5, k6, k7, k8, k9⟩ := HR.out.2.1.frozen; dsimp only at c0 c1 c2 c3 c4 c5 c6 c7 c8 c9) | (go_at_call 117; refine rStopC (rp_store (t := ⟨2, i, s, .slice Av (([] : List Int) ++ bs).length cv, 0, false, -1, .slice none 0 0, 0, false⟩) HR.out hg_) ?_; clear HR c0 c1 c2 c3 c4 c5 c6 c7 c8 c9 k0 k1 k2 k3 k4 k5 k6 k7 k8 k9; rintro W ⟨hm, hd, hz⟩; have HM := Aside0.mk hm; have HZ := Aside0.mk hz; clear hm hd hz; refine (rframe_calls _ _ _ _ _).mono ?_; rintro e w3 ⟨⟨x, rfl⟩, hb3⟩; have hz3 := (hb3.block _ (blk_lt HZ.out)).trans HZ.out; have hm3 := HM.out.below hb3; clear HZ HM; have HZ := Aside0.mk hz3; have HM := Aside0.mk hm3; clear hb3 hz3 hm3; obtain ⟨z0, z1, z2, z3, z4, z5, z6, z7⟩ := fr8_cell HZ.out; obtain ⟨f0, f1, f2, f3, f4, f5, f6, f7⟩ := fr8_frozen HZ.out; unfold fr8))
      refine bodyPost_ret (results_ct rfl _ _ _ 43 _ (0, 0) _ rfl (fr8_put HZ.out _ _ _ _ _ _ _ _) Try.underlying43 rfl (by kernel_rfl)) rfl ?_
      exact rEnd HM.out (Nat.le_refl _) _ _ _ _ _ _ _ _ _
    have b0 : ((bs.length : Int) == 0) = false := beq_eq_false_iff_ne.2 (by omega)
    have b4 : decide ((4 : Int) < (bs.length : Int)) = false := decide_eq_false (by omega)
    have hn4 : bs.length ≤ 4 := by omega
    obtain ⟨ad, rfl, hsrc⟩ := (Kd.reads_of_C (d := 0) HC.out).2.2 (by omega)
    have HSRC : Aside0 (∀ W : World, Om gd w W → ∀ k, k < bs.length → W.cell? (ad.add k) = some (.int .u8 (bs.getD k 0))) := Aside0.mk (om_src HD.out hn (HA.out (by omega)) hsrc)
    clear hz hm h4 hsrc
    go_enter Try.func63, Try.ntmps63
    go_wp2_with (first | ((with_reducible refine gate_dst (N := 34) rfl ?_); refine Kd.R_lit (Kd.int .u8) _ 5 ?hg (N := 34) ?hd (xs := ([] : List Int)) (inner := []) (ok := fun _ => True) (okp := fun _ => True) ?hr ?hp (fun _ hk => hk) trivial (Below.refl _ _) (Nat.le_refl _) (by simp) ?_; (case hd => rfl); (case hg => rfl); (case hr => first | (go_simp; done) | (go_simp; rfl)); (case hp => exact (Reps.none _ _)); intro v1 w1 ho1 hb1 hg_ hnew_; clear hg_ hnew_; have HO := Aside0.mk ho1; have HB1 := Aside0.mk hb1; clear ho1 hb1) | ((with_reducible refine gate_builtin (b := .append) (xs := #[.tmp 34, .tmp 35]) rfl ?_); at_builtin; refine Kd.R_append_row (Value.int .u8) (0 : Int) (h1 := fun _ => rfl) (w0 := w.alloc (Obj.cells #[.int .u8 0, .int .u8 0, .int .u8 0, .int .u8 0, .int .u8 0, .int .u8 0, .int .u8 0, .int .u8 0] 43)) (w.alloc (Obj.cells #[.int .u8 0, .int .u8 0, .int .u8 0, .int .u8 0, .int .u8 0, .int .u8 0, .int .u8 0, .int .u8 0] 43)).heap.size rfl (.tmp 34) (.tmp 35) 23 5 (.int .u8 0) 1 rfl Try.underlying23 info5 rfl (by decide) v1 ([] : List Int) bs _ bs.length c (fun _ => True) rfl rfl (fun _ _ => trivial) ?aO ?aR ?aB ?aS ?aL ?_; (case aO => exact HO.out); (case aR => exact Kd.C_below (Kd.C_alloc HC.out _) HB1.out); (case aB => exact HB1.out); (case aS => exact HB1.out.size); (case aL => have := HL.out; simp; omega); intro v2 w2 ho hb hg hat; obtain ⟨Av, cv, ev⟩ := Kd.R_slice ho; subst ev; have HB2 := Aside0.mk hb; clear ho hb hg hat HO HB1; have hrp2 : RP gd .zero w w2 := ⟨((Om.refl gd w).alloc _).below HB2.out, (HB2.out.block gd (by simp; omega)).trans (blk_alloc HD.out _), (HB2.out.block w.heap.size (by simp)).trans (blk_new _ _)⟩; have HR := Aside0.mk hrp2; clear hrp2 HB2; obtain ⟨c0, c1, c2, c3, c4, c5, c6, c7, c8, c9⟩ := HR.out.2.1.cell; obtain ⟨k0, k1, k2, k3, k4, k5, k6, k7, k8, k9⟩ := HR.out.2.1.frozen; dsimp only at c0 c1 c2 c3 c4 c5 c6 c7 c8 c9) | (go_at_call 117; refine rStopC ((rp_put0 (rp_store (t := ⟨2, i, s, .slice Av (([] : List Int) ++ bs).length cv, 0, false, -1, .slice none 0 0, 0, false⟩) HR.out hg_) hg_ 1)) ?_; clear HR c0 c1 c2 c3 c4 c5 c6 c7 c8 c9 k0 k1 k2 k3 k4 k5 k6 k7 k8 k9; rintro W ⟨hm, hd, hz⟩; have HM := Aside0.mk hm; have HZ := Aside0.mk hz; clear hm hd hz; refine (rframe_calls _ _ _ _ _).mono ?_; rintro e w3 ⟨⟨x, rfl⟩, hb3⟩; have hz3 := (hb3.block _ (blk_lt HZ.out)).trans HZ.out; have hm3 := HM.out.below hb3; clear HZ HM; have HZ := Aside0.mk hz3; have HM := Aside0.mk hm3; clear hb3 hz3 hm3; have HLP := Aside0.mk (show LP gd w3.heap.size w (w3.alloc (.cells (fr8 x) 43)) from ⟨HM.out.alloc _, ⟨x, blk_new _ _⟩, blk_alloc HZ.out _⟩); have hzl := blk_lt HZ.out; obtain ⟨z0, z1, z2, z3, z4, z5, z6, z7⟩ := fr8_cell HZ.out; obtain ⟨f0, f1, f2, f3, f4, f5, f6, f7⟩ := fr8_frozen HZ.out; unfold fr8))
    clear z0 z1 z2 z3 z4 z5 z6 z7 f0 f1 f2 f3 f4 f5 f6 f7 HZ HM
    go_loopw [11] (fun i wr => ∃ k : Nat, k ≤ bs.length ∧ i = .int .i64 k ∧ LP gd w3.heap.size w wr) (fun i _ => bs.length - (intOf i).toNat)
    case atStart => exact ⟨0, Nat.zero_le _, rfl, HLP.out⟩
    case round =>
      obtain ⟨k, hk, rfl, hlp⟩ := hrel
      obtain ⟨y, hy⟩ := hlp.2.1
      have HLP2 := Aside0.mk hlp
      have HY := Aside0.mk hy
      have hrl := blk_lt hy
      clear HLP
      by_cases hlt : k < bs.length
      · have hcd := fr8_get hy (j := 4 + k) (by omega)
        have hfd := blk_frozen hy (4 + k)
        have hcs := (HSRC.out wr hlp.1 k hlt)
        have hdl : decide ((k : Int) < (bs.length : Int)) = true := decide_eq_true (by omega)
        clear hlp hy
        go_wp2_with fail
        go_roundw
        case rel => exact ⟨k + 1, by omega, by go_num, lp_put HLP2.out hzl (4 + k) (by omega) _⟩
        case measure => simp [intOf]; omega
      · have hdl : decide ((k : Int) < (bs.length : Int)) = false := decide_eq_false (by omega)
        have HZ := Aside0.mk hlp.2.2
        unfold fr8 at hy
        obtain ⟨d0, d1, d2, d3, d4, d5, d6, d7⟩ := fr8_cell hy
        obtain ⟨z0, z1, z2, z3, z4, z5, z6, z7⟩ := fr8_cell HZ.out
        obtain ⟨f0, f1, f2, f3, f4, f5, f6, f7⟩ := fr8_frozen HZ.out
        clear hlp hy
        go_wp2_with fail
        refine bodyPost_ret (results_ct rfl _ _ _ 43 _ (0, 0) _ rfl (fr8_put HZ.out _ _ _ _ _ _ _ _) Try.underlying43 rfl (by kernel_rfl)) rfl ?_
        exact rEnd HLP2.out.1 (Nat.le_refl _) _ _ _ _ _ _ _ _ _
end Go.Proofs.Yteefnclkcnkbhaa.GClientExpires
