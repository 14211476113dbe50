import Derived.Test.YteefnclkcnkbhaaProg
import Derived.Below
import Derived.Deep.Draws
import Derived.Deep.AppendLies
import Derived.Maps.AppendAt
import Derived.OwnWalk
import Derived.Laws.BytesArg
import Derived.Laws.MakeOwn
import Derived.Laws.OwnMore
import Derived.Deep.OwnRows
import Derived.Tactics
import Derived.Lib.ConvBytes
import Derived.Laws.Slices
import Derived.WalkKit
import Derived.KernelRfl
import Derived.RowKit3
import Derived.Deep.LoopGhost
import Derived.Deep.QuietTactic
import Derived.BigQuiet
import Derived.WideLaws
import Derived.Deep.DeepCutAuto
import Derived.Deep.CutBlock
import Derived.Deep.RegionHeld3
import Derived.Laws.Rows
import Derived.Lib.AppendStr
import Derived.ArgAppend
import Derived.Laws.IdiomCopy
import Derived.OrdersHeld
import Derived.Laws.BitsLemmas
import Derived.RowKit
import Derived.Test.YteefnclkcnkbhaaWWords
import Derived.Test.YteefnclkcnkbhaaWLast
import Derived.Test.YteefnclkcnkbhaaWTab
import Derived.Test.YteefnclkcnkbhaaWFour
import Derived.Test.YteefnclkcnkbhaaWQPut
import Derived.Test.YteefnclkcnkbhaaWApart
import Derived.Test.YteefnclkcnkbhaaWArr
import Derived.Test.YteefnclkcnkbhaaWZeros
import Derived.Test.YteefnclkcnkbhaaWFoot
import Derived.Test.YteefnclkcnkbhaaWKept
import Derived.Test.YteefnclkcnkbhaaWShare
import Derived.Test.YteefnclkcnkbhaaWN
import Derived.Test.YteefnclkcnkbhaaWFootNe
import Derived.Test.YteefnclkcnkbhaaWAt
import Derived.Test.YteefnclkcnkbhaaWEqStruct
import Derived.Test.YteefnclkcnkbhaaWRepsOne
import Derived.Test.YteefnclkcnkbhaaWInv
import Derived.Test.YteefnclkcnkbhaaWInvWords
import Derived.Test.YteefnclkcnkbhaaWGuard
import Derived.Test.YteefnclkcnkbhaaWNEv
import Derived.Test.YteefnclkcnkbhaaWMore
import Derived.Deep.RegionLaw
import Derived.Laws.BitsAllLaws
import Derived.Lib.SliceRun
import Derived.Deep.RegionWith
import Derived.StillTailTactics
import Derived.Laws.CopyOwn
namespace Go.Proofs.Yteefnclkcnkbhaa.GClientExpires
open Go.RowKit Go.Proofs.YteefnclkcnkbhaaW.PrintWords Go.Proofs.YteefnclkcnkbhaaW.PrintLast Go.Proofs.YteefnclkcnkbhaaW.PrintMore
attribute [local go_sem] max2_int min2_int max_two min_two max_three min_three max_four min_four   -- for this text's walks alone
set_option linter.unusedVariables false
set_option linter.unusedSimpArgs false



/-! ### The client of layer 11: its cells, and what its small functions do -/
structure CS where
  waits : Int
  index : Int
  sub : Int
  b : Value
  turn : Int
  last : Bool
  size : Int
  res : Value
  code : Int
  has : Bool
def CS.cells (s : CS) : Array Value := #[.int .i64 s.waits, .int .u16 s.index, .int .u8 s.sub, s.b, .int .u8 s.turn, .bool s.last, .int .i64 s.size, s.res, .int .u32 s.code, .bool s.has]
def At (W : World) (g : Nat) (s : CS) : Prop := W.heap[g]? = some (.cells s.cells 128 (0, 0))
theorem set_other {g k : Nat} (W : World) (i : Nat) (v : Value) (h : k ≠ g) : (W.setCell ⟨g, i, none⟩ v).heap[k]? = W.heap[k]? := Below.heap_setCell _ _ _ k h
theorem At.lt {W : World} {g : Nat} {s : CS} (h : At W g s) : g < W.heap.size := blk_lt h
theorem At.cell {W : World} {g : Nat} {s : CS} (h : At W g s) : W.cell? ⟨g, 0, none⟩ = some (.int .i64 s.waits) ∧ W.cell? ⟨g, 1, none⟩ = some (.int .u16 s.index) ∧ W.cell? ⟨g, 2, none⟩ = some (.int .u8 s.sub) ∧ W.cell? ⟨g, 3, none⟩ = some s.b ∧ W.cell? ⟨g, 4, none⟩ = some (.int .u8 s.turn) ∧ W.cell? ⟨g, 5, none⟩ = some (.bool s.last) ∧ W.cell? ⟨g, 6, none⟩ = some (.int .i64 s.size) ∧ W.cell? ⟨g, 7, none⟩ = some s.res ∧ W.cell? ⟨g, 8, none⟩ = some (.int .u32 s.code) ∧ W.cell? ⟨g, 9, none⟩ = some (.bool s.has) :=
  ⟨(blk_cell h 0).trans rfl, (blk_cell h 1).trans rfl, (blk_cell h 2).trans rfl, (blk_cell h 3).trans rfl, (blk_cell h 4).trans rfl, (blk_cell h 5).trans rfl, (blk_cell h 6).trans rfl, (blk_cell h 7).trans rfl, (blk_cell h 8).trans rfl, (blk_cell h 9).trans rfl⟩
theorem At.frozen {W : World} {g : Nat} {s : CS} (h : At W g s) (i : Nat) : W.frozen? ⟨g, i, none⟩ = false := blk_frozen h i
theorem At.below {W W' : World} {g : Nat} {s : CS} (h : At W g s) (hb : Below W.heap.size W W') : At W' g s := (hb.block g h.lt).trans h
section
variable {W : World} {g : Nat} {s : CS}
theorem At.put0 (h : At W g s) (v : Int) : At (W.setCell ⟨g, 0, none⟩ (.int .i64 v)) g { s with waits := v } := blk_put h 0 _ rfl
theorem At.put1 (h : At W g s) (v : Int) : At (W.setCell ⟨g, 1, none⟩ (.int .u16 v)) g { s with index := v } := blk_put h 1 _ rfl
theorem At.put2 (h : At W g s) (v : Int) : At (W.setCell ⟨g, 2, none⟩ (.int .u8 v)) g { s with sub := v } := blk_put h 2 _ rfl
theorem At.put3 (h : At W g s) (v : Value) : At (W.setCell ⟨g, 3, none⟩ v) g { s with b := v } := blk_put h 3 _ rfl
theorem At.put4 (h : At W g s) (v : Int) : At (W.setCell ⟨g, 4, none⟩ (.int .u8 v)) g { s with turn := v } := blk_put h 4 _ rfl
theorem At.put5 (h : At W g s) (v : Bool) : At (W.setCell ⟨g, 5, none⟩ (.bool v)) g { s with last := v } := blk_put h 5 _ rfl
theorem At.put6 (h : At W g s) (v : Int) : At (W.setCell ⟨g, 6, none⟩ (.int .i64 v)) g { s with size := v } := blk_put h 6 _ rfl
theorem At.put7 (h : At W g s) (v : Value) : At (W.setCell ⟨g, 7, none⟩ v) g { s with res := v } := blk_put h 7 _ rfl
theorem At.put8 (h : At W g s) (v : Int) : At (W.setCell ⟨g, 8, none⟩ (.int .u32 v)) g { s with code := v } := blk_put h 8 _ rfl
theorem At.put9 (h : At W g s) (v : Bool) : At (W.setCell ⟨g, 9, none⟩ (.bool v)) g { s with has := v } := blk_put h 9 _ rfl
/-- all ten cells written -/
theorem At.store (h : At W g s) (t : CS) : At ((((((((((W.setCell ⟨g, 0, none⟩ (.int .i64 t.waits)).setCell ⟨g, 1, none⟩ (.int .u16 t.index)).setCell ⟨g, 2, none⟩ (.int .u8 t.sub)).setCell ⟨g, 3, none⟩ t.b).setCell ⟨g, 4, none⟩ (.int .u8 t.turn)).setCell ⟨g, 5, none⟩ (.bool t.last)).setCell ⟨g, 6, none⟩ (.int .i64 t.size)).setCell ⟨g, 7, none⟩ t.res).setCell ⟨g, 8, none⟩ (.int .u32 t.code)).setCell ⟨g, 9, none⟩ (.bool t.has)) g t :=
  (((((((((h.put0 t.waits).put1 t.index).put2 t.sub).put3 t.b).put4 t.turn).put5 t.last).put6 t.size).put7 t.res).put8 t.code).put9 t.has
end
/-- what a call on the client at g leaves alone: all below n₀; all that is neither g nor a row of bytes -/
def Fr (n₀ g : Nat) (w W : World) : Prop := Below n₀ w W ∧ w.heap.size ≤ W.heap.size ∧ ∀ k, k < w.heap.size → k ≠ g → (∀ cs : Array Value, w.heap[k]? ≠ some (Obj.cells cs 5 (0, 0))) → W.heap[k]? = w.heap[k]?
section
variable {n₀ g : Nat} {w W X : World}
theorem Fr.trans (h : Fr n₀ g w W) (k : Fr n₀ g W X) : Fr n₀ g w X :=
  ⟨h.1.trans k.1, Nat.le_trans h.2.1 k.2.1, fun i hi hg hn => (k.2.2 i (Nat.lt_of_lt_of_le hi h.2.1) hg (fun cs e => hn cs ((h.2.2 i hi hg hn).symm.trans e))).trans (h.2.2 i hi hg hn)⟩
theorem Fr.refl (n₀ g : Nat) (w : World) : Fr n₀ g w w := ⟨Below.refl _ _, Nat.le_refl _, fun _ _ _ _ => rfl⟩
theorem Fr.below (h : Fr n₀ g w W) (hn : n₀ ≤ w.heap.size) (hb : Below W.heap.size W X) : Fr n₀ g w X :=
  ⟨h.1.trans (hb.mono (Nat.le_trans hn h.2.1)), Nat.le_trans h.2.1 hb.size, fun i hi hg hn => (hb.block i (Nat.lt_of_lt_of_le hi h.2.1)).trans (h.2.2 i hi hg hn)⟩
theorem Fr.alloc (h : Fr n₀ g w W) (hn : n₀ ≤ w.heap.size) (o : Obj) : Fr n₀ g w (W.alloc o) := h.below hn (below_alloc (Below.refl _ _) o)
theorem Fr.drew (h : Fr n₀ g w W) : Fr n₀ g w W.drew := ⟨below_drew1 h.1, h.2.1, h.2.2⟩
theorem Fr.drewN (h : Fr n₀ g w W) (m : Nat) : Fr n₀ g w (W.drewN m) := ⟨pw_below_drewN h.1 m, h.2.1, h.2.2⟩
theorem Fr.set (h : Fr n₀ g w W) (hn : n₀ ≤ g) (i : Nat) (v : Value) : Fr n₀ g w (W.setCell ⟨g, i, none⟩ v) :=
  ⟨h.1.setCell hn _, Nat.le_trans h.2.1 ((Below.refl 0 W).setCell (p := ⟨g, i, none⟩) (Nat.zero_le _) v).size, fun k hk hg hn => (Below.heap_setCell _ _ _ k hg).trans (h.2.2 k hk hg hn)⟩
theorem Fr.setn (h : Fr n₀ g w W) {r : Nat} (hr : w.heap.size ≤ r) (hn : n₀ ≤ w.heap.size) (i : Nat) (v : Value) : Fr n₀ g w (W.setCell ⟨r, i, none⟩ v) :=
  ⟨h.1.setCell (Nat.le_trans hn hr) _, Nat.le_trans h.2.1 ((Below.refl 0 W).setCell (p := ⟨r, i, none⟩) (Nat.zero_le _) v).size, fun k hk hg hn => (Below.heap_setCell _ _ _ k (by show k ≠ r; omega)).trans (h.2.2 k hk hg hn)⟩
end
/-! #### the state's invariant -/
def BQ (W : World) (n₀ : Nat) (v : Value) (bs : List Int) : Prop := Kd.Q (Kd.int .u8) 5 W n₀ (fun _ => True) v bs
def BR (W : World) (n₀ : Nat) (v : Value) (bs : List Int) : Prop := Kd.R (Kd.int .u8) 5 W n₀ (fun _ => True) v bs
section
variable {n₀ g : Nat} {w W X : World} {v : Value} {bs : List Int} {s : CS}
theorem BQ.move (h : BQ W n₀ v bs) (hm : ∀ (k : Nat) (cs : Array Value), W.heap[k]? = some (Obj.cells cs 5 (0, 0)) → X.heap[k]? = W.heap[k]?) : BQ X n₀ v bs :=
  Kd.Q_mono (Kd.Q_move (Kd.Q_bound h) (fun k hk => by
    obtain ⟨_, _, _, q, hq, cs, hc⟩ := hk
    have : q = 5 := by simpa [Kd.int, Kd.scalar] using hq
    subst this
    exact hm k cs hc)) (fun _ _ => trivial)
theorem BR.move (h : BR W n₀ v bs) (hm : ∀ (k : Nat) (cs : Array Value), W.heap[k]? = some (Obj.cells cs 5 (0, 0)) → X.heap[k]? = W.heap[k]?) : BR X n₀ v bs :=
  Kd.R_mono (Kd.R_move (Kd.R_bound h) (fun k hk => by
    obtain ⟨_, _, _, q, hq, cs, hc⟩ := hk
    have : q = 5 := by simpa [Kd.int, Kd.scalar] using hq
    subst this
    exact hm k cs hc)) (fun _ _ => trivial)
theorem BQ.slice (h : BQ W n₀ v bs) : ∃ A c, v = .slice A bs.length c ∧ bs.length ≤ c ∧ (Kd.int .u8).C W A bs.length bs := Kd.Q_reads h
def InvL (L : Nat) (W : World) (n₀ g : Nat) (s : CS) : Prop := At W g s ∧ n₀ ≤ g ∧ (∃ bs, BQ W n₀ s.b bs) ∧ (4 ≤ s.waits → ∃ bs, BR W n₀ s.b bs ∧ bs.length ≤ L ∧ s.res = .slice none 0 0) ∧ (∃ rs, BQ W n₀ s.res rs)
abbrev Inv (W : World) (n₀ g : Nat) (s : CS) : Prop := InvL 65536 W n₀ g s
variable {L : Nat}
theorem InvL.move (h : InvL L W n₀ g s) (hg : X.heap[g]? = W.heap[g]?) (hm : ∀ (k : Nat) (cs : Array Value), W.heap[k]? = some (Obj.cells cs 5 (0, 0)) → X.heap[k]? = W.heap[k]?) : InvL L X n₀ g s := by
  obtain ⟨h1, h2, ⟨bs, h3⟩, h4, ⟨rs, h5⟩⟩ := h
  exact ⟨hg.trans h1, h2, ⟨bs, BQ.move h3 hm⟩, fun hw => by obtain ⟨zs, hz, hl⟩ := h4 hw; exact ⟨zs, BR.move hz hm, hl⟩, ⟨rs, BQ.move h5 hm⟩⟩
theorem InvL.below (h : InvL L W n₀ g s) (hb : Below W.heap.size W X) : InvL L X n₀ g s := h.move (hb.block g h.1.lt) (fun k cs hk => hb.block k (blk_lt hk))
theorem InvL.alloc (h : InvL L W n₀ g s) (o : Obj) : InvL L (W.alloc o) n₀ g s := h.below (below_alloc (Below.refl _ _) o)
theorem InvL.drew (h : InvL L W n₀ g s) : InvL L W.drew n₀ g s := h
theorem InvL.drewN (h : InvL L W n₀ g s) (m : Nat) : InvL L (W.drewN m) n₀ g s := h
/-- a cell of another block, no row of bytes, is written -/
theorem InvL.other (h : InvL L W n₀ g s) {r : Nat} (hr : r ≠ g) (h5 : ∀ cs : Array Value, W.heap[r]? ≠ some (Obj.cells cs 5 (0, 0))) (i : Nat) (u : Value) : InvL L (W.setCell ⟨r, i, none⟩ u) n₀ g s :=
  h.move (Below.heap_setCell _ _ _ g (Ne.symm hr)) (fun k cs hk => Below.heap_setCell _ _ _ k (fun e => h5 cs (by rw [← show k = r from e]; exact hk)))
end
def fr8 (a : Nat → Int) : Array Value := #[.int .u8 (a 0), .int .u8 (a 1), .int .u8 (a 2), .int .u8 (a 3), .int .u8 (a 4), .int .u8 (a 5), .int .u8 (a 6), .int .u8 (a 7)]
theorem fr8_mk (a b c d e f g h : Int) : ∃ x, (#[.int .u8 a, .int .u8 b, .int .u8 c, .int .u8 d, .int .u8 e, .int .u8 f, .int .u8 g, .int .u8 h] : Array Value) = fr8 x :=
  ⟨fun i => match i with | 0 => a | 1 => b | 2 => c | 3 => d | 4 => e | 5 => f | 6 => g | _ => h, rfl⟩
set_option maxHeartbeats 8000000 in
set_option maxRecDepth 100000 in
theorem frame_calls (g : Nat) (s : CS) (f n : Int) (w : World) (h : At w g s) :
    Calls Try.prog 71 #[.pointer (some ⟨g, 0, none⟩), .int .u8 f, .int .i64 n] w fun e w' => (∃ x, e = .returned (.agg (fr8 x))) ∧ Below w.heap.size w w' := by
  obtain ⟨c0, c1, c2, c3, c4, c5, c6, c7, c8, c9⟩ := h.cell
  have hg := h.lt
  have HB := Aside0.mk (Below.refl w.heap.size w)
  clear h c0 c3 c4 c5 c6 c7 c8 c9
  go_enter Try.func71, Try.ntmps71
  go_wp2_with fail
  go_region
  go_wp2_with fail
  obtain ⟨x, hx⟩ := fr8_mk f (s.index % 256) (s.index / 256 % 256) s.sub (n % 256) (n / 256 % 256) (n / 65536 % 256) (n / 16777216 % 256)
  refine bodyPost_ret (results_single rfl (.cell _ 43 _ (0, 0) _ rfl (blk_drew (blk_new _ _)) Try.underlying43 rfl (by kernel_rfl) .nil)) rfl ?_
  exact ⟨⟨x, by rw [hx]⟩, below_drew1 (below_alloc HB.out _)⟩
set_option maxHeartbeats 8000000 in
set_option maxRecDepth 100000 in
/-- a frame of sdo -/
theorem spot_calls (i s f n : Int) (w : World) :
    Calls Try.prog 162 #[.agg #[.int .u16 i, .int .u8 s], .int .u8 f, .int .u32 n] w fun e w' => (∃ x, e = .returned (.agg (fr8 x))) ∧ Below w.heap.size w w' := by
  have HB := Aside0.mk (Below.refl w.heap.size w)
  go_enter Try.func162, Try.ntmps162
  go_wp2_with fail
  obtain ⟨x, hx⟩ := fr8_mk f (i % 256) (i / 256 % 256) s (n % 256) (n / 256 % 256) (n / 65536 % 256) (n / 16777216 % 256)
  refine bodyPost_ret (results_single rfl (.cell _ 43 _ (0, 0) _ rfl (by have := blk_new (w.alloc (.cells #[.int .u16 i, .int .u8 s] 238)) (.cells #[.int .u8 f, .int .u8 (i % 256), .int .u8 (i / 256 % 256), .int .u8 s, .int .u8 (n % 256), .int .u8 (n / 256 % 256), .int .u8 (n / 65536 % 256), .int .u8 (n / 16777216 % 256)] 43); rwa [World.size_alloc] at this) Try.underlying43 rfl (by kernel_rfl) .nil)) rfl ?_
  exact ⟨⟨x, by rw [hx]⟩, below_alloc (below_alloc HB.out _) _⟩
theorem alloc_blk {W : World} {g : Nat} {o : Obj} (n : Nat) (h : W.heap.size = n) (hg : g = n) : (W.alloc o).heap[g]? = some o := by subst hg; subst h; exact blk_new _ _
theorem fr8_put {W : World} {g : Nat} {x0 x1 x2 x3 x4 x5 x6 x7 : Value} (h : W.heap[g]? = some (.cells #[x0, x1, x2, x3, x4, x5, x6, x7] 43 (0, 0))) (a b c d e f p q : Value) :
    ((((((((W.setCell ⟨g, 0, none⟩ a).setCell ⟨g, 1, none⟩ b).setCell ⟨g, 2, none⟩ c).setCell ⟨g, 3, none⟩ d).setCell ⟨g, 4, none⟩ e).setCell ⟨g, 5, none⟩ f).setCell ⟨g, 6, none⟩ p).setCell ⟨g, 7, none⟩ q).heap[g]? = some (.cells #[a, b, c, d, e, f, p, q] 43 (0, 0)) := by
  have h0 := blk_put (cs' := #[a, x1, x2, x3, x4, x5, x6, x7]) h 0 a rfl
  have h1 := blk_put (cs' := #[a, b, x2, x3, x4, x5, x6, x7]) h0 1 b rfl
  have h2 := blk_put (cs' := #[a, b, c, x3, x4, x5, x6, x7]) h1 2 c rfl
  have h3 := blk_put (cs' := #[a, b, c, d, x4, x5, x6, x7]) h2 3 d rfl
  have h4 := blk_put (cs' := #[a, b, c, d, e, x5, x6, x7]) h3 4 e rfl
  have h5 := blk_put (cs' := #[a, b, c, d, e, f, x6, x7]) h4 5 f rfl
  have h6 := blk_put (cs' := #[a, b, c, d, e, f, p, x7]) h5 6 p rfl
  exact blk_put (cs' := #[a, b, c, d, e, f, p, q]) h6 7 q rfl
theorem fr8_cell {W : World} {g : Nat} {x0 x1 x2 x3 x4 x5 x6 x7 : Value} (h : W.heap[g]? = some (.cells #[x0, x1, x2, x3, x4, x5, x6, x7] 43 (0, 0))) : W.cell? ⟨g, 0, none⟩ = some x0 ∧ W.cell? ⟨g, 1, none⟩ = some x1 ∧ W.cell? ⟨g, 2, none⟩ = some x2 ∧ W.cell? ⟨g, 3, none⟩ = some x3 ∧ W.cell? ⟨g, 4, none⟩ = some x4 ∧ W.cell? ⟨g, 5, none⟩ = some x5 ∧ W.cell? ⟨g, 6, none⟩ = some x6 ∧ W.cell? ⟨g, 7, none⟩ = some x7 :=
  ⟨(blk_cell h 0).trans rfl, (blk_cell h 1).trans rfl, (blk_cell h 2).trans rfl, (blk_cell h 3).trans rfl, (blk_cell h 4).trans rfl, (blk_cell h 5).trans rfl, (blk_cell h 6).trans rfl, (blk_cell h 7).trans rfl⟩
theorem fr8_frozen {W : World} {g : Nat} {cs : Array Value} (h : W.heap[g]? = some (.cells cs 43 (0, 0))) : W.frozen? ⟨g, 0, none⟩ = false ∧ W.frozen? ⟨g, 1, none⟩ = false ∧ W.frozen? ⟨g, 2, none⟩ = false ∧ W.frozen? ⟨g, 3, none⟩ = false ∧ W.frozen? ⟨g, 4, none⟩ = false ∧ W.frozen? ⟨g, 5, none⟩ = false ∧ W.frozen? ⟨g, 6, none⟩ = false ∧ W.frozen? ⟨g, 7, none⟩ = false :=
  ⟨blk_frozen h 0, blk_frozen h 1, blk_frozen h 2, blk_frozen h 3, blk_frozen h 4, blk_frozen h 5, blk_frozen h 6, blk_frozen h 7⟩
def zero8 : Array Value := #[.int .u8 0, .int .u8 0, .int .u8 0, .int .u8 0, .int .u8 0, .int .u8 0, .int .u8 0, .int .u8 0]
set_option maxHeartbeats 8000000 in
set_option maxRecDepth 100000 in
theorem abort_calls (i s n : Int) (w : World) :
    Calls Try.prog 127 #[.int .u16 i, .int .u8 s, .int .u32 n] w fun e w' => (∃ x, e = .returned (.agg (fr8 x))) ∧ Below w.heap.size w w' := by
  have HB := Aside0.mk (Below.refl w.heap.size w)
  go_enter Try.func127, Try.ntmps127
  go_wp2_with (go_at_call 162; refine (spot_calls _ _ _ _ _).mono ?_; rintro e w' ⟨⟨x, rfl⟩, hb⟩; unfold fr8; have b0 : w'.heap[w.heap.size]? = some (.cells zero8 43 (0, 0)) := (hb.block _ (by simp)).trans (blk_new _ _); obtain ⟨c0, c1, c2, c3, c4, c5, c6, c7⟩ := fr8_cell b0; obtain ⟨f0, f1, f2, f3, f4, f5, f6, f7⟩ := fr8_frozen b0; have HB2 := Aside0.mk hb; have B0 := Aside0.mk b0; clear hb b0)
  refine bodyPost_ret (results_single rfl (.cell _ 43 _ (0, 0) _ rfl (fr8_put B0.out _ _ _ _ _ _ _ _) Try.underlying43 rfl (by kernel_rfl) .nil)) rfl ?_
  refine ⟨⟨x, rfl⟩, ?_⟩
  have hb3 := Below.trans (below_alloc HB.out _) (HB2.out.mono (by simp))
  exact below_set (below_set (below_set (below_set (below_set (below_set (below_set (below_set hb3 (Nat.le_refl _)) (Nat.le_refl _)) (Nat.le_refl _)) (Nat.le_refl _)) (Nat.le_refl _)) (Nat.le_refl _)) (Nat.le_refl _)) (Nat.le_refl _)
set_option maxHeartbeats 8000000 in
set_option maxRecDepth 100000 in
theorem number_calls (x : Nat → Int) (w : World) :
    Calls Try.prog 119 #[.agg (fr8 x)] w fun e w' => (∃ n, e = .returned (.int .u32 n)) ∧ Below w.heap.size w w' := by
  have HB := Aside0.mk (Below.refl w.heap.size w)
  unfold fr8
  go_enter Try.func119, Try.ntmps119
  go_wp2_with fail
  go_ret
  exact ⟨⟨_, rfl⟩, below_alloc HB.out _⟩
set_option maxHeartbeats 8000000 in
set_option maxRecDepth 100000 in
theorem head_calls (g : Nat) (s : CS) (w : World) (h : At w g s) :
    Calls Try.prog 120 #[.pointer (some ⟨g, 0, none⟩)] w fun e w' => (∃ n, e = .returned (.int .u8 n)) ∧ w' = w := by
  obtain ⟨c0, c1, c2, c3, c4, c5, c6, c7, c8, c9⟩ := h.cell
  clear h c1 c2 c3 c4 c5 c6 c7 c8 c9
  go_enter Try.func120, Try.ntmps120
  go_wp2_with fail
  all_goals (go_ret; exact ⟨⟨_, rfl⟩, rfl⟩)
set_option maxHeartbeats 8000000 in
set_option maxRecDepth 100000 in
theorem here_calls (g : Nat) (s : CS) (x : Nat → Int) (w : World) (h : At w g s) :
    Calls Try.prog 121 #[.pointer (some ⟨g, 0, none⟩), .agg (fr8 x)] w fun e w' => (∃ b, e = .returned (.bool b)) ∧ Below w.heap.size w w' := by
  have HB := Aside0.mk (Below.refl w.heap.size w)
  obtain ⟨c0, c1, c2, c3, c4, c5, c6, c7, c8, c9⟩ := h.cell
  have hg := h.lt
  clear h c0 c3 c4 c5 c6 c7 c8 c9
  unfold fr8
  cases hh : (bits .or .u16 (IntKind.u16.wrap (x 1)) (IntKind.u16.wrap (IntKind.u16.wrap (x 2) * 256)) == s.index)
  all_goals (
    go_enter Try.func121, Try.ntmps121
    go_wp2_with fail
    go_region
    go_wp2_with fail)
  all_goals (go_ret; exact ⟨⟨_, rfl⟩, by repeat (first | exact HB.out | apply below_alloc | apply below_drew1)⟩)
set_option maxHeartbeats 8000000 in
set_option maxRecDepth 100000 in
theorem ends_calls {L : Nat} (n₀ g : Nat) (s : CS) (v : Value) (bs : List Int) (code : Int) (w : World) (h : InvL L w n₀ g s) (hv : BQ w n₀ v bs) :
    Calls Try.prog 118 #[.pointer (some ⟨g, 0, none⟩), v, .int .u32 code] w fun e w' => e = .returned (.tuple #[]) ∧ Inv w' n₀ g ⟨0, 0, 0, .slice none 0 0, 0, false, 0, v, code, true⟩ ∧ Fr n₀ g w w' := by
  obtain ⟨c0, c1, c2, c3, c4, c5, c6, c7, c8, c9⟩ := h.1.cell
  have f0 := h.1.frozen 0
  have f1 := h.1.frozen 1
  have f2 := h.1.frozen 2
  have f3 := h.1.frozen 3
  have f4 := h.1.frozen 4
  have f5 := h.1.frozen 5
  have f6 := h.1.frozen 6
  have f7 := h.1.frozen 7
  have f8 := h.1.frozen 8
  have f9 := h.1.frozen 9
  have HI := Aside0.mk h
  have HV := Aside0.mk hv
  obtain ⟨A, c, rfl, _, _⟩ := BQ.slice hv
  clear h hv
  go_enter Try.func118, Try.ntmps118
  go_wp2_with fail
  go_end0
  have hf : Fr n₀ g w _ := (((((((((((Fr.refl n₀ g w).set HI.out.2.1 0 (.int .i64 0)).set HI.out.2.1 1 (.int .u16 0)).set HI.out.2.1 2 (.int .u8 0)).set HI.out.2.1 3 (.slice none 0 0)).set HI.out.2.1 4 (.int .u8 0)).set HI.out.2.1 5 (.bool false)).set HI.out.2.1 6 (.int .i64 0)).set HI.out.2.1 7 (.slice A bs.length c)).set HI.out.2.1 8 (.int .u32 code)).set HI.out.2.1 9 (.bool true))
  have hst := HI.out.1.store ⟨0, 0, 0, .slice none 0 0, 0, false, 0, .slice A bs.length c, code, true⟩
  dsimp only at hst
  refine ⟨rfl, ⟨hst, HI.out.2.1, ⟨[], Kd.Q_nil _ _ _ _ _⟩, fun h => by simp at h, ⟨bs, ?_⟩⟩, hf⟩
  refine BQ.move HV.out (fun k cs hk => ?_)
  have hkg : k ≠ g := fun e => by
    have h1 := HI.out.1
    unfold At at h1
    rw [e, h1] at hk
    cases hk
  rw [set_other _ 9 _ hkg, set_other _ 8 _ hkg, set_other _ 7 _ hkg, set_other _ 6 _ hkg, set_other _ 5 _ hkg, set_other _ 4 _ hkg, set_other _ 3 _ hkg, set_other _ 2 _ hkg, set_other _ 1 _ hkg, set_other _ 0 _ hkg]
end Go.Proofs.Yteefnclkcnkbhaa.GClientExpires
