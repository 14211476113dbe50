import Derived.Test.YteefnclkcnkbhaaProg
import Derived.Below
import Derived.Deep.Draws
import Derived.Deep.AppendLies
import Derived.Maps.AppendAt
import Derived.OwnWalk
import Derived.Laws.BytesArg
import Derived.Laws.MakeOwn
import Derived.Laws.OwnMore
import Derived.Deep.OwnRows
import Derived.Tactics
import Derived.Lib.ConvBytes
import Derived.Laws.Slices
import Derived.WalkKit
import Derived.KernelRfl
import Derived.RowKit3
import Derived.Deep.LoopGhost
import Derived.Deep.QuietTactic
import Derived.BigQuiet
import Derived.WideLaws
import Derived.Deep.DeepCutAuto
import Derived.Deep.CutBlock
import Derived.Deep.RegionHeld3
import Derived.Laws.Rows
import Derived.Lib.AppendStr
import Derived.ArgAppend
import Derived.Laws.IdiomCopy
import Derived.OrdersHeld
import Derived.Laws.BitsLemmas
import Derived.RowKit
import Derived.Test.YteefnclkcnkbhaaWWords
import Derived.Test.YteefnclkcnkbhaaWLast
import Derived.Test.YteefnclkcnkbhaaWTab
import Derived.Test.YteefnclkcnkbhaaWFour
import Derived.Test.YteefnclkcnkbhaaWQPut
import Derived.Test.YteefnclkcnkbhaaWApart
import Derived.Test.YteefnclkcnkbhaaWArr
import Derived.Test.YteefnclkcnkbhaaWZeros
import Derived.Test.YteefnclkcnkbhaaWFoot
import Derived.Test.YteefnclkcnkbhaaWKept
import Derived.Test.YteefnclkcnkbhaaWShare
import Derived.Test.YteefnclkcnkbhaaWN
import Derived.Test.YteefnclkcnkbhaaWFootNe
import Derived.Test.YteefnclkcnkbhaaWAt
import Derived.Test.YteefnclkcnkbhaaWEqStruct
import Derived.Test.YteefnclkcnkbhaaWRepsOne
import Derived.Test.YteefnclkcnkbhaaWInv
import Derived.Test.YteefnclkcnkbhaaWInvWords
import Derived.Test.YteefnclkcnkbhaaWGuard
import Derived.Test.YteefnclkcnkbhaaWNEv
import Derived.Test.YteefnclkcnkbhaaWMore
import Derived.Stop.BytesEq
import Derived.Deep.RegionLaw
import Derived.Laws.BitsAllLaws
import Derived.Lib.SliceRun
import Derived.Deep.RegionWith
import Derived.StillTailTactics
import Derived.Laws.CopyOwn
import Derived.Test.YteefnclkcnkbhaaCliA
import Derived.Test.YteefnclkcnkbhaaCliB
import Derived.Test.YteefnclkcnkbhaaCliC
import Derived.Test.YteefnclkcnkbhaaCliD
import Derived.Test.YteefnclkcnkbhaaCliE
import Derived.Test.YteefnclkcnkbhaaCliF
import Derived.Test.YteefnclkcnkbhaaCliH
import Derived.Test.YteefnclkcnkbhaaCliI
import Derived.Test.YteefnclkcnkbhaaCliJ
namespace Go.Proofs.Yteefnclkcnkbhaa.GClientExpires
open Go.RowKit Go.Proofs.YteefnclkcnkbhaaW.PrintWords Go.Proofs.YteefnclkcnkbhaaW.PrintLast Go.Proofs.YteefnclkcnkbhaaW.PrintMore
attribute [local go_sem] max2_int min2_int max_two min_two max_three min_three max_four min_four   -- for this text's walks alone
set_option linter.unusedVariables false
set_option linter.unusedSimpArgs false



theorem DP.src {n₀ g gd : Nat} {w W : World} {s : CS} {box : Array Value} {A : Option Addr} {n : Nat} {bs : List Int} (h : DP n₀ g gd s box w W) (hC : (Kd.int .u8).C w A n bs) (hA : 0 < n → ∀ ad, A = some ad → ad.block < n₀) : (Kd.int .u8).C W A n bs := by
  obtain ⟨h1, h2, h3⟩ := Kd.reads_of_C (d := (0 : Int)) hC
  refine Kd.C_of_reads (d := (0 : Int)) ⟨h1, h2, fun hp => ?_⟩
  obtain ⟨ad, hAd, hc⟩ := h3 hp
  refine ⟨ad, hAd, fun j hj => ?_⟩
  rw [World.cell?_of_block (w := w) (h.2.2.1.1.block (ad.add j).block (by rw [add_block]; exact hA hp ad hAd))]
  exact hc j hj
theorem DP.inv {n₀ g gd : Nat} {w W : World} {s : CS} {box : Array Value} (h : DP n₀ g gd s box w W) : Inv W n₀ g s := h.1
theorem lit_R {W : World} {base h : Nat} (hb : W.heap[h]? = some (.cells #[] 5 (0, 0))) (hle : base ≤ h) : (Kd.int .u8).R 5 W base (fun _ => True) (.slice (some ⟨h, 0, none⟩) 0 0) [] :=
  Kd.R_of_own (enc := Value.int .u8) (h1 := fun _ => rfl) (xs := []) ⟨rfl, .inr ⟨h, 0, #[], rfl, hle, hb, Nat.le_refl _, Nat.zero_le _, rfl, rfl⟩⟩ (fun _ _ => trivial)
theorem fr8_put8 {W : World} {p : Nat} {cs : Array Value} (h : W.heap[p]? = some (.cells cs 43 (0, 0))) (k : Nat) (hk : k ≠ p) (a b c d e f r q : Value) : ((((((((W.setCell ⟨p, 0, none⟩ a).setCell ⟨p, 1, none⟩ b).setCell ⟨p, 2, none⟩ c).setCell ⟨p, 3, none⟩ d).setCell ⟨p, 4, none⟩ e).setCell ⟨p, 5, none⟩ f).setCell ⟨p, 6, none⟩ r).setCell ⟨p, 7, none⟩ q).heap[k]? = W.heap[k]? := by
  rw [set_other _ 7 _ hk, set_other _ 6 _ hk, set_other _ 5 _ hk, set_other _ 4 _ hk, set_other _ 3 _ hk, set_other _ 2 _ hk, set_other _ 1 _ hk, set_other _ 0 _ hk]
theorem S_put8 {W : World} {p k : Nat} {cs : Array Value} {v1 v2 v3 : Option Value} (h : W.heap[p]? = some (.cells cs 43 (0, 0))) (hk : k ≠ p) (hS : W.cell? ⟨k, 1, none⟩ = v1 ∧ W.cell? ⟨k, 2, none⟩ = v2 ∧ W.cell? ⟨k, 3, none⟩ = v3) (a b c d e f r q : Value) :
    ((((((((W.setCell ⟨p, 0, none⟩ a).setCell ⟨p, 1, none⟩ b).setCell ⟨p, 2, none⟩ c).setCell ⟨p, 3, none⟩ d).setCell ⟨p, 4, none⟩ e).setCell ⟨p, 5, none⟩ f).setCell ⟨p, 6, none⟩ r).setCell ⟨p, 7, none⟩ q).cell? ⟨k, 1, none⟩ = v1 ∧ ((((((((W.setCell ⟨p, 0, none⟩ a).setCell ⟨p, 1, none⟩ b).setCell ⟨p, 2, none⟩ c).setCell ⟨p, 3, none⟩ d).setCell ⟨p, 4, none⟩ e).setCell ⟨p, 5, none⟩ f).setCell ⟨p, 6, none⟩ r).setCell ⟨p, 7, none⟩ q).cell? ⟨k, 2, none⟩ = v2 ∧ ((((((((W.setCell ⟨p, 0, none⟩ a).setCell ⟨p, 1, none⟩ b).setCell ⟨p, 2, none⟩ c).setCell ⟨p, 3, none⟩ d).setCell ⟨p, 4, none⟩ e).setCell ⟨p, 5, none⟩ f).setCell ⟨p, 6, none⟩ r).setCell ⟨p, 7, none⟩ q).cell? ⟨k, 3, none⟩ = v3 := by
  have e0 := fr8_put8 h k hk a b c d e f r q
  obtain ⟨X, hX⟩ : ∃ X, X = ((((((((W.setCell ⟨p, 0, none⟩ a).setCell ⟨p, 1, none⟩ b).setCell ⟨p, 2, none⟩ c).setCell ⟨p, 3, none⟩ d).setCell ⟨p, 4, none⟩ e).setCell ⟨p, 5, none⟩ f).setCell ⟨p, 6, none⟩ r).setCell ⟨p, 7, none⟩ q) := ⟨_, rfl⟩
  rw [← hX] at e0 ⊢
  exact ⟨(World.cell?_of_block (w := W) (a := ⟨k, 1, none⟩) e0).trans hS.1, (World.cell?_of_block (w := W) (a := ⟨k, 2, none⟩) e0).trans hS.2.1, (World.cell?_of_block (w := W) (a := ⟨k, 3, none⟩) e0).trans hS.2.2⟩
theorem DP.put8 {n₀ g gd : Nat} {w W : World} {s : CS} {box cs : Array Value} {p : Nat} (h : DP n₀ g gd s box w W) (hp : W.heap[p]? = some (.cells cs 43 (0, 0))) (hle : w.heap.size ≤ p) (a b c d e f r q : Value) :
    DP n₀ g gd s box w ((((((((W.setCell ⟨p, 0, none⟩ a).setCell ⟨p, 1, none⟩ b).setCell ⟨p, 2, none⟩ c).setCell ⟨p, 3, none⟩ d).setCell ⟨p, 4, none⟩ e).setCell ⟨p, 5, none⟩ f).setCell ⟨p, 6, none⟩ r).setCell ⟨p, 7, none⟩ q) := by
  obtain ⟨h1, h2, h3, h4, h5, h6, h7, h8⟩ := h
  have ng : g ≠ p := by omega
  have ngd : gd ≠ p := fun e => by subst e; rw [h2] at hp; injection hp with hp; injection hp with _ hp; exact absurd hp (by decide)
  have nb : w.heap.size ≠ p := fun e => by rw [e, hp] at h4; injection h4 with h4; injection h4 with _ h4; exact absurd h4 (by decide)
  refine ⟨h1.move (fr8_put8 hp g ng _ _ _ _ _ _ _ _) (fun k cs' hk => fr8_put8 hp k (fun e => by subst e; rw [hp] at hk; injection hk with hk; exact cells_ne5 (by decide) _ hk) _ _ _ _ _ _ _ _), (fr8_put8 hp gd ngd _ _ _ _ _ _ _ _).trans h2, ?_, (fr8_put8 hp _ nb _ _ _ _ _ _ _ _).trans h4, h5, h6, h7, h8⟩
  refine ⟨?_, Nat.le_trans h3.2.1 (by simp), fun k hk e1 e2 e3 => (fr8_put8 hp k (by omega) _ _ _ _ _ _ _ _).trans (h3.2.2 k hk e1 e2 e3)⟩
  have hnp : n₀ ≤ p := Nat.le_trans h7 hle
  exact ((((((((h3.1.setCell (p := ⟨p, 0, none⟩) hnp _).setCell (p := ⟨p, 1, none⟩) hnp _).setCell (p := ⟨p, 2, none⟩) hnp _).setCell (p := ⟨p, 3, none⟩) hnp _).setCell (p := ⟨p, 4, none⟩) hnp _).setCell (p := ⟨p, 5, none⟩) hnp _).setCell (p := ⟨p, 6, none⟩) hnp _).setCell (p := ⟨p, 7, none⟩) hnp _)
theorem write_any (n₀ g : Nat) (s : CS) (i sb : Int) (A : Option Addr) (c : Nat) (bs : List Int) (w : World) (h : Inv w n₀ g s) (hv0 : BQ w n₀ (.slice A bs.length c) bs) :
    Calls Try.prog 26 #[.pointer (some ⟨g, 0, none⟩), .int .u16 i, .int .u8 sb, .slice A bs.length c] w fun e w' => (∃ x r, e = .returned (.tuple #[.agg (fr8 x), .int .i64 r])) ∧ (∃ s', Inv w' n₀ g s') ∧ Fr n₀ g w w' :=
  (write_calls n₀ g s i sb A c bs w h hv0).mono fun e w' hh => by
    obtain ⟨⟨x, hx⟩, ⟨s', h1, _⟩, h2⟩ := hh
    exact ⟨⟨x, _, hx⟩, ⟨s', h1⟩, h2⟩
theorem own_ne {a b c d : Nat} (h : a ≠ b) : some a ≠ (Value.slice (some ⟨b, 0, none⟩) c d).ownBlock := fun e => h (by injection e)
/-- the box of the result was made ahead of the literal -/
theorem app_box1 {w w2 : World} {o : Obj} (hg : World.grownBy (((w.alloc o).alloc (Obj.cells #[.int .u8 0, .int .u8 0, .int .u8 0, .int .u8 0, .int .u8 0, .int .u8 0, .int .u8 0, .int .u8 0] 43)).alloc (.cells #[] 5)).drew w2 (Value.slice (some ⟨w.heap.size + 1 + 1, 0, none⟩) 0 0).ownBlock) : w2.heap[w.heap.size + 1]? = some (.cells zero8 43 (0, 0)) :=
  blk_grown (blk_drew (blk_alloc (alloc_blk (w.heap.size + 1) (World.size_alloc _ _) rfl) _)) hg (own_ne (Nat.ne_of_lt (Nat.lt_succ_self _)))
/-- .. behind it -/
theorem app_box2 {w w2 : World} {o : Obj} (hg : World.grownBy (((w.alloc o).alloc (.cells #[] 5)).alloc (Obj.cells #[.int .u8 0, .int .u8 0, .int .u8 0, .int .u8 0, .int .u8 0, .int .u8 0, .int .u8 0, .int .u8 0] 43)).drew w2 (Value.slice (some ⟨w.heap.size + 1, 0, none⟩) 0 0).ownBlock) : w2.heap[w.heap.size + 1 + 1]? = some (.cells zero8 43 (0, 0)) :=
  blk_grown (blk_drew (alloc_blk (w.heap.size + 1 + 1) ((World.size_alloc _ _).trans (congrArg (· + 1) (World.size_alloc _ _))) rfl)) hg (own_ne (Nat.ne_of_gt (Nat.lt_succ_self _)))
theorem call_box1 {n₀ g : Nat} {w2 w3 : World} (h : Fr n₀ g (w2.alloc (Obj.cells #[.int .u8 0, .int .u8 0, .int .u8 0, .int .u8 0, .int .u8 0, .int .u8 0, .int .u8 0, .int .u8 0] 43)) w3) (hg : g < w2.heap.size) : w3.heap[w2.heap.size]? = some (.cells zero8 43 (0, 0)) := h.other (blk_new _ _) (Nat.ne_of_gt hg) (cells_ne5 (by decide))
theorem call_box2 {n₀ g m : Nat} {w2 w3 : World} (h : Fr n₀ g w2 w3) (hz : w2.heap[m + 1]? = some (.cells zero8 43 (0, 0))) (hg : g < m) : w3.heap[m + 1]? = some (.cells zero8 43 (0, 0)) := h.other hz (by omega) (cells_ne5 (by decide))
theorem call_box3 {n₀ g m : Nat} {w2 w3 : World} (h : Fr n₀ g w2 w3) (hz : w2.heap[m + 1 + 1]? = some (.cells zero8 43 (0, 0))) (hg : g < m) : w3.heap[m + 1 + 1]? = some (.cells zero8 43 (0, 0)) := h.other hz (by omega) (cells_ne5 (by decide))
theorem BQ.alloc {W : World} {n₀ : Nat} {v : Value} {bs : List Int} (h : BQ W n₀ v bs) (o : Obj) : BQ (W.alloc o) n₀ v bs := BQ.move h (fun k cs hk => Below.heap_alloc _ _ _ (blk_lt hk))
theorem BQ.drew {W : World} {n₀ : Nat} {v : Value} {bs : List Int} (h : BQ W n₀ v bs) : BQ W.drew n₀ v bs := BQ.move h (fun _ _ _ => rfl)
theorem BQ.drewN {W : World} {n₀ : Nat} {v : Value} {bs : List Int} (h : BQ W n₀ v bs) (m : Nat) : BQ (W.drewN m) n₀ v bs := BQ.move h (fun _ _ _ => rfl)
theorem dStop {n₀ g gd p : Nat} {s : CS} {box : Array Value} {y : Nat → Int} {w W : World} {P : Program} {f : FuncId} {args : Array Value} {Q : Ending → World → Prop} (h : DP n₀ g gd s box w W ∧ W.heap[p]? = some (.cells #[.int .u8 (y 0), .int .u8 (y 1), .int .u8 (y 2), .int .u8 (y 3), .int .u8 (y 4), .int .u8 (y 5), .int .u8 (y 6), .int .u8 (y 7)] 43 (0, 0))) (k : ∀ W, DP n₀ g gd s box w W → W.heap[p]? = some (.cells #[.int .u8 (y 0), .int .u8 (y 1), .int .u8 (y 2), .int .u8 (y 3), .int .u8 (y 4), .int .u8 (y 5), .int .u8 (y 6), .int .u8 (y 7)] 43 (0, 0)) → Calls P f args W Q) : Calls P f args W Q := k W h.1 h.2
set_option maxHeartbeats 8000000 in
set_option maxRecDepth 100000 in
theorem does0_calls (n₀ g gd : Nat) (s : CS) (k i sb : Int) (A : Option Addr) (c : Nat) (bs : List Int) (x : Nat → Int) (w : World) (h : Inv w n₀ g s) (hd : DAt w gd .zero) (hn : n₀ ≤ gd) (hgd : gd ≠ g) (hk : k = 0) (hC : (Kd.int .u8).C w A bs.length bs) (hA : 0 < bs.length → ∀ ad, A = some ad → ad.block < n₀) (hbl : bs.length ≤ 140737488351232) :
    Calls Try.prog 22 #[.pointer (some ⟨g, 0, none⟩), .pointer (some ⟨gd, 0, none⟩), .agg #[.int .i64 k, .int .u16 i, .int .u8 sb, .slice A bs.length c, .int .u8 (x 0), .int .u8 (x 1), .int .u8 (x 2), .int .u8 (x 3), .int .u8 (x 4), .int .u8 (x 5), .int .u8 (x 6), .int .u8 (x 7)]] w (DPost n₀ g gd w) := by
  have hl := h.1.lt
  have hld := blk_lt hd
  have HP := Aside0.mk (DP.start h hd hn hgd #[.int .i64 k, .int .u16 i, .int .u8 sb, .slice A bs.length c, .int .u8 (x 0), .int .u8 (x 1), .int .u8 (x 2), .int .u8 (x 3), .int .u8 (x 4), .int .u8 (x 5), .int .u8 (x 6), .int .u8 (x 7)])
  have HN := Aside0.mk HP.out.2.2.2.2.2.2.1
  have HC := Aside0.mk hC
  have HA := Aside0.mk hA
  subst hk
  clear h hd hC hA
  obtain ⟨b0, b1, b2, b3, b4, b5, b6, b7, b8, b9, b10, b11⟩ := act_cell HP.out.2.2.2.1
  have heq := run_eq8
  go_enter Try.func22, Try.ntmps22
  go_wp2_with fail
  go_region_held3 (fun w' => w'.cell? ⟨w.heap.size, 1, none⟩ = some (.int .u16 i) ∧ w'.cell? ⟨w.heap.size, 2, none⟩ = some (.int .u8 sb) ∧ w'.cell? ⟨w.heap.size, 3, none⟩ = some (.slice A bs.length c)) (first | (with_reducible exact ⟨b1, b2, b3⟩) | (exact S_put8 HZ.out (blk_ne HP.out.2.2.2.1 HZ.out (by decide)) ⟨b1, b2, b3⟩ _ _ _ _ _ _ _ _) | go_keep) (first | ((refine Kd.R_append_rows_step (Kd.int .u8) (w0 := (w.alloc (.cells #[.int .i64 0, .int .u16 i, .int .u8 sb, .slice A bs.length c, .int .u8 (x 0), .int .u8 (x 1), .int .u8 (x 2), .int .u8 (x 3), .int .u8 (x 4), .int .u8 (x 5), .int .u8 (x 6), .int .u8 (x 7)] 45))) (w.alloc (.cells #[.int .i64 0, .int .u16 i, .int .u8 sb, .slice A bs.length c, .int .u8 (x 0), .int .u8 (x 1), .int .u8 (x 2), .int .u8 (x 3), .int .u8 (x 4), .int .u8 (x 5), .int .u8 (x 6), .int .u8 (x 7)] 45)).heap.size (by rfl) (.tmp 39) (.tmp 41) 23 5 (.int .u8 0) 1 (by rfl) Try.underlying23 info5 rfl (by decide) (by omega) _ ([] : List Int) bs A bs.length c (fun _ => True) (fun _ => False) (by rfl) (by rfl) (lit_R (by with_reducible ((repeat (first | exact blk_new _ _ | (refine alloc_blk _ ?_ rfl; simp; done) | refine blk_drew ?_ | refine blk_alloc ?_ _)); done)) (by simp)) (DP.src (by with_reducible repeat (first | exact HP.out | apply DP.drew | apply DP.drewN | apply DP.alloc)) HC.out HA.out) (fun _ _ h => h) (fun _ h => h.elim) (fun _ _ => trivial) (by with_reducible repeat (first | exact Below.refl _ _ | apply below_drew1 | apply pw_below_drewN | apply below_alloc)) (by simp) (by simp; omega) ?_); intro v2 w2 ho2 hb2 hg2 hat2; rw [List.nil_append] at ho2; obtain ⟨Av, cv, ev⟩ := Kd.R_slice ho2; subst ev; have HV : Aside0 (BQ w2 n₀ (.slice Av bs.length cv) bs) := ⟨Kd.Q_lower (Kd.Q_of_R ho2) (by have := HN.out; simp; omega)⟩; (first | (have HZ := Aside0.mk (app_box1 hg2)) | (have HZ := Aside0.mk (app_box2 hg2)) | skip); have HPn := Aside0.mk (DP.below HP.out hb2); clear b0 b1 b2 b3 b4 b5 b6 b7 b8 b9 b10 b11; clear HP ho2 hb2 hg2 hat2; have HP := HPn; clear HPn; obtain ⟨b0, b1, b2, b3, b4, b5, b6, b7, b8, b9, b10, b11⟩ := act_cell HP.out.2.2.2.1; have hl3 := blk_lt HP.out.2.1; have hl4 := blk_lt HP.out.2.2.2.1; have hl5 := HP.out.1.1.lt) | (go_at_call 26; refine (write_any n₀ g s i sb Av cv bs _ (by with_reducible repeat (first | exact DP.inv HP.out | apply InvL.alloc | apply InvL.drew | apply InvL.drewN)) (by with_reducible repeat (first | exact HV.out | apply BQ.alloc | apply BQ.drew | apply BQ.drewN))).mono ?_; rintro e w3 ⟨⟨y, rr, rfl⟩, ⟨s3, hi3⟩, hf3⟩; have HPn : Aside0 (DP n₀ g gd s3 #[.int .i64 0, .int .u16 i, .int .u8 sb, .slice A bs.length c, .int .u8 (x 0), .int .u8 (x 1), .int .u8 (x 2), .int .u8 (x 3), .int .u8 (x 4), .int .u8 (x 5), .int .u8 (x 6), .int .u8 (x 7)] w w3) := ⟨DP.fr (s := s) (by with_reducible repeat (first | exact HP.out | apply DP.drew | apply DP.drewN | apply DP.alloc)) hf3 hi3⟩; (first | (have HZ3 := Aside0.mk (call_box1 hf3 hl5); have HZ := HZ3; clear HZ3; obtain ⟨d0, d1, d2, d3, d4, d5, d6, d7⟩ := fr8_cell HZ.out; obtain ⟨f0, f1, f2, f3, f4, f5, f6, f7⟩ := fr8_frozen HZ.out) | (have HZ3 := Aside0.mk (call_box2 hf3 HZ.out hl); clear HZ; have HZ := HZ3; clear HZ3; obtain ⟨d0, d1, d2, d3, d4, d5, d6, d7⟩ := fr8_cell HZ.out; obtain ⟨f0, f1, f2, f3, f4, f5, f6, f7⟩ := fr8_frozen HZ.out) | (have HZ3 := Aside0.mk (call_box3 hf3 HZ.out hl); clear HZ; have HZ := HZ3; clear HZ3; obtain ⟨d0, d1, d2, d3, d4, d5, d6, d7⟩ := fr8_cell HZ.out; obtain ⟨f0, f1, f2, f3, f4, f5, f6, f7⟩ := fr8_frozen HZ.out) | skip); clear b0 b1 b2 b3 b4 b5 b6 b7 b8 b9 b10 b11; clear HP HV hi3 hf3; have HP := HPn; clear HPn; unfold fr8; obtain ⟨b0, b1, b2, b3, b4, b5, b6, b7, b8, b9, b10, b11⟩ := act_cell HP.out.2.2.2.1; have hl3 := blk_lt HP.out.2.1; have hl4 := blk_lt HP.out.2.2.2.1; have hl5 := HP.out.1.1.lt))
  all_goals (
    go_wp2_with (go_at_call 63; refine dStop (p := _) (y := y) (by with_reducible first | exact ⟨DP.put8 HP.out HZ.out (by omega) _ _ _ _ _ _ _ _, fr8_put HZ.out _ _ _ _ _ _ _ _⟩ | exact ⟨HP.out.alloc _, blk_new _ _⟩) ?_; intro W HPY hyb; have hpg := blk_ne hyb HPY.2.1 (by decide); refine (rwrite_calls n₀ gd i sb A c bs W HPY.2.1 HPY.2.2.2.2.1 (HPY.src HC.out HA.out) HA.out hbl).mono ?_; rintro e w4 ⟨⟨z, r2, rfl⟩, hom⟩; have HI := Aside0.mk (HPY.omEnd hom).1; have HF := Aside0.mk (HPY.omEnd hom).2; have hyb4 := hom.blk hyb hpg; clear hyb HPY hom hpg; obtain ⟨y0, y1, y2, y3, y4, y5, y6, y7⟩ := fr8_cell hyb4; have hyl := blk_lt hyb4; clear hyb4 HP; clear b0 b1 b2 b3 b4 b5 b6 b7 b8 b9 b10 b11; (try clear HZ d0 d1 d2 d3 d4 d5 d6 d7 f0 f1 f2 f3 f4 f5 f6 f7); unfold fr8)

    all_goals (go_ret; exact dEnd (InvL.alloc HI.out _) (FrD.alloc HF.out HN.out _) _))
end Go.Proofs.Yteefnclkcnkbhaa.GClientExpires
