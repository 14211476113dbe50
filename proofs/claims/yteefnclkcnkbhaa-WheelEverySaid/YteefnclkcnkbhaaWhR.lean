/-
  A HELPER OF THE PROOF: the wheel (text R).
-/
import Derived.Test.YteefnclkcnkbhaaProg
import Derived.Below
import Derived.Deep.Draws
import Derived.Deep.AppendLies
import Derived.Maps.AppendAt
import Derived.OwnWalk
import Derived.Laws.BytesArg
import Derived.Laws.MakeOwn
import Derived.Laws.OwnMore
import Derived.Deep.OwnRows
import Derived.Tactics
import Derived.Lib.ConvBytes
import Derived.Laws.Slices
import Derived.WalkKit
import Derived.KernelRfl
import Derived.RowKit3
import Derived.Deep.LoopGhost
import Derived.Deep.QuietTactic
import Derived.BigQuiet
import Derived.WideLaws
import Derived.Deep.DeepCutAuto
import Derived.Deep.CutBlock
import Derived.Deep.RegionHeld3
import Derived.Laws.Rows
import Derived.Lib.AppendStr
import Derived.ArgAppend
import Derived.Laws.IdiomCopy
import Derived.OrdersHeld
import Derived.Laws.BitsLemmas
import Derived.RowKit
import Derived.Test.YteefnclkcnkbhaaWWords
import Derived.Test.YteefnclkcnkbhaaWLast
import Derived.Test.YteefnclkcnkbhaaWTab
import Derived.Test.YteefnclkcnkbhaaWFour
import Derived.Test.YteefnclkcnkbhaaWQPut
import Derived.Test.YteefnclkcnkbhaaWApart
import Derived.Test.YteefnclkcnkbhaaWArr
import Derived.Test.YteefnclkcnkbhaaWZeros
import Derived.Test.YteefnclkcnkbhaaWFoot
import Derived.Test.YteefnclkcnkbhaaWKept
import Derived.Test.YteefnclkcnkbhaaWShare
import Derived.Test.YteefnclkcnkbhaaWN
import Derived.Test.YteefnclkcnkbhaaWFootNe
import Derived.Test.YteefnclkcnkbhaaWAt
import Derived.Test.YteefnclkcnkbhaaWEqStruct
import Derived.Test.YteefnclkcnkbhaaWRepsOne
import Derived.Test.YteefnclkcnkbhaaWInv
import Derived.Test.YteefnclkcnkbhaaWInvWords
import Derived.Test.YteefnclkcnkbhaaWGuard
import Derived.Test.YteefnclkcnkbhaaWNEv
import Derived.Test.YteefnclkcnkbhaaWMore
import Derived.Deep.RegionLaw
import Derived.Laws.BitsAllLaws
import Derived.Deep.RegionWith
import Derived.StillTailTactics
import Derived.BigRegion
import Derived.Maps.OwnSet
import Derived.Maps.OwnOps
import Derived.Maps.RangeWalk
import Derived.Maps.Ext
import Derived.WideKeyEntry
import Derived.Test.YteefnclkcnkbhaaWhA
import Derived.Test.YteefnclkcnkbhaaWhB
import Derived.Test.YteefnclkcnkbhaaWhC
import Derived.Test.YteefnclkcnkbhaaWhN
import Derived.Test.YteefnclkcnkbhaaWhKeys
import Derived.Test.YteefnclkcnkbhaaWhF
import Derived.Test.YteefnclkcnkbhaaWhP
namespace Go.Proofs.Yteefnclkcnkbhaa.Wh
open Go.RowKit Go.Proofs.YteefnclkcnkbhaaW.PrintWords Go.Proofs.YteefnclkcnkbhaaW.PrintLast Go.Proofs.YteefnclkcnkbhaaW.PrintMore
attribute [local go_sem] max2_int min2_int max_two min_two max_three min_three max_four min_four   -- for this text's walks alone
set_option linter.unusedVariables false
set_option linter.unusedSimpArgs false



open Go.Maps Go.Sort Go.Shelf
/-- where the loop over the numbers stands -/
structure FInv (b : Bl) (W wr : World) (now last : Int) (L : TL) (told : List Int) (base : Nat) (P : List Int) (tv : Value) (kg : Nat) : Prop where
  rep : Rep b wr now last (procF now L P)
  own : wr.ownsRow base 3 1 tv (cut (told ++ toldS now L P)).length ((cut (told ++ toldS now L P)).map encZ)
  only : Only (fun k => b.In k ∨ base ≤ k) W wr
  ne : tv.ownBlock ≠ some kg
theorem row_succ {W : World} {base : Nat} {e : TypeId} {size : Nat} {v : Value} {k : Nat} {xs : List Value} (h : W.ownsRow base e size v (k + 1) xs) : ∃ g cap, v = .slice (some ⟨g, 0, none⟩) (k + 1) cap := by
  rcases h.2 with ⟨_, h0⟩ | ⟨g, cap, cur, rfl, _⟩
  · cases h0
  · exact ⟨g, cap, rfl⟩
theorem info3 : (Try.prog.info? 3).map (fun i => (i.zero, i.size, i.bytes)) = some (some (.int .i64 0), 1, 8) := by kernel_rfl
theorem cell_of_blk {W : World} {g : Nat} {t : TypeId} {cs : Array Value} (h : W.heap[g]? = some (.cells cs t (0, 0))) (i : Nat) : W.cell? ⟨g, i, none⟩ = cs[i]? := by simp [World.cell?, h]
theorem Only.widen {A : Nat → Prop} {w W : World} (h : Only (fun _ => False) w W) : Only A w W := h.mono fun _ e => e.elim
theorem FInv.still {b : Bl} {W wr X : World} {now last : Int} {L : TL} {told : List Int} {base : Nat} {P : List Int} {tv : Value} {kg : Nat} (h : FInv b W wr now last L told base P tv kg) (o : Only (fun _ => False) wr X) : FInv b W X now last L told base P tv kg :=
  ⟨h.rep.only o (fun _ _ e => e), row_only h.own o (fun _ _ e => e), h.only.trans o.widen, h.ne⟩
theorem FInv.next {b : Bl} {W wr : World} {now last : Int} {L : TL} {told : List Int} {base : Nat} {P : List Int} {tv : Value} {kg : Nat} {x : Int} {t : Tm} (ht : get L x = some t)
    (rep : Rep b wr now last (upd (procF now L P) x (fire1 now t))) (own : wr.ownsRow base 3 1 tv (cut (told ++ toldS now L P ++ if t.due = now then [t.what] else [])).length ((cut (told ++ toldS now L P ++ if t.due = now then [t.what] else [])).map encZ))
    (only : Only (fun k => b.In k ∨ base ≤ k) W wr) (ne : tv.ownBlock ≠ some kg) : FInv b W wr now last L told base (P ++ [x]) tv kg := by
  have e1 : toldS now L (P ++ [x]) = toldS now L P ++ if t.due = now then [t.what] else [] := by
    rw [toldS_snoc, ht]
    by_cases h : t.due = now <;> simp [h]
  refine ⟨rep.congr fun y => ?_, ?_, only, ne⟩
  · rw [procF_snoc, ht]; rfl
  · rw [e1, ← List.append_assoc]; exact own
/-- the loop's world behind a number whose moment has come -/
structure FMid (b : Bl) (W X : World) (now last : Int) (G : Int → Option Tm) (T : List Int) (base : Nat) (tv : Value) (kg XS NN cap : Nat) (ks : List Int) (D : Nat) (t : Tm) : Prop where
  rep : Rep b X now last G
  own : X.ownsRow base 3 1 tv (cut T).length ((cut T).map encZ)
  only : Only (fun k => b.In k ∨ base ≤ k) W X
  ne : tv.ownBlock ≠ some kg
  nd : tv.ownBlock ≠ some D
  row : X.ownsRow XS 3 1 (.slice (some ⟨kg, 0, none⟩) NN cap) NN (ks.map encZ)
  blk : X.heap[D]? = some (.cells #[.int .u64 t.due, .int .u64 t.period, .int .i64 t.what] 143 (0, 0))
section
variable {b : Bl} {W X Y : World} {now last : Int} {G G' : Int → Option Tm} {T : List Int} {base : Nat} {tv : Value} {kg XS NN cap : Nat} {ks : List Int} {D : Nat} {t : Tm}
theorem blk_lt {o : Obj} (h : X.heap[D]? = some o) : D < X.heap.size := (Array.getElem?_eq_some_iff.1 h).1
theorem FMid.still (h : FMid b W X now last G T base tv kg XS NN cap ks D t) (o : Only (fun _ => False) X Y) : FMid b W Y now last G T base tv kg XS NN cap ks D t :=
  ⟨h.rep.only o (fun _ _ e => e), row_only h.own o (fun _ _ e => e), h.only.trans o.widen, h.ne, h.nd, row_only h.row o (fun _ _ e => e), (o.block D (blk_lt h.blk) (fun e => e)).trans h.blk⟩
theorem FMid.call (h : FMid b W X now last G T base tv kg XS NN cap ks D t) (hb : b.hi ≤ base) (hk : b.hi ≤ kg) (hD : b.hi ≤ D) (r : Rep b Y now last G') (o : Only b.In X Y) : FMid b W Y now last G' T base tv kg XS NN cap ks D t :=
  ⟨r, row_only h.own o (fun k e i => by have := (h.own.lt k e).1; have := i.2; omega), h.only.trans (o.mono fun _ e => .inl e), h.ne, h.nd, row_only h.row o (fun k e i => by (obtain rfl : kg = k := by simpa [Value.ownBlock] using e); have := i.2; omega), (o.block D (blk_lt h.blk) (fun e => by have := e.2; omega)).trans h.blk⟩
theorem FMid.told (h : FMid b W X now last G T base tv kg XS NN cap ks D t) (hb : b.hi ≤ base) {v' : Value} {m : Nat} {c : Int} (hc : (cut T).length < 65536) (hm : m = (cut T).length) (o : Y.ownsRow base 3 1 v' (m + 1) ((cut T).map encZ ++ [encZ c])) (hg : X.grownBy Y tv.ownBlock) (ha : v'.ownBlock = tv.ownBlock ∨ v'.ownBlock = some X.heap.size) : FMid b W Y now last G (T ++ [c]) base v' kg XS NN cap ks D t := by
  have hl := h.own.lt
  have hT := cut_lt hc
  have ho : Only (fun k => some k = tv.ownBlock) X Y := (Only.refl _ X).grown hg (fun k e => .inl e.symm)
  have hkg := (h.row.lt kg rfl).2
  have hDs := blk_lt h.blk
  refine ⟨h.rep.only ho (fun k hk e => ?_), ?_, h.only.trans (ho.mono fun k e => .inr (hl k e.symm).1), ?_, ?_, row_only h.row ho (fun k e e2 => ?_), (ho.block D hDs (fun e => h.nd e.symm)).trans h.blk⟩
  · have := (hl k e.symm).1
    have := hk.2
    omega
  · rw [cut_snoc T c hT]
    subst hm
    simpa using o
  · rcases ha with e | e <;> rw [e]
    · exact h.ne
    · intro e2; have := Option.some.inj e2; omega
  · rcases ha with e | e <;> rw [e]
    · exact h.nd
    · intro e2; have := Option.some.inj e2; omega
  · obtain rfl : kg = k := by simpa [Value.ownBlock] using e
    exact h.ne e2.symm
theorem FMid.full (h : FMid b W X now last G T base tv kg XS NN cap ks D t) (c : Int) (hc : ¬ (cut T).length < 65536) : FMid b W X now last G (T ++ [c]) base tv kg XS NN cap ks D t :=
  ⟨h.rep, by rw [cut_full T [c] (cut_ge hc)]; exact h.own, h.only, h.ne, h.nd, h.row, h.blk⟩
theorem row_form {base : Nat} {e : TypeId} {s : Nat} {v : Value} {n : Nat} {xs : List Value} (h : W.ownsRow base e s v n xs) : ∃ ao c, v = .slice ao n c := by
  rcases h.2 with ⟨rfl, rfl⟩ | ⟨g, cap, cur, rfl, _⟩
  · exact ⟨_, _, rfl⟩
  · exact ⟨_, _, rfl⟩
end
theorem row_len {base : Nat} {e : TypeId} {s : Nat} {v : Value} {n : Nat} {xs : List Value} {W : World} (h : W.ownsRow base e s v n xs) : ∃ mi : Int, mi = (n : Int) ∧ ∀ ty X, (Builtin.len_ #[65] ty #[v]).run Try.prog X = .ok (.int .i64 mi) X := by
  obtain ⟨ao, c, rfl⟩ := row_form h
  exact ⟨_, rfl, fun ty X => by kernel_rfl⟩
def ix : Value → Nat | .int _ i => i.toNat | _ => 0
set_option maxHeartbeats 2000000 in
set_option maxRecDepth 100000 in
theorem fires_calls (b : Bl) (W : World) (now last : Int) (L : TL) (told : List Int) (tv : Value) (base : Nat) (h : Rep b W now last (get L)) (ho : Ok1 now last L) (hown : W.ownsRow base 3 1 tv (cut told).length ((cut told).map encZ)) (hb0 : b.hi ≤ base) (hb1 : base ≤ W.heap.size) :
    Calls Try.prog 75 #[.pointer (some ⟨b.g, 0, none⟩), tv] W fun e w' => ∃ v', e = .returned v' ∧ w'.ownsRow base 3 1 v' (cut (told ++ whats now L)).length ((cut (told ++ whats now L)).map encZ) ∧ Rep b w' now last (get (fireL now L)) ∧ Only (fun k => b.In k ∨ base ≤ k) W w' := by
  have k1 := h.apart.k1
  have k2 := h.apart.k2
  obtain ⟨g0, g1, g2, g3⟩ := h.gcell
  have hn0 := ho.now0
  have hn1 := ho.now1
  obtain ⟨s, hsk, hs⟩ : ∃ s : Nat, s < b.K ∧ now % (b.K : Int) = (s : Int) := by
    have := slot_nat (b := b) (t := ⟨now, 0, 0⟩) k1 hn0
    exact this
  have sc := h.scell hsk
  have hsn : (0 : Int) ≤ (s : Int) := Int.natCast_nonneg _
  have hsk2 : (s : Int) < (b.K : Int) := by omega
  have hws : wrap64 (now % (b.K : Int)) = (s : Int) := by rw [hs]; unfold wrap64; omega
  have HW := Aside0.mk h
  have HO := Aside0.mk ho
  have HOWN := Aside0.mk hown
  have HS := Aside0.mk hs
  clear h ho hown g1 g3
  go_enter Try.func75, Try.ntmps75
  go_wp2_with fail
  go_quiet (fail)
  refine exStop (P := fun X => Rep b X now last (get L) ∧ Only (fun k => b.In k ∨ base ≤ k) W X ∧ X.ownsRow base 3 1 tv (cut told).length ((cut told).map encZ)) ⟨HW.out.drewN nq, (Only.refl _ _).drewN nq, HOWN.out⟩ ?_
  rintro X ⟨hX, hOX, hRX⟩
  obtain ⟨n1, M1, hown1, hm1⟩ := hX.maps s hsk
  have hbx := hX.size
  have hsz := slot_size hown1 hm1 HO.out.rise HO.out.len
  have HM1 := Aside0.mk hm1
  have HX := Aside0.mk hX
  have HOX := Aside0.mk hOX
  have HRX := Aside0.mk hRX
  have HO1 := Aside0.mk hown1
  have cS := sorted_calls X (b.mb s) n1 M1 hown1 (by unfold maxLen; omega) (by omega)
  have HCS := Aside0.mk cS
  clear g0 g2 sc hws hs HW HOWN hX hOX hRX hm1 hown1 cS
  go_wp2_with fail
  refine (keys_calls (some (b.mb s)) X).mono ?_
  rintro e w' ⟨rfl, rfl⟩
  go_wp2_with fail
  refine HCS.out.mono ?_
  rintro e W2 ⟨v, ss, rfl, hss, hrow, hnil, hbel⟩
  have hks := slot_sorted HO1.out HM1.out HO.out.rise hss
  rw [hks] at hrow
  have hln : ss.length = (slotKs b.K (s : Int) L).length := by rw [← hks, List.length_mergeSort]
  rw [hln] at hrow
  have hbel2 : Below (X.alloc (.cells #[.map (some (b.mb s))] 137)).heap.size (X.alloc (.cells #[.map (some (b.mb s))] 137)) W2 := hbel.mono (by simp)
  have hO2 : Only (fun k => b.In k ∨ base ≤ k) W W2 := (HOX.out.alloc _).below hbel2
  have hOX2 : Only (fun _ => False) X W2 := ((Only.refl _ X).alloc _).below hbel2
  have hX2 : Rep b W2 now last (procF now L ((slotKs b.K (s : Int) L).take 0)) := (HX.out.only hOX2 (fun _ _ e => e)).congr fun x => (procF_nil now L x).symm
  have hR2 : W2.ownsRow base 3 1 tv (cut (told ++ toldS now L ((slotKs b.K (s : Int) L).take 0))).length ((cut (told ++ toldS now L ((slotKs b.K (s : Int) L).take 0))).map encZ) := by
    rw [show toldS now L ((slotKs b.K (s : Int) L).take 0) = [] from rfl, List.append_nil]
    exact row_only HRX.out hOX2 fun _ _ e => e
  have hlt := HRX.out.lt
  have HF1 : Aside0 (∀ x, procF now L (slotKs b.K (s : Int) L) x = get (fireL now L) x) := Aside0.mk (by rw [← HS.out]; exact procF_fire HO.out.rise)
  have HF2 : Aside0 (toldS now L (slotKs b.K (s : Int) L) = whats now L) := Aside0.mk (by rw [← HS.out]; exact toldS_whats HO.out.rise)
  have hKl := slotKs_length b.K (s : Int) L
  have hL := HO.out.len
  have HMEM : Aside0 (∀ x, x ∈ slotKs b.K (s : Int) L → ∃ t, get L x = some t ∧ slotOf b.K t = (s : Int)) := Aside0.mk fun x => (mem_slotKs HO.out.rise).1
  have HND := Aside0.mk (slotKs_nodup (K := b.K) (s := (s : Int)) HO.out.rise)
  clear hks hbel hbel2 hOX2 HCS HX HOX HRX HM1 HO1 hss
  generalize hkk : slotKs b.K (s : Int) L = ks at *
  by_cases hne : ks = []
  · subst hne
    have hv : v = .slice none 0 0 := hnil.2 (List.length_eq_zero_iff.1 hln)
    subst hv
    have HEND : Aside0 (W2.ownsRow base 3 1 tv (cut (told ++ whats now L)).length ((cut (told ++ whats now L)).map encZ) ∧ Rep b W2 now last (get (fireL now L)) ∧ Only (fun k => b.In k ∨ base ≤ k) W W2) := Aside0.mk ⟨by rw [← HF2.out]; exact hR2, hX2.congr HF1.out, hO2⟩
    clear hrow hO2 hX2 hR2 HF1 HF2 HMEM HND hlt hnil
    go_wp2
    refine wp_loop_rounds 1 ?_
    rw [rounds_succ]
    go_wp2
    go_ret
    exact ⟨_, rfl, HEND.out⟩
  · obtain ⟨N, hN⟩ : ∃ N, ks.length = N + 1 := ⟨ks.length - 1, by have := List.length_pos_iff.2 hne; omega⟩
    rw [hN] at hrow hKl
    obtain ⟨g, cap, rfl⟩ := row_succ hrow
    have hgk := hrow.lt g rfl
    have hI : FInv b W W2 now last L told base (ks.take 0) tv g := ⟨hX2, hR2, hO2, fun e => by have := hlt g e; omega⟩
    have HI := Aside0.mk hI
    have HROW := Aside0.mk hrow
    clear hrow hO2 hX2 hR2 hlt hnil hI hln
    go_wp2
    go_loopw [1, 30] (fun u1 u30 wr => ∃ j : Nat, u30 = .int .i64 j ∧ j ≤ N + 1 ∧ FInv b W wr now last L told base (ks.take j) u1 g ∧ wr.ownsRow (X.heap.size + 1) 3 1 (.slice (some ⟨g, 0, none⟩) (N + 1) cap) (N + 1) (ks.map encZ))
      (fun _ u30 _ => N + 1 - ix u30)
    case atStart => exact ⟨0, rfl, Nat.zero_le _, HI.out, HROW.out⟩
    case round =>
      obtain ⟨j, rfl, hj, hI, hR⟩ := hrel
      rcases Nat.lt_or_ge j (N + 1) with hjN | hjN
      · obtain ⟨x, hx⟩ : ∃ x, ks[j]? = some x := ⟨_, List.getElem?_eq_getElem (by omega)⟩
        have ck : wr.cell? ⟨g, j, none⟩ = some (.int .i64 x) := by rw [hR.cellAt j (by omega)]; simp [hx, encZ]
        obtain ⟨t, ht, hts⟩ := HMEM.out x (List.mem_of_getElem? hx)
        have hF : procF now L (ks.take j) x = some t := by
          unfold procF
          rw [if_neg, ht]
          intro hm
          rw [List.mem_take_iff_getElem] at hm
          obtain ⟨i, hi, hix⟩ := hm
          have hjl : j < ks.length := by omega
          have h1 := List.pairwise_iff_getElem.1 HND.out i j (by omega) hjl (by omega)
          rw [List.getElem?_eq_getElem hjl] at hx
          exact h1 (hix.trans (Option.some.inj hx).symm)
        have hd := HO.out.due _ (get_mem ht)
        have hp := HO.out.per _ (get_mem ht)
        have hwh := HO.out.wh _ (get_mem ht)
        have hnm := HO.out.num _ (get_mem ht)
        have hl1 := HO.out.last1
        simp at hd hp hwh hnm
        obtain ⟨hd1, hd2⟩ := hd
        obtain ⟨hp1, hp2⟩ := hp
        obtain ⟨hnm1, hnm2⟩ := hnm
        have hwx : (Lit.int .i64 x).wf = true := i64_wf (by omega) (by omega)
        have lk := slot_look hI.rep hwx hsk
        rw [hF] at lk
        simp only [Option.bind_some, hts, if_true] at lk
        have HI2 := Aside0.mk hI
        have HR := Aside0.mk hR
        have HT := Aside0.mk ht
        have HTS := Aside0.mk hts
        have HX := Aside0.mk hx
        have HFX := Aside0.mk hF
        have HWX := Aside0.mk hwx
        have HWH := Aside0.mk hwh
        have hjb : (j : Int) < (N : Int) + 1 := by omega
        have hj0 : (0 : Int) ≤ (j : Int) := Int.natCast_nonneg _
        unfold timV at lk
        clear hI hR ht hts hx hF hwx hwh HI HROW hl1 hnm1 hnm2
        go_wp2_with fail
        have hbs := HI2.out.rep.size
        have hws := HI2.out.only.size
        have hgw := HR.out.lt g rfl
        have hUD : u1.ownBlock ≠ some wr.heap.size := fun e => by have := (HI2.out.own.lt _ e).2; omega
        obtain ⟨D, hD⟩ : ∃ D, D = wr.heap.size := ⟨_, rfl⟩
        rw [← hD] at hbs hws hgw hUD ⊢
        have hDX : Aside0 (FInv b W (wr.alloc (.cells #[.int .u64 t.due, .int .u64 t.period, .int .i64 t.what] 143)) now last L told base (ks.take j) u1 g ∧ (wr.alloc (.cells #[.int .u64 t.due, .int .u64 t.period, .int .i64 t.what] 143)).ownsRow (X.heap.size + 1) 3 1 (.slice (some ⟨g, 0, none⟩) (N + 1) cap) (N + 1) (ks.map encZ) ∧ (wr.alloc (.cells #[.int .u64 t.due, .int .u64 t.period, .int .i64 t.what] 143)).heap[D]? = some (.cells #[.int .u64 t.due, .int .u64 t.period, .int .i64 t.what] 143 (0, 0)) ∧ D < (wr.alloc (.cells #[.int .u64 t.due, .int .u64 t.period, .int .i64 t.what] 143)).heap.size) :=
          Aside0.mk ⟨HI2.out.still ((Only.refl _ _).alloc _), HR.out.alloc _, by subst hD; exact blk_new _ _, by subst hD; simp⟩
        clear hD ck lk HI2 HR
        refine cStop (P := fun X1 => FInv b W X1 now last L told base (ks.take j) u1 g ∧ X1.ownsRow (X.heap.size + 1) 3 1 (.slice (some ⟨g, 0, none⟩) (N + 1) cap) (N + 1) (ks.map encZ) ∧ X1.heap[D]? = some (.cells #[.int .u64 t.due, .int .u64 t.period, .int .i64 t.what] 143 (0, 0)) ∧ D < X1.heap.size) hDX.out ?_
        clear hDX
        rintro X1 ⟨hI, hR, hB, hDs⟩
        obtain ⟨g0, g1, g2, g3⟩ := hI.rep.gcell
        have b0 := cell_of_blk hB 0
        have b1 := cell_of_blk hB 1
        have b2 := cell_of_blk hB 2
        simp only [List.getElem?_toArray, List.getElem?_cons_zero, List.getElem?_cons_succ] at b0 b1 b2
        have HI2 := Aside0.mk hI
        have HR := Aside0.mk hR
        have HB := Aside0.mk hB
        clear hI hR hB g0 g1 g3
        go_quiet (fail)
        have hud : u1.ownBlock ≠ some D := hUD
        have hM : FMid b W (X1.drewN nq) now last (procF now L (ks.take j)) (told ++ toldS now L (ks.take j)) base u1 g (X.heap.size + 1) (N + 1) cap ks D t :=
          ⟨HI2.out.rep.drewN nq, HI2.out.own, HI2.out.only.drewN nq, HI2.out.ne, hud, HR.out, HB.out⟩
        have hks : ks.take (j + 1) = ks.take j ++ [x] := by rw [List.take_add_one, HX.out]; rfl
        have HKS := Aside0.mk hks
        clear hks HI2 HR HB b0 b1 b2 g2 hud hUD
        by_cases hdn : t.due = now
        · refine exStop (P := fun X2 => FMid b W X2 now last (procF now L (ks.take j)) (told ++ toldS now L (ks.take j)) base u1 g (X.heap.size + 1) (N + 1) cap ks D t) hM ?_
          clear hM
          intro X2 hM
          obtain ⟨mi, hmi0, hlen⟩ := row_len hM.own
          have hcl := cut_length (told ++ toldS now L (ks.take j))
          obtain ⟨m, hm⟩ : ∃ m, m = (cut (told ++ toldS now L (ks.take j))).length := ⟨_, rfl⟩
          rw [← hm] at hcl hmi0
          have hbne : (t.due != now) = false := by simp [hdn]
          by_cases hroom : m < 65536
          · have b2 := cell_of_blk hM.blk 2
            simp only [List.getElem?_toArray, List.getElem?_cons_zero, List.getElem?_cons_succ] at b2
            obtain ⟨i0, hi, hz0, hz1, hz2⟩ := info_parts info3
            have hmi : decide (mi < 65536) = true := decide_eq_true (by omega)
            have HRM := Aside0.mk hroom
            have HM0 := Aside0.mk hM
            have HMM := Aside0.mk hm
            clear hM hcl hroom hm hmi0
            go_wp2_with (first | (at_builtin; refine wpList_append_own_at _ rfl _ _ 65 rfl base 3 i0 (.int .i64 0) 1 8 Try.underlying65 hi hz0 hz1 hz2 rfl (by decide) _ _ _ rfl (HM0.out.own.alloc _) ⟨X2.heap.size, 0, none⟩ 1 1 [.int .i64 t.what] rfl rfl (cell_one_new _ _ _) (by simp [Value.oneCell']) (by have := HRM.out; have := HMM.out; unfold maxLen; omega) (by have := HRM.out; have := HMM.out; omega) (by have := HM0.out.only.size; simp; omega) ?_; intro v' X3 hown' hgrow _ hat))
            have hM3 := HM0.out.still ((Only.refl _ _).alloc (.cells #[.int .i64 t.what] 3)) |>.told hb0 (by rw [← HMM.out]; exact HRM.out) rfl hown' hgrow hat
            clear hown' hgrow hat HM0 b2
            have HM := Aside0.mk hM3
            clear hM3
            go_wp2_with fail
            refine (cancel_calls b X3 now last (procF now L (ks.take j)) x HM.out.rep HWX.out (fun t' e => by rw [HFX.out] at e; cases e; omega)).mono ?_
            rintro e X4 ⟨rfl, r4, o4⟩
            have hM4 := HM.out.call hb0 (by omega) hbs r4 o4
            have b0 := cell_of_blk hM4.blk 0
            have b1 := cell_of_blk hM4.blk 1
            have b2 := cell_of_blk hM4.blk 2
            simp only [List.getElem?_toArray, List.getElem?_cons_zero, List.getElem?_cons_succ] at b0 b1 b2
            have f0 : X4.frozen? ⟨D, 0, none⟩ = false := by simp [World.frozen?, hM4.blk]
            have HM4 := Aside0.mk hM4
            clear hM4 r4 o4 HM
            by_cases hpp : 0 < t.period
            · go_wp2_with fail
              have hup : (⟨now + t.period, t.period, t.what⟩ : Tm) = { t with due := t.due + t.period } := by rw [hdn]
              have hOS : Only (fun k => k = D) X4 (X4.setCell ⟨D, 0, none⟩ (.int .u64 (now + t.period))) := (Only.refl (fun k => k = D) X4).set (p := ⟨D, 0, none⟩) (.inl rfl) _
              have r5 : Rep b (X4.setCell ⟨D, 0, none⟩ (.int .u64 (now + t.period))) now last (upd (procF now L (ks.take j)) x none) := HM4.out.rep.only hOS (fun k hk e => by have := hk.2; omega)
              have hput := put_calls b _ now last _ x ⟨now + t.period, t.period, t.what⟩ r5 HWX.out ⟨by dsimp only; omega, by dsimp only; omega, hp1, by dsimp only; omega, HWH.out⟩ (fin_upd (proc_fin HO.out.rise (by omega) _) x) (by unfold upd; rw [if_pos rfl])
              have hfin : Aside0 (∀ X5, Rep b X5 now last (upd (upd (procF now L (ks.take j)) x none) x (some ⟨now + t.period, t.period, t.what⟩)) → Only b.In (X4.setCell ⟨D, 0, none⟩ (.int .u64 (now + t.period))) X5 → FInv b W X5 now last L told base (ks.take (j + 1)) v' g ∧ X5.ownsRow (X.heap.size + 1) 3 1 (.slice (some ⟨g, 0, none⟩) (N + 1) cap) (N + 1) (ks.map encZ)) := Aside0.mk (fun X5 r o => by
                have hm := HM4.out
                have hl := hm.own.lt
                have hS : X4.heap.size ≤ (X4.setCell ⟨D, 0, none⟩ (.int .u64 (now + t.period))).heap.size := by simp
                have own1 := row_only hm.own hOS (fun k e e2 => hm.nd (by rw [e, e2]))
                have row1 := row_only hm.row hOS (fun k e e2 => by (obtain rfl : g = k := by simpa [Value.ownBlock] using e); omega)
                refine ⟨?_, row_only row1 o (fun k e i => by (obtain rfl : g = k := by simpa [Value.ownBlock] using e); have := i.2; omega)⟩
                rw [HKS.out]
                refine FInv.next HT.out (r.congr fun y => ?_) (by rw [if_pos hdn]; exact row_only own1 o (fun k e i => by have := (hl k e).1; have := i.2; omega)) (hm.only.trans ((hOS.mono fun k e => .inr (by omega)).trans (o.mono fun _ e => .inl e))) hm.ne
                unfold fire1
                rw [if_pos hdn, if_pos hpp, ← hup]
                unfold upd
                split <;> rfl)
              clear HM4 hOS r5 b0 b1 b2 hup f0
              refine hput.mono ?_
              rintro e X5 ⟨rfl, r6, o6⟩
              have HFIN := Aside0.mk (hfin.out X5 r6 o6)
              clear r6 o6 hfin hput
              go_wp2_with fail
              exact ⟨⟨j + 1, by rw [Int.natCast_succ], by omega, HFIN.out⟩, by simp only [ix]; omega⟩
            · have hfin : Aside0 (FInv b W X4 now last L told base (ks.take (j + 1)) v' g) := Aside0.mk (by
                rw [HKS.out]
                refine FInv.next HT.out ?_ (by rw [if_pos hdn]; exact HM4.out.own) HM4.out.only HM4.out.ne
                unfold fire1
                rw [if_pos hdn, if_neg hpp]
                exact HM4.out.rep)
              have HROW := Aside0.mk HM4.out.row
              clear HM4
              go_wp2_with fail
              exact ⟨⟨j + 1, by rw [Int.natCast_succ], by omega, hfin.out, HROW.out⟩, by simp only [ix]; omega⟩
          · have hmi : decide (mi < 65536) = false := decide_eq_false (by omega)
            have hM3 := hM.full t.what (by rw [← hm]; exact hroom)
            clear hM hm hroom hcl hmi0
            have HM := Aside0.mk hM3
            clear hM3
            go_wp2_with fail
            refine (cancel_calls b X2 now last (procF now L (ks.take j)) x HM.out.rep HWX.out (fun t' e => by rw [HFX.out] at e; cases e; omega)).mono ?_
            rintro e X4 ⟨rfl, r4, o4⟩
            have hM4 := HM.out.call hb0 (by omega) hbs r4 o4
            have b0 := cell_of_blk hM4.blk 0
            have b1 := cell_of_blk hM4.blk 1
            have b2 := cell_of_blk hM4.blk 2
            simp only [List.getElem?_toArray, List.getElem?_cons_zero, List.getElem?_cons_succ] at b0 b1 b2
            have f0 : X4.frozen? ⟨D, 0, none⟩ = false := by simp [World.frozen?, hM4.blk]
            have HM4 := Aside0.mk hM4
            clear hM4 r4 o4 HM
            by_cases hpp : 0 < t.period
            · go_wp2_with fail
              have hup : (⟨now + t.period, t.period, t.what⟩ : Tm) = { t with due := t.due + t.period } := by rw [hdn]
              have hOS : Only (fun k => k = D) X4 (X4.setCell ⟨D, 0, none⟩ (.int .u64 (now + t.period))) := (Only.refl (fun k => k = D) X4).set (p := ⟨D, 0, none⟩) (.inl rfl) _
              have r5 : Rep b (X4.setCell ⟨D, 0, none⟩ (.int .u64 (now + t.period))) now last (upd (procF now L (ks.take j)) x none) := HM4.out.rep.only hOS (fun k hk e => by have := hk.2; omega)
              have hput := put_calls b _ now last _ x ⟨now + t.period, t.period, t.what⟩ r5 HWX.out ⟨by dsimp only; omega, by dsimp only; omega, hp1, by dsimp only; omega, HWH.out⟩ (fin_upd (proc_fin HO.out.rise (by omega) _) x) (by unfold upd; rw [if_pos rfl])
              have hfin : Aside0 (∀ X5, Rep b X5 now last (upd (upd (procF now L (ks.take j)) x none) x (some ⟨now + t.period, t.period, t.what⟩)) → Only b.In (X4.setCell ⟨D, 0, none⟩ (.int .u64 (now + t.period))) X5 → FInv b W X5 now last L told base (ks.take (j + 1)) u1 g ∧ X5.ownsRow (X.heap.size + 1) 3 1 (.slice (some ⟨g, 0, none⟩) (N + 1) cap) (N + 1) (ks.map encZ)) := Aside0.mk (fun X5 r o => by
                have hm := HM4.out
                have hl := hm.own.lt
                have hS : X4.heap.size ≤ (X4.setCell ⟨D, 0, none⟩ (.int .u64 (now + t.period))).heap.size := by simp
                have own1 := row_only hm.own hOS (fun k e e2 => hm.nd (by rw [e, e2]))
                have row1 := row_only hm.row hOS (fun k e e2 => by (obtain rfl : g = k := by simpa [Value.ownBlock] using e); omega)
                refine ⟨?_, row_only row1 o (fun k e i => by (obtain rfl : g = k := by simpa [Value.ownBlock] using e); have := i.2; omega)⟩
                rw [HKS.out]
                refine FInv.next HT.out (r.congr fun y => ?_) (by rw [if_pos hdn]; exact row_only own1 o (fun k e i => by have := (hl k e).1; have := i.2; omega)) (hm.only.trans ((hOS.mono fun k e => .inr (by omega)).trans (o.mono fun _ e => .inl e))) hm.ne
                unfold fire1
                rw [if_pos hdn, if_pos hpp, ← hup]
                unfold upd
                split <;> rfl)
              clear HM4 hOS r5 b0 b1 b2 hup f0
              refine hput.mono ?_
              rintro e X5 ⟨rfl, r6, o6⟩
              have HFIN := Aside0.mk (hfin.out X5 r6 o6)
              clear r6 o6 hfin hput
              go_wp2_with fail
              exact ⟨⟨j + 1, by rw [Int.natCast_succ], by omega, HFIN.out⟩, by simp only [ix]; omega⟩
            · have hfin : Aside0 (FInv b W X4 now last L told base (ks.take (j + 1)) u1 g) := Aside0.mk (by
                rw [HKS.out]
                refine FInv.next HT.out ?_ (by rw [if_pos hdn]; exact HM4.out.own) HM4.out.only HM4.out.ne
                unfold fire1
                rw [if_pos hdn, if_neg hpp]
                exact HM4.out.rep)
              have HROW := Aside0.mk HM4.out.row
              clear HM4
              go_wp2_with fail
              exact ⟨⟨j + 1, by rw [Int.natCast_succ], by omega, hfin.out, HROW.out⟩, by simp only [ix]; omega⟩
        · have hf1 : fire1 now t = some t := by unfold fire1; rw [if_neg hdn]
          have hup : upd (procF now L (ks.take j)) x (fire1 now t) = procF now L (ks.take j) := funext fun y => by
            unfold upd
            split
            · rename_i e; rw [e, HFX.out, hf1]
            · rfl
          have hfl : Aside0 (FInv b W (X1.drewN nq) now last L told base (ks.take (j + 1)) u1 g) := Aside0.mk (by
            rw [HKS.out]
            exact FInv.next HT.out (by rw [hup]; exact hM.rep) (by rw [if_neg hdn, List.append_nil]; exact hM.own) hM.only hM.ne)
          have HROW := Aside0.mk hM.row
          clear hM hup hf1
          go_wp2_with fail
          exact ⟨⟨j + 1, by rw [Int.natCast_succ], by omega, hfl.out, HROW.out⟩, by simp only [ix]; omega⟩
      · have hje : j = N + 1 := by omega
        subst hje
        have hI2 := hI.rep.congr (G := get (fireL now L)) (by rw [List.take_of_length_le (by omega)]; exact HF1.out)
        have hO2 : wr.ownsRow base 3 1 u1 (cut (told ++ whats now L)).length ((cut (told ++ whats now L)).map encZ) := by
          have := hI.own
          rw [List.take_of_length_le (by omega), HF2.out] at this
          exact this
        have HEND : Aside0 (wr.ownsRow base 3 1 u1 (cut (told ++ whats now L)).length ((cut (told ++ whats now L)).map encZ) ∧ Rep b wr now last (get (fireL now L)) ∧ Only (fun k => b.In k ∨ base ≤ k) W wr) := Aside0.mk ⟨hO2, hI2, hI.only⟩
        clear hI hI2 hO2 hR HI HROW
        go_wp2_with fail
        go_ret
        exact ⟨_, rfl, HEND.out⟩
end Go.Proofs.Yteefnclkcnkbhaa.Wh
