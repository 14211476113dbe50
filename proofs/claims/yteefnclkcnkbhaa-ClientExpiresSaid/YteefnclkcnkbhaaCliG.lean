import Derived.Test.YteefnclkcnkbhaaProg
import Derived.Below
import Derived.Deep.Draws
import Derived.Deep.AppendLies
import Derived.Maps.AppendAt
import Derived.OwnWalk
import Derived.Laws.BytesArg
import Derived.Laws.MakeOwn
import Derived.Laws.OwnMore
import Derived.Deep.OwnRows
import Derived.Tactics
import Derived.Lib.ConvBytes
import Derived.Laws.Slices
import Derived.WalkKit
import Derived.KernelRfl
import Derived.RowKit3
import Derived.Deep.LoopGhost
import Derived.Deep.QuietTactic
import Derived.BigQuiet
import Derived.WideLaws
import Derived.Deep.DeepCutAuto
import Derived.Deep.CutBlock
import Derived.Deep.RegionHeld3
import Derived.Laws.Rows
import Derived.Lib.AppendStr
import Derived.ArgAppend
import Derived.Laws.IdiomCopy
import Derived.OrdersHeld
import Derived.Laws.BitsLemmas
import Derived.RowKit
import Derived.Test.YteefnclkcnkbhaaWWords
import Derived.Test.YteefnclkcnkbhaaWLast
import Derived.Test.YteefnclkcnkbhaaWTab
import Derived.Test.YteefnclkcnkbhaaWFour
import Derived.Test.YteefnclkcnkbhaaWQPut
import Derived.Test.YteefnclkcnkbhaaWApart
import Derived.Test.YteefnclkcnkbhaaWArr
import Derived.Test.YteefnclkcnkbhaaWZeros
import Derived.Test.YteefnclkcnkbhaaWFoot
import Derived.Test.YteefnclkcnkbhaaWKept
import Derived.Test.YteefnclkcnkbhaaWShare
import Derived.Test.YteefnclkcnkbhaaWN
import Derived.Test.YteefnclkcnkbhaaWFootNe
import Derived.Test.YteefnclkcnkbhaaWAt
import Derived.Test.YteefnclkcnkbhaaWEqStruct
import Derived.Test.YteefnclkcnkbhaaWRepsOne
import Derived.Test.YteefnclkcnkbhaaWInv
import Derived.Test.YteefnclkcnkbhaaWInvWords
import Derived.Test.YteefnclkcnkbhaaWGuard
import Derived.Test.YteefnclkcnkbhaaWNEv
import Derived.Test.YteefnclkcnkbhaaWMore
import Derived.Deep.RegionLaw
import Derived.Laws.BitsAllLaws
import Derived.Lib.SliceRun
import Derived.Deep.RegionWith
import Derived.StillTailTactics
import Derived.Laws.CopyOwn
import Derived.Test.YteefnclkcnkbhaaCliA
import Derived.Test.YteefnclkcnkbhaaCliB
import Derived.Test.YteefnclkcnkbhaaCliC
import Derived.Test.YteefnclkcnkbhaaCliD
import Derived.Test.YteefnclkcnkbhaaCliE
import Derived.Test.YteefnclkcnkbhaaCliF
namespace Go.Proofs.Yteefnclkcnkbhaa.GClientExpires
open Go.RowKit Go.Proofs.YteefnclkcnkbhaaW.PrintWords Go.Proofs.YteefnclkcnkbhaaW.PrintLast Go.Proofs.YteefnclkcnkbhaaW.PrintMore
attribute [local go_sem] max2_int min2_int max_two min_two max_three min_three max_four min_four   -- for this text's walks alone
set_option linter.unusedVariables false
set_option linter.unusedSimpArgs false



theorem c_src {W : World} {ad : Addr} {n : Nat} {ys : List Int} (h : (Kd.int .u8).C W (some ad) n ys) : ∀ j u, (ys.map (Value.int .u8))[j]? = some u → W.cell? (ad.add j) = some u := by
  intro j u hj
  rw [List.getElem?_map] at hj
  obtain ⟨b, hb, rfl⟩ := Option.map_eq_some_iff.1 hj
  have hjl := (List.getElem?_eq_some_iff.1 hb).1
  have hlen := h.1
  obtain ⟨ad', e, hc⟩ := (Kd.reads_of_C (d := 0) h).2.2 (by omega)
  cases e
  rw [hc j (by omega)]
  simp [List.getD_eq_getElem?_getD, hb]
/-- append onto the bytes that are read: the equation, and what stands behind the store -/
theorem app_run {n₀ g : Nat} {s : CS} {x : Nat → Int} {W : World} {r : Nat} (hI : Inv W n₀ g s) (h4 : 4 ≤ s.waits) (hA : W.heap[r]? = some (.cells (fr8 x) 43 (0, 0))) (hn : n₀ ≤ W.heap.size) (o m c : Nat) (hm : o + m ≤ 8) :
    ∃ (A0 : Option Addr) (n0 c0 n : Nat) (A' : Option Addr) (c' : Nat) (W2 : World), s.b = .slice A0 n0 c0 ∧ n ≤ 65544 ∧
      (Builtin.append_ #[23, 23] 23 #[.slice A0 n0 c0, .slice (some ⟨r, o, none⟩) m c]).run Try.prog W.drew = .ok (.slice A' n c') W2 ∧ At W2 g s ∧ Fr n₀ g W W2 ∧
      InvL 65544 (W2.setCell ⟨g, 3, none⟩ (.slice A' n c')) n₀ g { s with b := .slice A' n c' } ∧ (n ≤ 65536 → Inv (W2.setCell ⟨g, 3, none⟩ (.slice A' n c')) n₀ g { s with b := .slice A' n c' }) := by
  obtain ⟨bs, hbs, hbl, hres⟩ := hI.2.2.2.1 h4
  have hown := Kd.own_of_R hbs
  obtain ⟨i, hi, hz, hsz, hby⟩ := info_parts info5
  have hC := box_C hA o m hm
  have hyl : ((List.range m).map fun j => x (o + j)).length = m := by simp
  generalize hys : ((List.range m).map fun j => x (o + j)) = ys at hC hyl
  obtain ⟨v', W2, hrun, hr', hg', _, _⟩ := run_append_own_at (P := Try.prog) (w := W.drew) n₀ 23 23 5 i (.int .u8 0) 1 1 Try.underlying23 hi hz hsz hby rfl (by decide) s.b bs.length _ (own_drew hown) ⟨r, o, none⟩ m c (ys.map (Value.int .u8)) (by simp [hyl]) (c_src hC) (by intro u hu; obtain ⟨b, _, rfl⟩ := List.mem_map.1 hu; rfl) (by unfold maxLen; omega) (by omega) hn
  have hBR : BR W2 n₀ v' (bs ++ ys) := Kd.R_of_own (by rw [List.length_append, hyl]; simpa [encs] using hr') (fun _ _ => trivial)
  obtain ⟨A', c', hv', _, _⟩ := Kd.R_reads hBR
  obtain ⟨A0, c0, hv0, _, _⟩ := Kd.R_reads hbs
  have hne : ∀ k, (∀ cs : Array Value, W.heap[k]? ≠ some (Obj.cells cs 5 (0, 0))) → some k ≠ s.b.ownBlock := by
    intro k hk e
    obtain ⟨cs, hc⟩ := own_typed hown k e.symm
    exact hk cs hc
  have hgn : ∀ cs : Array Value, W.heap[g]? ≠ some (Obj.cells cs 5 (0, 0)) := fun cs hc => at_ne hI.1 hc rfl
  have hAt : At W2 g s := (hg'.block g hI.1.lt (hne g hgn)).trans hI.1
  have hF : Fr n₀ g W W2 := ⟨(below_drew1 (Below.refl n₀ W)).grown hg' hn (fun k e => own_base hown k e), hg'.size, fun k hk _ h5 => hg'.block k hk (hne k h5)⟩
  have hlen : (bs ++ ys).length ≤ 65544 := by rw [List.length_append, hyl]; omega
  subst hv'
  have hm2 := KR.set hAt 3 (.slice A' (bs ++ ys).length c')
  have hN : BQ (W2.setCell ⟨g, 3, none⟩ (.slice A' (bs ++ ys).length c')) n₀ (.slice none 0 0) [] := Kd.Q_nil _ _ _ _ _
  have hb2 := BR.move hBR hm2
  refine ⟨A0, bs.length, c0, (bs ++ ys).length, A', c', W2, hv0, hlen, by rw [← hv0]; exact hrun, hAt, hF, ⟨hAt.put3 _, hI.2.1, ⟨_, Kd.Q_of_R hb2⟩, fun _ => ⟨_, hb2, hlen, hres⟩, ⟨[], by show BQ _ n₀ s.res []; rw [hres]; exact hN⟩⟩, fun hl => ⟨hAt.put3 _, hI.2.1, ⟨_, Kd.Q_of_R hb2⟩, fun _ => ⟨_, hb2, hl, hres⟩, ⟨[], by show BQ _ n₀ s.res []; rw [hres]; exact hN⟩⟩⟩
theorem ctStopC {n₀ g : Nat} {s : CS} {x : Nat → Int} {w W : World} {P : Program} {c : Code} {a : Act} {Q : Exit → Act → World → Prop} (h : CtP n₀ g s x w W) (k : ∀ W, CtP n₀ g s x w W → Code.wp P c Q a W) : Code.wp P c Q a W := k W h
theorem step_append_eq {P : Program} {W W2 : World} {ops : Array Oper} {o : Oper} {a : Act} {Kc : Act → World → Prop} {Q : Exit → Act → World → Prop} (hw : Region.wanted o (yielded ops a.tmps) = true) (s x : Operand) (t : TypeId)
    (ho : o.op = .call { callee := .builtin .append, args := #[s, x], argTypes := #[t, t] }) {v xv v' : Value} (hs : a.eval s = v) (hx : a.eval x = xv) (hrun : (Builtin.append_ #[t, t] o.type #[v, xv]).run P W = .ok v' W2) (h : Kc (a.put o.dst v') W2) :
    if Region.wanted o (yielded ops a.tmps) = true then Oper.wp P o a W Kc Q else Kc (a.put o.dst undef) W := by
  rw [if_pos hw]
  unfold Oper.wp
  simp [execOp, ho, resolve, invoke, builtin, hs, hx, hrun, Result.andThen]
  exact h
def FuP (n₀ g : Nat) (s : CS) (n : Nat) (x : Nat → Int) (w W : World) : Prop := InvL 65544 W n₀ g s ∧ (n ≤ 65536 → Inv W n₀ g s) ∧ Fr n₀ g w W ∧ W.heap[w.heap.size]? = some (.cells (fr8 x) 43 (0, 0)) ∧ W.heap[w.heap.size + 1]? = some (.cells zero8 43 (0, 0))
theorem fuStop {n₀ g n : Nat} {s : CS} {x : Nat → Int} {w W : World} {P : Program} {ops : Array Oper} {rest : List Oper} {a : Act} {Q : Exit → Act → World → Prop} (h : FuP n₀ g s n x w W) (k : ∀ W, FuP n₀ g s n x w W → wpList P ops Q rest a W) : id (wpList P ops Q rest a W) := k W h
theorem fuMk {n₀ g n : Nat} {s : CS} {x : Nat → Int} {w W W2 : World} {A' : Option Addr} {c' : Nat} (hX : Inv W n₀ g s) (hF : Fr n₀ g w W) (hA : W.heap[w.heap.size]? = some (.cells (fr8 x) 43 (0, 0))) (hZ : W.heap[w.heap.size + 1]? = some (.cells zero8 43 (0, 0))) (hF2 : Fr n₀ g W W2)
    (h2 : InvL 65544 (W2.setCell ⟨g, 3, none⟩ (.slice A' n c')) n₀ g { s with b := .slice A' n c' }) (h3 : n ≤ 65536 → Inv (W2.setCell ⟨g, 3, none⟩ (.slice A' n c')) n₀ g { s with b := .slice A' n c' }) :
    FuP n₀ g { s with b := .slice A' n c' } n x w (W2.setCell ⟨g, 3, none⟩ (.slice A' n c')) :=
  ⟨h2, h3, (hF.trans hF2).set hX.2.1 3 _, other_blk (hF2.blk hA (ne_of_at hX.1 hA)) (ne_of_at hX.1 hA) 3 _, other_blk (hF2.blk hZ (ne_of_at hX.1 hZ)) (ne_of_at hX.1 hZ) 3 _⟩
set_option maxHeartbeats 8000000 in
set_option maxRecDepth 100000 in
theorem further_calls (n₀ g : Nat) (s : CS) (x : Nat → Int) (w : World) (h : Inv w n₀ g s) (h4 : 4 ≤ s.waits) (hx : ∀ i, 0 ≤ x i ∧ x i < 256) :
    Calls Try.prog 161 #[.pointer (some ⟨g, 0, none⟩), .agg (fr8 x)] w (FrPost n₀ g w) := by
  have hn : n₀ ≤ w.heap.size := Nat.le_trans h.2.1 (Nat.le_of_lt h.1.lt)
  have hg := h.1.lt
  have HI := Aside0.mk h
  have HN := Aside0.mk hn
  have HH4 := Aside0.mk h4
  have ha7 := and7 (x 0) (hx 0).1 (hx 0).2
  have hx0 := hx 0
  have hm : x 0 / 2 % 8 = 0 ∨ x 0 / 2 % 8 = 1 ∨ x 0 / 2 % 8 = 2 ∨ x 0 / 2 % 8 = 3 ∨ x 0 / 2 % 8 = 4 ∨ x 0 / 2 % 8 = 5 ∨ x 0 / 2 % 8 = 6 ∨ x 0 / 2 % 8 = 7 := by omega
  clear h hn h4
  unfold fr8
  rcases hm with hm | hm | hm | hm | hm | hm | hm | hm
  · rw [hm] at ha7
    clear hm
    have hw1 : IntKind.i64.wrap 0 = 0 := by decide
    have hw2 : IntKind.i64.wrap 8 = 8 := by decide
    go_enter Try.func161, Try.ntmps161
    go_wp2_with fail
    refine ctStopC (ctStart HI.out x) ?_
    rintro W ⟨hX, hF, hA, hZ⟩
    obtain ⟨A0, n0, c0', n, A', c', W2, hb, hn2, hap, hAt, hF2, hI2, hI3⟩ := app_run hX HH4.out hA (Nat.le_trans HN.out hF.2.1) 1 7 7 (by omega)
    have HX := Aside0.mk hX
    have HF := Aside0.mk hF
    have HA := Aside0.mk hA
    have HZ := Aside0.mk hZ
    have HF2 := Aside0.mk hF2
    have HI2 := Aside0.mk hI2
    have HI3 := Aside0.mk hI3
    clear hX hF hA hZ hF2 hI2 hI3
    obtain ⟨c0, c1, c2, c3, c4, c5, c6, c7, c8, c9⟩ := HX.out.1.cell; have k0 := HX.out.1.frozen 0; have k3 := HX.out.1.frozen 3; have k4 := HX.out.1.frozen 4; have k6 := HX.out.1.frozen 6; have ha := HA.out; unfold fr8 at ha; obtain ⟨d0, d1, d2, d3, d4, d5, d6, d7⟩ := fr8_cell ha; obtain ⟨z0, z1, z2, z3, z4, z5, z6, z7⟩ := fr8_cell HZ.out; obtain ⟨f0, f1, f2, f3, f4, f5, f6, f7⟩ := fr8_frozen HZ.out; clear ha
    rw [hb] at c3
    obtain ⟨C0, C1, C2, C3, C4, C5, C6, C7, C8, C9⟩ := hAt.cell
    have K3 := hAt.frozen 3
    rw [hb] at C3
    clear hAt
    go_region_law (refine step_append_eq (by rfl) (.tmp 10) (.tmp 17) 23 rfl rfl rfl hap ?_)
    all_goals (
      go_wp2_with ((with_reducible refine gate_dst (N := 25) rfl ?_); apply stopHere)
      refine fuStop (fuMk HX.out HF.out HA.out HZ.out HF2.out HI2.out HI3.out) ?_
      clear HX HF HA HZ HF2 HI2 HI3 C0 C1 C2 C3 C4 C5 C6 C7 C8 C9 K3 hap hb c0 c1 c2 c3 c4 c5 c6 c7 c8 c9 k0 k3 k4 k6 d0 d1 d2 d3 d4 d5 d6 d7 z0 z1 z2 z3 z4 z5 z6 z7 f0 f1 f2 f3 f4 f5 f6 f7
      rintro W3 ⟨h2, h3, hF, hA, hZ⟩
      have HF := Aside0.mk hF
      have HA := Aside0.mk hA
      have HZ := Aside0.mk hZ
      clear hF hA hZ
      by_cases hbig : n ≤ 65536
      · have HX := Aside0.mk (h3 hbig)
        clear h2 h3
        obtain ⟨c0, c1, c2, c3, c4, c5, c6, c7, c8, c9⟩ := HX.out.1.cell; have k0 := HX.out.1.frozen 0; have k3 := HX.out.1.frozen 3; have k4 := HX.out.1.frozen 4; have k6 := HX.out.1.frozen 6; have ha := HA.out; unfold fr8 at ha; obtain ⟨d0, d1, d2, d3, d4, d5, d6, d7⟩ := fr8_cell ha; obtain ⟨z0, z1, z2, z3, z4, z5, z6, z7⟩ := fr8_cell HZ.out; obtain ⟨f0, f1, f2, f3, f4, f5, f6, f7⟩ := fr8_frozen HZ.out; clear ha
        dsimp only at c0 c3 c4 c6
        cases hb1 : (bits .and .u8 (x 0) 1 == 0)
        · by_cases hs : 0 ≤ s.size
          · cases hsz : (s.size == (n : Int))
            · go_wp2_with fail
              go_quiet (fail)
              have HX2 := Aside0.mk (InvL.drewN HX.out nq); have HF2 := Aside0.mk (Fr.drewN HF.out nq); have HA2 := Aside0.mk (blk_drewN HA.out nq); have HZ2 := Aside0.mk (blk_drewN HZ.out nq); clear HX HF HA HZ; have HX := HX2; have HF := HF2; have HA := HA2; have HZ := HZ2; clear HX2 HF2 HA2 HZ2
              go_wp2_with (first | (go_at_call 70; refine (gives_calls n₀ g _ 101122064 _ HX.out).mono ?_; rintro e w3 ⟨⟨xx, rfl⟩, hi3, hf3⟩; unfold fr8; have ha2 := hf3.blk HA.out (ne_of_at HX.out.1 HA.out); have hz2 := hf3.blk HZ.out (ne_of_at HX.out.1 HZ.out); have hf2 := HF.out.trans hf3; clear c0 c1 c2 c3 c4 c5 c6 c7 c8 c9 k0 k3 k4 k6 d0 d1 d2 d3 d4 d5 d6 d7 z0 z1 z2 z3 z4 z5 z6 z7 f0 f1 f2 f3 f4 f5 f6 f7; clear HX HF HA HZ; have HX := Aside0.mk hi3; have HF := Aside0.mk hf2; have HA := Aside0.mk ha2; have HZ := Aside0.mk hz2; clear hi3 hf2 ha2 hz2 hf3; obtain ⟨c0, c1, c2, c3, c4, c5, c6, c7, c8, c9⟩ := HX.out.1.cell; have k0 := HX.out.1.frozen 0; have k3 := HX.out.1.frozen 3; have k4 := HX.out.1.frozen 4; have k6 := HX.out.1.frozen 6; have ha := HA.out; unfold fr8 at ha; obtain ⟨d0, d1, d2, d3, d4, d5, d6, d7⟩ := fr8_cell ha; obtain ⟨z0, z1, z2, z3, z4, z5, z6, z7⟩ := fr8_cell HZ.out; obtain ⟨f0, f1, f2, f3, f4, f5, f6, f7⟩ := fr8_frozen HZ.out; clear ha))
              refine bodyPost_ret (results_ct rfl _ _ _ 43 _ (0, 0) _ rfl (fr8_put HZ.out _ _ _ _ _ _ _ _) Try.underlying43 rfl (by kernel_rfl)) rfl ?_
              exact frEnd HX.out HF.out HZ.out HN.out _ _ _ _ _ _ _ _ _
            · go_wp2_with fail
              go_quiet (fail)
              have HX2 := Aside0.mk (InvL.drewN HX.out nq); have HF2 := Aside0.mk (Fr.drewN HF.out nq); have HA2 := Aside0.mk (blk_drewN HA.out nq); have HZ2 := Aside0.mk (blk_drewN HZ.out nq); clear HX HF HA HZ; have HX := HX2; have HF := HF2; have HA := HA2; have HZ := HZ2; clear HX2 HF2 HA2 HZ2
              go_wp2_with (first | (go_at_call 118; refine (ends_calls n₀ g _ (.slice A' n c') _ _ _ HX.out HX.out.2.2.1.choose_spec).mono ?_; rintro e w3 ⟨rfl, hi3, hf3⟩; have ha2 := hf3.blk HA.out (ne_of_at HX.out.1 HA.out); have hz2 := hf3.blk HZ.out (ne_of_at HX.out.1 HZ.out); have hf2 := HF.out.trans hf3; clear c0 c1 c2 c3 c4 c5 c6 c7 c8 c9 k0 k3 k4 k6 d0 d1 d2 d3 d4 d5 d6 d7 z0 z1 z2 z3 z4 z5 z6 z7 f0 f1 f2 f3 f4 f5 f6 f7; clear HX HF HA HZ; have HX := Aside0.mk hi3; have HF := Aside0.mk hf2; have HA := Aside0.mk ha2; have HZ := Aside0.mk hz2; clear hi3 hf2 ha2 hz2 hf3; obtain ⟨c0, c1, c2, c3, c4, c5, c6, c7, c8, c9⟩ := HX.out.1.cell; have k0 := HX.out.1.frozen 0; have k3 := HX.out.1.frozen 3; have k4 := HX.out.1.frozen 4; have k6 := HX.out.1.frozen 6; have ha := HA.out; unfold fr8 at ha; obtain ⟨d0, d1, d2, d3, d4, d5, d6, d7⟩ := fr8_cell ha; obtain ⟨z0, z1, z2, z3, z4, z5, z6, z7⟩ := fr8_cell HZ.out; obtain ⟨f0, f1, f2, f3, f4, f5, f6, f7⟩ := fr8_frozen HZ.out; clear ha))
              refine bodyPost_ret (results_ct rfl _ _ _ 43 _ (0, 0) _ rfl (fr8_put HZ.out _ _ _ _ _ _ _ _) Try.underlying43 rfl (by kernel_rfl)) rfl ?_
              exact frEnd HX.out HF.out HZ.out HN.out _ _ _ _ _ _ _ _ _
          · have hsb : decide (0 ≤ s.size) = false := decide_eq_false hs
            have hs' : s.size < 0 := by omega
            go_wp2_with fail
            go_quiet (fail)
            have HX2 := Aside0.mk (InvL.drewN HX.out nq); have HF2 := Aside0.mk (Fr.drewN HF.out nq); have HA2 := Aside0.mk (blk_drewN HA.out nq); have HZ2 := Aside0.mk (blk_drewN HZ.out nq); clear HX HF HA HZ; have HX := HX2; have HF := HF2; have HA := HA2; have HZ := HZ2; clear HX2 HF2 HA2 HZ2
            go_wp2_with (first | (go_at_call 118; refine (ends_calls n₀ g _ (.slice A' n c') _ _ _ HX.out HX.out.2.2.1.choose_spec).mono ?_; rintro e w3 ⟨rfl, hi3, hf3⟩; have ha2 := hf3.blk HA.out (ne_of_at HX.out.1 HA.out); have hz2 := hf3.blk HZ.out (ne_of_at HX.out.1 HZ.out); have hf2 := HF.out.trans hf3; clear c0 c1 c2 c3 c4 c5 c6 c7 c8 c9 k0 k3 k4 k6 d0 d1 d2 d3 d4 d5 d6 d7 z0 z1 z2 z3 z4 z5 z6 z7 f0 f1 f2 f3 f4 f5 f6 f7; clear HX HF HA HZ; have HX := Aside0.mk hi3; have HF := Aside0.mk hf2; have HA := Aside0.mk ha2; have HZ := Aside0.mk hz2; clear hi3 hf2 ha2 hz2 hf3; obtain ⟨c0, c1, c2, c3, c4, c5, c6, c7, c8, c9⟩ := HX.out.1.cell; have k0 := HX.out.1.frozen 0; have k3 := HX.out.1.frozen 3; have k4 := HX.out.1.frozen 4; have k6 := HX.out.1.frozen 6; have ha := HA.out; unfold fr8 at ha; obtain ⟨d0, d1, d2, d3, d4, d5, d6, d7⟩ := fr8_cell ha; obtain ⟨z0, z1, z2, z3, z4, z5, z6, z7⟩ := fr8_cell HZ.out; obtain ⟨f0, f1, f2, f3, f4, f5, f6, f7⟩ := fr8_frozen HZ.out; clear ha))
            refine bodyPost_ret (results_ct rfl _ _ _ 43 _ (0, 0) _ rfl (fr8_put HZ.out _ _ _ _ _ _ _ _) Try.underlying43 rfl (by kernel_rfl)) rfl ?_
            exact frEnd HX.out HF.out HZ.out HN.out _ _ _ _ _ _ _ _ _
        · go_wp2_with fail
          have hz4 := other_blk HZ.out (show w.heap.size + 1 ≠ g by omega) 4 (.int .u8 (bits .xor .u8 s.turn 16))
          refine bodyPost_ret (results_ct rfl _ _ _ 43 _ (0, 0) _ rfl (fr8_put hz4 _ _ _ _ _ _ _ _) Try.underlying43 rfl (by kernel_rfl)) rfl ?_
          exact frEnd (inv_put4 HX.out _) (HF.out.set HX.out.2.1 4 _) hz4 HN.out _ _ _ _ _ _ _ _ _
      · have HX := Aside0.mk h2
        clear h2 h3
        obtain ⟨c0, c1, c2, c3, c4, c5, c6, c7, c8, c9⟩ := HX.out.1.cell; have k0 := HX.out.1.frozen 0; have k3 := HX.out.1.frozen 3; have k4 := HX.out.1.frozen 4; have k6 := HX.out.1.frozen 6; have ha := HA.out; unfold fr8 at ha; obtain ⟨d0, d1, d2, d3, d4, d5, d6, d7⟩ := fr8_cell ha; obtain ⟨z0, z1, z2, z3, z4, z5, z6, z7⟩ := fr8_cell HZ.out; obtain ⟨f0, f1, f2, f3, f4, f5, f6, f7⟩ := fr8_frozen HZ.out; clear ha
        dsimp only at c0 c3 c4 c6
        go_wp2_with (first | (go_at_call 70; refine (gives_calls n₀ g _ 84148229 _ HX.out).mono ?_; rintro e w3 ⟨⟨xx, rfl⟩, hi3, hf3⟩; unfold fr8; have ha2 := hf3.blk HA.out (ne_of_at HX.out.1 HA.out); have hz2 := hf3.blk HZ.out (ne_of_at HX.out.1 HZ.out); have hf2 := HF.out.trans hf3; clear c0 c1 c2 c3 c4 c5 c6 c7 c8 c9 k0 k3 k4 k6 d0 d1 d2 d3 d4 d5 d6 d7 z0 z1 z2 z3 z4 z5 z6 z7 f0 f1 f2 f3 f4 f5 f6 f7; clear HX HF HA HZ; have HX := Aside0.mk hi3; have HF := Aside0.mk hf2; have HA := Aside0.mk ha2; have HZ := Aside0.mk hz2; clear hi3 hf2 ha2 hz2 hf3; obtain ⟨c0, c1, c2, c3, c4, c5, c6, c7, c8, c9⟩ := HX.out.1.cell; have k0 := HX.out.1.frozen 0; have k3 := HX.out.1.frozen 3; have k4 := HX.out.1.frozen 4; have k6 := HX.out.1.frozen 6; have ha := HA.out; unfold fr8 at ha; obtain ⟨d0, d1, d2, d3, d4, d5, d6, d7⟩ := fr8_cell ha; obtain ⟨z0, z1, z2, z3, z4, z5, z6, z7⟩ := fr8_cell HZ.out; obtain ⟨f0, f1, f2, f3, f4, f5, f6, f7⟩ := fr8_frozen HZ.out; clear ha))
        refine bodyPost_ret (results_ct rfl _ _ _ 43 _ (0, 0) _ rfl (fr8_put HZ.out _ _ _ _ _ _ _ _) Try.underlying43 rfl (by kernel_rfl)) rfl ?_
        exact frEnd HX.out HF.out HZ.out HN.out _ _ _ _ _ _ _ _ _)
  · rw [hm] at ha7
    clear hm
    have hw1 : IntKind.i64.wrap 1 = 1 := by decide
    have hw2 : IntKind.i64.wrap 7 = 7 := by decide
    go_enter Try.func161, Try.ntmps161
    go_wp2_with fail
    refine ctStopC (ctStart HI.out x) ?_
    rintro W ⟨hX, hF, hA, hZ⟩
    obtain ⟨A0, n0, c0', n, A', c', W2, hb, hn2, hap, hAt, hF2, hI2, hI3⟩ := app_run hX HH4.out hA (Nat.le_trans HN.out hF.2.1) 1 6 7 (by omega)
    have HX := Aside0.mk hX
    have HF := Aside0.mk hF
    have HA := Aside0.mk hA
    have HZ := Aside0.mk hZ
    have HF2 := Aside0.mk hF2
    have HI2 := Aside0.mk hI2
    have HI3 := Aside0.mk hI3
    clear hX hF hA hZ hF2 hI2 hI3
    obtain ⟨c0, c1, c2, c3, c4, c5, c6, c7, c8, c9⟩ := HX.out.1.cell; have k0 := HX.out.1.frozen 0; have k3 := HX.out.1.frozen 3; have k4 := HX.out.1.frozen 4; have k6 := HX.out.1.frozen 6; have ha := HA.out; unfold fr8 at ha; obtain ⟨d0, d1, d2, d3, d4, d5, d6, d7⟩ := fr8_cell ha; obtain ⟨z0, z1, z2, z3, z4, z5, z6, z7⟩ := fr8_cell HZ.out; obtain ⟨f0, f1, f2, f3, f4, f5, f6, f7⟩ := fr8_frozen HZ.out; clear ha
    rw [hb] at c3
    obtain ⟨C0, C1, C2, C3, C4, C5, C6, C7, C8, C9⟩ := hAt.cell
    have K3 := hAt.frozen 3
    rw [hb] at C3
    clear hAt
    go_region_law (refine step_append_eq (by rfl) (.tmp 10) (.tmp 17) 23 rfl rfl rfl hap ?_)
    all_goals (
      go_wp2_with ((with_reducible refine gate_dst (N := 25) rfl ?_); apply stopHere)
      refine fuStop (fuMk HX.out HF.out HA.out HZ.out HF2.out HI2.out HI3.out) ?_
      clear HX HF HA HZ HF2 HI2 HI3 C0 C1 C2 C3 C4 C5 C6 C7 C8 C9 K3 hap hb c0 c1 c2 c3 c4 c5 c6 c7 c8 c9 k0 k3 k4 k6 d0 d1 d2 d3 d4 d5 d6 d7 z0 z1 z2 z3 z4 z5 z6 z7 f0 f1 f2 f3 f4 f5 f6 f7
      rintro W3 ⟨h2, h3, hF, hA, hZ⟩
      have HF := Aside0.mk hF
      have HA := Aside0.mk hA
      have HZ := Aside0.mk hZ
      clear hF hA hZ
      by_cases hbig : n ≤ 65536
      · have HX := Aside0.mk (h3 hbig)
        clear h2 h3
        obtain ⟨c0, c1, c2, c3, c4, c5, c6, c7, c8, c9⟩ := HX.out.1.cell; have k0 := HX.out.1.frozen 0; have k3 := HX.out.1.frozen 3; have k4 := HX.out.1.frozen 4; have k6 := HX.out.1.frozen 6; have ha := HA.out; unfold fr8 at ha; obtain ⟨d0, d1, d2, d3, d4, d5, d6, d7⟩ := fr8_cell ha; obtain ⟨z0, z1, z2, z3, z4, z5, z6, z7⟩ := fr8_cell HZ.out; obtain ⟨f0, f1, f2, f3, f4, f5, f6, f7⟩ := fr8_frozen HZ.out; clear ha
        dsimp only at c0 c3 c4 c6
        cases hb1 : (bits .and .u8 (x 0) 1 == 0)
        · by_cases hs : 0 ≤ s.size
          · cases hsz : (s.size == (n : Int))
            · go_wp2_with fail
              go_quiet (fail)
              have HX2 := Aside0.mk (InvL.drewN HX.out nq); have HF2 := Aside0.mk (Fr.drewN HF.out nq); have HA2 := Aside0.mk (blk_drewN HA.out nq); have HZ2 := Aside0.mk (blk_drewN HZ.out nq); clear HX HF HA HZ; have HX := HX2; have HF := HF2; have HA := HA2; have HZ := HZ2; clear HX2 HF2 HA2 HZ2
              go_wp2_with (first | (go_at_call 70; refine (gives_calls n₀ g _ 101122064 _ HX.out).mono ?_; rintro e w3 ⟨⟨xx, rfl⟩, hi3, hf3⟩; unfold fr8; have ha2 := hf3.blk HA.out (ne_of_at HX.out.1 HA.out); have hz2 := hf3.blk HZ.out (ne_of_at HX.out.1 HZ.out); have hf2 := HF.out.trans hf3; clear c0 c1 c2 c3 c4 c5 c6 c7 c8 c9 k0 k3 k4 k6 d0 d1 d2 d3 d4 d5 d6 d7 z0 z1 z2 z3 z4 z5 z6 z7 f0 f1 f2 f3 f4 f5 f6 f7; clear HX HF HA HZ; have HX := Aside0.mk hi3; have HF := Aside0.mk hf2; have HA := Aside0.mk ha2; have HZ := Aside0.mk hz2; clear hi3 hf2 ha2 hz2 hf3; obtain ⟨c0, c1, c2, c3, c4, c5, c6, c7, c8, c9⟩ := HX.out.1.cell; have k0 := HX.out.1.frozen 0; have k3 := HX.out.1.frozen 3; have k4 := HX.out.1.frozen 4; have k6 := HX.out.1.frozen 6; have ha := HA.out; unfold fr8 at ha; obtain ⟨d0, d1, d2, d3, d4, d5, d6, d7⟩ := fr8_cell ha; obtain ⟨z0, z1, z2, z3, z4, z5, z6, z7⟩ := fr8_cell HZ.out; obtain ⟨f0, f1, f2, f3, f4, f5, f6, f7⟩ := fr8_frozen HZ.out; clear ha))
              refine bodyPost_ret (results_ct rfl _ _ _ 43 _ (0, 0) _ rfl (fr8_put HZ.out _ _ _ _ _ _ _ _) Try.underlying43 rfl (by kernel_rfl)) rfl ?_
              exact frEnd HX.out HF.out HZ.out HN.out _ _ _ _ _ _ _ _ _
            · go_wp2_with fail
              go_quiet (fail)
              have HX2 := Aside0.mk (InvL.drewN HX.out nq); have HF2 := Aside0.mk (Fr.drewN HF.out nq); have HA2 := Aside0.mk (blk_drewN HA.out nq); have HZ2 := Aside0.mk (blk_drewN HZ.out nq); clear HX HF HA HZ; have HX := HX2; have HF := HF2; have HA := HA2; have HZ := HZ2; clear HX2 HF2 HA2 HZ2
              go_wp2_with (first | (go_at_call 118; refine (ends_calls n₀ g _ (.slice A' n c') _ _ _ HX.out HX.out.2.2.1.choose_spec).mono ?_; rintro e w3 ⟨rfl, hi3, hf3⟩; have ha2 := hf3.blk HA.out (ne_of_at HX.out.1 HA.out); have hz2 := hf3.blk HZ.out (ne_of_at HX.out.1 HZ.out); have hf2 := HF.out.trans hf3; clear c0 c1 c2 c3 c4 c5 c6 c7 c8 c9 k0 k3 k4 k6 d0 d1 d2 d3 d4 d5 d6 d7 z0 z1 z2 z3 z4 z5 z6 z7 f0 f1 f2 f3 f4 f5 f6 f7; clear HX HF HA HZ; have HX := Aside0.mk hi3; have HF := Aside0.mk hf2; have HA := Aside0.mk ha2; have HZ := Aside0.mk hz2; clear hi3 hf2 ha2 hz2 hf3; obtain ⟨c0, c1, c2, c3, c4, c5, c6, c7, c8, c9⟩ := HX.out.1.cell; have k0 := HX.out.1.frozen 0; have k3 := HX.out.1.frozen 3; have k4 := HX.out.1.frozen 4; have k6 := HX.out.1.frozen 6; have ha := HA.out; unfold fr8 at ha; obtain ⟨d0, d1, d2, d3, d4, d5, d6, d7⟩ := fr8_cell ha; obtain ⟨z0, z1, z2, z3, z4, z5, z6, z7⟩ := fr8_cell HZ.out; obtain ⟨f0, f1, f2, f3, f4, f5, f6, f7⟩ := fr8_frozen HZ.out; clear ha))
              refine bodyPost_ret (results_ct rfl _ _ _ 43 _ (0, 0) _ rfl (fr8_put HZ.out _ _ _ _ _ _ _ _) Try.underlying43 rfl (by kernel_rfl)) rfl ?_
              exact frEnd HX.out HF.out HZ.out HN.out _ _ _ _ _ _ _ _ _
          · have hsb : decide (0 ≤ s.size) = false := decide_eq_false hs
            have hs' : s.size < 0 := by omega
            go_wp2_with fail
            go_quiet (fail)
            have HX2 := Aside0.mk (InvL.drewN HX.out nq); have HF2 := Aside0.mk (Fr.drewN HF.out nq); have HA2 := Aside0.mk (blk_drewN HA.out nq); have HZ2 := Aside0.mk (blk_drewN HZ.out nq); clear HX HF HA HZ; have HX := HX2; have HF := HF2; have HA := HA2; have HZ := HZ2; clear HX2 HF2 HA2 HZ2
            go_wp2_with (first | (go_at_call 118; refine (ends_calls n₀ g _ (.slice A' n c') _ _ _ HX.out HX.out.2.2.1.choose_spec).mono ?_; rintro e w3 ⟨rfl, hi3, hf3⟩; have ha2 := hf3.blk HA.out (ne_of_at HX.out.1 HA.out); have hz2 := hf3.blk HZ.out (ne_of_at HX.out.1 HZ.out); have hf2 := HF.out.trans hf3; clear c0 c1 c2 c3 c4 c5 c6 c7 c8 c9 k0 k3 k4 k6 d0 d1 d2 d3 d4 d5 d6 d7 z0 z1 z2 z3 z4 z5 z6 z7 f0 f1 f2 f3 f4 f5 f6 f7; clear HX HF HA HZ; have HX := Aside0.mk hi3; have HF := Aside0.mk hf2; have HA := Aside0.mk ha2; have HZ := Aside0.mk hz2; clear hi3 hf2 ha2 hz2 hf3; obtain ⟨c0, c1, c2, c3, c4, c5, c6, c7, c8, c9⟩ := HX.out.1.cell; have k0 := HX.out.1.frozen 0; have k3 := HX.out.1.frozen 3; have k4 := HX.out.1.frozen 4; have k6 := HX.out.1.frozen 6; have ha := HA.out; unfold fr8 at ha; obtain ⟨d0, d1, d2, d3, d4, d5, d6, d7⟩ := fr8_cell ha; obtain ⟨z0, z1, z2, z3, z4, z5, z6, z7⟩ := fr8_cell HZ.out; obtain ⟨f0, f1, f2, f3, f4, f5, f6, f7⟩ := fr8_frozen HZ.out; clear ha))
            refine bodyPost_ret (results_ct rfl _ _ _ 43 _ (0, 0) _ rfl (fr8_put HZ.out _ _ _ _ _ _ _ _) Try.underlying43 rfl (by kernel_rfl)) rfl ?_
            exact frEnd HX.out HF.out HZ.out HN.out _ _ _ _ _ _ _ _ _
        · go_wp2_with fail
          have hz4 := other_blk HZ.out (show w.heap.size + 1 ≠ g by omega) 4 (.int .u8 (bits .xor .u8 s.turn 16))
          refine bodyPost_ret (results_ct rfl _ _ _ 43 _ (0, 0) _ rfl (fr8_put hz4 _ _ _ _ _ _ _ _) Try.underlying43 rfl (by kernel_rfl)) rfl ?_
          exact frEnd (inv_put4 HX.out _) (HF.out.set HX.out.2.1 4 _) hz4 HN.out _ _ _ _ _ _ _ _ _
      · have HX := Aside0.mk h2
        clear h2 h3
        obtain ⟨c0, c1, c2, c3, c4, c5, c6, c7, c8, c9⟩ := HX.out.1.cell; have k0 := HX.out.1.frozen 0; have k3 := HX.out.1.frozen 3; have k4 := HX.out.1.frozen 4; have k6 := HX.out.1.frozen 6; have ha := HA.out; unfold fr8 at ha; obtain ⟨d0, d1, d2, d3, d4, d5, d6, d7⟩ := fr8_cell ha; obtain ⟨z0, z1, z2, z3, z4, z5, z6, z7⟩ := fr8_cell HZ.out; obtain ⟨f0, f1, f2, f3, f4, f5, f6, f7⟩ := fr8_frozen HZ.out; clear ha
        dsimp only at c0 c3 c4 c6
        go_wp2_with (first | (go_at_call 70; refine (gives_calls n₀ g _ 84148229 _ HX.out).mono ?_; rintro e w3 ⟨⟨xx, rfl⟩, hi3, hf3⟩; unfold fr8; have ha2 := hf3.blk HA.out (ne_of_at HX.out.1 HA.out); have hz2 := hf3.blk HZ.out (ne_of_at HX.out.1 HZ.out); have hf2 := HF.out.trans hf3; clear c0 c1 c2 c3 c4 c5 c6 c7 c8 c9 k0 k3 k4 k6 d0 d1 d2 d3 d4 d5 d6 d7 z0 z1 z2 z3 z4 z5 z6 z7 f0 f1 f2 f3 f4 f5 f6 f7; clear HX HF HA HZ; have HX := Aside0.mk hi3; have HF := Aside0.mk hf2; have HA := Aside0.mk ha2; have HZ := Aside0.mk hz2; clear hi3 hf2 ha2 hz2 hf3; obtain ⟨c0, c1, c2, c3, c4, c5, c6, c7, c8, c9⟩ := HX.out.1.cell; have k0 := HX.out.1.frozen 0; have k3 := HX.out.1.frozen 3; have k4 := HX.out.1.frozen 4; have k6 := HX.out.1.frozen 6; have ha := HA.out; unfold fr8 at ha; obtain ⟨d0, d1, d2, d3, d4, d5, d6, d7⟩ := fr8_cell ha; obtain ⟨z0, z1, z2, z3, z4, z5, z6, z7⟩ := fr8_cell HZ.out; obtain ⟨f0, f1, f2, f3, f4, f5, f6, f7⟩ := fr8_frozen HZ.out; clear ha))
        refine bodyPost_ret (results_ct rfl _ _ _ 43 _ (0, 0) _ rfl (fr8_put HZ.out _ _ _ _ _ _ _ _) Try.underlying43 rfl (by kernel_rfl)) rfl ?_
        exact frEnd HX.out HF.out HZ.out HN.out _ _ _ _ _ _ _ _ _)
  · rw [hm] at ha7
    clear hm
    have hw1 : IntKind.i64.wrap 2 = 2 := by decide
    have hw2 : IntKind.i64.wrap 6 = 6 := by decide
    go_enter Try.func161, Try.ntmps161
    go_wp2_with fail
    refine ctStopC (ctStart HI.out x) ?_
    rintro W ⟨hX, hF, hA, hZ⟩
    obtain ⟨A0, n0, c0', n, A', c', W2, hb, hn2, hap, hAt, hF2, hI2, hI3⟩ := app_run hX HH4.out hA (Nat.le_trans HN.out hF.2.1) 1 5 7 (by omega)
    have HX := Aside0.mk hX
    have HF := Aside0.mk hF
    have HA := Aside0.mk hA
    have HZ := Aside0.mk hZ
    have HF2 := Aside0.mk hF2
    have HI2 := Aside0.mk hI2
    have HI3 := Aside0.mk hI3
    clear hX hF hA hZ hF2 hI2 hI3
    obtain ⟨c0, c1, c2, c3, c4, c5, c6, c7, c8, c9⟩ := HX.out.1.cell; have k0 := HX.out.1.frozen 0; have k3 := HX.out.1.frozen 3; have k4 := HX.out.1.frozen 4; have k6 := HX.out.1.frozen 6; have ha := HA.out; unfold fr8 at ha; obtain ⟨d0, d1, d2, d3, d4, d5, d6, d7⟩ := fr8_cell ha; obtain ⟨z0, z1, z2, z3, z4, z5, z6, z7⟩ := fr8_cell HZ.out; obtain ⟨f0, f1, f2, f3, f4, f5, f6, f7⟩ := fr8_frozen HZ.out; clear ha
    rw [hb] at c3
    obtain ⟨C0, C1, C2, C3, C4, C5, C6, C7, C8, C9⟩ := hAt.cell
    have K3 := hAt.frozen 3
    rw [hb] at C3
    clear hAt
    go_region_law (refine step_append_eq (by rfl) (.tmp 10) (.tmp 17) 23 rfl rfl rfl hap ?_)
    all_goals (
      go_wp2_with ((with_reducible refine gate_dst (N := 25) rfl ?_); apply stopHere)
      refine fuStop (fuMk HX.out HF.out HA.out HZ.out HF2.out HI2.out HI3.out) ?_
      clear HX HF HA HZ HF2 HI2 HI3 C0 C1 C2 C3 C4 C5 C6 C7 C8 C9 K3 hap hb c0 c1 c2 c3 c4 c5 c6 c7 c8 c9 k0 k3 k4 k6 d0 d1 d2 d3 d4 d5 d6 d7 z0 z1 z2 z3 z4 z5 z6 z7 f0 f1 f2 f3 f4 f5 f6 f7
      rintro W3 ⟨h2, h3, hF, hA, hZ⟩
      have HF := Aside0.mk hF
      have HA := Aside0.mk hA
      have HZ := Aside0.mk hZ
      clear hF hA hZ
      by_cases hbig : n ≤ 65536
      · have HX := Aside0.mk (h3 hbig)
        clear h2 h3
        obtain ⟨c0, c1, c2, c3, c4, c5, c6, c7, c8, c9⟩ := HX.out.1.cell; have k0 := HX.out.1.frozen 0; have k3 := HX.out.1.frozen 3; have k4 := HX.out.1.frozen 4; have k6 := HX.out.1.frozen 6; have ha := HA.out; unfold fr8 at ha; obtain ⟨d0, d1, d2, d3, d4, d5, d6, d7⟩ := fr8_cell ha; obtain ⟨z0, z1, z2, z3, z4, z5, z6, z7⟩ := fr8_cell HZ.out; obtain ⟨f0, f1, f2, f3, f4, f5, f6, f7⟩ := fr8_frozen HZ.out; clear ha
        dsimp only at c0 c3 c4 c6
        cases hb1 : (bits .and .u8 (x 0) 1 == 0)
        · by_cases hs : 0 ≤ s.size
          · cases hsz : (s.size == (n : Int))
            · go_wp2_with fail
              go_quiet (fail)
              have HX2 := Aside0.mk (InvL.drewN HX.out nq); have HF2 := Aside0.mk (Fr.drewN HF.out nq); have HA2 := Aside0.mk (blk_drewN HA.out nq); have HZ2 := Aside0.mk (blk_drewN HZ.out nq); clear HX HF HA HZ; have HX := HX2; have HF := HF2; have HA := HA2; have HZ := HZ2; clear HX2 HF2 HA2 HZ2
              go_wp2_with (first | (go_at_call 70; refine (gives_calls n₀ g _ 101122064 _ HX.out).mono ?_; rintro e w3 ⟨⟨xx, rfl⟩, hi3, hf3⟩; unfold fr8; have ha2 := hf3.blk HA.out (ne_of_at HX.out.1 HA.out); have hz2 := hf3.blk HZ.out (ne_of_at HX.out.1 HZ.out); have hf2 := HF.out.trans hf3; clear c0 c1 c2 c3 c4 c5 c6 c7 c8 c9 k0 k3 k4 k6 d0 d1 d2 d3 d4 d5 d6 d7 z0 z1 z2 z3 z4 z5 z6 z7 f0 f1 f2 f3 f4 f5 f6 f7; clear HX HF HA HZ; have HX := Aside0.mk hi3; have HF := Aside0.mk hf2; have HA := Aside0.mk ha2; have HZ := Aside0.mk hz2; clear hi3 hf2 ha2 hz2 hf3; obtain ⟨c0, c1, c2, c3, c4, c5, c6, c7, c8, c9⟩ := HX.out.1.cell; have k0 := HX.out.1.frozen 0; have k3 := HX.out.1.frozen 3; have k4 := HX.out.1.frozen 4; have k6 := HX.out.1.frozen 6; have ha := HA.out; unfold fr8 at ha; obtain ⟨d0, d1, d2, d3, d4, d5, d6, d7⟩ := fr8_cell ha; obtain ⟨z0, z1, z2, z3, z4, z5, z6, z7⟩ := fr8_cell HZ.out; obtain ⟨f0, f1, f2, f3, f4, f5, f6, f7⟩ := fr8_frozen HZ.out; clear ha))
              refine bodyPost_ret (results_ct rfl _ _ _ 43 _ (0, 0) _ rfl (fr8_put HZ.out _ _ _ _ _ _ _ _) Try.underlying43 rfl (by kernel_rfl)) rfl ?_
              exact frEnd HX.out HF.out HZ.out HN.out _ _ _ _ _ _ _ _ _
            · go_wp2_with fail
              go_quiet (fail)
              have HX2 := Aside0.mk (InvL.drewN HX.out nq); have HF2 := Aside0.mk (Fr.drewN HF.out nq); have HA2 := Aside0.mk (blk_drewN HA.out nq); have HZ2 := Aside0.mk (blk_drewN HZ.out nq); clear HX HF HA HZ; have HX := HX2; have HF := HF2; have HA := HA2; have HZ := HZ2; clear HX2 HF2 HA2 HZ2
              go_wp2_with (first | (go_at_call 118; refine (ends_calls n₀ g _ (.slice A' n c') _ _ _ HX.out HX.out.2.2.1.choose_spec).mono ?_; rintro e w3 ⟨rfl, hi3, hf3⟩; have ha2 := hf3.blk HA.out (ne_of_at HX.out.1 HA.out); have hz2 := hf3.blk HZ.out (ne_of_at HX.out.1 HZ.out); have hf2 := HF.out.trans hf3; clear c0 c1 c2 c3 c4 c5 c6 c7 c8 c9 k0 k3 k4 k6 d0 d1 d2 d3 d4 d5 d6 d7 z0 z1 z2 z3 z4 z5 z6 z7 f0 f1 f2 f3 f4 f5 f6 f7; clear HX HF HA HZ; have HX := Aside0.mk hi3; have HF := Aside0.mk hf2; have HA := Aside0.mk ha2; have HZ := Aside0.mk hz2; clear hi3 hf2 ha2 hz2 hf3; obtain ⟨c0, c1, c2, c3, c4, c5, c6, c7, c8, c9⟩ := HX.out.1.cell; have k0 := HX.out.1.frozen 0; have k3 := HX.out.1.frozen 3; have k4 := HX.out.1.frozen 4; have k6 := HX.out.1.frozen 6; have ha := HA.out; unfold fr8 at ha; obtain ⟨d0, d1, d2, d3, d4, d5, d6, d7⟩ := fr8_cell ha; obtain ⟨z0, z1, z2, z3, z4, z5, z6, z7⟩ := fr8_cell HZ.out; obtain ⟨f0, f1, f2, f3, f4, f5, f6, f7⟩ := fr8_frozen HZ.out; clear ha))
              refine bodyPost_ret (results_ct rfl _ _ _ 43 _ (0, 0) _ rfl (fr8_put HZ.out _ _ _ _ _ _ _ _) Try.underlying43 rfl (by kernel_rfl)) rfl ?_
              exact frEnd HX.out HF.out HZ.out HN.out _ _ _ _ _ _ _ _ _
          · have hsb : decide (0 ≤ s.size) = false := decide_eq_false hs
            have hs' : s.size < 0 := by omega
            go_wp2_with fail
            go_quiet (fail)
            have HX2 := Aside0.mk (InvL.drewN HX.out nq); have HF2 := Aside0.mk (Fr.drewN HF.out nq); have HA2 := Aside0.mk (blk_drewN HA.out nq); have HZ2 := Aside0.mk (blk_drewN HZ.out nq); clear HX HF HA HZ; have HX := HX2; have HF := HF2; have HA := HA2; have HZ := HZ2; clear HX2 HF2 HA2 HZ2
            go_wp2_with (first | (go_at_call 118; refine (ends_calls n₀ g _ (.slice A' n c') _ _ _ HX.out HX.out.2.2.1.choose_spec).mono ?_; rintro e w3 ⟨rfl, hi3, hf3⟩; have ha2 := hf3.blk HA.out (ne_of_at HX.out.1 HA.out); have hz2 := hf3.blk HZ.out (ne_of_at HX.out.1 HZ.out); have hf2 := HF.out.trans hf3; clear c0 c1 c2 c3 c4 c5 c6 c7 c8 c9 k0 k3 k4 k6 d0 d1 d2 d3 d4 d5 d6 d7 z0 z1 z2 z3 z4 z5 z6 z7 f0 f1 f2 f3 f4 f5 f6 f7; clear HX HF HA HZ; have HX := Aside0.mk hi3; have HF := Aside0.mk hf2; have HA := Aside0.mk ha2; have HZ := Aside0.mk hz2; clear hi3 hf2 ha2 hz2 hf3; obtain ⟨c0, c1, c2, c3, c4, c5, c6, c7, c8, c9⟩ := HX.out.1.cell; have k0 := HX.out.1.frozen 0; have k3 := HX.out.1.frozen 3; have k4 := HX.out.1.frozen 4; have k6 := HX.out.1.frozen 6; have ha := HA.out; unfold fr8 at ha; obtain ⟨d0, d1, d2, d3, d4, d5, d6, d7⟩ := fr8_cell ha; obtain ⟨z0, z1, z2, z3, z4, z5, z6, z7⟩ := fr8_cell HZ.out; obtain ⟨f0, f1, f2, f3, f4, f5, f6, f7⟩ := fr8_frozen HZ.out; clear ha))
            refine bodyPost_ret (results_ct rfl _ _ _ 43 _ (0, 0) _ rfl (fr8_put HZ.out _ _ _ _ _ _ _ _) Try.underlying43 rfl (by kernel_rfl)) rfl ?_
            exact frEnd HX.out HF.out HZ.out HN.out _ _ _ _ _ _ _ _ _
        · go_wp2_with fail
          have hz4 := other_blk HZ.out (show w.heap.size + 1 ≠ g by omega) 4 (.int .u8 (bits .xor .u8 s.turn 16))
          refine bodyPost_ret (results_ct rfl _ _ _ 43 _ (0, 0) _ rfl (fr8_put hz4 _ _ _ _ _ _ _ _) Try.underlying43 rfl (by kernel_rfl)) rfl ?_
          exact frEnd (inv_put4 HX.out _) (HF.out.set HX.out.2.1 4 _) hz4 HN.out _ _ _ _ _ _ _ _ _
      · have HX := Aside0.mk h2
        clear h2 h3
        obtain ⟨c0, c1, c2, c3, c4, c5, c6, c7, c8, c9⟩ := HX.out.1.cell; have k0 := HX.out.1.frozen 0; have k3 := HX.out.1.frozen 3; have k4 := HX.out.1.frozen 4; have k6 := HX.out.1.frozen 6; have ha := HA.out; unfold fr8 at ha; obtain ⟨d0, d1, d2, d3, d4, d5, d6, d7⟩ := fr8_cell ha; obtain ⟨z0, z1, z2, z3, z4, z5, z6, z7⟩ := fr8_cell HZ.out; obtain ⟨f0, f1, f2, f3, f4, f5, f6, f7⟩ := fr8_frozen HZ.out; clear ha
        dsimp only at c0 c3 c4 c6
        go_wp2_with (first | (go_at_call 70; refine (gives_calls n₀ g _ 84148229 _ HX.out).mono ?_; rintro e w3 ⟨⟨xx, rfl⟩, hi3, hf3⟩; unfold fr8; have ha2 := hf3.blk HA.out (ne_of_at HX.out.1 HA.out); have hz2 := hf3.blk HZ.out (ne_of_at HX.out.1 HZ.out); have hf2 := HF.out.trans hf3; clear c0 c1 c2 c3 c4 c5 c6 c7 c8 c9 k0 k3 k4 k6 d0 d1 d2 d3 d4 d5 d6 d7 z0 z1 z2 z3 z4 z5 z6 z7 f0 f1 f2 f3 f4 f5 f6 f7; clear HX HF HA HZ; have HX := Aside0.mk hi3; have HF := Aside0.mk hf2; have HA := Aside0.mk ha2; have HZ := Aside0.mk hz2; clear hi3 hf2 ha2 hz2 hf3; obtain ⟨c0, c1, c2, c3, c4, c5, c6, c7, c8, c9⟩ := HX.out.1.cell; have k0 := HX.out.1.frozen 0; have k3 := HX.out.1.frozen 3; have k4 := HX.out.1.frozen 4; have k6 := HX.out.1.frozen 6; have ha := HA.out; unfold fr8 at ha; obtain ⟨d0, d1, d2, d3, d4, d5, d6, d7⟩ := fr8_cell ha; obtain ⟨z0, z1, z2, z3, z4, z5, z6, z7⟩ := fr8_cell HZ.out; obtain ⟨f0, f1, f2, f3, f4, f5, f6, f7⟩ := fr8_frozen HZ.out; clear ha))
        refine bodyPost_ret (results_ct rfl _ _ _ 43 _ (0, 0) _ rfl (fr8_put HZ.out _ _ _ _ _ _ _ _) Try.underlying43 rfl (by kernel_rfl)) rfl ?_
        exact frEnd HX.out HF.out HZ.out HN.out _ _ _ _ _ _ _ _ _)
  · rw [hm] at ha7
    clear hm
    have hw1 : IntKind.i64.wrap 3 = 3 := by decide
    have hw2 : IntKind.i64.wrap 5 = 5 := by decide
    go_enter Try.func161, Try.ntmps161
    go_wp2_with fail
    refine ctStopC (ctStart HI.out x) ?_
    rintro W ⟨hX, hF, hA, hZ⟩
    obtain ⟨A0, n0, c0', n, A', c', W2, hb, hn2, hap, hAt, hF2, hI2, hI3⟩ := app_run hX HH4.out hA (Nat.le_trans HN.out hF.2.1) 1 4 7 (by omega)
    have HX := Aside0.mk hX
    have HF := Aside0.mk hF
    have HA := Aside0.mk hA
    have HZ := Aside0.mk hZ
    have HF2 := Aside0.mk hF2
    have HI2 := Aside0.mk hI2
    have HI3 := Aside0.mk hI3
    clear hX hF hA hZ hF2 hI2 hI3
    obtain ⟨c0, c1, c2, c3, c4, c5, c6, c7, c8, c9⟩ := HX.out.1.cell; have k0 := HX.out.1.frozen 0; have k3 := HX.out.1.frozen 3; have k4 := HX.out.1.frozen 4; have k6 := HX.out.1.frozen 6; have ha := HA.out; unfold fr8 at ha; obtain ⟨d0, d1, d2, d3, d4, d5, d6, d7⟩ := fr8_cell ha; obtain ⟨z0, z1, z2, z3, z4, z5, z6, z7⟩ := fr8_cell HZ.out; obtain ⟨f0, f1, f2, f3, f4, f5, f6, f7⟩ := fr8_frozen HZ.out; clear ha
    rw [hb] at c3
    obtain ⟨C0, C1, C2, C3, C4, C5, C6, C7, C8, C9⟩ := hAt.cell
    have K3 := hAt.frozen 3
    rw [hb] at C3
    clear hAt
    go_region_law (refine step_append_eq (by rfl) (.tmp 10) (.tmp 17) 23 rfl rfl rfl hap ?_)
    all_goals (
      go_wp2_with ((with_reducible refine gate_dst (N := 25) rfl ?_); apply stopHere)
      refine fuStop (fuMk HX.out HF.out HA.out HZ.out HF2.out HI2.out HI3.out) ?_
      clear HX HF HA HZ HF2 HI2 HI3 C0 C1 C2 C3 C4 C5 C6 C7 C8 C9 K3 hap hb c0 c1 c2 c3 c4 c5 c6 c7 c8 c9 k0 k3 k4 k6 d0 d1 d2 d3 d4 d5 d6 d7 z0 z1 z2 z3 z4 z5 z6 z7 f0 f1 f2 f3 f4 f5 f6 f7
      rintro W3 ⟨h2, h3, hF, hA, hZ⟩
      have HF := Aside0.mk hF
      have HA := Aside0.mk hA
      have HZ := Aside0.mk hZ
      clear hF hA hZ
      by_cases hbig : n ≤ 65536
      · have HX := Aside0.mk (h3 hbig)
        clear h2 h3
        obtain ⟨c0, c1, c2, c3, c4, c5, c6, c7, c8, c9⟩ := HX.out.1.cell; have k0 := HX.out.1.frozen 0; have k3 := HX.out.1.frozen 3; have k4 := HX.out.1.frozen 4; have k6 := HX.out.1.frozen 6; have ha := HA.out; unfold fr8 at ha; obtain ⟨d0, d1, d2, d3, d4, d5, d6, d7⟩ := fr8_cell ha; obtain ⟨z0, z1, z2, z3, z4, z5, z6, z7⟩ := fr8_cell HZ.out; obtain ⟨f0, f1, f2, f3, f4, f5, f6, f7⟩ := fr8_frozen HZ.out; clear ha
        dsimp only at c0 c3 c4 c6
        cases hb1 : (bits .and .u8 (x 0) 1 == 0)
        · by_cases hs : 0 ≤ s.size
          · cases hsz : (s.size == (n : Int))
            · go_wp2_with fail
              go_quiet (fail)
              have HX2 := Aside0.mk (InvL.drewN HX.out nq); have HF2 := Aside0.mk (Fr.drewN HF.out nq); have HA2 := Aside0.mk (blk_drewN HA.out nq); have HZ2 := Aside0.mk (blk_drewN HZ.out nq); clear HX HF HA HZ; have HX := HX2; have HF := HF2; have HA := HA2; have HZ := HZ2; clear HX2 HF2 HA2 HZ2
              go_wp2_with (first | (go_at_call 70; refine (gives_calls n₀ g _ 101122064 _ HX.out).mono ?_; rintro e w3 ⟨⟨xx, rfl⟩, hi3, hf3⟩; unfold fr8; have ha2 := hf3.blk HA.out (ne_of_at HX.out.1 HA.out); have hz2 := hf3.blk HZ.out (ne_of_at HX.out.1 HZ.out); have hf2 := HF.out.trans hf3; clear c0 c1 c2 c3 c4 c5 c6 c7 c8 c9 k0 k3 k4 k6 d0 d1 d2 d3 d4 d5 d6 d7 z0 z1 z2 z3 z4 z5 z6 z7 f0 f1 f2 f3 f4 f5 f6 f7; clear HX HF HA HZ; have HX := Aside0.mk hi3; have HF := Aside0.mk hf2; have HA := Aside0.mk ha2; have HZ := Aside0.mk hz2; clear hi3 hf2 ha2 hz2 hf3; obtain ⟨c0, c1, c2, c3, c4, c5, c6, c7, c8, c9⟩ := HX.out.1.cell; have k0 := HX.out.1.frozen 0; have k3 := HX.out.1.frozen 3; have k4 := HX.out.1.frozen 4; have k6 := HX.out.1.frozen 6; have ha := HA.out; unfold fr8 at ha; obtain ⟨d0, d1, d2, d3, d4, d5, d6, d7⟩ := fr8_cell ha; obtain ⟨z0, z1, z2, z3, z4, z5, z6, z7⟩ := fr8_cell HZ.out; obtain ⟨f0, f1, f2, f3, f4, f5, f6, f7⟩ := fr8_frozen HZ.out; clear ha))
              refine bodyPost_ret (results_ct rfl _ _ _ 43 _ (0, 0) _ rfl (fr8_put HZ.out _ _ _ _ _ _ _ _) Try.underlying43 rfl (by kernel_rfl)) rfl ?_
              exact frEnd HX.out HF.out HZ.out HN.out _ _ _ _ _ _ _ _ _
            · go_wp2_with fail
              go_quiet (fail)
              have HX2 := Aside0.mk (InvL.drewN HX.out nq); have HF2 := Aside0.mk (Fr.drewN HF.out nq); have HA2 := Aside0.mk (blk_drewN HA.out nq); have HZ2 := Aside0.mk (blk_drewN HZ.out nq); clear HX HF HA HZ; have HX := HX2; have HF := HF2; have HA := HA2; have HZ := HZ2; clear HX2 HF2 HA2 HZ2
              go_wp2_with (first | (go_at_call 118; refine (ends_calls n₀ g _ (.slice A' n c') _ _ _ HX.out HX.out.2.2.1.choose_spec).mono ?_; rintro e w3 ⟨rfl, hi3, hf3⟩; have ha2 := hf3.blk HA.out (ne_of_at HX.out.1 HA.out); have hz2 := hf3.blk HZ.out (ne_of_at HX.out.1 HZ.out); have hf2 := HF.out.trans hf3; clear c0 c1 c2 c3 c4 c5 c6 c7 c8 c9 k0 k3 k4 k6 d0 d1 d2 d3 d4 d5 d6 d7 z0 z1 z2 z3 z4 z5 z6 z7 f0 f1 f2 f3 f4 f5 f6 f7; clear HX HF HA HZ; have HX := Aside0.mk hi3; have HF := Aside0.mk hf2; have HA := Aside0.mk ha2; have HZ := Aside0.mk hz2; clear hi3 hf2 ha2 hz2 hf3; obtain ⟨c0, c1, c2, c3, c4, c5, c6, c7, c8, c9⟩ := HX.out.1.cell; have k0 := HX.out.1.frozen 0; have k3 := HX.out.1.frozen 3; have k4 := HX.out.1.frozen 4; have k6 := HX.out.1.frozen 6; have ha := HA.out; unfold fr8 at ha; obtain ⟨d0, d1, d2, d3, d4, d5, d6, d7⟩ := fr8_cell ha; obtain ⟨z0, z1, z2, z3, z4, z5, z6, z7⟩ := fr8_cell HZ.out; obtain ⟨f0, f1, f2, f3, f4, f5, f6, f7⟩ := fr8_frozen HZ.out; clear ha))
              refine bodyPost_ret (results_ct rfl _ _ _ 43 _ (0, 0) _ rfl (fr8_put HZ.out _ _ _ _ _ _ _ _) Try.underlying43 rfl (by kernel_rfl)) rfl ?_
              exact frEnd HX.out HF.out HZ.out HN.out _ _ _ _ _ _ _ _ _
          · have hsb : decide (0 ≤ s.size) = false := decide_eq_false hs
            have hs' : s.size < 0 := by omega
            go_wp2_with fail
            go_quiet (fail)
            have HX2 := Aside0.mk (InvL.drewN HX.out nq); have HF2 := Aside0.mk (Fr.drewN HF.out nq); have HA2 := Aside0.mk (blk_drewN HA.out nq); have HZ2 := Aside0.mk (blk_drewN HZ.out nq); clear HX HF HA HZ; have HX := HX2; have HF := HF2; have HA := HA2; have HZ := HZ2; clear HX2 HF2 HA2 HZ2
            go_wp2_with (first | (go_at_call 118; refine (ends_calls n₀ g _ (.slice A' n c') _ _ _ HX.out HX.out.2.2.1.choose_spec).mono ?_; rintro e w3 ⟨rfl, hi3, hf3⟩; have ha2 := hf3.blk HA.out (ne_of_at HX.out.1 HA.out); have hz2 := hf3.blk HZ.out (ne_of_at HX.out.1 HZ.out); have hf2 := HF.out.trans hf3; clear c0 c1 c2 c3 c4 c5 c6 c7 c8 c9 k0 k3 k4 k6 d0 d1 d2 d3 d4 d5 d6 d7 z0 z1 z2 z3 z4 z5 z6 z7 f0 f1 f2 f3 f4 f5 f6 f7; clear HX HF HA HZ; have HX := Aside0.mk hi3; have HF := Aside0.mk hf2; have HA := Aside0.mk ha2; have HZ := Aside0.mk hz2; clear hi3 hf2 ha2 hz2 hf3; obtain ⟨c0, c1, c2, c3, c4, c5, c6, c7, c8, c9⟩ := HX.out.1.cell; have k0 := HX.out.1.frozen 0; have k3 := HX.out.1.frozen 3; have k4 := HX.out.1.frozen 4; have k6 := HX.out.1.frozen 6; have ha := HA.out; unfold fr8 at ha; obtain ⟨d0, d1, d2, d3, d4, d5, d6, d7⟩ := fr8_cell ha; obtain ⟨z0, z1, z2, z3, z4, z5, z6, z7⟩ := fr8_cell HZ.out; obtain ⟨f0, f1, f2, f3, f4, f5, f6, f7⟩ := fr8_frozen HZ.out; clear ha))
            refine bodyPost_ret (results_ct rfl _ _ _ 43 _ (0, 0) _ rfl (fr8_put HZ.out _ _ _ _ _ _ _ _) Try.underlying43 rfl (by kernel_rfl)) rfl ?_
            exact frEnd HX.out HF.out HZ.out HN.out _ _ _ _ _ _ _ _ _
        · go_wp2_with fail
          have hz4 := other_blk HZ.out (show w.heap.size + 1 ≠ g by omega) 4 (.int .u8 (bits .xor .u8 s.turn 16))
          refine bodyPost_ret (results_ct rfl _ _ _ 43 _ (0, 0) _ rfl (fr8_put hz4 _ _ _ _ _ _ _ _) Try.underlying43 rfl (by kernel_rfl)) rfl ?_
          exact frEnd (inv_put4 HX.out _) (HF.out.set HX.out.2.1 4 _) hz4 HN.out _ _ _ _ _ _ _ _ _
      · have HX := Aside0.mk h2
        clear h2 h3
        obtain ⟨c0, c1, c2, c3, c4, c5, c6, c7, c8, c9⟩ := HX.out.1.cell; have k0 := HX.out.1.frozen 0; have k3 := HX.out.1.frozen 3; have k4 := HX.out.1.frozen 4; have k6 := HX.out.1.frozen 6; have ha := HA.out; unfold fr8 at ha; obtain ⟨d0, d1, d2, d3, d4, d5, d6, d7⟩ := fr8_cell ha; obtain ⟨z0, z1, z2, z3, z4, z5, z6, z7⟩ := fr8_cell HZ.out; obtain ⟨f0, f1, f2, f3, f4, f5, f6, f7⟩ := fr8_frozen HZ.out; clear ha
        dsimp only at c0 c3 c4 c6
        go_wp2_with (first | (go_at_call 70; refine (gives_calls n₀ g _ 84148229 _ HX.out).mono ?_; rintro e w3 ⟨⟨xx, rfl⟩, hi3, hf3⟩; unfold fr8; have ha2 := hf3.blk HA.out (ne_of_at HX.out.1 HA.out); have hz2 := hf3.blk HZ.out (ne_of_at HX.out.1 HZ.out); have hf2 := HF.out.trans hf3; clear c0 c1 c2 c3 c4 c5 c6 c7 c8 c9 k0 k3 k4 k6 d0 d1 d2 d3 d4 d5 d6 d7 z0 z1 z2 z3 z4 z5 z6 z7 f0 f1 f2 f3 f4 f5 f6 f7; clear HX HF HA HZ; have HX := Aside0.mk hi3; have HF := Aside0.mk hf2; have HA := Aside0.mk ha2; have HZ := Aside0.mk hz2; clear hi3 hf2 ha2 hz2 hf3; obtain ⟨c0, c1, c2, c3, c4, c5, c6, c7, c8, c9⟩ := HX.out.1.cell; have k0 := HX.out.1.frozen 0; have k3 := HX.out.1.frozen 3; have k4 := HX.out.1.frozen 4; have k6 := HX.out.1.frozen 6; have ha := HA.out; unfold fr8 at ha; obtain ⟨d0, d1, d2, d3, d4, d5, d6, d7⟩ := fr8_cell ha; obtain ⟨z0, z1, z2, z3, z4, z5, z6, z7⟩ := fr8_cell HZ.out; obtain ⟨f0, f1, f2, f3, f4, f5, f6, f7⟩ := fr8_frozen HZ.out; clear ha))
        refine bodyPost_ret (results_ct rfl _ _ _ 43 _ (0, 0) _ rfl (fr8_put HZ.out _ _ _ _ _ _ _ _) Try.underlying43 rfl (by kernel_rfl)) rfl ?_
        exact frEnd HX.out HF.out HZ.out HN.out _ _ _ _ _ _ _ _ _)
  · rw [hm] at ha7
    clear hm
    have hw1 : IntKind.i64.wrap 4 = 4 := by decide
    have hw2 : IntKind.i64.wrap 4 = 4 := by decide
    go_enter Try.func161, Try.ntmps161
    go_wp2_with fail
    refine ctStopC (ctStart HI.out x) ?_
    rintro W ⟨hX, hF, hA, hZ⟩
    obtain ⟨A0, n0, c0', n, A', c', W2, hb, hn2, hap, hAt, hF2, hI2, hI3⟩ := app_run hX HH4.out hA (Nat.le_trans HN.out hF.2.1) 1 3 7 (by omega)
    have HX := Aside0.mk hX
    have HF := Aside0.mk hF
    have HA := Aside0.mk hA
    have HZ := Aside0.mk hZ
    have HF2 := Aside0.mk hF2
    have HI2 := Aside0.mk hI2
    have HI3 := Aside0.mk hI3
    clear hX hF hA hZ hF2 hI2 hI3
    obtain ⟨c0, c1, c2, c3, c4, c5, c6, c7, c8, c9⟩ := HX.out.1.cell; have k0 := HX.out.1.frozen 0; have k3 := HX.out.1.frozen 3; have k4 := HX.out.1.frozen 4; have k6 := HX.out.1.frozen 6; have ha := HA.out; unfold fr8 at ha; obtain ⟨d0, d1, d2, d3, d4, d5, d6, d7⟩ := fr8_cell ha; obtain ⟨z0, z1, z2, z3, z4, z5, z6, z7⟩ := fr8_cell HZ.out; obtain ⟨f0, f1, f2, f3, f4, f5, f6, f7⟩ := fr8_frozen HZ.out; clear ha
    rw [hb] at c3
    obtain ⟨C0, C1, C2, C3, C4, C5, C6, C7, C8, C9⟩ := hAt.cell
    have K3 := hAt.frozen 3
    rw [hb] at C3
    clear hAt
    go_region_law (refine step_append_eq (by rfl) (.tmp 10) (.tmp 17) 23 rfl rfl rfl hap ?_)
    all_goals (
      go_wp2_with ((with_reducible refine gate_dst (N := 25) rfl ?_); apply stopHere)
      refine fuStop (fuMk HX.out HF.out HA.out HZ.out HF2.out HI2.out HI3.out) ?_
      clear HX HF HA HZ HF2 HI2 HI3 C0 C1 C2 C3 C4 C5 C6 C7 C8 C9 K3 hap hb c0 c1 c2 c3 c4 c5 c6 c7 c8 c9 k0 k3 k4 k6 d0 d1 d2 d3 d4 d5 d6 d7 z0 z1 z2 z3 z4 z5 z6 z7 f0 f1 f2 f3 f4 f5 f6 f7
      rintro W3 ⟨h2, h3, hF, hA, hZ⟩
      have HF := Aside0.mk hF
      have HA := Aside0.mk hA
      have HZ := Aside0.mk hZ
      clear hF hA hZ
      by_cases hbig : n ≤ 65536
      · have HX := Aside0.mk (h3 hbig)
        clear h2 h3
        obtain ⟨c0, c1, c2, c3, c4, c5, c6, c7, c8, c9⟩ := HX.out.1.cell; have k0 := HX.out.1.frozen 0; have k3 := HX.out.1.frozen 3; have k4 := HX.out.1.frozen 4; have k6 := HX.out.1.frozen 6; have ha := HA.out; unfold fr8 at ha; obtain ⟨d0, d1, d2, d3, d4, d5, d6, d7⟩ := fr8_cell ha; obtain ⟨z0, z1, z2, z3, z4, z5, z6, z7⟩ := fr8_cell HZ.out; obtain ⟨f0, f1, f2, f3, f4, f5, f6, f7⟩ := fr8_frozen HZ.out; clear ha
        dsimp only at c0 c3 c4 c6
        cases hb1 : (bits .and .u8 (x 0) 1 == 0)
        · by_cases hs : 0 ≤ s.size
          · cases hsz : (s.size == (n : Int))
            · go_wp2_with fail
              go_quiet (fail)
              have HX2 := Aside0.mk (InvL.drewN HX.out nq); have HF2 := Aside0.mk (Fr.drewN HF.out nq); have HA2 := Aside0.mk (blk_drewN HA.out nq); have HZ2 := Aside0.mk (blk_drewN HZ.out nq); clear HX HF HA HZ; have HX := HX2; have HF := HF2; have HA := HA2; have HZ := HZ2; clear HX2 HF2 HA2 HZ2
              go_wp2_with (first | (go_at_call 70; refine (gives_calls n₀ g _ 101122064 _ HX.out).mono ?_; rintro e w3 ⟨⟨xx, rfl⟩, hi3, hf3⟩; unfold fr8; have ha2 := hf3.blk HA.out (ne_of_at HX.out.1 HA.out); have hz2 := hf3.blk HZ.out (ne_of_at HX.out.1 HZ.out); have hf2 := HF.out.trans hf3; clear c0 c1 c2 c3 c4 c5 c6 c7 c8 c9 k0 k3 k4 k6 d0 d1 d2 d3 d4 d5 d6 d7 z0 z1 z2 z3 z4 z5 z6 z7 f0 f1 f2 f3 f4 f5 f6 f7; clear HX HF HA HZ; have HX := Aside0.mk hi3; have HF := Aside0.mk hf2; have HA := Aside0.mk ha2; have HZ := Aside0.mk hz2; clear hi3 hf2 ha2 hz2 hf3; obtain ⟨c0, c1, c2, c3, c4, c5, c6, c7, c8, c9⟩ := HX.out.1.cell; have k0 := HX.out.1.frozen 0; have k3 := HX.out.1.frozen 3; have k4 := HX.out.1.frozen 4; have k6 := HX.out.1.frozen 6; have ha := HA.out; unfold fr8 at ha; obtain ⟨d0, d1, d2, d3, d4, d5, d6, d7⟩ := fr8_cell ha; obtain ⟨z0, z1, z2, z3, z4, z5, z6, z7⟩ := fr8_cell HZ.out; obtain ⟨f0, f1, f2, f3, f4, f5, f6, f7⟩ := fr8_frozen HZ.out; clear ha))
              refine bodyPost_ret (results_ct rfl _ _ _ 43 _ (0, 0) _ rfl (fr8_put HZ.out _ _ _ _ _ _ _ _) Try.underlying43 rfl (by kernel_rfl)) rfl ?_
              exact frEnd HX.out HF.out HZ.out HN.out _ _ _ _ _ _ _ _ _
            · go_wp2_with fail
              go_quiet (fail)
              have HX2 := Aside0.mk (InvL.drewN HX.out nq); have HF2 := Aside0.mk (Fr.drewN HF.out nq); have HA2 := Aside0.mk (blk_drewN HA.out nq); have HZ2 := Aside0.mk (blk_drewN HZ.out nq); clear HX HF HA HZ; have HX := HX2; have HF := HF2; have HA := HA2; have HZ := HZ2; clear HX2 HF2 HA2 HZ2
              go_wp2_with (first | (go_at_call 118; refine (ends_calls n₀ g _ (.slice A' n c') _ _ _ HX.out HX.out.2.2.1.choose_spec).mono ?_; rintro e w3 ⟨rfl, hi3, hf3⟩; have ha2 := hf3.blk HA.out (ne_of_at HX.out.1 HA.out); have hz2 := hf3.blk HZ.out (ne_of_at HX.out.1 HZ.out); have hf2 := HF.out.trans hf3; clear c0 c1 c2 c3 c4 c5 c6 c7 c8 c9 k0 k3 k4 k6 d0 d1 d2 d3 d4 d5 d6 d7 z0 z1 z2 z3 z4 z5 z6 z7 f0 f1 f2 f3 f4 f5 f6 f7; clear HX HF HA HZ; have HX := Aside0.mk hi3; have HF := Aside0.mk hf2; have HA := Aside0.mk ha2; have HZ := Aside0.mk hz2; clear hi3 hf2 ha2 hz2 hf3; obtain ⟨c0, c1, c2, c3, c4, c5, c6, c7, c8, c9⟩ := HX.out.1.cell; have k0 := HX.out.1.frozen 0; have k3 := HX.out.1.frozen 3; have k4 := HX.out.1.frozen 4; have k6 := HX.out.1.frozen 6; have ha := HA.out; unfold fr8 at ha; obtain ⟨d0, d1, d2, d3, d4, d5, d6, d7⟩ := fr8_cell ha; obtain ⟨z0, z1, z2, z3, z4, z5, z6, z7⟩ := fr8_cell HZ.out; obtain ⟨f0, f1, f2, f3, f4, f5, f6, f7⟩ := fr8_frozen HZ.out; clear ha))
              refine bodyPost_ret (results_ct rfl _ _ _ 43 _ (0, 0) _ rfl (fr8_put HZ.out _ _ _ _ _ _ _ _) Try.underlying43 rfl (by kernel_rfl)) rfl ?_
              exact frEnd HX.out HF.out HZ.out HN.out _ _ _ _ _ _ _ _ _
          · have hsb : decide (0 ≤ s.size) = false := decide_eq_false hs
            have hs' : s.size < 0 := by omega
            go_wp2_with fail
            go_quiet (fail)
            have HX2 := Aside0.mk (InvL.drewN HX.out nq); have HF2 := Aside0.mk (Fr.drewN HF.out nq); have HA2 := Aside0.mk (blk_drewN HA.out nq); have HZ2 := Aside0.mk (blk_drewN HZ.out nq); clear HX HF HA HZ; have HX := HX2; have HF := HF2; have HA := HA2; have HZ := HZ2; clear HX2 HF2 HA2 HZ2
            go_wp2_with (first | (go_at_call 118; refine (ends_calls n₀ g _ (.slice A' n c') _ _ _ HX.out HX.out.2.2.1.choose_spec).mono ?_; rintro e w3 ⟨rfl, hi3, hf3⟩; have ha2 := hf3.blk HA.out (ne_of_at HX.out.1 HA.out); have hz2 := hf3.blk HZ.out (ne_of_at HX.out.1 HZ.out); have hf2 := HF.out.trans hf3; clear c0 c1 c2 c3 c4 c5 c6 c7 c8 c9 k0 k3 k4 k6 d0 d1 d2 d3 d4 d5 d6 d7 z0 z1 z2 z3 z4 z5 z6 z7 f0 f1 f2 f3 f4 f5 f6 f7; clear HX HF HA HZ; have HX := Aside0.mk hi3; have HF := Aside0.mk hf2; have HA := Aside0.mk ha2; have HZ := Aside0.mk hz2; clear hi3 hf2 ha2 hz2 hf3; obtain ⟨c0, c1, c2, c3, c4, c5, c6, c7, c8, c9⟩ := HX.out.1.cell; have k0 := HX.out.1.frozen 0; have k3 := HX.out.1.frozen 3; have k4 := HX.out.1.frozen 4; have k6 := HX.out.1.frozen 6; have ha := HA.out; unfold fr8 at ha; obtain ⟨d0, d1, d2, d3, d4, d5, d6, d7⟩ := fr8_cell ha; obtain ⟨z0, z1, z2, z3, z4, z5, z6, z7⟩ := fr8_cell HZ.out; obtain ⟨f0, f1, f2, f3, f4, f5, f6, f7⟩ := fr8_frozen HZ.out; clear ha))
            refine bodyPost_ret (results_ct rfl _ _ _ 43 _ (0, 0) _ rfl (fr8_put HZ.out _ _ _ _ _ _ _ _) Try.underlying43 rfl (by kernel_rfl)) rfl ?_
            exact frEnd HX.out HF.out HZ.out HN.out _ _ _ _ _ _ _ _ _
        · go_wp2_with fail
          have hz4 := other_blk HZ.out (show w.heap.size + 1 ≠ g by omega) 4 (.int .u8 (bits .xor .u8 s.turn 16))
          refine bodyPost_ret (results_ct rfl _ _ _ 43 _ (0, 0) _ rfl (fr8_put hz4 _ _ _ _ _ _ _ _) Try.underlying43 rfl (by kernel_rfl)) rfl ?_
          exact frEnd (inv_put4 HX.out _) (HF.out.set HX.out.2.1 4 _) hz4 HN.out _ _ _ _ _ _ _ _ _
      · have HX := Aside0.mk h2
        clear h2 h3
        obtain ⟨c0, c1, c2, c3, c4, c5, c6, c7, c8, c9⟩ := HX.out.1.cell; have k0 := HX.out.1.frozen 0; have k3 := HX.out.1.frozen 3; have k4 := HX.out.1.frozen 4; have k6 := HX.out.1.frozen 6; have ha := HA.out; unfold fr8 at ha; obtain ⟨d0, d1, d2, d3, d4, d5, d6, d7⟩ := fr8_cell ha; obtain ⟨z0, z1, z2, z3, z4, z5, z6, z7⟩ := fr8_cell HZ.out; obtain ⟨f0, f1, f2, f3, f4, f5, f6, f7⟩ := fr8_frozen HZ.out; clear ha
        dsimp only at c0 c3 c4 c6
        go_wp2_with (first | (go_at_call 70; refine (gives_calls n₀ g _ 84148229 _ HX.out).mono ?_; rintro e w3 ⟨⟨xx, rfl⟩, hi3, hf3⟩; unfold fr8; have ha2 := hf3.blk HA.out (ne_of_at HX.out.1 HA.out); have hz2 := hf3.blk HZ.out (ne_of_at HX.out.1 HZ.out); have hf2 := HF.out.trans hf3; clear c0 c1 c2 c3 c4 c5 c6 c7 c8 c9 k0 k3 k4 k6 d0 d1 d2 d3 d4 d5 d6 d7 z0 z1 z2 z3 z4 z5 z6 z7 f0 f1 f2 f3 f4 f5 f6 f7; clear HX HF HA HZ; have HX := Aside0.mk hi3; have HF := Aside0.mk hf2; have HA := Aside0.mk ha2; have HZ := Aside0.mk hz2; clear hi3 hf2 ha2 hz2 hf3; obtain ⟨c0, c1, c2, c3, c4, c5, c6, c7, c8, c9⟩ := HX.out.1.cell; have k0 := HX.out.1.frozen 0; have k3 := HX.out.1.frozen 3; have k4 := HX.out.1.frozen 4; have k6 := HX.out.1.frozen 6; have ha := HA.out; unfold fr8 at ha; obtain ⟨d0, d1, d2, d3, d4, d5, d6, d7⟩ := fr8_cell ha; obtain ⟨z0, z1, z2, z3, z4, z5, z6, z7⟩ := fr8_cell HZ.out; obtain ⟨f0, f1, f2, f3, f4, f5, f6, f7⟩ := fr8_frozen HZ.out; clear ha))
        refine bodyPost_ret (results_ct rfl _ _ _ 43 _ (0, 0) _ rfl (fr8_put HZ.out _ _ _ _ _ _ _ _) Try.underlying43 rfl (by kernel_rfl)) rfl ?_
        exact frEnd HX.out HF.out HZ.out HN.out _ _ _ _ _ _ _ _ _)
  · rw [hm] at ha7
    clear hm
    have hw1 : IntKind.i64.wrap 5 = 5 := by decide
    have hw2 : IntKind.i64.wrap 3 = 3 := by decide
    go_enter Try.func161, Try.ntmps161
    go_wp2_with fail
    refine ctStopC (ctStart HI.out x) ?_
    rintro W ⟨hX, hF, hA, hZ⟩
    obtain ⟨A0, n0, c0', n, A', c', W2, hb, hn2, hap, hAt, hF2, hI2, hI3⟩ := app_run hX HH4.out hA (Nat.le_trans HN.out hF.2.1) 1 2 7 (by omega)
    have HX := Aside0.mk hX
    have HF := Aside0.mk hF
    have HA := Aside0.mk hA
    have HZ := Aside0.mk hZ
    have HF2 := Aside0.mk hF2
    have HI2 := Aside0.mk hI2
    have HI3 := Aside0.mk hI3
    clear hX hF hA hZ hF2 hI2 hI3
    obtain ⟨c0, c1, c2, c3, c4, c5, c6, c7, c8, c9⟩ := HX.out.1.cell; have k0 := HX.out.1.frozen 0; have k3 := HX.out.1.frozen 3; have k4 := HX.out.1.frozen 4; have k6 := HX.out.1.frozen 6; have ha := HA.out; unfold fr8 at ha; obtain ⟨d0, d1, d2, d3, d4, d5, d6, d7⟩ := fr8_cell ha; obtain ⟨z0, z1, z2, z3, z4, z5, z6, z7⟩ := fr8_cell HZ.out; obtain ⟨f0, f1, f2, f3, f4, f5, f6, f7⟩ := fr8_frozen HZ.out; clear ha
    rw [hb] at c3
    obtain ⟨C0, C1, C2, C3, C4, C5, C6, C7, C8, C9⟩ := hAt.cell
    have K3 := hAt.frozen 3
    rw [hb] at C3
    clear hAt
    go_region_law (refine step_append_eq (by rfl) (.tmp 10) (.tmp 17) 23 rfl rfl rfl hap ?_)
    all_goals (
      go_wp2_with ((with_reducible refine gate_dst (N := 25) rfl ?_); apply stopHere)
      refine fuStop (fuMk HX.out HF.out HA.out HZ.out HF2.out HI2.out HI3.out) ?_
      clear HX HF HA HZ HF2 HI2 HI3 C0 C1 C2 C3 C4 C5 C6 C7 C8 C9 K3 hap hb c0 c1 c2 c3 c4 c5 c6 c7 c8 c9 k0 k3 k4 k6 d0 d1 d2 d3 d4 d5 d6 d7 z0 z1 z2 z3 z4 z5 z6 z7 f0 f1 f2 f3 f4 f5 f6 f7
      rintro W3 ⟨h2, h3, hF, hA, hZ⟩
      have HF := Aside0.mk hF
      have HA := Aside0.mk hA
      have HZ := Aside0.mk hZ
      clear hF hA hZ
      by_cases hbig : n ≤ 65536
      · have HX := Aside0.mk (h3 hbig)
        clear h2 h3
        obtain ⟨c0, c1, c2, c3, c4, c5, c6, c7, c8, c9⟩ := HX.out.1.cell; have k0 := HX.out.1.frozen 0; have k3 := HX.out.1.frozen 3; have k4 := HX.out.1.frozen 4; have k6 := HX.out.1.frozen 6; have ha := HA.out; unfold fr8 at ha; obtain ⟨d0, d1, d2, d3, d4, d5, d6, d7⟩ := fr8_cell ha; obtain ⟨z0, z1, z2, z3, z4, z5, z6, z7⟩ := fr8_cell HZ.out; obtain ⟨f0, f1, f2, f3, f4, f5, f6, f7⟩ := fr8_frozen HZ.out; clear ha
        dsimp only at c0 c3 c4 c6
        cases hb1 : (bits .and .u8 (x 0) 1 == 0)
        · by_cases hs : 0 ≤ s.size
          · cases hsz : (s.size == (n : Int))
            · go_wp2_with fail
              go_quiet (fail)
              have HX2 := Aside0.mk (InvL.drewN HX.out nq); have HF2 := Aside0.mk (Fr.drewN HF.out nq); have HA2 := Aside0.mk (blk_drewN HA.out nq); have HZ2 := Aside0.mk (blk_drewN HZ.out nq); clear HX HF HA HZ; have HX := HX2; have HF := HF2; have HA := HA2; have HZ := HZ2; clear HX2 HF2 HA2 HZ2
              go_wp2_with (first | (go_at_call 70; refine (gives_calls n₀ g _ 101122064 _ HX.out).mono ?_; rintro e w3 ⟨⟨xx, rfl⟩, hi3, hf3⟩; unfold fr8; have ha2 := hf3.blk HA.out (ne_of_at HX.out.1 HA.out); have hz2 := hf3.blk HZ.out (ne_of_at HX.out.1 HZ.out); have hf2 := HF.out.trans hf3; clear c0 c1 c2 c3 c4 c5 c6 c7 c8 c9 k0 k3 k4 k6 d0 d1 d2 d3 d4 d5 d6 d7 z0 z1 z2 z3 z4 z5 z6 z7 f0 f1 f2 f3 f4 f5 f6 f7; clear HX HF HA HZ; have HX := Aside0.mk hi3; have HF := Aside0.mk hf2; have HA := Aside0.mk ha2; have HZ := Aside0.mk hz2; clear hi3 hf2 ha2 hz2 hf3; obtain ⟨c0, c1, c2, c3, c4, c5, c6, c7, c8, c9⟩ := HX.out.1.cell; have k0 := HX.out.1.frozen 0; have k3 := HX.out.1.frozen 3; have k4 := HX.out.1.frozen 4; have k6 := HX.out.1.frozen 6; have ha := HA.out; unfold fr8 at ha; obtain ⟨d0, d1, d2, d3, d4, d5, d6, d7⟩ := fr8_cell ha; obtain ⟨z0, z1, z2, z3, z4, z5, z6, z7⟩ := fr8_cell HZ.out; obtain ⟨f0, f1, f2, f3, f4, f5, f6, f7⟩ := fr8_frozen HZ.out; clear ha))
              refine bodyPost_ret (results_ct rfl _ _ _ 43 _ (0, 0) _ rfl (fr8_put HZ.out _ _ _ _ _ _ _ _) Try.underlying43 rfl (by kernel_rfl)) rfl ?_
              exact frEnd HX.out HF.out HZ.out HN.out _ _ _ _ _ _ _ _ _
            · go_wp2_with fail
              go_quiet (fail)
              have HX2 := Aside0.mk (InvL.drewN HX.out nq); have HF2 := Aside0.mk (Fr.drewN HF.out nq); have HA2 := Aside0.mk (blk_drewN HA.out nq); have HZ2 := Aside0.mk (blk_drewN HZ.out nq); clear HX HF HA HZ; have HX := HX2; have HF := HF2; have HA := HA2; have HZ := HZ2; clear HX2 HF2 HA2 HZ2
              go_wp2_with (first | (go_at_call 118; refine (ends_calls n₀ g _ (.slice A' n c') _ _ _ HX.out HX.out.2.2.1.choose_spec).mono ?_; rintro e w3 ⟨rfl, hi3, hf3⟩; have ha2 := hf3.blk HA.out (ne_of_at HX.out.1 HA.out); have hz2 := hf3.blk HZ.out (ne_of_at HX.out.1 HZ.out); have hf2 := HF.out.trans hf3; clear c0 c1 c2 c3 c4 c5 c6 c7 c8 c9 k0 k3 k4 k6 d0 d1 d2 d3 d4 d5 d6 d7 z0 z1 z2 z3 z4 z5 z6 z7 f0 f1 f2 f3 f4 f5 f6 f7; clear HX HF HA HZ; have HX := Aside0.mk hi3; have HF := Aside0.mk hf2; have HA := Aside0.mk ha2; have HZ := Aside0.mk hz2; clear hi3 hf2 ha2 hz2 hf3; obtain ⟨c0, c1, c2, c3, c4, c5, c6, c7, c8, c9⟩ := HX.out.1.cell; have k0 := HX.out.1.frozen 0; have k3 := HX.out.1.frozen 3; have k4 := HX.out.1.frozen 4; have k6 := HX.out.1.frozen 6; have ha := HA.out; unfold fr8 at ha; obtain ⟨d0, d1, d2, d3, d4, d5, d6, d7⟩ := fr8_cell ha; obtain ⟨z0, z1, z2, z3, z4, z5, z6, z7⟩ := fr8_cell HZ.out; obtain ⟨f0, f1, f2, f3, f4, f5, f6, f7⟩ := fr8_frozen HZ.out; clear ha))
              refine bodyPost_ret (results_ct rfl _ _ _ 43 _ (0, 0) _ rfl (fr8_put HZ.out _ _ _ _ _ _ _ _) Try.underlying43 rfl (by kernel_rfl)) rfl ?_
              exact frEnd HX.out HF.out HZ.out HN.out _ _ _ _ _ _ _ _ _
          · have hsb : decide (0 ≤ s.size) = false := decide_eq_false hs
            have hs' : s.size < 0 := by omega
            go_wp2_with fail
            go_quiet (fail)
            have HX2 := Aside0.mk (InvL.drewN HX.out nq); have HF2 := Aside0.mk (Fr.drewN HF.out nq); have HA2 := Aside0.mk (blk_drewN HA.out nq); have HZ2 := Aside0.mk (blk_drewN HZ.out nq); clear HX HF HA HZ; have HX := HX2; have HF := HF2; have HA := HA2; have HZ := HZ2; clear HX2 HF2 HA2 HZ2
            go_wp2_with (first | (go_at_call 118; refine (ends_calls n₀ g _ (.slice A' n c') _ _ _ HX.out HX.out.2.2.1.choose_spec).mono ?_; rintro e w3 ⟨rfl, hi3, hf3⟩; have ha2 := hf3.blk HA.out (ne_of_at HX.out.1 HA.out); have hz2 := hf3.blk HZ.out (ne_of_at HX.out.1 HZ.out); have hf2 := HF.out.trans hf3; clear c0 c1 c2 c3 c4 c5 c6 c7 c8 c9 k0 k3 k4 k6 d0 d1 d2 d3 d4 d5 d6 d7 z0 z1 z2 z3 z4 z5 z6 z7 f0 f1 f2 f3 f4 f5 f6 f7; clear HX HF HA HZ; have HX := Aside0.mk hi3; have HF := Aside0.mk hf2; have HA := Aside0.mk ha2; have HZ := Aside0.mk hz2; clear hi3 hf2 ha2 hz2 hf3; obtain ⟨c0, c1, c2, c3, c4, c5, c6, c7, c8, c9⟩ := HX.out.1.cell; have k0 := HX.out.1.frozen 0; have k3 := HX.out.1.frozen 3; have k4 := HX.out.1.frozen 4; have k6 := HX.out.1.frozen 6; have ha := HA.out; unfold fr8 at ha; obtain ⟨d0, d1, d2, d3, d4, d5, d6, d7⟩ := fr8_cell ha; obtain ⟨z0, z1, z2, z3, z4, z5, z6, z7⟩ := fr8_cell HZ.out; obtain ⟨f0, f1, f2, f3, f4, f5, f6, f7⟩ := fr8_frozen HZ.out; clear ha))
            refine bodyPost_ret (results_ct rfl _ _ _ 43 _ (0, 0) _ rfl (fr8_put HZ.out _ _ _ _ _ _ _ _) Try.underlying43 rfl (by kernel_rfl)) rfl ?_
            exact frEnd HX.out HF.out HZ.out HN.out _ _ _ _ _ _ _ _ _
        · go_wp2_with fail
          have hz4 := other_blk HZ.out (show w.heap.size + 1 ≠ g by omega) 4 (.int .u8 (bits .xor .u8 s.turn 16))
          refine bodyPost_ret (results_ct rfl _ _ _ 43 _ (0, 0) _ rfl (fr8_put hz4 _ _ _ _ _ _ _ _) Try.underlying43 rfl (by kernel_rfl)) rfl ?_
          exact frEnd (inv_put4 HX.out _) (HF.out.set HX.out.2.1 4 _) hz4 HN.out _ _ _ _ _ _ _ _ _
      · have HX := Aside0.mk h2
        clear h2 h3
        obtain ⟨c0, c1, c2, c3, c4, c5, c6, c7, c8, c9⟩ := HX.out.1.cell; have k0 := HX.out.1.frozen 0; have k3 := HX.out.1.frozen 3; have k4 := HX.out.1.frozen 4; have k6 := HX.out.1.frozen 6; have ha := HA.out; unfold fr8 at ha; obtain ⟨d0, d1, d2, d3, d4, d5, d6, d7⟩ := fr8_cell ha; obtain ⟨z0, z1, z2, z3, z4, z5, z6, z7⟩ := fr8_cell HZ.out; obtain ⟨f0, f1, f2, f3, f4, f5, f6, f7⟩ := fr8_frozen HZ.out; clear ha
        dsimp only at c0 c3 c4 c6
        go_wp2_with (first | (go_at_call 70; refine (gives_calls n₀ g _ 84148229 _ HX.out).mono ?_; rintro e w3 ⟨⟨xx, rfl⟩, hi3, hf3⟩; unfold fr8; have ha2 := hf3.blk HA.out (ne_of_at HX.out.1 HA.out); have hz2 := hf3.blk HZ.out (ne_of_at HX.out.1 HZ.out); have hf2 := HF.out.trans hf3; clear c0 c1 c2 c3 c4 c5 c6 c7 c8 c9 k0 k3 k4 k6 d0 d1 d2 d3 d4 d5 d6 d7 z0 z1 z2 z3 z4 z5 z6 z7 f0 f1 f2 f3 f4 f5 f6 f7; clear HX HF HA HZ; have HX := Aside0.mk hi3; have HF := Aside0.mk hf2; have HA := Aside0.mk ha2; have HZ := Aside0.mk hz2; clear hi3 hf2 ha2 hz2 hf3; obtain ⟨c0, c1, c2, c3, c4, c5, c6, c7, c8, c9⟩ := HX.out.1.cell; have k0 := HX.out.1.frozen 0; have k3 := HX.out.1.frozen 3; have k4 := HX.out.1.frozen 4; have k6 := HX.out.1.frozen 6; have ha := HA.out; unfold fr8 at ha; obtain ⟨d0, d1, d2, d3, d4, d5, d6, d7⟩ := fr8_cell ha; obtain ⟨z0, z1, z2, z3, z4, z5, z6, z7⟩ := fr8_cell HZ.out; obtain ⟨f0, f1, f2, f3, f4, f5, f6, f7⟩ := fr8_frozen HZ.out; clear ha))
        refine bodyPost_ret (results_ct rfl _ _ _ 43 _ (0, 0) _ rfl (fr8_put HZ.out _ _ _ _ _ _ _ _) Try.underlying43 rfl (by kernel_rfl)) rfl ?_
        exact frEnd HX.out HF.out HZ.out HN.out _ _ _ _ _ _ _ _ _)
  · rw [hm] at ha7
    clear hm
    have hw1 : IntKind.i64.wrap 6 = 6 := by decide
    have hw2 : IntKind.i64.wrap 2 = 2 := by decide
    go_enter Try.func161, Try.ntmps161
    go_wp2_with fail
    refine ctStopC (ctStart HI.out x) ?_
    rintro W ⟨hX, hF, hA, hZ⟩
    obtain ⟨A0, n0, c0', n, A', c', W2, hb, hn2, hap, hAt, hF2, hI2, hI3⟩ := app_run hX HH4.out hA (Nat.le_trans HN.out hF.2.1) 1 1 7 (by omega)
    have HX := Aside0.mk hX
    have HF := Aside0.mk hF
    have HA := Aside0.mk hA
    have HZ := Aside0.mk hZ
    have HF2 := Aside0.mk hF2
    have HI2 := Aside0.mk hI2
    have HI3 := Aside0.mk hI3
    clear hX hF hA hZ hF2 hI2 hI3
    obtain ⟨c0, c1, c2, c3, c4, c5, c6, c7, c8, c9⟩ := HX.out.1.cell; have k0 := HX.out.1.frozen 0; have k3 := HX.out.1.frozen 3; have k4 := HX.out.1.frozen 4; have k6 := HX.out.1.frozen 6; have ha := HA.out; unfold fr8 at ha; obtain ⟨d0, d1, d2, d3, d4, d5, d6, d7⟩ := fr8_cell ha; obtain ⟨z0, z1, z2, z3, z4, z5, z6, z7⟩ := fr8_cell HZ.out; obtain ⟨f0, f1, f2, f3, f4, f5, f6, f7⟩ := fr8_frozen HZ.out; clear ha
    rw [hb] at c3
    obtain ⟨C0, C1, C2, C3, C4, C5, C6, C7, C8, C9⟩ := hAt.cell
    have K3 := hAt.frozen 3
    rw [hb] at C3
    clear hAt
    go_region_law (refine step_append_eq (by rfl) (.tmp 10) (.tmp 17) 23 rfl rfl rfl hap ?_)
    all_goals (
      go_wp2_with ((with_reducible refine gate_dst (N := 25) rfl ?_); apply stopHere)
      refine fuStop (fuMk HX.out HF.out HA.out HZ.out HF2.out HI2.out HI3.out) ?_
      clear HX HF HA HZ HF2 HI2 HI3 C0 C1 C2 C3 C4 C5 C6 C7 C8 C9 K3 hap hb c0 c1 c2 c3 c4 c5 c6 c7 c8 c9 k0 k3 k4 k6 d0 d1 d2 d3 d4 d5 d6 d7 z0 z1 z2 z3 z4 z5 z6 z7 f0 f1 f2 f3 f4 f5 f6 f7
      rintro W3 ⟨h2, h3, hF, hA, hZ⟩
      have HF := Aside0.mk hF
      have HA := Aside0.mk hA
      have HZ := Aside0.mk hZ
      clear hF hA hZ
      by_cases hbig : n ≤ 65536
      · have HX := Aside0.mk (h3 hbig)
        clear h2 h3
        obtain ⟨c0, c1, c2, c3, c4, c5, c6, c7, c8, c9⟩ := HX.out.1.cell; have k0 := HX.out.1.frozen 0; have k3 := HX.out.1.frozen 3; have k4 := HX.out.1.frozen 4; have k6 := HX.out.1.frozen 6; have ha := HA.out; unfold fr8 at ha; obtain ⟨d0, d1, d2, d3, d4, d5, d6, d7⟩ := fr8_cell ha; obtain ⟨z0, z1, z2, z3, z4, z5, z6, z7⟩ := fr8_cell HZ.out; obtain ⟨f0, f1, f2, f3, f4, f5, f6, f7⟩ := fr8_frozen HZ.out; clear ha
        dsimp only at c0 c3 c4 c6
        cases hb1 : (bits .and .u8 (x 0) 1 == 0)
        · by_cases hs : 0 ≤ s.size
          · cases hsz : (s.size == (n : Int))
            · go_wp2_with fail
              go_quiet (fail)
              have HX2 := Aside0.mk (InvL.drewN HX.out nq); have HF2 := Aside0.mk (Fr.drewN HF.out nq); have HA2 := Aside0.mk (blk_drewN HA.out nq); have HZ2 := Aside0.mk (blk_drewN HZ.out nq); clear HX HF HA HZ; have HX := HX2; have HF := HF2; have HA := HA2; have HZ := HZ2; clear HX2 HF2 HA2 HZ2
              go_wp2_with (first | (go_at_call 70; refine (gives_calls n₀ g _ 101122064 _ HX.out).mono ?_; rintro e w3 ⟨⟨xx, rfl⟩, hi3, hf3⟩; unfold fr8; have ha2 := hf3.blk HA.out (ne_of_at HX.out.1 HA.out); have hz2 := hf3.blk HZ.out (ne_of_at HX.out.1 HZ.out); have hf2 := HF.out.trans hf3; clear c0 c1 c2 c3 c4 c5 c6 c7 c8 c9 k0 k3 k4 k6 d0 d1 d2 d3 d4 d5 d6 d7 z0 z1 z2 z3 z4 z5 z6 z7 f0 f1 f2 f3 f4 f5 f6 f7; clear HX HF HA HZ; have HX := Aside0.mk hi3; have HF := Aside0.mk hf2; have HA := Aside0.mk ha2; have HZ := Aside0.mk hz2; clear hi3 hf2 ha2 hz2 hf3; obtain ⟨c0, c1, c2, c3, c4, c5, c6, c7, c8, c9⟩ := HX.out.1.cell; have k0 := HX.out.1.frozen 0; have k3 := HX.out.1.frozen 3; have k4 := HX.out.1.frozen 4; have k6 := HX.out.1.frozen 6; have ha := HA.out; unfold fr8 at ha; obtain ⟨d0, d1, d2, d3, d4, d5, d6, d7⟩ := fr8_cell ha; obtain ⟨z0, z1, z2, z3, z4, z5, z6, z7⟩ := fr8_cell HZ.out; obtain ⟨f0, f1, f2, f3, f4, f5, f6, f7⟩ := fr8_frozen HZ.out; clear ha))
              refine bodyPost_ret (results_ct rfl _ _ _ 43 _ (0, 0) _ rfl (fr8_put HZ.out _ _ _ _ _ _ _ _) Try.underlying43 rfl (by kernel_rfl)) rfl ?_
              exact frEnd HX.out HF.out HZ.out HN.out _ _ _ _ _ _ _ _ _
            · go_wp2_with fail
              go_quiet (fail)
              have HX2 := Aside0.mk (InvL.drewN HX.out nq); have HF2 := Aside0.mk (Fr.drewN HF.out nq); have HA2 := Aside0.mk (blk_drewN HA.out nq); have HZ2 := Aside0.mk (blk_drewN HZ.out nq); clear HX HF HA HZ; have HX := HX2; have HF := HF2; have HA := HA2; have HZ := HZ2; clear HX2 HF2 HA2 HZ2
              go_wp2_with (first | (go_at_call 118; refine (ends_calls n₀ g _ (.slice A' n c') _ _ _ HX.out HX.out.2.2.1.choose_spec).mono ?_; rintro e w3 ⟨rfl, hi3, hf3⟩; have ha2 := hf3.blk HA.out (ne_of_at HX.out.1 HA.out); have hz2 := hf3.blk HZ.out (ne_of_at HX.out.1 HZ.out); have hf2 := HF.out.trans hf3; clear c0 c1 c2 c3 c4 c5 c6 c7 c8 c9 k0 k3 k4 k6 d0 d1 d2 d3 d4 d5 d6 d7 z0 z1 z2 z3 z4 z5 z6 z7 f0 f1 f2 f3 f4 f5 f6 f7; clear HX HF HA HZ; have HX := Aside0.mk hi3; have HF := Aside0.mk hf2; have HA := Aside0.mk ha2; have HZ := Aside0.mk hz2; clear hi3 hf2 ha2 hz2 hf3; obtain ⟨c0, c1, c2, c3, c4, c5, c6, c7, c8, c9⟩ := HX.out.1.cell; have k0 := HX.out.1.frozen 0; have k3 := HX.out.1.frozen 3; have k4 := HX.out.1.frozen 4; have k6 := HX.out.1.frozen 6; have ha := HA.out; unfold fr8 at ha; obtain ⟨d0, d1, d2, d3, d4, d5, d6, d7⟩ := fr8_cell ha; obtain ⟨z0, z1, z2, z3, z4, z5, z6, z7⟩ := fr8_cell HZ.out; obtain ⟨f0, f1, f2, f3, f4, f5, f6, f7⟩ := fr8_frozen HZ.out; clear ha))
              refine bodyPost_ret (results_ct rfl _ _ _ 43 _ (0, 0) _ rfl (fr8_put HZ.out _ _ _ _ _ _ _ _) Try.underlying43 rfl (by kernel_rfl)) rfl ?_
              exact frEnd HX.out HF.out HZ.out HN.out _ _ _ _ _ _ _ _ _
          · have hsb : decide (0 ≤ s.size) = false := decide_eq_false hs
            have hs' : s.size < 0 := by omega
            go_wp2_with fail
            go_quiet (fail)
            have HX2 := Aside0.mk (InvL.drewN HX.out nq); have HF2 := Aside0.mk (Fr.drewN HF.out nq); have HA2 := Aside0.mk (blk_drewN HA.out nq); have HZ2 := Aside0.mk (blk_drewN HZ.out nq); clear HX HF HA HZ; have HX := HX2; have HF := HF2; have HA := HA2; have HZ := HZ2; clear HX2 HF2 HA2 HZ2
            go_wp2_with (first | (go_at_call 118; refine (ends_calls n₀ g _ (.slice A' n c') _ _ _ HX.out HX.out.2.2.1.choose_spec).mono ?_; rintro e w3 ⟨rfl, hi3, hf3⟩; have ha2 := hf3.blk HA.out (ne_of_at HX.out.1 HA.out); have hz2 := hf3.blk HZ.out (ne_of_at HX.out.1 HZ.out); have hf2 := HF.out.trans hf3; clear c0 c1 c2 c3 c4 c5 c6 c7 c8 c9 k0 k3 k4 k6 d0 d1 d2 d3 d4 d5 d6 d7 z0 z1 z2 z3 z4 z5 z6 z7 f0 f1 f2 f3 f4 f5 f6 f7; clear HX HF HA HZ; have HX := Aside0.mk hi3; have HF := Aside0.mk hf2; have HA := Aside0.mk ha2; have HZ := Aside0.mk hz2; clear hi3 hf2 ha2 hz2 hf3; obtain ⟨c0, c1, c2, c3, c4, c5, c6, c7, c8, c9⟩ := HX.out.1.cell; have k0 := HX.out.1.frozen 0; have k3 := HX.out.1.frozen 3; have k4 := HX.out.1.frozen 4; have k6 := HX.out.1.frozen 6; have ha := HA.out; unfold fr8 at ha; obtain ⟨d0, d1, d2, d3, d4, d5, d6, d7⟩ := fr8_cell ha; obtain ⟨z0, z1, z2, z3, z4, z5, z6, z7⟩ := fr8_cell HZ.out; obtain ⟨f0, f1, f2, f3, f4, f5, f6, f7⟩ := fr8_frozen HZ.out; clear ha))
            refine bodyPost_ret (results_ct rfl _ _ _ 43 _ (0, 0) _ rfl (fr8_put HZ.out _ _ _ _ _ _ _ _) Try.underlying43 rfl (by kernel_rfl)) rfl ?_
            exact frEnd HX.out HF.out HZ.out HN.out _ _ _ _ _ _ _ _ _
        · go_wp2_with fail
          have hz4 := other_blk HZ.out (show w.heap.size + 1 ≠ g by omega) 4 (.int .u8 (bits .xor .u8 s.turn 16))
          refine bodyPost_ret (results_ct rfl _ _ _ 43 _ (0, 0) _ rfl (fr8_put hz4 _ _ _ _ _ _ _ _) Try.underlying43 rfl (by kernel_rfl)) rfl ?_
          exact frEnd (inv_put4 HX.out _) (HF.out.set HX.out.2.1 4 _) hz4 HN.out _ _ _ _ _ _ _ _ _
      · have HX := Aside0.mk h2
        clear h2 h3
        obtain ⟨c0, c1, c2, c3, c4, c5, c6, c7, c8, c9⟩ := HX.out.1.cell; have k0 := HX.out.1.frozen 0; have k3 := HX.out.1.frozen 3; have k4 := HX.out.1.frozen 4; have k6 := HX.out.1.frozen 6; have ha := HA.out; unfold fr8 at ha; obtain ⟨d0, d1, d2, d3, d4, d5, d6, d7⟩ := fr8_cell ha; obtain ⟨z0, z1, z2, z3, z4, z5, z6, z7⟩ := fr8_cell HZ.out; obtain ⟨f0, f1, f2, f3, f4, f5, f6, f7⟩ := fr8_frozen HZ.out; clear ha
        dsimp only at c0 c3 c4 c6
        go_wp2_with (first | (go_at_call 70; refine (gives_calls n₀ g _ 84148229 _ HX.out).mono ?_; rintro e w3 ⟨⟨xx, rfl⟩, hi3, hf3⟩; unfold fr8; have ha2 := hf3.blk HA.out (ne_of_at HX.out.1 HA.out); have hz2 := hf3.blk HZ.out (ne_of_at HX.out.1 HZ.out); have hf2 := HF.out.trans hf3; clear c0 c1 c2 c3 c4 c5 c6 c7 c8 c9 k0 k3 k4 k6 d0 d1 d2 d3 d4 d5 d6 d7 z0 z1 z2 z3 z4 z5 z6 z7 f0 f1 f2 f3 f4 f5 f6 f7; clear HX HF HA HZ; have HX := Aside0.mk hi3; have HF := Aside0.mk hf2; have HA := Aside0.mk ha2; have HZ := Aside0.mk hz2; clear hi3 hf2 ha2 hz2 hf3; obtain ⟨c0, c1, c2, c3, c4, c5, c6, c7, c8, c9⟩ := HX.out.1.cell; have k0 := HX.out.1.frozen 0; have k3 := HX.out.1.frozen 3; have k4 := HX.out.1.frozen 4; have k6 := HX.out.1.frozen 6; have ha := HA.out; unfold fr8 at ha; obtain ⟨d0, d1, d2, d3, d4, d5, d6, d7⟩ := fr8_cell ha; obtain ⟨z0, z1, z2, z3, z4, z5, z6, z7⟩ := fr8_cell HZ.out; obtain ⟨f0, f1, f2, f3, f4, f5, f6, f7⟩ := fr8_frozen HZ.out; clear ha))
        refine bodyPost_ret (results_ct rfl _ _ _ 43 _ (0, 0) _ rfl (fr8_put HZ.out _ _ _ _ _ _ _ _) Try.underlying43 rfl (by kernel_rfl)) rfl ?_
        exact frEnd HX.out HF.out HZ.out HN.out _ _ _ _ _ _ _ _ _)
  · rw [hm] at ha7
    clear hm
    have hw1 : IntKind.i64.wrap 7 = 7 := by decide
    have hw2 : IntKind.i64.wrap 1 = 1 := by decide
    go_enter Try.func161, Try.ntmps161
    go_wp2_with fail
    refine ctStopC (ctStart HI.out x) ?_
    rintro W ⟨hX, hF, hA, hZ⟩
    obtain ⟨A0, n0, c0', n, A', c', W2, hb, hn2, hap, hAt, hF2, hI2, hI3⟩ := app_run hX HH4.out hA (Nat.le_trans HN.out hF.2.1) 1 0 7 (by omega)
    have HX := Aside0.mk hX
    have HF := Aside0.mk hF
    have HA := Aside0.mk hA
    have HZ := Aside0.mk hZ
    have HF2 := Aside0.mk hF2
    have HI2 := Aside0.mk hI2
    have HI3 := Aside0.mk hI3
    clear hX hF hA hZ hF2 hI2 hI3
    obtain ⟨c0, c1, c2, c3, c4, c5, c6, c7, c8, c9⟩ := HX.out.1.cell; have k0 := HX.out.1.frozen 0; have k3 := HX.out.1.frozen 3; have k4 := HX.out.1.frozen 4; have k6 := HX.out.1.frozen 6; have ha := HA.out; unfold fr8 at ha; obtain ⟨d0, d1, d2, d3, d4, d5, d6, d7⟩ := fr8_cell ha; obtain ⟨z0, z1, z2, z3, z4, z5, z6, z7⟩ := fr8_cell HZ.out; obtain ⟨f0, f1, f2, f3, f4, f5, f6, f7⟩ := fr8_frozen HZ.out; clear ha
    rw [hb] at c3
    obtain ⟨C0, C1, C2, C3, C4, C5, C6, C7, C8, C9⟩ := hAt.cell
    have K3 := hAt.frozen 3
    rw [hb] at C3
    clear hAt
    go_region_law (refine step_append_eq (by rfl) (.tmp 10) (.tmp 17) 23 rfl rfl rfl hap ?_)
    all_goals (
      go_wp2_with ((with_reducible refine gate_dst (N := 25) rfl ?_); apply stopHere)
      refine fuStop (fuMk HX.out HF.out HA.out HZ.out HF2.out HI2.out HI3.out) ?_
      clear HX HF HA HZ HF2 HI2 HI3 C0 C1 C2 C3 C4 C5 C6 C7 C8 C9 K3 hap hb c0 c1 c2 c3 c4 c5 c6 c7 c8 c9 k0 k3 k4 k6 d0 d1 d2 d3 d4 d5 d6 d7 z0 z1 z2 z3 z4 z5 z6 z7 f0 f1 f2 f3 f4 f5 f6 f7
      rintro W3 ⟨h2, h3, hF, hA, hZ⟩
      have HF := Aside0.mk hF
      have HA := Aside0.mk hA
      have HZ := Aside0.mk hZ
      clear hF hA hZ
      by_cases hbig : n ≤ 65536
      · have HX := Aside0.mk (h3 hbig)
        clear h2 h3
        obtain ⟨c0, c1, c2, c3, c4, c5, c6, c7, c8, c9⟩ := HX.out.1.cell; have k0 := HX.out.1.frozen 0; have k3 := HX.out.1.frozen 3; have k4 := HX.out.1.frozen 4; have k6 := HX.out.1.frozen 6; have ha := HA.out; unfold fr8 at ha; obtain ⟨d0, d1, d2, d3, d4, d5, d6, d7⟩ := fr8_cell ha; obtain ⟨z0, z1, z2, z3, z4, z5, z6, z7⟩ := fr8_cell HZ.out; obtain ⟨f0, f1, f2, f3, f4, f5, f6, f7⟩ := fr8_frozen HZ.out; clear ha
        dsimp only at c0 c3 c4 c6
        cases hb1 : (bits .and .u8 (x 0) 1 == 0)
        · by_cases hs : 0 ≤ s.size
          · cases hsz : (s.size == (n : Int))
            · go_wp2_with fail
              go_quiet (fail)
              have HX2 := Aside0.mk (InvL.drewN HX.out nq); have HF2 := Aside0.mk (Fr.drewN HF.out nq); have HA2 := Aside0.mk (blk_drewN HA.out nq); have HZ2 := Aside0.mk (blk_drewN HZ.out nq); clear HX HF HA HZ; have HX := HX2; have HF := HF2; have HA := HA2; have HZ := HZ2; clear HX2 HF2 HA2 HZ2
              go_wp2_with (first | (go_at_call 70; refine (gives_calls n₀ g _ 101122064 _ HX.out).mono ?_; rintro e w3 ⟨⟨xx, rfl⟩, hi3, hf3⟩; unfold fr8; have ha2 := hf3.blk HA.out (ne_of_at HX.out.1 HA.out); have hz2 := hf3.blk HZ.out (ne_of_at HX.out.1 HZ.out); have hf2 := HF.out.trans hf3; clear c0 c1 c2 c3 c4 c5 c6 c7 c8 c9 k0 k3 k4 k6 d0 d1 d2 d3 d4 d5 d6 d7 z0 z1 z2 z3 z4 z5 z6 z7 f0 f1 f2 f3 f4 f5 f6 f7; clear HX HF HA HZ; have HX := Aside0.mk hi3; have HF := Aside0.mk hf2; have HA := Aside0.mk ha2; have HZ := Aside0.mk hz2; clear hi3 hf2 ha2 hz2 hf3; obtain ⟨c0, c1, c2, c3, c4, c5, c6, c7, c8, c9⟩ := HX.out.1.cell; have k0 := HX.out.1.frozen 0; have k3 := HX.out.1.frozen 3; have k4 := HX.out.1.frozen 4; have k6 := HX.out.1.frozen 6; have ha := HA.out; unfold fr8 at ha; obtain ⟨d0, d1, d2, d3, d4, d5, d6, d7⟩ := fr8_cell ha; obtain ⟨z0, z1, z2, z3, z4, z5, z6, z7⟩ := fr8_cell HZ.out; obtain ⟨f0, f1, f2, f3, f4, f5, f6, f7⟩ := fr8_frozen HZ.out; clear ha))
              refine bodyPost_ret (results_ct rfl _ _ _ 43 _ (0, 0) _ rfl (fr8_put HZ.out _ _ _ _ _ _ _ _) Try.underlying43 rfl (by kernel_rfl)) rfl ?_
              exact frEnd HX.out HF.out HZ.out HN.out _ _ _ _ _ _ _ _ _
            · go_wp2_with fail
              go_quiet (fail)
              have HX2 := Aside0.mk (InvL.drewN HX.out nq); have HF2 := Aside0.mk (Fr.drewN HF.out nq); have HA2 := Aside0.mk (blk_drewN HA.out nq); have HZ2 := Aside0.mk (blk_drewN HZ.out nq); clear HX HF HA HZ; have HX := HX2; have HF := HF2; have HA := HA2; have HZ := HZ2; clear HX2 HF2 HA2 HZ2
              go_wp2_with (first | (go_at_call 118; refine (ends_calls n₀ g _ (.slice A' n c') _ _ _ HX.out HX.out.2.2.1.choose_spec).mono ?_; rintro e w3 ⟨rfl, hi3, hf3⟩; have ha2 := hf3.blk HA.out (ne_of_at HX.out.1 HA.out); have hz2 := hf3.blk HZ.out (ne_of_at HX.out.1 HZ.out); have hf2 := HF.out.trans hf3; clear c0 c1 c2 c3 c4 c5 c6 c7 c8 c9 k0 k3 k4 k6 d0 d1 d2 d3 d4 d5 d6 d7 z0 z1 z2 z3 z4 z5 z6 z7 f0 f1 f2 f3 f4 f5 f6 f7; clear HX HF HA HZ; have HX := Aside0.mk hi3; have HF := Aside0.mk hf2; have HA := Aside0.mk ha2; have HZ := Aside0.mk hz2; clear hi3 hf2 ha2 hz2 hf3; obtain ⟨c0, c1, c2, c3, c4, c5, c6, c7, c8, c9⟩ := HX.out.1.cell; have k0 := HX.out.1.frozen 0; have k3 := HX.out.1.frozen 3; have k4 := HX.out.1.frozen 4; have k6 := HX.out.1.frozen 6; have ha := HA.out; unfold fr8 at ha; obtain ⟨d0, d1, d2, d3, d4, d5, d6, d7⟩ := fr8_cell ha; obtain ⟨z0, z1, z2, z3, z4, z5, z6, z7⟩ := fr8_cell HZ.out; obtain ⟨f0, f1, f2, f3, f4, f5, f6, f7⟩ := fr8_frozen HZ.out; clear ha))
              refine bodyPost_ret (results_ct rfl _ _ _ 43 _ (0, 0) _ rfl (fr8_put HZ.out _ _ _ _ _ _ _ _) Try.underlying43 rfl (by kernel_rfl)) rfl ?_
              exact frEnd HX.out HF.out HZ.out HN.out _ _ _ _ _ _ _ _ _
          · have hsb : decide (0 ≤ s.size) = false := decide_eq_false hs
            have hs' : s.size < 0 := by omega
            go_wp2_with fail
            go_quiet (fail)
            have HX2 := Aside0.mk (InvL.drewN HX.out nq); have HF2 := Aside0.mk (Fr.drewN HF.out nq); have HA2 := Aside0.mk (blk_drewN HA.out nq); have HZ2 := Aside0.mk (blk_drewN HZ.out nq); clear HX HF HA HZ; have HX := HX2; have HF := HF2; have HA := HA2; have HZ := HZ2; clear HX2 HF2 HA2 HZ2
            go_wp2_with (first | (go_at_call 118; refine (ends_calls n₀ g _ (.slice A' n c') _ _ _ HX.out HX.out.2.2.1.choose_spec).mono ?_; rintro e w3 ⟨rfl, hi3, hf3⟩; have ha2 := hf3.blk HA.out (ne_of_at HX.out.1 HA.out); have hz2 := hf3.blk HZ.out (ne_of_at HX.out.1 HZ.out); have hf2 := HF.out.trans hf3; clear c0 c1 c2 c3 c4 c5 c6 c7 c8 c9 k0 k3 k4 k6 d0 d1 d2 d3 d4 d5 d6 d7 z0 z1 z2 z3 z4 z5 z6 z7 f0 f1 f2 f3 f4 f5 f6 f7; clear HX HF HA HZ; have HX := Aside0.mk hi3; have HF := Aside0.mk hf2; have HA := Aside0.mk ha2; have HZ := Aside0.mk hz2; clear hi3 hf2 ha2 hz2 hf3; obtain ⟨c0, c1, c2, c3, c4, c5, c6, c7, c8, c9⟩ := HX.out.1.cell; have k0 := HX.out.1.frozen 0; have k3 := HX.out.1.frozen 3; have k4 := HX.out.1.frozen 4; have k6 := HX.out.1.frozen 6; have ha := HA.out; unfold fr8 at ha; obtain ⟨d0, d1, d2, d3, d4, d5, d6, d7⟩ := fr8_cell ha; obtain ⟨z0, z1, z2, z3, z4, z5, z6, z7⟩ := fr8_cell HZ.out; obtain ⟨f0, f1, f2, f3, f4, f5, f6, f7⟩ := fr8_frozen HZ.out; clear ha))
            refine bodyPost_ret (results_ct rfl _ _ _ 43 _ (0, 0) _ rfl (fr8_put HZ.out _ _ _ _ _ _ _ _) Try.underlying43 rfl (by kernel_rfl)) rfl ?_
            exact frEnd HX.out HF.out HZ.out HN.out _ _ _ _ _ _ _ _ _
        · go_wp2_with fail
          have hz4 := other_blk HZ.out (show w.heap.size + 1 ≠ g by omega) 4 (.int .u8 (bits .xor .u8 s.turn 16))
          refine bodyPost_ret (results_ct rfl _ _ _ 43 _ (0, 0) _ rfl (fr8_put hz4 _ _ _ _ _ _ _ _) Try.underlying43 rfl (by kernel_rfl)) rfl ?_
          exact frEnd (inv_put4 HX.out _) (HF.out.set HX.out.2.1 4 _) hz4 HN.out _ _ _ _ _ _ _ _ _
      · have HX := Aside0.mk h2
        clear h2 h3
        obtain ⟨c0, c1, c2, c3, c4, c5, c6, c7, c8, c9⟩ := HX.out.1.cell; have k0 := HX.out.1.frozen 0; have k3 := HX.out.1.frozen 3; have k4 := HX.out.1.frozen 4; have k6 := HX.out.1.frozen 6; have ha := HA.out; unfold fr8 at ha; obtain ⟨d0, d1, d2, d3, d4, d5, d6, d7⟩ := fr8_cell ha; obtain ⟨z0, z1, z2, z3, z4, z5, z6, z7⟩ := fr8_cell HZ.out; obtain ⟨f0, f1, f2, f3, f4, f5, f6, f7⟩ := fr8_frozen HZ.out; clear ha
        dsimp only at c0 c3 c4 c6
        go_wp2_with (first | (go_at_call 70; refine (gives_calls n₀ g _ 84148229 _ HX.out).mono ?_; rintro e w3 ⟨⟨xx, rfl⟩, hi3, hf3⟩; unfold fr8; have ha2 := hf3.blk HA.out (ne_of_at HX.out.1 HA.out); have hz2 := hf3.blk HZ.out (ne_of_at HX.out.1 HZ.out); have hf2 := HF.out.trans hf3; clear c0 c1 c2 c3 c4 c5 c6 c7 c8 c9 k0 k3 k4 k6 d0 d1 d2 d3 d4 d5 d6 d7 z0 z1 z2 z3 z4 z5 z6 z7 f0 f1 f2 f3 f4 f5 f6 f7; clear HX HF HA HZ; have HX := Aside0.mk hi3; have HF := Aside0.mk hf2; have HA := Aside0.mk ha2; have HZ := Aside0.mk hz2; clear hi3 hf2 ha2 hz2 hf3; obtain ⟨c0, c1, c2, c3, c4, c5, c6, c7, c8, c9⟩ := HX.out.1.cell; have k0 := HX.out.1.frozen 0; have k3 := HX.out.1.frozen 3; have k4 := HX.out.1.frozen 4; have k6 := HX.out.1.frozen 6; have ha := HA.out; unfold fr8 at ha; obtain ⟨d0, d1, d2, d3, d4, d5, d6, d7⟩ := fr8_cell ha; obtain ⟨z0, z1, z2, z3, z4, z5, z6, z7⟩ := fr8_cell HZ.out; obtain ⟨f0, f1, f2, f3, f4, f5, f6, f7⟩ := fr8_frozen HZ.out; clear ha))
        refine bodyPost_ret (results_ct rfl _ _ _ 43 _ (0, 0) _ rfl (fr8_put HZ.out _ _ _ _ _ _ _ _) Try.underlying43 rfl (by kernel_rfl)) rfl ?_
        exact frEnd HX.out HF.out HZ.out HN.out _ _ _ _ _ _ _ _ _)
end Go.Proofs.Yteefnclkcnkbhaa.GClientExpires
