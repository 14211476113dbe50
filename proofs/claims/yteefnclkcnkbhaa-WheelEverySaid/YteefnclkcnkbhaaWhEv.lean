/-
  A HELPER OF THE PROOF: the wheel (text Ev).
-/
import Derived.Test.YteefnclkcnkbhaaProg
import Derived.Below
import Derived.Deep.Draws
import Derived.Deep.AppendLies
import Derived.Maps.AppendAt
import Derived.OwnWalk
import Derived.Laws.BytesArg
import Derived.Laws.MakeOwn
import Derived.Laws.OwnMore
import Derived.Deep.OwnRows
import Derived.Tactics
import Derived.Lib.ConvBytes
import Derived.Laws.Slices
import Derived.WalkKit
import Derived.KernelRfl
import Derived.RowKit3
import Derived.Deep.LoopGhost
import Derived.Deep.QuietTactic
import Derived.BigQuiet
import Derived.WideLaws
import Derived.Deep.DeepCutAuto
import Derived.Deep.CutBlock
import Derived.Deep.RegionHeld3
import Derived.Laws.Rows
import Derived.Lib.AppendStr
import Derived.ArgAppend
import Derived.Laws.IdiomCopy
import Derived.OrdersHeld
import Derived.Laws.BitsLemmas
import Derived.RowKit
import Derived.Test.YteefnclkcnkbhaaWWords
import Derived.Test.YteefnclkcnkbhaaWLast
import Derived.Test.YteefnclkcnkbhaaWTab
import Derived.Test.YteefnclkcnkbhaaWFour
import Derived.Test.YteefnclkcnkbhaaWQPut
import Derived.Test.YteefnclkcnkbhaaWApart
import Derived.Test.YteefnclkcnkbhaaWArr
import Derived.Test.YteefnclkcnkbhaaWZeros
import Derived.Test.YteefnclkcnkbhaaWFoot
import Derived.Test.YteefnclkcnkbhaaWKept
import Derived.Test.YteefnclkcnkbhaaWShare
import Derived.Test.YteefnclkcnkbhaaWN
import Derived.Test.YteefnclkcnkbhaaWFootNe
import Derived.Test.YteefnclkcnkbhaaWAt
import Derived.Test.YteefnclkcnkbhaaWEqStruct
import Derived.Test.YteefnclkcnkbhaaWRepsOne
import Derived.Test.YteefnclkcnkbhaaWInv
import Derived.Test.YteefnclkcnkbhaaWInvWords
import Derived.Test.YteefnclkcnkbhaaWGuard
import Derived.Test.YteefnclkcnkbhaaWNEv
import Derived.Test.YteefnclkcnkbhaaWMore
import Derived.Deep.RegionLaw
import Derived.Laws.BitsAllLaws
import Derived.Deep.RegionWith
import Derived.StillTailTactics
import Derived.BigRegion
import Derived.Maps.OwnSet
import Derived.Maps.OwnOps
import Derived.Maps.RangeWalk
import Derived.Maps.Ext
import Derived.WideKeyEntry
import Derived.Test.YteefnclkcnkbhaaWhA
namespace Go.Proofs.Yteefnclkcnkbhaa.Wh
open Go.RowKit Go.Proofs.YteefnclkcnkbhaaW.PrintWords Go.Proofs.YteefnclkcnkbhaaW.PrintLast Go.Proofs.YteefnclkcnkbhaaW.PrintMore
attribute [local go_sem] max2_int min2_int max_two min_two max_three min_three max_four min_four   -- for this text's walks alone
set_option linter.unusedVariables false
set_option linter.unusedSimpArgs false



/-! #### one timer that comes again, plainly -/
def one (due p : Int) : TL := [(1, ⟨due, p, 3⟩)]
theorem least_one (now due p : Int) : least now (one due p) = due - now := rfl
theorem fire_one (due p : Int) (hp : 0 < p) : fireL due (one due p) = one (due + p) p := by
  simp [fireL, one, fire1, hp]
theorem whats_one (due p : Int) : whats due (one due p) = [3] := by simp [whats, one]
theorem tick_one (p : Int) (hp : 0 < p) : ∀ (k : Nat) (fin now due : Int) (told : List Int), fin - now < (k : Int) → now ≤ fin → now < due → (told.length : Int) + (fin - now) ≤ 65536 →
    ∃ c : Nat, tickF k fin now (one due p) told = (fin, one (due + (c : Int) * p) p, told ++ List.replicate c 3) ∧ fin < due + (c : Int) * p ∧ (1 ≤ c → due + ((c : Int) - 1) * p ≤ fin)
  | 0, fin, now, due, told, h0, h1, h2, h3 => by omega
  | k + 1, fin, now, due, told, h0, h1, h2, h3 => by
    rw [tickF, least_one]
    by_cases hf : fin - now < due - now
    · rw [if_pos (.inr hf)]
      exact ⟨0, by simp, by simp; omega, by omega⟩
    · rw [if_neg (by rintro (e | e); (cases e); exact hf e)]
      have e1 : now + (due - now) = due := by omega
      rw [e1, fire_one due p hp, whats_one]
      have hl : (told ++ [3]).length = told.length + 1 := by simp
      have hc : cut (told ++ [3]) = told ++ [3] := by
        unfold cut
        exact List.take_of_length_le (by rw [hl]; omega)
      rw [hc]
      obtain ⟨c, h4, h5, h6⟩ := tick_one p hp k fin due (due + p) (told ++ [3]) (by omega) (by omega) (by omega) (by rw [hl]; omega)
      refine ⟨c + 1, ?_, ?_, fun _ => ?_⟩
      · rw [h4]
        have e2 : due + p + (c : Int) * p = due + ((c + 1 : Nat) : Int) * p := by rw [Int.natCast_succ, Int.add_mul]; omega
        rw [e2]
        simp [List.replicate_succ]
      · rw [Int.natCast_succ, Int.add_mul]; omega
      · rw [Int.natCast_succ, show (c : Int) + 1 - 1 = c by omega]
        cases c with
        | zero => simp; omega
        | succ c =>
          have := h6 (by omega)
          rw [Int.natCast_succ] at this ⊢
          rw [show (c : Int) + 1 - 1 = c by omega] at this
          rw [Int.add_mul]
          omega
/-- how often: what the law counts -/
theorem count_one {p n x : Int} (hp : 0 < p) {c : Nat} (h1 : n < x + (c : Int) * p) (h2 : 1 ≤ c → x + ((c : Int) - 1) * p ≤ n) : (c : Int) = if x ≤ n then 1 + (n - x) / p else 0 := by
  cases c with
  | zero =>
    rw [if_neg (by simp at h1; omega)]
    rfl
  | succ c =>
    have h3 := h2 (by omega)
    rw [Int.natCast_succ] at h1 h3 ⊢
    rw [show (c : Int) + 1 - 1 = c by omega] at h3
    rw [Int.add_mul] at h1
    have hc : (0 : Int) ≤ (c : Int) * p := Int.mul_nonneg (by omega) (by omega)
    rw [if_pos (by omega)]
    have h4 : (n - x) / p = c := by
      have e : n - x = (n - x - (c : Int) * p) + (c : Int) * p := by omega
      rw [e, Int.add_mul_ediv_right _ _ (by omega : p ≠ 0), Int.ediv_eq_zero_of_lt (by omega) (by omega)]
      omega
    rw [h4]; omega
end Go.Proofs.Yteefnclkcnkbhaa.Wh
