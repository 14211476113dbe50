/-
  No cell of these rows narrows 'for every input' (looked for: loops, veiled, ifaces, maps, wideKeys, modest, calm, conditions, laid).
  DERIVED. THE GIVEN ROWS OF THIS SEAT. 10 by the template 'for every input the law returns true; each argument reads behind the call as it read before'; 0 by the template 'total and deterministic' (their statements: YteefnclkcnkbhaaTotals.lean).
  GIVEN WITH THE SEED: the statements are not yours to turn. If you find one false, say at which input.
  Laid BY PROGRAM, IN A SANDBOX (cutbox-rows.mjs): the forced cells as the released guide's own fill.sh prints them over the translation d165183dc5ce925d… (all of the seat's roots in one cut). By AI agents, Wed Nov 11 2026. No macro, syntax, notation, axiom, sorry.
-/
import Derived.Test.YteefnclkcnkbhaaChecked
import GoSem.Claim
import GoSem.ClaimJoined
import GoSem.ClaimMapViews
import Derived.JoinedTies
import Derived.KernelRfl
namespace Go.Proofs.Yteefnclkcnkbhaa
/- THE CELL 'sum', in the pinned program and in every row, IS THE sha256 OF THE DUMP (.gsa) THAT YteefnclkcnkbhaaProg.lean LOADS. Nothing in Lean hashes anything: it is a label: what it is worth is what the hold of that sum in a sandbox is worth. -/
noncomputable def Try.pinned : Pinned := { name := "yteefnclkcnkbhaa", sum := "d165183dc5ce925d26d7707802f85310f87e02d572eb6b6f924c50ebcdf165b8", checked := Try.checked }
namespace Rows
def none {H : Type} : Left H := { results := [], args := [] }

/-- 'tramwaylaw21.DcfEncodes': WHATEVER THE INPUT: true; the input reads as it did. -/
def dcfEncodesSpec : ChangeSpec := { name := "dcfEncodes", fn := fun _ => fun
  | [d] => { results := [.lit (.bool true)], args := [d] }
  | _ => none }
def dcfEncodesRow : OpenClaim := { program := "yteefnclkcnkbhaa", sum := "d165183dc5ce925d26d7707802f85310f87e02d572eb6b6f924c50ebcdf165b8", func := "tramway/tramwaylaw21.DcfEncodes", spec := "dcfEncodes", unfollowed := true, recurses := true, plainKeys := false, apart := false }
def DcfEncodesSaid : Prop := dcfEncodesRow.holds Try.pinned (OpenSpec.ofChange dcfEncodesSpec)

/-- ITS FALSE NEIGHBOUR: 'it returns false'. Refute it at one input. -/
def dcfEncodesWrong : ChangeSpec := { name := "dcfEncodes", fn := fun _ => fun
  | [d] => { results := [.lit (.bool false)], args := [d] }
  | _ => none }
def DcfEncodesWrongFalsely : Prop := dcfEncodesRow.holds Try.pinned (OpenSpec.ofChange dcfEncodesWrong)

/-- 'tramwaylaw11.ClientExpires': WHATEVER THE INPUT: true; the input reads as it did. -/
def clientExpiresSpec : ChangeSpec := { name := "clientExpires", fn := fun _ => fun
  | [d1, d2] => { results := [.lit (.bool true)], args := [d1, d2] }
  | _ => none }
def clientExpiresRow : OpenClaim := { program := "yteefnclkcnkbhaa", sum := "d165183dc5ce925d26d7707802f85310f87e02d572eb6b6f924c50ebcdf165b8", func := "tramway/tramwaylaw11.ClientExpires", spec := "clientExpires", plainKeys := false, apart := false }
def ClientExpiresSaid : Prop := clientExpiresRow.holds Try.pinned (OpenSpec.ofChange clientExpiresSpec)

/-- ITS FALSE NEIGHBOUR: 'it returns false'. Refute it at one input. -/
def clientExpiresWrong : ChangeSpec := { name := "clientExpires", fn := fun _ => fun
  | [d1, d2] => { results := [.lit (.bool false)], args := [d1, d2] }
  | _ => none }
def ClientExpiresWrongFalsely : Prop := clientExpiresRow.holds Try.pinned (OpenSpec.ofChange clientExpiresWrong)

/-- 'tramwaylaw06.WheelSlots': WHATEVER THE INPUT: true; the input reads as it did. -/
def wheelSlotsSpec : ChangeSpec := { name := "wheelSlots", fn := fun _ => fun
  | [d1, d2, d3] => { results := [.lit (.bool true)], args := [d1, d2, d3] }
  | _ => none }
def wheelSlotsRow : OpenClaim := { program := "yteefnclkcnkbhaa", sum := "d165183dc5ce925d26d7707802f85310f87e02d572eb6b6f924c50ebcdf165b8", func := "tramway/tramwaylaw06.WheelSlots", spec := "wheelSlots", unfollowed := true, recurses := true, plainKeys := false, apart := false }
def WheelSlotsSaid : Prop := wheelSlotsRow.holds Try.pinned (OpenSpec.ofChange wheelSlotsSpec)

/-- ITS FALSE NEIGHBOUR: 'it returns false'. Refute it at one input. -/
def wheelSlotsWrong : ChangeSpec := { name := "wheelSlots", fn := fun _ => fun
  | [d1, d2, d3] => { results := [.lit (.bool false)], args := [d1, d2, d3] }
  | _ => none }
def WheelSlotsWrongFalsely : Prop := wheelSlotsRow.holds Try.pinned (OpenSpec.ofChange wheelSlotsWrong)

/-- 'tramwaylaw06.WheelEvery': WHATEVER THE INPUT: true; the input reads as it did. -/
def wheelEverySpec : ChangeSpec := { name := "wheelEvery", fn := fun _ => fun
  | [d1, d2, d3] => { results := [.lit (.bool true)], args := [d1, d2, d3] }
  | _ => none }
def wheelEveryRow : OpenClaim := { program := "yteefnclkcnkbhaa", sum := "d165183dc5ce925d26d7707802f85310f87e02d572eb6b6f924c50ebcdf165b8", func := "tramway/tramwaylaw06.WheelEvery", spec := "wheelEvery", unfollowed := true, recurses := true, plainKeys := false, apart := false }
def WheelEverySaid : Prop := wheelEveryRow.holds Try.pinned (OpenSpec.ofChange wheelEverySpec)

/-- ITS FALSE NEIGHBOUR: 'it returns false'. Refute it at one input. -/
def wheelEveryWrong : ChangeSpec := { name := "wheelEvery", fn := fun _ => fun
  | [d1, d2, d3] => { results := [.lit (.bool false)], args := [d1, d2, d3] }
  | _ => none }
def WheelEveryWrongFalsely : Prop := wheelEveryRow.holds Try.pinned (OpenSpec.ofChange wheelEveryWrong)

/-- 'tramwaylaw06.WheelActs': WHATEVER THE INPUT: true; the input reads as it did. -/
def wheelActsSpec : ChangeSpec := { name := "wheelActs", fn := fun _ => fun
  | [d1, d2] => { results := [.lit (.bool true)], args := [d1, d2] }
  | _ => none }
def wheelActsRow : OpenClaim := { program := "yteefnclkcnkbhaa", sum := "d165183dc5ce925d26d7707802f85310f87e02d572eb6b6f924c50ebcdf165b8", func := "tramway/tramwaylaw06.WheelActs", spec := "wheelActs", unfollowed := true, recurses := true, plainKeys := false, apart := false }
def WheelActsSaid : Prop := wheelActsRow.holds Try.pinned (OpenSpec.ofChange wheelActsSpec)

/-- ITS FALSE NEIGHBOUR: 'it returns false'. Refute it at one input. -/
def wheelActsWrong : ChangeSpec := { name := "wheelActs", fn := fun _ => fun
  | [d1, d2] => { results := [.lit (.bool false)], args := [d1, d2] }
  | _ => none }
def WheelActsWrongFalsely : Prop := wheelActsRow.holds Try.pinned (OpenSpec.ofChange wheelActsWrong)

/-- 'tramwaylaw08.OdKept': WHATEVER THE INPUT: true; the input reads as it did. -/
def odKeptSpec : ChangeSpec := { name := "odKept", fn := fun _ => fun
  | [d1, d2] => { results := [.lit (.bool true)], args := [d1, d2] }
  | _ => none }
def odKeptRow : OpenClaim := { program := "yteefnclkcnkbhaa", sum := "d165183dc5ce925d26d7707802f85310f87e02d572eb6b6f924c50ebcdf165b8", func := "tramway/tramwaylaw08.OdKept", spec := "odKept", inPlace := ["internal/bytealg.abigen_runtime_cmpstring"], unfollowed := true, recurses := true, plainKeys := false, apart := false }
def OdKeptSaid : Prop := odKeptRow.holds Try.pinned (OpenSpec.ofChange odKeptSpec)

/-- ITS FALSE NEIGHBOUR: 'it returns false'. Refute it at one input. -/
def odKeptWrong : ChangeSpec := { name := "odKept", fn := fun _ => fun
  | [d1, d2] => { results := [.lit (.bool false)], args := [d1, d2] }
  | _ => none }
def OdKeptWrongFalsely : Prop := odKeptRow.holds Try.pinned (OpenSpec.ofChange odKeptWrong)

/-- 'tramwaylaw08.OdActs': WHATEVER THE INPUT: true; the input reads as it did. -/
def odActsSpec : ChangeSpec := { name := "odActs", fn := fun _ => fun
  | [d1, d2] => { results := [.lit (.bool true)], args := [d1, d2] }
  | _ => none }
def odActsRow : OpenClaim := { program := "yteefnclkcnkbhaa", sum := "d165183dc5ce925d26d7707802f85310f87e02d572eb6b6f924c50ebcdf165b8", func := "tramway/tramwaylaw08.OdActs", spec := "odActs", inPlace := ["internal/bytealg.abigen_runtime_cmpstring"], unfollowed := true, recurses := true, plainKeys := false, apart := false }
def OdActsSaid : Prop := odActsRow.holds Try.pinned (OpenSpec.ofChange odActsSpec)

/-- ITS FALSE NEIGHBOUR: 'it returns false'. Refute it at one input. -/
def odActsWrong : ChangeSpec := { name := "odActs", fn := fun _ => fun
  | [d1, d2] => { results := [.lit (.bool false)], args := [d1, d2] }
  | _ => none }
def OdActsWrongFalsely : Prop := odActsRow.holds Try.pinned (OpenSpec.ofChange odActsWrong)

/-- 'tramwaylaw13.PdomapSize': WHATEVER THE INPUT: true; the input reads as it did. -/
def pdomapSizeSpec : ChangeSpec := { name := "pdomapSize", fn := fun _ => fun
  | [d1, d2] => { results := [.lit (.bool true)], args := [d1, d2] }
  | _ => none }
def pdomapSizeRow : OpenClaim := { program := "yteefnclkcnkbhaa", sum := "d165183dc5ce925d26d7707802f85310f87e02d572eb6b6f924c50ebcdf165b8", func := "tramway/tramwaylaw13.PdomapSize", spec := "pdomapSize", inPlace := ["internal/bytealg.abigen_runtime_cmpstring"], unfollowed := true, recurses := true, plainKeys := false, apart := false }
def PdomapSizeSaid : Prop := pdomapSizeRow.holds Try.pinned (OpenSpec.ofChange pdomapSizeSpec)

/-- ITS FALSE NEIGHBOUR: 'it returns false'. Refute it at one input. -/
def pdomapSizeWrong : ChangeSpec := { name := "pdomapSize", fn := fun _ => fun
  | [d1, d2] => { results := [.lit (.bool false)], args := [d1, d2] }
  | _ => none }
def PdomapSizeWrongFalsely : Prop := pdomapSizeRow.holds Try.pinned (OpenSpec.ofChange pdomapSizeWrong)

/-- 'tramwaylaw13.PdomapJoined': WHATEVER THE INPUT: true; the input reads as it did. -/
def pdomapJoinedSpec : ChangeSpec := { name := "pdomapJoined", fn := fun _ => fun
  | [d1, d2, d3] => { results := [.lit (.bool true)], args := [d1, d2, d3] }
  | _ => none }
def pdomapJoinedRow : OpenClaim := { program := "yteefnclkcnkbhaa", sum := "d165183dc5ce925d26d7707802f85310f87e02d572eb6b6f924c50ebcdf165b8", func := "tramway/tramwaylaw13.PdomapJoined", spec := "pdomapJoined", inPlace := ["internal/bytealg.abigen_runtime_cmpstring"], unfollowed := true, recurses := true, plainKeys := false, apart := false }
def PdomapJoinedSaid : Prop := pdomapJoinedRow.holds Try.pinned (OpenSpec.ofChange pdomapJoinedSpec)

/-- ITS FALSE NEIGHBOUR: 'it returns false'. Refute it at one input. -/
def pdomapJoinedWrong : ChangeSpec := { name := "pdomapJoined", fn := fun _ => fun
  | [d1, d2, d3] => { results := [.lit (.bool false)], args := [d1, d2, d3] }
  | _ => none }
def PdomapJoinedWrongFalsely : Prop := pdomapJoinedRow.holds Try.pinned (OpenSpec.ofChange pdomapJoinedWrong)

/-- 'tramwaylaw13.PdomapBack': WHATEVER THE INPUT: true; the input reads as it did. -/
def pdomapBackSpec : ChangeSpec := { name := "pdomapBack", fn := fun _ => fun
  | [d1, d2, d3] => { results := [.lit (.bool true)], args := [d1, d2, d3] }
  | _ => none }
def pdomapBackRow : OpenClaim := { program := "yteefnclkcnkbhaa", sum := "d165183dc5ce925d26d7707802f85310f87e02d572eb6b6f924c50ebcdf165b8", func := "tramway/tramwaylaw13.PdomapBack", spec := "pdomapBack", inPlace := ["internal/bytealg.abigen_runtime_cmpstring"], unfollowed := true, recurses := true, plainKeys := false, apart := false }
def PdomapBackSaid : Prop := pdomapBackRow.holds Try.pinned (OpenSpec.ofChange pdomapBackSpec)

/-- ITS FALSE NEIGHBOUR: 'it returns false'. Refute it at one input. -/
def pdomapBackWrong : ChangeSpec := { name := "pdomapBack", fn := fun _ => fun
  | [d1, d2, d3] => { results := [.lit (.bool false)], args := [d1, d2, d3] }
  | _ => none }
def PdomapBackWrongFalsely : Prop := pdomapBackRow.holds Try.pinned (OpenSpec.ofChange pdomapBackWrong)

/- THE SECOND FORM. 'bulk': how many values and letters a reading holds, each counted each time it is reached (what is shared counts as often as it is met; a slice's spare places count too). A statement '..UptoSaid' is the law's where the arguments, and the package variables that the reading takes, are together of bulk at most 1048576: NARROWER than '..Said'. Prove '..Said' where nothing that the law and all that it calls make is longer than what came in: it says more and counts as full. Else prove '..UptoSaid'. A law counts once. -/
mutual
def uptoBulk {H : Type} : DataW H → Nat
  | .lit (.string bytes) => bytes.length + 1
  | .lit _ => 1
  | .nil => 1
  | .ptr d => uptoBulk d + 1
  | .slice elems spare => uptoBulkAll elems + uptoBulkAll spare + 1
  | .agg parts => uptoBulkAll parts + 1
  | .iface _ d => uptoBulk d + 1
  | .map entries => uptoBulkEntries entries + 1
  | .held _ => 1
def uptoBulkAll {H : Type} : List (DataW H) → Nat
  | [] => 0
  | d :: r => uptoBulk d + uptoBulkAll r
def uptoBulkEntries {H : Type} : List (Lit × DataW H) → Nat
  | [] => 0
  | x :: r => uptoBulkEntry x + uptoBulkEntries r
def uptoBulkEntry {H : Type} : Lit × DataW H → Nat
  | (.string bytes, d) => bytes.length + uptoBulk d + 1
  | (_, d) => uptoBulk d + 1
 end
def uptoSmall : (H : Type) → List (DataW H) → Bool := fun _ ds => decide (uptoBulkAll ds ≤ 1048576)
def OpenSpec.upto (s : _root_.Go.ChangeSpec) : _root_.Go.OpenSpec := { _root_.Go.OpenSpec.ofChange s with cond := some uptoSmall }

/-- 'tramwaylaw21.DcfEncodes', WHERE WHAT IT READS IS OF BULK AT MOST 1048576: true; the input reads as it did. -/
def dcfEncodesUptoRow : OpenClaim := { program := "yteefnclkcnkbhaa", sum := "d165183dc5ce925d26d7707802f85310f87e02d572eb6b6f924c50ebcdf165b8", func := "tramway/tramwaylaw21.DcfEncodes", spec := "dcfEncodes", unfollowed := true, recurses := true, plainKeys := false, apart := false, narrowed := true }
def DcfEncodesUptoSaid : Prop := dcfEncodesUptoRow.holds Try.pinned (OpenSpec.upto dcfEncodesSpec)

/-- 'tramwaylaw11.ClientExpires', WHERE WHAT IT READS IS OF BULK AT MOST 1048576: true; the input reads as it did. -/
def clientExpiresUptoRow : OpenClaim := { program := "yteefnclkcnkbhaa", sum := "d165183dc5ce925d26d7707802f85310f87e02d572eb6b6f924c50ebcdf165b8", func := "tramway/tramwaylaw11.ClientExpires", spec := "clientExpires", plainKeys := false, apart := false, narrowed := true }
def ClientExpiresUptoSaid : Prop := clientExpiresUptoRow.holds Try.pinned (OpenSpec.upto clientExpiresSpec)

/-- 'tramwaylaw06.WheelSlots', WHERE WHAT IT READS IS OF BULK AT MOST 1048576: true; the input reads as it did. -/
def wheelSlotsUptoRow : OpenClaim := { program := "yteefnclkcnkbhaa", sum := "d165183dc5ce925d26d7707802f85310f87e02d572eb6b6f924c50ebcdf165b8", func := "tramway/tramwaylaw06.WheelSlots", spec := "wheelSlots", unfollowed := true, recurses := true, plainKeys := false, apart := false, narrowed := true }
def WheelSlotsUptoSaid : Prop := wheelSlotsUptoRow.holds Try.pinned (OpenSpec.upto wheelSlotsSpec)

/-- 'tramwaylaw06.WheelEvery', WHERE WHAT IT READS IS OF BULK AT MOST 1048576: true; the input reads as it did. -/
def wheelEveryUptoRow : OpenClaim := { program := "yteefnclkcnkbhaa", sum := "d165183dc5ce925d26d7707802f85310f87e02d572eb6b6f924c50ebcdf165b8", func := "tramway/tramwaylaw06.WheelEvery", spec := "wheelEvery", unfollowed := true, recurses := true, plainKeys := false, apart := false, narrowed := true }
def WheelEveryUptoSaid : Prop := wheelEveryUptoRow.holds Try.pinned (OpenSpec.upto wheelEverySpec)

/-- 'tramwaylaw06.WheelActs', WHERE WHAT IT READS IS OF BULK AT MOST 1048576: true; the input reads as it did. -/
def wheelActsUptoRow : OpenClaim := { program := "yteefnclkcnkbhaa", sum := "d165183dc5ce925d26d7707802f85310f87e02d572eb6b6f924c50ebcdf165b8", func := "tramway/tramwaylaw06.WheelActs", spec := "wheelActs", unfollowed := true, recurses := true, plainKeys := false, apart := false, narrowed := true }
def WheelActsUptoSaid : Prop := wheelActsUptoRow.holds Try.pinned (OpenSpec.upto wheelActsSpec)

/-- 'tramwaylaw08.OdKept', WHERE WHAT IT READS IS OF BULK AT MOST 1048576: true; the input reads as it did. -/
def odKeptUptoRow : OpenClaim := { program := "yteefnclkcnkbhaa", sum := "d165183dc5ce925d26d7707802f85310f87e02d572eb6b6f924c50ebcdf165b8", func := "tramway/tramwaylaw08.OdKept", spec := "odKept", inPlace := ["internal/bytealg.abigen_runtime_cmpstring"], unfollowed := true, recurses := true, plainKeys := false, apart := false, narrowed := true }
def OdKeptUptoSaid : Prop := odKeptUptoRow.holds Try.pinned (OpenSpec.upto odKeptSpec)

/-- 'tramwaylaw08.OdActs', WHERE WHAT IT READS IS OF BULK AT MOST 1048576: true; the input reads as it did. -/
def odActsUptoRow : OpenClaim := { program := "yteefnclkcnkbhaa", sum := "d165183dc5ce925d26d7707802f85310f87e02d572eb6b6f924c50ebcdf165b8", func := "tramway/tramwaylaw08.OdActs", spec := "odActs", inPlace := ["internal/bytealg.abigen_runtime_cmpstring"], unfollowed := true, recurses := true, plainKeys := false, apart := false, narrowed := true }
def OdActsUptoSaid : Prop := odActsUptoRow.holds Try.pinned (OpenSpec.upto odActsSpec)

/-- 'tramwaylaw13.PdomapSize', WHERE WHAT IT READS IS OF BULK AT MOST 1048576: true; the input reads as it did. -/
def pdomapSizeUptoRow : OpenClaim := { program := "yteefnclkcnkbhaa", sum := "d165183dc5ce925d26d7707802f85310f87e02d572eb6b6f924c50ebcdf165b8", func := "tramway/tramwaylaw13.PdomapSize", spec := "pdomapSize", inPlace := ["internal/bytealg.abigen_runtime_cmpstring"], unfollowed := true, recurses := true, plainKeys := false, apart := false, narrowed := true }
def PdomapSizeUptoSaid : Prop := pdomapSizeUptoRow.holds Try.pinned (OpenSpec.upto pdomapSizeSpec)

/-- 'tramwaylaw13.PdomapJoined', WHERE WHAT IT READS IS OF BULK AT MOST 1048576: true; the input reads as it did. -/
def pdomapJoinedUptoRow : OpenClaim := { program := "yteefnclkcnkbhaa", sum := "d165183dc5ce925d26d7707802f85310f87e02d572eb6b6f924c50ebcdf165b8", func := "tramway/tramwaylaw13.PdomapJoined", spec := "pdomapJoined", inPlace := ["internal/bytealg.abigen_runtime_cmpstring"], unfollowed := true, recurses := true, plainKeys := false, apart := false, narrowed := true }
def PdomapJoinedUptoSaid : Prop := pdomapJoinedUptoRow.holds Try.pinned (OpenSpec.upto pdomapJoinedSpec)

/-- 'tramwaylaw13.PdomapBack', WHERE WHAT IT READS IS OF BULK AT MOST 1048576: true; the input reads as it did. -/
def pdomapBackUptoRow : OpenClaim := { program := "yteefnclkcnkbhaa", sum := "d165183dc5ce925d26d7707802f85310f87e02d572eb6b6f924c50ebcdf165b8", func := "tramway/tramwaylaw13.PdomapBack", spec := "pdomapBack", inPlace := ["internal/bytealg.abigen_runtime_cmpstring"], unfollowed := true, recurses := true, plainKeys := false, apart := false, narrowed := true }
def PdomapBackUptoSaid : Prop := pdomapBackUptoRow.holds Try.pinned (OpenSpec.upto pdomapBackSpec)

end Rows
end Go.Proofs.Yteefnclkcnkbhaa
