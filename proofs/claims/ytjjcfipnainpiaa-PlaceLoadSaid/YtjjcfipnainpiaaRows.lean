/-
  No cell of these rows narrows 'for every input' (looked for: loops, veiled, ifaces, maps, wideKeys, modest, calm, conditions, laid).
  DERIVED. THE GIVEN ROWS OF THIS SEAT. 6 by the template 'for every input the law returns true; each argument reads behind the call as it read before'; 0 by the template 'total and deterministic' (their statements: YtjjcfipnainpiaaTotals.lean).
  GIVEN WITH THE SEED: the statements are not yours to turn. If you find one false, say at which input.
  Laid BY PROGRAM, IN A SANDBOX (cutbox-rows.mjs): the forced cells as the released guide's own fill.sh prints them over the translation 1aed0ff4d650b722… (all of the seat's roots in one cut). By AI agents, Wed Nov 11 2026. No macro, syntax, notation, axiom, sorry.
-/
import Derived.Test.YtjjcfipnainpiaaChecked
import GoSem.Claim
import GoSem.ClaimJoined
import GoSem.ClaimMapViews
import Derived.JoinedTies
import Derived.KernelRfl
namespace Go.Proofs.Ytjjcfipnainpiaa
/- THE CELL 'sum', in the pinned program and in every row, IS THE sha256 OF THE DUMP (.gsa) THAT YtjjcfipnainpiaaProg.lean LOADS. Nothing in Lean hashes anything: it is a label: what it is worth is what the hold of that sum in a sandbox is worth. -/
noncomputable def Try.pinned : Pinned := { name := "ytjjcfipnainpiaa", sum := "1aed0ff4d650b722e8078b4ac9a2707668d834a914fae0e4d748dd4fd0fd5f44", checked := Try.checked }
namespace Rows
def none {H : Type} : Left H := { results := [], args := [] }

/-- 'tarnlaw37.PlanParts': WHATEVER THE INPUT: true; the input reads as it did. -/
def planPartsSpec : ChangeSpec := { name := "planParts", fn := fun _ => fun
  | [d1, d2, d3] => { results := [.lit (.bool true)], args := [d1, d2, d3] }
  | _ => none }
def planPartsRow : OpenClaim := { program := "ytjjcfipnainpiaa", sum := "1aed0ff4d650b722e8078b4ac9a2707668d834a914fae0e4d748dd4fd0fd5f44", func := "tarn/tarnlaw37.PlanParts", spec := "planParts", inPlace := ["internal/abi.NoEscape", "internal/bytealg.MakeNoZero"], apart := false }
def PlanPartsSaid : Prop := planPartsRow.holds Try.pinned (OpenSpec.ofChange planPartsSpec)

/-- ITS FALSE NEIGHBOUR: 'it returns false'. Refute it at one input. -/
def planPartsWrong : ChangeSpec := { name := "planParts", fn := fun _ => fun
  | [d1, d2, d3] => { results := [.lit (.bool false)], args := [d1, d2, d3] }
  | _ => none }
def PlanPartsWrongFalsely : Prop := planPartsRow.holds Try.pinned (OpenSpec.ofChange planPartsWrong)

/-- 'tarnlaw35.FlatDoes': WHATEVER THE INPUT: true; the input reads as it did. -/
def flatDoesSpec : ChangeSpec := { name := "flatDoes", fn := fun _ => fun
  | [d1, d2, d3] => { results := [.lit (.bool true)], args := [d1, d2, d3] }
  | _ => none }
def flatDoesRow : OpenClaim := { program := "ytjjcfipnainpiaa", sum := "1aed0ff4d650b722e8078b4ac9a2707668d834a914fae0e4d748dd4fd0fd5f44", func := "tarn/tarnlaw35.FlatDoes", spec := "flatDoes", inPlace := ["internal/abi.NoEscape", "internal/bytealg.MakeNoZero"], apart := false }
def FlatDoesSaid : Prop := flatDoesRow.holds Try.pinned (OpenSpec.ofChange flatDoesSpec)

/-- ITS FALSE NEIGHBOUR: 'it returns false'. Refute it at one input. -/
def flatDoesWrong : ChangeSpec := { name := "flatDoes", fn := fun _ => fun
  | [d1, d2, d3] => { results := [.lit (.bool false)], args := [d1, d2, d3] }
  | _ => none }
def FlatDoesWrongFalsely : Prop := flatDoesRow.holds Try.pinned (OpenSpec.ofChange flatDoesWrong)

/-- 'tarnlaw35.FlatFits': WHATEVER THE INPUT: true; the input reads as it did. -/
def flatFitsSpec : ChangeSpec := { name := "flatFits", fn := fun _ => fun
  | [d1, d2] => { results := [.lit (.bool true)], args := [d1, d2] }
  | _ => none }
def flatFitsRow : OpenClaim := { program := "ytjjcfipnainpiaa", sum := "1aed0ff4d650b722e8078b4ac9a2707668d834a914fae0e4d748dd4fd0fd5f44", func := "tarn/tarnlaw35.FlatFits", spec := "flatFits", inPlace := ["internal/abi.NoEscape", "internal/bytealg.MakeNoZero"], apart := false }
def FlatFitsSaid : Prop := flatFitsRow.holds Try.pinned (OpenSpec.ofChange flatFitsSpec)

/-- ITS FALSE NEIGHBOUR: 'it returns false'. Refute it at one input. -/
def flatFitsWrong : ChangeSpec := { name := "flatFits", fn := fun _ => fun
  | [d1, d2] => { results := [.lit (.bool false)], args := [d1, d2] }
  | _ => none }
def FlatFitsWrongFalsely : Prop := flatFitsRow.holds Try.pinned (OpenSpec.ofChange flatFitsWrong)

/-- 'tarnlaw35.FlatBent': WHATEVER THE INPUT: true; the input reads as it did. -/
def flatBentSpec : ChangeSpec := { name := "flatBent", fn := fun _ => fun
  | [d1, d2, d3] => { results := [.lit (.bool true)], args := [d1, d2, d3] }
  | _ => none }
def flatBentRow : OpenClaim := { program := "ytjjcfipnainpiaa", sum := "1aed0ff4d650b722e8078b4ac9a2707668d834a914fae0e4d748dd4fd0fd5f44", func := "tarn/tarnlaw35.FlatBent", spec := "flatBent", inPlace := ["internal/abi.NoEscape", "internal/bytealg.MakeNoZero"], apart := false }
def FlatBentSaid : Prop := flatBentRow.holds Try.pinned (OpenSpec.ofChange flatBentSpec)

/-- ITS FALSE NEIGHBOUR: 'it returns false'. Refute it at one input. -/
def flatBentWrong : ChangeSpec := { name := "flatBent", fn := fun _ => fun
  | [d1, d2, d3] => { results := [.lit (.bool false)], args := [d1, d2, d3] }
  | _ => none }
def FlatBentWrongFalsely : Prop := flatBentRow.holds Try.pinned (OpenSpec.ofChange flatBentWrong)

/-- 'tarnlaw41.PlaceLoad': WHATEVER THE INPUT: true; the input reads as it did. -/
def placeLoadSpec : ChangeSpec := { name := "placeLoad", fn := fun _ => fun
  | [d] => { results := [.lit (.bool true)], args := [d] }
  | _ => none }
def placeLoadRow : OpenClaim := { program := "ytjjcfipnainpiaa", sum := "1aed0ff4d650b722e8078b4ac9a2707668d834a914fae0e4d748dd4fd0fd5f44", func := "tarn/tarnlaw41.PlaceLoad", spec := "placeLoad", unfollowed := true, recurses := true, apart := false }
def PlaceLoadSaid : Prop := placeLoadRow.holds Try.pinned (OpenSpec.ofChange placeLoadSpec)

/-- ITS FALSE NEIGHBOUR: 'it returns false'. Refute it at one input. -/
def placeLoadWrong : ChangeSpec := { name := "placeLoad", fn := fun _ => fun
  | [d] => { results := [.lit (.bool false)], args := [d] }
  | _ => none }
def PlaceLoadWrongFalsely : Prop := placeLoadRow.holds Try.pinned (OpenSpec.ofChange placeLoadWrong)

/-- 'tarnlaw41.PlaceMends': WHATEVER THE INPUT: true; the input reads as it did. -/
def placeMendsSpec : ChangeSpec := { name := "placeMends", fn := fun _ => fun
  | [d1, d2] => { results := [.lit (.bool true)], args := [d1, d2] }
  | _ => none }
def placeMendsRow : OpenClaim := { program := "ytjjcfipnainpiaa", sum := "1aed0ff4d650b722e8078b4ac9a2707668d834a914fae0e4d748dd4fd0fd5f44", func := "tarn/tarnlaw41.PlaceMends", spec := "placeMends", unfollowed := true, recurses := true, apart := false }
def PlaceMendsSaid : Prop := placeMendsRow.holds Try.pinned (OpenSpec.ofChange placeMendsSpec)

/-- ITS FALSE NEIGHBOUR: 'it returns false'. Refute it at one input. -/
def placeMendsWrong : ChangeSpec := { name := "placeMends", fn := fun _ => fun
  | [d1, d2] => { results := [.lit (.bool false)], args := [d1, d2] }
  | _ => none }
def PlaceMendsWrongFalsely : Prop := placeMendsRow.holds Try.pinned (OpenSpec.ofChange placeMendsWrong)

/- THE SECOND FORM. 'bulk': how many values and letters a reading holds, each counted each time it is reached (what is shared counts as often as it is met; a slice's spare places count too). A statement '..UptoSaid' is the law's where the arguments, and the package variables that the reading takes, are together of bulk at most 1048576: NARROWER than '..Said'. Prove '..Said' where nothing that the law and all that it calls make is longer than what came in: it says more and counts as full. Else prove '..UptoSaid'. A law counts once. -/
mutual
def uptoBulk {H : Type} : DataW H → Nat
  | .lit (.string bytes) => bytes.length + 1
  | .lit _ => 1
  | .nil => 1
  | .ptr d => uptoBulk d + 1
  | .slice elems spare => uptoBulkAll elems + uptoBulkAll spare + 1
  | .agg parts => uptoBulkAll parts + 1
  | .iface _ d => uptoBulk d + 1
  | .map entries => uptoBulkEntries entries + 1
  | .held _ => 1
def uptoBulkAll {H : Type} : List (DataW H) → Nat
  | [] => 0
  | d :: r => uptoBulk d + uptoBulkAll r
def uptoBulkEntries {H : Type} : List (Lit × DataW H) → Nat
  | [] => 0
  | x :: r => uptoBulkEntry x + uptoBulkEntries r
def uptoBulkEntry {H : Type} : Lit × DataW H → Nat
  | (.string bytes, d) => bytes.length + uptoBulk d + 1
  | (_, d) => uptoBulk d + 1
 end
def uptoSmall : (H : Type) → List (DataW H) → Bool := fun _ ds => decide (uptoBulkAll ds ≤ 1048576)
def OpenSpec.upto (s : _root_.Go.ChangeSpec) : _root_.Go.OpenSpec := { _root_.Go.OpenSpec.ofChange s with cond := some uptoSmall }

/-- 'tarnlaw37.PlanParts', WHERE WHAT IT READS IS OF BULK AT MOST 1048576: true; the input reads as it did. -/
def planPartsUptoRow : OpenClaim := { program := "ytjjcfipnainpiaa", sum := "1aed0ff4d650b722e8078b4ac9a2707668d834a914fae0e4d748dd4fd0fd5f44", func := "tarn/tarnlaw37.PlanParts", spec := "planParts", inPlace := ["internal/abi.NoEscape", "internal/bytealg.MakeNoZero"], apart := false, narrowed := true }
def PlanPartsUptoSaid : Prop := planPartsUptoRow.holds Try.pinned (OpenSpec.upto planPartsSpec)

/-- 'tarnlaw35.FlatDoes', WHERE WHAT IT READS IS OF BULK AT MOST 1048576: true; the input reads as it did. -/
def flatDoesUptoRow : OpenClaim := { program := "ytjjcfipnainpiaa", sum := "1aed0ff4d650b722e8078b4ac9a2707668d834a914fae0e4d748dd4fd0fd5f44", func := "tarn/tarnlaw35.FlatDoes", spec := "flatDoes", inPlace := ["internal/abi.NoEscape", "internal/bytealg.MakeNoZero"], apart := false, narrowed := true }
def FlatDoesUptoSaid : Prop := flatDoesUptoRow.holds Try.pinned (OpenSpec.upto flatDoesSpec)

/-- 'tarnlaw35.FlatFits', WHERE WHAT IT READS IS OF BULK AT MOST 1048576: true; the input reads as it did. -/
def flatFitsUptoRow : OpenClaim := { program := "ytjjcfipnainpiaa", sum := "1aed0ff4d650b722e8078b4ac9a2707668d834a914fae0e4d748dd4fd0fd5f44", func := "tarn/tarnlaw35.FlatFits", spec := "flatFits", inPlace := ["internal/abi.NoEscape", "internal/bytealg.MakeNoZero"], apart := false, narrowed := true }
def FlatFitsUptoSaid : Prop := flatFitsUptoRow.holds Try.pinned (OpenSpec.upto flatFitsSpec)

/-- 'tarnlaw35.FlatBent', WHERE WHAT IT READS IS OF BULK AT MOST 1048576: true; the input reads as it did. -/
def flatBentUptoRow : OpenClaim := { program := "ytjjcfipnainpiaa", sum := "1aed0ff4d650b722e8078b4ac9a2707668d834a914fae0e4d748dd4fd0fd5f44", func := "tarn/tarnlaw35.FlatBent", spec := "flatBent", inPlace := ["internal/abi.NoEscape", "internal/bytealg.MakeNoZero"], apart := false, narrowed := true }
def FlatBentUptoSaid : Prop := flatBentUptoRow.holds Try.pinned (OpenSpec.upto flatBentSpec)

/-- 'tarnlaw41.PlaceLoad', WHERE WHAT IT READS IS OF BULK AT MOST 1048576: true; the input reads as it did. -/
def placeLoadUptoRow : OpenClaim := { program := "ytjjcfipnainpiaa", sum := "1aed0ff4d650b722e8078b4ac9a2707668d834a914fae0e4d748dd4fd0fd5f44", func := "tarn/tarnlaw41.PlaceLoad", spec := "placeLoad", unfollowed := true, recurses := true, apart := false, narrowed := true }
def PlaceLoadUptoSaid : Prop := placeLoadUptoRow.holds Try.pinned (OpenSpec.upto placeLoadSpec)

/-- 'tarnlaw41.PlaceMends', WHERE WHAT IT READS IS OF BULK AT MOST 1048576: true; the input reads as it did. -/
def placeMendsUptoRow : OpenClaim := { program := "ytjjcfipnainpiaa", sum := "1aed0ff4d650b722e8078b4ac9a2707668d834a914fae0e4d748dd4fd0fd5f44", func := "tarn/tarnlaw41.PlaceMends", spec := "placeMends", unfollowed := true, recurses := true, apart := false, narrowed := true }
def PlaceMendsUptoSaid : Prop := placeMendsUptoRow.holds Try.pinned (OpenSpec.upto placeMendsSpec)

end Rows
end Go.Proofs.Ytjjcfipnainpiaa
