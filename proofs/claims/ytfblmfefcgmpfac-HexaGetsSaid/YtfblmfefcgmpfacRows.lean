/-
  No cell of these rows narrows 'for every input' (looked for: loops, veiled, ifaces, maps, wideKeys, modest, calm, conditions, laid).
  DERIVED. THE GIVEN ROWS OF THIS SEAT. 5 by the template 'for every input the law returns true; each argument reads behind the call as it read before'; 0 by the template 'total and deterministic' (their statements: YtfblmfefcgmpfacTotals.lean).
  GIVEN WITH THE SEED: the statements are not yours to turn. If you find one false, say at which input.
  Laid BY PROGRAM, IN A SANDBOX (cutbox-rows.mjs): the forced cells as the released guide's own fill.sh prints them over the translation 2c503d3257eeecb9… (all of the seat's roots in one cut). By AI agents, Wed Nov 11 2026. No macro, syntax, notation, axiom, sorry.
-/
import Derived.Test.YtfblmfefcgmpfacChecked
import GoSem.Claim
import GoSem.ClaimJoined
import GoSem.ClaimMapViews
import Derived.JoinedTies
import Derived.KernelRfl
namespace Go.Proofs.Ytfblmfefcgmpfac
/- THE CELL 'sum', in the pinned program and in every row, IS THE sha256 OF THE DUMP (.gsa) THAT YtfblmfefcgmpfacProg.lean LOADS. Nothing in Lean hashes anything: it is a label: what it is worth is what the hold of that sum in a sandbox is worth. -/
noncomputable def Try.pinned : Pinned := { name := "ytfblmfefcgmpfac", sum := "2c503d3257eeecb92d003c8093030b8a80cf226c8f4f951f07f326dd0daafb6f", checked := Try.checked }
namespace Rows
def none {H : Type} : Left H := { results := [], args := [] }

/-- 'tarnlaw44.HexaPuts': WHATEVER THE INPUT: true; the input reads as it did. -/
def hexaPutsSpec : ChangeSpec := { name := "hexaPuts", fn := fun _ => fun
  | [d] => { results := [.lit (.bool true)], args := [d] }
  | _ => none }
def hexaPutsRow : OpenClaim := { program := "ytfblmfefcgmpfac", sum := "2c503d3257eeecb92d003c8093030b8a80cf226c8f4f951f07f326dd0daafb6f", func := "tarn/tarnlaw44.HexaPuts", spec := "hexaPuts", inPlace := ["internal/abi.NoEscape", "internal/bytealg.MakeNoZero"], apart := false }
def HexaPutsSaid : Prop := hexaPutsRow.holds Try.pinned (OpenSpec.ofChange hexaPutsSpec)

/-- ITS FALSE NEIGHBOUR: 'it returns false'. Refute it at one input. -/
def hexaPutsWrong : ChangeSpec := { name := "hexaPuts", fn := fun _ => fun
  | [d] => { results := [.lit (.bool false)], args := [d] }
  | _ => none }
def HexaPutsWrongFalsely : Prop := hexaPutsRow.holds Try.pinned (OpenSpec.ofChange hexaPutsWrong)

/-- 'tarnlaw44.HexaGets': WHATEVER THE INPUT: true; the input reads as it did. -/
def hexaGetsSpec : ChangeSpec := { name := "hexaGets", fn := fun _ => fun
  | [d1, d2, d3] => { results := [.lit (.bool true)], args := [d1, d2, d3] }
  | _ => none }
def hexaGetsRow : OpenClaim := { program := "ytfblmfefcgmpfac", sum := "2c503d3257eeecb92d003c8093030b8a80cf226c8f4f951f07f326dd0daafb6f", func := "tarn/tarnlaw44.HexaGets", spec := "hexaGets", inPlace := ["internal/abi.NoEscape", "internal/bytealg.MakeNoZero"], apart := false }
def HexaGetsSaid : Prop := hexaGetsRow.holds Try.pinned (OpenSpec.ofChange hexaGetsSpec)

/-- ITS FALSE NEIGHBOUR: 'it returns false'. Refute it at one input. -/
def hexaGetsWrong : ChangeSpec := { name := "hexaGets", fn := fun _ => fun
  | [d1, d2, d3] => { results := [.lit (.bool false)], args := [d1, d2, d3] }
  | _ => none }
def HexaGetsWrongFalsely : Prop := hexaGetsRow.holds Try.pinned (OpenSpec.ofChange hexaGetsWrong)

/-- 'tarnlaw44.HexaBlocks': WHATEVER THE INPUT: true; the input reads as it did. -/
def hexaBlocksSpec : ChangeSpec := { name := "hexaBlocks", fn := fun _ => fun
  | [d1, d2] => { results := [.lit (.bool true)], args := [d1, d2] }
  | _ => none }
def hexaBlocksRow : OpenClaim := { program := "ytfblmfefcgmpfac", sum := "2c503d3257eeecb92d003c8093030b8a80cf226c8f4f951f07f326dd0daafb6f", func := "tarn/tarnlaw44.HexaBlocks", spec := "hexaBlocks", inPlace := ["internal/abi.NoEscape", "internal/bytealg.MakeNoZero"], apart := false }
def HexaBlocksSaid : Prop := hexaBlocksRow.holds Try.pinned (OpenSpec.ofChange hexaBlocksSpec)

/-- ITS FALSE NEIGHBOUR: 'it returns false'. Refute it at one input. -/
def hexaBlocksWrong : ChangeSpec := { name := "hexaBlocks", fn := fun _ => fun
  | [d1, d2] => { results := [.lit (.bool false)], args := [d1, d2] }
  | _ => none }
def HexaBlocksWrongFalsely : Prop := hexaBlocksRow.holds Try.pinned (OpenSpec.ofChange hexaBlocksWrong)

/-- 'tarnlaw44.HexaLong': WHATEVER THE INPUT: true; the input reads as it did. -/
def hexaLongSpec : ChangeSpec := { name := "hexaLong", fn := fun _ => fun
  | [d1, d2, d3] => { results := [.lit (.bool true)], args := [d1, d2, d3] }
  | _ => none }
def hexaLongRow : OpenClaim := { program := "ytfblmfefcgmpfac", sum := "2c503d3257eeecb92d003c8093030b8a80cf226c8f4f951f07f326dd0daafb6f", func := "tarn/tarnlaw44.HexaLong", spec := "hexaLong", inPlace := ["internal/abi.NoEscape", "internal/bytealg.MakeNoZero"], apart := false }
def HexaLongSaid : Prop := hexaLongRow.holds Try.pinned (OpenSpec.ofChange hexaLongSpec)

/-- ITS FALSE NEIGHBOUR: 'it returns false'. Refute it at one input. -/
def hexaLongWrong : ChangeSpec := { name := "hexaLong", fn := fun _ => fun
  | [d1, d2, d3] => { results := [.lit (.bool false)], args := [d1, d2, d3] }
  | _ => none }
def HexaLongWrongFalsely : Prop := hexaLongRow.holds Try.pinned (OpenSpec.ofChange hexaLongWrong)

/-- 'tarnlaw55.PledgeSerial': WHATEVER THE INPUT: true; the input reads as it did. -/
def pledgeSerialSpec : ChangeSpec := { name := "pledgeSerial", fn := fun _ => fun
  | [d1, d2] => { results := [.lit (.bool true)], args := [d1, d2] }
  | _ => none }
def pledgeSerialRow : OpenClaim := { program := "ytfblmfefcgmpfac", sum := "2c503d3257eeecb92d003c8093030b8a80cf226c8f4f951f07f326dd0daafb6f", func := "tarn/tarnlaw55.PledgeSerial", spec := "pledgeSerial", inPlace := ["internal/abi.NoEscape", "internal/bytealg.MakeNoZero"], unfollowed := true, recurses := true, apart := false }
def PledgeSerialSaid : Prop := pledgeSerialRow.holds Try.pinned (OpenSpec.ofChange pledgeSerialSpec)

/-- ITS FALSE NEIGHBOUR: 'it returns false'. Refute it at one input. -/
def pledgeSerialWrong : ChangeSpec := { name := "pledgeSerial", fn := fun _ => fun
  | [d1, d2] => { results := [.lit (.bool false)], args := [d1, d2] }
  | _ => none }
def PledgeSerialWrongFalsely : Prop := pledgeSerialRow.holds Try.pinned (OpenSpec.ofChange pledgeSerialWrong)

/- THE SECOND FORM. 'bulk': how many values and letters a reading holds, each counted each time it is reached (what is shared counts as often as it is met; a slice's spare places count too). A statement '..UptoSaid' is the law's where the arguments, and the package variables that the reading takes, are together of bulk at most 1048576: NARROWER than '..Said'. Prove '..Said' where nothing that the law and all that it calls make is longer than what came in: it says more and counts as full. Else prove '..UptoSaid'. A law counts once. -/
mutual
def uptoBulk {H : Type} : DataW H → Nat
  | .lit (.string bytes) => bytes.length + 1
  | .lit _ => 1
  | .nil => 1
  | .ptr d => uptoBulk d + 1
  | .slice elems spare => uptoBulkAll elems + uptoBulkAll spare + 1
  | .agg parts => uptoBulkAll parts + 1
  | .iface _ d => uptoBulk d + 1
  | .map entries => uptoBulkEntries entries + 1
  | .held _ => 1
def uptoBulkAll {H : Type} : List (DataW H) → Nat
  | [] => 0
  | d :: r => uptoBulk d + uptoBulkAll r
def uptoBulkEntries {H : Type} : List (Lit × DataW H) → Nat
  | [] => 0
  | x :: r => uptoBulkEntry x + uptoBulkEntries r
def uptoBulkEntry {H : Type} : Lit × DataW H → Nat
  | (.string bytes, d) => bytes.length + uptoBulk d + 1
  | (_, d) => uptoBulk d + 1
 end
def uptoSmall : (H : Type) → List (DataW H) → Bool := fun _ ds => decide (uptoBulkAll ds ≤ 1048576)
def OpenSpec.upto (s : _root_.Go.ChangeSpec) : _root_.Go.OpenSpec := { _root_.Go.OpenSpec.ofChange s with cond := some uptoSmall }

/-- 'tarnlaw44.HexaPuts', WHERE WHAT IT READS IS OF BULK AT MOST 1048576: true; the input reads as it did. -/
def hexaPutsUptoRow : OpenClaim := { program := "ytfblmfefcgmpfac", sum := "2c503d3257eeecb92d003c8093030b8a80cf226c8f4f951f07f326dd0daafb6f", func := "tarn/tarnlaw44.HexaPuts", spec := "hexaPuts", inPlace := ["internal/abi.NoEscape", "internal/bytealg.MakeNoZero"], apart := false, narrowed := true }
def HexaPutsUptoSaid : Prop := hexaPutsUptoRow.holds Try.pinned (OpenSpec.upto hexaPutsSpec)

/-- 'tarnlaw44.HexaGets', WHERE WHAT IT READS IS OF BULK AT MOST 1048576: true; the input reads as it did. -/
def hexaGetsUptoRow : OpenClaim := { program := "ytfblmfefcgmpfac", sum := "2c503d3257eeecb92d003c8093030b8a80cf226c8f4f951f07f326dd0daafb6f", func := "tarn/tarnlaw44.HexaGets", spec := "hexaGets", inPlace := ["internal/abi.NoEscape", "internal/bytealg.MakeNoZero"], apart := false, narrowed := true }
def HexaGetsUptoSaid : Prop := hexaGetsUptoRow.holds Try.pinned (OpenSpec.upto hexaGetsSpec)

/-- 'tarnlaw44.HexaBlocks', WHERE WHAT IT READS IS OF BULK AT MOST 1048576: true; the input reads as it did. -/
def hexaBlocksUptoRow : OpenClaim := { program := "ytfblmfefcgmpfac", sum := "2c503d3257eeecb92d003c8093030b8a80cf226c8f4f951f07f326dd0daafb6f", func := "tarn/tarnlaw44.HexaBlocks", spec := "hexaBlocks", inPlace := ["internal/abi.NoEscape", "internal/bytealg.MakeNoZero"], apart := false, narrowed := true }
def HexaBlocksUptoSaid : Prop := hexaBlocksUptoRow.holds Try.pinned (OpenSpec.upto hexaBlocksSpec)

/-- 'tarnlaw44.HexaLong', WHERE WHAT IT READS IS OF BULK AT MOST 1048576: true; the input reads as it did. -/
def hexaLongUptoRow : OpenClaim := { program := "ytfblmfefcgmpfac", sum := "2c503d3257eeecb92d003c8093030b8a80cf226c8f4f951f07f326dd0daafb6f", func := "tarn/tarnlaw44.HexaLong", spec := "hexaLong", inPlace := ["internal/abi.NoEscape", "internal/bytealg.MakeNoZero"], apart := false, narrowed := true }
def HexaLongUptoSaid : Prop := hexaLongUptoRow.holds Try.pinned (OpenSpec.upto hexaLongSpec)

/-- 'tarnlaw55.PledgeSerial', WHERE WHAT IT READS IS OF BULK AT MOST 1048576: true; the input reads as it did. -/
def pledgeSerialUptoRow : OpenClaim := { program := "ytfblmfefcgmpfac", sum := "2c503d3257eeecb92d003c8093030b8a80cf226c8f4f951f07f326dd0daafb6f", func := "tarn/tarnlaw55.PledgeSerial", spec := "pledgeSerial", inPlace := ["internal/abi.NoEscape", "internal/bytealg.MakeNoZero"], unfollowed := true, recurses := true, apart := false, narrowed := true }
def PledgeSerialUptoSaid : Prop := pledgeSerialUptoRow.holds Try.pinned (OpenSpec.upto pledgeSerialSpec)

end Rows
end Go.Proofs.Ytfblmfefcgmpfac
