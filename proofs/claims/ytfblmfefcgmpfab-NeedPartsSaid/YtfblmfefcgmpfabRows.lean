/-
  No cell of these rows narrows 'for every input' (looked for: loops, veiled, ifaces, maps, wideKeys, modest, calm, conditions, laid).
  DERIVED. THE GIVEN ROWS OF THIS SEAT. 6 by the template 'for every input the law returns true; each argument reads behind the call as it read before'; 0 by the template 'total and deterministic' (their statements: YtfblmfefcgmpfabTotals.lean).
  GIVEN WITH THE SEED: the statements are not yours to turn. If you find one false, say at which input.
  Laid BY PROGRAM, IN A SANDBOX (cutbox-rows.mjs): the forced cells as the released guide's own fill.sh prints them over the translation a1c8329d1ca385e6… (all of the seat's roots in one cut). By AI agents, Wed Nov 11 2026. No macro, syntax, notation, axiom, sorry.
-/
import Derived.Test.YtfblmfefcgmpfabChecked
import GoSem.Claim
import GoSem.ClaimJoined
import GoSem.ClaimMapViews
import Derived.JoinedTies
import Derived.KernelRfl
namespace Go.Proofs.Ytfblmfefcgmpfab
/- THE CELL 'sum', in the pinned program and in every row, IS THE sha256 OF THE DUMP (.gsa) THAT YtfblmfefcgmpfabProg.lean LOADS. Nothing in Lean hashes anything: it is a label: what it is worth is what the hold of that sum in a sandbox is worth. -/
noncomputable def Try.pinned : Pinned := { name := "ytfblmfefcgmpfab", sum := "a1c8329d1ca385e6bba5f7dc46dd556f70f0ee845cdd56f08e22bbf14082df75", checked := Try.checked }
namespace Rows
def none {H : Type} : Left H := { results := [], args := [] }

/-- 'tarnlaw16.RlogNewer': WHATEVER THE INPUT: true; the input reads as it did. -/
def rlogNewerSpec : ChangeSpec := { name := "rlogNewer", fn := fun _ => fun
  | [d1, d2, d3] => { results := [.lit (.bool true)], args := [d1, d2, d3] }
  | _ => none }
def rlogNewerRow : OpenClaim := { program := "ytfblmfefcgmpfab", sum := "a1c8329d1ca385e6bba5f7dc46dd556f70f0ee845cdd56f08e22bbf14082df75", func := "tarn/tarnlaw16.RlogNewer", spec := "rlogNewer", unfollowed := true, recurses := true, apart := false }
def RlogNewerSaid : Prop := rlogNewerRow.holds Try.pinned (OpenSpec.ofChange rlogNewerSpec)

/-- ITS FALSE NEIGHBOUR: 'it returns false'. Refute it at one input. -/
def rlogNewerWrong : ChangeSpec := { name := "rlogNewer", fn := fun _ => fun
  | [d1, d2, d3] => { results := [.lit (.bool false)], args := [d1, d2, d3] }
  | _ => none }
def RlogNewerWrongFalsely : Prop := rlogNewerRow.holds Try.pinned (OpenSpec.ofChange rlogNewerWrong)

/-- 'tarnlaw16.RlogPlays': WHATEVER THE INPUT: true; the input reads as it did. -/
def rlogPlaysSpec : ChangeSpec := { name := "rlogPlays", fn := fun _ => fun
  | [d] => { results := [.lit (.bool true)], args := [d] }
  | _ => none }
def rlogPlaysRow : OpenClaim := { program := "ytfblmfefcgmpfab", sum := "a1c8329d1ca385e6bba5f7dc46dd556f70f0ee845cdd56f08e22bbf14082df75", func := "tarn/tarnlaw16.RlogPlays", spec := "rlogPlays", unfollowed := true, recurses := true, apart := false }
def RlogPlaysSaid : Prop := rlogPlaysRow.holds Try.pinned (OpenSpec.ofChange rlogPlaysSpec)

/-- ITS FALSE NEIGHBOUR: 'it returns false'. Refute it at one input. -/
def rlogPlaysWrong : ChangeSpec := { name := "rlogPlays", fn := fun _ => fun
  | [d] => { results := [.lit (.bool false)], args := [d] }
  | _ => none }
def RlogPlaysWrongFalsely : Prop := rlogPlaysRow.holds Try.pinned (OpenSpec.ofChange rlogPlaysWrong)

/-- 'tarnlaw28.NeedMay': WHATEVER THE INPUT: true; the input reads as it did. -/
def needMaySpec : ChangeSpec := { name := "needMay", fn := fun _ => fun
  | [d1, d2, d3] => { results := [.lit (.bool true)], args := [d1, d2, d3] }
  | _ => none }
def needMayRow : OpenClaim := { program := "ytfblmfefcgmpfab", sum := "a1c8329d1ca385e6bba5f7dc46dd556f70f0ee845cdd56f08e22bbf14082df75", func := "tarn/tarnlaw28.NeedMay", spec := "needMay", inPlace := ["internal/abi.NoEscape", "internal/bytealg.MakeNoZero"], apart := false }
def NeedMaySaid : Prop := needMayRow.holds Try.pinned (OpenSpec.ofChange needMaySpec)

/-- ITS FALSE NEIGHBOUR: 'it returns false'. Refute it at one input. -/
def needMayWrong : ChangeSpec := { name := "needMay", fn := fun _ => fun
  | [d1, d2, d3] => { results := [.lit (.bool false)], args := [d1, d2, d3] }
  | _ => none }
def NeedMayWrongFalsely : Prop := needMayRow.holds Try.pinned (OpenSpec.ofChange needMayWrong)

/-- 'tarnlaw28.NeedParts': WHATEVER THE INPUT: true; the input reads as it did. -/
def needPartsSpec : ChangeSpec := { name := "needParts", fn := fun _ => fun
  | [d1, d2, d3] => { results := [.lit (.bool true)], args := [d1, d2, d3] }
  | _ => none }
def needPartsRow : OpenClaim := { program := "ytfblmfefcgmpfab", sum := "a1c8329d1ca385e6bba5f7dc46dd556f70f0ee845cdd56f08e22bbf14082df75", func := "tarn/tarnlaw28.NeedParts", spec := "needParts", inPlace := ["internal/abi.NoEscape", "internal/bytealg.MakeNoZero"], apart := false }
def NeedPartsSaid : Prop := needPartsRow.holds Try.pinned (OpenSpec.ofChange needPartsSpec)

/-- ITS FALSE NEIGHBOUR: 'it returns false'. Refute it at one input. -/
def needPartsWrong : ChangeSpec := { name := "needParts", fn := fun _ => fun
  | [d1, d2, d3] => { results := [.lit (.bool false)], args := [d1, d2, d3] }
  | _ => none }
def NeedPartsWrongFalsely : Prop := needPartsRow.holds Try.pinned (OpenSpec.ofChange needPartsWrong)

/-- 'tarnlaw11.ConfPuts': WHATEVER THE INPUT: true; the input reads as it did. -/
def confPutsSpec : ChangeSpec := { name := "confPuts", fn := fun _ => fun
  | [d1, d2] => { results := [.lit (.bool true)], args := [d1, d2] }
  | _ => none }
def confPutsRow : OpenClaim := { program := "ytfblmfefcgmpfab", sum := "a1c8329d1ca385e6bba5f7dc46dd556f70f0ee845cdd56f08e22bbf14082df75", func := "tarn/tarnlaw11.ConfPuts", spec := "confPuts", inPlace := ["internal/abi.NoEscape"], recurses := true, apart := false }
def ConfPutsSaid : Prop := confPutsRow.holds Try.pinned (OpenSpec.ofChange confPutsSpec)

/-- ITS FALSE NEIGHBOUR: 'it returns false'. Refute it at one input. -/
def confPutsWrong : ChangeSpec := { name := "confPuts", fn := fun _ => fun
  | [d1, d2] => { results := [.lit (.bool false)], args := [d1, d2] }
  | _ => none }
def ConfPutsWrongFalsely : Prop := confPutsRow.holds Try.pinned (OpenSpec.ofChange confPutsWrong)

/-- 'tarnlaw11.ConfNodes': WHATEVER THE INPUT: true; the input reads as it did. -/
def confNodesSpec : ChangeSpec := { name := "confNodes", fn := fun _ => fun
  | [d1, d2] => { results := [.lit (.bool true)], args := [d1, d2] }
  | _ => none }
def confNodesRow : OpenClaim := { program := "ytfblmfefcgmpfab", sum := "a1c8329d1ca385e6bba5f7dc46dd556f70f0ee845cdd56f08e22bbf14082df75", func := "tarn/tarnlaw11.ConfNodes", spec := "confNodes", recurses := true, apart := false }
def ConfNodesSaid : Prop := confNodesRow.holds Try.pinned (OpenSpec.ofChange confNodesSpec)

/-- ITS FALSE NEIGHBOUR: 'it returns false'. Refute it at one input. -/
def confNodesWrong : ChangeSpec := { name := "confNodes", fn := fun _ => fun
  | [d1, d2] => { results := [.lit (.bool false)], args := [d1, d2] }
  | _ => none }
def ConfNodesWrongFalsely : Prop := confNodesRow.holds Try.pinned (OpenSpec.ofChange confNodesWrong)

/- THE SECOND FORM. 'bulk': how many values and letters a reading holds, each counted each time it is reached (what is shared counts as often as it is met; a slice's spare places count too). A statement '..UptoSaid' is the law's where the arguments, and the package variables that the reading takes, are together of bulk at most 1048576: NARROWER than '..Said'. Prove '..Said' where nothing that the law and all that it calls make is longer than what came in: it says more and counts as full. Else prove '..UptoSaid'. A law counts once. -/
mutual
def uptoBulk {H : Type} : DataW H → Nat
  | .lit (.string bytes) => bytes.length + 1
  | .lit _ => 1
  | .nil => 1
  | .ptr d => uptoBulk d + 1
  | .slice elems spare => uptoBulkAll elems + uptoBulkAll spare + 1
  | .agg parts => uptoBulkAll parts + 1
  | .iface _ d => uptoBulk d + 1
  | .map entries => uptoBulkEntries entries + 1
  | .held _ => 1
def uptoBulkAll {H : Type} : List (DataW H) → Nat
  | [] => 0
  | d :: r => uptoBulk d + uptoBulkAll r
def uptoBulkEntries {H : Type} : List (Lit × DataW H) → Nat
  | [] => 0
  | x :: r => uptoBulkEntry x + uptoBulkEntries r
def uptoBulkEntry {H : Type} : Lit × DataW H → Nat
  | (.string bytes, d) => bytes.length + uptoBulk d + 1
  | (_, d) => uptoBulk d + 1
 end
def uptoSmall : (H : Type) → List (DataW H) → Bool := fun _ ds => decide (uptoBulkAll ds ≤ 1048576)
def OpenSpec.upto (s : _root_.Go.ChangeSpec) : _root_.Go.OpenSpec := { _root_.Go.OpenSpec.ofChange s with cond := some uptoSmall }

/-- 'tarnlaw16.RlogNewer', WHERE WHAT IT READS IS OF BULK AT MOST 1048576: true; the input reads as it did. -/
def rlogNewerUptoRow : OpenClaim := { program := "ytfblmfefcgmpfab", sum := "a1c8329d1ca385e6bba5f7dc46dd556f70f0ee845cdd56f08e22bbf14082df75", func := "tarn/tarnlaw16.RlogNewer", spec := "rlogNewer", unfollowed := true, recurses := true, apart := false, narrowed := true }
def RlogNewerUptoSaid : Prop := rlogNewerUptoRow.holds Try.pinned (OpenSpec.upto rlogNewerSpec)

/-- 'tarnlaw16.RlogPlays', WHERE WHAT IT READS IS OF BULK AT MOST 1048576: true; the input reads as it did. -/
def rlogPlaysUptoRow : OpenClaim := { program := "ytfblmfefcgmpfab", sum := "a1c8329d1ca385e6bba5f7dc46dd556f70f0ee845cdd56f08e22bbf14082df75", func := "tarn/tarnlaw16.RlogPlays", spec := "rlogPlays", unfollowed := true, recurses := true, apart := false, narrowed := true }
def RlogPlaysUptoSaid : Prop := rlogPlaysUptoRow.holds Try.pinned (OpenSpec.upto rlogPlaysSpec)

/-- 'tarnlaw28.NeedMay', WHERE WHAT IT READS IS OF BULK AT MOST 1048576: true; the input reads as it did. -/
def needMayUptoRow : OpenClaim := { program := "ytfblmfefcgmpfab", sum := "a1c8329d1ca385e6bba5f7dc46dd556f70f0ee845cdd56f08e22bbf14082df75", func := "tarn/tarnlaw28.NeedMay", spec := "needMay", inPlace := ["internal/abi.NoEscape", "internal/bytealg.MakeNoZero"], apart := false, narrowed := true }
def NeedMayUptoSaid : Prop := needMayUptoRow.holds Try.pinned (OpenSpec.upto needMaySpec)

/-- 'tarnlaw28.NeedParts', WHERE WHAT IT READS IS OF BULK AT MOST 1048576: true; the input reads as it did. -/
def needPartsUptoRow : OpenClaim := { program := "ytfblmfefcgmpfab", sum := "a1c8329d1ca385e6bba5f7dc46dd556f70f0ee845cdd56f08e22bbf14082df75", func := "tarn/tarnlaw28.NeedParts", spec := "needParts", inPlace := ["internal/abi.NoEscape", "internal/bytealg.MakeNoZero"], apart := false, narrowed := true }
def NeedPartsUptoSaid : Prop := needPartsUptoRow.holds Try.pinned (OpenSpec.upto needPartsSpec)

/-- 'tarnlaw11.ConfPuts', WHERE WHAT IT READS IS OF BULK AT MOST 1048576: true; the input reads as it did. -/
def confPutsUptoRow : OpenClaim := { program := "ytfblmfefcgmpfab", sum := "a1c8329d1ca385e6bba5f7dc46dd556f70f0ee845cdd56f08e22bbf14082df75", func := "tarn/tarnlaw11.ConfPuts", spec := "confPuts", inPlace := ["internal/abi.NoEscape"], recurses := true, apart := false, narrowed := true }
def ConfPutsUptoSaid : Prop := confPutsUptoRow.holds Try.pinned (OpenSpec.upto confPutsSpec)

/-- 'tarnlaw11.ConfNodes', WHERE WHAT IT READS IS OF BULK AT MOST 1048576: true; the input reads as it did. -/
def confNodesUptoRow : OpenClaim := { program := "ytfblmfefcgmpfab", sum := "a1c8329d1ca385e6bba5f7dc46dd556f70f0ee845cdd56f08e22bbf14082df75", func := "tarn/tarnlaw11.ConfNodes", spec := "confNodes", recurses := true, apart := false, narrowed := true }
def ConfNodesUptoSaid : Prop := confNodesUptoRow.holds Try.pinned (OpenSpec.upto confNodesSpec)

end Rows
end Go.Proofs.Ytfblmfefcgmpfab
