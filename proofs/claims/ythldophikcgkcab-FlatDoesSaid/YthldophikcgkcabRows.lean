/-
  No cell of these rows narrows 'for every input' (looked for: loops, veiled, ifaces, maps, wideKeys, modest, calm, conditions, laid).
  DERIVED. THE GIVEN ROWS OF THIS SEAT. 5 by the template 'for every input the law returns true; each argument reads behind the call as it read before'; 0 by the template 'total and deterministic' (their statements: YthldophikcgkcabTotals.lean).
  GIVEN WITH THE SEED: the statements are not yours to turn. If you find one false, say at which input.
  Laid BY PROGRAM, IN A SANDBOX (cutbox-rows.mjs): the forced cells as the released guide's own fill.sh prints them over the translation 40d4473f69ebee73… (all of the seat's roots in one cut). By AI agents, Wed Nov 11 2026. No macro, syntax, notation, axiom, sorry.
-/
import Derived.Test.YthldophikcgkcabChecked
import GoSem.Claim
import GoSem.ClaimJoined
import GoSem.ClaimMapViews
import Derived.JoinedTies
import Derived.KernelRfl
namespace Go.Proofs.Ythldophikcgkcab
/- THE CELL 'sum', in the pinned program and in every row, IS THE sha256 OF THE DUMP (.gsa) THAT YthldophikcgkcabProg.lean LOADS. Nothing in Lean hashes anything: it is a label: what it is worth is what the hold of that sum in a sandbox is worth. -/
noncomputable def Try.pinned : Pinned := { name := "ythldophikcgkcab", sum := "40d4473f69ebee73f092f26ae1ed385400822583d9d4c91a741b195a9e96c95e", checked := Try.checked }
namespace Rows
def none {H : Type} : Left H := { results := [], args := [] }

/-- 'tarnlaw16.RlogNewer': WHATEVER THE INPUT: true; the input reads as it did. -/
def rlogNewerSpec : ChangeSpec := { name := "rlogNewer", fn := fun _ => fun
  | [d1, d2, d3] => { results := [.lit (.bool true)], args := [d1, d2, d3] }
  | _ => none }
def rlogNewerRow : OpenClaim := { program := "ythldophikcgkcab", sum := "40d4473f69ebee73f092f26ae1ed385400822583d9d4c91a741b195a9e96c95e", func := "tarn/tarnlaw16.RlogNewer", spec := "rlogNewer", unfollowed := true, recurses := true, plainKeys := false, apart := false }
def RlogNewerSaid : Prop := rlogNewerRow.holds Try.pinned (OpenSpec.ofChange rlogNewerSpec)

/-- ITS FALSE NEIGHBOUR: 'it returns false'. Refute it at one input. -/
def rlogNewerWrong : ChangeSpec := { name := "rlogNewer", fn := fun _ => fun
  | [d1, d2, d3] => { results := [.lit (.bool false)], args := [d1, d2, d3] }
  | _ => none }
def RlogNewerWrongFalsely : Prop := rlogNewerRow.holds Try.pinned (OpenSpec.ofChange rlogNewerWrong)

/-- 'tarnlaw16.RlogPlays': WHATEVER THE INPUT: true; the input reads as it did. -/
def rlogPlaysSpec : ChangeSpec := { name := "rlogPlays", fn := fun _ => fun
  | [d] => { results := [.lit (.bool true)], args := [d] }
  | _ => none }
def rlogPlaysRow : OpenClaim := { program := "ythldophikcgkcab", sum := "40d4473f69ebee73f092f26ae1ed385400822583d9d4c91a741b195a9e96c95e", func := "tarn/tarnlaw16.RlogPlays", spec := "rlogPlays", unfollowed := true, recurses := true, plainKeys := false, apart := false }
def RlogPlaysSaid : Prop := rlogPlaysRow.holds Try.pinned (OpenSpec.ofChange rlogPlaysSpec)

/-- ITS FALSE NEIGHBOUR: 'it returns false'. Refute it at one input. -/
def rlogPlaysWrong : ChangeSpec := { name := "rlogPlays", fn := fun _ => fun
  | [d] => { results := [.lit (.bool false)], args := [d] }
  | _ => none }
def RlogPlaysWrongFalsely : Prop := rlogPlaysRow.holds Try.pinned (OpenSpec.ofChange rlogPlaysWrong)

/-- 'tarnlaw35.FlatDoes': WHATEVER THE INPUT: true; the input reads as it did. -/
def flatDoesSpec : ChangeSpec := { name := "flatDoes", fn := fun _ => fun
  | [d1, d2, d3] => { results := [.lit (.bool true)], args := [d1, d2, d3] }
  | _ => none }
def flatDoesRow : OpenClaim := { program := "ythldophikcgkcab", sum := "40d4473f69ebee73f092f26ae1ed385400822583d9d4c91a741b195a9e96c95e", func := "tarn/tarnlaw35.FlatDoes", spec := "flatDoes", inPlace := ["internal/abi.NoEscape", "internal/bytealg.MakeNoZero"], plainKeys := false, apart := false }
def FlatDoesSaid : Prop := flatDoesRow.holds Try.pinned (OpenSpec.ofChange flatDoesSpec)

/-- ITS FALSE NEIGHBOUR: 'it returns false'. Refute it at one input. -/
def flatDoesWrong : ChangeSpec := { name := "flatDoes", fn := fun _ => fun
  | [d1, d2, d3] => { results := [.lit (.bool false)], args := [d1, d2, d3] }
  | _ => none }
def FlatDoesWrongFalsely : Prop := flatDoesRow.holds Try.pinned (OpenSpec.ofChange flatDoesWrong)

/-- 'tarnlaw55.PledgeSerial': WHATEVER THE INPUT: true; the input reads as it did. -/
def pledgeSerialSpec : ChangeSpec := { name := "pledgeSerial", fn := fun _ => fun
  | [d1, d2] => { results := [.lit (.bool true)], args := [d1, d2] }
  | _ => none }
def pledgeSerialRow : OpenClaim := { program := "ythldophikcgkcab", sum := "40d4473f69ebee73f092f26ae1ed385400822583d9d4c91a741b195a9e96c95e", func := "tarn/tarnlaw55.PledgeSerial", spec := "pledgeSerial", inPlace := ["internal/abi.NoEscape", "internal/bytealg.MakeNoZero"], unfollowed := true, recurses := true, plainKeys := false, apart := false }
def PledgeSerialSaid : Prop := pledgeSerialRow.holds Try.pinned (OpenSpec.ofChange pledgeSerialSpec)

/-- ITS FALSE NEIGHBOUR: 'it returns false'. Refute it at one input. -/
def pledgeSerialWrong : ChangeSpec := { name := "pledgeSerial", fn := fun _ => fun
  | [d1, d2] => { results := [.lit (.bool false)], args := [d1, d2] }
  | _ => none }
def PledgeSerialWrongFalsely : Prop := pledgeSerialRow.holds Try.pinned (OpenSpec.ofChange pledgeSerialWrong)

/-- 'tarnlaw40.SearchFlat': WHATEVER THE INPUT: true; the input reads as it did. -/
def searchFlatSpec : ChangeSpec := { name := "searchFlat", fn := fun _ => fun
  | [d] => { results := [.lit (.bool true)], args := [d] }
  | _ => none }
def searchFlatRow : OpenClaim := { program := "ythldophikcgkcab", sum := "40d4473f69ebee73f092f26ae1ed385400822583d9d4c91a741b195a9e96c95e", func := "tarn/tarnlaw40.SearchFlat", spec := "searchFlat", inPlace := ["internal/abi.NoEscape", "internal/bytealg.MakeNoZero"], unfollowed := true, recurses := true, plainKeys := false, apart := false }
def SearchFlatSaid : Prop := searchFlatRow.holds Try.pinned (OpenSpec.ofChange searchFlatSpec)

/-- ITS FALSE NEIGHBOUR: 'it returns false'. Refute it at one input. -/
def searchFlatWrong : ChangeSpec := { name := "searchFlat", fn := fun _ => fun
  | [d] => { results := [.lit (.bool false)], args := [d] }
  | _ => none }
def SearchFlatWrongFalsely : Prop := searchFlatRow.holds Try.pinned (OpenSpec.ofChange searchFlatWrong)

/- THE SECOND FORM. 'bulk': how many values and letters a reading holds, each counted each time it is reached (what is shared counts as often as it is met; a slice's spare places count too). A statement '..UptoSaid' is the law's where the arguments, and the package variables that the reading takes, are together of bulk at most 1048576: NARROWER than '..Said'. Prove '..Said' where nothing that the law and all that it calls make is longer than what came in: it says more and counts as full. Else prove '..UptoSaid'. A law counts once. -/
mutual
def uptoBulk {H : Type} : DataW H → Nat
  | .lit (.string bytes) => bytes.length + 1
  | .lit _ => 1
  | .nil => 1
  | .ptr d => uptoBulk d + 1
  | .slice elems spare => uptoBulkAll elems + uptoBulkAll spare + 1
  | .agg parts => uptoBulkAll parts + 1
  | .iface _ d => uptoBulk d + 1
  | .map entries => uptoBulkEntries entries + 1
  | .held _ => 1
def uptoBulkAll {H : Type} : List (DataW H) → Nat
  | [] => 0
  | d :: r => uptoBulk d + uptoBulkAll r
def uptoBulkEntries {H : Type} : List (Lit × DataW H) → Nat
  | [] => 0
  | x :: r => uptoBulkEntry x + uptoBulkEntries r
def uptoBulkEntry {H : Type} : Lit × DataW H → Nat
  | (.string bytes, d) => bytes.length + uptoBulk d + 1
  | (_, d) => uptoBulk d + 1
 end
def uptoSmall : (H : Type) → List (DataW H) → Bool := fun _ ds => decide (uptoBulkAll ds ≤ 1048576)
def OpenSpec.upto (s : _root_.Go.ChangeSpec) : _root_.Go.OpenSpec := { _root_.Go.OpenSpec.ofChange s with cond := some uptoSmall }

/-- 'tarnlaw16.RlogNewer', WHERE WHAT IT READS IS OF BULK AT MOST 1048576: true; the input reads as it did. -/
def rlogNewerUptoRow : OpenClaim := { program := "ythldophikcgkcab", sum := "40d4473f69ebee73f092f26ae1ed385400822583d9d4c91a741b195a9e96c95e", func := "tarn/tarnlaw16.RlogNewer", spec := "rlogNewer", unfollowed := true, recurses := true, plainKeys := false, apart := false, narrowed := true }
def RlogNewerUptoSaid : Prop := rlogNewerUptoRow.holds Try.pinned (OpenSpec.upto rlogNewerSpec)

/-- 'tarnlaw16.RlogPlays', WHERE WHAT IT READS IS OF BULK AT MOST 1048576: true; the input reads as it did. -/
def rlogPlaysUptoRow : OpenClaim := { program := "ythldophikcgkcab", sum := "40d4473f69ebee73f092f26ae1ed385400822583d9d4c91a741b195a9e96c95e", func := "tarn/tarnlaw16.RlogPlays", spec := "rlogPlays", unfollowed := true, recurses := true, plainKeys := false, apart := false, narrowed := true }
def RlogPlaysUptoSaid : Prop := rlogPlaysUptoRow.holds Try.pinned (OpenSpec.upto rlogPlaysSpec)

/-- 'tarnlaw35.FlatDoes', WHERE WHAT IT READS IS OF BULK AT MOST 1048576: true; the input reads as it did. -/
def flatDoesUptoRow : OpenClaim := { program := "ythldophikcgkcab", sum := "40d4473f69ebee73f092f26ae1ed385400822583d9d4c91a741b195a9e96c95e", func := "tarn/tarnlaw35.FlatDoes", spec := "flatDoes", inPlace := ["internal/abi.NoEscape", "internal/bytealg.MakeNoZero"], plainKeys := false, apart := false, narrowed := true }
def FlatDoesUptoSaid : Prop := flatDoesUptoRow.holds Try.pinned (OpenSpec.upto flatDoesSpec)

/-- 'tarnlaw55.PledgeSerial', WHERE WHAT IT READS IS OF BULK AT MOST 1048576: true; the input reads as it did. -/
def pledgeSerialUptoRow : OpenClaim := { program := "ythldophikcgkcab", sum := "40d4473f69ebee73f092f26ae1ed385400822583d9d4c91a741b195a9e96c95e", func := "tarn/tarnlaw55.PledgeSerial", spec := "pledgeSerial", inPlace := ["internal/abi.NoEscape", "internal/bytealg.MakeNoZero"], unfollowed := true, recurses := true, plainKeys := false, apart := false, narrowed := true }
def PledgeSerialUptoSaid : Prop := pledgeSerialUptoRow.holds Try.pinned (OpenSpec.upto pledgeSerialSpec)

/-- 'tarnlaw40.SearchFlat', WHERE WHAT IT READS IS OF BULK AT MOST 1048576: true; the input reads as it did. -/
def searchFlatUptoRow : OpenClaim := { program := "ythldophikcgkcab", sum := "40d4473f69ebee73f092f26ae1ed385400822583d9d4c91a741b195a9e96c95e", func := "tarn/tarnlaw40.SearchFlat", spec := "searchFlat", inPlace := ["internal/abi.NoEscape", "internal/bytealg.MakeNoZero"], unfollowed := true, recurses := true, plainKeys := false, apart := false, narrowed := true }
def SearchFlatUptoSaid : Prop := searchFlatUptoRow.holds Try.pinned (OpenSpec.upto searchFlatSpec)

end Rows
end Go.Proofs.Ythldophikcgkcab
