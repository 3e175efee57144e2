/-
  No cell of these rows narrows 'for every input' (looked for: loops, veiled, ifaces, maps, wideKeys, modest, calm, conditions, laid).
  DERIVED. THE GIVEN ROWS OF THIS SEAT. 6 by the template 'for every input the law returns true; each argument reads behind the call as it read before'; 0 by the template 'total and deterministic' (their statements: YtdlgdenigmnfiaaTotals.lean).
  GIVEN WITH THE SEED: the statements are not yours to turn. If you find one false, say at which input.
  Laid BY PROGRAM, IN A SANDBOX (cutbox-rows.mjs): the forced cells as the released guide's own fill.sh prints them over the translation 8e540baba4605f8b… (all of the seat's roots in one cut). By AI agents, Wed Nov 11 2026. No macro, syntax, notation, axiom, sorry.
-/
import Derived.Test.YtdlgdenigmnfiaaChecked
import GoSem.Claim
import GoSem.ClaimJoined
import GoSem.ClaimMapViews
import Derived.JoinedTies
import Derived.KernelRfl
namespace Go.Proofs.Ytdlgdenigmnfiaa
/- THE CELL 'sum', in the pinned program and in every row, IS THE sha256 OF THE DUMP (.gsa) THAT YtdlgdenigmnfiaaProg.lean LOADS. Nothing in Lean hashes anything: it is a label: what it is worth is what the hold of that sum in a sandbox is worth. -/
noncomputable def Try.pinned : Pinned := { name := "ytdlgdenigmnfiaa", sum := "8e540baba4605f8b04d2d7ccb0e9889971b1828282efcf93d9bb408708a38075", checked := Try.checked }
namespace Rows
def none {H : Type} : Left H := { results := [], args := [] }

/-- 'tarnlaw18.LeadPlays': WHATEVER THE INPUT: true; the input reads as it did. -/
def leadPlaysSpec : ChangeSpec := { name := "leadPlays", fn := fun _ => fun
  | [d1, d2] => { results := [.lit (.bool true)], args := [d1, d2] }
  | _ => none }
def leadPlaysRow : OpenClaim := { program := "ytdlgdenigmnfiaa", sum := "8e540baba4605f8b04d2d7ccb0e9889971b1828282efcf93d9bb408708a38075", func := "tarn/tarnlaw18.LeadPlays", spec := "leadPlays", unfollowed := true, recurses := true, plainKeys := false, apart := false }
def LeadPlaysSaid : Prop := leadPlaysRow.holds Try.pinned (OpenSpec.ofChange leadPlaysSpec)

/-- ITS FALSE NEIGHBOUR: 'it returns false'. Refute it at one input. -/
def leadPlaysWrong : ChangeSpec := { name := "leadPlays", fn := fun _ => fun
  | [d1, d2] => { results := [.lit (.bool false)], args := [d1, d2] }
  | _ => none }
def LeadPlaysWrongFalsely : Prop := leadPlaysRow.holds Try.pinned (OpenSpec.ofChange leadPlaysWrong)

/-- 'tarnlaw18.LeadDecides': WHATEVER THE INPUT: true; the input reads as it did. -/
def leadDecidesSpec : ChangeSpec := { name := "leadDecides", fn := fun _ => fun
  | [d1, d2, d3] => { results := [.lit (.bool true)], args := [d1, d2, d3] }
  | _ => none }
def leadDecidesRow : OpenClaim := { program := "ytdlgdenigmnfiaa", sum := "8e540baba4605f8b04d2d7ccb0e9889971b1828282efcf93d9bb408708a38075", func := "tarn/tarnlaw18.LeadDecides", spec := "leadDecides", unfollowed := true, recurses := true, plainKeys := false, apart := false }
def LeadDecidesSaid : Prop := leadDecidesRow.holds Try.pinned (OpenSpec.ofChange leadDecidesSpec)

/-- ITS FALSE NEIGHBOUR: 'it returns false'. Refute it at one input. -/
def leadDecidesWrong : ChangeSpec := { name := "leadDecides", fn := fun _ => fun
  | [d1, d2, d3] => { results := [.lit (.bool false)], args := [d1, d2, d3] }
  | _ => none }
def LeadDecidesWrongFalsely : Prop := leadDecidesRow.holds Try.pinned (OpenSpec.ofChange leadDecidesWrong)

/-- 'tarnlaw40.SearchOrders': WHATEVER THE INPUT: true; the input reads as it did. -/
def searchOrdersSpec : ChangeSpec := { name := "searchOrders", fn := fun _ => fun
  | [d1, d2, d3] => { results := [.lit (.bool true)], args := [d1, d2, d3] }
  | _ => none }
def searchOrdersRow : OpenClaim := { program := "ytdlgdenigmnfiaa", sum := "8e540baba4605f8b04d2d7ccb0e9889971b1828282efcf93d9bb408708a38075", func := "tarn/tarnlaw40.SearchOrders", spec := "searchOrders", recurses := true, plainKeys := false, apart := false }
def SearchOrdersSaid : Prop := searchOrdersRow.holds Try.pinned (OpenSpec.ofChange searchOrdersSpec)

/-- ITS FALSE NEIGHBOUR: 'it returns false'. Refute it at one input. -/
def searchOrdersWrong : ChangeSpec := { name := "searchOrders", fn := fun _ => fun
  | [d1, d2, d3] => { results := [.lit (.bool false)], args := [d1, d2, d3] }
  | _ => none }
def SearchOrdersWrongFalsely : Prop := searchOrdersRow.holds Try.pinned (OpenSpec.ofChange searchOrdersWrong)

/-- 'tarnlaw40.SearchMore': WHATEVER THE INPUT: true; the input reads as it did. -/
def searchMoreSpec : ChangeSpec := { name := "searchMore", fn := fun _ => fun
  | [d1, d2, d3] => { results := [.lit (.bool true)], args := [d1, d2, d3] }
  | _ => none }
def searchMoreRow : OpenClaim := { program := "ytdlgdenigmnfiaa", sum := "8e540baba4605f8b04d2d7ccb0e9889971b1828282efcf93d9bb408708a38075", func := "tarn/tarnlaw40.SearchMore", spec := "searchMore", recurses := true, plainKeys := false, apart := false }
def SearchMoreSaid : Prop := searchMoreRow.holds Try.pinned (OpenSpec.ofChange searchMoreSpec)

/-- ITS FALSE NEIGHBOUR: 'it returns false'. Refute it at one input. -/
def searchMoreWrong : ChangeSpec := { name := "searchMore", fn := fun _ => fun
  | [d1, d2, d3] => { results := [.lit (.bool false)], args := [d1, d2, d3] }
  | _ => none }
def SearchMoreWrongFalsely : Prop := searchMoreRow.holds Try.pinned (OpenSpec.ofChange searchMoreWrong)

/-- 'tarnlaw40.SearchFlat': WHATEVER THE INPUT: true; the input reads as it did. -/
def searchFlatSpec : ChangeSpec := { name := "searchFlat", fn := fun _ => fun
  | [d] => { results := [.lit (.bool true)], args := [d] }
  | _ => none }
def searchFlatRow : OpenClaim := { program := "ytdlgdenigmnfiaa", sum := "8e540baba4605f8b04d2d7ccb0e9889971b1828282efcf93d9bb408708a38075", func := "tarn/tarnlaw40.SearchFlat", spec := "searchFlat", inPlace := ["internal/abi.NoEscape", "internal/bytealg.MakeNoZero"], unfollowed := true, recurses := true, plainKeys := false, apart := false }
def SearchFlatSaid : Prop := searchFlatRow.holds Try.pinned (OpenSpec.ofChange searchFlatSpec)

/-- ITS FALSE NEIGHBOUR: 'it returns false'. Refute it at one input. -/
def searchFlatWrong : ChangeSpec := { name := "searchFlat", fn := fun _ => fun
  | [d] => { results := [.lit (.bool false)], args := [d] }
  | _ => none }
def SearchFlatWrongFalsely : Prop := searchFlatRow.holds Try.pinned (OpenSpec.ofChange searchFlatWrong)

/-- 'tarnlaw34.ClientPlays': WHATEVER THE INPUT: true; the input reads as it did. -/
def clientPlaysSpec : ChangeSpec := { name := "clientPlays", fn := fun _ => fun
  | [d] => { results := [.lit (.bool true)], args := [d] }
  | _ => none }
def clientPlaysRow : OpenClaim := { program := "ytdlgdenigmnfiaa", sum := "8e540baba4605f8b04d2d7ccb0e9889971b1828282efcf93d9bb408708a38075", func := "tarn/tarnlaw34.ClientPlays", spec := "clientPlays", unfollowed := true, recurses := true, plainKeys := false, apart := false }
def ClientPlaysSaid : Prop := clientPlaysRow.holds Try.pinned (OpenSpec.ofChange clientPlaysSpec)

/-- ITS FALSE NEIGHBOUR: 'it returns false'. Refute it at one input. -/
def clientPlaysWrong : ChangeSpec := { name := "clientPlays", fn := fun _ => fun
  | [d] => { results := [.lit (.bool false)], args := [d] }
  | _ => none }
def ClientPlaysWrongFalsely : Prop := clientPlaysRow.holds Try.pinned (OpenSpec.ofChange clientPlaysWrong)

/- THE SECOND FORM. 'bulk': how many values and letters a reading holds, each counted each time it is reached (what is shared counts as often as it is met; a slice's spare places count too). A statement '..UptoSaid' is the law's where the arguments, and the package variables that the reading takes, are together of bulk at most 1048576: NARROWER than '..Said'. Prove '..Said' where nothing that the law and all that it calls make is longer than what came in: it says more and counts as full. Else prove '..UptoSaid'. A law counts once. -/
mutual
def uptoBulk {H : Type} : DataW H → Nat
  | .lit (.string bytes) => bytes.length + 1
  | .lit _ => 1
  | .nil => 1
  | .ptr d => uptoBulk d + 1
  | .slice elems spare => uptoBulkAll elems + uptoBulkAll spare + 1
  | .agg parts => uptoBulkAll parts + 1
  | .iface _ d => uptoBulk d + 1
  | .map entries => uptoBulkEntries entries + 1
  | .held _ => 1
def uptoBulkAll {H : Type} : List (DataW H) → Nat
  | [] => 0
  | d :: r => uptoBulk d + uptoBulkAll r
def uptoBulkEntries {H : Type} : List (Lit × DataW H) → Nat
  | [] => 0
  | x :: r => uptoBulkEntry x + uptoBulkEntries r
def uptoBulkEntry {H : Type} : Lit × DataW H → Nat
  | (.string bytes, d) => bytes.length + uptoBulk d + 1
  | (_, d) => uptoBulk d + 1
 end
def uptoSmall : (H : Type) → List (DataW H) → Bool := fun _ ds => decide (uptoBulkAll ds ≤ 1048576)
def OpenSpec.upto (s : _root_.Go.ChangeSpec) : _root_.Go.OpenSpec := { _root_.Go.OpenSpec.ofChange s with cond := some uptoSmall }

/-- 'tarnlaw18.LeadPlays', WHERE WHAT IT READS IS OF BULK AT MOST 1048576: true; the input reads as it did. -/
def leadPlaysUptoRow : OpenClaim := { program := "ytdlgdenigmnfiaa", sum := "8e540baba4605f8b04d2d7ccb0e9889971b1828282efcf93d9bb408708a38075", func := "tarn/tarnlaw18.LeadPlays", spec := "leadPlays", unfollowed := true, recurses := true, plainKeys := false, apart := false, narrowed := true }
def LeadPlaysUptoSaid : Prop := leadPlaysUptoRow.holds Try.pinned (OpenSpec.upto leadPlaysSpec)

/-- 'tarnlaw18.LeadDecides', WHERE WHAT IT READS IS OF BULK AT MOST 1048576: true; the input reads as it did. -/
def leadDecidesUptoRow : OpenClaim := { program := "ytdlgdenigmnfiaa", sum := "8e540baba4605f8b04d2d7ccb0e9889971b1828282efcf93d9bb408708a38075", func := "tarn/tarnlaw18.LeadDecides", spec := "leadDecides", unfollowed := true, recurses := true, plainKeys := false, apart := false, narrowed := true }
def LeadDecidesUptoSaid : Prop := leadDecidesUptoRow.holds Try.pinned (OpenSpec.upto leadDecidesSpec)

/-- 'tarnlaw40.SearchOrders', WHERE WHAT IT READS IS OF BULK AT MOST 1048576: true; the input reads as it did. -/
def searchOrdersUptoRow : OpenClaim := { program := "ytdlgdenigmnfiaa", sum := "8e540baba4605f8b04d2d7ccb0e9889971b1828282efcf93d9bb408708a38075", func := "tarn/tarnlaw40.SearchOrders", spec := "searchOrders", recurses := true, plainKeys := false, apart := false, narrowed := true }
def SearchOrdersUptoSaid : Prop := searchOrdersUptoRow.holds Try.pinned (OpenSpec.upto searchOrdersSpec)

/-- 'tarnlaw40.SearchMore', WHERE WHAT IT READS IS OF BULK AT MOST 1048576: true; the input reads as it did. -/
def searchMoreUptoRow : OpenClaim := { program := "ytdlgdenigmnfiaa", sum := "8e540baba4605f8b04d2d7ccb0e9889971b1828282efcf93d9bb408708a38075", func := "tarn/tarnlaw40.SearchMore", spec := "searchMore", recurses := true, plainKeys := false, apart := false, narrowed := true }
def SearchMoreUptoSaid : Prop := searchMoreUptoRow.holds Try.pinned (OpenSpec.upto searchMoreSpec)

/-- 'tarnlaw40.SearchFlat', WHERE WHAT IT READS IS OF BULK AT MOST 1048576: true; the input reads as it did. -/
def searchFlatUptoRow : OpenClaim := { program := "ytdlgdenigmnfiaa", sum := "8e540baba4605f8b04d2d7ccb0e9889971b1828282efcf93d9bb408708a38075", func := "tarn/tarnlaw40.SearchFlat", spec := "searchFlat", inPlace := ["internal/abi.NoEscape", "internal/bytealg.MakeNoZero"], unfollowed := true, recurses := true, plainKeys := false, apart := false, narrowed := true }
def SearchFlatUptoSaid : Prop := searchFlatUptoRow.holds Try.pinned (OpenSpec.upto searchFlatSpec)

/-- 'tarnlaw34.ClientPlays', WHERE WHAT IT READS IS OF BULK AT MOST 1048576: true; the input reads as it did. -/
def clientPlaysUptoRow : OpenClaim := { program := "ytdlgdenigmnfiaa", sum := "8e540baba4605f8b04d2d7ccb0e9889971b1828282efcf93d9bb408708a38075", func := "tarn/tarnlaw34.ClientPlays", spec := "clientPlays", unfollowed := true, recurses := true, plainKeys := false, apart := false, narrowed := true }
def ClientPlaysUptoSaid : Prop := clientPlaysUptoRow.holds Try.pinned (OpenSpec.upto clientPlaysSpec)

end Rows
end Go.Proofs.Ytdlgdenigmnfiaa
