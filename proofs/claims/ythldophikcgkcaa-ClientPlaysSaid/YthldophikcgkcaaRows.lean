/-
  No cell of these rows narrows 'for every input' (looked for: loops, veiled, ifaces, maps, wideKeys, modest, calm, conditions, laid).
  DERIVED. THE GIVEN ROWS OF THIS SEAT. 6 by the template 'for every input the law returns true; each argument reads behind the call as it read before'; 0 by the template 'total and deterministic' (their statements: YthldophikcgkcaaTotals.lean).
  GIVEN WITH THE SEED: the statements are not yours to turn. If you find one false, say at which input.
  Laid BY PROGRAM, IN A SANDBOX (cutbox-rows.mjs): the forced cells as the released guide's own fill.sh prints them over the translation 61146579b1ff1784… (all of the seat's roots in one cut). By AI agents, Wed Nov 11 2026. No macro, syntax, notation, axiom, sorry.
-/
import Derived.Test.YthldophikcgkcaaChecked
import GoSem.Claim
import GoSem.ClaimJoined
import GoSem.ClaimMapViews
import Derived.JoinedTies
import Derived.KernelRfl
namespace Go.Proofs.Ythldophikcgkcaa
/- THE CELL 'sum', in the pinned program and in every row, IS THE sha256 OF THE DUMP (.gsa) THAT YthldophikcgkcaaProg.lean LOADS. Nothing in Lean hashes anything: it is a label: what it is worth is what the hold of that sum in a sandbox is worth. -/
noncomputable def Try.pinned : Pinned := { name := "ythldophikcgkcaa", sum := "61146579b1ff17849f924c94aa4b84789116dac942b812bd198b2985a132d337", checked := Try.checked }
namespace Rows
def none {H : Type} : Left H := { results := [], args := [] }

/-- 'tarnlaw41.PlaceMends': WHATEVER THE INPUT: true; the input reads as it did. -/
def placeMendsSpec : ChangeSpec := { name := "placeMends", fn := fun _ => fun
  | [d1, d2] => { results := [.lit (.bool true)], args := [d1, d2] }
  | _ => none }
def placeMendsRow : OpenClaim := { program := "ythldophikcgkcaa", sum := "61146579b1ff17849f924c94aa4b84789116dac942b812bd198b2985a132d337", func := "tarn/tarnlaw41.PlaceMends", spec := "placeMends", unfollowed := true, recurses := true, plainKeys := false, apart := false }
def PlaceMendsSaid : Prop := placeMendsRow.holds Try.pinned (OpenSpec.ofChange placeMendsSpec)

/-- ITS FALSE NEIGHBOUR: 'it returns false'. Refute it at one input. -/
def placeMendsWrong : ChangeSpec := { name := "placeMends", fn := fun _ => fun
  | [d1, d2] => { results := [.lit (.bool false)], args := [d1, d2] }
  | _ => none }
def PlaceMendsWrongFalsely : Prop := placeMendsRow.holds Try.pinned (OpenSpec.ofChange placeMendsWrong)

/-- 'tarnlaw40.SearchOrders': WHATEVER THE INPUT: true; the input reads as it did. -/
def searchOrdersSpec : ChangeSpec := { name := "searchOrders", fn := fun _ => fun
  | [d1, d2, d3] => { results := [.lit (.bool true)], args := [d1, d2, d3] }
  | _ => none }
def searchOrdersRow : OpenClaim := { program := "ythldophikcgkcaa", sum := "61146579b1ff17849f924c94aa4b84789116dac942b812bd198b2985a132d337", func := "tarn/tarnlaw40.SearchOrders", spec := "searchOrders", recurses := true, plainKeys := false, apart := false }
def SearchOrdersSaid : Prop := searchOrdersRow.holds Try.pinned (OpenSpec.ofChange searchOrdersSpec)

/-- ITS FALSE NEIGHBOUR: 'it returns false'. Refute it at one input. -/
def searchOrdersWrong : ChangeSpec := { name := "searchOrders", fn := fun _ => fun
  | [d1, d2, d3] => { results := [.lit (.bool false)], args := [d1, d2, d3] }
  | _ => none }
def SearchOrdersWrongFalsely : Prop := searchOrdersRow.holds Try.pinned (OpenSpec.ofChange searchOrdersWrong)

/-- 'tarnlaw40.SearchMore': WHATEVER THE INPUT: true; the input reads as it did. -/
def searchMoreSpec : ChangeSpec := { name := "searchMore", fn := fun _ => fun
  | [d1, d2, d3] => { results := [.lit (.bool true)], args := [d1, d2, d3] }
  | _ => none }
def searchMoreRow : OpenClaim := { program := "ythldophikcgkcaa", sum := "61146579b1ff17849f924c94aa4b84789116dac942b812bd198b2985a132d337", func := "tarn/tarnlaw40.SearchMore", spec := "searchMore", recurses := true, plainKeys := false, apart := false }
def SearchMoreSaid : Prop := searchMoreRow.holds Try.pinned (OpenSpec.ofChange searchMoreSpec)

/-- ITS FALSE NEIGHBOUR: 'it returns false'. Refute it at one input. -/
def searchMoreWrong : ChangeSpec := { name := "searchMore", fn := fun _ => fun
  | [d1, d2, d3] => { results := [.lit (.bool false)], args := [d1, d2, d3] }
  | _ => none }
def SearchMoreWrongFalsely : Prop := searchMoreRow.holds Try.pinned (OpenSpec.ofChange searchMoreWrong)

/-- 'tarnlaw42.SchedActs': WHATEVER THE INPUT: true; the input reads as it did. -/
def schedActsSpec : ChangeSpec := { name := "schedActs", fn := fun _ => fun
  | [d1, d2, d3] => { results := [.lit (.bool true)], args := [d1, d2, d3] }
  | _ => none }
def schedActsRow : OpenClaim := { program := "ythldophikcgkcaa", sum := "61146579b1ff17849f924c94aa4b84789116dac942b812bd198b2985a132d337", func := "tarn/tarnlaw42.SchedActs", spec := "schedActs", plainKeys := false, apart := false }
def SchedActsSaid : Prop := schedActsRow.holds Try.pinned (OpenSpec.ofChange schedActsSpec)

/-- ITS FALSE NEIGHBOUR: 'it returns false'. Refute it at one input. -/
def schedActsWrong : ChangeSpec := { name := "schedActs", fn := fun _ => fun
  | [d1, d2, d3] => { results := [.lit (.bool false)], args := [d1, d2, d3] }
  | _ => none }
def SchedActsWrongFalsely : Prop := schedActsRow.holds Try.pinned (OpenSpec.ofChange schedActsWrong)

/-- 'tarnlaw34.ClientPlays': WHATEVER THE INPUT: true; the input reads as it did. -/
def clientPlaysSpec : ChangeSpec := { name := "clientPlays", fn := fun _ => fun
  | [d] => { results := [.lit (.bool true)], args := [d] }
  | _ => none }
def clientPlaysRow : OpenClaim := { program := "ythldophikcgkcaa", sum := "61146579b1ff17849f924c94aa4b84789116dac942b812bd198b2985a132d337", func := "tarn/tarnlaw34.ClientPlays", spec := "clientPlays", unfollowed := true, recurses := true, plainKeys := false, apart := false }
def ClientPlaysSaid : Prop := clientPlaysRow.holds Try.pinned (OpenSpec.ofChange clientPlaysSpec)

/-- ITS FALSE NEIGHBOUR: 'it returns false'. Refute it at one input. -/
def clientPlaysWrong : ChangeSpec := { name := "clientPlays", fn := fun _ => fun
  | [d] => { results := [.lit (.bool false)], args := [d] }
  | _ => none }
def ClientPlaysWrongFalsely : Prop := clientPlaysRow.holds Try.pinned (OpenSpec.ofChange clientPlaysWrong)

/-- 'tarnlaw34.ClientMost': WHATEVER THE INPUT: true; the input reads as it did. -/
def clientMostSpec : ChangeSpec := { name := "clientMost", fn := fun _ => fun
  | [d] => { results := [.lit (.bool true)], args := [d] }
  | _ => none }
def clientMostRow : OpenClaim := { program := "ythldophikcgkcaa", sum := "61146579b1ff17849f924c94aa4b84789116dac942b812bd198b2985a132d337", func := "tarn/tarnlaw34.ClientMost", spec := "clientMost", unfollowed := true, recurses := true, plainKeys := false, apart := false }
def ClientMostSaid : Prop := clientMostRow.holds Try.pinned (OpenSpec.ofChange clientMostSpec)

/-- ITS FALSE NEIGHBOUR: 'it returns false'. Refute it at one input. -/
def clientMostWrong : ChangeSpec := { name := "clientMost", fn := fun _ => fun
  | [d] => { results := [.lit (.bool false)], args := [d] }
  | _ => none }
def ClientMostWrongFalsely : Prop := clientMostRow.holds Try.pinned (OpenSpec.ofChange clientMostWrong)

/- THE SECOND FORM. 'bulk': how many values and letters a reading holds, each counted each time it is reached (what is shared counts as often as it is met; a slice's spare places count too). A statement '..UptoSaid' is the law's where the arguments, and the package variables that the reading takes, are together of bulk at most 1048576: NARROWER than '..Said'. Prove '..Said' where nothing that the law and all that it calls make is longer than what came in: it says more and counts as full. Else prove '..UptoSaid'. A law counts once. -/
mutual
def uptoBulk {H : Type} : DataW H → Nat
  | .lit (.string bytes) => bytes.length + 1
  | .lit _ => 1
  | .nil => 1
  | .ptr d => uptoBulk d + 1
  | .slice elems spare => uptoBulkAll elems + uptoBulkAll spare + 1
  | .agg parts => uptoBulkAll parts + 1
  | .iface _ d => uptoBulk d + 1
  | .map entries => uptoBulkEntries entries + 1
  | .held _ => 1
def uptoBulkAll {H : Type} : List (DataW H) → Nat
  | [] => 0
  | d :: r => uptoBulk d + uptoBulkAll r
def uptoBulkEntries {H : Type} : List (Lit × DataW H) → Nat
  | [] => 0
  | x :: r => uptoBulkEntry x + uptoBulkEntries r
def uptoBulkEntry {H : Type} : Lit × DataW H → Nat
  | (.string bytes, d) => bytes.length + uptoBulk d + 1
  | (_, d) => uptoBulk d + 1
 end
def uptoSmall : (H : Type) → List (DataW H) → Bool := fun _ ds => decide (uptoBulkAll ds ≤ 1048576)
def OpenSpec.upto (s : _root_.Go.ChangeSpec) : _root_.Go.OpenSpec := { _root_.Go.OpenSpec.ofChange s with cond := some uptoSmall }

/-- 'tarnlaw41.PlaceMends', WHERE WHAT IT READS IS OF BULK AT MOST 1048576: true; the input reads as it did. -/
def placeMendsUptoRow : OpenClaim := { program := "ythldophikcgkcaa", sum := "61146579b1ff17849f924c94aa4b84789116dac942b812bd198b2985a132d337", func := "tarn/tarnlaw41.PlaceMends", spec := "placeMends", unfollowed := true, recurses := true, plainKeys := false, apart := false, narrowed := true }
def PlaceMendsUptoSaid : Prop := placeMendsUptoRow.holds Try.pinned (OpenSpec.upto placeMendsSpec)

/-- 'tarnlaw40.SearchOrders', WHERE WHAT IT READS IS OF BULK AT MOST 1048576: true; the input reads as it did. -/
def searchOrdersUptoRow : OpenClaim := { program := "ythldophikcgkcaa", sum := "61146579b1ff17849f924c94aa4b84789116dac942b812bd198b2985a132d337", func := "tarn/tarnlaw40.SearchOrders", spec := "searchOrders", recurses := true, plainKeys := false, apart := false, narrowed := true }
def SearchOrdersUptoSaid : Prop := searchOrdersUptoRow.holds Try.pinned (OpenSpec.upto searchOrdersSpec)

/-- 'tarnlaw40.SearchMore', WHERE WHAT IT READS IS OF BULK AT MOST 1048576: true; the input reads as it did. -/
def searchMoreUptoRow : OpenClaim := { program := "ythldophikcgkcaa", sum := "61146579b1ff17849f924c94aa4b84789116dac942b812bd198b2985a132d337", func := "tarn/tarnlaw40.SearchMore", spec := "searchMore", recurses := true, plainKeys := false, apart := false, narrowed := true }
def SearchMoreUptoSaid : Prop := searchMoreUptoRow.holds Try.pinned (OpenSpec.upto searchMoreSpec)

/-- 'tarnlaw42.SchedActs', WHERE WHAT IT READS IS OF BULK AT MOST 1048576: true; the input reads as it did. -/
def schedActsUptoRow : OpenClaim := { program := "ythldophikcgkcaa", sum := "61146579b1ff17849f924c94aa4b84789116dac942b812bd198b2985a132d337", func := "tarn/tarnlaw42.SchedActs", spec := "schedActs", plainKeys := false, apart := false, narrowed := true }
def SchedActsUptoSaid : Prop := schedActsUptoRow.holds Try.pinned (OpenSpec.upto schedActsSpec)

/-- 'tarnlaw34.ClientPlays', WHERE WHAT IT READS IS OF BULK AT MOST 1048576: true; the input reads as it did. -/
def clientPlaysUptoRow : OpenClaim := { program := "ythldophikcgkcaa", sum := "61146579b1ff17849f924c94aa4b84789116dac942b812bd198b2985a132d337", func := "tarn/tarnlaw34.ClientPlays", spec := "clientPlays", unfollowed := true, recurses := true, plainKeys := false, apart := false, narrowed := true }
def ClientPlaysUptoSaid : Prop := clientPlaysUptoRow.holds Try.pinned (OpenSpec.upto clientPlaysSpec)

/-- 'tarnlaw34.ClientMost', WHERE WHAT IT READS IS OF BULK AT MOST 1048576: true; the input reads as it did. -/
def clientMostUptoRow : OpenClaim := { program := "ythldophikcgkcaa", sum := "61146579b1ff17849f924c94aa4b84789116dac942b812bd198b2985a132d337", func := "tarn/tarnlaw34.ClientMost", spec := "clientMost", unfollowed := true, recurses := true, plainKeys := false, apart := false, narrowed := true }
def ClientMostUptoSaid : Prop := clientMostUptoRow.holds Try.pinned (OpenSpec.upto clientMostSpec)

end Rows
end Go.Proofs.Ythldophikcgkcaa
