-- Printed by wip/xprint of this session, over the kit's print: Lean functions for Go functions, and their contracts.
import Derived.Test.YtjjcfipnainpiabProg
import Derived.Below
import Derived.Deep.Draws
import Derived.Deep.AppendLies
import Derived.Maps.AppendAt
import Derived.OwnWalk
import Derived.Laws.BytesArg
import Derived.Laws.MakeOwn
import Derived.Laws.OwnMore
import Derived.Deep.OwnRows
import Derived.Tactics
import Derived.Lib.ConvBytes
import Derived.Laws.Slices
import Derived.WalkKit
import Derived.KernelRfl
import Derived.RowKit3
import Derived.Deep.LoopGhost
import Derived.Deep.QuietTactic
import Derived.BigQuiet
import Derived.WideLaws
import Derived.Deep.DeepCutAuto
import Derived.Deep.CutBlock
import Derived.Deep.RegionHeld3
import Derived.Laws.Rows
import Derived.Lib.AppendStr
import Derived.ArgAppend
import Derived.Laws.IdiomCopy
import Derived.OrdersHeld
import Derived.Laws.BitsLemmas
import Derived.RowKit
import Derived.Test.YtjjcfipnainpiabAid
import Derived.Test.YtjjcfipnainpiabOpen
import Derived.Test.YtjjcfipnainpiabNumBig
import Derived.Test.YtjjcfipnainpiabNumList
import Derived.Test.YtjjcfipnainpiabWWords
import Derived.Test.YtjjcfipnainpiabWLast
import Derived.Test.YtjjcfipnainpiabWTab
import Derived.Test.YtjjcfipnainpiabWFour
import Derived.Test.YtjjcfipnainpiabWQPut
import Derived.Test.YtjjcfipnainpiabWApart
import Derived.Test.YtjjcfipnainpiabWArr
import Derived.Test.YtjjcfipnainpiabWZeros
import Derived.Test.YtjjcfipnainpiabWFoot
import Derived.Test.YtjjcfipnainpiabWKept
import Derived.Test.YtjjcfipnainpiabWShare
import Derived.Test.YtjjcfipnainpiabWN
import Derived.Test.YtjjcfipnainpiabWFootNe
import Derived.Test.YtjjcfipnainpiabWAt
import Derived.Test.YtjjcfipnainpiabWEqStruct
import Derived.Test.YtjjcfipnainpiabWRepsOne
import Derived.Test.YtjjcfipnainpiabWInv
import Derived.Test.YtjjcfipnainpiabWInvWords
import Derived.Test.YtjjcfipnainpiabWGuard
import Derived.Test.YtjjcfipnainpiabWNEv
import Derived.Test.YtjjcfipnainpiabWMore
namespace Go.Proofs.Ytjjcfipnainpiab.PPuts
open Go.RowKit Go.Proofs.YtjjcfipnainpiabW.PrintWords Go.Proofs.YtjjcfipnainpiabW.PrintLast Go.Proofs.YtjjcfipnainpiabW.PrintMore Go.Proofs.Ytjjcfipnainpiab.X
attribute [local go_sem] max2_int min2_int max_two min_two max_three min_three max_four min_four   -- for this text's walks alone
set_option linter.unusedVariables false
set_option linter.unusedSimpArgs false



def errW : Option Int → Value
  | none => .nilIface
  | some c => .iface 0 (.int .i64 c)
theorem errW_none : errW none = .nilIface := rfl
theorem errW_some (c : Int) : errW (some c) = .iface 0 (.int .i64 c) := rfl

theorem info3 : (Try.prog.info? 3).map (fun i => (i.zero, i.size, i.bytes)) = some (some (.int .i64 0), 1, 8) := by kernel_rfl
-- the values' own types
/-! #### struct type 31 -/
structure S31 where
  f0 : Int
  f1 : Int
  f2 : Int
  f3 : (List Int)
  f4 : (List Int)
def z31 : S31 := ⟨(0 : Int), (0 : Int), (0 : Int), ([] : List Int), ([] : List Int)⟩
def k31 : Kd S31 := Kd.iso (Kd.pair (Kd.int .i64) (Kd.pair (Kd.int .i64) (Kd.pair (Kd.int .i64) (Kd.pair (Kd.slice 3 (Kd.int .i64)) (Kd.slice 3 (Kd.int .i64)))))) (fun x : S31 => (x.f0, x.f1, x.f2, x.f3, x.f4))
theorem k31_open {w : World} {x : S31} {cs : List Value} (h : k31.K w x cs) : ∃ A3 c3 A4 c4, cs = [.int .i64 x.f0, .int .i64 x.f1, .int .i64 x.f2, .slice A3 x.f3.length c3, .slice A4 x.f4.length c4] ∧ x.f3.length ≤ c3 ∧ (Kd.int .i64).C w A3 x.f3.length x.f3 ∧ x.f4.length ≤ c4 ∧ (Kd.int .i64).C w A4 x.f4.length x.f4 := by
  obtain ⟨_, _, rfl, rfl, ⟨_, _, rfl, rfl, ⟨_, _, rfl, rfl, ⟨_, _, rfl, ⟨A3, c3, rfl, l3, g3⟩, ⟨A4, c4, rfl, l4, g4⟩⟩⟩⟩⟩ := h
  exact ⟨A3, c3, A4, c4, rfl, l3, g3, l4, g4⟩
instance : Inhabited S31 := ⟨z31⟩
def Wf31 (x : S31) : Prop := ((Lit.int .i64 x.f0).wf = true) ∧ ((Lit.int .i64 x.f1).wf = true) ∧ ((Lit.int .i64 x.f2).wf = true) ∧ (x.f3.length ≤ 9223372036854775807 ∧ ∀ y ∈ x.f3, (Lit.int .i64 y).wf = true) ∧ (x.f4.length ≤ 9223372036854775807 ∧ ∀ y ∈ x.f4, (Lit.int .i64 y).wf = true)
theorem op31 : Opens Try.prog 31 k31 Wf31 :=
  (opens_iso (fun x : S31 => (x.f0, x.f1, x.f2, x.f3, x.f4)) (fun p => (⟨p.1, p.2.1, p.2.2.1, p.2.2.2.1, p.2.2.2.2⟩ : S31)) (fun _ => rfl) (opens_struct Try.underlying31 (by kernel_rfl) (opensF_cons (by kernel_rfl) (by kernel_rfl) (opens_int Try.underlying3) (opensF_cons (by kernel_rfl) (by kernel_rfl) (opens_int Try.underlying3) (opensF_cons (by kernel_rfl) (by kernel_rfl) (opens_int Try.underlying3) (opensF_cons (by kernel_rfl) (by kernel_rfl) (opens_slice Try.underlying29 (by kernel_rfl) (opens_int Try.underlying3)) (opensF_one (by kernel_rfl) (opens_slice Try.underlying29 (by kernel_rfl) (opens_int Try.underlying3))))))))).mono (fun _ h => h)
end Go.Proofs.Ytjjcfipnainpiab.PPuts
