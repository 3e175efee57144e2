-- Printed by wip/xprint of this session, over the kit's print: Lean functions for Go functions, and their contracts.
import Derived.Test.YtdlgdenigmnfiaaProg
import Derived.Below
import Derived.Deep.Draws
import Derived.Deep.AppendLies
import Derived.Maps.AppendAt
import Derived.OwnWalk
import Derived.Laws.BytesArg
import Derived.Laws.MakeOwn
import Derived.Laws.OwnMore
import Derived.Deep.OwnRows
import Derived.Tactics
import Derived.Lib.ConvBytes
import Derived.Laws.Slices
import Derived.WalkKit
import Derived.KernelRfl
import Derived.RowKit3
import Derived.Deep.LoopGhost
import Derived.Deep.QuietTactic
import Derived.BigQuiet
import Derived.WideLaws
import Derived.Deep.DeepCutAuto
import Derived.Deep.CutBlock
import Derived.Deep.RegionHeld3
import Derived.Laws.Rows
import Derived.Lib.AppendStr
import Derived.ArgAppend
import Derived.Laws.IdiomCopy
import Derived.OrdersHeld
import Derived.Laws.BitsLemmas
import Derived.RowKit
import Derived.Test.YtdlgdenigmnfiaaAid
import Derived.Test.YtdlgdenigmnfiaaOpen
import Derived.Test.YtdlgdenigmnfiaaWWords
import Derived.Test.YtdlgdenigmnfiaaWLast
import Derived.Test.YtdlgdenigmnfiaaWTab
import Derived.Test.YtdlgdenigmnfiaaWFour
import Derived.Test.YtdlgdenigmnfiaaWQPut
import Derived.Test.YtdlgdenigmnfiaaWApart
import Derived.Test.YtdlgdenigmnfiaaWArr
import Derived.Test.YtdlgdenigmnfiaaWZeros
import Derived.Test.YtdlgdenigmnfiaaWFoot
import Derived.Test.YtdlgdenigmnfiaaWKept
import Derived.Test.YtdlgdenigmnfiaaWShare
import Derived.Test.YtdlgdenigmnfiaaWN
import Derived.Test.YtdlgdenigmnfiaaWFootNe
import Derived.Test.YtdlgdenigmnfiaaWAt
import Derived.Test.YtdlgdenigmnfiaaWEqStruct
import Derived.Test.YtdlgdenigmnfiaaWRepsOne
import Derived.Test.YtdlgdenigmnfiaaWInv
import Derived.Test.YtdlgdenigmnfiaaWInvWords
import Derived.Test.YtdlgdenigmnfiaaWGuard
import Derived.Test.YtdlgdenigmnfiaaWNEv
import Derived.Test.YtdlgdenigmnfiaaWMore
namespace Go.Proofs.Ytdlgdenigmnfiaa.PLeadP
open Go.RowKit Go.Proofs.YtdlgdenigmnfiaaW.PrintWords Go.Proofs.YtdlgdenigmnfiaaW.PrintLast Go.Proofs.YtdlgdenigmnfiaaW.PrintMore Go.Proofs.Ytdlgdenigmnfiaa.X
attribute [local go_sem] max2_int min2_int max_two min_two max_three min_three max_four min_four   -- for this text's walks alone
set_option linter.unusedVariables false
set_option linter.unusedSimpArgs false



def errW : Option Int → Value
  | none => .nilIface
  | some c => .iface 0 (.int .i64 c)
theorem errW_none : errW none = .nilIface := rfl
theorem errW_some (c : Int) : errW (some c) = .iface 0 (.int .i64 c) := rfl

-- the values' own types
/-! #### struct type 27 -/
structure S27 where
  f0 : Int
  f1 : Int
  f2 : Bool
def z27 : S27 := ⟨(0 : Int), (0 : Int), false⟩
def k27 : Kd S27 := Kd.iso (Kd.pair (Kd.int .i64) (Kd.pair (Kd.int .i64) Kd.bool)) (fun x : S27 => (x.f0, x.f1, x.f2))
theorem k27_open {w : World} {x : S27} {cs : List Value} (h : k27.K w x cs) : cs = [.int .i64 x.f0, .int .i64 x.f1, .bool x.f2] := by
  obtain ⟨_, _, rfl, rfl, ⟨_, _, rfl, rfl, rfl⟩⟩ := h
  exact rfl
theorem k27_openM {w : World} {base : Nat} {ok : Nat → Prop} {x : S27} {cs : List Value} (h : k27.M w base ok x cs) : cs = [.int .i64 x.f0, .int .i64 x.f1, .bool x.f2] := by
  obtain ⟨_, _, rfl, rfl, ⟨_, _, rfl, rfl, rfl⟩⟩ := h
  exact rfl
theorem k27_mk (w : World) (x : S27)  : k27.K w x [.int .i64 x.f0, .int .i64 x.f1, .bool x.f2] := ⟨[.int .i64 x.f0], [.int .i64 x.f1, .bool x.f2], rfl, rfl, ⟨[.int .i64 x.f1], [.bool x.f2], rfl, rfl, rfl⟩⟩
theorem k27_mkM (w : World) (base : Nat) (ok : Nat → Prop) (x : S27)  : k27.M w base ok x [.int .i64 x.f0, .int .i64 x.f1, .bool x.f2] := ⟨[.int .i64 x.f0], [.int .i64 x.f1, .bool x.f2], rfl, rfl, ⟨[.int .i64 x.f1], [.bool x.f2], rfl, rfl, rfl⟩⟩
def rd_T27 (xs : List S27) (i : Int) : S27 := xs.getD i.toNat z27
theorem at_T27 {w : World} {A : Option Addr} {n : Nat} {xs : List S27} (h : Kd.C k27 w A n xs) (i : Int) (h0 : 0 ≤ i) (h1 : i < n) : ∃ ad , A = some ad ∧ w.cell? (ad.add (i.toNat * 3)) = some (.int .i64 (rd_T27 xs i).f0) ∧ w.cell? ⟨(ad.add (i.toNat * 3)).block, (ad.add (i.toNat * 3)).off + 1, none⟩ = some (.int .i64 (rd_T27 xs i).f1) ∧ w.cell? ⟨(ad.add (i.toNat * 3)).block, (ad.add (i.toNat * 3)).off + 2, none⟩ = some (.bool (rd_T27 xs i).f2) := by
  obtain ⟨ad, c, e, _, hK, hc0⟩ := Kd.C_get h z27 i h0 h1
  have hc : ∀ j u, c[j]? = some u → w.cell? (ad.add (i.toNat * 3 + j)) = some u := hc0
  obtain rfl := k27_open hK
  exact ⟨ad, e, hc 0 _ rfl, by rw [← add_field _ _ 1 (by omega)]; exact hc 1 _ rfl, by rw [← add_field _ _ 2 (by omega)]; exact hc 2 _ rfl⟩

instance : Inhabited S27 := ⟨z27⟩
def Wf27 (x : S27) : Prop := ((Lit.int .i64 x.f0).wf = true) ∧ ((Lit.int .i64 x.f1).wf = true) ∧ (True)
theorem op27 : Opens Try.prog 27 k27 Wf27 :=
  (opens_iso (fun x : S27 => (x.f0, x.f1, x.f2)) (fun p => (⟨p.1, p.2.1, p.2.2⟩ : S27)) (fun _ => rfl) (opens_struct Try.underlying27 (by kernel_rfl) (opensF_cons (by kernel_rfl) (by kernel_rfl) (opens_int Try.underlying3) (opensF_cons (by kernel_rfl) (by kernel_rfl) (opens_int Try.underlying3) (opensF_one (by kernel_rfl) (opens_bool Try.underlying4)))))).mono (fun _ h => h)
end Go.Proofs.Ytdlgdenigmnfiaa.PLeadP
