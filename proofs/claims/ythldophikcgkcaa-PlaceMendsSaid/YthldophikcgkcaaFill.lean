/- place.fill: others are put behind a list, until there are so many. -/
import Derived.Test.YthldophikcgkcaaKept
namespace Go.Proofs.Ythldophikcgkcaa.Y
set_option linter.unusedVariables false
set_option linter.unusedSimpArgs false
open Go.RowKit Go.Shelf Go.Proofs Go.Sort Go.IntWalk Go.Proofs.YthldophikcgkcaaW.PrintWords Go.Proofs.YthldophikcgkcaaW.PrintLast Go.Proofs.YthldophikcgkcaaW.PrintMore Go.Proofs.Ythldophikcgkcaa.X Go.Proofs.Ythldophikcgkcaa.PPlace

theorem C_get_int {w : World} {A : Option Addr} {n : Nat} {xs : List Int} (h : Kd.C X.KI w A n xs) (i : Nat) (hi : i < xs.length) : ∃ ad, A = some ad ∧ w.cell? (ad.add i) = some (.int .i64 xs[i]) := by
  have hn := h.1
  obtain ⟨ad, c, e, _, hK, hc0⟩ := Kd.C_get h 0 (i : Int) (by omega) (by omega)
  have hK' : c = [.int .i64 (xs.getD (i : Int).toNat 0)] := hK
  subst hK'
  have := hc0 0 _ rfl
  refine ⟨ad, e, ?_⟩
  rw [Int.toNat_natCast] at this
  have e1 : i * Kd.sz X.KI + 0 = i := by show i * 1 + 0 = i; omega
  have e2 : xs.getD i 0 = xs[i] := by rw [List.getD_eq_getElem?_getD, List.getElem?_eq_getElem hi]; rfl
  rw [e1, e2] at this
  exact this
def fillS (want : Nat) (l : List Int) (n : Int) : List Int := if l.length < want ∧ hasB n l = false then l ++ [n] else l
def fillP (want : Nat) (l order : List Int) : List Int := order.foldl (fillS want) l
theorem fillS_len (want : Nat) (l : List Int) (n : Int) : (fillS want l n).length ≤ l.length + 1 := by
  unfold fillS
  split
  · simp
  · omega
theorem fillP_len (want : Nat) (order : List Int) : ∀ l : List Int, (fillP want l order).length ≤ l.length + order.length := by
  induction order with
  | nil => intro l; exact Nat.le_refl _
  | cons n s ih =>
    intro l
    have h1 := ih (fillS want l n)
    have h2 := fillS_len want l n
    show (fillP want (fillS want l n) s).length ≤ l.length + (s.length + 1)
    omega
theorem fill_take (want : Nat) (l order : List Int) (k : Nat) (hk : k < order.length) : fillP want l (order.take (k + 1)) = fillS want (fillP want l (order.take k)) order[k] := by
  unfold fillP
  rw [List.take_add_one, List.getElem?_eq_getElem hk, List.foldl_append]
  rfl
set_option maxHeartbeats 8000000 in
set_option maxRecDepth 100000 in
theorem fill_n (w0 W : World) (v : Value) (l order : List Int) (want : Nat) (Ao : Option Addr) (co : Nat) (hR : Kd.R X.KI 3 W w0.heap.size (fun _ => True) v l) (hB : Below w0.heap.size w0 W) (hO : Kd.C X.KI w0 Ao order.length order) (ho : order.length ≤ 100) (hl : l.length ≤ 100) (hw : want ≤ 100) :
    Calls Try.prog 34 #[v, .int .i64 (want : Int), .slice Ao order.length co] W fun e w' => ∃ v', e = .returned v' ∧ Kd.R X.KI 3 w' w0.heap.size (fun _ => True) v' (fillP want l order) ∧ Below w0.heap.size w0 w' := by
  have H0 := Lib.hid (And.intro hR hB)
  have HO := Lib.hid hO
  clear hR hB hO
  go_enter Try.func34, Try.ntmps34
  go_wp2
  go_loopw [0, 11] (fun v0 v11 wr => ∃ k : Nat, k ≤ order.length ∧ v11 = .int .i64 (k : Int) ∧ Kd.R X.KI 3 wr w0.heap.size (fun _ => True) v0 (fillP want l (order.take k)) ∧ Below w0.heap.size w0 wr) (fun _ v => fun _ => order.length - (intOf v).toNat)
  case atStart => exact ⟨0, Nat.zero_le _, rfl, H0.out.1, H0.out.2⟩
  case round =>
    obtain ⟨k, hk, rfl, hRr, hBr⟩ := hrel
    clear H0
    by_cases c1 : (k : Int) < (order.length : Int)
    · have hkl : k < order.length := by omega
      have hst := fill_take want l order k hkl
      have hll : (fillP want l (order.take k)).length ≤ 200 := by
        have := fillP_len want (order.take k) l
        rw [List.length_take] at this
        omega
      obtain ⟨ad, rfl, k0⟩ := C_get_int (Kd.C_below HO.out hBr) k hkl
      have hk0 : (0 : Int) ≤ (k : Int) := by omega
      have s1 : wrap64 ((k : Int) + 1) = (k : Int) + 1 := wrap64_in _ ⟨by omega, by omega⟩
      generalize order[k] = x at hst k0
      generalize fillP want l (order.take k) = cl at hst hll hRr
      obtain ⟨A1, cp, rfl, hcp, hC⟩ := Kd.R_reads hRr
      have hcont := slices_Contains_int_int.calls 1000 A1 cp cl x (hasB x cl) wr hC hcp (contains_f x cl (by omega) 1000 (by omega))
      have HC := Lib.hid (And.intro hcont (And.intro hRr hBr))
      have HST := Lib.hid hst
      clear hcont hRr hBr hst hC hcp
      by_cases c2 : (cl.length : Int) < (want : Int)
      · go_wp2_with fail
        refine HC.out.1.mono ?_
        rintro e W1 ⟨rfl, hD⟩
        have hR1 := Kd.R_below HC.out.2.1 hD.below
        have hB1 := below_step HC.out.2.2 hD.below
        clear hD
        cases hh : hasB x cl with
        | true =>
          have hst : fillP want l (order.take (k + 1)) = cl := by rw [HST.out]; unfold fillS; rw [if_neg (by rw [hh]; intro h; exact absurd h.2 (by decide))]
          have HS := Lib.hid (And.intro hst (And.intro hR1 hB1))
          clear hst HST hR1 hB1
          go_wp2
          go_roundw
          case rel => exact ⟨k + 1, by omega, by go_num, by rw [HS.out.1]; exact HS.out.2.1, HS.out.2.2⟩
          case measure => simp [intOf]; omega
        | false =>
          have hst : fillP want l (order.take (k + 1)) = cl ++ [x] := by rw [HST.out]; unfold fillS; rw [if_pos ⟨by omega, hh⟩]
          have HS := Lib.hid (And.intro hst (And.intro hR1 hB1))
          clear hst HST hR1 hB1
          go_wp2_with ((with_reducible refine gate_builtin (b := .append) (xs := #[.tmp 25, .tmp 27]) rfl ?_); at_builtin; refine Kd.R_append_row (Value.int .i64) 0 (w0 := w0) w0.heap.size rfl (.tmp 25) (.tmp 27) 22 3 (.int .i64 0) 8 rfl Try.underlying22 infoI rfl (by decide) (.slice A1 cl.length cp) cl [x] (some ⟨W1.heap.size, 0, none⟩) 1 1 (fun _ => True) rfl rfl (fun _ _ => trivial) (Kd.R_alloc HS.out.2.1 _) (one_C W1 x) (below_alloc HS.out.2.2 _) (Nat.le_trans HS.out.2.2.size (by simp)) (by show (cl.length + 1) * 8 ≤ _; omega) ?_; intro v1 w1 HR1 HB1 _ _)
          go_roundw
          case rel => exact ⟨k + 1, by omega, by go_num, by rw [HS.out.1]; exact HR1, HB1⟩
          case measure => simp [intOf]; omega
      · have hst : fillP want l (order.take (k + 1)) = cl := by rw [HST.out]; unfold fillS; rw [if_neg (by omega)]
        have HS := Lib.hid hst
        clear hst HST
        go_wp2
        go_roundw
        case rel => exact ⟨k + 1, by omega, by go_num, by rw [HS.out]; exact HC.out.2.1, HC.out.2.2⟩
        case measure => simp [intOf]; omega
    · obtain rfl : k = order.length := by omega
      rw [List.take_length] at hRr
      have HR := Lib.hid (And.intro hRr hBr)
      clear hRr hBr
      go_wp2
      go_ret
      exact ⟨_, rfl, HR.out.1, HR.out.2⟩
end Go.Proofs.Ythldophikcgkcaa.Y
