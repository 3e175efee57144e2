/- tarnlaw34.ClientMost: the law's walk. -/
import Derived.Test.YthldophikcgkcaaClientAwake
import Derived.Test.YthldophikcgkcaaNum
namespace Go.Proofs.Ythldophikcgkcaa.Y
set_option linter.unusedVariables false
set_option linter.unusedSimpArgs false
open Go.RowKit Go.Shelf Go.Proofs Go.Maps Go.IntWalk Go.Proofs.YthldophikcgkcaaW.PrintWords Go.Proofs.YthldophikcgkcaaW.PrintLast Go.Proofs.YthldophikcgkcaaW.PrintMore Go.Proofs.Ythldophikcgkcaa.X

theorem and_1023 (n : Int) : 0 ≤ Go.bits .and .i64 n 1023 ∧ Go.bits .and .i64 n 1023 ≤ 1023 := by
  have hm : (BitVec.ofInt 64 1023).toNat = 2 ^ 10 - 1 := by decide
  have key : (BitVec.ofInt 64 n &&& BitVec.ofInt 64 1023).toNat = (n % ((2 ^ 64 : Nat) : Int)).toNat % 2 ^ 10 := by
    rw [BitVec.toNat_and, BitVec.toNat_ofInt, hm, Nat.and_two_pow_sub_one_eq_mod]
  have h : Go.bits .and .i64 n 1023 = n % 1024 := by
    show IntKind.i64.wrap ((BitVec.ofInt 64 n &&& BitVec.ofInt 64 1023).toNat : Nat) = n % 1024
    rw [key, IntKind.wrap_i64]
    omega
  rw [h]
  omega
theorem most_len {L : List Int} {i : Int} (hi : 1 ≤ i ∧ i ≤ 2000) (hn : L.Nodup) (h : ∀ x, x ∈ L ↔ (1 ≤ x ∧ x ≤ 2000) ∧ x ≠ i) : L.length = 1999 := by
  have ho : ((List.range 2000).map fun k : Nat => (k : Int) + 1).Nodup := by
    rw [List.Nodup, List.pairwise_map]
    exact List.nodup_range.imp (fun h e => h (by omega))
  have hm : ∀ x : Int, x ∈ ((List.range 2000).map fun k : Nat => (k : Int) + 1) ↔ 1 ≤ x ∧ x ≤ 2000 := fun x => by
    rw [List.mem_map]
    constructor
    · rintro ⟨k, hk, rfl⟩
      rw [List.mem_range] at hk
      omega
    · intro hx
      exact ⟨(x - 1).toNat, by rw [List.mem_range]; omega, by omega⟩
  have hle : (((List.range 2000).map fun k : Nat => (k : Int) + 1).erase i).length = 1999 := by
    rw [List.length_erase_of_mem ((hm i).2 hi), List.length_map, List.length_range]
  generalize ((List.range 2000).map fun k : Nat => (k : Int) + 1) = M at *
  have h1 := sub_len2 (l := L) (o := M.erase i) hn (fun x hx => by
    have := (h x).1 hx
    exact (List.mem_erase_of_ne this.2).2 ((hm x).2 this.1))
  have h2 := sub_len2 (l := M.erase i) (o := L) (ho.erase i) (fun x hx => by
    have := (ho.mem_erase_iff).1 hx
    exact (h x).2 ⟨(hm x).1 this.2, this.1⟩)
  omega
theorem rising_nodup {L : List Int} (h : L.Pairwise (· < ·)) : L.Nodup := h.imp fun h => by omega
set_option maxHeartbeats 8000000 in
set_option maxRecDepth 100000 in
theorem walk_most (n : Int) (w : World) : Calls Try.prog 8 #[.int .i64 n] w fun e w' => e = .returned (.bool true) ∧ Below w.heap.size w w' := by
  have hu68 := Try.underlying68
  have hand := and_1023 n
  generalize hid : Go.bits .and .i64 n 1023 = m at hand
  have sm : wrap64 (m + 1) = m + 1 := wrap64_in _ ⟨by omega, by omega⟩
  go_enter Try.func8, Try.ntmps8
  go_wp2_with fail
  refine (hnew_n _).mono ?_
  rintro e1 W1 ⟨F1, gh, bm, rfl, h1, h2, h3⟩
  have C1 := Lib.hid (CW.start h1 h2 h3)
  clear h1 h2 h3
  go_wp2
  go_loopw [4] (fun v4 wr => ∃ k : Nat, k ≤ 2000 ∧ v4 = .int .i64 (k : Int) ∧ ∃ F v evs op, CW w wr F gh bm v evs op (k : Int) ∧ evs.length = k ∧ ∀ x, op x ↔ 1 ≤ x ∧ x ≤ (k : Int)) (fun v => fun _ => 2000 - (intOf v).toNat)
  case atStart => exact ⟨0, by omega, rfl, F1, _, _, _, C1.out, rfl, fun x => ⟨fun h => h.elim, fun h => by omega⟩⟩
  case round =>
    obtain ⟨k, hk, rfl, F, v, evs, op, hC, hel, hop⟩ := hrel
    clear C1
    have HK := Lib.hid (And.intro hC (And.intro hel hop))
    clear hC hel hop
    by_cases c1 : (k : Int) < 2000
    · have s1 : wrap64 ((k : Int) + 1) = (k : Int) + 1 := wrap64_in _ ⟨by omega, by omega⟩
      go_wp2_with fail
      refine (ask_n _ _ _ _ _ _ _ _ 5 ⟨0, 0, 0, ⟨#[]⟩, false⟩ HK.out.1.hi (by have := HK.out.2.1; omega) (by omega) (by omega) (fun x hx => ((HK.out.2.2 x).1 hx).2)).mono ?_
      rintro e2 W2 ⟨F2, v2, rfl, h1, h2, h3⟩
      have C2 := Lib.hid (HK.out.1.step h1 h2 h3)
      clear h1 h2 h3
      go_wp2_with fail
      go_roundw
      case rel =>
        have hk1 : (k : Int) + 1 = ((k + 1 : Nat) : Int) := by omega
        have HC := C2.out
        rw [hk1] at HC
        exact ⟨k + 1, by omega, by simp, F2, v2, _, _, HC, by rw [List.length_append, HK.out.2.1]; rfl, fun x => by
          show op x ∨ x = ((k + 1 : Nat) : Int) ↔ _
          rw [HK.out.2.2 x]
          omega⟩
      case measure => simp [intOf]; omega
    · have hk2 : k = 2000 := by omega
      subst hk2
      have HT := Lib.hid (tell_yes _ _ _ _ _ _ _ _ 5 (m + 1) 0 ⟨#[]⟩ HK.out.1.hi (by have := HK.out.2.1; omega) ⟨by omega, by omega⟩ ((HK.out.2.2 _).2 (by omega)))
      go_wp2_with fail
      refine HT.out.mono ?_
      rintro e3 W3 ⟨F3, v3, rfl, h1, h2, h3⟩
      have C3 := Lib.hid (And.intro (HK.out.1.step h1 h2 h3) (And.intro HK.out.2.1 HK.out.2.2))
      clear h1 h2 h3 HK HT
      go_wp2_with fail
      refine (find_nil W3 n).mono ?_
      rintro e4 W4 ⟨rfl, hb⟩
      have C4 := Lib.hid (And.intro (C3.out.1.below hb) C3.out.2)
      clear hb C3
      go_wp2_with fail
      refine (awake_n _).mono ?_
      rintro e5 W5 ⟨rfl, hb⟩
      have C5 := Lib.hid (And.intro (C4.out.1.below (below_step (below_alloc (Below.refl _ _) _) hb)) C4.out.2)
      clear hb C4
      go_wp2_with fail
      refine (ask_full W5 _ _ _ _ _ _ _ 5 ⟨0, 0, 0, ⟨#[]⟩, false⟩ C5.out.1.hi (by rw [List.length_append, C5.out.2.1]; simp)).mono ?_
      rintro e6 W6 ⟨rfl, hb⟩
      have C6 := Lib.hid (And.intro (C5.out.1.below hb) C5.out.2)
      clear hb C5
      go_wp2_with fail
      have hlen : (evs ++ [(⟨true, m + 1, 5, ⟨0, 0, 0, ⟨#[]⟩, false⟩, 0, ⟨#[]⟩⟩ : EvV)]).length = 2001 := by rw [List.length_append, C6.out.2.1]; rfl
      have HA := hall_n W6 _ _ _ _ _ _ _ C6.out.1.hi (by omega)
      rw [hlen] at HA
      refine HA.mono ?_
      clear hlen HA
      rintro e7 W7 ⟨A7, c7, rfl, ho, hb⟩
      have C7 := Lib.hid (And.intro (C6.out.1.below hb) C6.out.2)
      clear ho hb C6
      go_wp2_with fail
      refine (open_n W7 _ _ _ _ _ _ _ C7.out.1.hi (by omega) (fun x hx => (C7.out.2.2 x).1 hx.1)).mono ?_
      rintro e8 W8 ⟨v8, L8, rfl, hb, ho, hp, hm⟩
      have hL : L8.length = 1999 := most_len (i := m + 1) (by omega) (rising_nodup hp) (fun x => (hm x).trans (and_congr_left fun _ => C7.out.2.2 x))
      rw [hL] at ho
      obtain ⟨A8, c8, rfl⟩ := own_slice_any ho
      have C8 := Lib.hid (And.intro (C7.out.1.below hb) C7.out.2)
      clear hb ho hp hm C7 hL
      go_wp2_with fail
      refine (ask_nil W8 5 ⟨0, 0, 0, ⟨#[]⟩, false⟩).mono ?_
      rintro e9 W9 ⟨rfl, hb⟩
      have C9 := Lib.hid (And.intro (C8.out.1.below hb) C8.out.2)
      clear hb C8
      go_wp2_with fail
      refine (tell_nil W9 5 1 0 ⟨#[]⟩).mono ?_
      rintro e10 W10 ⟨rfl, hb⟩
      have C10 := Lib.hid (And.intro (C9.out.1.below hb) C9.out.2)
      clear hb C9
      go_wp2_with fail
      refine (all_nil W10).mono ?_
      rintro e11 W11 ⟨rfl, rfl⟩
      go_wp2_with fail
      refine (open_nil W11).mono ?_
      rintro e12 W12 ⟨rfl, rfl⟩
      go_wp2_with fail
      go_ret
      exact ⟨rfl, C10.out.1.b⟩
end Go.Proofs.Ythldophikcgkcaa.Y
