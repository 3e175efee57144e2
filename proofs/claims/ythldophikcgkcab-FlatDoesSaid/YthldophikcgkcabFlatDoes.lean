/- tarnlaw35.FlatDoes: the law's walk. -/
import Derived.Test.YthldophikcgkcabFlatLaw
import Derived.Test.YthldophikcgkcabPDoesx0
namespace Go.Proofs.Ythldophikcgkcab.Y
set_option linter.unusedVariables false
set_option linter.unusedSimpArgs false
open Go.RowKit Go.Proofs Go.IntWalk Go.Proofs.YthldophikcgkcabW.PrintWords Go.Proofs.YthldophikcgkcabW.PrintLast Go.Proofs.YthldophikcgkcabW.PrintMore Go.Proofs.Ythldophikcgkcab.X Go.Proofs.Ythldophikcgkcab.PDoes
open Go.Proofs.Ythldophikcgkcab.PFlat (tarnlaw28_Odd.calls tarnref35_New.calls tarnref35_New.f)

theorem odd_n (w : World) (a0 a1 a2 : Int) (a3 : ByteArray) (a4 : Bool) (n o : Int) (h0 : In a0) (h1 : In a1) (h2 : In a2) (h3 : a3.size ≤ 9223372036854775807) :
    Calls Try.prog 28 #[.agg #[.int .i64 a0, .int .i64 a1, .int .i64 a2, .string a3, .bool a4], .int .i64 n, .int .i64 o] w fun e w' => ∃ r1 r2 r3 r4 r5, In r2 ∧ In r3 ∧ r4.size ≤ 9223372036854775807 ∧ e = .returned (.agg #[.int .i64 r1, .int .i64 r2, .int .i64 r3, .string r4, .bool r5]) ∧ Below w.heap.size w w' := by
  obtain ⟨⟨r1, r2, r3, r4, r5⟩, hok, hf⟩ := odd_f (w := a0) (at' := a1) (len := a2) (n := n) (o := o) (d := a3) (s := a4) h0 h1 h2 h3
  refine (tarnlaw28_Odd.calls 20 a0 a1 a2 a3 a4 n o r1 r2 r3 r4 r5 w (hf 20 (by omega))).mono ?_
  rintro e w' ⟨rfl, hb⟩
  exact ⟨r1, r2, r3, r4, r5, hok.2.1, hok.2.2.1, hok.2.2.2, rfl, hb⟩
set_option maxHeartbeats 16000000 in
set_option maxRecDepth 100000 in
theorem walk_does (blocks odd : Int) (A : Option Addr) (c : Nat) (l : List S66) (w : World) (hr : Kd.C k66 w A l.length l) (hc : l.length ≤ c) (hw : ∀ y ∈ l, In y.f0 ∧ In y.f1 ∧ In y.f2 ∧ y.f3.size ≤ 9223372036854775807) :
    Calls Try.prog 5 #[.int .i64 blocks, .slice A l.length c, .int .i64 odd] w fun e w' => e = .returned (.bool true) ∧ Below w.heap.size w w' := by
  have hand := and_31 blocks
  generalize hb31 : Go.bits .and .i64 blocks 31 = x at hand
  obtain ⟨n, hn⟩ : ∃ n : Nat, x + 1 = (n : Int) := ⟨(x + 1).toNat, by omega⟩
  have hn1 : 1 ≤ n ∧ n ≤ 32 := by omega
  have sx : wrap64 (x + 1) = (n : Int) := by rw [← hn]; exact wrap64_in _ ⟨by omega, by omega⟩
  have HR := Lib.hid (And.intro hr (And.intro hw hn1))
  clear hr hw hand hn hn1
  go_enter Try.func5, Try.ntmps5
  go_upto_region 2 with fail
  try rw [sx]
  clear sx hb31
  go_wp2_with fail
  refine (new_n w n (by have := HR.out.2.2.2; omega)).mono ?_
  rintro e1 W1 ⟨g, v, rfl, hF, hb⟩
  have H1 := Lib.hid (And.intro hF hb)
  clear hF hb
  go_wp2_with fail
  refine (tarnref35_New.calls 100 (n : Int) _ W1 (ref_new_f n HR.out.2.2.2)).mono ?_
  rintro e2 W2 ⟨vm, rfl, hR, hb⟩
  have hown : W2.ownsRow W1.heap.size 9 1 vm (List.replicate n zeros).length (encs Value.string (List.replicate n zeros)) := Kd.own_of_R hR
  have hdm : ∀ k, vm.ownBlock = some k → W1.heap.size ≤ k ∧ k < W2.heap.size := fun k hk => ⟨own_base hown k hk, own_lt hown hk⟩
  have hb3 := below_sets (Nat.le_refl _) [vm] 0 _ (below_alloc (Below.refl W2.heap.size W2) (.cells #[.slice none 0 0] 63))
  have hq3 : (sets (W2.alloc (.cells #[.slice none 0 0] 63)) W2.heap.size 0 [vm]).heap[W2.heap.size]? = some (.cells #[vm] 63 (0, 0)) := blk_sets [vm] 0 #[.slice none 0 0] _ (heap_alloc_new W2 (.cells #[.slice none 0 0] 63)) rfl
  have hbb := below_step hb hb3
  have hg1 := blk_lt H1.out.1.h
  have H3 := Lib.hid (show LW w (sets (W2.alloc (.cells #[.slice none 0 0] 63)) W2.heap.size 0 [vm]) g v W2.heap.size vm (List.replicate n zeros) (List.replicate n zeros) from
    ⟨H1.out.1.below hbb, hq3, own_weaken (own_blk hown fun k hk => hb3.block k (own_lt hown hk)) H1.out.2.size, below_step H1.out.2 hbb, fun k hk => by
      have := hdm k hk
      refine ⟨fun e => ?_, by omega, by omega⟩
      have := own_lt H1.out.1.r e
      omega, fun e => by have := own_lt H1.out.1.r e; have := hb.size; omega, by have := hb.size; omega, Nat.le_trans H1.out.2.size hb.size⟩)
  have hvc : vm.oneCell' = true := by
    obtain ⟨A2, c2, rfl⟩ := own_slice hown
    rfl
  obtain ⟨A2, c2, rfl⟩ := own_slice hown
  clear hR hb hown hdm hb3 hq3 hbb hg1 hvc H1
  go_upto_region 3 with (first | ((with_reducible apply wpList_store_sets (ty := 63) (g := W2.heap.size) (t := 63) (old := #[.slice none 0 0])); (case hgd => with_reducible rfl); (case ho => with_reducible rfl); (case hx => rfl); (case hy => rfl); (case hg => exact heap_alloc_new W2 _); (case hi => kernel_rfl); (case hold => kernel_rfl); (case h1 => kernel_rfl)) | fail)
  rw [List.length_replicate] at H3
  change Code.wp _ _ _ _ (sets (W2.alloc (.cells #[.slice none 0 0] 63)) W2.heap.size 0 [.slice A2 n c2])
  generalize sets (W2.alloc (.cells #[.slice none 0 0] 63)) W2.heap.size 0 [.slice A2 n c2] = W3 at *
  generalize W2.heap.size = mb at *
  go_wp2_with fail
  go_loopw [10] (fun v10 wr => ∃ (i : Nat) (L : List ByteArray) (vm : Value), i ≤ 40 ∧ i ≤ l.length ∧ v10 = .int .i64 (i : Int) ∧ LW w wr g v mb vm L L ∧ L.length = n ∧ ∀ x ∈ L, x.size ≤ 32) (fun v => fun _ => 40 - (intOf v).toNat)
  case atStart => exact ⟨0, _, _, by omega, by omega, rfl, H3.out, List.length_replicate, fun x hx => by rw [List.eq_of_mem_replicate hx]; decide⟩
  case round =>
    obtain ⟨i, L, vm, hi40, hil, rfl, hW, hLn, h32⟩ := hrel
    clear H3
    have HW := Lib.hid (And.intro hW (And.intro hLn h32))
    clear hW hLn h32
    by_cases c1 : (i : Int) < (l.length : Int)
    · by_cases c2 : (i : Int) < 40
      · have hC := Kd.C_below HR.out.1 HW.out.1.b
        obtain ⟨ad, rfl, k0, k1, k2, k3, k4⟩ := at_T66 hC (i : Int) (by omega) c1
        rw [Int.toNat_natCast] at k0 k1 k2 k3 k4
        have hy : In (rd_T66 l (i : Int)).f0 ∧ In (rd_T66 l (i : Int)).f1 ∧ In (rd_T66 l (i : Int)).f2 ∧ (rd_T66 l (i : Int)).f3.size ≤ 9223372036854775807 := by
          have hil : i < l.length := by omega
          have : rd_T66 l (i : Int) = l[i] := by unfold rd_T66; simp [hil]
          rw [this]; exact HR.out.2.1 _ (List.getElem_mem hil)
        have HY := Lib.hid hy
        clear hC hy
        generalize rd_T66 l (i : Int) = y at *
        obtain ⟨y0, y1, y2, y3, y4⟩ := y
        have hi0 : (0 : Int) ≤ (i : Int) := by omega
        go_wp2_with fail
        refine (odd_n wr y0 y1 y2 y3 y4 (n : Int) _ HY.out.1 HY.out.2.1 HY.out.2.2.1 HY.out.2.2.2).mono ?_
        rintro e3 W4 ⟨r1, r2, r3, r4, r5, ho2, ho3, ho4, rfl, hb⟩
        have hb5 := below_sets (Nat.le_refl _) [.int .i64 r1, .int .i64 r2, .int .i64 r3, .string r4, .bool r5] 0 _ (below_alloc (Below.refl W4.heap.size W4) (.cells #[.int .i64 0, .int .i64 0, .int .i64 0, .string ⟨#[]⟩, .bool false] 66))
        have hq5 : (sets (W4.alloc (.cells #[.int .i64 0, .int .i64 0, .int .i64 0, .string ⟨#[]⟩, .bool false] 66)) W4.heap.size 0 [.int .i64 r1, .int .i64 r2, .int .i64 r3, .string r4, .bool r5]).heap[W4.heap.size]? = some (.cells #[.int .i64 r1, .int .i64 r2, .int .i64 r3, .string r4, .bool r5] 66 (0, 0)) := blk_sets [.int .i64 r1, .int .i64 r2, .int .i64 r3, .string r4, .bool r5] 0 #[.int .i64 0, .int .i64 0, .int .i64 0, .string ⟨#[]⟩, .bool false] _ (heap_alloc_new W4 (.cells #[.int .i64 0, .int .i64 0, .int .i64 0, .string ⟨#[]⟩, .bool false] 66)) rfl
        have HLN := Lib.hid HW.out.2.1
        have H5 := Lib.hid (And.intro (HW.out.1.below (below_step hb hb5)) (And.intro hq5 (And.intro (show mb < W4.heap.size from Nat.lt_of_lt_of_le (blk_lt HW.out.1.m) hb.size) (And.intro HW.out.2.1 (And.intro HW.out.2.2 (And.intro ho2 (And.intro ho3 ho4)))))))
        clear hb hb5 hq5 HW HY k0 k1 k2 k3 k4 ho2 ho3 ho4
        go_upto_region 7 with (first | ((with_reducible apply wpList_store_sets (ty := 66) (g := W4.heap.size) (t := 66) (old := #[.int .i64 0, .int .i64 0, .int .i64 0, .string ⟨#[]⟩, .bool false])); (case hgd => with_reducible rfl); (case ho => with_reducible rfl); (case hx => rfl); (case hy => rfl); (case hg => exact heap_alloc_new W4 _); (case hi => kernel_rfl); (case hold => kernel_rfl); (case h1 => kernel_rfl)) | fail)
        change Code.wp _ _ _ _ (sets (W4.alloc (.cells #[.int .i64 0, .int .i64 0, .int .i64 0, .string ⟨#[]⟩, .bool false] 66)) W4.heap.size 0 [.int .i64 r1, .int .i64 r2, .int .i64 r3, .string r4, .bool r5])
        generalize sets (W4.alloc (.cells #[.int .i64 0, .int .i64 0, .int .i64 0, .string ⟨#[]⟩, .bool false] 66)) W4.heap.size 0 [.int .i64 r1, .int .i64 r2, .int .i64 r3, .string r4, .bool r5] = W5 at *
        generalize W4.heap.size = ab at *
        obtain ⟨Av, cv, rfl⟩ := own_slice H5.out.1.r
        have hLn := H5.out.2.2.2.1
        have hn1 := HR.out.2.2
        have HD := Lib.hid (vdo_n W5 (.slice Av L.length cv) L w.heap.size r1 r2 r3 r4 r5 H5.out.1.r (by omega) (by omega) H5.out.2.2.2.2.1 H5.out.2.2.2.2.2.1 H5.out.2.2.2.2.2.2.1 H5.out.2.2.2.2.2.2.2)
        have hpo := parts_ok (w := r1) (at' := r2) (len := r3) (n := (L.length : Int)) (d := r4) (by omega)
        have hL1 := run_len (parts r1 r2 r3 r4 (L.length : Int)) L ⟨#[]⟩
        have hL2 := run_32 (parts r1 r2 r3 r4 (L.length : Int)) L ⟨#[]⟩ (fun p hp => (hpo.1 p hp).2.2) H5.out.2.2.2.2.1
        have HF := Lib.hid (fun (W : World) (hF : FI W g v L w.heap.size) => do_n W g v L w.heap.size (i : Int) r1 r2 r3 r4 r5 hF (by omega) H5.out.2.2.2.2.1 H5.out.2.2.2.2.2.1 H5.out.2.2.2.2.2.2.1 H5.out.2.2.2.2.2.2.2)
        have HL := Lib.hid (And.intro hL1 hL2)
        clear hpo hL1 hL2 hLn hn1
        generalize run L ⟨#[]⟩ (parts r1 r2 r3 r4 (L.length : Int)) = R at *
        obtain ⟨L1, out⟩ := R
        go_wp2_with (first | ((with_reducible apply wpList_load_row (ty := 63) (g := mb) (t := 63) (fr := (0, 0)) (hu := Try.underlying63)); (case hgd => with_reducible rfl); (case ho => with_reducible rfl); (case hx => rfl); (case hd => rfl); (case hg => exact H5.out.1.m); (case hi => kernel_rfl)) | ((with_reducible apply wpList_load_row (ty := 66) (g := ab) (t := 66) (fr := (0, 0)) (hu := Try.underlying66)); (case hgd => with_reducible rfl); (case ho => with_reducible rfl); (case hx => rfl); (case hd => rfl); (case hg => exact H5.out.2.1); (case hi => kernel_rfl)) | fail)
        refine HD.out.mono ?_
        rintro e4 W6 ⟨v', rfl, hv, hb⟩
        have hvs : ∃ A' c', v' = .slice A' L.length c' := by
          rcases hv with ⟨rfl, _⟩ | hv
          · exact ⟨_, _, rfl⟩
          · exact own_slice hv
        obtain ⟨A', c', rfl⟩ := hvs
        have hb7 := below_sets (Nat.le_refl _) [.slice A' L.length c'] 0 _ (below_alloc (Below.refl W6.heap.size W6) (.cells #[.slice none 0 0] 63))
        have hq7 : (sets (W6.alloc (.cells #[.slice none 0 0] 63)) W6.heap.size 0 [.slice A' L.length c']).heap[W6.heap.size]? = some (.cells #[.slice A' L.length c'] 63 (0, 0)) := blk_sets [.slice A' L.length c'] 0 #[.slice none 0 0] _ (heap_alloc_new W6 (.cells #[.slice none 0 0] 63)) rfl
        have hbb := below_step hb hb7
        have hv7 : ((Value.slice A' L.length c') = .slice Av L.length cv ∧ L1 = L) ∨ (sets (W6.alloc (.cells #[.slice none 0 0] 63)) W6.heap.size 0 [.slice A' L.length c']).ownsRow W5.heap.size 9 1 (.slice A' L.length c') L.length (encs Value.string L1) := hv.imp (fun h => h) (fun h => own_blk h fun k hk => hb7.block k (own_lt h hk))
        have H7 := Lib.hid (And.intro (H5.out.1.vdo hbb HL.out.1 hv7) (And.intro hq7 (And.intro (hbb.block _ (blk_lt H5.out.1.m) |>.trans H5.out.1.m) (And.intro ((hbb.block _ (blk_lt H5.out.2.1)).trans H5.out.2.1) (show ab ≠ mb by have := H5.out.2.2.1; omega)))))
        clear hb hb7 hq7 hbb hv hv7 HD
        go_upto_region 8 with (first | ((with_reducible apply wpList_store_sets (ty := 63) (g := W6.heap.size) (t := 63) (old := #[.slice none 0 0])); (case hgd => with_reducible rfl); (case ho => with_reducible rfl); (case hx => rfl); (case hy => rfl); (case hg => exact heap_alloc_new W6 _); (case hi => kernel_rfl); (case hold => kernel_rfl); (case h1 => kernel_rfl)) | fail)
        change Code.wp _ _ _ _ (sets (W6.alloc (.cells #[.slice none 0 0] 63)) W6.heap.size 0 [.slice A' L.length c'])
        generalize sets (W6.alloc (.cells #[.slice none 0 0] 63)) W6.heap.size 0 [.slice A' L.length c'] = W7 at *
        generalize W6.heap.size = vb at *
        --B2
        go_upto_region 9 with (first | ((with_reducible apply wpList_load_row (ty := 63) (g := vb) (t := 63) (fr := (0, 0)) (hu := Try.underlying63)); (case hgd => with_reducible rfl); (case ho => with_reducible rfl); (case hx => rfl); (case hd => rfl); (case hg => exact H7.out.2.1); (case hi => kernel_rfl)) | ((with_reducible apply wpList_store_sets (ty := 63) (g := mb) (t := 63) (old := #[.slice Av L.length cv])); (case hgd => with_reducible rfl); (case ho => with_reducible rfl); (case hx => rfl); (case hy => rfl); (case hg => exact H7.out.2.2.1); (case hi => kernel_rfl); (case hold => kernel_rfl); (case h1 => kernel_rfl)) | fail)
        have H8 := Lib.hid (And.intro H7.out.1 ((sets_ne H7.out.2.2.2.2 [.slice A' L.length c'] 0 W7).trans H7.out.2.2.2.1))
        change Code.wp _ _ _ _ (sets W7 mb 0 [.slice A' L.length c'])
        generalize sets W7 mb 0 [.slice A' L.length c'] = W8 at *
        clear H7 H5
        go_wp2_with (first | ((with_reducible apply wpList_load_row (ty := 66) (g := ab) (t := 66) (fr := (0, 0)) (hu := Try.underlying66)); (case hgd => with_reducible rfl); (case ho => with_reducible rfl); (case hx => rfl); (case hd => rfl); (case hg => exact H8.out.2); (case hi => kernel_rfl)) | fail)
        refine (HF.out W8 H8.out.1.f).mono ?_
        rintro e5 W9 ⟨rfl, hF, hg⟩
        have hb9 := below_sets (Nat.le_refl _) [.int .i64 (i : Int), .int .i64 (if May r1 r2 r3 r4 (L.length : Int) then 0 else 1), .string out] 0 _ (below_alloc (Below.refl W9.heap.size W9) (.cells #[.int .i64 0, .int .i64 0, .string ⟨#[]⟩] 73))
        have hq9 : (sets (W9.alloc (.cells #[.int .i64 0, .int .i64 0, .string ⟨#[]⟩] 73)) W9.heap.size 0 [.int .i64 (i : Int), .int .i64 (if May r1 r2 r3 r4 (L.length : Int) then 0 else 1), .string out]).heap[W9.heap.size]? = some (.cells #[.int .i64 (i : Int), .int .i64 (if May r1 r2 r3 r4 (L.length : Int) then 0 else 1), .string out] 73 (0, 0)) := blk_sets [.int .i64 (i : Int), .int .i64 (if May r1 r2 r3 r4 (L.length : Int) then 0 else 1), .string out] 0 #[.int .i64 0, .int .i64 0, .string ⟨#[]⟩] _ (heap_alloc_new W9 (.cells #[.int .i64 0, .int .i64 0, .string ⟨#[]⟩] 73)) rfl
        have H9 := Lib.hid (And.intro ((H8.out.1.fdo hF hg).below hb9) hq9)
        clear hF hg hb9 hq9 H8 HF
        go_upto_region 10 with (first | ((with_reducible apply wpList_store_sets (ty := 73) (g := W9.heap.size) (t := 73) (old := #[.int .i64 0, .int .i64 0, .string ⟨#[]⟩])); (case hgd => with_reducible rfl); (case ho => with_reducible rfl); (case hx => rfl); (case hy => rfl); (case hg => exact heap_alloc_new W9 _); (case hi => kernel_rfl); (case hold => kernel_rfl); (case h1 => kernel_rfl)) | fail)
        change Code.wp _ _ _ _ (sets (W9.alloc (.cells #[.int .i64 0, .int .i64 0, .string ⟨#[]⟩] 73)) W9.heap.size 0 [.int .i64 (i : Int), .int .i64 (if May r1 r2 r3 r4 (L.length : Int) then 0 else 1), .string out])
        generalize sets (W9.alloc (.cells #[.int .i64 0, .int .i64 0, .string ⟨#[]⟩] 73)) W9.heap.size 0 [.int .i64 (i : Int), .int .i64 (if May r1 r2 r3 r4 (L.length : Int) then 0 else 1), .string out] = WA at *
        by_cases hm : May r1 r2 r3 r4 (L.length : Int)
        · have H10 := Lib.hid (And.intro H9.out.1 (And.intro (show WA.heap[W9.heap.size]? = some (.cells #[.int .i64 (i : Int), .int .i64 0, .string out] 73 (0, 0)) by have h := H9.out.2; rw [if_pos hm] at h; exact h) (And.intro HL.out HR.out.2.2)))
          have hd := decide_eq_true hm
          rw [hd]
          have hLn2 : L1.length = n := HL.out.1.trans HLN.out
          have c0 := blk_cell H10.out.2.1 0
          have c1' := blk_cell H10.out.2.1 1
          have c2' := blk_cell H10.out.2.1 2
          clear hd hm H9
          have sk : wrap64 ((i : Int) + 1) = (i : Int) + 1 := wrap64_in _ ⟨by omega, by omega⟩
          go_wp2_with fail
          go_roundw
          case rel => exact ⟨i + 1, L1, .slice A' L.length c', by clear sk; omega, by clear sk; omega, by first | rfl | (rw [sk]; rfl), H10.out.1, hLn2, H10.out.2.2.1.2⟩
          case measure =>
            (try rw [sk])
            clear sk
            simp [intOf]
            omega
        · have H10 := Lib.hid (And.intro H9.out.1 (And.intro (show WA.heap[W9.heap.size]? = some (.cells #[.int .i64 (i : Int), .int .i64 1, .string out] 73 (0, 0)) by have h := H9.out.2; rw [if_neg hm] at h; exact h) (And.intro HL.out HR.out.2.2)))
          have hd := decide_eq_false hm
          rw [hd]
          have hLn2 : L1.length = n := HL.out.1.trans HLN.out
          have c0 := blk_cell H10.out.2.1 0
          have c1' := blk_cell H10.out.2.1 1
          have c2' := blk_cell H10.out.2.1 2
          clear hd hm H9
          have sk : wrap64 ((i : Int) + 1) = (i : Int) + 1 := wrap64_in _ ⟨by omega, by omega⟩
          go_wp2_with fail
          go_roundw
          case rel => exact ⟨i + 1, L1, .slice A' L.length c', by clear sk; omega, by clear sk; omega, by first | rfl | (rw [sk]; rfl), H10.out.1, hLn2, H10.out.2.2.1.2⟩
          case measure =>
            (try rw [sk])
            clear sk
            simp [intOf]
            omega
      · --C2
        skip
        have HW2 := Lib.hid (And.intro HW.out.1 (And.intro (show ∀ x ∈ L, x.size ≤ 32 from HW.out.2.2) (And.intro (show L.length = n from HW.out.2.1) HR.out.2.2)))
        clear HW hi40 hil
        obtain ⟨Av, cv, rfl⟩ := own_slice HW2.out.1.r
        obtain ⟨gv, rfl, hcv⟩ := own_some HW2.out.1.r (by have := HW2.out.2.2.1; have := HW2.out.2.2.2; omega)
        go_wp2_with fail
        go_loopw [16, 17] (fun v16 v17 wk => ∃ k : Nat, k ≤ n ∧ v17 = .int .i64 (k : Int) ∧ v16 = .string (cat (L.take k)) ∧ Below wr.heap.size wr wk) (fun _ v => fun _ => n - (intOf v).toNat)
        case atStart => exact ⟨0, Nat.zero_le _, rfl, rfl, Below.refl _ _⟩
        case round =>
          obtain ⟨k, hk, rfl, rfl, hbk⟩ := hrel
          have HK := Lib.hid (And.intro (HW2.out.1.below hbk) hbk)
          clear hbk
          by_cases ck : (k : Int) < (n : Int)
          · have hkn : k < n := by omega
            have hLn := HW2.out.2.2.1
            have hn32 := HW2.out.2.2.2.2
            have hkL : k < L.length := by omega
            have hk0 : (0 : Int) ≤ (k : Int) := by omega
            have hk1 : (k : Int) < (L.length : Int) := by omega
            have hcell := (own_at_of (enc := Value.string) (d := (⟨#[]⟩ : ByteArray)) HK.out.1.r (k : Int) hk0 hk1).1
            rw [Int.toNat_natCast] at hcell
            have hx : rdOf (⟨#[]⟩ : ByteArray) L (k : Int) = L[k] := by unfold rdOf; simp [hkL]
            have hx2 : L[k].size ≤ 32 := HW2.out.2.1 _ (List.getElem_mem hkL)
            have hcs : (cat (L.take k)).size ≤ 32 * 32 := by
              have := cat_size (L := L.take k) (fun x hx => HW2.out.2.1 x (List.mem_of_mem_take hx))
              rw [List.length_take] at this
              omega
            have hnext : cat (L.take k) ++ L[k] = cat (L.take (k + 1)) := by rw [← cat_snoc, List.take_append_getElem hkL]
            rw [hx] at hcell
            have HN := Lib.hid (And.intro hnext (And.intro hkn hn32))
            have hsz : (cat (L.take k)).size + L[k].size ≤ 9223372036854775807 := by omega
            have c0 := blk_cell HK.out.1.m 0
            clear hx hx2 hcs hnext hkn hLn hn32 hk
            generalize L[k] = x at *
            have sk : wrap64 ((k : Int) + 1) = (k : Int) + 1 := wrap64_in _ ⟨by omega, by have := HN.out.2.1; have := HN.out.2.2; omega⟩
            go_wp2_with fail
            go_roundw
            case rel => exact ⟨k + 1, by have := HN.out.2.1; clear sk; omega, by first | rfl | (rw [sk]; rfl), by rw [← HN.out.1], HK.out.2⟩
            case measure =>
              have hkl := HN.out.2.1
              (try rw [sk])
              clear sk
              simp [intOf]
              omega
          · have hkn : k = L.length := by have := HW2.out.2.2.1; omega
            have ht : L.take k = L := by rw [hkn, List.take_length]
            rw [ht]
            have hLn := HW2.out.2.2
            have HB := Lib.hid (And.intro HK.out.1.f (And.intro HK.out.1.b (And.intro (show L.length ≤ 64 by omega) HW2.out.2.1)))
            clear HK HW2 hLn ht hkn hk
            go_wp2_with fail
            refine (awake_n _).mono ?_
            rintro e1 X1 ⟨rfl, hb⟩
            have HB1 := Lib.hid (And.intro (HB.out.1.below hb) (below_step HB.out.2.1 hb))
            clear hb
            go_wp2_with fail
            refine (bytes_n X1 g v L w.heap.size HB1.out.1 HB.out.2.2.1 HB.out.2.2.2).mono ?_
            rintro e2 X2 ⟨rfl, hb⟩
            have HB2 := Lib.hid (below_step HB1.out.2 hb)
            clear hb HB HB1
            go_wp2_with fail
            --T1
            refine (new_n X2 0 (by omega)).mono ?_
            rintro e3 X3 ⟨g3, v3, rfl, hF, hb⟩
            have HB3 := Lib.hid (And.intro hF (below_step HB2.out hb))
            clear hF hb HB2
            go_wp2_with fail
            refine (bytes_n X3 g3 v3 [] _ HB3.out.1 (by simp) (fun x hx => absurd hx (by simp))).mono ?_
            rintro e4 X4 ⟨rfl, hb⟩
            rw [cat_nil]
            have HB4 := Lib.hid (below_step HB3.out.2 hb)
            clear hb HB3
            go_wp2_with fail
            refine (new_65 X4).mono ?_
            rintro e5 X5 ⟨rfl, hF, hb⟩
            have HB5 := Lib.hid (And.intro hF (below_step HB4.out hb))
            clear hF hb HB4
            go_wp2_with fail
            refine (bytes_n X5 _ _ [] _ HB5.out.1 (by simp) (fun x hx => absurd hx (by simp))).mono ?_
            rintro e6 X6 ⟨rfl, hb⟩
            rw [cat_nil]
            have HB6 := Lib.hid (below_step HB5.out.2 hb)
            clear hb HB5
            go_wp2_with fail
            go_ret
            exact ⟨rfl, HB6.out⟩
    · --C1
      skip
      have HW2 := Lib.hid (And.intro HW.out.1 (And.intro (show ∀ x ∈ L, x.size ≤ 32 from HW.out.2.2) (And.intro (show L.length = n from HW.out.2.1) HR.out.2.2)))
      clear HW hi40 hil
      obtain ⟨Av, cv, rfl⟩ := own_slice HW2.out.1.r
      obtain ⟨gv, rfl, hcv⟩ := own_some HW2.out.1.r (by have := HW2.out.2.2.1; have := HW2.out.2.2.2; omega)
      go_wp2_with fail
      go_loopw [16, 17] (fun v16 v17 wk => ∃ k : Nat, k ≤ n ∧ v17 = .int .i64 (k : Int) ∧ v16 = .string (cat (L.take k)) ∧ Below wr.heap.size wr wk) (fun _ v => fun _ => n - (intOf v).toNat)
      case atStart => exact ⟨0, Nat.zero_le _, rfl, rfl, Below.refl _ _⟩
      case round =>
        obtain ⟨k, hk, rfl, rfl, hbk⟩ := hrel
        have HK := Lib.hid (And.intro (HW2.out.1.below hbk) hbk)
        clear hbk
        by_cases ck : (k : Int) < (n : Int)
        · have hkn : k < n := by omega
          have hLn := HW2.out.2.2.1
          have hn32 := HW2.out.2.2.2.2
          have hkL : k < L.length := by omega
          have hk0 : (0 : Int) ≤ (k : Int) := by omega
          have hk1 : (k : Int) < (L.length : Int) := by omega
          have hcell := (own_at_of (enc := Value.string) (d := (⟨#[]⟩ : ByteArray)) HK.out.1.r (k : Int) hk0 hk1).1
          rw [Int.toNat_natCast] at hcell
          have hx : rdOf (⟨#[]⟩ : ByteArray) L (k : Int) = L[k] := by unfold rdOf; simp [hkL]
          have hx2 : L[k].size ≤ 32 := HW2.out.2.1 _ (List.getElem_mem hkL)
          have hcs : (cat (L.take k)).size ≤ 32 * 32 := by
            have := cat_size (L := L.take k) (fun x hx => HW2.out.2.1 x (List.mem_of_mem_take hx))
            rw [List.length_take] at this
            omega
          have hnext : cat (L.take k) ++ L[k] = cat (L.take (k + 1)) := by rw [← cat_snoc, List.take_append_getElem hkL]
          rw [hx] at hcell
          have HN := Lib.hid (And.intro hnext (And.intro hkn hn32))
          have hsz : (cat (L.take k)).size + L[k].size ≤ 9223372036854775807 := by omega
          have c0 := blk_cell HK.out.1.m 0
          clear hx hx2 hcs hnext hkn hLn hn32 hk
          generalize L[k] = x at *
          have sk : wrap64 ((k : Int) + 1) = (k : Int) + 1 := wrap64_in _ ⟨by omega, by have := HN.out.2.1; have := HN.out.2.2; omega⟩
          go_wp2_with fail
          go_roundw
          case rel => exact ⟨k + 1, by have := HN.out.2.1; clear sk; omega, by first | rfl | (rw [sk]; rfl), by rw [← HN.out.1], HK.out.2⟩
          case measure =>
            have hkl := HN.out.2.1
            (try rw [sk])
            clear sk
            simp [intOf]
            omega
        · have hkn : k = L.length := by have := HW2.out.2.2.1; omega
          have ht : L.take k = L := by rw [hkn, List.take_length]
          rw [ht]
          have hLn := HW2.out.2.2
          have HB := Lib.hid (And.intro HK.out.1.f (And.intro HK.out.1.b (And.intro (show L.length ≤ 64 by omega) HW2.out.2.1)))
          clear HK HW2 hLn ht hkn hk
          go_wp2_with fail
          refine (awake_n _).mono ?_
          rintro e1 X1 ⟨rfl, hb⟩
          have HB1 := Lib.hid (And.intro (HB.out.1.below hb) (below_step HB.out.2.1 hb))
          clear hb
          go_wp2_with fail
          refine (bytes_n X1 g v L w.heap.size HB1.out.1 HB.out.2.2.1 HB.out.2.2.2).mono ?_
          rintro e2 X2 ⟨rfl, hb⟩
          have HB2 := Lib.hid (below_step HB1.out.2 hb)
          clear hb HB HB1
          go_wp2_with fail
          --T1
          refine (new_n X2 0 (by omega)).mono ?_
          rintro e3 X3 ⟨g3, v3, rfl, hF, hb⟩
          have HB3 := Lib.hid (And.intro hF (below_step HB2.out hb))
          clear hF hb HB2
          go_wp2_with fail
          refine (bytes_n X3 g3 v3 [] _ HB3.out.1 (by simp) (fun x hx => absurd hx (by simp))).mono ?_
          rintro e4 X4 ⟨rfl, hb⟩
          rw [cat_nil]
          have HB4 := Lib.hid (below_step HB3.out.2 hb)
          clear hb HB3
          go_wp2_with fail
          refine (new_65 X4).mono ?_
          rintro e5 X5 ⟨rfl, hF, hb⟩
          have HB5 := Lib.hid (And.intro hF (below_step HB4.out hb))
          clear hF hb HB4
          go_wp2_with fail
          refine (bytes_n X5 _ _ [] _ HB5.out.1 (by simp) (fun x hx => absurd hx (by simp))).mono ?_
          rintro e6 X6 ⟨rfl, hb⟩
          rw [cat_nil]
          have HB6 := Lib.hid (below_step HB5.out.2 hb)
          clear hb HB5
          go_wp2_with fail
          go_ret
          exact ⟨rfl, HB6.out⟩
end Go.Proofs.Ythldophikcgkcab.Y
