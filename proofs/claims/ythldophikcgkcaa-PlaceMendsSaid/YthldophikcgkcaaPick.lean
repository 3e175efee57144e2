/- place.Pick of five nodes that are up and idle, and the law's awake. -/
import Derived.Test.YthldophikcgkcaaRank
import Derived.Test.YthldophikcgkcaaConcat
import Derived.Test.YthldophikcgkcaaPPlacex3
import Derived.Shelf.SlicesG.Clone
namespace Go.Proofs.Ythldophikcgkcaa.Y
open Go.RowKit Go.Shelf Go.Proofs Go.Sort Go.Proofs.YthldophikcgkcaaW.PrintWords Go.Proofs.YthldophikcgkcaaW.PrintLast Go.Proofs.YthldophikcgkcaaW.PrintMore Go.Proofs.Ythldophikcgkcaa.X Go.Proofs.Ythldophikcgkcaa.PPlace

theorem rk_idle : rk (fun _ => true) (fun _ => 0) = [0, 1, 2, 3, 4] := by
  have hlt : ∀ x y : Fin 5, ltOf (cmpN (fun _ => 0)) x y = false := by
    intro x y
    rfl
  have h1 : ∀ (n i : Nat) (d : Array (Fin 5)), 5 - i = n → Sort.insOuter (ltOf (cmpN (fun _ => 0))) 0 5 i d = d := by
    intro n
    induction n with
    | zero => intro i d h; rw [Sort.insOuter, if_neg (by omega)]
    | succ n ih =>
      intro i d h
      rw [Sort.insOuter, if_pos (by omega), insInner_stop _ _ _ _ (Or.inr (hlt _ _)), ih (i + 1) d (by omega)]
  unfold rk Sort.insertionSort
  have h5 : (upTo (fun _ => true) 5) = [0, 1, 2, 3, 4] := rfl
  rw [h5]
  show (Sort.insOuter (ltOf (cmpN fun _ => 0)) 0 5 (0 + 1) _).toList = _
  rw [h1 _ _ _ rfl]
/-- A part of a row. -/
theorem C_sub {W : World} {ad : Addr} {n : Nat} {xs : List Int} (h : Kd.C X.KI W (some ad) n xs) (off m : Nat) (hm : off + m ≤ n) : Kd.C X.KI W (some (ad.add off)) m ((xs.drop off).take m) := by
  obtain ⟨h1, h2, h3⟩ := h
  refine ⟨by rw [List.length_take, List.length_drop]; omega, by omega, fun h0 => ⟨_, rfl, fun j p hj => ?_⟩⟩
  obtain ⟨a0, he, hc⟩ := h3 (by omega)
  injection he with he
  subst he
  have hjm : j < m := by have := (List.getElem?_eq_some_iff.1 hj).1; rw [List.length_take] at this; omega
  have hj2 : xs[off + j]? = some p := by
    rw [List.getElem?_take_of_lt hjm, List.getElem?_drop] at hj
    exact hj
  obtain ⟨c, hl, hK, hcell⟩ := hc (off + j) p hj2
  refine ⟨c, hl, hK, fun i u hu => ?_⟩
  have := hcell i u hu
  rw [Deep.add_add]
  have e : off + (j * Kd.sz X.KI + i) = (off + j) * Kd.sz X.KI + i := by
    show off + (j * 1 + i) = (off + j) * 1 + i
    omega
  rw [e]
  exact this
/-- A row of the call's own lies in a world; what was there ahead is as it was. -/
structure PS (w w' : World) (v : Value) (L : List Int) : Prop where
  r : Kd.R X.KI 3 w' w.heap.size (fun _ => True) v L
  b : Below w.heap.size w w'
theorem PS.drew {w w' : World} {v : Value} {L : List Int} (h : PS w w' v L) : PS w w'.drew v L := ⟨Kd.R_below h.r (Below.drew (Below.refl _ _)), Below.drew h.b⟩
theorem PS.alloc {w w' : World} {v : Value} {L : List Int} (h : PS w w' v L) (o : Obj) : PS w (w'.alloc o) v L := ⟨Kd.R_alloc h.r _, below_alloc h.b _⟩
theorem PS.below {w w' w2 : World} {v : Value} {L : List Int} (h : PS w w' v L) (hb : Below w'.heap.size w' w2) : PS w w2 v L := ⟨Kd.R_below h.r hb, below_step h.b hb⟩
theorem PS.both {w w' w3 : World} {v v3 : Value} {L L3 : List Int} (h : PS w w' v L) (hR : Kd.R X.KI 3 w3 w'.heap.size (fun _ => True) v3 L3) (hB : Below w'.heap.size w' w3) : PS w w3 v L ∧ PS w w3 v3 L3 := ⟨h.below hB, ⟨Kd.R_lower hR h.b.size, (h.below hB).b⟩⟩
theorem PS.reads {w w' : World} {g n cp : Nat} {L : List Int} (h : PS w w' (.slice (some ⟨g, 0, none⟩) n cp) L) : Kd.C X.KI w' (some ⟨g, 0, none⟩) n L := by
  obtain ⟨A, c, he, _, hC⟩ := Kd.R_reads h.r
  injection he with e1 e2 e3
  rw [e1, e2]
  exact hC
structure PS2 (w w' : World) (v1 : Value) (L1 : List Int) (v2 : Value) (L2 : List Int) : Prop where
  p : PS w w' v1 L1
  q : PS w w' v2 L2
theorem PS2.drew {w w' : World} {v1 v2 : Value} {L1 L2 : List Int} (h : PS2 w w' v1 L1 v2 L2) : PS2 w w'.drew v1 L1 v2 L2 := ⟨h.p.drew, h.q.drew⟩
theorem PS2.below {w w' w2 : World} {v1 v2 : Value} {L1 L2 : List Int} (h : PS2 w w' v1 L1 v2 L2) (hb : Below w'.heap.size w' w2) : PS2 w w2 v1 L1 v2 L2 := ⟨h.p.below hb, h.q.below hb⟩
theorem PS.slice {w w' : World} {v : Value} {L : List Int} (h : PS w w' v L) (h0 : 0 < L.length) : ∃ g cp, v = .slice (some ⟨g, 0, none⟩) L.length cp ∧ L.length ≤ cp := by
  obtain ⟨A, cp, rfl, h2, h3⟩ := Kd.R_reads h.r
  rcases (Kd.own_of_R h.r).2 with ⟨h, hz⟩ | ⟨g, cap, cur, h, _⟩
  · omega
  · injection h with h
    subst h
    exact ⟨g, cp, rfl, h2⟩
theorem PS.cell {w w' : World} {g n cp : Nat} {L : List Int} (h : PS w w' (.slice (some ⟨g, 0, none⟩) n cp) L) (j : Nat) (x : Int) (hj : L[j]? = some x) : w'.cell? ⟨g, j, none⟩ = some (.int .i64 x) := by
  have hC := PS.reads h
  have hlt : j < L.length := (List.getElem?_eq_some_iff.1 hj).1
  have hn : L.length = n := hC.1
  obtain ⟨ad, he, hc⟩ := hC.2.2 (by omega)
  injection he with he
  subst he
  obtain ⟨c, hl, hK, hcell⟩ := hc j x hj
  have hK' : c = [.int .i64 x] := hK
  have := hcell 0 (.int .i64 x) (by rw [hK']; rfl)
  have e : (⟨g, 0, none⟩ : Addr).add (j * Kd.sz X.KI + 0) = ⟨g, j, none⟩ := by
    show (⟨g, 0, none⟩ : Addr).add (j * 1 + 0) = ⟨g, j, none⟩
    rw [show j * 1 + 0 = j by omega]
    unfold Addr.add
    split <;> simp <;> omega
  rw [e] at this
  exact this
theorem clone_row {w W : World} {g n cp : Nat} {L : List Int} (h : PS w W (.slice (some ⟨g, 0, none⟩) L.length cp) L) (hn : n ≤ L.length) (hl : L.length ≤ 1000) :
    Calls Try.prog 56 #[.slice (some ⟨g, 0, none⟩) n cp] W fun e w' => ∃ v, e = .returned v ∧ PS w w' v (L.take n) ∧ Below W.heap.size W w' := by
  have hC := PS.reads h
  refine (AnyG.slices_Clone_int clone_int g 0 n cp L W hn (by omega) (fun j hj => ?_)).mono ?_
  · obtain ⟨ad, he, hc⟩ := hC.2.2 (by omega)
    injection he with he
    subst he
    obtain ⟨c, hl, hK, hcell⟩ := hc j L[j] (List.getElem?_eq_getElem hj)
    have hK' : c = [.int .i64 L[j]] := hK
    have := hcell 0 (.int .i64 L[j]) (by rw [hK']; rfl)
    have e : (⟨g, 0, none⟩ : Addr).add (j * Kd.sz X.KI + 0) = ⟨g, 0 + j, none⟩ := by
      show (⟨g, 0, none⟩ : Addr).add (j * 1 + 0) = ⟨g, 0 + j, none⟩
      rw [show j * 1 + 0 = j by omega]
      unfold Addr.add
      split <;> simp <;> omega
    rw [e] at this
    rw [this, List.getD_eq_getElem?_getD, List.getElem?_eq_getElem hj]
    rfl
  · rintro e w' ⟨v, rfl, ho, _, hb⟩
    have hl2 : (L.take n).length = n := by rw [List.length_take]; omega
    refine ⟨v, rfl, ⟨Kd.R_of_own (enc := Value.int .i64) ?_ (fun _ _ => trivial), below_step h.b hb⟩, hb⟩
    rw [hl2]
    exact own_weaken ho h.b.size
set_option maxHeartbeats 4000000 in
set_option maxRecDepth 100000 in
theorem pick_idle (w : World) : Calls Try.prog 36 #[.agg #[.bool true, .bool true, .bool true, .bool true, .bool true], .agg #[.int .i64 0, .int .i64 0, .int .i64 0, .int .i64 0, .int .i64 0], .int .i64 2, .int .i64 3] w fun e w' =>
    ∃ v1 v2, e = .returned (.tuple #[v1, v2]) ∧ Kd.R X.KI 3 w' w.heap.size (fun _ => True) v1 [3, 4] ∧ Kd.R X.KI 3 w' w.heap.size (fun _ => True) v2 [0, 1, 2] ∧ Below w.heap.size w w' := by
  have hr := fun W => rank_n (fun _ => true) (fun _ => 0) W (by decide)
  rw [rk_idle] at hr
  have hn : nums [0, 1, 2, 3, 4] = [0, 1, 2, 3, 4] := rfl
  rw [hn] at hr
  have HRK := Lib.hid hr
  clear hr hn
  go_enter Try.func36, Try.ntmps36
  go_wp2_with fail
  refine (HRK.out _).mono ?_
  rintro e W1 ⟨v, rfl, HR, HB⟩
  have HB1 : Below w.heap.size w W1 := below_step (below_alloc (below_alloc (Below.refl _ _) _) _) HB
  have HR1 := Kd.R_lower HR (base' := w.heap.size) (below_alloc (below_alloc (Below.refl w.heap.size w) _) _).size
  clear HR HB
  obtain ⟨g, cp, rfl, hcl, hC⟩ : ∃ g cp, v = .slice (some ⟨g, 0, none⟩) 5 cp ∧ 5 ≤ cp ∧ Kd.C X.KI W1 (some ⟨g, 0, none⟩) 5 [0, 1, 2, 3, 4] := by
    obtain ⟨A, cp, rfl, h2, h3⟩ := Kd.R_reads HR1
    rcases (Kd.own_of_R HR1).2 with ⟨h, _⟩ | ⟨g, cap, cur, h, _⟩
    · cases h
    · injection h with h
      subst h
      exact ⟨g, cp, rfl, h2, h3⟩
  have hclz : (5 : Int) ≤ (cp : Int) := by omega
  have hclz2 : (3 : Int) ≤ (cp : Int) := by omega
  have hclz4 : ¬ (cp = 3) := by omega
  go_wp2_with fail
  refine (place_cut.calls 3 1 (some ⟨g, 0, none⟩) cp _ 3 W1 hC hcl (by rfl)).mono ?_
  rintro e W2 ⟨rfl, hb2⟩
  have HB2 : Below w.heap.size w W2 := ⟨hb2.os.trans HB1.os, hb2.tape.trans HB1.tape, hb2.output.trans HB1.output, Nat.le_trans HB1.size hb2.size, fun k hk => (hb2.block k (Nat.lt_of_lt_of_le hk HB1.size)).trans (HB1.block k hk)⟩
  have HR2 := Kd.R_below HR1 hb2
  clear hb2 HB1 HR1 hC
  obtain ⟨hr1, hr2, hr3⟩ := Kd.R_reads' HR2
  have HC : PS w W2 (.slice (some ⟨g, 0, none⟩) 5 cp) [0, 1, 2, 3, 4] := ⟨HR2, HB2⟩
  clear HR2 hr1 hr2 hr3 HB2
  go_wp2_with fail
  go_region_held3 (fun w' => PS w w' (.slice (some ⟨g, 0, none⟩) 5 cp) [0, 1, 2, 3, 4]) (first | assumption | (apply PS.drew; assumption) | (apply PS.alloc; assumption) | (apply PS.drew; apply PS.alloc; assumption))
    (first | (go_at_call 60; refine (concat_two _ _ (some ⟨g, 3, none⟩) (some ⟨g, 0, none⟩) (cp - 3) cp [3, 4] [0, 1, 2] 22 ?hb ?h1 ?h2 (by decide) (by decide)).mono ?_; (case hb => exact heap_alloc_new W2 (.cells #[.slice (some ⟨g, 3, none⟩) 2 (cp - 3), .slice (some ⟨g, 0, none⟩) 3 cp] 22)); (case h1 => exact C_sub (ad := ⟨g, 0, none⟩) (n := 5) (xs := [0, 1, 2, 3, 4]) (PS.reads (w := w) (cp := cp) (by assumption)) 3 2 (by decide)); (case h2 => exact C_sub (ad := ⟨g, 0, none⟩) (n := 5) (xs := [0, 1, 2, 3, 4]) (PS.reads (w := w) (cp := cp) (by assumption)) 0 3 (by decide)); rintro e w3 ⟨v3, rfl, hR3, hB3⟩; obtain ⟨q1, q2⟩ := PS.both (v := .slice (some ⟨g, 0, none⟩) 5 cp) (L := [0, 1, 2, 3, 4]) (by assumption) hR3 hB3; clear hR3 hB3))
  replace q2 : PS w w3 v3 [3, 4, 0, 1, 2] := q2
  obtain ⟨g3, cp3, rfl, hcl3⟩ := q2.slice (by decide)
  have hclz3 : (5 : Int) ≤ (cp3 : Int) := by have : 5 ≤ cp3 := hcl3; omega
  have hclz5 : (2 : Int) ≤ (cp3 : Int) := by omega
  have Q : PS2 w w3 (.slice (some ⟨g, 0, none⟩) 5 cp) [0, 1, 2, 3, 4] (.slice (some ⟨g3, 0, none⟩) 5 cp3) [3, 4, 0, 1, 2] := ⟨q1, q2⟩
  clear q1 q2 HC
  go_wp2_with fail
  go_region_held3 (fun w' => PS2 w w' (.slice (some ⟨g, 0, none⟩) 5 cp) [0, 1, 2, 3, 4] (.slice (some ⟨g3, 0, none⟩) 5 cp3) [3, 4, 0, 1, 2]) (first | assumption | (apply PS2.drew; assumption) | (refine PS2.below ?_ (by assumption); first | assumption | (apply PS2.drew; assumption)))
    (first
      | (go_at_call 59; refine (place_cut.calls 2 0 (some ⟨g3, 0, none⟩) cp3 [3, 4, 0, 1, 2] 2 _ (PS.reads (w := w) (cp := cp3) (PS2.q (v1 := .slice (some ⟨g, 0, none⟩) 5 cp) (L1 := [0, 1, 2, 3, 4]) (by assumption))) hcl3 (by rfl)).mono ?_; rintro e w4 ⟨rfl, hb4⟩)
      | (go_at_call 56; refine (clone_row (w := w) (n := 2) (L := [3, 4, 0, 1, 2]) (g := g3) (cp := cp3) (PS2.q (v1 := .slice (some ⟨g, 0, none⟩) 5 cp) (L1 := [0, 1, 2, 3, 4]) (by assumption)) (by decide) (by decide)).mono ?_; rintro e w5 ⟨v5, rfl, q5, hb5⟩)
      | (go_at_call 56; refine (clone_row (w := w) (n := 3) (L := [0, 1, 2, 3, 4]) (g := g) (cp := cp) (PS2.p (v2 := .slice (some ⟨g3, 0, none⟩) 5 cp3) (L2 := [3, 4, 0, 1, 2]) (by assumption)) (by decide) (by decide)).mono ?_; rintro e w6 ⟨v6, rfl, q6, hb6⟩))
  have q7 := q5.below hb6
  clear q5 hb6 hb5 hb4
  go_wp2
  go_ret2
  exact ⟨v5, v6, rfl, q7.r, q6.r, q6.b⟩
set_option maxHeartbeats 4000000 in
set_option maxRecDepth 100000 in
theorem awake_n (w : World) : Calls Try.prog 12 #[] w fun e w' => e = .returned (.bool true) ∧ Below w.heap.size w w' := by
  have HP := Lib.hid (fun W => pick_idle W)
  go_enter Try.func12, Try.ntmps12
  go_wp2_with fail
  refine (HP.out _).mono ?_
  rintro e W ⟨v1, v2, rfl, h1, h2, hb⟩
  have p1 : PS w W v1 [3, 4] := ⟨h1, hb⟩
  have p2 : PS w W v2 [0, 1, 2] := ⟨h2, hb⟩
  obtain ⟨g1, c1, rfl, _⟩ := p1.slice (by decide)
  obtain ⟨g2, c2, rfl, _⟩ := p2.slice (by decide)
  have k0 := p1.cell 0 3 rfl
  have k1 := p1.cell 1 4 rfl
  have k2 := p2.cell 0 0 rfl
  have k3 := p2.cell 2 2 rfl
  clear p1 p2 h1 h2
  go_wp2
  go_ret
  exact ⟨rfl, hb⟩
end Go.Proofs.Ythldophikcgkcaa.Y
