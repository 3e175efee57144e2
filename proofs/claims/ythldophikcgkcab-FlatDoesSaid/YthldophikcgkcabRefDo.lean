/- tarnref35.V: Do. -/
import Derived.Test.YthldophikcgkcabFlatDo
namespace Go.Proofs.Ythldophikcgkcab.Y
set_option linter.unusedVariables false
set_option linter.unusedSimpArgs false
open Go.RowKit Go.Proofs Go.IntWalk Go.Proofs.YthldophikcgkcabW.PrintWords Go.Proofs.YthldophikcgkcabW.PrintLast Go.Proofs.YthldophikcgkcabW.PrintMore Go.Proofs.Ythldophikcgkcab.X Go.Proofs.Ythldophikcgkcab.PFlat

theorem ref_chain {w at' z n : Int} {P : Prop} [Decidable P] (h1 : In at') (h2 : In z) (h3 : 0 ≤ n) (h4 : n ≤ 63) (hP : P ↔ (w = 3 ∨ (w = 0 ∨ w = 1 ∨ w = 2) ∧ Span at' z (min n 64))) :
    (if w = 3 then (some true) else (if w ≥ 0 then (if w < 3 then (if at' ≥ 0 then (if (Int.tmod at' 32) = 0 then (if z > 0 then (if (Int.tmod z 32) = 0 then (if z ≤ 128 then (some (decide ((wrap64 (Int.tdiv at' 32)) ≤ (wrap64 (n - (wrap64 (Int.tdiv z 32))))))) else (some false)) else (some false)) else (some false)) else (some false)) else (some false)) else (some false)) else (some false))) = some (decide P) := by
  obtain ⟨h1, h1'⟩ := h1
  obtain ⟨h2, h2'⟩ := h2
  have no : ¬ P → some false = some (decide P) := fun h => by rw [decide_eq_false h]
  by_cases c3 : w = 3
  · rw [if_pos c3, decide_eq_true (hP.mpr (Or.inl c3))]
  rw [if_neg c3]
  have hP' : P ↔ (w = 0 ∨ w = 1 ∨ w = 2) ∧ Span at' z (min n 64) := hP.trans ⟨fun h => h.resolve_left c3, Or.inr⟩
  have hn : (w = 0 ∨ w = 1 ∨ w = 2) ∧ ¬ Span at' z (min n 64) ∨ ¬ (w = 0 ∨ w = 1 ∨ w = 2) → ¬ P := fun h h' => by
    have := hP'.mp h'
    rcases h with h | h
    · exact h.2 this.2
    · exact h this.1
  by_cases c1 : w ≥ 0
  · rw [if_pos c1]
    by_cases c2 : w < 3
    · rw [if_pos c2]
      have cw : w = 0 ∨ w = 1 ∨ w = 2 := by omega
      have ns : ¬ Span at' z (min n 64) → some false = some (decide P) := fun h => no (hn (Or.inl ⟨cw, h⟩))
      by_cases d1 : at' ≥ 0
      · rw [if_pos d1, tmod_pos d1, tdiv_pos d1]
        by_cases d2 : at' % 32 = 0
        · rw [if_pos d2]
          by_cases d3 : z > 0
          · rw [if_pos d3, tmod_pos (by omega), tdiv_pos (by omega)]
            by_cases d4 : z % 32 = 0
            · rw [if_pos d4]
              by_cases d5 : z ≤ 128
              · rw [if_pos d5, wrap_id (x := at' / 32) (by omega) (by omega), wrap_id (x := z / 32) (by omega) (by omega), wrap_id (by omega) (by omega)]
                congr 1
                apply decide_eq_decide.mpr
                rw [hP']
                unfold Span
                omega
              · rw [if_neg d5]; exact ns (by unfold Span; omega)
            · rw [if_neg d4]; exact ns (by unfold Span; omega)
          · rw [if_neg d3]; exact ns (by unfold Span; omega)
        · rw [if_neg d2]; exact ns (by unfold Span; omega)
      · rw [if_neg d1]; exact ns (by unfold Span; omega)
    · rw [if_neg c2]; exact no (hn (Or.inr (by omega)))
  · rw [if_neg c1]; exact no (hn (Or.inr (by omega)))
theorem ref_may {w at' len n : Int} {d : ByteArray} {s : Bool} (h1 : In at') (h2 : In len) (hd : d.size ≤ 9223372036854775807) (h3 : 0 ≤ n) (h4 : n ≤ 63) : tarnref35_May.f w at' len d s n = some (decide (May w at' len d n)) := by
  have e1 : (d.size : Int) % 32 = Int.tmod (d.size : Int) 32 := (tmod_pos (by omega) 32).symm
  have e2 : (d.size : Int) / 32 = Int.tdiv (d.size : Int) 32 := (tdiv_pos (by omega) 32).symm
  unfold tarnref35_May.f
  by_cases c : w = 1
  · rw [if_pos c, e1, e2]
    exact ref_chain h1 (by unfold In; omega) h3 h4 (by unfold May size; rw [if_pos c])
  · rw [if_neg c]
    exact ref_chain h1 h2 h3 h4 (by unfold May size; rw [if_neg c])
theorem results_row_tmp2 {P : Program} {fn : Func} {p u u2 : Tmp} {ty : TypeId} (h : fn.results = #[.cell p ty, .tmp u, .tmp u2]) (tmps : Array Value) (w : World) (g : Nat) (t : TypeId) (cs : Array Value) (fr : Nat × Nat) (d : TypeDesc)
    (hp : tmps.getD p undef = .pointer (some ⟨g, 0, none⟩)) (hg : w.heap[g]? = some (.cells cs t fr))
    (hu : P.underlying ty = some d) (hd : (match d with | .struct _ | .array _ _ => true | _ => false) = true) (hi : (P.info? ty).map (·.size) = some cs.size) (x x2 : Value) (hx : tmps.getD u undef = x) (hx2 : tmps.getD u2 undef = x2) :
    (results fn tmps).run P w = .ok (.tuple #[.agg cs, x, x2]) w := by
  subst hx
  subst hx2
  have hp' : tmps[p]?.getD undef = .pointer (some ⟨g, 0, none⟩) := by simpa using hp
  simp [results, h, hp', asAddr, run_loadVar_row w g t ty cs fr d hg hu hd hi]
theorem own_empty (W : World) (B : Nat) (e : TypeId) (s : Nat) (hb : B ≤ W.heap.size) : (W.alloc (.cells #[] e)).ownsRow B e s (.slice (some ⟨W.heap.size, 0, none⟩) 0 0) 0 [] :=
  ⟨by simp, Or.inr ⟨_, 0, #[], rfl, hb, heap_alloc_new W _, Nat.le_refl _, by simp, by simp, by simp⟩⟩
/-- What is asked for is whole blocks: where they begin, and how many they are. -/
theorem parts_is {w at' len n : Int} {d : ByteArray} (hm : May w at' len d n) (h3 : w ≠ 3) : ∃ p0 m : Nat, at' = 32 * (p0 : Int) ∧ size w len d = 32 * (m : Int) ∧ 1 ≤ m ∧ m ≤ 4 ∧ (p0 : Int) + m ≤ n ∧ (w = 0 ∨ w = 1 ∨ w = 2) ∧ (parts w at' len d n).length = m ∧ ∀ k, k < m → (parts w at' len d n).drop k = ⟨((p0 + k : Nat) : Int), (w != 0), if w = 1 then d.extract (32 * k) (32 * k + 32) else if w = 2 then zeros else ⟨#[]⟩⟩ :: (parts w at' len d n).drop (k + 1) := by
  have hm0 := hm
  unfold May at hm
  obtain ⟨hw, hs⟩ := hm.resolve_left h3
  have h4 := span_4 hs
  have hs0 := hs
  unfold Span at hs
  obtain ⟨p0, hp0⟩ := Int.eq_ofNat_of_zero_le (show 0 ≤ at' / 32 by omega)
  obtain ⟨m, hm1⟩ := Int.eq_ofNat_of_zero_le (show 0 ≤ size w len d / 32 by omega)
  have hp : parts w at' len d n = (List.range m).map (X.part w at' d) := by
    unfold parts
    rw [if_pos ⟨hm0, h3⟩, hm1, Int.toNat_natCast]
  refine ⟨p0, m, by omega, by omega, by omega, by omega, by omega, hw, by rw [hp]; simp, fun k hk => ?_⟩
  rw [hp, List.drop_eq_getElem_cons (by simpa using hk), List.getElem_map, List.getElem_range]
  congr 1
  unfold X.part
  rw [hp0]
  congr 1
theorem zerosR_n (w : World) : Calls Try.prog 42 #[] w fun e w' => e = .returned (.string zeros) ∧ Below w.heap.size w w' :=
  (tarnref08_Zeros.calls zeros w (by unfold tarnref08_Zeros.f; rfl)).mono fun e w' h => ⟨h.1, h.2.below⟩
/-- What V.Do holds. -/
structure VI (w wr : World) (ask : Array Value) (v9 : Value) (L : List ByteArray) : Prop where
  o : wr.ownsRow (w.heap.size + 3) 9 1 v9 L.length (encs Value.string L)
  a : wr.heap[w.heap.size + 1]? = some (.cells ask 66 (0, 0))
  z : wr.heap[w.heap.size + 2]? = some (.cells #[.slice none 0 0] 63 (0, 0))
  b : Below w.heap.size w wr
theorem VI.below {w wr w' : World} {ask : Array Value} {v9 : Value} {L : List ByteArray} (h : VI w wr ask v9 L) (hb : Below wr.heap.size wr w') : VI w w' ask v9 L :=
  ⟨own_blk h.o fun k hk => hb.block k (own_lt h.o hk), (hb.block _ (blk_lt h.a)).trans h.a, (hb.block _ (blk_lt h.z)).trans h.z, below_step h.b hb⟩
theorem VI.put {w wr : World} {ask : Array Value} {gr n c : Nat} {L : List ByteArray} (h : VI w wr ask (.slice (some ⟨gr, 0, none⟩) n c) L) (hn : L.length = n) (b : Nat) (x : ByteArray) :
    VI w (wr.setCell ⟨gr, b, none⟩ (.string x)) ask (.slice (some ⟨gr, 0, none⟩) n c) (L.set b x) := by
  have hgr : w.heap.size + 3 ≤ gr := own_base h.o gr rfl
  have hne : ∀ k, k ≠ gr → (wr.setCell ⟨gr, b, none⟩ (.string x)).heap[k]? = wr.heap[k]? := fun k hk => Below.heap_setCell _ _ _ _ hk
  subst hn
  have hr := own_put_of (enc := Value.string) h.o (b : Int) x
  rw [Int.toNat_natCast] at hr
  refine ⟨?_, (hne _ (by omega)).trans h.a, (hne _ (by omega)).trans h.z, h.b.setCell (by show w.heap.size ≤ gr; omega) _⟩
  rw [List.length_set] at hr ⊢
  exact hr
theorem sets_ne {g k : Nat} (hk : k ≠ g) : ∀ (l : List Value) (i : Nat) (w : World), (sets w g i l).heap[k]? = w.heap[k]?
  | [], i, w => rfl
  | v :: l, i, w => (sets_ne hk l (i + 1) (w.setCell ⟨g, i, none⟩ v)).trans (Below.heap_setCell w ⟨g, i, none⟩ v k hk)
theorem VI.fin {w wr : World} {ask : Array Value} {v9 : Value} {L : List ByteArray} (h : VI w wr ask v9 L) (l : List Value) : (sets wr (w.heap.size + 1 + 1) 0 l).ownsRow w.heap.size 9 1 v9 L.length (encs Value.string L) ∧ Below w.heap.size w (sets wr (w.heap.size + 1 + 1) 0 l) :=
  ⟨own_weaken (own_blk h.o fun k hk => sets_ne (by have := own_base h.o k hk; omega) l 0 wr) (by omega), below_sets (by omega) l 0 _ h.b⟩
set_option maxHeartbeats 8000000 in
set_option maxRecDepth 100000 in
theorem vdo_n (w : World) (v : Value) (L : List ByteArray) (base : Nat) (a0 a1 a2 : Int) (a3 : ByteArray) (a4 : Bool) (H : w.ownsRow base 9 1 v L.length (encs Value.string L)) (hL0 : 0 < L.length) (hL : L.length ≤ 32) (h32 : ∀ x ∈ L, x.size ≤ 32) (h1 : In a1) (h2 : In a2) (h3 : a3.size ≤ 9223372036854775807) :
    Calls Try.prog 29 #[.agg #[v], .agg #[.int .i64 a0, .int .i64 a1, .int .i64 a2, .string a3, .bool a4]] w fun e w' => ∃ v', e = .returned (.tuple #[.agg #[v'], .string (run L ⟨#[]⟩ (parts a0 a1 a2 a3 (L.length : Int))).2, .bool (decide (May a0 a1 a2 a3 (L.length : Int)))]) ∧ ((v' = v ∧ (run L ⟨#[]⟩ (parts a0 a1 a2 a3 (L.length : Int))).1 = L) ∨ w'.ownsRow w.heap.size 9 1 v' L.length (encs Value.string (run L ⟨#[]⟩ (parts a0 a1 a2 a3 (L.length : Int))).1)) ∧ Below w.heap.size w w' := by
  have hmay := ref_may (w := a0) (at' := a1) (len := a2) (n := (L.length : Int)) (d := a3) (s := a4) h1 h2 h3 (by omega) (by omega)
  obtain ⟨A, c, rfl⟩ := own_slice H
  obtain ⟨gr, rfl, hLc⟩ := own_some H hL0
  have HM := Lib.hid (fun W : World => tarnref35_May.calls a0 a1 a2 a3 a4 (L.length : Int) _ W hmay)
  have hb0 := below_alloc (below_alloc (below_alloc (Below.refl w.heap.size w) (.cells #[.slice (some ⟨gr, 0, none⟩) L.length c] 63)) (.cells #[.int .i64 a0, .int .i64 a1, .int .i64 a2, .string a3, .bool a4] 66)) (.cells #[.slice none 0 0] 63)
  have hx2 : ((((w.alloc (.cells #[.slice (some ⟨gr, 0, none⟩) L.length c] 63)).alloc (.cells #[.int .i64 a0, .int .i64 a1, .int .i64 a2, .string a3, .bool a4] 66)).alloc (.cells #[.slice none 0 0] 63))).heap[w.heap.size]? = some (.cells #[.slice (some ⟨gr, 0, none⟩) L.length c] 63 (0, 0)) := by
    rw [heap_alloc_old _ _ (by simp; omega), heap_alloc_old _ _ (by simp), heap_alloc_new]
  have hx3 : ((((w.alloc (.cells #[.slice (some ⟨gr, 0, none⟩) L.length c] 63)).alloc (.cells #[.int .i64 a0, .int .i64 a1, .int .i64 a2, .string a3, .bool a4] 66)).alloc (.cells #[.slice none 0 0] 63))).heap[w.heap.size + 1]? = some (.cells #[.int .i64 a0, .int .i64 a1, .int .i64 a2, .string a3, .bool a4] 66 (0, 0)) := by
    rw [heap_alloc_old _ _ (by simp)]
    simpa using heap_alloc_new (w.alloc (.cells #[.slice (some ⟨gr, 0, none⟩) L.length c] 63)) (.cells #[.int .i64 a0, .int .i64 a1, .int .i64 a2, .string a3, .bool a4] 66)
  have hx4 : ((((w.alloc (.cells #[.slice (some ⟨gr, 0, none⟩) L.length c] 63)).alloc (.cells #[.int .i64 a0, .int .i64 a1, .int .i64 a2, .string a3, .bool a4] 66)).alloc (.cells #[.slice none 0 0] 63))).heap[w.heap.size + 2]? = some (.cells #[.slice none 0 0] 63 (0, 0)) := by
    simpa using heap_alloc_new ((w.alloc (.cells #[.slice (some ⟨gr, 0, none⟩) L.length c] 63)).alloc (.cells #[.int .i64 a0, .int .i64 a1, .int .i64 a2, .string a3, .bool a4] 66)) (.cells #[.slice none 0 0] 63)
  have hsz : ((((w.alloc (.cells #[.slice (some ⟨gr, 0, none⟩) L.length c] 63)).alloc (.cells #[.int .i64 a0, .int .i64 a1, .int .i64 a2, .string a3, .bool a4] 66)).alloc (.cells #[.slice none 0 0] 63))).heap.size = w.heap.size + 3 := by simp
  have HX := Lib.hid (And.intro hb0 (And.intro hx2 (And.intro hx3 (And.intro hx4 (And.intro hsz (own_blk H fun k hk => hb0.block k (own_lt H hk)))))))
  have HO := Lib.hid (And.intro hL0 (And.intro hL (And.intro h32 (And.intro h1 (And.intro h2 (And.intro h3 hLc))))))
  clear hmay hb0 hx2 hx3 hx4 hsz H hL0 hL h32 h1 h2 h3 hLc
  go_enter Try.func29, Try.ntmps29
  go_upto_region 1 with fail
  generalize (((w.alloc (.cells #[.slice (some ⟨gr, 0, none⟩) L.length c] 63)).alloc (.cells #[.int .i64 a0, .int .i64 a1, .int .i64 a2, .string a3, .bool a4] 66)).alloc (.cells #[.slice none 0 0] 63)) = W1 at *
  have c0 := blk_cell HX.out.2.1 0
  go_wp2_with (first | ((with_reducible apply wpList_load_row (ty := 66) (g := w.heap.size + 1) (t := 66) (fr := (0, 0)) (hu := Try.underlying66)); (case hgd => with_reducible rfl); (case ho => with_reducible rfl); (case hx => rfl); (case hd => rfl); (case hg => exact HX.out.2.2.1); (case hi => kernel_rfl)) | fail)
  refine (HM.out W1).mono ?_
  rintro e1 W2 ⟨rfl, hb⟩
  have H2 := Lib.hid (And.intro (below_step HX.out.1 hb) (And.intro ((hb.block _ (blk_lt HX.out.2.1)).trans HX.out.2.1) (And.intro ((hb.block _ (blk_lt HX.out.2.2.1)).trans HX.out.2.2.1) (And.intro ((hb.block _ (blk_lt HX.out.2.2.2.1)).trans HX.out.2.2.2.1) (And.intro (show w.heap.size + 3 ≤ W2.heap.size by have := hb.size; have := HX.out.2.2.2.2.1; omega) (own_blk HX.out.2.2.2.2.2 fun k hk => hb.block k (own_lt HX.out.2.2.2.2.2 hk)))))))
  clear hb HM c0
  have c0 := blk_cell H2.out.2.1 0
  by_cases hm : May a0 a1 a2 a3 (L.length : Int)
  · simp only [decide_eq_true hm]
    clear HX
    go_upto_region 3 with fail
    have d1 := blk_cell H2.out.2.2.1 1
    go_region
    clear d1 c0
    have H3 := Lib.hid (And.intro (below_step H2.out.1 (below_drew1 (Below.refl _ _))) (And.intro (show W2.drew.heap[w.heap.size]? = _ from H2.out.2.1) (And.intro (show W2.drew.heap[w.heap.size + 1]? = _ from H2.out.2.2.1) (And.intro (show W2.drew.heap[w.heap.size + 2]? = _ from H2.out.2.2.2.1) (And.intro (show w.heap.size + 3 ≤ W2.drew.heap.size from H2.out.2.2.2.2.1) (show W2.drew.ownsRow base 9 1 _ _ _ from own_blk H2.out.2.2.2.2.2 fun k hk => rfl))))))
    clear H2
    generalize W2.drew = W3 at *
    have c0 := blk_cell H3.out.2.1 0
    have hz := own_empty W3 (w.heap.size + 3) 9 1 H3.out.2.2.2.2.1
    have hbz := below_alloc (Below.refl W3.heap.size W3) (.cells #[] 9)
    have HZ := Lib.hid (And.intro hz (And.intro hbz (show ReadsOf Value.string (⟨#[]⟩ : ByteArray) (W3.alloc (.cells #[] 9)) (some ⟨gr, 0, none⟩) L.length L from own_reads_of' (own_blk H3.out.2.2.2.2.2 fun k hk => hbz.block k (own_lt H3.out.2.2.2.2.2 hk)))))
    have c1 := blk_cell ((hbz.block _ (blk_lt H3.out.2.1)).trans H3.out.2.1) 0
    clear hz hbz c0
    go_upto_region 5 with (first | ((with_reducible refine gate_builtin (b := .append) (xs := #[.tmp 23, .tmp 25]) rfl ?_); at_builtin; refine print_append_row_of (w0 := W3.alloc (.cells #[] 9)) Value.string (⟨#[]⟩ : ByteArray) (w.heap.size + 3) rfl (.tmp 23) (.tmp 25) 61 9 (.string ⟨#[]⟩) 16 rfl Try.underlying61 info_str rfl (by decide) (fun _ => rfl) (.slice (some ⟨W3.heap.size, 0, none⟩) 0 0) [] L (some ⟨gr, 0, none⟩) L.length c rfl rfl HZ.out.1 HZ.out.2.2 (Below.refl _ _) (Nat.le_trans H3.out.2.2.2.2.1 HZ.out.2.1.size) (by have := HO.out.2.1; simp; omega) ?_; intro v9 W4 hown hB hg hat) | fail)
    rw [List.nil_append] at hown
    obtain ⟨A9, c9, rfl⟩ := own_slice hown
    obtain ⟨g9, rfl, hL9⟩ := own_some hown HO.out.1
    have hB0 : Below w.heap.size w W4 := ⟨hB.os.trans H3.out.1.os, hB.tape.trans H3.out.1.tape, hB.output.trans H3.out.1.output, Nat.le_trans (Nat.le_trans H3.out.1.size HZ.out.2.1.size) hg.size, fun k hk => (hB.block k (by omega)).trans ((HZ.out.2.1.block k (Nat.lt_of_lt_of_le hk H3.out.1.size)).trans (H3.out.1.block k hk))⟩
    have HV := Lib.hid (show VI w W4 #[.int .i64 a0, .int .i64 a1, .int .i64 a2, .string a3, .bool a4] (.slice (some ⟨g9, 0, none⟩) L.length c9) L from ⟨hown, (hB.block _ (by omega)).trans ((HZ.out.2.1.block _ (blk_lt H3.out.2.2.1)).trans H3.out.2.2.1), (hB.block _ (by omega)).trans ((HZ.out.2.1.block _ (blk_lt H3.out.2.2.2.1)).trans H3.out.2.2.2.1), hB0⟩)
    clear hown hB hg hat hB0 c1 H3 HZ
    have e0 := blk_cell HV.out.a 0
    by_cases h3 : a0 = 3
    · have hps : parts a0 a1 a2 a3 (L.length : Int) = [] := by unfold parts; rw [if_neg (fun h => h.2 h3)]
      have HPS := Lib.hid (And.intro hps (decide_eq_true hm))
      clear hps hm
      subst h3
      go_wp2_with (first | ((with_reducible apply wpList_store_sets (ty := 63) (g := w.heap.size + 1 + 1) (t := 63) (old := #[.slice none 0 0])); (case hgd => with_reducible rfl); (case ho => with_reducible rfl); (case hx => rfl); (case hy => rfl); (case hg => exact HV.out.z); (case hi => kernel_rfl); (case hold => kernel_rfl); (case h1 => kernel_rfl)) | fail)
      refine bodyPost_ret (results_row_tmp2 rfl _ _ (w.heap.size + 1 + 1) 63 _ (0, 0) _ rfl (blk_sets [.slice (some ⟨g9, 0, none⟩) L.length c9] 0 _ _ HV.out.z rfl) Try.underlying63 rfl (by kernel_rfl) _ _ rfl rfl) rfl ?_
      rw [HPS.out.1, HPS.out.2]
      exact ⟨_, rfl, Or.inr (HV.out.fin _).1, (HV.out.fin _).2⟩
    · obtain ⟨p0, m, ha1, hsz, hm1, hm4, hpn, hw, hlen, hdrop⟩ := parts_is hm h3
      have HPS := Lib.hid (And.intro hlen (And.intro hdrop (And.intro (decide_eq_true hm) (And.intro hm1 (And.intro hm4 hpn)))))
      have e1 := blk_cell HV.out.a 1
      have e2 := blk_cell HV.out.a 2
      have e3 := blk_cell HV.out.a 3
      have hpo : (p0 : Int) ≤ 32 := by have := HO.out.2.1; omega
      have t8 : wrap64 (Int.tdiv a1 32) = (p0 : Int) := by rw [tdiv_pos (by omega), wrap_id (by omega) (by omega)]; omega
      rw [t8]
      clear hlen hdrop hm t8 hm1 hpn ha1 hpo
      rcases hw with rfl | rfl | rfl
      · have hz : a2 = 32 * (m : Int) := hsz
        have t9 : wrap64 (Int.tdiv a2 32) = (m : Int) := by rw [tdiv_pos (by omega), wrap_id (by omega) (by omega)]; omega
        clear hsz hz h3 hm4
        go_wp2_with fail
        --L1
        go_loopw [7, 10] (fun v7 v10 wr => ∃ (k : Nat) (r : ByteArray), k ≤ m ∧ v10 = .int .i64 (k : Int) ∧ v7 = .string r ∧ run L r ((parts 0 a1 a2 a3 (L.length : Int)).drop k) = run L ⟨#[]⟩ (parts 0 a1 a2 a3 (L.length : Int)) ∧ r.size ≤ 32 * k ∧ Below W4.heap.size W4 wr) (fun _ v => fun _ => m - (intOf v).toNat)
        case atStart => exact ⟨0, ⟨#[]⟩, Nat.zero_le _, rfl, rfl, rfl, Nat.zero_le _, Below.refl _ _⟩
        case round =>
          obtain ⟨k, r, hk, rfl, rfl, hrun, hr, hb⟩ := hrel
          have HR := Lib.hid (And.intro (HV.out.below hb) (And.intro hrun (And.intro hr hb)))
          have f2 := blk_cell HR.out.1.a 2
          clear hrun hr hb e0 e1 e2 e3
          by_cases ck : (k : Int) < (m : Int)
          · have hkm : k < m := by omega
            obtain ⟨q, hq⟩ : ∃ q : Nat, p0 + k = q := ⟨_, rfl⟩
            have hqL : q < L.length := by have := HPS.out.2.2.2.2.2; omega
            have hk4 : k ≤ 4 := by have := HPS.out.2.2.2.2.1; omega
            have hq0 : (0 : Int) ≤ (q : Int) := by omega
            have hq1 : (q : Int) < (L.length : Int) := by omega
            have hcell := (own_at_of (enc := Value.string) (d := (⟨#[]⟩ : ByteArray)) HR.out.1.o (q : Int) hq0 hq1).1
            rw [Int.toNat_natCast] at hcell
            have hx : (rdOf ⟨#[]⟩ L (q : Int)).size ≤ 32 := by
              have : rdOf ⟨#[]⟩ L (q : Int) = L[q] := by unfold rdOf; simp [hqL]
              rw [this]
              exact HO.out.2.2.1 _ (List.getElem_mem hqL)
            have hrun : run L (r ++ rdOf ⟨#[]⟩ L (q : Int)) ((parts 0 a1 a2 a3 (L.length : Int)).drop (k + 1)) = run L ⟨#[]⟩ (parts 0 a1 a2 a3 (L.length : Int)) := by
              have h := HR.out.2.1
              rw [HPS.out.2.1 k hkm, hq] at h
              exact h
            have hr2 : (r ++ rdOf ⟨#[]⟩ L (q : Int)).size ≤ 32 * (k + 1) := by have := HR.out.2.2.1; rw [ByteArray.size_append]; omega
            have hsz : r.size + (rdOf ⟨#[]⟩ L (q : Int)).size ≤ 9223372036854775807 := by have := HR.out.2.2.1; omega
            have H7 := Lib.hid (And.intro hrun (And.intro hr2 (And.intro hkm hk4)))
            have s8 : wrap64 ((p0 : Int) + (k : Int)) = (q : Int) := by have := HO.out.2.1; rw [← hq]; exact wrap64_in _ ⟨by omega, by omega⟩
            clear hrun hr2 hq hqL hx hk hkm hk4
            generalize rdOf ⟨#[]⟩ L (q : Int) = x at *
            have sk : wrap64 ((k : Int) + 1) = (k : Int) + 1 := wrap64_in _ ⟨by clear s8 t9; omega, by clear s8 t9; have := H7.out.2.2.2; omega⟩
            go_wp2_with fail
            go_roundw
            case rel => exact ⟨k + 1, r ++ x, by have := H7.out.2.2.1; clear sk s8 t9; omega, by first | rfl | (rw [sk]; rfl), rfl, H7.out.1, H7.out.2.1, HR.out.2.2.2⟩
            case measure =>
              have hkl := H7.out.2.2.1
              (try rw [sk])
              clear sk s8 t9
              simp [intOf]
              omega
          · have hkm : k = m := by omega
            have he : run L ⟨#[]⟩ (parts 0 a1 a2 a3 (L.length : Int)) = (L, r) := by
              rw [← HR.out.2.1, List.drop_of_length_le (by rw [HPS.out.1]; omega)]
              rfl
            have HE := Lib.hid (And.intro he HPS.out.2.2.1)
            clear he hkm hk
            go_wp2_with (first | ((with_reducible apply wpList_store_sets (ty := 63) (g := w.heap.size + 1 + 1) (t := 63) (old := #[.slice none 0 0])); (case hgd => with_reducible rfl); (case ho => with_reducible rfl); (case hx => rfl); (case hy => rfl); (case hg => exact HR.out.1.z); (case hi => kernel_rfl); (case hold => kernel_rfl); (case h1 => kernel_rfl)) | fail)
            refine bodyPost_ret (results_row_tmp2 rfl _ _ (w.heap.size + 1 + 1) 63 _ (0, 0) _ rfl (blk_sets [.slice (some ⟨g9, 0, none⟩) L.length c9] 0 _ _ HR.out.1.z rfl) Try.underlying63 rfl (by kernel_rfl) _ _ rfl rfl) rfl ?_
            rw [HE.out.1, HE.out.2]
            exact ⟨_, rfl, Or.inr (HR.out.1.fin _).1, (HR.out.1.fin _).2⟩
      · have hz : (a3.size : Int) = 32 * (m : Int) := hsz
        have t9 : wrap64 ((a3.size : Int) / 32) = (m : Int) := by rw [wrap_id (by omega) (by omega)]; omega
        have HZ := Lib.hid hz
        clear hsz hz h3 hm4
        go_wp2_with fail
        go_loopw [11] (fun v10 wr => ∃ (k : Nat) (L' : List ByteArray), k ≤ m ∧ v10 = .int .i64 (k : Int) ∧ VI w wr #[.int .i64 1, .int .i64 a1, .int .i64 a2, .string a3, .bool a4] (.slice (some ⟨g9, 0, none⟩) L.length c9) L' ∧ run L' ⟨#[]⟩ ((parts 1 a1 a2 a3 (L.length : Int)).drop k) = run L ⟨#[]⟩ (parts 1 a1 a2 a3 (L.length : Int)) ∧ L'.length = L.length) (fun v => fun _ => m - (intOf v).toNat)
        case atStart => exact ⟨0, L, Nat.zero_le _, rfl, HV.out, rfl, rfl⟩
        case round =>
          obtain ⟨k, L', hk, rfl, hV, hrun, hL'⟩ := hrel
          have HR := Lib.hid (And.intro hV (And.intro hrun hL'))
          have f2 := blk_cell HR.out.1.a 2
          have f3 := blk_cell HR.out.1.a 3
          clear hrun hV hL' e0 e1 e2 e3
          by_cases ck : (k : Int) < (m : Int)
          · have hkm : k < m := by omega
            obtain ⟨q, hq⟩ : ∃ q : Nat, p0 + k = q := ⟨_, rfl⟩
            have hqL : q < L.length := by have := HPS.out.2.2.2.2.2; omega
            have hk4 : k ≤ 4 := by have := HPS.out.2.2.2.2.1; omega
            have hq0 : (0 : Int) ≤ (q : Int) := by omega
            have hq1 : (q : Int) < (L.length : Int) := by omega
            have hown : ∃ hown : wr.ownsRow (w.heap.size + 3) 9 1 (.slice (some ⟨g9, 0, none⟩) L.length c9) L.length (encs Value.string L'), True := by
              have h := HR.out.1.o
              rw [HR.out.2.2] at h
              exact ⟨h, trivial⟩
            obtain ⟨hown, _⟩ := hown
            obtain ⟨lo, hlo⟩ : ∃ lo : Nat, 32 * k = lo := ⟨_, rfl⟩
            obtain ⟨hi, hhi⟩ : ∃ hi : Nat, lo + 32 = hi := ⟨_, rfl⟩
            have hhs : (hi : Int) ≤ (a3.size : Int) := by have := HZ.out; omega
            have hl0 : (0 : Int) ≤ (lo : Int) := by omega
            have hlh : (lo : Int) ≤ (hi : Int) := by omega
            have hcell := own_at_of (enc := Value.string) (d := (⟨#[]⟩ : ByteArray)) hown (q : Int) hq0 hq1
            rw [Int.toNat_natCast] at hcell
            obtain ⟨hc1, hf1⟩ := hcell
            have hrun : run (L'.set q (a3.extract lo hi)) ⟨#[]⟩ ((parts 1 a1 a2 a3 (L.length : Int)).drop (k + 1)) = run L ⟨#[]⟩ (parts 1 a1 a2 a3 (L.length : Int)) := by
              have h := HR.out.2.1
              rw [HPS.out.2.1 k hkm, hq, hlo, hhi] at h
              exact h
            have HX7 := Lib.hid (And.intro hrun (And.intro hkm (And.intro hk4 (show (L'.set q (a3.extract lo hi)).length = L.length by rw [List.length_set]; exact HR.out.2.2))))
            have s8 : wrap64 ((p0 : Int) + (k : Int)) = (q : Int) := by have := HO.out.2.1; rw [← hq]; exact wrap64_in _ ⟨by omega, by omega⟩
            have m1 : wrap64 (32 * (k : Int)) = (lo : Int) := by clear s8 t9; rw [← hlo]; exact wrap64_in _ ⟨by omega, by omega⟩
            have m2 : wrap64 ((lo : Int) + 32) = (hi : Int) := by clear s8 t9 m1; rw [← hhi, ← hlo]; exact wrap64_in _ ⟨by omega, by omega⟩
            have H8 := Lib.hid (HR.out.1.put HR.out.2.2 q (a3.extract lo hi))
            clear hrun hq hqL hk hkm hk4 hown
            have sk : wrap64 ((k : Int) + 1) = (k : Int) + 1 := wrap64_in _ ⟨by clear s8 t9 m1 m2; omega, by clear s8 t9 m1 m2; have := HX7.out.2.2.1; omega⟩
            go_wp2_with fail
            generalize wr.setCell ⟨g9, q, none⟩ (.string (a3.extract lo hi)) = W8 at *
            clear m1 m2
            go_roundw
            case rel => exact ⟨k + 1, L'.set q (a3.extract lo hi), by have := HX7.out.2.1; clear sk s8 t9; omega, by first | rfl | (rw [sk]; rfl), H8.out, HX7.out.1, HX7.out.2.2.2⟩
            case measure =>
              have hkl := HX7.out.2.1
              (try rw [sk])
              clear sk s8 t9
              simp [intOf]
              omega
          · have hkm : k = m := by omega
            have he : run L ⟨#[]⟩ (parts 1 a1 a2 a3 (L.length : Int)) = (L', ⟨#[]⟩) := by
              rw [← HR.out.2.1, List.drop_of_length_le (by rw [HPS.out.1]; omega)]
              rfl
            have HE := Lib.hid (And.intro he HPS.out.2.2.1)
            clear he hkm hk
            go_wp2_with (first | ((with_reducible apply wpList_store_sets (ty := 63) (g := w.heap.size + 1 + 1) (t := 63) (old := #[.slice none 0 0])); (case hgd => with_reducible rfl); (case ho => with_reducible rfl); (case hx => rfl); (case hy => rfl); (case hg => exact HR.out.1.z); (case hi => kernel_rfl); (case hold => kernel_rfl); (case h1 => kernel_rfl)) | fail)
            refine bodyPost_ret (results_row_tmp2 rfl _ _ (w.heap.size + 1 + 1) 63 _ (0, 0) _ rfl (blk_sets [.slice (some ⟨g9, 0, none⟩) L.length c9] 0 _ _ HR.out.1.z rfl) Try.underlying63 rfl (by kernel_rfl) _ _ rfl rfl) rfl ?_
            rw [HE.out.1, HE.out.2]
            have hf := HR.out.1.fin [.slice (some ⟨g9, 0, none⟩) L.length c9]
            rw [HR.out.2.2] at hf
            exact ⟨_, rfl, Or.inr hf.1, hf.2⟩
      · have hz : a2 = 32 * (m : Int) := hsz
        have t9 : wrap64 (Int.tdiv a2 32) = (m : Int) := by rw [tdiv_pos (by omega), wrap_id (by omega) (by omega)]; omega
        clear hsz hz h3 hm4
        go_wp2_with fail
        go_loopw [12] (fun v10 wr => ∃ (k : Nat) (L' : List ByteArray), k ≤ m ∧ v10 = .int .i64 (k : Int) ∧ VI w wr #[.int .i64 2, .int .i64 a1, .int .i64 a2, .string a3, .bool a4] (.slice (some ⟨g9, 0, none⟩) L.length c9) L' ∧ run L' ⟨#[]⟩ ((parts 2 a1 a2 a3 (L.length : Int)).drop k) = run L ⟨#[]⟩ (parts 2 a1 a2 a3 (L.length : Int)) ∧ L'.length = L.length) (fun v => fun _ => m - (intOf v).toNat)
        case atStart => exact ⟨0, L, Nat.zero_le _, rfl, HV.out, rfl, rfl⟩
        case round =>
          obtain ⟨k, L', hk, rfl, hV, hrun, hL'⟩ := hrel
          have HR := Lib.hid (And.intro hV (And.intro hrun hL'))
          have f2 := blk_cell HR.out.1.a 2
          have f3 := blk_cell HR.out.1.a 3
          clear hrun hV hL' e0 e1 e2 e3
          by_cases ck : (k : Int) < (m : Int)
          · have hkm : k < m := by omega
            obtain ⟨q, hq⟩ : ∃ q : Nat, p0 + k = q := ⟨_, rfl⟩
            have hqL : q < L.length := by have := HPS.out.2.2.2.2.2; omega
            have hk4 : k ≤ 4 := by have := HPS.out.2.2.2.2.1; omega
            have hq0 : (0 : Int) ≤ (q : Int) := by omega
            have hq1 : (q : Int) < (L.length : Int) := by omega
            have hown : ∃ hown : wr.ownsRow (w.heap.size + 3) 9 1 (.slice (some ⟨g9, 0, none⟩) L.length c9) L.length (encs Value.string L'), True := by
              have h := HR.out.1.o
              rw [HR.out.2.2] at h
              exact ⟨h, trivial⟩
            obtain ⟨hown, _⟩ := hown
            have hrun : run (L'.set q zeros) ⟨#[]⟩ ((parts 2 a1 a2 a3 (L.length : Int)).drop (k + 1)) = run L ⟨#[]⟩ (parts 2 a1 a2 a3 (L.length : Int)) := by
              have h := HR.out.2.1
              rw [HPS.out.2.1 k hkm, hq] at h
              exact h
            have HX7 := Lib.hid (And.intro hrun (And.intro hkm (And.intro hk4 (show (L'.set q zeros).length = L.length by rw [List.length_set]; exact HR.out.2.2))))
            have s8 : wrap64 ((p0 : Int) + (k : Int)) = (q : Int) := by have := HO.out.2.1; rw [← hq]; exact wrap64_in _ ⟨by omega, by omega⟩
            have HOW := Lib.hid hown
            clear hrun hq hqL hk hkm hk4 hown
            have sk : wrap64 ((k : Int) + 1) = (k : Int) + 1 := wrap64_in _ ⟨by clear s8 t9; omega, by clear s8 t9; have := HX7.out.2.2.1; omega⟩
            go_wp2_with fail
            refine (zerosR_n wr).mono ?_
            rintro e1 W7 ⟨rfl, hb7⟩
            have hcell := own_at_of (enc := Value.string) (d := (⟨#[]⟩ : ByteArray)) (own_blk HOW.out fun k hk => hb7.block k (own_lt HOW.out hk)) (q : Int) hq0 hq1
            rw [Int.toNat_natCast] at hcell
            obtain ⟨hc1, hf1⟩ := hcell
            have H8 := Lib.hid ((HR.out.1.below hb7).put HR.out.2.2 q zeros)
            clear hb7 HOW
            go_wp2_with fail
            generalize W7.setCell ⟨g9, q, none⟩ (.string zeros) = W8 at *
            go_roundw
            case rel => exact ⟨k + 1, L'.set q zeros, by have := HX7.out.2.1; clear sk s8 t9; omega, by first | rfl | (rw [sk]; rfl), H8.out, HX7.out.1, HX7.out.2.2.2⟩
            case measure =>
              have hkl := HX7.out.2.1
              (try rw [sk])
              clear sk s8 t9
              simp [intOf]
              omega
          · have hkm : k = m := by omega
            have he : run L ⟨#[]⟩ (parts 2 a1 a2 a3 (L.length : Int)) = (L', ⟨#[]⟩) := by
              rw [← HR.out.2.1, List.drop_of_length_le (by rw [HPS.out.1]; omega)]
              rfl
            have HE := Lib.hid (And.intro he HPS.out.2.2.1)
            clear he hkm hk
            go_wp2_with (first | ((with_reducible apply wpList_store_sets (ty := 63) (g := w.heap.size + 1 + 1) (t := 63) (old := #[.slice none 0 0])); (case hgd => with_reducible rfl); (case ho => with_reducible rfl); (case hx => rfl); (case hy => rfl); (case hg => exact HR.out.1.z); (case hi => kernel_rfl); (case hold => kernel_rfl); (case h1 => kernel_rfl)) | fail)
            refine bodyPost_ret (results_row_tmp2 rfl _ _ (w.heap.size + 1 + 1) 63 _ (0, 0) _ rfl (blk_sets [.slice (some ⟨g9, 0, none⟩) L.length c9] 0 _ _ HR.out.1.z rfl) Try.underlying63 rfl (by kernel_rfl) _ _ rfl rfl) rfl ?_
            rw [HE.out.1, HE.out.2]
            have hf := HR.out.1.fin [.slice (some ⟨g9, 0, none⟩) L.length c9]
            rw [HR.out.2.2] at hf
            exact ⟨_, rfl, Or.inr hf.1, hf.2⟩
  · simp only [decide_eq_false hm]
    clear HX
    have hps : parts a0 a1 a2 a3 (L.length : Int) = [] := by unfold parts; rw [if_neg (fun h => hm h.1)]
    --V2
    go_wp2_with (first | ((with_reducible apply wpList_load_row (ty := 63) (g := w.heap.size) (t := 63) (fr := (0, 0)) (hu := Try.underlying63)); (case hgd => with_reducible rfl); (case ho => with_reducible rfl); (case hx => rfl); (case hd => rfl); (case hg => exact H2.out.2.1); (case hi => kernel_rfl)) | ((with_reducible apply wpList_store_sets (ty := 63) (g := w.heap.size + 1 + 1) (t := 63) (old := #[.slice none 0 0])); (case hgd => with_reducible rfl); (case ho => with_reducible rfl); (case hx => rfl); (case hy => rfl); (case hg => exact H2.out.2.2.2.1); (case hi => kernel_rfl); (case hold => kernel_rfl); (case h1 => kernel_rfl)) | fail)
    refine bodyPost_ret (results_row_tmp2 rfl _ _ (w.heap.size + 1 + 1) 63 _ (0, 0) _ rfl (blk_sets [.slice (some ⟨gr, 0, none⟩) L.length c] 0 _ _ H2.out.2.2.2.1 rfl) Try.underlying63 rfl (by kernel_rfl) _ _ rfl rfl) rfl ?_
    rw [hps]
    refine ⟨.slice (some ⟨gr, 0, none⟩) L.length c, ?_, Or.inl ⟨rfl, rfl⟩, below_sets (by omega) _ _ _ H2.out.1⟩
    rw [decide_eq_false hm]
    rfl
end Go.Proofs.Ythldophikcgkcab.Y
