/- How much what clients ask for is: the sum over the first 70 things asked for (each near what may be), as long as it is under 4000, of two for each block of what may be asked for, and of the dirty blocks (0 to 64) for a flush; 4000 at most; no conditions: for every list, volume and number. -/
import Derived.Test.YtjjcfipnainpiaaPPlanx7
import Derived.Test.YtjjcfipnainpiaaAskPure
namespace Go.Proofs.Ytjjcfipnainpiaa.Pure
open Go.RowKit Go.Proofs.Ytjjcfipnainpiaa.PPlan Go.Proofs.YtjjcfipnainpiaaW.PrintWords Go.Proofs.YtjjcfipnainpiaaW.PrintLast Go.Proofs.Ytjjcfipnainpiaa.X

theorem cut_is (a b : Int) : plan_cut.f a b = some (mn (mx a 0) b) := rfl
theorem rounds_is (a b : Int) : plan_Rounds.f a b = some (mn (140 + 24 * (mn (mx a 0) 4000 + mn (mx b 0) 64)) 4000) := by
  unfold plan_Rounds.f
  rw [cut_is, cut_is]
  simp only [Option.bind_some]
  have h1 : 0 ≤ mn (mx a 0) 4000 ∧ mn (mx a 0) 4000 ≤ 4000 := by unfold mn mx; omega
  have h2 : 0 ≤ mn (mx b 0) 64 ∧ mn (mx b 0) 64 ≤ 64 := by unfold mn mx; omega
  generalize mn (mx a 0) 4000 = x at *
  generalize mn (mx b 0) 64 = y at *
  have e : wrap64 (140 + wrap64 (24 * wrap64 (x + y))) = 140 + 24 * (x + y) := by unfold wrap64; omega
  rw [e]
theorem awake_is : tarnlaw37_awake.f = some true := by
  unfold tarnlaw37_awake.f
  simp only [rounds_is, Option.bind_some]
  rfl
theorem ref_chain {w at' z n : Int} {P : Prop} [Decidable P] (h1 : In at') (h2 : In z) (h3 : 0 ≤ n) (h4 : n ≤ 63) (hP : P ↔ (w = 3 ∨ (w = 0 ∨ w = 1 ∨ w = 2) ∧ Span at' z (min n 64))) :
    (if w = 3 then (some true) else (if w ≥ 0 then (if w < 3 then (if at' ≥ 0 then (if (Int.tmod at' 32) = 0 then (if z > 0 then (if (Int.tmod z 32) = 0 then (if z ≤ 128 then (some (decide ((wrap64 (Int.tdiv at' 32)) ≤ (wrap64 (n - (wrap64 (Int.tdiv z 32))))))) else (some false)) else (some false)) else (some false)) else (some false)) else (some false)) else (some false)) else (some false))) = some (decide P) := by
  obtain ⟨h1, h1'⟩ := h1
  obtain ⟨h2, h2'⟩ := h2
  have no : ¬ P → some false = some (decide P) := fun h => by rw [decide_eq_false h]
  by_cases c3 : w = 3
  · rw [if_pos c3, decide_eq_true (hP.mpr (Or.inl c3))]
  rw [if_neg c3]
  have hP' : P ↔ (w = 0 ∨ w = 1 ∨ w = 2) ∧ Span at' z (min n 64) := hP.trans ⟨fun h => h.resolve_left c3, Or.inr⟩
  have hn : (w = 0 ∨ w = 1 ∨ w = 2) ∧ ¬ Span at' z (min n 64) ∨ ¬ (w = 0 ∨ w = 1 ∨ w = 2) → ¬ P := fun h h' => by
    have := hP'.mp h'
    rcases h with h | h
    · exact h.2 this.2
    · exact h this.1
  by_cases c1 : w ≥ 0
  · rw [if_pos c1]
    by_cases c2 : w < 3
    · rw [if_pos c2]
      have cw : w = 0 ∨ w = 1 ∨ w = 2 := by omega
      have ns : ¬ Span at' z (min n 64) → some false = some (decide P) := fun h => no (hn (Or.inl ⟨cw, h⟩))
      by_cases d1 : at' ≥ 0
      · rw [if_pos d1, tmod_pos d1, tdiv_pos d1]
        by_cases d2 : at' % 32 = 0
        · rw [if_pos d2]
          by_cases d3 : z > 0
          · rw [if_pos d3, tmod_pos (by omega), tdiv_pos (by omega)]
            by_cases d4 : z % 32 = 0
            · rw [if_pos d4]
              by_cases d5 : z ≤ 128
              · rw [if_pos d5, wrap_id (x := at' / 32) (by omega) (by omega), wrap_id (x := z / 32) (by omega) (by omega), wrap_id (by omega) (by omega)]
                congr 1
                apply decide_eq_decide.mpr
                rw [hP']
                unfold Span
                omega
              · rw [if_neg d5]; exact ns (by unfold Span; omega)
            · rw [if_neg d4]; exact ns (by unfold Span; omega)
          · rw [if_neg d3]; exact ns (by unfold Span; omega)
        · rw [if_neg d2]; exact ns (by unfold Span; omega)
      · rw [if_neg d1]; exact ns (by unfold Span; omega)
    · rw [if_neg c2]; exact no (hn (Or.inr (by omega)))
  · rw [if_neg c1]; exact no (hn (Or.inr (by omega)))
theorem ref_may {w at' len n : Int} {d : ByteArray} {s : Bool} (h1 : In at') (h2 : In len) (h3 : 0 ≤ n) (h4 : n ≤ 63) (hd : d.size ≤ 9223372036854775807) : tarnref35_May.f w at' len d s n = some (decide (May w at' len d n)) := by
  unfold tarnref35_May.f
  by_cases c : w = 1
  · rw [if_pos c]
    have hz : In (d.size : Int) := by unfold In; omega
    have := ref_chain (w := w) (P := May w at' len d n) h1 hz h3 h4 (by unfold May size; rw [if_pos c])
    rw [tmod_pos (x := (d.size : Int)) (by omega), tdiv_pos (x := (d.size : Int)) (by omega)] at this
    exact this
  · rw [if_neg c]
    exact ref_chain (w := w) (P := May w at' len d n) h1 h2 h3 h4 (by unfold May size; rw [if_neg c])
abbrev A := S26
def OkS (x : A) : Prop := In x.f0 ∧ In x.f1 ∧ In x.f2 ∧ x.f3.size ≤ 9223372036854775807
/-- How much one thing counts. -/
def cnt (m b : Int) (x : A) : Int := if x.f0 = 3 then mn (mx m 0) 64 else if May x.f0 x.f1 x.f2 x.f3 b then 2 * (size x.f0 x.f2 x.f3 / 32) else 0
theorem cnt_64 (m b : Int) (x : A) : 0 ≤ cnt m b x ∧ cnt m b x ≤ 64 := by
  unfold cnt
  by_cases c : x.f0 = 3
  · rw [if_pos c]; unfold mn mx; omega
  · rw [if_neg c]
    by_cases c2 : May x.f0 x.f1 x.f2 x.f3 b
    · rw [if_pos c2]
      rcases c2 with c2 | c2
      · exact absurd c2 c
      · obtain ⟨z1, z2, z3⟩ := span_4 c2.2
        omega
    · rw [if_neg c2]; omega
theorem parts_len (x : A) (b : Int) : 2 * ((parts x.f0 x.f1 x.f2 x.f3 b).length : Int) = if x.f0 = 3 then 0 else if May x.f0 x.f1 x.f2 x.f3 b then 2 * (size x.f0 x.f2 x.f3 / 32) else 0 := by
  unfold parts
  by_cases c : x.f0 = 3
  · rw [if_pos c, if_neg (fun h => h.2 c)]; rfl
  · rw [if_neg c]
    by_cases c2 : May x.f0 x.f1 x.f2 x.f3 b
    · rw [if_pos c2, if_pos ⟨c2, c⟩]
      rcases c2 with c2 | c2
      · exact absurd c2 c
      · obtain ⟨z1, z2, z3⟩ := span_4 c2.2
        simp
        omega
    · rw [if_neg c2, if_neg (fun h => c2 h.1)]; rfl
/-- The sum, that stays where it is from 4000 on. -/
def frz (m b : Int) : Int → List A → Int
  | n, [] => n
  | n, x :: l => frz m b (if n ≥ 4000 then n else n + cnt m b x) l
theorem frz_snoc (m b : Int) (x : A) : ∀ (l : List A) (n : Int), frz m b n (l ++ [x]) = if frz m b n l ≥ 4000 then frz m b n l else frz m b n l + cnt m b x
  | [], n => rfl
  | y :: l, n => by
    show frz m b _ (l ++ [x]) = _
    rw [frz_snoc m b x l]
    rfl
theorem frz_ge (m b : Int) : ∀ (l : List A) (n : Int), n ≥ 4000 → frz m b n l = n
  | [], n, _ => rfl
  | y :: l, n, h => by
    show frz m b (if n ≥ 4000 then n else _) l = n
    rw [if_pos h]
    exact frz_ge m b l n h
theorem frz_0 (m b : Int) : ∀ (l : List A) (n : Int), 0 ≤ n → n < 4064 → 0 ≤ frz m b n l ∧ frz m b n l < 4064
  | [], n, h, h' => ⟨h, h'⟩
  | y :: l, n, h, h' => by
    have := cnt_64 m b y
    show 0 ≤ frz m b (if n ≥ 4000 then n else n + cnt m b y) l ∧ frz m b (if n ≥ 4000 then n else n + cnt m b y) l < 4064
    by_cases c : n ≥ 4000
    · rw [if_pos c]; exact frz_0 m b l n h h'
    · rw [if_neg c]; exact frz_0 m b l _ (by omega) (by omega)
theorem rd_at (l : List A) (i : Nat) (h : i < l.length) : rd_T26 l (i : Int) = l[i] := by
  unfold rd_T26
  rw [Int.toNat_natCast, List.getD_eq_getElem?_getD, List.getElem?_eq_getElem h]
  rfl
theorem parts_l0 {m b z : Int} (hb : 0 ≤ b) (l : List A) (hl : ∀ x ∈ l, OkS x) (hn : l.length ≤ 70) : ∀ (j i : Nat), i + j = l.length → ∀ n : Int, 0 ≤ n → n < 4000 → ∀ k, 20 + j ≤ k →
    plan_Parts.l0 k n l (l.length : Int) (i : Int) b m z = some (mn (frz m b n (l.drop i)) 4000) := by
  intro j
  induction j with
  | zero =>
    intro i hi n h0 h1 k hk
    obtain ⟨k, rfl⟩ : ∃ q, k = q + 1 := ⟨k - 1, by omega⟩
    rw [plan_Parts.l0, if_neg (by omega), List.drop_of_length_le (by omega)]
    show some n = some (mn n 4000)
    unfold mn
    congr 1
    omega
  | succ j ih =>
    intro i hi n h0 h1 k hk
    obtain ⟨k, rfl⟩ : ∃ q, k = q + 1 := ⟨k - 1, by omega⟩
    have hil : i < l.length := by omega
    have hx := hl l[i] (List.getElem_mem hil)
    have hc := cnt_64 m b l[i]
    have hd : l.drop i = l[i] :: l.drop (i + 1) := List.drop_eq_getElem_cons hil
    have hfr : frz m b n (l.drop i) = frz m b (n + cnt m b l[i]) (l.drop (i + 1)) := by
      rw [hd]
      show frz m b (if n ≥ 4000 then n else _) _ = _
      rw [if_neg (by omega)]
    have e1 : wrap64 ((i : Int) + 1) = ((i + 1 : Nat) : Int) := by rw [wrap_id (by omega) (by omega)]; omega
    have fin : (if n + cnt m b l[i] ≥ 4000 then some 4000 else plan_Parts.l0 k (n + cnt m b l[i]) l (l.length : Int) ((i + 1 : Nat) : Int) b m z) = some (mn (frz m b n (l.drop i)) 4000) := by
      rw [hfr]
      by_cases c : n + cnt m b l[i] ≥ 4000
      · rw [if_pos c, frz_ge m b _ _ c]
        unfold mn
        congr 1
        omega
      · rw [if_neg c]
        exact ih (i + 1) (by omega) _ (by omega) (by omega) k (by omega)
    have hp := parts_len l[i] b
    have hpf := parts_f (w := l[i].f0) (at' := l[i].f1) (len := l[i].f2) (d := l[i].f3) (s := l[i].f4) (n := b) hx.2.1 hx.2.2.1 hb hx.2.2.2 k (by omega)
    rw [plan_Parts.l0, if_pos (by omega), if_pos (by omega), if_pos (by omega), rd_at l i hil, hpf, e1]
    by_cases c3 : l[i].f0 = 3
    · have hc3 : cnt m b l[i] = mn (mx m 0) 64 := by unfold cnt; rw [if_pos c3]
      rw [if_pos c3] at hp
      rw [if_pos c3, cut_is, Option.bind_some, Option.bind_some, hp, ← hc3, wrap_id (x := n + cnt m b l[i]) (by omega) (by omega), wrap_id (x := 0) (by omega) (by omega), wrap_id (by omega) (by omega), Int.add_zero]
      exact fin
    · have hc3 : cnt m b l[i] = 2 * ((parts l[i].f0 l[i].f1 l[i].f2 l[i].f3 b).length : Int) := by rw [hp, if_neg c3]; unfold cnt; rw [if_neg c3]
      rw [if_neg c3, Option.bind_some, ← hc3, wrap_id (x := cnt m b l[i]) (by omega) (by omega), wrap_id (by omega) (by omega)]
      exact fin
theorem law_l0 {m b o a1 a3 : Int} (hb : 0 ≤ b) (hb2 : b ≤ 63) (L : List A) (hL : ∀ x ∈ L, OkS x) : ∀ (j i : Nat), i + j = 70 → ∀ l : List A, l.length = i → (∀ x ∈ l, OkS x) → ∀ k, 200 + 3 * j ≤ k →
    tarnlaw37_PlanParts.l0 k L o (frz m b 0 l) l (i : Int) a1 m a3 b m 5 = some true := by
  have done : ∀ (i : Nat) (l : List A), l.length ≤ 70 → (∀ x ∈ l, OkS x) → ∀ k, 195 ≤ k → tarnlaw37_PlanParts.j1 k L o (frz m b 0 l) l (i : Int) false a1 m a3 b m 5 = some true := by
    intro i l h1 h2 k hk
    obtain ⟨k, rfl⟩ : ∃ q, k = q + 1 := ⟨k - 1, by omega⟩
    have hp := parts_l0 (m := m) (z := 5) hb l h2 h1 l.length 0 (by omega) 0 (by omega) (by omega) k (by omega)
    rw [tarnlaw37_PlanParts.j1, if_neg (by decide), awake_is, Option.bind_some, if_pos rfl]
    unfold plan_Parts.f
    rw [show ((0 : Nat) : Int) = 0 from rfl] at hp
    rw [hp, Option.bind_some, List.drop_zero, beq_self_eq_true]
  intro j
  induction j with
  | zero =>
    intro i hi l h1 h2 k hk
    obtain ⟨k, rfl⟩ : ∃ q, k = q + 1 := ⟨k - 1, by omega⟩
    rw [tarnlaw37_PlanParts.l0, decide_eq_false (by omega)]
    by_cases c : (i : Int) < (L.length : Int)
    · rw [if_pos c]
      exact done i l (by omega) h2 _ (by omega)
    · rw [if_neg c]
      exact done i l (by omega) h2 _ (by omega)
  | succ j ih =>
    intro i hi l h1 h2 k hk
    obtain ⟨k, rfl⟩ : ∃ q, k = q + 3 := ⟨k - 3, by omega⟩
    rw [tarnlaw37_PlanParts.l0]
    by_cases c : (i : Int) < (L.length : Int)
    · rw [if_pos c]
      rw [decide_eq_true (by omega)]
      · skip
        have hil : i < L.length := by omega
        have hx := hL L[i] (List.getElem_mem hil)
        have e31 : 0 ≤ IntKind.u64.wrap (Go.bits .and .i64 (i : Int) 31) := by
          rw [and_31]
          show 0 ≤ ((i : Int) % 32) % 18446744073709551616
          omega
        have e1 : wrap64 ((i : Int) + 1) = ((i + 1 : Nat) : Int) := by rw [wrap_id (by omega) (by omega)]; omega
        rw [tarnlaw37_PlanParts.j1, if_pos rfl, if_pos (by omega), if_pos c, if_pos e31, rd_at L i hil]
        generalize shr .i64 o (IntKind.u64.wrap (Go.bits .and .i64 (i : Int) 31)) = O
        obtain ⟨⟨rw', rat, rlen, rd, rs⟩, hr, hk'⟩ := odd_f (w := L[i].f0) (at' := L[i].f1) (len := L[i].f2) (n := b) (o := O) (d := L[i].f3) (s := L[i].f4) hx.1 hx.2.1 hx.2.2.1 hx.2.2.2
        obtain ⟨r1, r2, r3, r4⟩ := hr
        rw [hk' _ (by omega), Option.bind_some, if_pos (by omega), Option.bind_some, e1]
        have hnew : ∀ y ∈ l ++ [(⟨rw', rat, rlen, rd, rs⟩ : A)], OkS y := by
          intro y hy
          rcases List.mem_append.1 hy with hy | hy
          · exact h2 y hy
          · rw [List.mem_singleton.1 hy]; exact ⟨r1, r2, r3, r4⟩
        have hnext := fun q hq => ih (i + 1) (by omega) (l ++ [(⟨rw', rat, rlen, rd, rs⟩ : A)]) (by simp; omega) hnew q hq
        have hsn := frz_snoc m b (⟨rw', rat, rlen, rd, rs⟩ : A) l 0
        have hf0 := frz_0 m b l 0 (by omega) (by omega)
        have hc := cnt_64 m b (⟨rw', rat, rlen, rd, rs⟩ : A)
        by_cases cf : frz m b 0 l ≥ 4000
        · rw [if_pos cf] at hsn
          rw [hsn] at hnext
          rw [if_pos cf]
          exact hnext _ (by omega)
        · rw [if_neg cf] at hsn
          rw [hsn] at hnext
          rw [if_neg cf]
          have hj : tarnlaw37_PlanParts.j2 (k + 1) L o (frz m b 0 l) (l ++ [(⟨rw', rat, rlen, rd, rs⟩ : A)]) (i : Int) (size rw' rlen rd) a1 m a3 b m 5 rw' rat rlen rd rs = some true := by
            rw [tarnlaw37_PlanParts.j2, e1]
            have hcu : cnt m b (⟨rw', rat, rlen, rd, rs⟩ : A) = if rw' = 3 then mn (mx m 0) 64 else if May rw' rat rlen rd b then 2 * (size rw' rlen rd / 32) else 0 := rfl
            by_cases c3 : rw' = 3
            · rw [if_pos c3] at hcu
              rw [hcu] at hnext hc
              rw [if_pos c3, wrap_id (by omega) (by omega)]
              exact hnext _ (by omega)
            · rw [if_neg c3] at hcu
              rw [if_neg c3, ref_may r2 r3 hb hb2 r4, Option.bind_some]
              by_cases cm : May rw' rat rlen rd b
              · rw [if_pos cm] at hcu
                rw [hcu] at hnext hc
                have hsz : 0 ≤ size rw' rlen rd := by omega
                rw [decide_eq_true cm, if_pos rfl, tdiv_pos hsz, wrap_id (x := size rw' rlen rd / 32) (by omega) (by omega), wrap_id (x := 2 * (size rw' rlen rd / 32)) (by omega) (by omega), wrap_id (by omega) (by omega)]
                exact hnext _ (by omega)
              · rw [if_neg cm] at hcu
                rw [hcu, Int.add_zero] at hnext
                rw [decide_eq_false cm, if_neg (by decide)]
                exact hnext _ (by omega)
          by_cases c1 : rw' = 1
          · rw [if_pos c1]
            have : size rw' rlen rd = (rd.size : Int) := by unfold size; rw [if_pos c1]
            rw [this] at hj
            exact hj
          · rw [if_neg c1]
            have : size rw' rlen rd = rlen := by unfold size; rw [if_neg c1]
            rw [this] at hj
            exact hj
    · rw [if_neg c]
      exact done i l (by omega) h2 _ (by omega)
theorem PlanParts : tarnlaw37_PlanParts.Pure := by
  intro L a1 m a3 o hL _ _
  have hb : Go.bits .and .i64 a1 63 = a1 % 64 := and_63 a1
  refine ⟨1000, ?_⟩
  unfold tarnlaw37_PlanParts.f
  rw [hb]
  have h := law_l0 (m := m) (b := a1 % 64) (o := o) (a1 := a1) (a3 := a3) (by omega) (by omega) L (fun x hx => ?_) 70 0 (by omega) [] rfl (fun x hx => absurd hx (by simp)) 1000 (by omega)
  · exact h
  · obtain ⟨q1, q2, q3, q4, _⟩ := hL.2 x hx
    exact ⟨in_of_wf q1, in_of_wf q2, in_of_wf q3, q4⟩
end Go.Proofs.Ytjjcfipnainpiaa.Pure
