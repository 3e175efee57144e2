/- rlog: logs of entries without a command: contracts of New, Len, Term. -/
import Derived.Test.YtdlgdenigmnfiaaProg
import Derived.Test.YtdlgdenigmnfiaaXGen
import Derived.Test.YtdlgdenigmnfiaaWWords
import Derived.Test.YtdlgdenigmnfiaaWMore
import Derived.Test.YtdlgdenigmnfiaaAid
import Derived.Test.YtdlgdenigmnfiaaPEntx3
import Derived.LoopTactic
import Derived.Lib.Hide
import Derived.Deep.RegionHeld3
import Derived.Shelf.SlicesQ.IndexFunc
import Derived.Shelf.SlicesE.Clone
namespace Go.Proofs.Ytdlgdenigmnfiaa.Y
set_option linter.unusedVariables false
set_option linter.unusedSimpArgs false
open Go.RowKit Go.Shelf Go.Proofs Go.IntWalk Go.Proofs.YtdlgdenigmnfiaaW.PrintWords Go.Proofs.YtdlgdenigmnfiaaW.PrintLast Go.Proofs.YtdlgdenigmnfiaaW.PrintMore Go.Proofs.Ytdlgdenigmnfiaa.X Go.Proofs.Ytdlgdenigmnfiaa.PEnt

/-- An entry without a command. -/
def encE (t : Int) : List Value := [.int .i64 t, .int .i64 0, .int .i64 0, .int .i64 0, .int .i64 0, .slice none 0 0, .slice none 0 0]
def mayE (t : Int) : Bool := decide (1 ≤ t) && decide (t ≤ 1048576)
theorem equal_nil (k : Nat) : slices_Equal_int_int.f (k + 1) [] [] = some true := by
  unfold slices_Equal_int_int.f
  rw [if_pos rfl, slices_Equal_int_int.l0, if_neg (by simp)]
theorem none_zero (k : Nat) : conf_None.f (k + 1) 0 0 0 [] [] = some true := by
  unfold conf_None.f conf_Same.f
  rw [if_pos rfl, if_pos rfl, if_pos rfl, equal_nil, Option.bind_some, if_pos rfl]
  rfl
theorem entry_zero (k : Nat) (t : Int) : entry_May.f (k + 1) t 0 0 0 0 [] [] = some (mayE t) := by
  unfold entry_May.f decide_May.f mayE
  by_cases h1 : t ≥ 1
  · rw [if_pos h1]
    by_cases h2 : t ≤ 1048576
    · rw [if_pos h2, if_pos rfl, none_zero, Option.bind_some, Option.bind_some, decide_eq_true (p := 1 ≤ t) h1, decide_eq_true h2]
      rfl
    · rw [if_neg h2, decide_eq_false h2, Bool.and_false]
  · have h1' : ¬ (1 ≤ t) := h1
    rw [if_neg h1, decide_eq_false h1', Bool.false_and]
set_option maxHeartbeats 2000000 in
set_option maxRecDepth 100000 in
theorem new_closure (w : World) : PredBelow Try.prog 34 #[] (fun x => .agg (encE x).toArray) (fun x => !mayE x) w := fun W x hb => by
  show Calls Try.prog 34 #[.agg #[.int .i64 x, .int .i64 0, .int .i64 0, .int .i64 0, .int .i64 0, .slice none 0 0, .slice none 0 0]] W _
  have hcon := fun W => entry_May.calls 1 x 0 0 0 0 none 0 [] none 0 [] (mayE x) W (Kd.C_nil _ _) (Nat.le_refl _) (Kd.C_nil _ _) (Nat.le_refl _) (entry_zero 0 x)
  have HC := Lib.hid hcon
  clear hcon
  have HB := Lib.hid hb
  clear hb
  go_enter Try.func34, Try.ntmps34
  go_wp2_with (first | ((with_reducible apply wpList_load_row (ty := 40) (g := W.heap.size) (t := 40) (fr := (0, 0)) (hu := Try.underlying40)); (case hgd => with_reducible rfl); (case ho => with_reducible rfl); (case hx => rfl); (case hd => rfl); (case hg => exact heap_alloc_new W _); (case hi => kernel_rfl)))
  refine (HC.out _).mono ?_
  rintro e w' ⟨rfl, hb'⟩
  have hb2 : Below w.heap.size w w' := below_step HB.out (below_step (below_alloc (Below.refl _ _) _) hb')
  clear hb'
  go_wp2
  go_ret
  exact ⟨rfl, hb2⟩
/-- The cells of entries without commands. -/
def flatE (ts : List Int) : List Value := ts.flatMap encE
theorem flatE_len (ts : List Int) : (flatE ts).length = ts.length * 7 := by
  induction ts with
  | nil => rfl
  | cons t s ih =>
    show (encE t ++ flatE s).length = _
    rw [List.length_append, ih]
    show 7 + s.length * 7 = (s.length + 1) * 7
    omega
theorem flatE_get (ts : List Int) : ∀ (j i : Nat) (v : Value), j < ts.length → (encE ts[j]!)[i]? = some v → (flatE ts)[j * 7 + i]? = some v := by
  induction ts with
  | nil => intro j i v h; simp at h
  | cons t s ih =>
    intro j i v hj hi
    show (encE t ++ flatE s)[j * 7 + i]? = some v
    cases j with
    | zero =>
      have hi7 : i < 7 := (List.getElem?_eq_some_iff.1 hi).1
      rw [List.getElem?_append_left (by show 0 * 7 + i < 7; omega)]
      rw [show 0 * 7 + i = i by omega]
      exact hi
    | succ j =>
      have e : (j + 1) * 7 + i = 7 + (j * 7 + i) := by omega
      rw [e, List.getElem?_append_right (by show 7 ≤ _; omega)]
      have e2 : 7 + (j * 7 + i) - (encE t).length = j * 7 + i := by show 7 + (j * 7 + i) - 7 = _; omega
      rw [e2]
      exact ih j i v (by simpa using hj) (by simpa using hi)
theorem flatE_one (ts : List Int) : ∀ u ∈ flatE ts, u.oneCell' = true := by
  intro u hu
  obtain ⟨t, _, h⟩ := List.mem_flatMap.1 hu
  simp only [encE, List.mem_cons, List.not_mem_nil, or_false] at h
  rcases h with rfl | rfl | rfl | rfl | rfl | rfl | rfl <;> rfl
/-- A log that was begun at the beginning, of entries without commands. -/
def LG (w : World) (g : Nat) (ts : List Int) : Prop :=
  ∃ h cap, w.heap[g]? = some (.cells #[.int .i64 0, .int .i64 0, .slice (some ⟨h, 0, none⟩) ts.length cap] 86 (0, 0)) ∧ h < w.heap.size ∧ ts.length ≤ cap ∧
    ∀ j t, ts[j]? = some t → w.cell? ⟨h, j * 7, none⟩ = some (.int .i64 t)
theorem LG.lt {w : World} {g : Nat} {ts : List Int} (h : LG w g ts) : g < w.heap.size := by
  obtain ⟨_, _, h, _⟩ := h
  exact blk_lt h
theorem LG.below {w w' : World} {g : Nat} {ts : List Int} (h : LG w g ts) (hb : Below w.heap.size w w') : LG w' g ts := by
  obtain ⟨x, cap, h1, h2, h3, h4⟩ := h
  refine ⟨x, cap, (hb.block _ (blk_lt h1)).trans h1, Nat.lt_of_lt_of_le h2 hb.size, h3, fun j t hj => ?_⟩
  rw [hb.cell (p := ⟨x, j * 7, none⟩) h2]
  exact h4 j t hj
theorem own_cells {w : World} {B : Nat} {v : Value} {n : Nat} {xs : List Value} (h : w.ownsRow B 40 7 v n xs) (hv : v ≠ .slice none 0 0) : ∃ g cap, v = .slice (some ⟨g, 0, none⟩) n cap ∧ n ≤ cap ∧ g < w.heap.size ∧ B ≤ g ∧ ∀ j u, xs[j]? = some u → w.cell? ⟨g, j, none⟩ = some u := by
  rcases h.2 with ⟨h0, _⟩ | ⟨g, cap, cur, hv', hB, hcur, hncap, hmax, hsz, htake⟩
  · exact absurd h0 hv
  · refine ⟨g, cap, hv', hncap, (Array.getElem?_eq_some_iff.1 hcur).1, hB, fun j u hj => ?_⟩
    have : w.cell? ⟨g, j, none⟩ = cur[j]? := cell_of_row w g j cur _ _ hcur
    rw [this]
    rw [← htake] at hj
    have hj' : j < n * 7 := by
      have := (List.getElem?_eq_some_iff.1 hj).1
      rw [List.length_take] at this
      omega
    rw [List.getElem?_take_of_lt hj'] at hj
    simpa using hj
set_option maxHeartbeats 4000000 in
set_option maxRecDepth 100000 in
theorem rnew_n (ts : List Int) (hts : ∀ t ∈ ts, mayE t = true) (hl : ts.length ≤ 300) (b c : Nat) (w : World) (hnc : ts.length ≤ c) (hb : b < w.heap.size) (hc : ∀ j u, (flatE ts)[j]? = some u → w.cell? ⟨b, j, none⟩ = some u) :
    Calls Try.prog 15 #[.int .i64 0, .int .i64 0, .slice (some ⟨b, 0, none⟩) ts.length c] w fun e w' => ∃ g, e = .returned (.pointer (some ⟨g, 0, none⟩)) ∧ LG w' g ts ∧ w.heap.size ≤ g ∧ Below w.heap.size w w' := by
  have eg : ∀ args w, (callFunc 34 args).run Try.prog w = .ok (.enter 34 args) w := enters_of Try.func34 (by kernel_rfl) rfl
  have hI := AnyQ.slices_IndexFunc idx_Entry 7 Try.isAgg40 Try.sizeOf40 encE (fun _ => rfl) (fun x => !mayE x) 34 #[] eg b 0 ts.length c ts w (new_closure w) (Nat.le_refl _) (by omega) hb
    (fun j hj i v hi => by rw [show 0 + j * 7 + i = j * 7 + i by omega]; exact hc _ _ (flatE_get ts j i v hj hi))
  rw [Lib.idxBy_miss (fun _ y => !mayE y) ts ts.length default (fun j hj => by
    have hm := hts ts[j]! (by rw [getElem!_pos ts j hj]; exact List.getElem_mem hj)
    show (!mayE ts[j]!) = false
    rw [hm]; rfl)] at hI
  have hI' : Calls Try.prog 33 #[.slice (some ⟨b, 0, none⟩) ts.length c, .func (.func 34) #[] #[]] w fun e w' => e = .returned (.int .i64 (-1)) ∧ Below w.heap.size w w' := hI
  have HI := Lib.hid hI'
  clear hI hI'
  obtain ⟨i0, hi0, hzz⟩ := Option.map_eq_some_iff.1 (show (Try.prog.info? 40).map (fun i => (i.zero, i.size, i.bytes)) = some (some (.agg #[.int .i64 0, .int .i64 0, .int .i64 0, .int .i64 0, .int .i64 0, .slice none 0 0, .slice none 0 0]), 7, 88) by kernel_rfl)
  simp only [Prod.mk.injEq] at hzz
  obtain ⟨hz0, hz1, hz2⟩ := hzz
  have hcl := fun (W : World) (hW : Below w.heap.size w W) => AnyE.slices_Clone clone_Entry i0 _ 7 88 hi0 hz0 hz1 hz2 rfl (by decide) Try.sizeOf40 b 0 ts.length c (flatE ts) W (flatE_len ts) (by simp only [maxLen]; omega) (by omega)
    (fun j u hj => by rw [show 0 + j = j by omega, hW.cell (p := ⟨b, j, none⟩) hb]; exact hc j u hj) (flatE_one ts)
  have hcl' : ∀ (W : World), Below w.heap.size w W → Calls Try.prog 36 #[.slice (some ⟨b, 0, none⟩) ts.length c] W fun e w' => ∃ v', e = .returned v' ∧ w'.ownsRow W.heap.size 40 7 v' ts.length (flatE ts) ∧ v' ≠ .slice none 0 0 ∧ Below W.heap.size W w' := hcl
  have HCL := Lib.hid hcl'
  have HTS := Lib.hid hts
  clear hcl hcl' hc hts hi0 hz0 hz1 hz2 eg
  have q1 : ¬ ((300 : Int) < (ts.length : Int)) := by omega
  have q2 : (ts.length : Int) ≤ (c : Int) := by omega
  have q3 : (0 : Int) ≤ (ts.length : Int) := by omega
  have FL := Lib.hid (flatE_get ts)
  generalize hn : ts.length = n at *
  go_enter Try.func15, Try.ntmps15
  go_wp2_with fail
  refine HI.out.mono ?_
  rintro e W1 ⟨rfl, hb1⟩
  go_wp2_with fail
  have hmn : (min (n : Int) 300).toNat = n := by omega
  rw [hmn]
  refine (HCL.out W1 hb1).mono ?_
  rintro e W2 ⟨v', rfl, ho, hv, hb2⟩
  have hb3 : Below w.heap.size w W2 := below_step hb1 hb2
  obtain ⟨g2, cap, rfl, hcap, hg2, hB2, hcells⟩ := own_cells ho hv
  have HH := Lib.hid (And.intro hb3 (And.intro hcap (And.intro hg2 hcells)))
  clear hb1 hb2 hb3 hcap hg2 hcells ho hv hB2 hmn HI HCL
  go_wp2
  go_ret
  obtain ⟨hb3, hcap, hg2, hcells⟩ := HH.out
  refine ⟨_, rfl, ⟨g2, cap, ?_, ?_, by omega, fun j t hj => ?_⟩, hb3.size, below_alloc hb3 _⟩
  · rw [hn]
    exact heap_alloc_new W2 _
  · simp; omega
  · have hj' : j < n := by have := (List.getElem?_eq_some_iff.1 hj).1; omega
    have hb4 := (below_alloc (Below.refl W2.heap.size W2) (.cells #[.int .i64 0, .int .i64 0, .slice (some ⟨g2, 0, none⟩) n cap] 86)).cell (p := ⟨g2, j * 7, none⟩) hg2
    rw [hb4]
    refine hcells _ _ ?_
    have := FL.out j 0 (.int .i64 t) hj' (by
      have e : ts[j]! = t := by rw [getElem!_def, hj]
      rw [e]; rfl)
    simpa using this
/-- The term of the entry at a place; 0: there is none. -/
def termOf (ts : List Int) (at_ : Int) : Int := if at_ < 1 then 0 else (ts[(at_ - 1).toNat]?).getD 0
set_option maxHeartbeats 4000000 in
set_option maxRecDepth 100000 in
theorem len_n (ts : List Int) (g : Nat) (w : World) (h : LG w g ts) (hl : ts.length ≤ 1000) : Calls Try.prog 54 #[.pointer (some ⟨g, 0, none⟩)] w fun e w' => e = .returned (.int .i64 (ts.length : Int)) ∧ Below w.heap.size w w' := by
  obtain ⟨hh, cap, h1, h2, h3, h4⟩ := h
  have c0 := blk_cell h1 0
  have c2 := blk_cell h1 2
  replace c0 : w.cell? ⟨g, 0, none⟩ = some (.int .i64 0) := c0
  replace c2 : w.cell? ⟨g, 2, none⟩ = some (.slice (some ⟨hh, 0, none⟩) ts.length cap) := c2
  clear h1 h2 h4
  have s1 : wrap64 (0 + (ts.length : Int)) = (ts.length : Int) := by rw [Int.zero_add]; exact wrap64_in _ ⟨by omega, by omega⟩
  generalize ts.length = n at *
  have HB := Lib.hid (Below.refl w.heap.size w)
  go_enter Try.func54, Try.ntmps54
  go_wp2
  go_region
  all_goals go_wp2
  all_goals go_ret
  exact ⟨rfl, below_drew1 HB.out⟩
set_option maxHeartbeats 4000000 in
set_option maxRecDepth 100000 in
theorem term_n (ts : List Int) (g : Nat) (at_ : Int) (w : World) (h : LG w g ts) (hl : ts.length ≤ 1000) (ha : 0 ≤ at_) : Calls Try.prog 39 #[.pointer (some ⟨g, 0, none⟩), .int .i64 at_] w fun e w' => e = .returned (.int .i64 (termOf ts at_)) ∧ Below w.heap.size w w' := by
  have HLN := Lib.hid (len_n ts g w h hl)
  have HL := Lib.hid h
  obtain ⟨hh, cap, h1, h2, h3, h4⟩ := h
  have c0 := blk_cell h1 0
  have c1 := blk_cell h1 1
  replace c0 : w.cell? ⟨g, 0, none⟩ = some (.int .i64 0) := c0
  replace c1 : w.cell? ⟨g, 1, none⟩ = some (.int .i64 0) := c1
  have d0 : ¬ (at_ < 0) := by omega
  clear h1 h2 h4
  by_cases d1 : at_ = 0
  · subst d1
    have e0 : termOf ts 0 = 0 := rfl
    rw [e0]
    have d2 : ¬ ((ts.length : Int) < 0) := by omega
    go_enter Try.func39, Try.ntmps39
    go_wp2_with fail
    refine HLN.out.mono ?_
    rintro e W1 ⟨rfl, hb⟩
    have k0 : W1.cell? ⟨g, 0, none⟩ = some (.int .i64 0) := (hb.cell (p := ⟨g, 0, none⟩) HL.out.lt).trans c0
    have k1 : W1.cell? ⟨g, 1, none⟩ = some (.int .i64 0) := (hb.cell (p := ⟨g, 1, none⟩) HL.out.lt).trans c1
    go_wp2
    go_ret
    exact ⟨rfl, hb⟩
  · by_cases d3 : (ts.length : Int) < at_
    · have e0 : termOf ts at_ = 0 := by
        unfold termOf
        rw [if_neg (by omega), List.getElem?_eq_none (by omega)]
        rfl
      rw [e0]
      go_enter Try.func39, Try.ntmps39
      go_wp2_with fail
      refine HLN.out.mono ?_
      rintro e W1 ⟨rfl, hb⟩
      go_wp2
      go_ret
      exact ⟨rfl, hb⟩
    · obtain ⟨j, hj⟩ : ∃ j : Nat, at_ = (j : Int) + 1 := ⟨(at_ - 1).toNat, by omega⟩
      subst hj
      have hjl : j < ts.length := by omega
      have e0 : termOf ts ((j : Int) + 1) = ts[j] := by
        unfold termOf
        rw [if_neg (by omega), show ((j : Int) + 1 - 1).toNat = j by omega, List.getElem?_eq_getElem hjl]
        rfl
      rw [e0]
      have HL2 := Lib.hid (show LG w g ts from HL.out)
      have s1 : wrap64 ((j : Int) + 1 - 0) = (j : Int) + 1 := by rw [Int.sub_zero]; exact wrap64_in _ ⟨by omega, by omega⟩
      have s2 : wrap64 ((j : Int) + 1 - 1) = (j : Int) := by rw [show (j : Int) + 1 - 1 = (j : Int) by omega]; exact wrap64_in _ ⟨by omega, by omega⟩
      have hjz : (j : Int) < (ts.length : Int) := by omega
      have hj0 : (0 : Int) ≤ (j : Int) := by omega
      have hv : ts[j]? = some ts[j] := List.getElem?_eq_getElem hjl
      have HV := Lib.hid hv
      clear hv e0
      generalize ts[j] = tv at HV ⊢
      go_enter Try.func39, Try.ntmps39
      go_wp2_with fail
      refine HLN.out.mono ?_
      rintro e W1 ⟨rfl, hb⟩
      clear c0 c1
      obtain ⟨hh2, cap2, h1, h2, h3', h4⟩ := HL2.out.below hb
      have c0 := blk_cell h1 0
      have c2 := blk_cell h1 2
      replace c0 : W1.cell? ⟨g, 0, none⟩ = some (.int .i64 0) := c0
      replace c2 : W1.cell? ⟨g, 2, none⟩ = some (.slice (some ⟨hh2, 0, none⟩) ts.length cap2) := c2
      have c3 := h4 j tv HV.out
      have HB := Lib.hid hb
      clear h1 h2 h4 hb
      go_wp2
      go_region
      all_goals go_wp2
      all_goals go_ret
      all_goals exact ⟨rfl, below_drew1 HB.out⟩
end Go.Proofs.Ytdlgdenigmnfiaa.Y
