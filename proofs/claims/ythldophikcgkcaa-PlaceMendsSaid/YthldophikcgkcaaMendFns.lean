/- tarnlaw41.many, good, stays: how many nodes are up; what the law asks of lists. -/
import Derived.Test.YthldophikcgkcaaMendPure
namespace Go.Proofs.Ythldophikcgkcaa.Y
set_option linter.unusedVariables false
set_option linter.unusedSimpArgs false
open Go.RowKit Go.Shelf Go.Proofs Go.Sort Go.IntWalk Go.Proofs.YthldophikcgkcaaW.PrintWords Go.Proofs.YthldophikcgkcaaW.PrintLast Go.Proofs.YthldophikcgkcaaW.PrintMore Go.Proofs.Ythldophikcgkcaa.X Go.Proofs.Ythldophikcgkcaa.PPlace

theorem upTo_next (up : Fin 5 → Bool) (k : Fin 5) : upTo up (k.val + 1) = upTo up k.val ++ if up k = true then [k] else [] := by
  have h1 : ([0, 1, 2, 3, 4] : List (Fin 5)).take (k.val + 1) = ([0, 1, 2, 3, 4] : List (Fin 5)).take k.val ++ [k] := by
    match k with
    | 0 => rfl
    | 1 => rfl
    | 2 => rfl
    | 3 => rfl
    | 4 => rfl
  unfold upTo
  rw [h1, List.filter_append]
  congr 1
  cases h : up k <;> simp [h]
set_option maxHeartbeats 4000000 in
set_option maxRecDepth 100000 in
theorem many_n (up : Fin 5 → Bool) (w : World) : Calls Try.prog 11 #[.agg (upCells up)] w fun e w' => e = .returned (.int .i64 ((upTo up 5).length : Int)) ∧ Below w.heap.size w w' := by
  have hb : (w.alloc (.cells (upCells up) 25)).heap[w.heap.size]? = some (.cells (upCells up) 25 (0, 0)) := heap_alloc_new w _
  have H0 := Lib.hid (And.intro (up_cell up _ _ hb) (below_alloc (Below.refl w.heap.size w) (.cells (upCells up) 25)))
  clear hb
  unfold upCells at *
  go_enter Try.func11, Try.ntmps11
  go_wp2
  generalize w.alloc (.cells #[.bool (up 0), .bool (up 1), .bool (up 2), .bool (up 3), .bool (up 4)] 25) = W0 at *
  go_loopw [3, 4] (fun v3 v4 wr => ∃ k : Nat, k ≤ 5 ∧ v3 = .int .i64 ((upTo up k).length : Int) ∧ v4 = .int .i64 (k : Int) ∧ wr = W0) (fun _ v => fun _ => 5 - (intOf v).toNat)
  case atStart => exact ⟨0, by omega, rfl, rfl, rfl⟩
  case round =>
    obtain ⟨k, hk, rfl, rfl, hw⟩ := hrel
    subst hw
    by_cases c5 : (k : Int) < 5
    · obtain ⟨kf, hkf⟩ : ∃ kf : Fin 5, kf.val = k := ⟨⟨k, by omega⟩, rfl⟩
      have hc := H0.out.1 kf
      have hn := upTo_next up kf
      have hl := upTo_len up k
      rw [hkf] at hc hn
      have hk0 : (0 : Int) ≤ (k : Int) := by omega
      have s1 : wrap64 ((k : Int) + 1) = (k : Int) + 1 := wrap64_in _ ⟨by omega, by omega⟩
      have s2 : wrap64 (((upTo up k).length : Int) + 1) = ((upTo up k).length : Int) + 1 := wrap64_in _ ⟨by omega, by omega⟩
      cases hbk : up kf with
      | false =>
        rw [hbk] at hc hn
        rw [if_neg (by decide), List.append_nil] at hn
        have HN := Lib.hid hn
        clear hn
        go_wp2
        go_roundw
        case rel => exact ⟨k + 1, by omega, by rw [HN.out], by go_num, by first | trivial | rfl⟩
        case measure => simp [intOf]; omega
      | true =>
        rw [hbk] at hc hn
        rw [if_pos rfl] at hn
        have HN := Lib.hid hn
        clear hn
        go_wp2
        go_roundw
        case rel => exact ⟨k + 1, by omega, by rw [HN.out, List.length_append]; go_num, by go_num, by first | trivial | rfl⟩
        case measure => simp [intOf]; omega
    · obtain rfl : k = 5 := by omega
      go_wp2
      go_ret
      exact ⟨rfl, H0.out.2⟩
/-- The law's own copy of who is up, and a list. -/
structure GS (w0 wr : World) (g : Nat) (up : Fin 5 → Bool) (A : Option Addr) (l : List Int) : Prop where
  u : ∀ k : Fin 5, wr.cell? ⟨g, k.val, none⟩ = some (.bool (up k))
  c : Kd.C X.KI wr A l.length l
  b : Below w0.heap.size w0 wr
  lt : g < wr.heap.size
theorem GS.below {w0 wr w' : World} {g : Nat} {up : Fin 5 → Bool} {A : Option Addr} {l : List Int} (h : GS w0 wr g up A l) (hb : Below wr.heap.size wr w') : GS w0 w' g up A l :=
  ⟨fun k => (hb.cell (p := ⟨g, k.val, none⟩) h.lt).trans (h.u k), Kd.C_below h.c hb, below_step h.b hb, Nat.lt_of_lt_of_le h.lt hb.size⟩
theorem GS.drew {w0 wr : World} {g : Nat} {up : Fin 5 → Bool} {A : Option Addr} {l : List Int} (h : GS w0 wr g up A l) : GS w0 wr.drew g up A l := h.below (Below.drew (Below.refl _ _))
theorem GS.start (w : World) (up : Fin 5 → Bool) (A : Option Addr) (l : List Int) (hC : Kd.C X.KI w A l.length l) : GS w (w.alloc (.cells (upCells up) 25)) w.heap.size up A l :=
  ⟨up_cell up _ _ (heap_alloc_new w _), Kd.C_below hC (below_alloc (Below.refl _ _) _), below_alloc (Below.refl _ _) _, by simp⟩
set_option maxHeartbeats 8000000 in
set_option maxRecDepth 100000 in
theorem good_n (up : Fin 5 → Bool) (A : Option Addr) (c : Nat) (l : List Int) (w : World) (hC : Kd.C X.KI w A l.length l) (hc : l.length ≤ c) (hn : l.Nodup) (ha : ∀ x ∈ l, upB up x = true) (h3 : l.length ≤ 3) :
    Calls Try.prog 13 #[.slice A l.length c, .agg (upCells up)] w fun e w' => e = .returned (.bool true) ∧ Below w.heap.size w w' := by
  have H0 := Lib.hid (GS.start w up A l hC)
  have HN := Lib.hid (And.intro hn ha)
  clear hn ha hC
  have hA : 0 < l.length → ∃ ad, A = some ad := fun h => by
    obtain ⟨ad, e, _⟩ := C_get_int H0.out.c 0 h
    exact ⟨ad, e⟩
  unfold upCells at *
  go_enter Try.func13, Try.ntmps13
  go_wp2
  generalize w.alloc (.cells #[.bool (up 0), .bool (up 1), .bool (up 2), .bool (up 3), .bool (up 4)] 25) = W0 at *
  have hg := w.heap.size
  go_loopw [5] (fun v5 wr => ∃ i : Nat, i ≤ l.length ∧ v5 = .int .i64 (i : Int) ∧ GS w wr w.heap.size up A l) (fun v => fun _ => l.length - (intOf v).toNat)
  case atStart => exact ⟨0, by omega, rfl, H0.out⟩
  case round =>
    obtain ⟨i, hi, rfl, hG⟩ := hrel
    clear H0
    by_cases c1 : (i : Int) < (l.length : Int)
    · have hil : i < l.length := by omega
      obtain ⟨ad, rfl⟩ := hA (by omega)
      obtain ⟨ad', e', k0⟩ := C_get_int hG.c i hil
      injection e' with e'
      subst e'
      have hux := HN.out.2 l[i] (List.getElem_mem hil)
      obtain ⟨kf, hup, hkf⟩ := (upB_iff up l[i]).1 hux
      have huc := hG.u kf
      rw [hup] at huc
      rw [← hkf] at k0
      have hi0 : (0 : Int) ≤ (i : Int) := by omega
      have s1 : wrap64 ((i : Int) + 1) = (i : Int) + 1 := wrap64_in _ ⟨by omega, by omega⟩
      have h1 : (0 : Int) ≤ (kf.val : Int) := by omega
      have h2 : (kf.val : Int) < 5 := by omega
      have h4 : (kf.val : Int) ≤ 4 := by omega
      have HG := Lib.hid hG
      have HK := Lib.hid hkf
      clear hkf hux hG
      go_wp2
      go_loopw [6] (fun v6 wr' => ∃ k : Nat, k ≤ i ∧ v6 = .int .i64 (k : Int) ∧ GS w wr' w.heap.size up (some ad) l) (fun v => fun _ => i - (intOf v).toNat)
      case atStart => exact ⟨0, by omega, rfl, HG.out⟩
      case round =>
        obtain ⟨k, hk, rfl, hG2⟩ := hrel
        clear HG k0 huc
        by_cases c2 : (k : Int) < (i : Int)
        · have hkl : k < l.length := by omega
          obtain ⟨ad', e', k0⟩ := C_get_int hG2.c i hil
          injection e' with e'
          subst e'
          obtain ⟨ad', e', k1⟩ := C_get_int hG2.c k hkl
          injection e' with e'
          subst e'
          have hne : ¬ l[i] = l[k] := by
            intro e
            have := (List.getElem_inj (h₀ := hil) (h₁ := hkl) HN.out.1).1 e
            omega
          have hk0 : (0 : Int) ≤ (k : Int) := by omega
          have s2 : wrap64 ((k : Int) + 1) = (k : Int) + 1 := wrap64_in _ ⟨by omega, by omega⟩
          have hkl' : (k : Int) < (l.length : Int) := by omega
          have HG := Lib.hid hG2
          clear hG2 HK
          generalize l[i] = x at *
          generalize l[k] = y at *
          go_wp2_with fail
          go_region_held3 (fun w' => GS w w' w.heap.size up (some ad) l ∧ w'.cell? (ad.add i) = some (.int .i64 x) ∧ w'.cell? (ad.add k) = some (.int .i64 y)) (((try go_split_ands); refine ⟨?_, ?_, ?_⟩ <;> (first | assumption | (apply GS.drew; assumption) | exact HG.out | exact HG.out.drew | go_keep))) (fail)
          go_wp2
          go_roundw
          case rel => exact ⟨k + 1, by omega, by go_num, HG.out.drew⟩
          case measure => simp [intOf]; omega
        · obtain rfl : k = i := by omega
          have HG := Lib.hid hG2
          clear hG2
          go_wp2
          go_roundw
          case rel => exact ⟨k + 1, by omega, by go_num, HG.out⟩
          case measure => simp [intOf]; omega
    · obtain rfl : i = l.length := by omega
      have HG := Lib.hid hG
      clear hG
      have h3' : (l.length : Int) ≤ 3 := by omega
      go_wp2
      go_ret
      exact ⟨by simp [h3'], HG.out.b⟩
/-- Of a list those that are up stand ahead, in order. -/
theorem now_at (up : Fin 5 → Bool) (l t : List Int) (i : Nat) (hi : i < l.length) (hu : upB up l[i] = true) : (l.filter (upB up) ++ t)[((l.take i).filter (upB up)).length]? = some l[i] := by
  have h1 : l = l.take i ++ l[i] :: l.drop (i + 1) := by
    rw [← List.drop_eq_getElem_cons hi, List.take_append_drop]
  have h2 : l.filter (upB up) ++ t = (l.take i).filter (upB up) ++ (l[i] :: ((l.drop (i + 1)).filter (upB up) ++ t)) := by
    conv => lhs; rw [h1]
    rw [List.filter_append, List.filter_cons_of_pos hu]
    simp
  rw [h2, List.getElem?_append_right (Nat.le_refl _), Nat.sub_self]
  rfl
theorem filter_next (up : Fin 5 → Bool) (l : List Int) (i : Nat) (hi : i < l.length) : ((l.take (i + 1)).filter (upB up)).length = ((l.take i).filter (upB up)).length + (if upB up l[i] = true then 1 else 0) := by
  rw [List.take_add_one, List.getElem?_eq_getElem hi, List.filter_append, List.length_append]
  congr 1
  cases h : upB up l[i] <;> simp [h]
structure SS (w0 wr : World) (g : Nat) (up : Fin 5 → Bool) (A : Option Addr) (l : List Int) (A2 : Option Addr) (l2 : List Int) : Prop where
  p : GS w0 wr g up A l
  c : Kd.C X.KI wr A2 l2.length l2
theorem SS.below {w0 wr w' : World} {g : Nat} {up : Fin 5 → Bool} {A A2 : Option Addr} {l l2 : List Int} (h : SS w0 wr g up A l A2 l2) (hb : Below wr.heap.size wr w') : SS w0 w' g up A l A2 l2 := ⟨h.p.below hb, Kd.C_below h.c hb⟩
theorem SS.drew {w0 wr : World} {g : Nat} {up : Fin 5 → Bool} {A A2 : Option Addr} {l l2 : List Int} (h : SS w0 wr g up A l A2 l2) : SS w0 wr.drew g up A l A2 l2 := h.below (Below.drew (Below.refl _ _))
set_option maxHeartbeats 8000000 in
set_option maxRecDepth 100000 in
theorem stays_n (up : Fin 5 → Bool) (A A2 : Option Addr) (c c2 : Nat) (l t : List Int) (w : World) (hC : Kd.C X.KI w A l.length l) (hc : l.length ≤ c) (hC2 : Kd.C X.KI w A2 (l.filter (upB up) ++ t).length (l.filter (upB up) ++ t)) (hc2 : (l.filter (upB up) ++ t).length ≤ c2) (h3 : l.length ≤ 3) (h4 : ∀ x ∈ l, 0 ≤ x ∧ x ≤ 4) (h5 : (l.filter (upB up) ++ t).length ≤ 10) :
    Calls Try.prog 14 #[.slice A l.length c, .slice A2 (l.filter (upB up) ++ t).length c2, .agg (upCells up)] w fun e w' => e = .returned (.bool true) ∧ Below w.heap.size w w' := by
  have hat := now_at up l t
  generalize l.filter (upB up) ++ t = now at *
  have H0 := Lib.hid (SS.mk (GS.start w up A l hC) (Kd.C_below hC2 (below_alloc (Below.refl _ _) _)))
  have HA := Lib.hid hat
  clear hat
  have HN := Lib.hid h4
  clear h4 hC hC2
  have hA : 0 < l.length → ∃ ad, A = some ad := fun h => by
    obtain ⟨ad, e, _⟩ := C_get_int H0.out.p.c 0 h
    exact ⟨ad, e⟩
  unfold upCells at *
  go_enter Try.func14, Try.ntmps14
  go_wp2
  generalize w.alloc (.cells #[.bool (up 0), .bool (up 1), .bool (up 2), .bool (up 3), .bool (up 4)] 25) = W0 at *
  go_loopw [7, 8] (fun v7 v8 wr => ∃ i : Nat, i ≤ l.length ∧ v7 = .int .i64 (((l.take i).filter (upB up)).length : Int) ∧ v8 = .int .i64 (i : Int) ∧ SS w wr w.heap.size up A l A2 now) (fun _ v => fun _ => l.length - (intOf v).toNat)
  case atStart => exact ⟨0, by omega, rfl, rfl, H0.out⟩
  case round =>
    obtain ⟨i, hi, rfl, rfl, hG⟩ := hrel
    clear H0
    by_cases c1 : (i : Int) < (l.length : Int)
    · have hil : i < l.length := by omega
      obtain ⟨ad, rfl⟩ := hA (by omega)
      obtain ⟨ad', e', k0⟩ := C_get_int hG.p.c i hil
      injection e' with e'
      subst e'
      have hx := HN.out l[i] (List.getElem_mem hil)
      have hf := filter_next up l i hil
      have hat := HA.out i hil
      have hlen : ((l.take i).filter (upB up)).length ≤ 3 := Nat.le_trans (List.length_filter_le _ _) (by rw [List.length_take]; omega)
      obtain ⟨kf, hkf⟩ : ∃ kf : Fin 5, (kf.val : Int) = l[i] := ⟨⟨l[i].toNat, by omega⟩, by simp; omega⟩
      have huc := hG.p.u kf
      rw [← hkf, upB_n] at hf hat
      rw [← hkf] at k0
      have hi0 : (0 : Int) ≤ (i : Int) := by omega
      have s1 : wrap64 ((i : Int) + 1) = (i : Int) + 1 := wrap64_in _ ⟨by omega, by omega⟩
      have h1 : (0 : Int) ≤ (kf.val : Int) := by omega
      have h2 : (kf.val : Int) < 5 := by omega
      have h4 : (kf.val : Int) ≤ 4 := by omega
      clear hkf hx
      generalize ((l.take i).filter (upB up)).length = n at *
      cases hbk : up kf with
      | false =>
        rw [hbk] at huc hf
        rw [if_neg (by decide)] at hf
        have HG := Lib.hid (And.intro hG hf)
        clear hG hf hat
        go_wp2
        go_roundw
        case rel => exact ⟨i + 1, by omega, by rw [HG.out.2]; rfl, by go_num, HG.out.1⟩
        case measure => simp [intOf]; omega
      | true =>
        rw [hbk] at huc hf
        rw [if_pos rfl] at hf
        have hnl := List.getElem?_eq_some_iff.1 (hat hbk)
        obtain ⟨hnl, hnx⟩ := hnl
        obtain ⟨ad2, rfl, k1⟩ := C_get_int hG.c n hnl
        rw [hnx] at k1
        have hnl' : (n : Int) < (now.length : Int) := by omega
        have hn0 : (0 : Int) ≤ (n : Int) := by omega
        have hnn : ¬ now.length ≤ n := by omega
        have hnb : ((n : Int) ≥ (now.length : Int)) = False := by simp; omega
        have s2 : wrap64 ((n : Int) + 1) = (n : Int) + 1 := wrap64_in _ ⟨by omega, by omega⟩
        have HG := Lib.hid (And.intro hG hf)
        clear hG hf hat hnx
        go_wp2_with fail
        go_region_held3 (fun w' => SS w w' w.heap.size up (some ad) l (some ad2) now ∧ w'.cell? (ad.add i) = some (.int .i64 (kf.val : Int)) ∧ w'.cell? (ad2.add n) = some (.int .i64 (kf.val : Int))) (((try go_split_ands); refine ⟨?_, ?_, ?_⟩ <;> (first | assumption | (apply SS.drew; assumption) | exact HG.out.1 | exact HG.out.1.drew | go_keep))) (fail)
        go_wp2
        go_roundw
        case rel => exact ⟨i + 1, by omega, by rw [HG.out.2]; go_num, by go_num, HG.out.1.drew⟩
        case measure => simp [intOf]; omega
    · obtain rfl : i = l.length := by omega
      have HG := Lib.hid hG
      clear hG
      go_wp2
      go_ret
      exact ⟨rfl, HG.out.p.b⟩
end Go.Proofs.Ythldophikcgkcaa.Y
