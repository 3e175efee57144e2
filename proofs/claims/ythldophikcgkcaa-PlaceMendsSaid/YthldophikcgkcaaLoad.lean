/- place.Load: what each node has to do. -/
import Derived.Test.YthldophikcgkcaaPick
import Derived.Test.YthldophikcgkcaaPlacePure
namespace Go.Proofs.Ythldophikcgkcaa.Y
open Go.RowKit Go.Shelf Go.Proofs Go.Sort Go.Proofs.YthldophikcgkcaaW.PrintWords Go.Proofs.YthldophikcgkcaaW.PrintLast Go.Proofs.YthldophikcgkcaaW.PrintMore Go.Proofs.Ythldophikcgkcaa.X Go.Proofs.Ythldophikcgkcaa.PPlace

theorem two_alloc (w : World) (X Y : Obj) : ((w.alloc X).alloc Y).heap[w.heap.size + 1]? = some Y := by
  have := heap_alloc_new (w.alloc X) Y
  simpa using this
/-- What a node has to do. -/
def ldV (m h : List Int) (i : Int) : Int := (if hasB i h = true then 2 else 0) + (if hasB i m = true then 1 else 0)
def upd (f : Fin 5 → Int) (k : Fin 5) (v : Int) : Fin 5 → Int := fun i => if i = k then v else f i
def boxC (e b c : Int) (A3 A4 : Option Addr) (c3 c4 : Nat) (m h : List Int) : Array Value := #[.int .i64 e, .int .i64 b, .int .i64 c, .slice A3 m.length c3, .slice A4 h.length c4]
/-- The call's own memory: the configuration, the result (noughts), the counts so far. -/
structure LS (w wr : World) (bx : Array Value) (f : Fin 5 → Int) : Prop where
  c : wr.heap[w.heap.size]? = some (.cells bx 24 (0, 0))
  z : wr.heap[w.heap.size + 1]? = some (.cells (ldCells fun _ => 0) 79 (0, 0))
  o : wr.heap[w.heap.size + 2]? = some (.cells (ldCells f) 79 (0, 0))
  b : Below w.heap.size w wr
theorem LS.lt {w wr : World} {bx : Array Value} {f : Fin 5 → Int} (h : LS w wr bx f) : w.heap.size + 2 < wr.heap.size := (Array.getElem?_eq_some_iff.1 h.o).1
theorem LS.below {w wr w2 : World} {bx : Array Value} {f : Fin 5 → Int} (h : LS w wr bx f) (hb : Below wr.heap.size wr w2) : LS w w2 bx f := by
  have hl := h.lt
  exact ⟨(hb.block _ (by omega)).trans h.c, (hb.block _ (by omega)).trans h.z, (hb.block _ (by omega)).trans h.o, below_step h.b hb⟩
theorem set_cells (f : Fin 5 → Int) (k : Fin 5) (v : Int) : (ldCells f).setIfInBounds k.val (.int .i64 v) = ldCells (upd f k v) := by
  match k with
  | 0 => rfl
  | 1 => rfl
  | 2 => rfl
  | 3 => rfl
  | 4 => rfl
theorem LS.set {w wr : World} {bx : Array Value} {f : Fin 5 → Int} (h : LS w wr bx f) (k : Fin 5) (v : Int) : LS w (wr.setCell ⟨w.heap.size + 2, k.val, none⟩ (.int .i64 v)) bx (upd f k v) := by
  have hne : ∀ j, j ≠ w.heap.size + 2 → (wr.setCell ⟨w.heap.size + 2, k.val, none⟩ (.int .i64 v)).heap[j]? = wr.heap[j]? := fun j hj => Below.heap_setCell _ _ _ _ hj
  refine ⟨(hne _ (by omega)).trans h.c, (hne _ (by omega)).trans h.z, ?_, ?_⟩
  · have := blk_set h.o k.val (.int .i64 v)
    rw [set_cells] at this
    exact this
  · exact ⟨h.b.os, h.b.tape, h.b.output, by simpa [World.setCell] using h.b.size, fun j hj => (hne j (by omega)).trans (h.b.block j hj)⟩
theorem LS.congr {w wr : World} {bx : Array Value} {f f' : Fin 5 → Int} (h : LS w wr bx f) (he : ∀ i, f i = f' i) : LS w wr bx f' := by
  have : f = f' := funext he
  rw [← this]
  exact h
theorem LS.cell {w wr : World} {bx : Array Value} {f : Fin 5 → Int} (h : LS w wr bx f) (k : Fin 5) : wr.cell? ⟨w.heap.size + 2, k.val, none⟩ = some (.int .i64 (f k)) := ld_cell f _ wr h.o k
theorem LS.frz {w wr : World} {bx : Array Value} {f : Fin 5 → Int} (h : LS w wr bx f) (k : Nat) : wr.frozen? ⟨w.heap.size + 2, k, none⟩ = false := by simp [World.frozen?, h.o]
/-- The counts are laid into the result. -/
theorem LS.sets_z {w wr : World} {bx : Array Value} {f : Fin 5 → Int} (h : LS w wr bx f) (F : Fin 5 → Int) : (sets wr (w.heap.size + 1) 0 (ldCells F).toList).heap[w.heap.size + 1]? = some (.cells (ldCells F) 79 (0, 0)) ∧ Below w.heap.size w (sets wr (w.heap.size + 1) 0 (ldCells F).toList) := by
  refine ⟨blk_put (blk_put (blk_put (blk_put (blk_put h.z 0 _ rfl) 1 _ rfl) 2 _ rfl) 3 _ rfl) 4 _ rfl, ?_⟩
  exact below_set (below_set (below_set (below_set (below_set h.b (by omega)) (by omega)) (by omega)) (by omega)) (by omega)
/-- The counts of the nodes ahead of k. -/
def part (m h : List Int) (k : Nat) : Fin 5 → Int := fun i => if i.val < k then ldV m h (i.val : Int) else 0
theorem part_next (m h : List Int) (k : Fin 5) (f : Fin 5 → Int) (hf : ∀ i, i ≠ k → f i = part m h k.val i) (hv : f k = ldV m h (k.val : Int)) : ∀ i, f i = part m h (k.val + 1) i := by
  intro i
  by_cases c : i = k
  · rw [c, hv]
    unfold part
    rw [if_pos (by omega)]
  · rw [hf i c]
    unfold part
    have : i.val ≠ k.val := fun e => c (Fin.ext e)
    by_cases c2 : i.val < k.val
    · rw [if_pos c2, if_pos (by omega)]
    · rw [if_neg c2, if_neg (by omega)]
theorem part_five (m h : List Int) (i : Fin 5) : part m h 5 i = ldV m h (i.val : Int) := by
  unfold part
  rw [if_pos (by omega)]
theorem upd_ne (f : Fin 5 → Int) (k : Fin 5) (v : Int) (i : Fin 5) (h : i ≠ k) : upd f k v i = f i := by unfold upd; rw [if_neg h]
theorem upd_eq (f : Fin 5 → Int) (k : Fin 5) (v : Int) : upd f k v k = v := by unfold upd; rw [if_pos rfl]
set_option maxHeartbeats 16000000 in
set_option maxRecDepth 100000 in
theorem load_n (e b c : Int) (A3 A4 : Option Addr) (c3 c4 : Nat) (m h : List Int) (w : World) (h3 : Kd.C X.KI w A3 m.length m) (k3 : m.length ≤ c3) (h4 : Kd.C X.KI w A4 h.length h) (k4 : h.length ≤ c4) (hm : m.length ≤ 100) (hh : h.length ≤ 100) :
    Calls Try.prog 33 #[.agg #[.int .i64 e, .int .i64 b, .int .i64 c, .slice A3 m.length c3, .slice A4 h.length c4]] w fun e' w' => e' = .returned (.agg (ldCells fun i => ldV m h (i.val : Int))) ∧ Below w.heap.size w w' := by
  have H3 := Lib.hid (And.intro h3 k3)
  have H4 := Lib.hid (And.intro h4 k4)
  clear h3 k3 h4 k4
  have hu24 := Try.underlying24
  obtain ⟨bx, hbx⟩ : ∃ bx, boxC e b c A3 A4 c3 c4 m h = bx := ⟨_, rfl⟩
  have L0 : LS w (((w.alloc (.cells bx 24)).alloc (.cells (ldCells fun _ => 0) 79)).alloc (.cells (ldCells fun _ => 0) 79)) bx (part m h 0) := by
    have e0 : part m h 0 = fun _ => 0 := by
      funext i
      unfold part
      rw [if_neg (by omega)]
    rw [e0]
    refine ⟨?_, ?_, ?_, below_alloc (below_alloc (below_alloc (Below.refl _ _) _) _) _⟩
    · rw [heap_alloc_old _ _ (by simp; omega), heap_alloc_old _ _ (by simp)]
      exact heap_alloc_new w _
    · rw [heap_alloc_old _ _ (by simp)]
      exact two_alloc w _ _
    · have := two_alloc (w.alloc (.cells bx 24)) (.cells (ldCells fun _ => 0) 79) (.cells (ldCells fun _ => 0) 79)
      simpa using this
  have hch : ∀ (W : World) (k : Int), Below w.heap.size w W → Calls Try.prog 52 #[.agg bx, .int .i64 k] W fun e w' => e = .returned (.bool (hasB k h)) ∧ Below W.heap.size W w' := by
    intro W k hW
    subst hbx
    exact conf_Chains.calls 200 e b c A3 c3 m A4 c4 h k _ W (Kd.C_below H3.out.1 hW) H3.out.2 (Kd.C_below H4.out.1 hW) H4.out.2 (chains_f e b c m h k (by omega) 200 (by omega))
  have hmi : ∀ (W : World) (k : Int), Below w.heap.size w W → Calls Try.prog 53 #[.agg bx, .int .i64 k] W fun e w' => e = .returned (.bool (hasB k m)) ∧ Below W.heap.size W w' := by
    intro W k hW
    subst hbx
    exact conf_Mirrors.calls 200 e b c A3 c3 m A4 c4 h k _ W (Kd.C_below H3.out.1 hW) H3.out.2 (Kd.C_below H4.out.1 hW) H4.out.2 (mirrors_f e b c m h k (by omega) 200 (by omega))
  have hsz : (Try.prog.info? 24).map (·.size) = some bx.size := by
    subst hbx
    kernel_rfl
  have HSZ := Lib.hid hsz
  clear hsz
  have HCH := Lib.hid hch
  have HMI := Lib.hid hmi
  clear hch hmi
  have L0' := Lib.hid L0
  clear L0
  go_enter Try.func33, Try.ntmps33
  go_wp2
  go_loopw [5] (fun v wr => ∃ k : Nat, k ≤ 5 ∧ v = .int .i64 (k : Int) ∧ LS w wr bx (part m h k)) (fun v => fun _ => 5 - (intOf v).toNat)
  case atStart => 
    refine ⟨0, by omega, rfl, ?_⟩
    subst hbx
    exact L0'.out
  case round =>
    obtain ⟨k, hk, rfl, hL⟩ := hrel
    clear L0'
    by_cases c5 : (k : Int) < 5
    · have hcell := hL.cell ⟨k, by omega⟩
      have hfrz := hL.frz k
      have HL := Lib.hid hL
      clear hL
      obtain ⟨kf, hkf⟩ : ∃ kf : Fin 5, kf.val = k := ⟨⟨k, by omega⟩, rfl⟩
      have hcell := HL.out.cell kf
      rw [hkf] at hcell
      have hLz := HL.out.set kf 0
      rw [hkf] at hLz
      have hz : upd (part m h k) kf 0 kf = 0 := by simp [upd]
      have ho : ∀ i, i ≠ kf → upd (part m h k) kf 0 i = part m h kf.val i := fun i hi => by rw [hkf]; unfold upd; rw [if_neg hi]
      generalize upd (part m h k) kf 0 = f1 at hLz hz ho
      have HLz := Lib.hid (And.intro hLz ho)
      clear hLz ho
      go_wp2_with (first | ((with_reducible apply wpList_load_row (ty := 24) (g := w.heap.size) (t := 24) (fr := (0, 0)) (cs := bx) (hu := hu24)); (case hgd => with_reducible rfl); (case ho => with_reducible rfl); (case hx => rfl); (case hd => rfl); (case hg => exact HLz.out.1.c); (case hi => exact HSZ.out)))
      refine (HCH.out _ _ HLz.out.1.b).mono ?_
      rintro e1 W1 ⟨rfl, hB1⟩
      have hL1 := HLz.out.1.below hB1
      clear hB1 hcell hfrz
      have hcell := hL1.cell kf
      rw [hz, hkf] at hcell
      have hfrz := hL1.frz k
      cases hch : hasB (k : Int) h with
      | false =>
        have HL1 := Lib.hid (And.intro hL1 HLz.out.2)
        clear hL1 HLz
        go_wp2_with (first | ((with_reducible apply wpList_load_row (ty := 24) (g := w.heap.size) (t := 24) (fr := (0, 0)) (cs := bx) (hu := hu24)); (case hgd => with_reducible rfl); (case ho => with_reducible rfl); (case hx => rfl); (case hd => rfl); (case hg => exact HL1.out.1.c); (case hi => exact HSZ.out)))
        refine (HMI.out _ _ HL1.out.1.b).mono ?_
        rintro e2 W2 ⟨rfl, hB2⟩
        have hL2 := HL1.out.1.below hB2
        clear hB2 hcell hfrz
        have hcell := hL2.cell kf
        rw [hz, hkf] at hcell
        have hfrz := hL2.frz k
        cases hmi : hasB (k : Int) m with
        | false =>
          have HL2 := Lib.hid (And.intro hL2 HL1.out.2)
          clear hL2 HL1
          go_wp2
          go_roundw
          case rel =>
            refine ⟨k + 1, by omega, by go_num, ?_⟩
            rw [← hkf]
            refine LS.congr (f' := part m h (kf.val + 1)) HL2.out.1 (part_next m h kf _ (fun i hi => HL2.out.2 i hi) ?_)
            rw [hz, hkf]
            unfold ldV
            rw [hch, hmi]
            rfl
          case measure => simp [intOf]; omega
        | true =>
          have HL2 := Lib.hid (And.intro hL2 HL1.out.2)
          clear hL2 HL1
          go_wp2
          go_roundw
          case rel =>
            refine ⟨k + 1, by omega, by go_num, ?_⟩
            rw [← hkf]
            refine LS.congr (f' := part m h (kf.val + 1)) (show LS w (W2.setCell ⟨w.heap.size + 2, kf.val, none⟩ (.int .i64 1)) bx (upd f1 kf 1) from HL2.out.1.set kf 1) (part_next m h kf _ (fun i hi => (upd_ne _ _ _ _ hi).trans (HL2.out.2 i hi)) ?_)
            rw [upd_eq, hkf]
            unfold ldV
            rw [hch, hmi]
            rfl
          case measure => simp [intOf]; omega
      | true =>
        have hL1s := hL1.set kf 2
        rw [hkf] at hL1s
        have HL1 := Lib.hid (And.intro hL1s HLz.out.2)
        clear hL1s hL1 HLz
        go_wp2_with (first | ((with_reducible apply wpList_load_row (ty := 24) (g := w.heap.size) (t := 24) (fr := (0, 0)) (cs := bx) (hu := hu24)); (case hgd => with_reducible rfl); (case ho => with_reducible rfl); (case hx => rfl); (case hd => rfl); (case hg => exact HL1.out.1.c); (case hi => exact HSZ.out)))
        refine (HMI.out _ _ HL1.out.1.b).mono ?_
        rintro e2 W2 ⟨rfl, hB2⟩
        have hL2 := HL1.out.1.below hB2
        clear hB2 hcell hfrz
        have hcell := hL2.cell kf
        have h2 : upd f1 kf 2 kf = 2 := by simp [upd]
        rw [h2, hkf] at hcell
        have hfrz := hL2.frz k
        cases hmi : hasB (k : Int) m with
        | false =>
          have HL2 := Lib.hid (And.intro hL2 HL1.out.2)
          clear hL2 HL1
          go_wp2
          go_roundw
          case rel =>
            refine ⟨k + 1, by omega, by go_num, ?_⟩
            rw [← hkf]
            refine LS.congr (f' := part m h (kf.val + 1)) HL2.out.1 (part_next m h kf _ (fun i hi => (upd_ne _ _ _ _ hi).trans (HL2.out.2 i hi)) ?_)
            rw [upd_eq, hkf]
            unfold ldV
            rw [hch, hmi]
            rfl
          case measure => simp [intOf]; omega
        | true =>
          have HL2 := Lib.hid (And.intro hL2 HL1.out.2)
          clear hL2 HL1
          go_wp2
          go_roundw
          case rel =>
            refine ⟨k + 1, by omega, by go_num, ?_⟩
            rw [← hkf]
            refine LS.congr (f' := part m h (kf.val + 1)) (show LS w (W2.setCell ⟨w.heap.size + 2, kf.val, none⟩ (.int .i64 3)) bx (upd (upd f1 kf 2) kf 3) from HL2.out.1.set kf 3) (part_next m h kf _ (fun i hi => (upd_ne _ _ _ _ hi).trans ((upd_ne _ _ _ _ hi).trans (HL2.out.2 i hi))) ?_)
            rw [upd_eq, hkf]
            unfold ldV
            rw [hch, hmi]
            rfl
          case measure => simp [intOf]; omega
    · obtain rfl : k = 5 := by omega
      have hL5 := LS.congr hL (part_five m h)
      have HL := Lib.hid hL5
      clear hL hL5
      go_wp2_with (first | ((with_reducible apply wpList_load_row (ty := 79) (g := w.heap.size + 1 + 1) (t := 79) (fr := (0, 0)) (hu := Try.underlying79)); (case hgd => with_reducible rfl); (case ho => with_reducible rfl); (case hx => rfl); (case hd => rfl); (case hg => exact HL.out.o); (case hi => kernel_rfl)) | ((with_reducible apply wpList_store_sets (ty := 79) (g := w.heap.size + 1) (t := 79)); (case hgd => with_reducible rfl); (case ho => with_reducible rfl); (case hx => rfl); (case hy => rfl); (case hg => exact HL.out.z); (case hi => kernel_rfl); (case hold => kernel_rfl); (case h1 => kernel_rfl)))
      (try simp only [Exit.inBlock, Exit.then])
      refine bodyPost_ret (results_cell_row rfl _ _ (w.heap.size + 1) 79 (ldCells fun i => ldV m h (i.val : Int)) (0, 0) _ rfl (HL.out.sets_z _).1 Try.underlying79 rfl (by kernel_rfl)) rfl ?_
      exact ⟨rfl, (HL.out.sets_z _).2⟩
end Go.Proofs.Ythldophikcgkcaa.Y
