/- place.rank: nodes that are up, those with less to do first, then by their numbers. -/
import Derived.Test.YthldophikcgkcaaXGen
import Derived.Test.YthldophikcgkcaaConcat
import Derived.Test.YthldophikcgkcaaWWords
import Derived.Test.YthldophikcgkcaaWMore
import Derived.Shelf.SlSortCmp.Insertion
import Derived.Shelf.SlicesG.Cmp
import Derived.Sort.OwnSortedInts
import Derived.Lib.OwnBridge
import Derived.LoopTactic
import Derived.Lib.Hide
import Derived.Deep.OwnRows
import Derived.Deep.RegionHeld3
namespace Go.Proofs.Ythldophikcgkcaa.X
open Go.RowKit Go.Shelf Go.Proofs Go.Sort Go.Proofs.YthldophikcgkcaaW.PrintWords Go.Proofs.YthldophikcgkcaaW.PrintLast Go.Proofs.YthldophikcgkcaaW.PrintMore

/-- A node's number as a value. -/
def encN (x : Fin 5) : Value := .int .i64 (x.val : Int)
/-- Which of two nodes has less to do. -/
def cmpN (ld : Fin 5 → Int) (x y : Fin 5) : Int := Lib.compareInt (ld x) (ld y)
def ldCells (ld : Fin 5 → Int) : Array Value := #[.int .i64 (ld 0), .int .i64 (ld 1), .int .i64 (ld 2), .int .i64 (ld 3), .int .i64 (ld 4)]
theorem ld_cell (ld : Fin 5 → Int) (g : Nat) (w : World) (hb : w.heap[g]? = some (.cells (ldCells ld) 79 (0, 0))) (x : Fin 5) : w.cell? ⟨g, x.val, none⟩ = some (.int .i64 (ld x)) := by
  simp only [World.cell?, hb]
  match x with
  | 0 => rfl
  | 1 => rfl
  | 2 => rfl
  | 3 => rfl
  | 4 => rfl
set_option maxHeartbeats 2000000 in
set_option maxRecDepth 100000 in
theorem closure_n (ld : Fin 5 → Int) (g : Nat) (w : World) (hb : w.heap[g]? = some (.cells (ldCells ld) 79 (0, 0))) (x y : Fin 5) :
    Calls Try.prog 50 #[encN x, encN y, .pointer (some ⟨g, 0, none⟩)] w fun e w' => e = .returned (.int .i64 (cmpN ld x y)) ∧ ∃ q, w' = w.drewN q := by
  have hx := ld_cell ld g w hb x
  have hy := ld_cell ld g w hb y
  have hcon := AnyG.cmp_Compare_int cmp_int (ld x) (ld y)
  unfold cmpN encN
  generalize ld x = lx at *
  generalize ld y = ly at *
  have h1 : (0 : Int) ≤ (x.val : Int) := by omega
  have h2 : (x.val : Int) < 5 := by omega
  have h3 : (0 : Int) ≤ (y.val : Int) := by omega
  have h4 : (y.val : Int) < 5 := by omega
  change ∀ w, Calls Try.prog 51 _ _ _ at hcon
  generalize Lib.compareInt lx ly = r at hcon ⊢
  go_enter Try.func50, Try.ntmps50
  go_wp2_with fail
  go_region_held3 (fun w' => w'.cell? ⟨g, x.val, none⟩ = some (.int .i64 lx) ∧ w'.cell? ⟨g, y.val, none⟩ = some (.int .i64 ly)) (go_keep) (first | (go_at_call 51; refine (hcon _).mono ?_; rintro e w' ⟨rfl, rfl⟩))
  all_goals go_wp2
  all_goals go_ret
  all_goals exact ⟨rfl, 1, rfl⟩
theorem heap_sortWorld {α : Type} [Inhabited α] (enc : α → Value) (w : World) (blk m : Nat) (d : Array α) (os : Array Obj) (g : Nat) (hg : g < w.heap.size) (hne : g ≠ blk) : (sortWorld enc w blk 0 m d os).heap[g]? = w.heap[g]? := by
  show (grow (putRow enc w blk 0 d) os).heap[g]? = _
  rw [heap_grow_old _ _ (by simpa using hg)]
  simp [putRow, mapBlock, Array.getElem?_modify, show blk ≠ g from fun e => hne e.symm]
theorem cmp_reads (ld : Fin 5 → Int) (g blk size : Nat) (w : World) (hb : w.heap[g]? = some (.cells (ldCells ld) 79 (0, 0))) (hne : g ≠ blk) :
    CmpReads Try.prog 50 #[.pointer (some ⟨g, 0, none⟩)] encN (cmpN ld) blk 0 size w := by
  intro m os dk hdk x y
  exact closure_n ld g _ (by rw [heap_sortWorld _ _ _ _ _ _ _ (Array.getElem?_eq_some_iff.1 hb).1 hne]; exact hb) x y
set_option maxHeartbeats 2000000 in
set_option maxRecDepth 100000 in
theorem stable_n (ld : Fin 5 → Int) (g blk cap : Nat) (d : Array (Fin 5)) (w : World) (hb : w.heap[g]? = some (.cells (ldCells ld) 79 (0, 0))) (hne : g ≠ blk) (hH : Holds encN w blk 0 d) (hs : d.size < 20) :
    Calls Try.prog 67 #[.slice (some ⟨blk, 0, none⟩) d.size cap, .int .i64 (d.size : Int), .func (.func 50) #[] #[.pointer (some ⟨g, 0, none⟩)]] w fun e w' =>
      e = .returned (.tuple #[]) ∧ ∃ n, w' = (putRow encN w blk 0 (Sort.insertionSort (ltOf (cmpN ld)) d 0 d.size)).drewN n := by
  have eg : ∀ args w, (callFunc 50 args).run Try.prog w = .ok (.enter 50 args) w := enters_of Try.func50 (by kernel_rfl) rfl
  have hI := Any.insertionSortCmpFunc_one ins_int encN (fun _ => rfl) (cmpN ld) 50 #[.pointer (some ⟨g, 0, none⟩)] blk 0 cap 0 d.size d w eg (cmp_reads ld g blk d.size w hb hne) hH (Nat.zero_le _) (Nat.le_refl _) (by omega)
  have HI := Lib.hid hI
  clear hI hH hb eg
  have hs' : (d.size : Int) < 20 := by omega
  generalize Sort.insertionSort (ltOf (cmpN ld)) d 0 d.size = r at HI ⊢
  generalize d.size = n at *
  go_enter Try.func67, Try.ntmps67
  go_wp2
  go_loopw [7, 8] (fun va vb wr => va = .int .i64 0 ∧ vb = .int .i64 20 ∧ wr = w) (fun _ _ => fun _ => 0)
  case atStart => exact ⟨rfl, rfl, rfl⟩
  case round =>
    obtain ⟨rfl, rfl, hwr⟩ := hrel
    have hwr' := hwr.symm
    subst hwr'
    have h20 : ¬ ((20 : Int) ≤ (n : Int)) := by omega
    go_wp2_with fail
    refine HI.out.mono ?_
    rintro e w' ⟨rfl, q, hw'⟩
    have HW := Lib.hid hw'
    clear hw'
    go_wp2
    go_loopw [6] (fun vc wr => vc = .int .i64 20 ∧ wr = w') (fun _ => fun _ => 0)
    case atStart => exact ⟨rfl, rfl⟩
    case round =>
      obtain ⟨rfl, hwr2⟩ := hrel
      have hwr3 := hwr2.symm
      subst hwr3
      have h21 : ¬ ((20 : Int) < (n : Int)) := by omega
      go_wp2
      go_end0
      exact ⟨rfl, q, HW.out⟩
set_option maxHeartbeats 2000000 in
set_option maxRecDepth 100000 in
theorem sortStable_n (ld : Fin 5 → Int) (g blk cap : Nat) (d : Array (Fin 5)) (w : World) (hb : w.heap[g]? = some (.cells (ldCells ld) 79 (0, 0))) (hne : g ≠ blk) (hH : Holds encN w blk 0 d) (hs : d.size < 20) :
    Calls Try.prog 49 #[.slice (some ⟨blk, 0, none⟩) d.size cap, .func (.func 50) #[] #[.pointer (some ⟨g, 0, none⟩)]] w fun e w' =>
      e = .returned (.tuple #[]) ∧ ∃ n, w' = (putRow encN w blk 0 (Sort.insertionSort (ltOf (cmpN ld)) d 0 d.size)).drewN n := by
  have HI := Lib.hid (stable_n ld g blk cap d w hb hne hH hs)
  clear hH hb
  generalize Sort.insertionSort (ltOf (cmpN ld)) d 0 d.size = r at HI ⊢
  generalize d.size = n at *
  go_enter Try.func49, Try.ntmps49
  go_wp2_with fail
  refine HI.out.mono ?_
  rintro e w' ⟨rfl, q, hw'⟩
  have HW := Lib.hid hw'
  clear hw'
  go_wp2
  go_end0
  exact ⟨rfl, q, HW.out⟩
def upCells (up : Fin 5 → Bool) : Array Value := #[.bool (up 0), .bool (up 1), .bool (up 2), .bool (up 3), .bool (up 4)]
/-- The nodes ahead of k that are up. -/
def upTo (up : Fin 5 → Bool) (k : Nat) : List (Fin 5) := (([0, 1, 2, 3, 4] : List (Fin 5)).take k).filter up
def nums (l : List (Fin 5)) : List Int := l.map fun x => (x.val : Int)
/-- Nodes that are up, in their order. -/
def rk (up : Fin 5 → Bool) (ld : Fin 5 → Int) : List (Fin 5) := (Sort.insertionSort (ltOf (cmpN ld)) (upTo up 5).toArray 0 (upTo up 5).length).toList
theorem insInner_size {α : Type} [Inhabited α] (lt : α → α → Bool) (a : Nat) : ∀ (j : Nat) (d : Array α), (Sort.insInner lt a j d).size = d.size
  | 0, d => rfl
  | j + 1, d => by
    unfold Sort.insInner
    split
    · rw [insInner_size lt a j, Sort.size_swp]
    · rfl
theorem insOuter_size {α : Type} [Inhabited α] (lt : α → α → Bool) (a b : Nat) : ∀ (n i : Nat) (d : Array α), b - i = n → (Sort.insOuter lt a b i d).size = d.size := by
  intro n
  induction n with
  | zero => intro i d h; rw [Sort.insOuter, if_neg (by omega)]
  | succ n ih =>
    intro i d h
    rw [Sort.insOuter, if_pos (by omega), ih (i + 1) _ (by omega), insInner_size]
theorem ins_size {α : Type} [Inhabited α] (lt : α → α → Bool) (d : Array α) (a b : Nat) : (Sort.insertionSort lt d a b).size = d.size := insOuter_size lt a b _ _ d rfl
theorem upTo_len (up : Fin 5 → Bool) (k : Nat) : (upTo up k).length ≤ 5 := by
  unfold upTo
  exact Nat.le_trans (List.length_filter_le _ _) (by rw [List.length_take]; exact Nat.min_le_right _ _)
theorem one_C (W : World) (x : Int) : Kd.C KI (W.alloc (.cells #[.int .i64 x] 3)) (some ⟨W.heap.size, 0, none⟩) 1 [x] := by
  refine ⟨rfl, by omega, fun _ => ⟨_, rfl, fun j p hj => ?_⟩⟩
  have hj0 : j = 0 := by have := (List.getElem?_eq_some_iff.1 hj).1; simp at this; omega
  subst hj0
  have hp : p = x := by simpa using hj.symm
  subst hp
  refine ⟨[.int .i64 p], rfl, rfl, fun i u hu => ?_⟩
  have hi0 : i = 0 := by have := (List.getElem?_eq_some_iff.1 hu).1; simp at this; omega
  subst hi0
  have hu' : u = .int .i64 p := by simpa using hu.symm
  subst hu'
  have h_ := heap_alloc_new W (.cells #[.int .i64 p] 3)
  show World.cell? _ ⟨W.heap.size, 0, none⟩ = _
  simp only [World.cell?, h_]
  rfl
set_option maxHeartbeats 8000000 in
set_option maxRecDepth 100000 in
theorem rank_n (up : Fin 5 → Bool) (ld : Fin 5 → Int) (w : World) (hne : upTo up 5 ≠ []) :
    Calls Try.prog 32 #[.agg (upCells up), .agg (ldCells ld)] w fun e w' => ∃ v, e = .returned v ∧ Kd.R KI 3 w' w.heap.size (fun _ => True) v (nums (rk up ld)) ∧ Below w.heap.size w w' := by
  have hne' := Lib.hid hne
  clear hne
  have hst : ∀ k : Nat, (hk : k < 5) → upTo up (k + 1) = upTo up k ++ if up ⟨k, hk⟩ = true then [⟨k, hk⟩] else [] := by
    intro k hk
    have h1 : ([0, 1, 2, 3, 4] : List (Fin 5)).take (k + 1) = ([0, 1, 2, 3, 4] : List (Fin 5)).take k ++ [⟨k, hk⟩] := by
      have hk' : k = 0 ∨ k = 1 ∨ k = 2 ∨ k = 3 ∨ k = 4 := by omega
      rcases hk' with rfl | rfl | rfl | rfl | rfl <;> rfl
    unfold upTo
    rw [h1, List.filter_append]
    congr 1
    cases h : up ⟨k, hk⟩ <;> simp [h]
  have HST := Lib.hid hst
  clear hst
  have hg3 : (((w.alloc (.cells (upCells up) 25)).alloc (.cells (ldCells ld) 79))).heap[w.heap.size + 1]? = some (.cells (ldCells ld) 79 (0, 0)) := by
    have := heap_alloc_new (w.alloc (.cells (upCells up) 25)) (.cells (ldCells ld) 79)
    simpa using this
  have hs0 : (((w.alloc (.cells (upCells up) 25)).alloc (.cells (ldCells ld) 79))).heap.size = w.heap.size + 2 := by simp
  have hb0 : Below w.heap.size w ((w.alloc (.cells (upCells up) 25)).alloc (.cells (ldCells ld) 79)) := below_alloc (below_alloc (Below.refl _ _) _) _
  have H0 := Lib.hid (And.intro hg3 (And.intro hs0 hb0))
  clear hg3 hs0 hb0
  obtain ⟨uc, huc⟩ : ∃ uc, upCells up = uc := ⟨_, rfl⟩
  obtain ⟨lc, hlc⟩ : ∃ lc, ldCells ld = lc := ⟨_, rfl⟩
  have HL := Lib.hid hlc
  have huc' := huc.symm
  unfold upCells at huc'
  rw [huc, hlc] at H0 ⊢
  clear huc hlc
  rw [huc'] at H0 ⊢
  clear huc' uc
  go_enter Try.func32, Try.ntmps32
  go_wp2
  obtain ⟨W0, hW0⟩ : ∃ W0, (w.alloc (.cells #[.bool (up 0), .bool (up 1), .bool (up 2), .bool (up 3), .bool (up 4)] 25)).alloc (.cells lc 79) = W0 := ⟨_, rfl⟩
  rw [hW0] at H0 ⊢
  clear hW0
  go_loopw [5, 9] (fun v i wr => ∃ k : Nat, k ≤ 5 ∧ i = .int .i64 (k : Int) ∧ Kd.R KI 3 wr W0.heap.size (fun _ => True) v (nums (upTo up k)) ∧ Below W0.heap.size W0 wr) (fun _ i => fun _ => 5 - (intOf i).toNat)
  case atStart => exact ⟨0, by omega, rfl, Kd.R_nil _ _ _ _ _, Below.refl _ _⟩
  case round =>
    obtain ⟨k, hk, rfl, HRr, HBr⟩ := hrel
    have hk' : k = 0 ∨ k = 1 ∨ k = 2 ∨ k = 3 ∨ k = 4 ∨ k = 5 := by omega
    rcases hk' with rfl | rfl | rfl | rfl | rfl | rfl
    · have hs := HST.out 0 (by omega)
      have hup : up ⟨0, by omega⟩ = up 0 := rfl
      rw [hup] at hs
      cases hbk : up 0 with
      | false =>
        rw [hbk, if_neg (by decide), List.append_nil] at hs
        go_wp2_with ((with_reducible refine gate_dst (N := 12) rfl ?_); refine Kd.event_run (v := .bool false) (w1 := wr) rfl ?hr ?_; (case hr => first | rfl | kernel_rfl))
        go_roundw
        case rel => exact ⟨1, by omega, by go_num, by rw [hs]; exact HRr, HBr⟩
        case measure => simp [intOf]
      | true =>
        rw [hbk, if_pos rfl] at hs
        go_wp2_with (first | ((with_reducible refine gate_dst (N := 12) rfl ?_); refine Kd.event_run (v := .bool true) (w1 := wr) rfl ?hr ?_; (case hr => first | rfl | kernel_rfl)) | ((with_reducible refine gate_builtin (b := .append) (xs := #[.tmp 14, .tmp 16]) rfl ?_); at_builtin; refine Kd.R_append_row (Value.int .i64) 0 (w0 := W0) W0.heap.size rfl (.tmp 14) (.tmp 16) 22 3 (.int .i64 0) 8 rfl Try.underlying22 infoI rfl (by decide) u5 (nums (upTo up 0)) [(0 : Int)] (some ⟨wr.heap.size, 0, none⟩) 1 1 (fun _ => True) rfl rfl (fun _ _ => trivial) (Kd.R_alloc HRr _) (one_C wr 0) (below_alloc HBr _) (Nat.le_trans HBr.size (by simp)) (by have := upTo_len up 0; simp only [nums, List.length_map]; omega) ?_; intro v1 w1 HR1 HB1 _ _))
        go_roundw
        case rel => exact ⟨1, by omega, by go_num, (by rw [hs]; show Kd.R KI 3 w1 W0.heap.size (fun _ => True) v1 (nums (upTo up 0 ++ [0])); unfold nums; rw [List.map_append]; exact HR1), HB1⟩
        case measure => simp [intOf]
    · have hs := HST.out 1 (by omega)
      have hup : up ⟨1, by omega⟩ = up 1 := rfl
      rw [hup] at hs
      cases hbk : up 1 with
      | false =>
        rw [hbk, if_neg (by decide), List.append_nil] at hs
        go_wp2_with ((with_reducible refine gate_dst (N := 12) rfl ?_); refine Kd.event_run (v := .bool false) (w1 := wr) rfl ?hr ?_; (case hr => first | rfl | kernel_rfl))
        go_roundw
        case rel => exact ⟨2, by omega, by go_num, by rw [hs]; exact HRr, HBr⟩
        case measure => simp [intOf]
      | true =>
        rw [hbk, if_pos rfl] at hs
        go_wp2_with (first | ((with_reducible refine gate_dst (N := 12) rfl ?_); refine Kd.event_run (v := .bool true) (w1 := wr) rfl ?hr ?_; (case hr => first | rfl | kernel_rfl)) | ((with_reducible refine gate_builtin (b := .append) (xs := #[.tmp 14, .tmp 16]) rfl ?_); at_builtin; refine Kd.R_append_row (Value.int .i64) 0 (w0 := W0) W0.heap.size rfl (.tmp 14) (.tmp 16) 22 3 (.int .i64 0) 8 rfl Try.underlying22 infoI rfl (by decide) u5 (nums (upTo up 1)) [(1 : Int)] (some ⟨wr.heap.size, 0, none⟩) 1 1 (fun _ => True) rfl rfl (fun _ _ => trivial) (Kd.R_alloc HRr _) (one_C wr 1) (below_alloc HBr _) (Nat.le_trans HBr.size (by simp)) (by have := upTo_len up 1; simp only [nums, List.length_map]; omega) ?_; intro v1 w1 HR1 HB1 _ _))
        go_roundw
        case rel => exact ⟨2, by omega, by go_num, (by rw [hs]; show Kd.R KI 3 w1 W0.heap.size (fun _ => True) v1 (nums (upTo up 1 ++ [1])); unfold nums; rw [List.map_append]; exact HR1), HB1⟩
        case measure => simp [intOf]
    · have hs := HST.out 2 (by omega)
      have hup : up ⟨2, by omega⟩ = up 2 := rfl
      rw [hup] at hs
      cases hbk : up 2 with
      | false =>
        rw [hbk, if_neg (by decide), List.append_nil] at hs
        go_wp2_with ((with_reducible refine gate_dst (N := 12) rfl ?_); refine Kd.event_run (v := .bool false) (w1 := wr) rfl ?hr ?_; (case hr => first | rfl | kernel_rfl))
        go_roundw
        case rel => exact ⟨3, by omega, by go_num, by rw [hs]; exact HRr, HBr⟩
        case measure => simp [intOf]
      | true =>
        rw [hbk, if_pos rfl] at hs
        go_wp2_with (first | ((with_reducible refine gate_dst (N := 12) rfl ?_); refine Kd.event_run (v := .bool true) (w1 := wr) rfl ?hr ?_; (case hr => first | rfl | kernel_rfl)) | ((with_reducible refine gate_builtin (b := .append) (xs := #[.tmp 14, .tmp 16]) rfl ?_); at_builtin; refine Kd.R_append_row (Value.int .i64) 0 (w0 := W0) W0.heap.size rfl (.tmp 14) (.tmp 16) 22 3 (.int .i64 0) 8 rfl Try.underlying22 infoI rfl (by decide) u5 (nums (upTo up 2)) [(2 : Int)] (some ⟨wr.heap.size, 0, none⟩) 1 1 (fun _ => True) rfl rfl (fun _ _ => trivial) (Kd.R_alloc HRr _) (one_C wr 2) (below_alloc HBr _) (Nat.le_trans HBr.size (by simp)) (by have := upTo_len up 2; simp only [nums, List.length_map]; omega) ?_; intro v1 w1 HR1 HB1 _ _))
        go_roundw
        case rel => exact ⟨3, by omega, by go_num, (by rw [hs]; show Kd.R KI 3 w1 W0.heap.size (fun _ => True) v1 (nums (upTo up 2 ++ [2])); unfold nums; rw [List.map_append]; exact HR1), HB1⟩
        case measure => simp [intOf]
    · have hs := HST.out 3 (by omega)
      have hup : up ⟨3, by omega⟩ = up 3 := rfl
      rw [hup] at hs
      cases hbk : up 3 with
      | false =>
        rw [hbk, if_neg (by decide), List.append_nil] at hs
        go_wp2_with ((with_reducible refine gate_dst (N := 12) rfl ?_); refine Kd.event_run (v := .bool false) (w1 := wr) rfl ?hr ?_; (case hr => first | rfl | kernel_rfl))
        go_roundw
        case rel => exact ⟨4, by omega, by go_num, by rw [hs]; exact HRr, HBr⟩
        case measure => simp [intOf]
      | true =>
        rw [hbk, if_pos rfl] at hs
        go_wp2_with (first | ((with_reducible refine gate_dst (N := 12) rfl ?_); refine Kd.event_run (v := .bool true) (w1 := wr) rfl ?hr ?_; (case hr => first | rfl | kernel_rfl)) | ((with_reducible refine gate_builtin (b := .append) (xs := #[.tmp 14, .tmp 16]) rfl ?_); at_builtin; refine Kd.R_append_row (Value.int .i64) 0 (w0 := W0) W0.heap.size rfl (.tmp 14) (.tmp 16) 22 3 (.int .i64 0) 8 rfl Try.underlying22 infoI rfl (by decide) u5 (nums (upTo up 3)) [(3 : Int)] (some ⟨wr.heap.size, 0, none⟩) 1 1 (fun _ => True) rfl rfl (fun _ _ => trivial) (Kd.R_alloc HRr _) (one_C wr 3) (below_alloc HBr _) (Nat.le_trans HBr.size (by simp)) (by have := upTo_len up 3; simp only [nums, List.length_map]; omega) ?_; intro v1 w1 HR1 HB1 _ _))
        go_roundw
        case rel => exact ⟨4, by omega, by go_num, (by rw [hs]; show Kd.R KI 3 w1 W0.heap.size (fun _ => True) v1 (nums (upTo up 3 ++ [3])); unfold nums; rw [List.map_append]; exact HR1), HB1⟩
        case measure => simp [intOf]
    · have hs := HST.out 4 (by omega)
      have hup : up ⟨4, by omega⟩ = up 4 := rfl
      rw [hup] at hs
      cases hbk : up 4 with
      | false =>
        rw [hbk, if_neg (by decide), List.append_nil] at hs
        go_wp2_with ((with_reducible refine gate_dst (N := 12) rfl ?_); refine Kd.event_run (v := .bool false) (w1 := wr) rfl ?hr ?_; (case hr => first | rfl | kernel_rfl))
        go_roundw
        case rel => exact ⟨5, by omega, by go_num, by rw [hs]; exact HRr, HBr⟩
        case measure => simp [intOf]
      | true =>
        rw [hbk, if_pos rfl] at hs
        go_wp2_with (first | ((with_reducible refine gate_dst (N := 12) rfl ?_); refine Kd.event_run (v := .bool true) (w1 := wr) rfl ?hr ?_; (case hr => first | rfl | kernel_rfl)) | ((with_reducible refine gate_builtin (b := .append) (xs := #[.tmp 14, .tmp 16]) rfl ?_); at_builtin; refine Kd.R_append_row (Value.int .i64) 0 (w0 := W0) W0.heap.size rfl (.tmp 14) (.tmp 16) 22 3 (.int .i64 0) 8 rfl Try.underlying22 infoI rfl (by decide) u5 (nums (upTo up 4)) [(4 : Int)] (some ⟨wr.heap.size, 0, none⟩) 1 1 (fun _ => True) rfl rfl (fun _ _ => trivial) (Kd.R_alloc HRr _) (one_C wr 4) (below_alloc HBr _) (Nat.le_trans HBr.size (by simp)) (by have := upTo_len up 4; simp only [nums, List.length_map]; omega) ?_; intro v1 w1 HR1 HB1 _ _))
        go_roundw
        case rel => exact ⟨5, by omega, by go_num, (by rw [hs]; show Kd.R KI 3 w1 W0.heap.size (fun _ => True) v1 (nums (upTo up 4 ++ [4])); unfold nums; rw [List.map_append]; exact HR1), HB1⟩
        case measure => simp [intOf]
    · have hln := upTo_len up 5
      have hown : wr.ownsRow W0.heap.size 3 1 u5 (upTo up 5).length ((upTo up 5).map encN) := by
        have h := Kd.own_of_R HRr
        have e1 : (nums (upTo up 5)).length = (upTo up 5).length := by simp [nums]
        have e2 : encs (Value.int .i64) (nums (upTo up 5)) = (upTo up 5).map encN := by simp [encs, nums, encN]
        rw [e1, e2] at h
        exact h
      have hv : u5 ≠ .slice none 0 0 := by
        intro e
        rcases hown.2 with ⟨_, h0⟩ | ⟨g, cap, cur, hv, _⟩
        · exact hne'.out (List.eq_nil_of_length_eq_zero h0)
        · rw [e] at hv; cases hv
      obtain ⟨g, cap, rfl, hbase, hlt, hnc, hmx, hl0, hH⟩ := Lib.holds_of_ownsRow hown hv
      have hg2 := H0.out.2.1
      have hbg : wr.heap[w.heap.size + 1]? = some (.cells (ldCells ld) 79 (0, 0)) := by
        rw [HBr.block _ (by omega), H0.out.1, HL.out]
      have hsz : (upTo up 5).toArray.size = (upTo up 5).length := by simp
      have hS := sortStable_n ld (w.heap.size + 1) g cap (upTo up 5).toArray wr hbg (by omega) hH (by omega)
      rw [hsz] at hS
      have hrk : Sort.insertionSort (ltOf (cmpN ld)) (upTo up 5).toArray 0 (upTo up 5).length = (rk up ld).toArray := by simp [rk]
      have hrl : (rk up ld).length = (upTo up 5).length := by
        have := ins_size (ltOf (cmpN ld)) (upTo up 5).toArray 0 (upTo up 5).length
        rw [hrk] at this
        simpa using this
      rw [hrk] at hS
      have ho := Lib.ownsRow_putRow (q := 0) (ys := rk up ld) (k := (upTo up 5).length) hown hrl (Nat.le_refl _)
      rw [ahead_zero, ← hrl, List.take_length] at ho
      have hB := Lib.below_putRow (q := 0) (enc := encN) (g := g) (d := (rk up ld).toArray) HBr hbase
      rw [ahead_zero] at hB
      have HS := Lib.hid hS
      have HO := Lib.hid (And.intro ho hB)
      clear hS ho hB hH hown hbg HRr HBr
      go_wp2_with fail
      refine HS.out.mono ?_
      rintro e w' ⟨rfl, q, hw'⟩
      have hR : Kd.R KI 3 w' w.heap.size (fun _ => True) (.slice (some ⟨g, 0, none⟩) (upTo up 5).length cap) (nums (rk up ld)) := by
        have h := HO.out.1
        have e2 : (rk up ld).map encN = encs (Value.int .i64) (nums (rk up ld)) := by simp [encs, nums, encN]
        have e1 : (rk up ld).length = (nums (rk up ld)).length := by simp [nums]
        rw [e2] at h
        refine Kd.R_of_own (enc := Value.int .i64) ?_ (fun _ _ => trivial)
        rw [← hrl, ← e1, hw']
        exact own_weaken (pw_own_drewN h q) (by omega)
      have hBw : Below w.heap.size w w' := by
        have h1 := H0.out.2.2
        have h2 := HO.out.2
        have h3 : Below W0.heap.size W0 w' := by rw [hw']; exact pw_below_drewN h2 q
        exact ⟨h3.os.trans h1.os, h3.tape.trans h1.tape, h3.output.trans h1.output, Nat.le_trans h1.size h3.size, fun k hk => (h3.block k (by omega)).trans (h1.block k hk)⟩
      clear hw'
      go_wp2
      go_ret
      exact ⟨_, rfl, hR, hBw⟩
end Go.Proofs.Ythldophikcgkcaa.X
