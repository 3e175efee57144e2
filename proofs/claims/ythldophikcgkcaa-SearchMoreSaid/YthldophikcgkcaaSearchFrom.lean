/- (*search.search).from: is there an order from here on? -/
import Derived.Test.YthldophikcgkcaaSearchFns
namespace Go.Proofs.Ythldophikcgkcaa.Y
set_option linter.unusedVariables false
set_option linter.unusedSimpArgs false
open Go.RowKit Go.Proofs Go.IntWalk Go.Proofs.YthldophikcgkcaaW.PrintWords Go.Proofs.YthldophikcgkcaaW.PrintLast Go.Proofs.YthldophikcgkcaaW.PrintMore Go.Proofs.Ythldophikcgkcaa.X Go.Proofs.Ythldophikcgkcaa.PSr

theorem bit_or (d k : Nat) (hd : d < 2 ^ 30) (hk : k < 30) : Go.bits .or .i64 (d : Int) (wrap64 (2 ^ k)) = ((d ||| 2 ^ k : Nat) : Int) := by
  have h2 : (2 : Nat) ^ k < 2 ^ 30 := Nat.pow_lt_pow_right (by decide) hk
  have e2 : ((2 : Int) ^ k) = ((2 ^ k : Nat) : Int) := by rw [Int.natCast_pow]; rfl
  have hor : d ||| 2 ^ k < 2 ^ 30 := Nat.or_lt_two_pow hd h2
  rw [e2]
  generalize 2 ^ k = p at *
  have e3 : wrap64 (p : Int) = (p : Int) := by unfold wrap64; omega
  rw [e3]
  have key : (BitVec.ofInt 64 (d : Int) ||| BitVec.ofInt 64 (p : Int)).toNat = d ||| p := by
    rw [BitVec.toNat_or, BitVec.ofInt_natCast, BitVec.ofInt_natCast, BitVec.toNat_ofNat, BitVec.toNat_ofNat, Nat.mod_eq_of_lt (by omega), Nat.mod_eq_of_lt (by omega)]
  show IntKind.i64.wrap ((BitVec.ofInt 64 (d : Int) ||| BitVec.ofInt 64 (p : Int)).toNat : Nat) = _
  rw [key, IntKind.wrap_i64]
  omega
theorem ba_beq (a b : ByteArray) : (a == b) = decide (a = b) := by
  cases a; cases b; rename_i a b
  show (a == b) = _
  by_cases h : a = b
  · simp [h]
  · simp [h]
theorem ba_ne (a b : ByteArray) : (a != b) = !decide (a = b) := by
  show (!(a == b)) = _
  rw [ba_beq]
theorem ba_tl {a b : ByteArray} (h : a.toList = b.toList) : a = b := by
  rw [ByteArray.toList_eq, ByteArray.toList_eq] at h
  cases a; cases b
  exact congrArg ByteArray.mk (Array.toList_inj.1 h)
theorem tl_true {a b : ByteArray} (h : a = b) : (a.toList == b.toList) = true := by rw [h]; simp
theorem tl_false {a b : ByteArray} (h : ¬ a = b) : (a.toList == b.toList) = false := by
  rw [beq_eq_false_iff_ne]
  exact fun e => h (ba_tl e)
/-- All but the map's block is as it was. -/
structure KM (w w' : World) (g : Nat) : Prop where
  os : w'.os = w.os
  tape : w'.tape = w.tape
  output : w'.output = w.output
  size : w.heap.size ≤ w'.heap.size
  block : ∀ j, j < w.heap.size → j ≠ g → w'.heap[j]? = w.heap[j]?
theorem KM.of {w w' : World} (hb : Below w.heap.size w w') (g : Nat) : KM w w' g := ⟨hb.os, hb.tape, hb.output, hb.size, fun j hj _ => hb.block j hj⟩
theorem KM.trans {w w1 w2 : World} {g : Nat} (h : KM w w1 g) (h2 : KM w1 w2 g) : KM w w2 g :=
  ⟨h2.os.trans h.os, h2.tape.trans h.tape, h2.output.trans h.output, Nat.le_trans h.size h2.size, fun j hj hg => (h2.block j (Nat.lt_of_lt_of_le hj h.size) hg).trans (h.block j hj hg)⟩
theorem KM.cells {w w' : World} {g : Nat} (h : KM w w' g) (hg : ∀ i, w.cell? ⟨g, i, none⟩ = none) (hs : ∀ p : Addr, p.block = g → w.cell? p = none) : ∀ p v, w.cell? p = some v → w'.cell? p = some v := by
  intro p v hv
  have hne : p.block ≠ g := fun e => by rw [hs p e] at hv; cases hv
  rw [World.cell?_of_block (w := w) (h.block p.block (cell_lt hv) hne)]
  exact hv
theorem map_cell {w : World} {g : Nat} {es : Array MapEntry} {k : Nat} (h : w.heap[g]? = some (.map es k)) (p : Addr) (hp : p.block = g) : w.cell? p = none := by
  unfold World.cell?
  rw [hp, h]
abbrev Pt := Nat × ByteArray
abbrev SeenIs (w : World) (bm : Nat) (S : Pt → Prop) : Prop := MapIs Try.prog 92 encP w bm S
/-- The search, and what was seen. -/
structure FM (wr : World) (gs bm : Nat) (A : Option Addr) (c : Nat) (l : List U) (S : Pt → Prop) : Prop where
  f : FS wr gs bm A c l
  m : SeenIs wr bm S
theorem FM.mcell {w : World} {gs bm : Nat} {A : Option Addr} {c : Nat} {l : List U} {S : Pt → Prop} (h : FM w gs bm A c l S) : ∀ p : Addr, p.block = bm → w.cell? p = none := by
  obtain ⟨es, k, hb, _⟩ := h.m
  exact fun p hp => map_cell hb p hp
theorem FM.ne {w : World} {gs bm : Nat} {A : Option Addr} {c : Nat} {l : List U} {S : Pt → Prop} (h : FM w gs bm A c l S) : gs ≠ bm := by
  intro e
  obtain ⟨es, k, hb, _⟩ := h.m
  have := h.f.s
  rw [e, hb] at this
  cases this
theorem FM.below {w w' : World} {gs bm : Nat} {A : Option Addr} {c : Nat} {l : List U} {S : Pt → Prop} (h : FM w gs bm A c l S) (hb : Below w.heap.size w w') : FM w' gs bm A c l S :=
  ⟨h.f.below hb, h.m.same (hb.block _ h.m.lt)⟩
theorem FM.keep {w w' : World} {gs bm : Nat} {A : Option Addr} {c : Nat} {l : List U} {S S' : Pt → Prop} (h : FM w gs bm A c l S) (k : KM w w' bm) (hm : SeenIs w' bm S') : FM w' gs bm A c l S' :=
  ⟨h.f.keep (k.block _ (blk_lt h.f.s) h.ne) (k.cells (fun i => h.mcell _ rfl) h.mcell) k.size, hm⟩
/-- The points that may be in what was seen: small enough. -/
def Small (S : Pt → Prop) : Prop := True
/-- What was seen and lies further on leads nowhere. -/
def Dead (l : List U) (S : Pt → Prop) (d : Nat) : Prop := ∀ q, S q → Sub d q.1 → ¬ Ord l q.1 q.2
/-- What is seen behind a call that found no order. -/
def Then (l : List U) (S S' : Pt → Prop) (d : Nat) : Prop := ∀ q, S' q → S q ∨ (Sub d q.1 ∧ ¬ Ord l q.1 q.2)
/-- Points: small uses' values. -/
def Vals (l : List U) : Prop := ∀ k, k < l.length → (gU l k).f1.size ≤ 1000
/-- What from answers. -/
def FromT (l : List U) (d : Nat) (v : ByteArray) (S : Pt → Prop) (w : World) (gs bm : Nat) (A : Option Addr) (c : Nat) (e : Ending) (w' : World) : Prop :=
  ∃ S', FM w' gs bm A c l S' ∧ KM w w' bm ∧ ((e = .returned (.bool true) ∧ Ord l d v) ∨ (e = .returned (.bool false) ∧ ¬ Ord l d v ∧ Then l S S' d))
/-- What the loop holds: the uses ahead of k lead nowhere. -/
structure LI (w wr : World) (gs bm : Nat) (A : Option Addr) (c : Nat) (l : List U) (S : Pt → Prop) (d : Nat) (v : ByteArray) (k : Nat) (Sk : Pt → Prop) : Prop where
  f : FM wr gs bm A c l Sk
  b : wr.heap[w.heap.size]? = some (.cells #[.int .i64 (d : Int), .string v] 92 (0, 0))
  km : KM w wr bm
  se : ∀ q, Sk q → S q ∨ q = (d, v) ∨ (Sub d q.1 ∧ ¬ Ord l q.1 q.2)
  no : ∀ j, j < k → ¬ StepP l d v j
theorem LI.below {w wr w' : World} {gs bm : Nat} {A : Option Addr} {c : Nat} {l : List U} {S Sk : Pt → Prop} {d k : Nat} {v : ByteArray} (h : LI w wr gs bm A c l S d v k Sk) (hb : Below wr.heap.size wr w') : LI w w' gs bm A c l S d v k Sk :=
  ⟨h.f.below hb, (hb.block _ (blk_lt h.b)).trans h.b, h.km.trans (KM.of hb bm), h.se, h.no⟩
theorem LI.drew {w wr : World} {gs bm : Nat} {A : Option Addr} {c : Nat} {l : List U} {S Sk : Pt → Prop} {d k : Nat} {v : ByteArray} (h : LI w wr gs bm A c l S d v k Sk) : LI w wr.drew gs bm A c l S d v k Sk := h.below (below_drew1 (Below.refl _ _))
theorem LI.next {w wr : World} {gs bm : Nat} {A : Option Addr} {c : Nat} {l : List U} {S Sk : Pt → Prop} {d k : Nat} {v : ByteArray} (h : LI w wr gs bm A c l S d v k Sk) (hk : ¬ StepP l d v k) : LI w wr gs bm A c l S d v (k + 1) Sk :=
  ⟨h.f, h.b, h.km, h.se, fun j hj => by
    by_cases c : j = k
    · rw [c]; exact hk
    · exact h.no j (by omega)⟩
theorem LI.dead {w wr : World} {gs bm : Nat} {A : Option Addr} {c : Nat} {l : List U} {S Sk : Pt → Prop} {d k : Nat} {v : ByteArray} (h : LI w wr gs bm A c l S d v k Sk) (hD : Dead l S d) (hb : d.testBit k = false) : Dead l Sk (d ||| 2 ^ k) := by
  intro q hq hs
  rcases h.se q hq with h1 | h1 | h1
  · exact hD q h1 (sub_trans (sub_or d k) hs)
  · rw [h1] at hs
    exact absurd hs (not_sub hb)
  · exact h1.2
theorem box_pt (w : World) (o : Obj) : Below w.heap.size w (w.alloc o) := below_alloc (Below.refl _ _) o
set_option maxHeartbeats 8000000 in
set_option maxRecDepth 100000 in
theorem from_n (gs bm : Nat) (A : Option Addr) (c : Nat) (l : List U) (hl : l.length ≤ 30) (hv : Vals l) : ∀ (m d : Nat) (v : ByteArray) (S : Pt → Prop) (w : World), 2 ^ l.length - d ≤ m → d < 2 ^ l.length → v.size ≤ 1000 → FM w gs bm A c l S → Dead l S d →
    Calls Try.prog 38 #[.pointer (some ⟨gs, 0, none⟩), .agg #[.int .i64 (d : Int), .string v]] w fun e w' => FromT l d v S w gs bm A c e w' := by
  intro m
  induction m with
  | zero => intro d v S w h1 h2; omega
  | succ m ih =>
    intro d v S w hm hd hvs hF hD
    have IH := Lib.hid ih
    clear ih
    have hd30 : d < 2 ^ 30 := Nat.lt_of_lt_of_le hd (Nat.pow_le_pow_right (by decide) hl)
    have F0 := hF.below (box_pt w (.cells #[.int .i64 (d : Int), .string v] 92))
    have B0 := heap_alloc_new w (.cells #[.int .i64 (d : Int), .string v] 92)
    have K0 := KM.of (box_pt w (.cells #[.int .i64 (d : Int), .string v] 92)) bm
    have H0 := Lib.hid (And.intro F0 (And.intro B0 K0))
    have p0 := blk_cell B0 0
    have HW := Lib.hid (And.intro hF.m.lt hD)
    clear F0 B0 K0 hF hD
    go_enter Try.func38, Try.ntmps38
    go_wp2_with fail
    generalize w.alloc (.cells #[.int .i64 (d : Int), .string v] 92) = W0 at *
    refine (all_n W0 gs bm A c l d H0.out.1.f hl hd30).mono ?_
    rintro e1 W1 ⟨⟨b, rfl, hb⟩, hB1⟩
    have F1 := H0.out.1.below hB1
    have B1 := (hB1.block _ (blk_lt H0.out.2.1)).trans H0.out.2.1
    have K1 := H0.out.2.2.trans (KM.of hB1 bm)
    cases b with
    | true =>
      have hO := Ord.stop (l := l) d v (hb.1 rfl)
      have HH := Lib.hid (And.intro F1 (And.intro K1 hO))
      clear F1 K1 hO B1 hB1 hb H0 p0
      go_wp2
      go_ret
      exact ⟨S, HH.out.1, HH.out.2.1, Or.inl ⟨rfl, HH.out.2.2⟩⟩
    | false =>
      have hna : ¬ AllP l d := fun h => absurd (hb.2 h) (by decide)
      have hsub : SeenIs W1.drew bm S := F1.m.same rfl
      have hkey := keyP d v (by omega) hvs
      obtain ⟨r, c4, hr⟩ := hsub.look ptLaw Try.underlying87 (zero_false _) encP_inj (d, v) hkey
      have c1 : W1.drew.cell? ⟨gs, 1, none⟩ = some (.map (some bm)) := F1.f.cells.2
      have c2 : W1.drew.cell? ⟨w.heap.size, 0, none⟩ = some (.int .i64 (d : Int)) := blk_cell B1 0
      have c3 : W1.drew.cell? ⟨w.heap.size, 1, none⟩ = some (.string v) := blk_cell B1 1
      have HF := Lib.hid (And.intro F1 (And.intro B1 (And.intro K1 (And.intro hna hr))))
      clear F1 B1 K1 hna hr hB1 hb H0 p0 hsub
      go_wp2_with fail
      refine start_ (n := 6) (S := (fun w' => w'.cell? ⟨gs, 1, none⟩ = some (.map (some bm)) ∧ w'.cell? ⟨w.heap.size, 0, none⟩ = some (.int .i64 (d : Int)) ∧ w'.cell? ⟨w.heap.size, 1, none⟩ = some (.string v) ∧ (Instr.lookup 87 (.map (some bm)) (.agg #[.int .i64 (d : Int), .string v]) false).run Try.prog w' = .ok (.bool r) w')) (ds := ([] : List Nat)) #[false, false, false, false, false, false] (by kernel_rfl) rfl rfl (⟨c1, c2, c3, c4⟩) (fun hHeld => ?_)
      refine pure_ (i := 0) (N := some 12) (v := ?_) (a' := ?_) #[true, false, false, false, false, false] rfl rfl (by kernel_rfl) (fun _ _ _ h => h) (Or.inl ⟨by rfl, ?_⟩) ?_ ?_
      rotate_left
      · (intro w'; go_simp; with_reducible rfl)
      rotate_left
      · simp only [Act.put, List.setIfInBounds_toArray, List.set_cons_zero, List.set_cons_succ, i64_w, i32_w]
        rfl
      refine pure_ (i := 1) (N := some 13) (v := ?_) (a' := ?_) #[true, true, false, false, false, false] rfl rfl (by kernel_rfl) (fun _ _ _ h => h) (Or.inl ⟨by rfl, ?_⟩) ?_ ?_
      rotate_left
      · (intro w'; go_simp; with_reducible rfl)
      rotate_left
      · simp only [Act.put, List.setIfInBounds_toArray, List.set_cons_zero, List.set_cons_succ, i64_w, i32_w]
        rfl
      refine pure_ (i := 2) (N := some 14) (v := ?_) (a' := ?_) #[true, true, true, false, false, false] rfl rfl (by kernel_rfl) (fun _ _ _ h => h) (Or.inl ⟨by rfl, ?_⟩) ?_ ?_
      rotate_left
      · (intro w'; go_simp; with_reducible rfl)
      rotate_left
      · simp only [Act.put, List.setIfInBounds_toArray, List.set_cons_zero, List.set_cons_succ, i64_w, i32_w]
        rfl
      refine take_ (i := 3) (N := some 15) (v := ?_) (a' := ?_) #[true, true, true, true, false, false] rfl rfl (by kernel_rfl) (fun _ _ _ h => h) (Or.inl ⟨by rfl, ?_⟩) hHeld ?_ ?_
      rotate_left
      · rintro w' ⟨s0, s1, s2, s3⟩
        go_simp
        with_reducible rfl
      rotate_left
      · simp only [Act.put, List.setIfInBounds_toArray, List.set_cons_zero, List.set_cons_succ, i64_w, i32_w]
        rfl
      refine take_ (i := 4) (N := some 16) (v := ?_) (a' := ?_) #[true, true, true, true, true, false] rfl rfl (by kernel_rfl) (fun _ _ _ h => h) (Or.inl ⟨by rfl, ?_⟩) hHeld ?_ ?_
      rotate_left
      · rintro w' ⟨s0, s1, s2, s3⟩
        go_simp
        with_reducible rfl
      rotate_left
      · simp only [Act.put, List.setIfInBounds_toArray, List.set_cons_zero, List.set_cons_succ, i64_w, i32_w]
        rfl
      refine take_ (i := 5) (N := some 17) (v := ?_) (a' := ?_) #[true, true, true, true, true, true] rfl rfl (by kernel_rfl) (fun _ _ _ h => h) (Or.inl ⟨by rfl, ?_⟩) hHeld ?_ ?_
      rotate_left
      · rintro w' ⟨s0, s1, s2, s3⟩
        go_simp
        with_reducible rfl
      rotate_left
      · simp only [Act.put, List.setIfInBounds_toArray, List.set_cons_zero, List.set_cons_succ, i64_w, i32_w]
        rfl
      refine done_ (by kernel_rfl) ?_
      generalize hW2 : W1.drew = W2 at *
      have F2 : FM W2 gs bm A c l S := by rw [← hW2]; exact ⟨HF.out.1.f.keep rfl (fun p v h => h) (Nat.le_refl _), HF.out.1.m.same rfl⟩
      have B2 : W2.heap[w.heap.size]? = some (.cells #[.int .i64 (d : Int), .string v] 92 (0, 0)) := by rw [← hW2]; exact HF.out.2.1
      have K2 : KM w W2 bm := by rw [← hW2]; exact HF.out.2.2.1.trans (KM.of (below_drew1 (Below.refl _ _)) bm)
      obtain ⟨hna, hr⟩ := HF.out.2.2.2
      clear HF hW2 c1 c2 c3 c4 hHeld
      cases r with
      | true =>
        have hO := HW.out.2 (d, v) (hr.1 rfl) (sub_refl d)
        have HH := Lib.hid (And.intro F2 (And.intro K2 hO))
        clear F2 K2 hO B2 hr hna
        go_wp2
        go_ret
        exact ⟨S, HH.out.1, HH.out.2.1, Or.inr ⟨rfl, HH.out.2.2, fun q h => Or.inl h⟩⟩
      | false =>
        have hns : ¬ S (d, v) := fun h => absurd (hr.2 h) (by decide)
        have hsub : SeenIs W2.drew bm S := F2.m.same rfl
        obtain ⟨W3, hlay, hM3, hz3, hb3, hBl3⟩ := hsub.lay ptLaw Try.underlying87 (d, v) hkey encP_inj hns
        have K3 : KM W2 W3 bm := ⟨(hBl3 0 (Nat.zero_le _)).os, (hBl3 0 (Nat.zero_le _)).tape, (hBl3 0 (Nat.zero_le _)).output, by rw [hz3]; exact Nat.le_refl _, fun j _ hj => hb3 j hj⟩
        have F3 := F2.keep K3 hM3
        have hwbm : w.heap.size ≠ bm := by have := HW.out.1; omega
        have B3 := (hb3 _ hwbm).trans B2
        have c1 : W2.drew.cell? ⟨gs, 1, none⟩ = some (.map (some bm)) := F2.f.cells.2
        have c2 : W2.drew.cell? ⟨w.heap.size, 0, none⟩ = some (.int .i64 (d : Int)) := blk_cell B2 0
        have c3 : W2.drew.cell? ⟨w.heap.size, 1, none⟩ = some (.string v) := blk_cell B2 1
        have d1 : W3.cell? ⟨gs, 1, none⟩ = some (.map (some bm)) := F3.f.cells.2
        have d2 : W3.cell? ⟨w.heap.size, 0, none⟩ = some (.int .i64 (d : Int)) := blk_cell B3 0
        have d3 : W3.cell? ⟨w.heap.size, 1, none⟩ = some (.string v) := blk_cell B3 1
        have KK := K2.trans K3
        have HF := Lib.hid (And.intro F3 (And.intro B3 (And.intro KK hna)))
        clear F3 B3 KK hna hr hM3 hz3 hb3 hBl3 K3 F2 B2 K2 hns hsub
        have hlay' : (Instr.mapUpdate 87 (.map (some bm)) (.agg #[.int .i64 (d : Int), .string v]) (.bool true)).run Try.prog W2.drew = .ok () W3 := hlay
        clear hlay
        go_wp2_with fail
        refine start_ (n := 6) (S := (fun w' => w'.cell? ⟨gs, 1, none⟩ = some (.map (some bm)) ∧ w'.cell? ⟨w.heap.size, 0, none⟩ = some (.int .i64 (d : Int)) ∧ w'.cell? ⟨w.heap.size, 1, none⟩ = some (.string v))) (ds := ([] : List Nat)) #[false, false, false, false, false, false] (by kernel_rfl) rfl rfl (⟨c1, c2, c3⟩) (fun hHeld => ?_)
        refine pure_ (i := 0) (N := some 18) (v := ?_) (a' := ?_) #[true, false, false, false, false, false] rfl rfl (by kernel_rfl) (fun _ _ _ h => h) (Or.inl ⟨by rfl, ?_⟩) ?_ ?_
        rotate_left
        · (intro w'; go_simp; with_reducible rfl)
        rotate_left
        · simp only [Act.put, List.setIfInBounds_toArray, List.set_cons_zero, List.set_cons_succ, i64_w, i32_w]
          rfl
        refine pure_ (i := 1) (N := some 19) (v := ?_) (a' := ?_) #[true, true, false, false, false, false] rfl rfl (by kernel_rfl) (fun _ _ _ h => h) (Or.inl ⟨by rfl, ?_⟩) ?_ ?_
        rotate_left
        · (intro w'; go_simp; with_reducible rfl)
        rotate_left
        · simp only [Act.put, List.setIfInBounds_toArray, List.set_cons_zero, List.set_cons_succ, i64_w, i32_w]
          rfl
        refine pure_ (i := 2) (N := some 20) (v := ?_) (a' := ?_) #[true, true, true, false, false, false] rfl rfl (by kernel_rfl) (fun _ _ _ h => h) (Or.inl ⟨by rfl, ?_⟩) ?_ ?_
        rotate_left
        · (intro w'; go_simp; with_reducible rfl)
        rotate_left
        · simp only [Act.put, List.setIfInBounds_toArray, List.set_cons_zero, List.set_cons_succ, i64_w, i32_w]
          rfl
        refine take_ (i := 3) (N := some 21) (v := ?_) (a' := ?_) #[true, true, true, true, false, false] rfl rfl (by kernel_rfl) (fun _ _ _ h => h) (Or.inl ⟨by rfl, ?_⟩) hHeld ?_ ?_
        rotate_left
        · rintro w' ⟨s0, s1, s2⟩
          go_simp
          with_reducible rfl
        rotate_left
        · simp only [Act.put, List.setIfInBounds_toArray, List.set_cons_zero, List.set_cons_succ, i64_w, i32_w]
          rfl
        refine take_ (i := 4) (N := some 22) (v := ?_) (a' := ?_) #[true, true, true, true, true, false] rfl rfl (by kernel_rfl) (fun _ _ _ h => h) (Or.inl ⟨by rfl, ?_⟩) hHeld ?_ ?_
        rotate_left
        · rintro w' ⟨s0, s1, s2⟩
          go_simp
          with_reducible rfl
        rotate_left
        · simp only [Act.put, List.setIfInBounds_toArray, List.set_cons_zero, List.set_cons_succ, i64_w, i32_w]
          rfl
        refine one_ (i := 5) (N := none) #[true, true, true, true, true, true] rfl rfl (by kernel_rfl) (by decide) (fun K hK => ?_)
        refine skip_ (by rfl) rfl (w1 := W3) (by go_simp; (try with_reducible rfl)) ?_
        refine hK.out _ _ ⟨d1, d2, d3⟩ (fun hHeld => ?_)
        refine done_ (by kernel_rfl) ?_
        clear c1 c2 c3 hlay' hHeld
        have L0 : LI w W3 gs bm A c l S d v 0 (fun y => S y ∨ y = (d, v)) :=
          ⟨HF.out.1, HF.out.2.1, HF.out.2.2.1, fun q hq => by
            rcases hq with h | h
            · exact Or.inl h
            · exact Or.inr (Or.inl h), fun j hj => absurd hj (by omega)⟩
        have hna := HF.out.2.2.2
        have HL := Lib.hid L0
        have HNA := Lib.hid hna
        clear HF L0 hna d1 d2 d3
        have q0 := HL.out.f.f.cells.1
        go_wp2
        clear q0
        go_loopw [28] (fun v28 wr => ∃ (k : Nat) (Sk : Pt → Prop), k ≤ l.length ∧ v28 = .int .i64 (k : Int) ∧ LI w wr gs bm A c l S d v k Sk) (fun v => fun _ => l.length - (intOf v).toNat)
        case atStart => exact ⟨0, _, by omega, rfl, HL.out⟩
        case round =>
          obtain ⟨k, Sk, hk, rfl, hL⟩ := hrel
          clear HL
          by_cases c1 : (k : Int) < (l.length : Int)
          · have hkl : k < l.length := by omega
            obtain ⟨ad, rfl, _, k0, k1, k2, k3⟩ := hL.f.f.r k hkl
            have hk0 : (0 : Int) ≤ (k : Int) := by omega
            have s1 : wrap64 ((k : Int) + 1) = (k : Int) + 1 := wrap64_in _ ⟨by omega, by omega⟩
            generalize hx : gU l k = x at k0 k1 k2 k3
            have HX := Lib.hid hx
            clear hx
            obtain ⟨x0, x1, x2, x3⟩ := x
            obtain ⟨p1, p2, p3⟩ := sets_use wr (.bool x0) (.string x1) (.int .i64 x2) (.int .i64 x3)
            have hL2 := hL.below p2
            have HQ := Lib.hid (And.intro hL2 (And.intro p1 p3))
            clear p1 p2 p3 hL hL2
            go_upto_region 9 with (first | ((with_reducible apply wpList_store_sets (ty := 40) (g := wr.heap.size) (t := 40) (old := zU)); (case hgd => with_reducible rfl); (case ho => with_reducible rfl); (case hx => rfl); (case hy => rfl); (case hg => exact heap_alloc_new wr _); (case hi => kernel_rfl); (case hold => kernel_rfl); (case h1 => kernel_rfl)))
            generalize sets (wr.alloc (.cells #[.bool false, .string ⟨#[]⟩, .int .i64 0, .int .i64 0] 40)) wr.heap.size 0 [.bool x0, .string x1, .int .i64 x2, .int .i64 x3] = W4 at *
            have e0 : W4.cell? ⟨w.heap.size, 0, none⟩ = some (.int .i64 (d : Int)) := blk_cell HQ.out.1.b 0
            clear k0 k1 k2 k3
            have hbit := bit_and d k
            cases hb : d.testBit k with
            | true =>
              rw [hb, if_pos rfl] at hbit
              have hns : ¬ StepP l d v k := fun h => by rw [h.1] at hb; exact absurd hb (by decide)
              have HN := Lib.hid hns
              clear hns
              go_wp2
              go_roundw
              case rel => exact ⟨k + 1, Sk, by omega, by go_num, HQ.out.1.next HN.out⟩
              case measure => simp [intOf]; omega
            | false =>
              rw [hb, if_neg (by decide)] at hbit
              have HB := Lib.hid hb
              clear hb
              go_wp2_with fail
              refine (may_n W4 gs bm (some ad) c l d k HQ.out.1.f.f hl hd30 hkl).mono ?_
              rintro e4 W5 ⟨⟨b5, rfl, hb5⟩, hB5⟩
              have hL5 := HQ.out.1.below hB5
              have hU5 := (hB5.block _ (blk_lt HQ.out.2.1)).trans HQ.out.2.1
              have HQ5 := Lib.hid (And.intro hL5 (And.intro hU5 hb5))
              clear hL5 hU5 hb5 HQ e0
              cases b5 with
              | false =>
                have hns : ¬ StepP l d v k := fun h => absurd (HQ5.out.2.2.2 h.2.1) (by decide)
                have HN := Lib.hid hns
                clear hns
                go_wp2
                go_roundw
                case rel => exact ⟨k + 1, Sk, by omega, by go_num, HQ5.out.1.next HN.out⟩
                case measure => simp [intOf]; omega
              | true =>
                have e0 : W5.cell? ⟨w.heap.size, 0, none⟩ = some (.int .i64 (d : Int)) := blk_cell HQ5.out.1.b 0
                have e1 : W5.cell? ⟨w.heap.size, 1, none⟩ = some (.string v) := blk_cell HQ5.out.1.b 1
                -- region 10
                have hor := bit_or d k hd30 (by omega)
                go_wp2_with fail
                refine start_ (n := 10) (S := (fun w' => w'.cell? ⟨w.heap.size, 0, none⟩ = some (.int .i64 (d : Int)) ∧ w'.cell? ⟨w.heap.size, 1, none⟩ = some (.string v))) (ds := ([] : List Nat)) #[false, false, false, false, false, false, false, false, false, false] (by kernel_rfl) rfl rfl (⟨e0, e1⟩) (fun hHeld => ?_)
                refine pure_ (i := 0) (N := some 47) (v := ?_) (a' := ?_) #[true, false, false, false, false, false, false, false, false, false] rfl rfl (by kernel_rfl) (fun _ _ _ h => h) (Or.inl ⟨by rfl, ?_⟩) ?_ ?_
                rotate_left
                · (intro w'; go_simp; with_reducible rfl)
                rotate_left
                · simp only [Act.put, List.setIfInBounds_toArray, List.set_cons_zero, List.set_cons_succ, i64_w, i32_w]
                  rfl
                refine take_ (i := 1) (N := some 48) (v := ?_) (a' := ?_) #[true, true, false, false, false, false, false, false, false, false] rfl rfl (by kernel_rfl) (fun _ _ _ h => h) (Or.inl ⟨by rfl, ?_⟩) hHeld ?_ ?_
                rotate_left
                · rintro w' ⟨s0, s1⟩
                  go_simp
                  with_reducible rfl
                rotate_left
                · simp only [Act.put, List.setIfInBounds_toArray, List.set_cons_zero, List.set_cons_succ, i64_w, i32_w]
                  rfl
                refine pure_ (i := 2) (N := some 49) (v := ?_) (a' := ?_) #[true, true, true, false, false, false, false, false, false, false] rfl rfl (by kernel_rfl) (fun _ _ _ h => h) (Or.inl ⟨by rfl, ?_⟩) ?_ ?_
                rotate_left
                · (intro w'; go_simp; with_reducible rfl)
                rotate_left
                · simp only [Act.put, List.setIfInBounds_toArray, List.set_cons_zero, List.set_cons_succ, i64_w, i32_w]
                  rfl
                refine pure_ (i := 3) (N := some 50) (v := ?_) (a' := ?_) #[true, true, true, true, false, false, false, false, false, false] rfl rfl (by kernel_rfl) (fun _ _ _ h => h) (Or.inl ⟨by rfl, ?_⟩) ?_ ?_
                rotate_left
                · (intro w'; go_simp; with_reducible rfl)
                rotate_left
                · simp only [Act.put, List.setIfInBounds_toArray, List.set_cons_zero, List.set_cons_succ, i64_w, i32_w]
                  rfl
                refine pure_ (i := 4) (N := some 51) (v := ?_) (a' := ?_) #[true, true, true, true, true, false, false, false, false, false] rfl rfl (by kernel_rfl) (fun _ _ _ h => h) (Or.inl ⟨by rfl, ?_⟩) ?_ ?_
                rotate_left
                · (intro w'; go_simp; with_reducible rfl)
                rotate_left
                · simp only [Act.put, List.setIfInBounds_toArray, List.set_cons_zero, List.set_cons_succ, i64_w, i32_w]
                  rfl
                refine pure_ (i := 5) (N := some 52) (v := ?_) (a' := ?_) #[true, true, true, true, true, true, false, false, false, false] rfl rfl (by kernel_rfl) (fun _ _ _ h => h) (Or.inl ⟨by rfl, ?_⟩) ?_ ?_
                rotate_left
                · (intro w'; go_simp; with_reducible rfl)
                rotate_left
                · simp only [Act.put, List.setIfInBounds_toArray, List.set_cons_zero, List.set_cons_succ, i64_w, i32_w]
                  rfl
                refine take_ (i := 6) (N := some 53) (v := ?_) (a' := ?_) #[true, true, true, true, true, true, true, false, false, false] rfl rfl (by kernel_rfl) (fun _ _ _ h => h) (Or.inl ⟨by rfl, ?_⟩) hHeld ?_ ?_
                rotate_left
                · rintro w' ⟨s0, s1⟩
                  go_simp
                  with_reducible rfl
                rotate_left
                · simp only [Act.put, List.setIfInBounds_toArray, List.set_cons_zero, List.set_cons_succ, i64_w, i32_w]
                  rfl
                refine pure_ (i := 7) (N := some 54) (v := ?_) (a' := ?_) #[true, true, true, true, true, true, true, true, false, false] rfl rfl (by kernel_rfl) (fun _ _ _ h => h) (Or.inl ⟨by rfl, ?_⟩) ?_ ?_
                rotate_left
                · (intro w'; go_simp; with_reducible rfl)
                rotate_left
                · simp only [Act.put, List.setIfInBounds_toArray, List.set_cons_zero, List.set_cons_succ, i64_w, i32_w]
                  rfl
                refine one_ (i := 8) (N := some 7) #[true, true, true, true, true, true, true, true, true, false] rfl rfl (by kernel_rfl) (by decide) (fun K hK => ?_)
                refine box_step ?hg (N := 7) ?hd (cs := #[.int .i64 0, .string ⟨#[]⟩]) (t := 92) ?hr ?_; (case hd => rfl); (case hg => rfl); (case hr => first | (go_simp; done) | (go_simp; rfl))
                intro g7 hg7 w7 hbox hb7
                have hL7 := (HQ5.out.1.drew).below hb7
                have HG7 := Lib.hid hg7
                clear hg7
                have hU7 : w7.heap[wr.heap.size]? = _ := (hb7.block _ (by have := blk_lt HQ5.out.2.1; exact this)).trans HQ5.out.2.1
                refine hK.out _ _ ⟨blk_cell hL7.b 0, blk_cell hL7.b 1⟩ (fun hHeld => ?_)
                refine norm_ (a' := ?_) ?_ ?_
                rotate_left
                · show Act.put _ (some 7) _ = _
                  simp only [Act.put, List.setIfInBounds_toArray, List.set_cons_zero, List.set_cons_succ, i64_w, i32_w]
                  rfl
                clear hK K
                have hne0 : w.heap.size ≠ g7 := by have := blk_lt HQ5.out.1.b; have : g7 = W5.heap.size := HG7.out; omega
                refine one_ (i := 9) (N := none) #[true, true, true, true, true, true, true, true, true, true] rfl rfl (by kernel_rfl) (by decide) (fun K hK => ?_)
                have hs0 : w7.cell? ⟨g7, 0, none⟩ = some (.int .i64 0) := (blk_cell hbox 0).trans rfl
                have hf0 := blk_frozen hbox 0
                have hs1 : w7.cell? ⟨g7, 1, none⟩ = some (.string ⟨#[]⟩) := (blk_cell hbox 1).trans rfl
                have hf1 := blk_frozen hbox 1
                refine skip_ (w1 := ?_) (by rfl) rfl ?_ ?_
                rotate_left
                · go_simp
                  rfl
                refine hK.out _ _ ⟨(cell_far (p := ⟨g7, 1, none⟩) hne0 _).trans ((cell_far (p := ⟨g7, 0, none⟩) hne0 _).trans (blk_cell hL7.b 0)), (cell_far (p := ⟨g7, 1, none⟩) hne0 _).trans ((cell_far (p := ⟨g7, 0, none⟩) hne0 _).trans (blk_cell hL7.b 1))⟩ (fun hHeld => ?_)
                -- behind region 10
                refine done_ (by kernel_rfl) ?_
                have hB8 : Below W5.drew.heap.size W5.drew ((w7.setCell ⟨g7, 0, none⟩ (.int .i64 ((d ||| 2 ^ k : Nat) : Int))).setCell ⟨g7, 1, none⟩ (.string v)) := below_set (below_set hb7 (Nat.le_of_eq HG7.out.symm)) (Nat.le_of_eq HG7.out.symm)
                have hL8 := (HQ5.out.1.drew).below hB8
                have hU8 := (hB8.block _ (by have := blk_lt HQ5.out.2.1; exact this)).trans HQ5.out.2.1
                have hP8 : ((w7.setCell ⟨g7, 0, none⟩ (.int .i64 ((d ||| 2 ^ k : Nat) : Int))).setCell ⟨g7, 1, none⟩ (.string v)).heap[g7]? = some (.cells #[.int .i64 ((d ||| 2 ^ k : Nat) : Int), .string v] 92 (0, 0)) := blk_put (blk_put hbox 0 _ rfl) 1 _ rfl
                generalize (w7.setCell ⟨g7, 0, none⟩ (.int .i64 ((d ||| 2 ^ k : Nat) : Int))).setCell ⟨g7, 1, none⟩ (.string v) = W8 at *
                have HL8 := Lib.hid (And.intro hL8 (And.intro hP8 (And.intro hU8 hB8)))
                have u0 : W8.cell? ⟨wr.heap.size, 0, none⟩ = some (.bool x0) := blk_cell hU8 0
                have u1 : W8.cell? ⟨wr.heap.size, 1, none⟩ = some (.string x1) := blk_cell hU8 1
                have n0 : W8.cell? ⟨g7, 0, none⟩ = some (.int .i64 ((d ||| 2 ^ k : Nat) : Int)) := blk_cell hP8 0
                have n1 : W8.cell? ⟨g7, 1, none⟩ = some (.string v) := blk_cell hP8 1
                have m1 : W8.cell? ⟨w.heap.size, 1, none⟩ = some (.string v) := blk_cell hL8.b 1
                have f1 := blk_frozen hP8 1
                have hvk := hv k hkl
                rw [HX.out] at hvk
                clear hB8 hL8 hU8 hP8 hL7 hU7 hb7 hbox hs0 hf0 hs1 hf1 hHeld hK K e0 e1 hor hbit
                cases x0 with
                | true =>
                  go_upto_region 14 with (fail)
                  have hP9 : (W8.setCell ⟨g7, 1, none⟩ (.string x1)).heap[g7]? = some (.cells #[.int .i64 ((d ||| 2 ^ k : Nat) : Int), .string x1] 92 (0, 0)) := blk_put HL8.out.2.1 1 _ rfl
                  have hLn := (HQ5.out.1.drew).below (below_set (g := g7) (j := 1) (v := .string x1) HL8.out.2.2.2 (Nat.le_of_eq HG7.out.symm))
                  clear u0 u1 n0 n1 m1 f1
                  generalize W8.setCell ⟨g7, 1, none⟩ (.string x1) = W10 at *
                  have n0 : W10.cell? ⟨g7, 0, none⟩ = some (.int .i64 ((d ||| 2 ^ k : Nat) : Int)) := blk_cell hP9 0
                  have n1 : W10.cell? ⟨g7, 1, none⟩ = some (.string x1) := blk_cell hP9 1
                  have HLn := Lib.hid hLn
                  clear hLn hP9
                  go_wp2_with fail
                  have hLn := HLn.out
                  clear n0 n1 HLn
                  refine (IH.out (d ||| 2 ^ k) x1 Sk W10 (by have h1 := or_lt hd hkl; have h2 := lt_or HB.out; omega) (or_lt hd hkl) hvk hLn.f (hLn.dead HW.out.2 HB.out)).mono ?_
                  rintro e9 W9 ⟨S', hF', hK', hcase⟩
                  have hb9 := (hK'.block _ (blk_lt hLn.b) hwbm).trans hLn.b
                  have hk9 := hLn.km.trans hK'
                  have hse := hLn.se
                  have hno9 := hLn.no
                  rcases hcase with ⟨rfl, hO⟩ | ⟨rfl, hno, hth⟩
                  · have hOO := Ord.step (l := l) d v k hkl HB.out (HQ5.out.2.2.1 (by first | rfl | trivial)) (by rw [HX.out]; exact Or.inl rfl) (by rw [HX.out]; exact hO)
                    have HH := Lib.hid (And.intro hF' (And.intro hk9 hOO))
                    clear hF' hK' hb9 hk9 hO hOO hLn hse hno9
                    go_wp2
                    go_ret
                    exact ⟨S', HH.out.1, HH.out.2.1, Or.inl ⟨rfl, HH.out.2.2⟩⟩
                  · have hst : ¬ StepP l d v k := fun h => hno (by have h4 := h.2.2.2; rw [HX.out] at h4; exact h4)
                    have hLL : LI w W9 gs bm (some ad) c l S d v k S' := ⟨hF', hb9, hk9, fun q hq => by
                      rcases hth q hq with h | h
                      · exact hse q h
                      · exact Or.inr (Or.inr ⟨sub_trans (sub_or d k) h.1, h.2⟩), hno9⟩
                    have HH := Lib.hid (hLL.next hst)
                    clear hF' hK' hb9 hk9 hno hth hLL hLn hse hno9 hst
                    go_wp2
                    go_roundw
                    case rel => exact ⟨k + 1, S', by omega, by go_num, HH.out⟩
                    case measure => simp [intOf]; omega
                | false =>
                  by_cases hxv : x1 = v
                  · have hxb : (x1 != v) = false := by rw [ba_ne, decide_eq_true hxv]; rfl
                    have hxe := tl_true hxv
                    have HXV := Lib.hid hxv
                    clear hxv
                    go_wp2_with fail
                    have hLn := HL8.out.1
                    refine (IH.out (d ||| 2 ^ k) v Sk W8 (by have h1 := or_lt hd hkl; have h2 := lt_or HB.out; omega) (or_lt hd hkl) hvs hLn.f (hLn.dead HW.out.2 HB.out)).mono ?_
                    rintro e9 W9 ⟨S', hF', hK', hcase⟩
                    have hb9 := (hK'.block _ (blk_lt hLn.b) hwbm).trans hLn.b
                    have hk9 := hLn.km.trans hK'
                    have hse := hLn.se
                    have hno9 := hLn.no
                    rcases hcase with ⟨rfl, hO⟩ | ⟨rfl, hno, hth⟩
                    · have hOO := Ord.step (l := l) d v k hkl HB.out (HQ5.out.2.2.1 (by first | rfl | trivial)) (by rw [HX.out]; exact Or.inr HXV.out) (by rw [HX.out]; exact hO)
                      have HH := Lib.hid (And.intro hF' (And.intro hk9 hOO))
                      clear hF' hK' hb9 hk9 hO hOO hLn hse hno9
                      go_wp2
                      go_ret
                      exact ⟨S', HH.out.1, HH.out.2.1, Or.inl ⟨rfl, HH.out.2.2⟩⟩
                    · have hst : ¬ StepP l d v k := fun h => hno (by have h4 := h.2.2.2; rw [HX.out] at h4; exact h4)
                      have hLL : LI w W9 gs bm (some ad) c l S d v k S' := ⟨hF', hb9, hk9, fun q hq => by
                        rcases hth q hq with h | h
                        · exact hse q h
                        · exact Or.inr (Or.inr ⟨sub_trans (sub_or d k) h.1, h.2⟩), hno9⟩
                      have HH := Lib.hid (hLL.next hst)
                      clear hF' hK' hb9 hk9 hno hth hLL hLn hse hno9 hst
                      go_wp2
                      go_roundw
                      case rel => exact ⟨k + 1, S', by omega, by go_num, HH.out⟩
                      case measure => simp [intOf]; omega
                  · have hxb : (x1 != v) = true := by rw [ba_ne, decide_eq_false hxv]; rfl
                    have hxe := tl_false hxv
                    have hst : ¬ StepP l d v k := fun h => by
                      have h4 := h.2.2.1
                      rw [HX.out] at h4
                      rcases h4 with h5 | h5
                      · exact Bool.noConfusion (show false = true from h5)
                      · exact hxv h5
                    have HN := Lib.hid hst
                    clear hst
                    go_wp2
                    go_roundw
                    case rel => exact ⟨k + 1, Sk, by omega, by go_num, HL8.out.1.next HN.out⟩
                    case measure => simp [intOf]; omega
          · obtain rfl : k = l.length := by omega
            have hno : ¬ Ord l d v := fun h => by
              rcases (ord_iff l d v).1 h with h1 | ⟨j, hj, h1⟩
              · exact HNA.out h1
              · exact hL.no j hj h1
            have HH := Lib.hid (And.intro hL hno)
            clear hL hno
            go_wp2
            go_ret
            exact ⟨Sk, HH.out.1.f, HH.out.1.km, Or.inr ⟨rfl, HH.out.2, fun q hq => by
              rcases HH.out.1.se q hq with h | h | h
              · exact Or.inl h
              · rw [h]; exact Or.inr ⟨sub_refl d, HH.out.2⟩
              · exact Or.inr h⟩⟩
end Go.Proofs.Ythldophikcgkcaa.Y
