/- tarnlaw34.ClientPlays: the law's walk. -/
import Derived.Test.YthldophikcgkcaaClientMost
import Derived.Test.YthldophikcgkcaaPPlaysx0
import Derived.Deep.RegionHeld3
import Derived.Deep.Light
import Derived.Test.YthldophikcgkcaaEvEq
namespace Go.Proofs.Ythldophikcgkcaa.Y
set_option linter.unusedVariables false
set_option linter.unusedSimpArgs false
open Go.RowKit Go.Shelf Go.Proofs Go.Maps Go.IntWalk Go.Proofs.YthldophikcgkcaaW.PrintWords Go.Proofs.YthldophikcgkcaaW.PrintLast Go.Proofs.YthldophikcgkcaaW.PrintMore Go.Proofs.Ythldophikcgkcaa.X Go.Proofs.Ythldophikcgkcaa.PPlays

/-- What is noted fits what is open: each answer is the only one of its number, and its number is not open. -/
structure Noted (evs : List EvV) (opn : List Int) (next : Int) : Prop where
  fnd : ∀ e ∈ evs, e.ans = true → evs.find? (isAns e.id) = some e
  nop : ∀ e ∈ evs, e.ans = true → e.id ∉ opn
  low : ∀ e ∈ evs, e.ans = true → e.id ≤ next
  rise : opn.Pairwise (· < ·)
  rng : ∀ x ∈ opn, 1 ≤ x ∧ x ≤ next
/-- What the law holds: the history, and its own two lists. -/
structure PW (w W : World) (F : Nat → Prop) (gh bm : Nat) (vh : Value) (eh : List EvV) (op : Int → Prop) (nx : Int) (vm : Value) (em : List EvV) (vo : Value) (opn : List Int) : Prop where
  c : CW w W F gh bm vh eh op nx
  m : W.ownsRow w.heap.size 68 10 vm em.length (flatV em)
  o : W.ownsRow w.heap.size 3 1 vo opn.length (nums .i64 opn)
  mf : ∀ k, vm.ownBlock = some k → ¬ F k
  of : ∀ k, vo.ownBlock = some k → ¬ F k
  mo : ∀ k, vm.ownBlock = some k → vo.ownBlock ≠ some k
theorem own_blk {W W' : World} {B : Nat} {e : TypeId} {s n : Nat} {v : Value} {xs : List Value} (h : W.ownsRow B e s v n xs) (hb : ∀ k, v.ownBlock = some k → W'.heap[k]? = W.heap[k]?) : W'.ownsRow B e s v n xs := by
  refine ⟨h.1, ?_⟩
  rcases h.2 with h0 | ⟨g, cap, cur, rfl, hB, hcur, hr⟩
  · exact Or.inl h0
  · exact Or.inr ⟨g, cap, cur, rfl, hB, (hb g rfl).trans hcur, hr⟩
theorem HI.same {W W' : World} {F : Nat → Prop} {gh bm : Nat} {v : Value} {evs : List EvV} {op : Int → Prop} {next : Int} (h : HI W F gh bm v evs op next) (hs : W.heap.size ≤ W'.heap.size) (hb : ∀ k, F k → W'.heap[k]? = W.heap[k]?) : HI W' F gh bm v evs op next :=
  ⟨(hb _ h.fh).trans h.h, own_blk h.r (fun k hk => hb k (h.fr k hk).1), (h.m.imp fun N hN => ⟨hN.1, hN.2.same (hb _ h.fm)⟩), h.fh, h.fm, h.fr, fun k hk => Nat.lt_of_lt_of_le (h.lt k hk) hs⟩
theorem own_lt' {w : World} {B : Nat} {e : TypeId} {sz n : Nat} {v : Value} {xs : List Value} (h : w.ownsRow B e sz v n xs) (k : Nat) (hk : v.ownBlock = some k) : k < w.heap.size := own_lt h hk
section
variable {w W W' : World} {F F' : Nat → Prop} {gh bm : Nat} {vh vh' : Value} {eh eh' : List EvV} {op op' : Int → Prop} {nx nx' : Int} {vm vm' : Value} {em em' : List EvV} {vo vo' : Value} {opn opn' : List Int}
theorem PW.below (h : PW w W F gh bm vh eh op nx vm em vo opn) (hb : Below W.heap.size W W') : PW w W' F gh bm vh eh op nx vm em vo opn :=
  ⟨h.c.below hb, own_blk h.m fun k hk => hb.block k (own_lt' h.m k hk), own_blk h.o fun k hk => hb.block k (own_lt' h.o k hk), h.mf, h.of, h.mo⟩
theorem PW.told (h : PW w W F gh bm vh eh op nx vm em vo opn) (h1 : HI W' F' gh bm vh' eh' op' nx') (h2 : ∀ k, F' k → F k ∨ W.heap.size ≤ k) (h3 : KF W W' F) : PW w W' F' gh bm vh' eh' op' nx' vm em vo opn :=
  ⟨h.c.step h1 h2 h3, own_blk h.m fun k hk => h3.block k (own_lt' h.m k hk) (h.mf k hk), own_blk h.o fun k hk => h3.block k (own_lt' h.o k hk) (h.of k hk),
    fun k hk hf => (h2 k hf).elim (h.mf k hk) fun hh => by have := own_lt' h.m k hk; omega, fun k hk hf => (h2 k hf).elim (h.of k hk) fun hh => by have := own_lt' h.o k hk; omega, h.mo⟩
theorem PW.appM (h : PW w W F gh bm vh eh op nx vm em vo opn) (ho : W'.ownsRow w.heap.size 68 10 vm' em'.length (flatV em')) (hb : Below w.heap.size W W') (hg : W.grownBy W' vm.ownBlock) (hat : vm'.ownBlock = vm.ownBlock ∨ ∃ b, vm'.ownBlock = some b ∧ W.heap.size ≤ b) : PW w W' F gh bm vh eh op nx vm' em' vo opn :=
  ⟨⟨h.c.hi.same hg.size fun k hk => hg.block k (h.c.hi.lt k hk) (fun e => h.mf k e.symm hk), ⟨hb.os.trans h.c.b.os, hb.tape.trans h.c.b.tape, hb.output.trans h.c.b.output, Nat.le_trans h.c.b.size hb.size, fun k hk => (hb.block k hk).trans (h.c.b.block k hk)⟩, h.c.f⟩,
    ho, own_blk h.o fun k hk => hg.block k (own_lt' h.o k hk) (fun e => h.mo k e.symm hk),
    fun k hk hf => by
      rcases hat with hat | ⟨b, hat, hbb⟩
      · exact h.mf k (hat.symm.trans hk) hf
      · have e : b = k := Option.some.inj (hat.symm.trans hk)
        have := h.c.hi.lt k hf
        omega,
    h.of, fun k hk hk2 => by
      rcases hat with hat | ⟨b, hat, hbb⟩
      · exact h.mo k (hat.symm.trans hk) hk2
      · have e : b = k := Option.some.inj (hat.symm.trans hk)
        have := own_lt' h.o k hk2
        omega⟩
theorem PW.appO (h : PW w W F gh bm vh eh op nx vm em vo opn) (ho : W'.ownsRow w.heap.size 3 1 vo' opn'.length (nums .i64 opn')) (hb : Below w.heap.size W W') (hg : W.grownBy W' vo.ownBlock) (hat : vo'.ownBlock = vo.ownBlock ∨ ∃ b, vo'.ownBlock = some b ∧ W.heap.size ≤ b) : PW w W' F gh bm vh eh op nx vm em vo' opn' :=
  ⟨⟨h.c.hi.same hg.size fun k hk => hg.block k (h.c.hi.lt k hk) (fun e => h.of k e.symm hk), ⟨hb.os.trans h.c.b.os, hb.tape.trans h.c.b.tape, hb.output.trans h.c.b.output, Nat.le_trans h.c.b.size hb.size, fun k hk => (hb.block k hk).trans (h.c.b.block k hk)⟩, h.c.f⟩,
    own_blk h.m fun k hk => hg.block k (own_lt' h.m k hk) (fun e => h.mo k hk e.symm), ho, h.mf,
    fun k hk hf => by
      rcases hat with hat | ⟨b, hat, hbb⟩
      · exact h.of k (hat.symm.trans hk) hf
      · have e : b = k := Option.some.inj (hat.symm.trans hk)
        have := h.c.hi.lt k hf
        omega,
    fun k hk hk2 => by
      rcases hat with hat | ⟨b, hat, hbb⟩
      · exact h.mo k hk (hat.symm.trans hk2)
      · have e : b = k := Option.some.inj (hat.symm.trans hk2)
        have := own_lt' h.m k hk
        omega⟩
theorem PW.far (h : PW w W F gh bm vh eh op nx vm em vo opn) {g i : Nat} {u : Value} (hg : w.heap.size ≤ g) (hF : ¬ F g) (hm : vm.ownBlock ≠ some g) (ho : vo.ownBlock ≠ some g) : PW w (W.setCell ⟨g, i, none⟩ u) F gh bm vh eh op nx vm em vo opn := by
  have hh : ∀ k, k ≠ g → (W.setCell ⟨g, i, none⟩ u).heap[k]? = W.heap[k]? := fun k hk => Below.heap_setCell W ⟨g, i, none⟩ u k hk
  exact ⟨⟨h.c.hi.same (by simp [World.setCell]) fun k hk => hh k (fun e => hF (e ▸ hk)), h.c.b.setCell hg u, h.c.f⟩, own_blk h.m fun k hk => hh k (fun e => hm (e ▸ hk)), own_blk h.o fun k hk => hh k (fun e => ho (e ▸ hk)), h.mf, h.of, h.mo⟩
end
theorem own_empty (W : World) (B : Nat) (e : TypeId) (s : Nat) (hb : B ≤ W.heap.size) : (W.alloc (.cells #[] e)).ownsRow B e s (.slice (some ⟨W.heap.size, 0, none⟩) 0 0) 0 [] :=
  ⟨by simp, Or.inr ⟨_, 0, #[], rfl, hb, heap_alloc_new W _, Nat.le_refl _, by simp, by simp, by simp⟩⟩
theorem PW.start {w W : World} {F : Nat → Prop} {gh bm : Nat} {vh : Value} {op : Int → Prop} {nx : Int} (h : CW w W F gh bm vh [] op nx) :
    PW w ((W.alloc (.cells #[] 68)).alloc (.cells #[] 3)) F gh bm vh [] op nx (.slice (some ⟨W.heap.size, 0, none⟩) 0 0) [] (.slice (some ⟨W.heap.size + 1, 0, none⟩) 0 0) [] := by
  have h2 := own_empty (W.alloc (.cells #[] 68)) w.heap.size 3 1 (by have := h.b.size; simp; omega)
  refine ⟨h.below (below_alloc (below_alloc (Below.refl _ _) _) _), (own_empty W w.heap.size 68 10 h.b.size).alloc _, by simpa [nums] using h2, fun k hk hf => ?_, fun k hk hf => ?_, fun k hk hk2 => ?_⟩
  · have e : W.heap.size = k := Option.some.inj hk
    have := h.hi.lt k hf
    omega
  · have e : W.heap.size + 1 = k := Option.some.inj hk
    have := h.hi.lt k hf
    omega
  · have e1 : W.heap.size = k := Option.some.inj hk
    have e2 : W.heap.size + 1 = k := Option.some.inj hk2
    omega
theorem noted_nil : Noted [] [] 0 := ⟨fun _ h => absurd h (by simp), fun _ h => absurd h (by simp), fun _ h => absurd h (by simp), List.Pairwise.nil, fun _ h => absurd h (by simp)⟩
theorem Noted.ask {evs : List EvV} {opn : List Int} {nx gate : Int} {a : AskV} (h : Noted evs opn nx) (h0 : 0 ≤ nx) : Noted (evs ++ [⟨false, nx + 1, gate, a, 0, ⟨#[]⟩⟩]) (opn ++ [nx + 1]) (nx + 1) := by
  refine ⟨fun e he ha => ?_, fun e he ha hm => ?_, fun e he ha => ?_, ?_, fun x hx => ?_⟩
  · rcases List.mem_append.1 he with he | he
    · rw [List.find?_append, h.fnd e he ha]; rfl
    · rw [List.mem_singleton] at he; subst he; cases ha
  · rcases List.mem_append.1 he with he | he
    · rcases List.mem_append.1 hm with hm | hm
      · exact h.nop e he ha hm
      · rw [List.mem_singleton] at hm
        have := h.low e he ha
        omega
    · rw [List.mem_singleton] at he; subst he; cases ha
  · rcases List.mem_append.1 he with he | he
    · have := h.low e he ha
      omega
    · rw [List.mem_singleton] at he; subst he; cases ha
  · rw [List.pairwise_append]
    refine ⟨h.rise, List.pairwise_singleton _ _, fun x hx y hy => ?_⟩
    rw [List.mem_singleton] at hy
    have := h.rng x hx
    omega
  · rcases List.mem_append.1 hx with hx | hx
    · have := h.rng x hx
      omega
    · rw [List.mem_singleton] at hx; omega
theorem Noted.tell {evs : List EvV} {opn opn' : List Int} {nx id gate err : Int} {a : AskV} {dat : ByteArray} (h : Noted evs opn nx) (hid : id ∈ opn) (hs : opn'.Sublist opn) (hno : id ∉ opn') : Noted (evs ++ [⟨true, id, gate, a, err, dat⟩]) opn' nx := by
  refine ⟨fun e he ha => ?_, fun e he ha hm => ?_, fun e he ha => ?_, h.rise.sublist hs, fun x hx => h.rng x (hs.subset hx)⟩
  · rcases List.mem_append.1 he with he | he
    · rw [List.find?_append, h.fnd e he ha]; rfl
    · rw [List.mem_singleton] at he; subst he
      have hn : evs.find? (isAns id) = none := by
        rw [List.find?_eq_none]
        intro e he hh
        simp [isAns] at hh
        exact h.nop e he hh.1 (by rw [hh.2]; exact hid)
      rw [List.find?_append, hn]
      simp [isAns]
  · rcases List.mem_append.1 he with he | he
    · exact h.nop e he ha (hs.subset hm)
    · rw [List.mem_singleton] at he; subst he; exact hno hm
  · rcases List.mem_append.1 he with he | he
    · exact h.low e he ha
    · rw [List.mem_singleton] at he; subst he; exact (h.rng id hid).2
theorem info_ev : (Try.prog.info? 68).map (fun i => (i.zero, i.size, i.bytes)) = some (some (.agg #[.bool false, .int .i64 0, .int .i64 0, .int .i64 0, .int .i64 0, .int .i64 0, .string ⟨#[]⟩, .bool false, .int .i64 0, .string ⟨#[]⟩]), 10, 96) := by kernel_rfl
theorem one_ev (e : EvV) : ∀ u ∈ e.cells, u.oneCell' = true := by
  intro u hu
  simp only [EvV.cells, List.mem_cons, List.not_mem_nil, or_false] at hu
  rcases hu with rfl | rfl | rfl | rfl | rfl | rfl | rfl | rfl | rfl | rfl <;> rfl
theorem flatV_snoc (l : List EvV) (e : EvV) : flatV (l ++ [e]) = flatV l ++ e.cells := by simp [flatV]
/-- Where the number stands, of the first k. -/
def AtIx (opn : List Int) (id : Int) (k : Nat) (a : Int) : Prop := (a = -1 ∧ ∀ j : Nat, j < k → opn[j]? ≠ some id) ∨ ∃ j : Nat, j < k ∧ a = (j : Int) ∧ opn[j]? = some id
theorem own_cell {W : World} {B : Nat} {A : Option Addr} {n c : Nat} {xs : List Int} (h : W.ownsRow B 3 1 (.slice A n c) n (nums .i64 xs)) : ∀ k (hk : k < xs.length), ∃ g, A = some ⟨g, 0, none⟩ ∧ g < W.heap.size ∧ n ≤ c ∧ W.cell? ⟨g, k, none⟩ = some (.int .i64 xs[k]) := by
  intro k hk
  have hn : n = xs.length := by have := h.1; simp [nums] at this; omega
  rcases h.2 with ⟨h0, h1⟩ | ⟨g, cap, cur, hv', hB, hcur, hncap, hmax, hsz, htake⟩
  · omega
  · injection hv' with h1 h2 h3
    refine ⟨g, h1, blk_lt hcur, by omega, ?_⟩
    have hc : W.cell? ⟨g, k, none⟩ = cur[k]? := cell_of_row W g k cur _ _ hcur
    rw [hc]
    have hj : (nums .i64 xs)[k]? = some (.int .i64 xs[k]) := by simp [nums, hk]
    rw [← htake, Nat.mul_one, List.getElem?_take_of_lt (by omega)] at hj
    simpa using hj
theorem atix_next {opn : List Int} {id a : Int} {k : Nat} (h : AtIx opn id k a) (hn : opn[k]? ≠ some id) : AtIx opn id (k + 1) a := by
  rcases h with ⟨h1, h2⟩ | ⟨j, h1, h2, h3⟩
  · refine Or.inl ⟨h1, fun j hj => ?_⟩
    by_cases hjk : j = k
    · rw [hjk]; exact hn
    · exact h2 j (by omega)
  · exact Or.inr ⟨j, by omega, h2, h3⟩
theorem add_any (g o i : Nat) : (⟨g, o, none⟩ : Addr).add i = ⟨g, o + i, none⟩ := by unfold Addr.add; split <;> simp_all
theorem reads_part {W : World} {B go n c : Nat} {xs : List Int} (h : W.ownsRow B 3 1 (.slice (some ⟨go, 0, none⟩) n c) n (nums .i64 xs)) (hn : n = xs.length) (o : Nat) (ys : List Int) (hy : ∀ i : Nat, i < ys.length → xs[o + i]? = some (ys.getD i 0)) :
    ∀ i : Nat, i < ys.length → W.cell? ((⟨go, o, none⟩ : Addr).add i) = some (.int .i64 (ys.getD i 0)) := by
  intro i hi
  have hx := hy i hi
  obtain ⟨hlt, he⟩ := List.getElem?_eq_some_iff.1 hx
  obtain ⟨g, hg, _, _, hc⟩ := own_cell h (o + i) hlt
  injection hg with hg
  injection hg with hg
  subst hg
  rw [add_any, hc, he]
theorem reads_take {W : World} {B go n c : Nat} {xs : List Int} (h : W.ownsRow B 3 1 (.slice (some ⟨go, 0, none⟩) n c) n (nums .i64 xs)) (hn : n = xs.length) (hl : n ≤ 1000000) (j : Nat) (hj : j ≤ n) : ReadsInt W .i64 (some ⟨go, 0, none⟩) j (xs.take j) := by
  have hlen : (xs.take j).length = j := by rw [List.length_take]; omega
  refine ⟨hlen, by omega, fun _ => ⟨_, rfl, fun i hi => reads_part h hn 0 (xs.take j) (fun i hi => ?_) i (by omega)⟩⟩
  rw [List.getD_eq_getElem?_getD, List.getElem?_eq_getElem hi, Option.getD_some, List.getElem_take, Nat.zero_add, List.getElem?_eq_getElem]
theorem reads_drop {W : World} {B go n c : Nat} {xs : List Int} (h : W.ownsRow B 3 1 (.slice (some ⟨go, 0, none⟩) n c) n (nums .i64 xs)) (hn : n = xs.length) (hl : n ≤ 1000000) (hc : n ≤ c) (j : Nat) : ReadsInt W .i64 (if c = j then some ⟨go, 0, none⟩ else some ⟨go, j, none⟩) (n - j) (xs.drop j) := by
  have hlen : (xs.drop j).length = n - j := by rw [List.length_drop]; omega
  refine ⟨hlen, by omega, fun h0 => ⟨⟨go, j, none⟩, by rw [if_neg (by omega)], fun i hi => reads_part h hn j (xs.drop j) (fun i hi => ?_) i (by omega)⟩⟩
  rw [List.getD_eq_getElem?_getD, List.getElem?_eq_getElem hi, Option.getD_some, List.getElem_drop, List.getElem?_eq_getElem]
set_option maxRecDepth 100000 in
/-- Numbers are appended: the row that comes of it. -/
theorem app_i (W : World) (base : Nat) (v : Value) (xs ys : List Int) (A : Option Addr) (m c : Nat) (HO : W.ownsRow base 3 1 v xs.length (nums .i64 xs)) (HR : ReadsInt W .i64 A m ys) (hl : xs.length + m ≤ 1000000) (hbase : base ≤ W.heap.size) :
    ∃ v1 w1, (Builtin.append_ #[22, 22] 22 #[v, .slice A m c]).run Try.prog W = .ok v1 w1 ∧ w1.ownsRow base 3 1 v1 (xs ++ ys).length (nums .i64 (xs ++ ys)) ∧ W.grownBy w1 v.ownBlock ∧ (v1.ownBlock = v.ownBlock ∨ v1.ownBlock = some W.heap.size) := by
  obtain ⟨i0, hi, hzz⟩ := Option.map_eq_some_iff.1 info_int
  simp only [Prod.mk.injEq] at hzz
  obtain ⟨hz0, hz1, hz2⟩ := hzz
  have ht := Try.underlying22
  have hm : ys.length = m := HR.1
  rcases A with _ | ad
  · have h0 : m = 0 := by
      rcases Nat.eq_zero_or_pos m with h0 | h0
      · exact h0
      · obtain ⟨ad, h, _⟩ := HR.2.2 h0
        cases h
    subst h0
    obtain rfl : ys = [] := List.eq_nil_of_length_eq_zero hm
    refine ⟨v, W, ?_, by simpa using HO, World.grownBy.refl W _, .inl rfl⟩
    rcases HO.2 with ⟨rfl, hn⟩ | ⟨g, cap, cur, rfl, _, _, hnc, _⟩
    · simp [Builtin.append_, run_underlying ht, sizeOf, typeInfo, hi, Builtin.lenOf, Builtin.firstCells]
    · simp [Builtin.append_, run_underlying ht, sizeOf, typeInfo, hi, Builtin.lenOf, Builtin.firstCells, hnc, storeCells]
  · have hcells : ∀ j u, (nums .i64 ys)[j]? = some u → W.cell? (ad.add j) = some u := by
      intro j u hu
      have hj : j < ys.length := by
        rcases Nat.lt_or_ge j ys.length with h | h
        · exact h
        · simp [nums, List.getElem?_eq_none h] at hu
      obtain ⟨ad', h', hc⟩ := HR.2.2 (by omega)
      injection h' with h'
      subst h'
      have := hc j (by omega)
      simp [nums, List.getElem?_eq_getElem hj] at hu
      subst hu
      rw [this]
      simp [List.getD_eq_getElem?_getD, List.getElem?_eq_getElem hj]
    obtain ⟨v1, w1, hr, h2, h3, _, h5⟩ := run_append_own_at (P := Try.prog) W base 22 22 3 i0 (.int .i64 0) 1 8 ht hi hz0 hz1 hz2 rfl (by omega) v xs.length (nums .i64 xs) HO ad m c (nums .i64 ys) (by simp [nums, hm]) hcells
      (by intro u hu; simp only [nums, List.mem_map] at hu; obtain ⟨q, _, rfl⟩ := hu; rfl) (by simp only [maxLen]; omega) (by omega) hbase
    exact ⟨v1, w1, hr, by simpa [nums, hm] using h2, h3, h5⟩
theorem PW.grownF {w W W' : World} {F : Nat → Prop} {gh bm : Nat} {vh : Value} {eh : List EvV} {op : Int → Prop} {nx : Int} {vm : Value} {em : List EvV} {vo : Value} {opn : List Int} (h : PW w W F gh bm vh eh op nx vm em vo opn) {row : Option Nat} (hg : W.grownBy W' row) (hr : ∀ k, row = some k → w.heap.size ≤ k ∧ ¬ F k ∧ vm.ownBlock ≠ some k ∧ vo.ownBlock ≠ some k) : PW w W' F gh bm vh eh op nx vm em vo opn :=
  ⟨⟨h.c.hi.same hg.size fun k hk => hg.block k (h.c.hi.lt k hk) (fun e => (hr k e.symm).2.1 hk), ⟨hg.os.trans h.c.b.os, hg.tape.trans h.c.b.tape, hg.output.trans h.c.b.output, Nat.le_trans h.c.b.size hg.size, fun k hk => (hg.block k (Nat.lt_of_lt_of_le hk h.c.b.size) (fun e => by have := (hr k e.symm).1; omega)).trans (h.c.b.block k hk)⟩, h.c.f⟩,
    own_blk h.m fun k hk => hg.block k (own_lt' h.m k hk) (fun e => (hr k e.symm).2.2.1 hk), own_blk h.o fun k hk => hg.block k (own_lt' h.o k hk) (fun e => (hr k e.symm).2.2.2 hk), h.mf, h.of, h.mo⟩
theorem PW.newO {w W : World} {F : Nat → Prop} {gh bm : Nat} {vh : Value} {eh : List EvV} {op : Int → Prop} {nx : Int} {vm : Value} {em : List EvV} {vo vo' : Value} {opn opn' : List Int} {B : Nat} (h : PW w W F gh bm vh eh op nx vm em vo opn) (ho : W.ownsRow B 3 1 vo' opn'.length (nums .i64 opn')) (hB : ∀ k, B ≤ k → w.heap.size ≤ k ∧ ¬ F k ∧ vm.ownBlock ≠ some k) : PW w W F gh bm vh eh op nx vm em vo' opn' :=
  ⟨h.c, h.m, own_weaken ho (hB B (Nat.le_refl _)).1, h.mf, fun k hk => (hB k (own_base ho k hk)).2.1, fun k hk hk2 => (hB k (own_base ho k hk2)).2.2 hk⟩
theorem open_cut {opn : List Int} {j : Nat} {id : Int} (hn : opn.Nodup) (h : opn[j]? = some id) : (opn.take j ++ opn.drop (j + 1)).Sublist opn ∧ id ∉ opn.take j ++ opn.drop (j + 1) ∧ ∀ x, x ∈ opn ∧ x ≠ id ↔ x ∈ opn.take j ++ opn.drop (j + 1) := by
  obtain ⟨hj, he⟩ := List.getElem?_eq_some_iff.1 h
  have e : opn = opn.take j ++ id :: opn.drop (j + 1) := by rw [← he, ← List.drop_eq_getElem_cons hj, List.take_append_drop]
  generalize opn.take j = a at *
  generalize opn.drop (j + 1) = b at *
  rw [e] at hn ⊢
  have hn2 : id ∉ a ++ b := by
    rw [List.nodup_append] at hn
    obtain ⟨h1, h2, h3⟩ := hn
    rw [List.nodup_cons] at h2
    intro hm
    rcases List.mem_append.1 hm with hm | hm
    · exact h3 id hm id List.mem_cons_self rfl
    · exact h2.1 hm
  refine ⟨List.Sublist.append (List.Sublist.refl _) (List.sublist_cons_self _ _), hn2, fun x => ?_⟩
  rw [List.mem_append, List.mem_append, List.mem_cons]
  constructor
  · rintro ⟨hm | rfl | hm, hx⟩
    · exact Or.inl hm
    · exact absurd rfl hx
    · exact Or.inr hm
  · intro hm
    refine ⟨hm.imp _root_.id Or.inr, fun hx => hn2 ?_⟩
    rw [← hx]; exact List.mem_append.2 hm
theorem rising_eq : ∀ {L M : List Int}, L.Pairwise (· < ·) → M.Pairwise (· < ·) → (∀ x, x ∈ L ↔ x ∈ M) → L = M
  | [], [], _, _, _ => rfl
  | [], y :: M, _, _, h => absurd ((h y).2 List.mem_cons_self) (by simp)
  | x :: L, [], _, _, h => absurd ((h x).1 List.mem_cons_self) (by simp)
  | x :: L, y :: M, hL, hM, h => by
    rw [List.pairwise_cons] at hL hM
    have hxy : x = y := by
      rcases List.mem_cons.1 ((h x).1 List.mem_cons_self) with e | e
      · exact e
      · rcases List.mem_cons.1 ((h y).2 List.mem_cons_self) with e2 | e2
        · exact e2.symm
        · have := hM.1 x e
          have := hL.1 y e2
          omega
    subst hxy
    have : L = M := rising_eq hL.2 hM.2 fun z => by
      constructor
      · intro hz
        rcases List.mem_cons.1 ((h z).1 (List.mem_cons_of_mem _ hz)) with e | e
        · have := hL.1 z hz
          omega
        · exact e
      · intro hz
        rcases List.mem_cons.1 ((h z).2 (List.mem_cons_of_mem _ hz)) with e | e
        · have := hM.1 z hz
          omega
        · exact e
    rw [this]
/-- An event of a row, its cells in every world that is not below. -/
theorem own_evs {W : World} {B : Nat} {A : Option Addr} {n c k : Nat} {evs : List EvV} (h : W.ownsRow B 68 10 (.slice A n c) n (flatV evs)) (hk : k < evs.length) :
    ∃ g, A = some ⟨g, 0, none⟩ ∧ g < W.heap.size ∧ n ≤ c ∧ ∀ W', Below W.heap.size W W' → ∀ j v, evs[k].cells[j]? = some v → W'.cell? ((⟨g, k * 10, none⟩ : Addr).add j) = some v := by
  have hn : n * 10 = evs.length * 10 := by rw [← flatV_len]; exact h.1.symm
  have h0 := h
  rcases h.2 with ⟨hv, hz⟩ | ⟨g, cap, cur, hv', hB, hcur, hncap, hmax, hsz, htake⟩
  · omega
  · injection hv' with h1 h2 h3
    refine ⟨g, h1, blk_lt hcur, by omega, fun W' hb j v hj => ?_⟩
    subst h1
    subst h3
    rw [add_any]
    have hc := flatV_get h0 (k * 10 + j) v (flatV_at evs k j v hk (by rw [getElem!_pos evs k hk]; exact hj))
    rw [← hc]
    exact World.cell?_of_block (hb.block g (blk_lt hcur))
set_option maxHeartbeats 16000000 in
set_option maxRecDepth 100000 in
theorem walk_plays (A : Option Addr) (c : Nat) (l : List S65) (w : World) (hr : Kd.C k65 w A l.length l) (hc : l.length ≤ c) (hw : ∀ y ∈ l, InI y.f3.f0) :
    Calls Try.prog 7 #[.slice A l.length c] w fun e w' => e = .returned (.bool true) ∧ Below w.heap.size w w' := by
  have HR := Lib.hid (And.intro hr hw)
  clear hr hw
  go_enter Try.func7, Try.ntmps7
  go_wp2_with fail
  refine (hnew_n _).mono ?_
  rintro e1 W1 ⟨F1, gh, bm, rfl, h1, h2, h3⟩
  have C1 := Lib.hid (CW.start h1 h2 h3)
  clear h1 h2 h3
  go_wp2_with fail
  go_loopw [4, 5, 6, 7] (fun v4 v5 v6 v7 wr => ∃ (i : Nat) (F : Nat → Prop) (vh : Value) (evs : List EvV) (op : Int → Prop) (nx : Int) (opn : List Int), i ≤ 60 ∧ i ≤ l.length ∧ v7 = .int .i64 (i : Int) ∧ v6 = .int .i64 (nx + 1) ∧ 0 ≤ nx ∧ nx ≤ (i : Int) ∧ evs.length ≤ i ∧ PW w wr F gh bm vh evs op nx v4 evs v5 opn ∧ Noted evs opn nx ∧ ∀ x, op x ↔ x ∈ opn) (fun _ _ _ v => fun _ => 60 - (intOf v).toNat)
  case atStart => exact ⟨0, F1, _, _, _, 0, [], by omega, by omega, rfl, rfl, by omega, by omega, by simp, PW.start C1.out, noted_nil, fun x => by simp⟩
  case round =>
    obtain ⟨i, F, vh, evs, op, nx, opn, hi60, hil, rfl, rfl, hn0, hni, hev, hP, hN, hop⟩ := hrel
    clear C1
    by_cases c1 : (i : Int) < (l.length : Int)
    · by_cases c2 : (i : Int) < 60
      · obtain ⟨ad, rfl, k0, k1, k2, k3, k4, k5, k6, k7, k8, k9⟩ := at_T65 (Kd.C_below HR.out.1 hP.c.b) (i : Int) (by omega) c1
        rw [Int.toNat_natCast] at k0 k1 k2 k3 k4 k5 k6 k7 k8 k9
        have hx : InI (rd_T65 l (i : Int)).f3.f0 := by
          have hil : i < l.length := by omega
          have : rd_T65 l (i : Int) = l[i] := by unfold rd_T65; simp [hil]
          rw [this]; exact HR.out.2 _ (List.getElem_mem hil)
        have hi0 : (0 : Int) ≤ (i : Int) := by omega
        have s2 : wrap64 ((i : Int) + 1) = (i : Int) + 1 := wrap64_in _ ⟨by omega, by omega⟩
        have s3 : wrap64 (nx + 1 + 1) = nx + 1 + 1 := wrap64_in _ ⟨by omega, by omega⟩
        generalize rd_T65 l (i : Int) = x at k0 k1 k2 k3 k4 k5 k6 k7 k8 k9 hx
        obtain ⟨tell, gate, ⟨a0, a1, a2, a3, a4⟩, ⟨r0, r1, r2⟩⟩ := x
        have HP := Lib.hid (And.intro hP (And.intro hN (And.intro hop hev)))
        clear hP hN hop
        go_upto_region 6 with (first | ((with_reducible apply wpList_store_sets (ty := 65) (g := wr.heap.size) (t := 65) (old := #[.bool false, .int .i64 0, .int .i64 0, .int .i64 0, .int .i64 0, .string ⟨#[]⟩, .bool false, .int .i64 0, .int .i64 0, .string ⟨#[]⟩])); (case hgd => with_reducible rfl); (case ho => with_reducible rfl); (case hx => rfl); (case hy => rfl); (case hg => exact heap_alloc_new wr _); (case hi => kernel_rfl); (case hold => kernel_rfl); (case h1 => kernel_rfl)) | fail)
        have hb2 := below_sets (Nat.le_refl _) [.bool tell, .int .i64 gate, .int .i64 a0, .int .i64 a1, .int .i64 a2, .string a3, .bool a4, .int .i64 r0, .int .i64 r1, .string r2] 0 _ (below_alloc (Below.refl wr.heap.size wr) (.cells #[.bool false, .int .i64 0, .int .i64 0, .int .i64 0, .int .i64 0, .string ⟨#[]⟩, .bool false, .int .i64 0, .int .i64 0, .string ⟨#[]⟩] 65))
        have hq2 := blk_sets [.bool tell, .int .i64 gate, .int .i64 a0, .int .i64 a1, .int .i64 a2, .string a3, .bool a4, .int .i64 r0, .int .i64 r1, .string r2] 0 #[.bool false, .int .i64 0, .int .i64 0, .int .i64 0, .int .i64 0, .string ⟨#[]⟩, .bool false, .int .i64 0, .int .i64 0, .string ⟨#[]⟩] _ (heap_alloc_new wr (.cells #[.bool false, .int .i64 0, .int .i64 0, .int .i64 0, .int .i64 0, .string ⟨#[]⟩, .bool false, .int .i64 0, .int .i64 0, .string ⟨#[]⟩] 65)) rfl
        generalize sets (wr.alloc (.cells #[.bool false, .int .i64 0, .int .i64 0, .int .i64 0, .int .i64 0, .string ⟨#[]⟩, .bool false, .int .i64 0, .int .i64 0, .string ⟨#[]⟩] 65)) wr.heap.size 0 [.bool tell, .int .i64 gate, .int .i64 a0, .int .i64 a1, .int .i64 a2, .string a3, .bool a4, .int .i64 r0, .int .i64 r1, .string r2] = W2 at *
        replace hq2 : W2.heap[wr.heap.size]? = some (.cells #[.bool tell, .int .i64 gate, .int .i64 a0, .int .i64 a1, .int .i64 a2, .string a3, .bool a4, .int .i64 r0, .int .i64 r1, .string r2] 65 (0, 0)) := hq2
        have HQ := Lib.hid (And.intro (HP.out.1.below hb2) (And.intro HP.out.2 (And.intro hq2 (show ∀ k, F k → k ≠ wr.heap.size from fun k hk => by have := HP.out.1.c.hi.lt k hk; omega))))
        clear hb2 hq2 HP k0 k1 k2 k3 k4 k5 k6 k7 k8 k9
        have hol : opn.length ≤ 60 := by
          have := len_le (L := opn) (n := nx) (rising_nodup HQ.out.2.1.1.rise) HQ.out.2.1.1.rng
          omega
        have e0 := blk_cell HQ.out.2.2.1 0
        have e1 := blk_cell HQ.out.2.2.1 1
        have e2 := blk_cell HQ.out.2.2.1 2
        have e3 := blk_cell HQ.out.2.2.1 3
        have e4 := blk_cell HQ.out.2.2.1 4
        have e5 := blk_cell HQ.out.2.2.1 5
        have e6 := blk_cell HQ.out.2.2.1 6
        have e7 := blk_cell HQ.out.2.2.1 7
        have e8 := blk_cell HQ.out.2.2.1 8
        have e9 := blk_cell HQ.out.2.2.1 9
        go_upto_if 38 with fail
        go_cut [4, 5, 6] (fun v4 v5 v6 wc => ∃ (F : Nat → Prop) (vh : Value) (evs : List EvV) (op : Int → Prop) (nx : Int) (opn : List Int), v6 = .int .i64 (nx + 1) ∧ 0 ≤ nx ∧ nx ≤ (i : Int) + 1 ∧ evs.length ≤ i + 1 ∧ PW w wc F gh bm vh evs op nx v4 evs v5 opn ∧ Noted evs opn nx ∧ ∀ x, op x ↔ x ∈ opn)
        case first =>
          cases tell with
          | false =>
            go_wp2_with fail
            refine (ask_n W2 F gh bm vh evs op nx gate ⟨a0, a1, a2, a3, a4⟩ HQ.out.1.c.hi (by omega) (by omega) (by omega) (fun x hx => (HQ.out.2.1.1.rng x ((HQ.out.2.1.2.1 x).1 hx)).2)).mono ?_
            rintro e2 W4 ⟨F2, vh2, rfl, h1, h2, h3⟩
            have hq4 := (h3.block wr.heap.size (blk_lt HQ.out.2.2.1) (fun hf => HQ.out.2.2.2 _ hf rfl)).trans HQ.out.2.2.1
            have HA := Lib.hid (And.intro (HQ.out.1.told h1 h2 h3) (And.intro HQ.out.2.1 hq4))
            clear h1 h2 h3 hq4 HQ e0 e1 e2 e3 e4 e5 e6 e7 e8 e9
            have e1 := blk_cell HA.out.2.2 1
            have e2 := blk_cell HA.out.2.2 2
            have e3 := blk_cell HA.out.2.2 3
            have e4 := blk_cell HA.out.2.2 4
            have e5 := blk_cell HA.out.2.2 5
            have e6 := blk_cell HA.out.2.2 6
            go_upto_region 10 with (first | ((with_reducible refine gate_builtin (b := .append) (xs := #[.tmp 47, .tmp 54]) rfl ?_); at_builtin; refine print_append_cells (w0 := W4) w.heap.size rfl (.tmp 47) (.tmp 54) 60 68 (.agg #[.bool false, .int .i64 0, .int .i64 0, .int .i64 0, .int .i64 0, .int .i64 0, .string ⟨#[]⟩, .bool false, .int .i64 0, .string ⟨#[]⟩]) 10 96 rfl Try.underlying60 info_ev rfl (by decide) (by decide) u4 evs.length (flatV evs) (EvV.cells ⟨false, nx + 1, gate, ⟨a0, a1, a2, a3, a4⟩, 0, ⟨#[]⟩⟩) rfl rfl rfl (one_ev _) HA.out.1.m (Below.refl _ _) HA.out.1.c.b.size (by omega) ?_; intro v1 W5 hown hB hg hat) | fail)
            have hp5 := HA.out.1.appM (em' := evs ++ [⟨false, nx + 1, gate, ⟨a0, a1, a2, a3, a4⟩, 0, ⟨#[]⟩⟩]) (by rw [List.length_append, flatV_snoc]; exact hown) hB hg hat
            have H5 := Lib.hid (And.intro hp5 HA.out.2.1)
            clear hown hB hg hat hp5 HA e1 e2 e3 e4 e5 e6
            go_wp2_with (first | ((with_reducible refine gate_builtin (b := .append) (xs := #[.tmp 56, .tmp 58]) rfl ?_); at_builtin; refine print_append_num (w0 := W5) w.heap.size rfl (.tmp 56) (.tmp 58) 22 3 .i64 8 rfl Try.underlying22 info_int (by decide) u5 opn (nx + 1) rfl rfl H5.out.1.o (Below.refl _ _) H5.out.1.c.b.size (by omega) ?_; intro v6 W6 hown hB hg hat) | fail)
            go_meet
            case rel =>
              refine ⟨F2, vh2, _, _, nx + 1, _, rfl, by omega, by omega, ?_, H5.out.1.appO hown hB hg hat, H5.out.2.1.ask hn0, fun x => ?_⟩
              · rw [List.length_append]
                have := H5.out.2.2.2
                simp
                omega
              · rw [List.mem_append, List.mem_singleton, H5.out.2.2.1 x]
          | true =>
            go_upto_region 13 with (first | ((with_reducible apply wpList_store_sets (ty := 63) (g := W2.heap.size) (t := 63) (old := #[.int .i64 0, .int .i64 0, .string ⟨#[]⟩])); (case hgd => with_reducible rfl); (case ho => with_reducible rfl); (case hx => rfl); (case hy => rfl); (case hg => exact heap_alloc_new W2 _); (case hi => kernel_rfl); (case hold => kernel_rfl); (case h1 => kernel_rfl)) | fail)
            have hb3 := below_sets (Nat.le_refl _) [.int .i64 r0, .int .i64 r1, .string r2] 0 _ (below_alloc (Below.refl W2.heap.size W2) (.cells #[.int .i64 0, .int .i64 0, .string ⟨#[]⟩] 63))
            have hq3 := blk_sets [.int .i64 r0, .int .i64 r1, .string r2] 0 #[.int .i64 0, .int .i64 0, .string ⟨#[]⟩] _ (heap_alloc_new W2 (.cells #[.int .i64 0, .int .i64 0, .string ⟨#[]⟩] 63)) rfl
            generalize sets (W2.alloc (.cells #[.int .i64 0, .int .i64 0, .string ⟨#[]⟩] 63)) W2.heap.size 0 [.int .i64 r0, .int .i64 r1, .string r2] = W3 at *
            replace hq3 : W3.heap[W2.heap.size]? = some (.cells #[.int .i64 r0, .int .i64 r1, .string r2] 63 (0, 0)) := hq3
            have ha3 := (hb3.block _ (blk_lt HQ.out.2.2.1)).trans HQ.out.2.2.1
            have HR3 := Lib.hid (And.intro (HQ.out.1.below hb3) (And.intro HQ.out.2.1 (And.intro ha3 (And.intro hq3 (And.intro HQ.out.2.2.2 (show (∀ k, F k → k ≠ W2.heap.size) ∧ wr.heap.size < W2.heap.size ∧ u4.ownBlock ≠ some W2.heap.size ∧ u5.ownBlock ≠ some W2.heap.size ∧ w.heap.size ≤ W2.heap.size from ⟨fun k hk => by have := HQ.out.1.c.hi.lt k hk; omega, blk_lt HQ.out.2.2.1, fun e => by have := own_lt' HQ.out.1.m _ e; omega, fun e => by have := own_lt' HQ.out.1.o _ e; omega, HQ.out.1.c.b.size⟩))))))
            clear hb3 hq3 ha3 HQ e0 e1 e2 e3 e4 e5 e6 e7 e8 e9
            have e7 := blk_cell HR3.out.2.2.1 7
            have f0 := blk_frozen HR3.out.2.2.2.1 0
            have g0 := blk_cell HR3.out.2.2.2.1 0
            have hand : InI (Go.bits .and .i64 r0 15) := by rw [and_15]; unfold InI; omega
            generalize h15 : Go.bits .and .i64 r0 15 = r15 at hand
            generalize hq : Go.bits .and .i64 (i : Int) 3 = qq
            go_upto_if 66 with fail
            go_cut [] (fun wc => ∃ id : Int, InI id ∧ wc.heap[W2.heap.size]? = some (.cells #[.int .i64 id, .int .i64 r1, .string r2] 63 (0, 0)) ∧ wc.heap[wr.heap.size]? = W3.heap[wr.heap.size]? ∧ PW w wc F gh bm vh evs op nx u4 evs u5 opn)
            case first =>
              by_cases hq0 : qq > 0
              · go_wp2_with fail
                go_meet
                case rel =>
                  obtain ⟨p1, p2, p3, p4, p5, p6⟩ := HR3.out
                  exact ⟨r15, hand, blk_put p4 0 _ rfl, Below.heap_setCell _ _ _ _ (by have := p6.2.1; simp; omega), p1.far p6.2.2.2.2 (fun hf => p6.1 _ hf rfl) p6.2.2.1 p6.2.2.2.1⟩
              · go_wp2_with fail
                go_meet
                case rel =>
                  obtain ⟨p1, p2, p3, p4, p5, p6⟩ := HR3.out
                  exact ⟨r0, hx, p4, rfl, p1⟩
            case rest =>
              obtain ⟨id, hidI, hg4, hb4, hP4⟩ := hcut
              have H4 := Lib.hid (And.intro hP4 (And.intro HR3.out.2.1 (And.intro (hb4.trans HR3.out.2.2.1) (And.intro hg4 (And.intro HR3.out.2.2.2.2.1 HR3.out.2.2.2.2.2)))))
              clear hg4 hb4 hP4 HR3 e7 f0 g0 hq hand h15
              have g0 := blk_cell H4.out.2.2.2.1 0
              have g1 := blk_cell H4.out.2.2.2.1 1
              have g2 := blk_cell H4.out.2.2.2.1 2
              obtain ⟨Ao, co, rfl⟩ := own_slice H4.out.1.o
              go_wp2_with fail
              go_loopw [10, 11] (fun v10 v11 wk => ∃ (k : Nat) (a : Int), k ≤ opn.length ∧ v11 = .int .i64 (k : Int) ∧ v10 = .int .i64 a ∧ AtIx opn id k a ∧ Below wc.heap.size wc wk) (fun _ v => fun _ => opn.length - (intOf v).toNat)
              case atStart => exact ⟨0, -1, by omega, rfl, rfl, Or.inl ⟨rfl, fun j hj => by omega⟩, Below.refl _ _⟩
              case round =>
                obtain ⟨k, a, hk, rfl, rfl, hat, hbk⟩ := hrel
                by_cases ck : (k : Int) < (opn.length : Int)
                · have hkl : k < opn.length := by omega
                  have hP5 := H4.out.1.below hbk
                  obtain ⟨go, rfl, hgo, hnc, hcell⟩ := own_cell hP5.o k hkl
                  have hk0 : (0 : Int) ≤ (k : Int) := by omega
                  have sk : wrap64 ((k : Int) + 1) = (k : Int) + 1 := wrap64_in _ ⟨by omega, by omega⟩
                  have hgw := (hbk.block _ (blk_lt H4.out.2.2.2.1)).trans H4.out.2.2.2.1
                  have g0' := blk_cell hgw 0
                  have HK := Lib.hid (And.intro hat (And.intro hbk hgw))
                  clear hat hbk hgw hP5 g0 g1 g2
                  have hopk : opn[k]? = some opn[k] := List.getElem?_eq_getElem hkl
                  generalize opn[k] = y at hcell hopk
                  have HO := Lib.hid hopk
                  clear hopk
                  go_wp2_with fail
                  go_region
                  by_cases hy : y = id
                  · subst hy
                    clear s2 s3 hi0 hi60 hil hn0 hni hev c1 c2
                    go_wp2_with fail
                    go_roundw
                    case rel => exact ⟨k + 1, (k : Int), by omega, by simp, rfl, Or.inr ⟨k, by omega, rfl, HO.out⟩, below_drew1 HK.out.2.1⟩
                    case measure => simp [intOf]; omega
                  · clear s2 s3 hi0 hi60 hil hn0 hni hev c1 c2
                    go_wp2_with fail
                    go_roundw
                    case rel => exact ⟨k + 1, a, by omega, by simp, rfl, atix_next HK.out.1 (by rw [HO.out]; exact fun e => hy (Option.some.inj e)), below_drew1 HK.out.2.1⟩
                    case measure => simp [intOf]; omega
                · have hkn : k = opn.length := by omega
                  have hgw := (hbk.block _ (blk_lt H4.out.2.2.2.1)).trans H4.out.2.2.2.1
                  have haw := (hbk.block _ (blk_lt H4.out.2.2.1)).trans H4.out.2.2.1
                  rw [hkn] at hat
                  have H5 := Lib.hid (And.intro (H4.out.1.below hbk) (And.intro H4.out.2.1 (And.intro haw (And.intro hgw (And.intro H4.out.2.2.2.2.1 H4.out.2.2.2.2.2.1)))))
                  clear hgw haw g0 g1 g2 H4 hbk
                  have e1 := blk_cell H5.out.2.2.1 1
                  have g0 := blk_cell H5.out.2.2.2.1 0
                  have g1 := blk_cell H5.out.2.2.2.1 1
                  have g2 := blk_cell H5.out.2.2.2.1 2
                  rcases hat with ⟨rfl, hno⟩ | ⟨j, hj, rfl, hyes⟩
                  · have hno2 : ¬ op id := fun h => by
                      obtain ⟨j, hj, he⟩ := List.getElem_of_mem ((H5.out.2.1.2.1 id).1 h)
                      exact hno j hj (by rw [List.getElem?_eq_getElem hj, he])
                    have HN := Lib.hid (tell_no wr F gh bm vh evs op nx gate id r1 r2 H5.out.1.c.hi (by omega) hidI hno2)
                    clear hno hno2 s2 hi0 hk ck
                    --M1
                    go_wp2_with (first | ((with_reducible apply wpList_load_row (ty := 63) (g := W2.heap.size) (t := 63) (fr := (0, 0)) (hu := Try.underlying63)); (case hgd => with_reducible rfl); (case ho => with_reducible rfl); (case hx => rfl); (case hd => rfl); (case hg => exact H5.out.2.2.2.1); (case hi => kernel_rfl)) | fail)
                    --M2
                    refine HN.out.mono ?_
                    rintro e2 W4 ⟨rfl, h1, h3⟩
                    have H6 := Lib.hid (And.intro (H5.out.1.told h1 (fun k hk => Or.inl hk) h3) H5.out.2.1)
                    clear h1 h3 H5 HN e1 g0 g1 g2
                    --M3
                    go_wp2_with fail
                    go_meet
                    case rel => exact ⟨F, vh, evs, op, nx, opn, rfl, hn0, by omega, by omega, H6.out.1, H6.out.2.1, H6.out.2.2.1⟩
                  · have hid : op id := (H5.out.2.1.2.1 id).2 (List.mem_of_getElem? hyes)
                    have HN := Lib.hid (tell_yes wr F gh bm vh evs op nx gate id r1 r2 H5.out.1.c.hi (by omega) hidI hid)
                    have hev4 : evs.length ≤ 4000 := by omega
                    clear hid s2 hi0 hk ck
                    have hj0 : ¬ ((j : Int) < 0) := by omega
                    --M4
                    go_wp2_with (first | ((with_reducible apply wpList_load_row (ty := 63) (g := W2.heap.size) (t := 63) (fr := (0, 0)) (hu := Try.underlying63)); (case hgd => with_reducible rfl); (case ho => with_reducible rfl); (case hx => rfl); (case hd => rfl); (case hg => exact H5.out.2.2.2.1); (case hi => kernel_rfl)) | fail)
                    --M5
                    refine HN.out.mono ?_
                    rintro e2 W4 ⟨F2, vh2, rfl, h1, h2, h3⟩
                    have haw := (h3.block _ (blk_lt H5.out.2.2.1) (fun hf => H5.out.2.2.2.2.1 _ hf rfl)).trans H5.out.2.2.1
                    have hgw := (h3.block _ (blk_lt H5.out.2.2.2.1) (fun hf => H5.out.2.2.2.2.2 _ hf rfl)).trans H5.out.2.2.2.1
                    have H6 := Lib.hid (And.intro (H5.out.1.told h1 h2 h3) (And.intro H5.out.2.1 (And.intro haw hgw)))
                    clear h1 h2 h3 H5 HN e1 g0 g1 g2 haw hgw
                    obtain ⟨go, rfl, hgo, hnc, _⟩ := own_cell H6.out.1.o j hj
                    have e1 := blk_cell H6.out.2.2.1 1
                    have g0 := blk_cell H6.out.2.2.2 0
                    have g1 := blk_cell H6.out.2.2.2 1
                    have g2 := blk_cell H6.out.2.2.2 2
                    --M6
                    go_upto_region 25 with (first | ((with_reducible refine gate_builtin (b := .append) (xs := #[.tmp 96, .tmp 106]) rfl ?_); at_builtin; refine print_append_cells (w0 := W4) w.heap.size rfl (.tmp 96) (.tmp 106) 60 68 (.agg #[.bool false, .int .i64 0, .int .i64 0, .int .i64 0, .int .i64 0, .int .i64 0, .string ⟨#[]⟩, .bool false, .int .i64 0, .string ⟨#[]⟩]) 10 96 rfl Try.underlying60 info_ev rfl (by decide) (by decide) u4 evs.length (flatV evs) (EvV.cells ⟨true, id, gate, ⟨0, 0, 0, ⟨#[]⟩, false⟩, r1, r2⟩) rfl rfl rfl (one_ev _) H6.out.1.m (Below.refl _ _) H6.out.1.c.b.size (by omega) ?_; intro v1 W5 hown hB hg hat) | fail)
                    --M7
                    have hp5 := H6.out.1.appM (em' := evs ++ [⟨true, id, gate, ⟨0, 0, 0, ⟨#[]⟩, false⟩, r1, r2⟩]) (by rw [List.length_append, flatV_snoc]; exact hown) hB hg hat
                    have H7 := Lib.hid (And.intro hp5 H6.out.2.1)
                    clear hown hB hg hat hp5 H6 e1 g0 g1 g2
                    clear s3
                    have HY := Lib.hid hyes
                    clear hyes
                    have hj2 : (0 : Int) ≤ (j : Int) + 1 := by (go_light; omega)
                    have hj3 : (j : Int) + 1 ≤ (opn.length : Int) := by (go_light; omega)
                    have hj4 : (opn.length : Int) ≤ (co : Int) := by (go_light; omega)
                    have hj5 : (j : Int) ≤ (co : Int) := by (go_light; omega)
                    have hj6 : (0 : Int) ≤ (j : Int) := by (go_light; omega)
                    have hj1 : wrap64 ((j : Int) + 1) = (j : Int) + 1 := wrap64_in _ ⟨by (go_light; omega), by (go_light; omega)⟩
                    have HZ := Lib.hid (And.intro hn0 (And.intro hni (And.intro hev (And.intro hi60 (And.intro hol (And.intro hj hnc))))))
                    clear hn0 hni hev hi60 hol c1 c2 hil hidI hgo hev4 hnc
                    refine start_ (n := 11) (S := (fun w' => PW w w' F2 gh bm vh2 (evs ++ [⟨true, id, gate, ⟨0, 0, 0, ⟨#[]⟩, false⟩, r1, r2⟩]) (fun k => op k ∧ k ≠ id) nx v1 (evs ++ [⟨true, id, gate, ⟨0, 0, 0, ⟨#[]⟩, false⟩, r1, r2⟩]) (.slice (some ⟨go, 0, none⟩) opn.length co) opn)) (ds := ([] : List Nat)) #[false, false, false, false, false, false, false, false, false, false, false] (by kernel_rfl) rfl rfl (H7.out.1.below (below_drew1 (Below.refl _ _))) (fun hHeld => ?_)
                    refine pure_ (i := 1) (N := some 109) (v := ?_) (a' := ?_) #[false, true, false, false, false, false, false, false, false, false, false] rfl rfl (by kernel_rfl) (fun _ _ _ h => h) (Or.inl ⟨by rfl, ?_⟩) ?_ ?_
                    rotate_left
                    · (intro w'; go_simp; with_reducible rfl)
                    rotate_left
                    · simp only [Act.put, List.setIfInBounds_toArray, List.set_cons_zero, List.set_cons_succ, i64_w, i32_w]
                      rfl
                    refine pure_ (i := 2) (N := some 110) (v := ?_) (a' := ?_) #[false, true, true, false, false, false, false, false, false, false, false] rfl rfl (by kernel_rfl) (fun _ _ _ h => h) (Or.inl ⟨by rfl, ?_⟩) ?_ ?_
                    rotate_left
                    · (intro w'; go_simp; with_reducible rfl)
                    rotate_left
                    · simp only [Act.put, List.setIfInBounds_toArray, List.set_cons_zero, List.set_cons_succ, i64_w, i32_w]
                      rfl
                    refine pure_ (i := 3) (N := some 111) (v := ?_) (a' := ?_) #[false, true, true, true, false, false, false, false, false, false, false] rfl rfl (by kernel_rfl) (fun _ _ _ h => h) (Or.inl ⟨by rfl, ?_⟩) ?_ ?_
                    rotate_left
                    · (intro w'; go_simp; with_reducible rfl)
                    rotate_left
                    · simp only [Act.put, List.setIfInBounds_toArray, List.set_cons_zero, List.set_cons_succ, i64_w, i32_w]
                      rfl
                    refine pure_ (i := 5) (N := some 113) (v := ?_) (a' := ?_) #[false, true, true, true, false, true, false, false, false, false, false] rfl rfl (by kernel_rfl) (fun _ _ _ h => h) (Or.inl ⟨by rfl, ?_⟩) ?_ ?_
                    rotate_left
                    · (intro w'; go_simp; with_reducible rfl)
                    rotate_left
                    · simp only [Act.put, List.setIfInBounds_toArray, List.set_cons_zero, List.set_cons_succ, i64_w, i32_w]
                      rfl
                    refine pure_ (i := 6) (N := some 114) (v := ?_) (a' := ?_) #[false, true, true, true, false, true, true, false, false, false, false] rfl rfl (by kernel_rfl) (fun _ _ _ h => h) (Or.inl ⟨by rfl, ?_⟩) ?_ ?_
                    rotate_left
                    · (intro w'; go_simp; with_reducible rfl)
                    rotate_left
                    · simp only [Act.put, List.setIfInBounds_toArray, List.set_cons_zero, List.set_cons_succ, i64_w, i32_w]
                      rfl
                    refine pure_ (i := 7) (N := some 115) (v := ?_) (a' := ?_) #[false, true, true, true, false, true, true, true, false, false, false] rfl rfl (by kernel_rfl) (fun _ _ _ h => h) (Or.inl ⟨by rfl, ?_⟩) ?_ ?_
                    rotate_left
                    · (intro w'; go_simp; with_reducible rfl)
                    rotate_left
                    · simp only [Act.put, List.setIfInBounds_toArray, List.set_cons_zero, List.set_cons_succ, i64_w, i32_w]
                      rfl
                    refine pure_ (i := 8) (N := some 116) (v := ?_) (a' := ?_) #[false, true, true, true, false, true, true, true, true, false, false] rfl rfl (by kernel_rfl) (fun _ _ _ h => h) (Or.inl ⟨by rfl, ?_⟩) ?_ ?_
                    rotate_left
                    · (intro w'; go_simp; with_reducible rfl)
                    rotate_left
                    · simp only [Act.put, List.setIfInBounds_toArray, List.set_cons_zero, List.set_cons_succ, i64_w, i32_w]
                      rfl
                    have HF5 : ∀ k, W5.heap.size ≤ k → w.heap.size ≤ k ∧ ¬ F2 k ∧ v1.ownBlock ≠ some k := fun k hk => ⟨Nat.le_trans H7.out.1.c.b.size hk, fun hf => Nat.lt_irrefl _ (Nat.lt_of_lt_of_le (H7.out.1.c.hi.lt k hf) hk), fun e => Nat.lt_irrefl _ (Nat.lt_of_lt_of_le (own_lt' H7.out.1.m k e) hk)⟩
                    have HF6 : ∀ k, W5.heap.size ≤ k → (Value.slice (some ⟨go, 0, none⟩) opn.length co).ownBlock ≠ some k := fun k hk e => Nat.lt_irrefl _ (Nat.lt_of_lt_of_le (own_lt' H7.out.1.o k e) hk)
                    have HF := Lib.hid (And.intro HF5 HF6)
                    clear HF5 HF6
                    have h6 := own_empty W5.drew W5.heap.size 3 1 (Nat.le_refl _)
                    refine one_ (i := 0) (N := some 108) #[true, true, true, true, false, true, true, true, true, false, false] rfl rfl (by kernel_rfl) (by decide) (fun K hK => ?_)
                    refine event_step (v := .slice (some ⟨W5.heap.size, 0, none⟩) 0 0) (w1 := W5.drew.alloc (.cells #[] 3)) (by rfl) (by go_simp; (try with_reducible rfl)) ?_
                    refine hK.out _ _ (hHeld.below (below_alloc (Below.refl _ _) _)) (fun hHe6 => ?_)
                    clear hK K
                    refine norm_ (a' := ?_) ?_ ?_
                    rotate_left
                    · show Act.put _ (some 108) _ = _
                      simp only [Act.put, List.setIfInBounds_toArray, List.set_cons_zero, List.set_cons_succ, i64_w, i32_w]
                      rfl
                    have hs6 : W5.heap.size ≤ (W5.drew.alloc (.cells #[] 3)).heap.size := by simp
                    generalize W5.drew.alloc (.cells #[] 3) = W6 at *
                    obtain ⟨v4, W7, hap4, hown4, hg4, hat4⟩ := app_i W6 W5.heap.size (.slice (some ⟨W5.heap.size, 0, none⟩) 0 0) [] (opn.take j) (some ⟨go, 0, none⟩) j co h6 (reads_take hHe6.o rfl (by have := HZ.out.2.2.2.2.1; omega) j (Nat.le_of_lt HZ.out.2.2.2.2.2.1)) (by have := HZ.out.2.2.2.2.1; have := HZ.out.2.2.2.2.2.1; simp; omega) hs6
                    refine one_ (i := 4) (N := some 112) #[true, true, true, true, true, true, true, true, true, false, false] rfl rfl (by kernel_rfl) (by decide) (fun K hK => ?_)
                    refine event_step (v := v4) (w1 := W7) (by rfl) (append_event2 rfl rfl rfl hap4) ?_
                    refine hK.out _ _ (hHe6.grownF hg4 (fun k hk => ⟨(HF.out.1 k (own_base h6 k hk)).1, (HF.out.1 k (own_base h6 k hk)).2.1, (HF.out.1 k (own_base h6 k hk)).2.2, HF.out.2 k (own_base h6 k hk)⟩)) (fun hHe7 => ?_)
                    clear hK K
                    refine norm_ (a' := ?_) ?_ ?_
                    rotate_left
                    · show Act.put _ (some 112) _ = _
                      simp only [Act.put, List.setIfInBounds_toArray, List.set_cons_zero, List.set_cons_succ, i64_w, i32_w]
                      rfl
                    rw [List.nil_append] at hown4
                    obtain ⟨v5, W8, hap5, hown5, hg5, hat5⟩ := app_i W7 W5.heap.size v4 (opn.take j) (opn.drop (j + 1)) (if co = j + 1 then some ⟨go, 0, none⟩ else some ⟨go, j + 1, none⟩) (opn.length - (j + 1)) (co - (j + 1)) hown4 (reads_drop hHe7.o rfl (by have := HZ.out.2.2.2.2.1; omega) HZ.out.2.2.2.2.2.2 (j + 1)) (by have := HZ.out.2.2.2.2.1; have := HZ.out.2.2.2.2.2.1; rw [List.length_take]; omega) (Nat.le_trans hs6 hg4.size)
                    refine one_ (i := 9) (N := some 117) #[true, true, true, true, true, true, true, true, true, true, false] rfl rfl (by kernel_rfl) (by decide) (fun K hK => ?_)
                    refine event_step (v := v5) (w1 := W8) (by rfl) (append_event2 rfl rfl rfl hap5) ?_
                    refine hK.out _ _ (hHe7.grownF hg5 (fun k hk => ⟨(HF.out.1 k (own_base hown4 k hk)).1, (HF.out.1 k (own_base hown4 k hk)).2.1, (HF.out.1 k (own_base hown4 k hk)).2.2, HF.out.2 k (own_base hown4 k hk)⟩)) (fun hHe8 => ?_)
                    clear hK K
                    refine norm_ (a' := ?_) ?_ ?_
                    rotate_left
                    · show Act.put _ (some 117) _ = _
                      simp only [Act.put, List.setIfInBounds_toArray, List.set_cons_zero, List.set_cons_succ, i64_w, i32_w]
                      rfl
                    generalize (if co = j + 1 then some (⟨go, 0, none⟩ : Addr) else some ⟨go, j + 1, none⟩) = AA at *
                    refine pure_ (i := 10) (N := some 5) (v := ?_) (a' := ?_) #[true, true, true, true, true, true, true, true, true, true, true] rfl rfl (by kernel_rfl) (fun _ _ _ h => h) (Or.inl ⟨by rfl, ?_⟩) ?_ ?_
                    rotate_left
                    · (intro w'; go_simp; with_reducible rfl)
                    rotate_left
                    · simp only [Act.put, List.setIfInBounds_toArray, List.set_cons_zero, List.set_cons_succ, i64_w, i32_w]
                      rfl
                    refine done_ (by kernel_rfl) ?_
                    have hp9 := hHe8.newO hown5 (fun k hk => HF.out.1 k hk)
                    have hcut := open_cut (rising_nodup H7.out.2.1.rise) HY.out
                    have H9 := Lib.hid (And.intro hp9 (And.intro (H7.out.2.1.tell (gate := gate) (err := r1) (a := ⟨0, 0, 0, ⟨#[]⟩, false⟩) (dat := r2) (List.mem_of_getElem? HY.out) hcut.1 hcut.2.1) (show ∀ x, (op x ∧ x ≠ id) ↔ x ∈ opn.take j ++ opn.drop (j + 1) from fun x => (and_congr_left fun _ => H7.out.2.2.1 x).trans (hcut.2.2 x))))
                    clear hp9 hcut hown5 hg5 hat5 hap5 hown4 hg4 hat4 hap4 h6 hs6 hHe8 hHe7 hHe6 hHeld hj1 hj2 hj3 hj4 hj5 hj6 hj0
                    go_wp2_with fail
                    go_meet
                    case rel => exact ⟨F2, vh2, _, _, nx, _, rfl, HZ.out.1, by have := HZ.out.2.1; omega, by rw [List.length_append]; have := HZ.out.2.2.1; simp; omega, H9.out.1, H9.out.2.1, H9.out.2.2⟩
        case rest =>
          have HS2 := Lib.hid s2
          clear HQ e0 e1 e2 e3 e4 e5 e6 e7 e8 e9 hol hx hn0 hni hev s2 s3
          obtain ⟨F, vh, evs, op, nx, opn, rfl, hn0, hni, hev, hP, hN, hop⟩ := hcut
          have hnx : nx ≤ 61 := by omega
          have hev1 : evs.length ≤ 5000 := by omega
          have hol : opn.length ≤ 61 := by
            have := len_le (L := opn) (n := nx) (rising_nodup hN.rise) hN.rng
            omega
          have HC := Lib.hid (And.intro hP (And.intro hN hop))
          clear hP hN hop
          go_wp2_with fail
          refine (hall_n wc F gh bm vh evs op nx HC.out.1.c.hi hev1).mono ?_
          rintro e1 W3 ⟨A3, c3, rfl, ho, hb⟩
          have H3 := Lib.hid (And.intro (HC.out.1.below hb) HC.out.2)
          clear ho hb HC
          go_wp2_with fail
          refine (open_n W3 F gh bm vh evs op nx H3.out.1.c.hi (by omega) (fun x hx => (H3.out.2.1.rng x ((H3.out.2.2 x).1 hx)))).mono ?_
          rintro e2 W4 ⟨v5, L, rfl, hb, ho, hL, hm⟩
          obtain rfl : L = opn := rising_eq hL H3.out.2.1.rise (fun x => (hm x).trans (H3.out.2.2 x))
          obtain ⟨A5, c5, rfl⟩ := own_slice_any ho
          have H4 := Lib.hid (And.intro (H3.out.1.below hb) (And.intro H3.out.2 ho))
          clear hb ho hL hm H3
          obtain ⟨Am, cm, rfl⟩ := own_slice H4.out.1.m
          obtain ⟨Ao, co, rfl⟩ := own_slice H4.out.1.o
          --R1
          go_wp2_with fail
          go_loopw [14] (fun v14 wk => ∃ k : Nat, k ≤ L.length ∧ v14 = .int .i64 (k : Int) ∧ Below W4.heap.size W4 wk) (fun v => fun _ => L.length - (intOf v).toNat)
          case atStart => exact ⟨0, by omega, rfl, Below.refl _ _⟩
          case round =>
            obtain ⟨k, hk, rfl, hbk⟩ := hrel
            by_cases ck : (k : Int) < (L.length : Int)
            · have hkl : k < L.length := by omega
              obtain ⟨go, rfl, hgo, hnc, hcell⟩ := own_cell (H4.out.1.below hbk).o k hkl
              have ho5 := own_blk H4.out.2.2 (fun k hk => hbk.block k (own_lt' H4.out.2.2 k hk))
              obtain ⟨g5, rfl, hg5, hnc5, hcell5⟩ := own_cell ho5 k hkl
              have hk0 : (0 : Int) ≤ (k : Int) := by omega
              have HK := Lib.hid hbk
              clear hbk ho5
              generalize L[k] = y at hcell hcell5
              have sk : wrap64 ((k : Int) + 1) = (k : Int) + 1 := wrap64_in _ ⟨by omega, by omega⟩
              clear hnx hol hn0 hni hev hev1 hi60 hil c1 c2 hi0 HS2
              go_wp2_with fail
              go_region
              go_wp2_with fail
              go_roundw
              case rel => exact ⟨k + 1, by clear sk; omega, by rw [sk]; rfl, below_drew1 HK.out⟩
              case measure =>
                rw [sk]
                clear sk
                simp [intOf]
                omega
            · clear hnx hol
              have H5 := Lib.hid (And.intro (H4.out.1.below hbk) H4.out.2.1)
              have hn1 : (0 : Int) ≤ nx := hn0
              have HZ := Lib.hid (And.intro hn0 (And.intro hni hev))
              have ck2 : ¬ ((k : Int) < (L.length : Int)) := ck
              clear hbk H4 hk hn0 hni hev hev1 hn1
              have s2 := HS2.out
              go_wp2_with fail
              go_roundw
              case rel => exact ⟨i + 1, F, vh, evs, op, nx, L, by clear s2; omega, by clear s2; omega, by simp, rfl, HZ.out.1, by have := HZ.out.2.1; clear s2; omega, HZ.out.2.2, H5.out.1, H5.out.2.1, H5.out.2.2⟩
              case measure => simp [intOf]; omega
      · skip
        have hev1 : evs.length ≤ 5000 := by omega
        have HC := Lib.hid (And.intro hP hN)
        clear hP hN hop hn0 hni
        go_wp2_with fail
        refine (hall_n wr F gh bm vh evs op nx HC.out.1.c.hi hev1).mono ?_
        rintro e1 W4 ⟨A3, c3, rfl, ho, hb⟩
        have H4 := Lib.hid (And.intro (HC.out.1.below hb) (And.intro HC.out.2 ho))
        clear ho hb HC
        obtain ⟨Am, cm, rfl⟩ := own_slice H4.out.1.m
        --F1
        go_wp2_with fail
        go_loopw [16] (fun v16 wk => ∃ k : Nat, k ≤ evs.length ∧ v16 = .int .i64 (k : Int) ∧ Below W4.heap.size W4 wk) (fun v => fun _ => evs.length - (intOf v).toNat)
        case atStart => exact ⟨0, by omega, rfl, Below.refl _ _⟩
        case round =>
          obtain ⟨k, hk, rfl, hbk⟩ := hrel
          by_cases ck : (k : Int) < (evs.length : Int)
          · have hkl : k < evs.length := by omega
            have hk0 : (0 : Int) ≤ (k : Int) := by omega
            obtain ⟨gm, rfl, hgm, hcm, hmc⟩ := own_evs H4.out.1.m hkl
            obtain ⟨ga, rfl, hga, hca, hac⟩ := own_evs H4.out.2.2 hkl
            have HKB := Lib.hid hbk
            have HEV := Lib.hid (And.intro hmc hac)
            have HFE := Lib.hid (H4.out.2.1.fnd evs[k] (List.getElem_mem hkl))
            clear hbk hmc hac hgm hga
            generalize evs[k] = e at HEV HFE
            go_wp2_with fail
            --F2
            refine start_ (n := 9) (S := (fun w' => Below W4.heap.size W4 w')) (ds := ([] : List Nat)) #[false, false, false, false, false, false, false, false, false] (by kernel_rfl) rfl rfl (below_drew1 HKB.out) (fun hHeld => ?_)
            refine pure_ (i := 0) (N := some 157) (v := ?_) (a' := ?_) #[true, false, false, false, false, false, false, false, false] rfl rfl (by kernel_rfl) (fun _ _ _ h => h) (Or.inl ⟨by rfl, ?_⟩) ?_ ?_
            rotate_left
            · (intro w'; go_simp; with_reducible rfl)
            rotate_left
            · simp only [Act.put, List.setIfInBounds_toArray, List.set_cons_zero, List.set_cons_succ, i64_w, i32_w]
              rfl
            refine pure_ (i := 1) (N := some 158) (v := ?_) (a' := ?_) #[true, true, false, false, false, false, false, false, false] rfl rfl (by kernel_rfl) (fun _ _ _ h => h) (Or.inl ⟨by rfl, ?_⟩) ?_ ?_
            rotate_left
            · (intro w'; go_simp; with_reducible rfl)
            rotate_left
            · simp only [Act.put, List.setIfInBounds_toArray, List.set_cons_zero, List.set_cons_succ, i64_w, i32_w]
              rfl
            refine pure_ (i := 2) (N := some 159) (v := ?_) (a' := ?_) #[true, true, true, false, false, false, false, false, false] rfl rfl (by kernel_rfl) (fun _ _ _ h => h) (Or.inl ⟨by rfl, ?_⟩) ?_ ?_
            rotate_left
            · (intro w'; go_simp; with_reducible rfl)
            rotate_left
            · simp only [Act.put, List.setIfInBounds_toArray, List.set_cons_zero, List.set_cons_succ, i64_w, i32_w]
              rfl
            refine take_ (i := 3) (N := some 160) (v := (.agg e.cells.toArray)) (a' := ?_) #[true, true, true, true, false, false, false, false, false] rfl rfl (by kernel_rfl) (fun _ _ _ h => h) (Or.inl ⟨by rfl, ?_⟩) hHeld ?_ ?_
            · rintro w' hS
              apply load_ev e
              · rfl
              · rfl
              · exact HEV.out.2 w' hS
            rotate_left
            · simp only [Act.put, List.setIfInBounds_toArray, List.set_cons_zero, List.set_cons_succ, i64_w, i32_w]
              rfl
            refine pure_ (i := 4) (N := some 161) (v := ?_) (a' := ?_) #[true, true, true, true, true, false, false, false, false] rfl rfl (by kernel_rfl) (fun _ _ _ h => h) (Or.inl ⟨by rfl, ?_⟩) ?_ ?_
            rotate_left
            · (intro w'; go_simp; with_reducible rfl)
            rotate_left
            · simp only [Act.put, List.setIfInBounds_toArray, List.set_cons_zero, List.set_cons_succ, i64_w, i32_w]
              rfl
            refine pure_ (i := 5) (N := some 162) (v := ?_) (a' := ?_) #[true, true, true, true, true, true, false, false, false] rfl rfl (by kernel_rfl) (fun _ _ _ h => h) (Or.inl ⟨by rfl, ?_⟩) ?_ ?_
            rotate_left
            · (intro w'; go_simp; with_reducible rfl)
            rotate_left
            · simp only [Act.put, List.setIfInBounds_toArray, List.set_cons_zero, List.set_cons_succ, i64_w, i32_w]
              rfl
            refine pure_ (i := 6) (N := some 163) (v := ?_) (a' := ?_) #[true, true, true, true, true, true, true, false, false] rfl rfl (by kernel_rfl) (fun _ _ _ h => h) (Or.inl ⟨by rfl, ?_⟩) ?_ ?_
            rotate_left
            · (intro w'; go_simp; with_reducible rfl)
            rotate_left
            · simp only [Act.put, List.setIfInBounds_toArray, List.set_cons_zero, List.set_cons_succ, i64_w, i32_w]
              rfl
            refine take_ (i := 7) (N := some 164) (v := (.agg e.cells.toArray)) (a' := ?_) #[true, true, true, true, true, true, true, true, false] rfl rfl (by kernel_rfl) (fun _ _ _ h => h) (Or.inl ⟨by rfl, ?_⟩) hHeld ?_ ?_
            · rintro w' hS
              apply load_ev e
              · rfl
              · rfl
              · exact HEV.out.1 w' hS
            rotate_left
            · simp only [Act.put, List.setIfInBounds_toArray, List.set_cons_zero, List.set_cons_succ, i64_w, i32_w]
              rfl
            refine pure_ (i := 8) (N := some 165) (v := .bool false) (a' := ?_) #[true, true, true, true, true, true, true, true, true] rfl rfl (by kernel_rfl) (fun _ _ _ h => h) (Or.inl ⟨by rfl, fun w' => by apply neq_self e <;> rfl⟩) ?_ ?_
            rotate_left
            · simp only [Act.put, List.setIfInBounds_toArray, List.set_cons_zero, List.set_cons_succ, i64_w, i32_w]
              rfl
            refine done_ (by kernel_rfl) ?_
            have q1 : wr.drew.cell? ⟨gm, k * 10 + 1, none⟩ = some (.int .i64 e.id) := by have := HEV.out.1 _ hHeld 1 _ rfl; rwa [add_any] at this
            have HFI := Lib.hid (And.intro hHeld (find_n wr.drew F gh bm vh evs op nx e.id (H4.out.1.below hHeld).c.hi hev1 (by go_light; omega)))
            clear hHeld
            --F3
            go_wp2_with fail
            refine HFI.out.2.mono ?_
            rintro e5 W5 ⟨rfl, hb5⟩
            have hfe : e.ans = true → (evs.find? (isAns e.id)).getD evNone = e ∧ (evs.find? (isAns e.id)).isSome = true := fun h => by rw [HFE.out h]; exact ⟨rfl, rfl⟩
            generalize (evs.find? (isAns e.id)).getD evNone = f at *
            generalize (evs.find? (isAns e.id)).isSome = fb at *
            have HF5 := Lib.hid (And.intro hfe (below_step HFI.out.1 hb5))
            clear hfe hb5 HFI HFE q1
            --F4
            go_upto_region 41 with (first | ((with_reducible apply wpList_store_sets (ty := 68) (g := W5.heap.size) (t := 68) (old := evNone.cells.toArray)); (case hgd => with_reducible rfl); (case ho => with_reducible rfl); (case hx => rfl); (case hy => rfl); (case hg => exact heap_alloc_new W5 _); (case hi => kernel_rfl); (case hold => kernel_rfl); (case h1 => kernel_rfl)) | fail)
            --F5
            have hb6 := below_sets (Nat.le_refl _) f.cells 0 _ (below_alloc (Below.refl W5.heap.size W5) (.cells evNone.cells.toArray 68))
            have hq6 := blk_sets f.cells 0 evNone.cells.toArray _ (heap_alloc_new W5 (.cells evNone.cells.toArray 68)) rfl
            have HB6 := Lib.hid (And.intro (below_step HF5.out.2 hb6) (show (sets (W5.alloc (.cells evNone.cells.toArray 68)) W5.heap.size 0 f.cells).heap[W5.heap.size]? = some (.cells f.cells.toArray 68 (0, 0)) from hq6))
            clear hb6 hq6
            change Code.wp _ _ _ _ (sets (W5.alloc (.cells evNone.cells.toArray 68)) W5.heap.size 0 f.cells)
            generalize sets (W5.alloc (.cells evNone.cells.toArray 68)) W5.heap.size 0 f.cells = W6 at *
            have HL6 := Lib.hid (show ∀ w', Below W6.heap.size W6 w' → ∀ j v, f.cells[j]? = some v → w'.cell? ((⟨W5.heap.size, 0, none⟩ : Addr).add j) = some v from fun w' hb j v hj => by
              rw [add_any, Nat.zero_add, blk_cell ((hb.block _ (blk_lt HB6.out.2)).trans HB6.out.2) j, List.getElem?_toArray]
              exact hj)
            cases hans : e.ans with
            | false =>
              refine start_ (n := 17) (S := (fun w' => Below W4.heap.size W4 w' ∧ Below W6.heap.size W6 w')) (ds := ([] : List Nat)) #[false, false, false, false, false, false, false, false, false, false, false, false, false, false, false, false, false] (by kernel_rfl) rfl rfl (⟨below_drew1 HB6.out.1, below_drew1 (Below.refl _ _)⟩) (fun hHeld => ?_)
              refine pure_ (i := 0) (N := some 176) (v := ?_) (a' := ?_) #[true, false, false, false, false, false, false, false, false, false, false, false, false, false, false, false, false] rfl rfl (by kernel_rfl) (fun _ _ _ h => h) (Or.inl ⟨by rfl, ?_⟩) ?_ ?_
              rotate_left
              · (intro w'; go_simp; with_reducible rfl)
              rotate_left
              · simp only [Act.put, List.setIfInBounds_toArray, List.set_cons_zero, List.set_cons_succ, i64_w, i32_w]
                rfl
              refine pure_ (i := 1) (N := some 177) (v := ?_) (a' := ?_) #[true, true, false, false, false, false, false, false, false, false, false, false, false, false, false, false, false] rfl rfl (by kernel_rfl) (fun _ _ _ h => h) (Or.inl ⟨by rfl, ?_⟩) ?_ ?_
              rotate_left
              · (intro w'; go_simp; with_reducible rfl)
              rotate_left
              · simp only [Act.put, List.setIfInBounds_toArray, List.set_cons_zero, List.set_cons_succ, i64_w, i32_w]
                rfl
              refine pure_ (i := 2) (N := some 178) (v := ?_) (a' := ?_) #[true, true, true, false, false, false, false, false, false, false, false, false, false, false, false, false, false] rfl rfl (by kernel_rfl) (fun _ _ _ h => h) (Or.inl ⟨by rfl, ?_⟩) ?_ ?_
              rotate_left
              · (intro w'; go_simp; with_reducible rfl)
              rotate_left
              · simp only [Act.put, List.setIfInBounds_toArray, List.set_cons_zero, List.set_cons_succ, i64_w, i32_w]
                rfl
              refine pure_ (i := 3) (N := some 179) (v := ?_) (a' := ?_) #[true, true, true, true, false, false, false, false, false, false, false, false, false, false, false, false, false] rfl rfl (by kernel_rfl) (fun _ _ _ h => h) (Or.inl ⟨by rfl, ?_⟩) ?_ ?_
              rotate_left
              · (intro w'; go_simp; with_reducible rfl)
              rotate_left
              · simp only [Act.put, List.setIfInBounds_toArray, List.set_cons_zero, List.set_cons_succ, i64_w, i32_w]
                rfl
              refine take_ (i := 4) (N := some 180) (v := ?_) (a' := ?_) #[true, true, true, true, true, false, false, false, false, false, false, false, false, false, false, false, false] rfl rfl (by kernel_rfl) (fun _ _ _ h => h) (Or.inl ⟨by rfl, ?_⟩) hHeld ?_ ?_
              rotate_left
              · rintro w' hS
                have q0 : w'.cell? ⟨gm, k * 10, none⟩ = some (.bool false) := by have := HEV.out.1 _ hS.1 0 _ rfl; rw [add_any] at this; exact this.trans (by rw [hans])
                go_simp
                with_reducible rfl
              rotate_left
              · simp only [Act.put, List.setIfInBounds_toArray, List.set_cons_zero, List.set_cons_succ, i64_w, i32_w]
                rfl
              refine pure_ (i := 5) (N := some 181) (v := ?_) (a' := ?_) #[true, true, true, true, true, true, false, false, false, false, false, false, false, false, false, false, false] rfl rfl (by kernel_rfl) (fun _ _ _ h => h) (Or.inl ⟨by rfl, ?_⟩) ?_ ?_
              rotate_left
              · (intro w'; go_simp; with_reducible rfl)
              rotate_left
              · simp only [Act.put, List.setIfInBounds_toArray, List.set_cons_zero, List.set_cons_succ, i64_w, i32_w]
                rfl
              refine pure_ (i := 6) (N := some 182) (v := undef) (a' := ?_) #[true, true, true, true, true, true, true, false, false, false, false, false, false, false, false, false, false] rfl rfl (by kernel_rfl) (fun _ _ _ h => h) (Or.inr ⟨by rfl, rfl⟩) ?_ ?_
              rotate_left
              · simp only [Act.put, List.setIfInBounds_toArray, List.set_cons_zero, List.set_cons_succ, i64_w, i32_w]
                rfl
              refine pure_ (i := 7) (N := some 183) (v := undef) (a' := ?_) #[true, true, true, true, true, true, true, true, false, false, false, false, false, false, false, false, false] rfl rfl (by kernel_rfl) (fun _ _ _ h => h) (Or.inr ⟨by rfl, rfl⟩) ?_ ?_
              rotate_left
              · simp only [Act.put, List.setIfInBounds_toArray, List.set_cons_zero, List.set_cons_succ, i64_w, i32_w]
                rfl
              refine pure_ (i := 8) (N := some 184) (v := undef) (a' := ?_) #[true, true, true, true, true, true, true, true, true, false, false, false, false, false, false, false, false] rfl rfl (by kernel_rfl) (fun _ _ _ h => h) (Or.inr ⟨by rfl, rfl⟩) ?_ ?_
              rotate_left
              · simp only [Act.put, List.setIfInBounds_toArray, List.set_cons_zero, List.set_cons_succ, i64_w, i32_w]
                rfl
              refine pure_ (i := 9) (N := some 185) (v := undef) (a' := ?_) #[true, true, true, true, true, true, true, true, true, true, false, false, false, false, false, false, false] rfl rfl (by kernel_rfl) (fun _ _ _ h => h) (Or.inr ⟨by rfl, rfl⟩) ?_ ?_
              rotate_left
              · simp only [Act.put, List.setIfInBounds_toArray, List.set_cons_zero, List.set_cons_succ, i64_w, i32_w]
                rfl
              refine pure_ (i := 10) (N := some 186) (v := undef) (a' := ?_) #[true, true, true, true, true, true, true, true, true, true, true, false, false, false, false, false, false] rfl rfl (by kernel_rfl) (fun _ _ _ h => h) (Or.inr ⟨by rfl, rfl⟩) ?_ ?_
              rotate_left
              · simp only [Act.put, List.setIfInBounds_toArray, List.set_cons_zero, List.set_cons_succ, i64_w, i32_w]
                rfl
              refine pure_ (i := 11) (N := some 187) (v := undef) (a' := ?_) #[true, true, true, true, true, true, true, true, true, true, true, true, false, false, false, false, false] rfl rfl (by kernel_rfl) (fun _ _ _ h => h) (Or.inr ⟨by rfl, rfl⟩) ?_ ?_
              rotate_left
              · simp only [Act.put, List.setIfInBounds_toArray, List.set_cons_zero, List.set_cons_succ, i64_w, i32_w]
                rfl
              refine pure_ (i := 12) (N := some 188) (v := undef) (a' := ?_) #[true, true, true, true, true, true, true, true, true, true, true, true, true, false, false, false, false] rfl rfl (by kernel_rfl) (fun _ _ _ h => h) (Or.inr ⟨by rfl, rfl⟩) ?_ ?_
              rotate_left
              · simp only [Act.put, List.setIfInBounds_toArray, List.set_cons_zero, List.set_cons_succ, i64_w, i32_w]
                rfl
              refine pure_ (i := 13) (N := some 189) (v := undef) (a' := ?_) #[true, true, true, true, true, true, true, true, true, true, true, true, true, true, false, false, false] rfl rfl (by kernel_rfl) (fun _ _ _ h => h) (Or.inr ⟨by rfl, rfl⟩) ?_ ?_
              rotate_left
              · simp only [Act.put, List.setIfInBounds_toArray, List.set_cons_zero, List.set_cons_succ, i64_w, i32_w]
                rfl
              refine pure_ (i := 14) (N := some 190) (v := undef) (a' := ?_) #[true, true, true, true, true, true, true, true, true, true, true, true, true, true, true, false, false] rfl rfl (by kernel_rfl) (fun _ _ _ h => h) (Or.inr ⟨by rfl, rfl⟩) ?_ ?_
              rotate_left
              · simp only [Act.put, List.setIfInBounds_toArray, List.set_cons_zero, List.set_cons_succ, i64_w, i32_w]
                rfl
              refine pure_ (i := 15) (N := some 191) (v := undef) (a' := ?_) #[true, true, true, true, true, true, true, true, true, true, true, true, true, true, true, true, false] rfl rfl (by kernel_rfl) (fun _ _ _ h => h) (Or.inr ⟨by rfl, rfl⟩) ?_ ?_
              rotate_left
              · simp only [Act.put, List.setIfInBounds_toArray, List.set_cons_zero, List.set_cons_succ, i64_w, i32_w]
                rfl
              refine pure_ (i := 16) (N := some 192) (v := ?_) (a' := ?_) #[true, true, true, true, true, true, true, true, true, true, true, true, true, true, true, true, true] rfl rfl (by kernel_rfl) (fun _ _ _ h => h) (Or.inl ⟨by rfl, ?_⟩) ?_ ?_
              rotate_left
              · (intro w'; go_simp; with_reducible rfl)
              rotate_left
              · simp only [Act.put, List.setIfInBounds_toArray, List.set_cons_zero, List.set_cons_succ, i64_w, i32_w]
                rfl
              refine done_ (by kernel_rfl) ?_
              --F6
              have H7 := Lib.hid hHeld.1
              clear hHeld HB6 HL6 HF5
              have sk : wrap64 ((k : Int) + 1) = (k : Int) + 1 := wrap64_in _ ⟨by (go_light; omega), by (go_light; omega)⟩
              go_wp2_with fail
              go_roundw
              case rel => exact ⟨k + 1, by go_light; omega, by simp, H7.out⟩
              case measure => simp [intOf]; go_light; omega
            | true =>
              obtain ⟨rfl, rfl⟩ := HF5.out.1 hans
              refine start_ (n := 17) (S := (fun w' => Below W4.heap.size W4 w' ∧ Below W6.heap.size W6 w')) (ds := ([] : List Nat)) #[false, false, false, false, false, false, false, false, false, false, false, false, false, false, false, false, false] (by kernel_rfl) rfl rfl (⟨below_drew1 HB6.out.1, below_drew1 (Below.refl _ _)⟩) (fun hHeld => ?_)
              refine pure_ (i := 0) (N := some 176) (v := ?_) (a' := ?_) #[true, false, false, false, false, false, false, false, false, false, false, false, false, false, false, false, false] rfl rfl (by kernel_rfl) (fun _ _ _ h => h) (Or.inl ⟨by rfl, ?_⟩) ?_ ?_
              rotate_left
              · (intro w'; go_simp; with_reducible rfl)
              rotate_left
              · simp only [Act.put, List.setIfInBounds_toArray, List.set_cons_zero, List.set_cons_succ, i64_w, i32_w]
                rfl
              refine pure_ (i := 1) (N := some 177) (v := ?_) (a' := ?_) #[true, true, false, false, false, false, false, false, false, false, false, false, false, false, false, false, false] rfl rfl (by kernel_rfl) (fun _ _ _ h => h) (Or.inl ⟨by rfl, ?_⟩) ?_ ?_
              rotate_left
              · (intro w'; go_simp; with_reducible rfl)
              rotate_left
              · simp only [Act.put, List.setIfInBounds_toArray, List.set_cons_zero, List.set_cons_succ, i64_w, i32_w]
                rfl
              refine pure_ (i := 2) (N := some 178) (v := ?_) (a' := ?_) #[true, true, true, false, false, false, false, false, false, false, false, false, false, false, false, false, false] rfl rfl (by kernel_rfl) (fun _ _ _ h => h) (Or.inl ⟨by rfl, ?_⟩) ?_ ?_
              rotate_left
              · (intro w'; go_simp; with_reducible rfl)
              rotate_left
              · simp only [Act.put, List.setIfInBounds_toArray, List.set_cons_zero, List.set_cons_succ, i64_w, i32_w]
                rfl
              refine pure_ (i := 3) (N := some 179) (v := ?_) (a' := ?_) #[true, true, true, true, false, false, false, false, false, false, false, false, false, false, false, false, false] rfl rfl (by kernel_rfl) (fun _ _ _ h => h) (Or.inl ⟨by rfl, ?_⟩) ?_ ?_
              rotate_left
              · (intro w'; go_simp; with_reducible rfl)
              rotate_left
              · simp only [Act.put, List.setIfInBounds_toArray, List.set_cons_zero, List.set_cons_succ, i64_w, i32_w]
                rfl
              refine take_ (i := 4) (N := some 180) (v := ?_) (a' := ?_) #[true, true, true, true, true, false, false, false, false, false, false, false, false, false, false, false, false] rfl rfl (by kernel_rfl) (fun _ _ _ h => h) (Or.inl ⟨by rfl, ?_⟩) hHeld ?_ ?_
              rotate_left
              · rintro w' hS
                have q0 : w'.cell? ⟨gm, k * 10, none⟩ = some (.bool true) := by have := HEV.out.1 _ hS.1 0 _ rfl; rw [add_any] at this; exact this.trans (by rw [hans])
                go_simp
                with_reducible rfl
              rotate_left
              · simp only [Act.put, List.setIfInBounds_toArray, List.set_cons_zero, List.set_cons_succ, i64_w, i32_w]
                rfl
              refine pure_ (i := 5) (N := some 181) (v := ?_) (a' := ?_) #[true, true, true, true, true, true, false, false, false, false, false, false, false, false, false, false, false] rfl rfl (by kernel_rfl) (fun _ _ _ h => h) (Or.inl ⟨by rfl, ?_⟩) ?_ ?_
              rotate_left
              · (intro w'; go_simp; with_reducible rfl)
              rotate_left
              · simp only [Act.put, List.setIfInBounds_toArray, List.set_cons_zero, List.set_cons_succ, i64_w, i32_w]
                rfl
              refine pure_ (i := 6) (N := some 182) (v := ?_) (a' := ?_) #[true, true, true, true, true, true, true, false, false, false, false, false, false, false, false, false, false] rfl rfl (by kernel_rfl) (fun _ _ _ h => h) (Or.inl ⟨by rfl, ?_⟩) ?_ ?_
              rotate_left
              · (intro w'; go_simp; with_reducible rfl)
              rotate_left
              · simp only [Act.put, List.setIfInBounds_toArray, List.set_cons_zero, List.set_cons_succ, i64_w, i32_w]
                rfl
              refine pure_ (i := 7) (N := some 183) (v := ?_) (a' := ?_) #[true, true, true, true, true, true, true, true, false, false, false, false, false, false, false, false, false] rfl rfl (by kernel_rfl) (fun _ _ _ h => h) (Or.inl ⟨by rfl, ?_⟩) ?_ ?_
              rotate_left
              · (intro w'; go_simp; with_reducible rfl)
              rotate_left
              · simp only [Act.put, List.setIfInBounds_toArray, List.set_cons_zero, List.set_cons_succ, i64_w, i32_w]
                rfl
              refine pure_ (i := 8) (N := some 184) (v := ?_) (a' := ?_) #[true, true, true, true, true, true, true, true, true, false, false, false, false, false, false, false, false] rfl rfl (by kernel_rfl) (fun _ _ _ h => h) (Or.inl ⟨by rfl, ?_⟩) ?_ ?_
              rotate_left
              · (intro w'; go_simp; with_reducible rfl)
              rotate_left
              · simp only [Act.put, List.setIfInBounds_toArray, List.set_cons_zero, List.set_cons_succ, i64_w, i32_w]
                rfl
              refine take_ (i := 9) (N := some 185) (v := (.agg f.cells.toArray)) (a' := ?_) #[true, true, true, true, true, true, true, true, true, true, false, false, false, false, false, false, false] rfl rfl (by kernel_rfl) (fun _ _ _ h => h) (Or.inl ⟨by rfl, ?_⟩) hHeld ?_ ?_
              · rintro w' hS
                apply load_ev f
                · rfl
                · rfl
                · exact HL6.out w' hS.2
              rotate_left
              · simp only [Act.put, List.setIfInBounds_toArray, List.set_cons_zero, List.set_cons_succ, i64_w, i32_w]
                rfl
              refine pure_ (i := 10) (N := some 186) (v := ?_) (a' := ?_) #[true, true, true, true, true, true, true, true, true, true, true, false, false, false, false, false, false] rfl rfl (by kernel_rfl) (fun _ _ _ h => h) (Or.inl ⟨by rfl, ?_⟩) ?_ ?_
              rotate_left
              · (intro w'; go_simp; with_reducible rfl)
              rotate_left
              · simp only [Act.put, List.setIfInBounds_toArray, List.set_cons_zero, List.set_cons_succ, i64_w, i32_w]
                rfl
              refine pure_ (i := 11) (N := some 187) (v := ?_) (a' := ?_) #[true, true, true, true, true, true, true, true, true, true, true, true, false, false, false, false, false] rfl rfl (by kernel_rfl) (fun _ _ _ h => h) (Or.inl ⟨by rfl, ?_⟩) ?_ ?_
              rotate_left
              · (intro w'; go_simp; with_reducible rfl)
              rotate_left
              · simp only [Act.put, List.setIfInBounds_toArray, List.set_cons_zero, List.set_cons_succ, i64_w, i32_w]
                rfl
              refine pure_ (i := 12) (N := some 188) (v := ?_) (a' := ?_) #[true, true, true, true, true, true, true, true, true, true, true, true, true, false, false, false, false] rfl rfl (by kernel_rfl) (fun _ _ _ h => h) (Or.inl ⟨by rfl, ?_⟩) ?_ ?_
              rotate_left
              · (intro w'; go_simp; with_reducible rfl)
              rotate_left
              · simp only [Act.put, List.setIfInBounds_toArray, List.set_cons_zero, List.set_cons_succ, i64_w, i32_w]
                rfl
              refine take_ (i := 13) (N := some 189) (v := (.agg f.cells.toArray)) (a' := ?_) #[true, true, true, true, true, true, true, true, true, true, true, true, true, true, false, false, false] rfl rfl (by kernel_rfl) (fun _ _ _ h => h) (Or.inl ⟨by rfl, ?_⟩) hHeld ?_ ?_
              · rintro w' hS
                apply load_ev f
                · rfl
                · rfl
                · exact HEV.out.1 w' hS.1
              rotate_left
              · simp only [Act.put, List.setIfInBounds_toArray, List.set_cons_zero, List.set_cons_succ, i64_w, i32_w]
                rfl
              refine pure_ (i := 14) (N := some 190) (v := .bool false) (a' := ?_) #[true, true, true, true, true, true, true, true, true, true, true, true, true, true, true, false, false] rfl rfl (by kernel_rfl) (fun _ _ _ h => h) (Or.inl ⟨by rfl, fun w' => by apply neq_self f <;> rfl⟩) ?_ ?_
              rotate_left
              · simp only [Act.put, List.setIfInBounds_toArray, List.set_cons_zero, List.set_cons_succ, i64_w, i32_w]
                rfl
              refine pure_ (i := 15) (N := some 191) (v := ?_) (a' := ?_) #[true, true, true, true, true, true, true, true, true, true, true, true, true, true, true, true, false] rfl rfl (by kernel_rfl) (fun _ _ _ h => h) (Or.inl ⟨by rfl, ?_⟩) ?_ ?_
              rotate_left
              · (intro w'; go_simp; with_reducible rfl)
              rotate_left
              · simp only [Act.put, List.setIfInBounds_toArray, List.set_cons_zero, List.set_cons_succ, i64_w, i32_w]
                rfl
              refine pure_ (i := 16) (N := some 192) (v := ?_) (a' := ?_) #[true, true, true, true, true, true, true, true, true, true, true, true, true, true, true, true, true] rfl rfl (by kernel_rfl) (fun _ _ _ h => h) (Or.inl ⟨by rfl, ?_⟩) ?_ ?_
              rotate_left
              · (intro w'; go_simp; with_reducible rfl)
              rotate_left
              · simp only [Act.put, List.setIfInBounds_toArray, List.set_cons_zero, List.set_cons_succ, i64_w, i32_w]
                rfl
              refine done_ (by kernel_rfl) ?_
              --F7
              have H7 := Lib.hid hHeld.1
              clear hHeld HB6 HL6 HF5
              have sk : wrap64 ((k : Int) + 1) = (k : Int) + 1 := wrap64_in _ ⟨by (go_light; omega), by (go_light; omega)⟩
              go_wp2_with fail
              go_roundw
              case rel => exact ⟨k + 1, by go_light; omega, by simp, H7.out⟩
              case measure => simp [intOf]; go_light; omega
          · have H5 := Lib.hid (H4.out.1.c.b)
            have H6 := Lib.hid (below_step H5.out hbk)
            clear H4 H5 hbk
            go_wp2_with fail
            refine (awake_n _).mono ?_
            rintro e5 W5 ⟨rfl, hb⟩
            have H7 := Lib.hid (below_step H6.out hb)
            clear hb H6
            go_wp2_with fail
            go_ret
            exact ⟨rfl, H7.out⟩
    · skip
      have hev1 : evs.length ≤ 5000 := by omega
      have HC := Lib.hid (And.intro hP hN)
      clear hP hN hop hn0 hni
      go_wp2_with fail
      refine (hall_n wr F gh bm vh evs op nx HC.out.1.c.hi hev1).mono ?_
      rintro e1 W4 ⟨A3, c3, rfl, ho, hb⟩
      have H4 := Lib.hid (And.intro (HC.out.1.below hb) (And.intro HC.out.2 ho))
      clear ho hb HC
      obtain ⟨Am, cm, rfl⟩ := own_slice H4.out.1.m
      --F1
      go_wp2_with fail
      go_loopw [16] (fun v16 wk => ∃ k : Nat, k ≤ evs.length ∧ v16 = .int .i64 (k : Int) ∧ Below W4.heap.size W4 wk) (fun v => fun _ => evs.length - (intOf v).toNat)
      case atStart => exact ⟨0, by omega, rfl, Below.refl _ _⟩
      case round =>
        obtain ⟨k, hk, rfl, hbk⟩ := hrel
        by_cases ck : (k : Int) < (evs.length : Int)
        · have hkl : k < evs.length := by omega
          have hk0 : (0 : Int) ≤ (k : Int) := by omega
          obtain ⟨gm, rfl, hgm, hcm, hmc⟩ := own_evs H4.out.1.m hkl
          obtain ⟨ga, rfl, hga, hca, hac⟩ := own_evs H4.out.2.2 hkl
          have HKB := Lib.hid hbk
          have HEV := Lib.hid (And.intro hmc hac)
          have HFE := Lib.hid (H4.out.2.1.fnd evs[k] (List.getElem_mem hkl))
          clear hbk hmc hac hgm hga
          generalize evs[k] = e at HEV HFE
          go_wp2_with fail
          --F2
          refine start_ (n := 9) (S := (fun w' => Below W4.heap.size W4 w')) (ds := ([] : List Nat)) #[false, false, false, false, false, false, false, false, false] (by kernel_rfl) rfl rfl (below_drew1 HKB.out) (fun hHeld => ?_)
          refine pure_ (i := 0) (N := some 157) (v := ?_) (a' := ?_) #[true, false, false, false, false, false, false, false, false] rfl rfl (by kernel_rfl) (fun _ _ _ h => h) (Or.inl ⟨by rfl, ?_⟩) ?_ ?_
          rotate_left
          · (intro w'; go_simp; with_reducible rfl)
          rotate_left
          · simp only [Act.put, List.setIfInBounds_toArray, List.set_cons_zero, List.set_cons_succ, i64_w, i32_w]
            rfl
          refine pure_ (i := 1) (N := some 158) (v := ?_) (a' := ?_) #[true, true, false, false, false, false, false, false, false] rfl rfl (by kernel_rfl) (fun _ _ _ h => h) (Or.inl ⟨by rfl, ?_⟩) ?_ ?_
          rotate_left
          · (intro w'; go_simp; with_reducible rfl)
          rotate_left
          · simp only [Act.put, List.setIfInBounds_toArray, List.set_cons_zero, List.set_cons_succ, i64_w, i32_w]
            rfl
          refine pure_ (i := 2) (N := some 159) (v := ?_) (a' := ?_) #[true, true, true, false, false, false, false, false, false] rfl rfl (by kernel_rfl) (fun _ _ _ h => h) (Or.inl ⟨by rfl, ?_⟩) ?_ ?_
          rotate_left
          · (intro w'; go_simp; with_reducible rfl)
          rotate_left
          · simp only [Act.put, List.setIfInBounds_toArray, List.set_cons_zero, List.set_cons_succ, i64_w, i32_w]
            rfl
          refine take_ (i := 3) (N := some 160) (v := (.agg e.cells.toArray)) (a' := ?_) #[true, true, true, true, false, false, false, false, false] rfl rfl (by kernel_rfl) (fun _ _ _ h => h) (Or.inl ⟨by rfl, ?_⟩) hHeld ?_ ?_
          · rintro w' hS
            apply load_ev e
            · rfl
            · rfl
            · exact HEV.out.2 w' hS
          rotate_left
          · simp only [Act.put, List.setIfInBounds_toArray, List.set_cons_zero, List.set_cons_succ, i64_w, i32_w]
            rfl
          refine pure_ (i := 4) (N := some 161) (v := ?_) (a' := ?_) #[true, true, true, true, true, false, false, false, false] rfl rfl (by kernel_rfl) (fun _ _ _ h => h) (Or.inl ⟨by rfl, ?_⟩) ?_ ?_
          rotate_left
          · (intro w'; go_simp; with_reducible rfl)
          rotate_left
          · simp only [Act.put, List.setIfInBounds_toArray, List.set_cons_zero, List.set_cons_succ, i64_w, i32_w]
            rfl
          refine pure_ (i := 5) (N := some 162) (v := ?_) (a' := ?_) #[true, true, true, true, true, true, false, false, false] rfl rfl (by kernel_rfl) (fun _ _ _ h => h) (Or.inl ⟨by rfl, ?_⟩) ?_ ?_
          rotate_left
          · (intro w'; go_simp; with_reducible rfl)
          rotate_left
          · simp only [Act.put, List.setIfInBounds_toArray, List.set_cons_zero, List.set_cons_succ, i64_w, i32_w]
            rfl
          refine pure_ (i := 6) (N := some 163) (v := ?_) (a' := ?_) #[true, true, true, true, true, true, true, false, false] rfl rfl (by kernel_rfl) (fun _ _ _ h => h) (Or.inl ⟨by rfl, ?_⟩) ?_ ?_
          rotate_left
          · (intro w'; go_simp; with_reducible rfl)
          rotate_left
          · simp only [Act.put, List.setIfInBounds_toArray, List.set_cons_zero, List.set_cons_succ, i64_w, i32_w]
            rfl
          refine take_ (i := 7) (N := some 164) (v := (.agg e.cells.toArray)) (a' := ?_) #[true, true, true, true, true, true, true, true, false] rfl rfl (by kernel_rfl) (fun _ _ _ h => h) (Or.inl ⟨by rfl, ?_⟩) hHeld ?_ ?_
          · rintro w' hS
            apply load_ev e
            · rfl
            · rfl
            · exact HEV.out.1 w' hS
          rotate_left
          · simp only [Act.put, List.setIfInBounds_toArray, List.set_cons_zero, List.set_cons_succ, i64_w, i32_w]
            rfl
          refine pure_ (i := 8) (N := some 165) (v := .bool false) (a' := ?_) #[true, true, true, true, true, true, true, true, true] rfl rfl (by kernel_rfl) (fun _ _ _ h => h) (Or.inl ⟨by rfl, fun w' => by apply neq_self e <;> rfl⟩) ?_ ?_
          rotate_left
          · simp only [Act.put, List.setIfInBounds_toArray, List.set_cons_zero, List.set_cons_succ, i64_w, i32_w]
            rfl
          refine done_ (by kernel_rfl) ?_
          have q1 : wr.drew.cell? ⟨gm, k * 10 + 1, none⟩ = some (.int .i64 e.id) := by have := HEV.out.1 _ hHeld 1 _ rfl; rwa [add_any] at this
          have HFI := Lib.hid (And.intro hHeld (find_n wr.drew F gh bm vh evs op nx e.id (H4.out.1.below hHeld).c.hi hev1 (by go_light; omega)))
          clear hHeld
          --F3
          go_wp2_with fail
          refine HFI.out.2.mono ?_
          rintro e5 W5 ⟨rfl, hb5⟩
          have hfe : e.ans = true → (evs.find? (isAns e.id)).getD evNone = e ∧ (evs.find? (isAns e.id)).isSome = true := fun h => by rw [HFE.out h]; exact ⟨rfl, rfl⟩
          generalize (evs.find? (isAns e.id)).getD evNone = f at *
          generalize (evs.find? (isAns e.id)).isSome = fb at *
          have HF5 := Lib.hid (And.intro hfe (below_step HFI.out.1 hb5))
          clear hfe hb5 HFI HFE q1
          --F4
          go_upto_region 41 with (first | ((with_reducible apply wpList_store_sets (ty := 68) (g := W5.heap.size) (t := 68) (old := evNone.cells.toArray)); (case hgd => with_reducible rfl); (case ho => with_reducible rfl); (case hx => rfl); (case hy => rfl); (case hg => exact heap_alloc_new W5 _); (case hi => kernel_rfl); (case hold => kernel_rfl); (case h1 => kernel_rfl)) | fail)
          --F5
          have hb6 := below_sets (Nat.le_refl _) f.cells 0 _ (below_alloc (Below.refl W5.heap.size W5) (.cells evNone.cells.toArray 68))
          have hq6 := blk_sets f.cells 0 evNone.cells.toArray _ (heap_alloc_new W5 (.cells evNone.cells.toArray 68)) rfl
          have HB6 := Lib.hid (And.intro (below_step HF5.out.2 hb6) (show (sets (W5.alloc (.cells evNone.cells.toArray 68)) W5.heap.size 0 f.cells).heap[W5.heap.size]? = some (.cells f.cells.toArray 68 (0, 0)) from hq6))
          clear hb6 hq6
          change Code.wp _ _ _ _ (sets (W5.alloc (.cells evNone.cells.toArray 68)) W5.heap.size 0 f.cells)
          generalize sets (W5.alloc (.cells evNone.cells.toArray 68)) W5.heap.size 0 f.cells = W6 at *
          have HL6 := Lib.hid (show ∀ w', Below W6.heap.size W6 w' → ∀ j v, f.cells[j]? = some v → w'.cell? ((⟨W5.heap.size, 0, none⟩ : Addr).add j) = some v from fun w' hb j v hj => by
            rw [add_any, Nat.zero_add, blk_cell ((hb.block _ (blk_lt HB6.out.2)).trans HB6.out.2) j, List.getElem?_toArray]
            exact hj)
          cases hans : e.ans with
          | false =>
            refine start_ (n := 17) (S := (fun w' => Below W4.heap.size W4 w' ∧ Below W6.heap.size W6 w')) (ds := ([] : List Nat)) #[false, false, false, false, false, false, false, false, false, false, false, false, false, false, false, false, false] (by kernel_rfl) rfl rfl (⟨below_drew1 HB6.out.1, below_drew1 (Below.refl _ _)⟩) (fun hHeld => ?_)
            refine pure_ (i := 0) (N := some 176) (v := ?_) (a' := ?_) #[true, false, false, false, false, false, false, false, false, false, false, false, false, false, false, false, false] rfl rfl (by kernel_rfl) (fun _ _ _ h => h) (Or.inl ⟨by rfl, ?_⟩) ?_ ?_
            rotate_left
            · (intro w'; go_simp; with_reducible rfl)
            rotate_left
            · simp only [Act.put, List.setIfInBounds_toArray, List.set_cons_zero, List.set_cons_succ, i64_w, i32_w]
              rfl
            refine pure_ (i := 1) (N := some 177) (v := ?_) (a' := ?_) #[true, true, false, false, false, false, false, false, false, false, false, false, false, false, false, false, false] rfl rfl (by kernel_rfl) (fun _ _ _ h => h) (Or.inl ⟨by rfl, ?_⟩) ?_ ?_
            rotate_left
            · (intro w'; go_simp; with_reducible rfl)
            rotate_left
            · simp only [Act.put, List.setIfInBounds_toArray, List.set_cons_zero, List.set_cons_succ, i64_w, i32_w]
              rfl
            refine pure_ (i := 2) (N := some 178) (v := ?_) (a' := ?_) #[true, true, true, false, false, false, false, false, false, false, false, false, false, false, false, false, false] rfl rfl (by kernel_rfl) (fun _ _ _ h => h) (Or.inl ⟨by rfl, ?_⟩) ?_ ?_
            rotate_left
            · (intro w'; go_simp; with_reducible rfl)
            rotate_left
            · simp only [Act.put, List.setIfInBounds_toArray, List.set_cons_zero, List.set_cons_succ, i64_w, i32_w]
              rfl
            refine pure_ (i := 3) (N := some 179) (v := ?_) (a' := ?_) #[true, true, true, true, false, false, false, false, false, false, false, false, false, false, false, false, false] rfl rfl (by kernel_rfl) (fun _ _ _ h => h) (Or.inl ⟨by rfl, ?_⟩) ?_ ?_
            rotate_left
            · (intro w'; go_simp; with_reducible rfl)
            rotate_left
            · simp only [Act.put, List.setIfInBounds_toArray, List.set_cons_zero, List.set_cons_succ, i64_w, i32_w]
              rfl
            refine take_ (i := 4) (N := some 180) (v := ?_) (a' := ?_) #[true, true, true, true, true, false, false, false, false, false, false, false, false, false, false, false, false] rfl rfl (by kernel_rfl) (fun _ _ _ h => h) (Or.inl ⟨by rfl, ?_⟩) hHeld ?_ ?_
            rotate_left
            · rintro w' hS
              have q0 : w'.cell? ⟨gm, k * 10, none⟩ = some (.bool false) := by have := HEV.out.1 _ hS.1 0 _ rfl; rw [add_any] at this; exact this.trans (by rw [hans])
              go_simp
              with_reducible rfl
            rotate_left
            · simp only [Act.put, List.setIfInBounds_toArray, List.set_cons_zero, List.set_cons_succ, i64_w, i32_w]
              rfl
            refine pure_ (i := 5) (N := some 181) (v := ?_) (a' := ?_) #[true, true, true, true, true, true, false, false, false, false, false, false, false, false, false, false, false] rfl rfl (by kernel_rfl) (fun _ _ _ h => h) (Or.inl ⟨by rfl, ?_⟩) ?_ ?_
            rotate_left
            · (intro w'; go_simp; with_reducible rfl)
            rotate_left
            · simp only [Act.put, List.setIfInBounds_toArray, List.set_cons_zero, List.set_cons_succ, i64_w, i32_w]
              rfl
            refine pure_ (i := 6) (N := some 182) (v := undef) (a' := ?_) #[true, true, true, true, true, true, true, false, false, false, false, false, false, false, false, false, false] rfl rfl (by kernel_rfl) (fun _ _ _ h => h) (Or.inr ⟨by rfl, rfl⟩) ?_ ?_
            rotate_left
            · simp only [Act.put, List.setIfInBounds_toArray, List.set_cons_zero, List.set_cons_succ, i64_w, i32_w]
              rfl
            refine pure_ (i := 7) (N := some 183) (v := undef) (a' := ?_) #[true, true, true, true, true, true, true, true, false, false, false, false, false, false, false, false, false] rfl rfl (by kernel_rfl) (fun _ _ _ h => h) (Or.inr ⟨by rfl, rfl⟩) ?_ ?_
            rotate_left
            · simp only [Act.put, List.setIfInBounds_toArray, List.set_cons_zero, List.set_cons_succ, i64_w, i32_w]
              rfl
            refine pure_ (i := 8) (N := some 184) (v := undef) (a' := ?_) #[true, true, true, true, true, true, true, true, true, false, false, false, false, false, false, false, false] rfl rfl (by kernel_rfl) (fun _ _ _ h => h) (Or.inr ⟨by rfl, rfl⟩) ?_ ?_
            rotate_left
            · simp only [Act.put, List.setIfInBounds_toArray, List.set_cons_zero, List.set_cons_succ, i64_w, i32_w]
              rfl
            refine pure_ (i := 9) (N := some 185) (v := undef) (a' := ?_) #[true, true, true, true, true, true, true, true, true, true, false, false, false, false, false, false, false] rfl rfl (by kernel_rfl) (fun _ _ _ h => h) (Or.inr ⟨by rfl, rfl⟩) ?_ ?_
            rotate_left
            · simp only [Act.put, List.setIfInBounds_toArray, List.set_cons_zero, List.set_cons_succ, i64_w, i32_w]
              rfl
            refine pure_ (i := 10) (N := some 186) (v := undef) (a' := ?_) #[true, true, true, true, true, true, true, true, true, true, true, false, false, false, false, false, false] rfl rfl (by kernel_rfl) (fun _ _ _ h => h) (Or.inr ⟨by rfl, rfl⟩) ?_ ?_
            rotate_left
            · simp only [Act.put, List.setIfInBounds_toArray, List.set_cons_zero, List.set_cons_succ, i64_w, i32_w]
              rfl
            refine pure_ (i := 11) (N := some 187) (v := undef) (a' := ?_) #[true, true, true, true, true, true, true, true, true, true, true, true, false, false, false, false, false] rfl rfl (by kernel_rfl) (fun _ _ _ h => h) (Or.inr ⟨by rfl, rfl⟩) ?_ ?_
            rotate_left
            · simp only [Act.put, List.setIfInBounds_toArray, List.set_cons_zero, List.set_cons_succ, i64_w, i32_w]
              rfl
            refine pure_ (i := 12) (N := some 188) (v := undef) (a' := ?_) #[true, true, true, true, true, true, true, true, true, true, true, true, true, false, false, false, false] rfl rfl (by kernel_rfl) (fun _ _ _ h => h) (Or.inr ⟨by rfl, rfl⟩) ?_ ?_
            rotate_left
            · simp only [Act.put, List.setIfInBounds_toArray, List.set_cons_zero, List.set_cons_succ, i64_w, i32_w]
              rfl
            refine pure_ (i := 13) (N := some 189) (v := undef) (a' := ?_) #[true, true, true, true, true, true, true, true, true, true, true, true, true, true, false, false, false] rfl rfl (by kernel_rfl) (fun _ _ _ h => h) (Or.inr ⟨by rfl, rfl⟩) ?_ ?_
            rotate_left
            · simp only [Act.put, List.setIfInBounds_toArray, List.set_cons_zero, List.set_cons_succ, i64_w, i32_w]
              rfl
            refine pure_ (i := 14) (N := some 190) (v := undef) (a' := ?_) #[true, true, true, true, true, true, true, true, true, true, true, true, true, true, true, false, false] rfl rfl (by kernel_rfl) (fun _ _ _ h => h) (Or.inr ⟨by rfl, rfl⟩) ?_ ?_
            rotate_left
            · simp only [Act.put, List.setIfInBounds_toArray, List.set_cons_zero, List.set_cons_succ, i64_w, i32_w]
              rfl
            refine pure_ (i := 15) (N := some 191) (v := undef) (a' := ?_) #[true, true, true, true, true, true, true, true, true, true, true, true, true, true, true, true, false] rfl rfl (by kernel_rfl) (fun _ _ _ h => h) (Or.inr ⟨by rfl, rfl⟩) ?_ ?_
            rotate_left
            · simp only [Act.put, List.setIfInBounds_toArray, List.set_cons_zero, List.set_cons_succ, i64_w, i32_w]
              rfl
            refine pure_ (i := 16) (N := some 192) (v := ?_) (a' := ?_) #[true, true, true, true, true, true, true, true, true, true, true, true, true, true, true, true, true] rfl rfl (by kernel_rfl) (fun _ _ _ h => h) (Or.inl ⟨by rfl, ?_⟩) ?_ ?_
            rotate_left
            · (intro w'; go_simp; with_reducible rfl)
            rotate_left
            · simp only [Act.put, List.setIfInBounds_toArray, List.set_cons_zero, List.set_cons_succ, i64_w, i32_w]
              rfl
            refine done_ (by kernel_rfl) ?_
            --F6
            have H7 := Lib.hid hHeld.1
            clear hHeld HB6 HL6 HF5
            have sk : wrap64 ((k : Int) + 1) = (k : Int) + 1 := wrap64_in _ ⟨by (go_light; omega), by (go_light; omega)⟩
            go_wp2_with fail
            go_roundw
            case rel => exact ⟨k + 1, by go_light; omega, by simp, H7.out⟩
            case measure => simp [intOf]; go_light; omega
          | true =>
            obtain ⟨rfl, rfl⟩ := HF5.out.1 hans
            refine start_ (n := 17) (S := (fun w' => Below W4.heap.size W4 w' ∧ Below W6.heap.size W6 w')) (ds := ([] : List Nat)) #[false, false, false, false, false, false, false, false, false, false, false, false, false, false, false, false, false] (by kernel_rfl) rfl rfl (⟨below_drew1 HB6.out.1, below_drew1 (Below.refl _ _)⟩) (fun hHeld => ?_)
            refine pure_ (i := 0) (N := some 176) (v := ?_) (a' := ?_) #[true, false, false, false, false, false, false, false, false, false, false, false, false, false, false, false, false] rfl rfl (by kernel_rfl) (fun _ _ _ h => h) (Or.inl ⟨by rfl, ?_⟩) ?_ ?_
            rotate_left
            · (intro w'; go_simp; with_reducible rfl)
            rotate_left
            · simp only [Act.put, List.setIfInBounds_toArray, List.set_cons_zero, List.set_cons_succ, i64_w, i32_w]
              rfl
            refine pure_ (i := 1) (N := some 177) (v := ?_) (a' := ?_) #[true, true, false, false, false, false, false, false, false, false, false, false, false, false, false, false, false] rfl rfl (by kernel_rfl) (fun _ _ _ h => h) (Or.inl ⟨by rfl, ?_⟩) ?_ ?_
            rotate_left
            · (intro w'; go_simp; with_reducible rfl)
            rotate_left
            · simp only [Act.put, List.setIfInBounds_toArray, List.set_cons_zero, List.set_cons_succ, i64_w, i32_w]
              rfl
            refine pure_ (i := 2) (N := some 178) (v := ?_) (a' := ?_) #[true, true, true, false, false, false, false, false, false, false, false, false, false, false, false, false, false] rfl rfl (by kernel_rfl) (fun _ _ _ h => h) (Or.inl ⟨by rfl, ?_⟩) ?_ ?_
            rotate_left
            · (intro w'; go_simp; with_reducible rfl)
            rotate_left
            · simp only [Act.put, List.setIfInBounds_toArray, List.set_cons_zero, List.set_cons_succ, i64_w, i32_w]
              rfl
            refine pure_ (i := 3) (N := some 179) (v := ?_) (a' := ?_) #[true, true, true, true, false, false, false, false, false, false, false, false, false, false, false, false, false] rfl rfl (by kernel_rfl) (fun _ _ _ h => h) (Or.inl ⟨by rfl, ?_⟩) ?_ ?_
            rotate_left
            · (intro w'; go_simp; with_reducible rfl)
            rotate_left
            · simp only [Act.put, List.setIfInBounds_toArray, List.set_cons_zero, List.set_cons_succ, i64_w, i32_w]
              rfl
            refine take_ (i := 4) (N := some 180) (v := ?_) (a' := ?_) #[true, true, true, true, true, false, false, false, false, false, false, false, false, false, false, false, false] rfl rfl (by kernel_rfl) (fun _ _ _ h => h) (Or.inl ⟨by rfl, ?_⟩) hHeld ?_ ?_
            rotate_left
            · rintro w' hS
              have q0 : w'.cell? ⟨gm, k * 10, none⟩ = some (.bool true) := by have := HEV.out.1 _ hS.1 0 _ rfl; rw [add_any] at this; exact this.trans (by rw [hans])
              go_simp
              with_reducible rfl
            rotate_left
            · simp only [Act.put, List.setIfInBounds_toArray, List.set_cons_zero, List.set_cons_succ, i64_w, i32_w]
              rfl
            refine pure_ (i := 5) (N := some 181) (v := ?_) (a' := ?_) #[true, true, true, true, true, true, false, false, false, false, false, false, false, false, false, false, false] rfl rfl (by kernel_rfl) (fun _ _ _ h => h) (Or.inl ⟨by rfl, ?_⟩) ?_ ?_
            rotate_left
            · (intro w'; go_simp; with_reducible rfl)
            rotate_left
            · simp only [Act.put, List.setIfInBounds_toArray, List.set_cons_zero, List.set_cons_succ, i64_w, i32_w]
              rfl
            refine pure_ (i := 6) (N := some 182) (v := ?_) (a' := ?_) #[true, true, true, true, true, true, true, false, false, false, false, false, false, false, false, false, false] rfl rfl (by kernel_rfl) (fun _ _ _ h => h) (Or.inl ⟨by rfl, ?_⟩) ?_ ?_
            rotate_left
            · (intro w'; go_simp; with_reducible rfl)
            rotate_left
            · simp only [Act.put, List.setIfInBounds_toArray, List.set_cons_zero, List.set_cons_succ, i64_w, i32_w]
              rfl
            refine pure_ (i := 7) (N := some 183) (v := ?_) (a' := ?_) #[true, true, true, true, true, true, true, true, false, false, false, false, false, false, false, false, false] rfl rfl (by kernel_rfl) (fun _ _ _ h => h) (Or.inl ⟨by rfl, ?_⟩) ?_ ?_
            rotate_left
            · (intro w'; go_simp; with_reducible rfl)
            rotate_left
            · simp only [Act.put, List.setIfInBounds_toArray, List.set_cons_zero, List.set_cons_succ, i64_w, i32_w]
              rfl
            refine pure_ (i := 8) (N := some 184) (v := ?_) (a' := ?_) #[true, true, true, true, true, true, true, true, true, false, false, false, false, false, false, false, false] rfl rfl (by kernel_rfl) (fun _ _ _ h => h) (Or.inl ⟨by rfl, ?_⟩) ?_ ?_
            rotate_left
            · (intro w'; go_simp; with_reducible rfl)
            rotate_left
            · simp only [Act.put, List.setIfInBounds_toArray, List.set_cons_zero, List.set_cons_succ, i64_w, i32_w]
              rfl
            refine take_ (i := 9) (N := some 185) (v := (.agg f.cells.toArray)) (a' := ?_) #[true, true, true, true, true, true, true, true, true, true, false, false, false, false, false, false, false] rfl rfl (by kernel_rfl) (fun _ _ _ h => h) (Or.inl ⟨by rfl, ?_⟩) hHeld ?_ ?_
            · rintro w' hS
              apply load_ev f
              · rfl
              · rfl
              · exact HL6.out w' hS.2
            rotate_left
            · simp only [Act.put, List.setIfInBounds_toArray, List.set_cons_zero, List.set_cons_succ, i64_w, i32_w]
              rfl
            refine pure_ (i := 10) (N := some 186) (v := ?_) (a' := ?_) #[true, true, true, true, true, true, true, true, true, true, true, false, false, false, false, false, false] rfl rfl (by kernel_rfl) (fun _ _ _ h => h) (Or.inl ⟨by rfl, ?_⟩) ?_ ?_
            rotate_left
            · (intro w'; go_simp; with_reducible rfl)
            rotate_left
            · simp only [Act.put, List.setIfInBounds_toArray, List.set_cons_zero, List.set_cons_succ, i64_w, i32_w]
              rfl
            refine pure_ (i := 11) (N := some 187) (v := ?_) (a' := ?_) #[true, true, true, true, true, true, true, true, true, true, true, true, false, false, false, false, false] rfl rfl (by kernel_rfl) (fun _ _ _ h => h) (Or.inl ⟨by rfl, ?_⟩) ?_ ?_
            rotate_left
            · (intro w'; go_simp; with_reducible rfl)
            rotate_left
            · simp only [Act.put, List.setIfInBounds_toArray, List.set_cons_zero, List.set_cons_succ, i64_w, i32_w]
              rfl
            refine pure_ (i := 12) (N := some 188) (v := ?_) (a' := ?_) #[true, true, true, true, true, true, true, true, true, true, true, true, true, false, false, false, false] rfl rfl (by kernel_rfl) (fun _ _ _ h => h) (Or.inl ⟨by rfl, ?_⟩) ?_ ?_
            rotate_left
            · (intro w'; go_simp; with_reducible rfl)
            rotate_left
            · simp only [Act.put, List.setIfInBounds_toArray, List.set_cons_zero, List.set_cons_succ, i64_w, i32_w]
              rfl
            refine take_ (i := 13) (N := some 189) (v := (.agg f.cells.toArray)) (a' := ?_) #[true, true, true, true, true, true, true, true, true, true, true, true, true, true, false, false, false] rfl rfl (by kernel_rfl) (fun _ _ _ h => h) (Or.inl ⟨by rfl, ?_⟩) hHeld ?_ ?_
            · rintro w' hS
              apply load_ev f
              · rfl
              · rfl
              · exact HEV.out.1 w' hS.1
            rotate_left
            · simp only [Act.put, List.setIfInBounds_toArray, List.set_cons_zero, List.set_cons_succ, i64_w, i32_w]
              rfl
            refine pure_ (i := 14) (N := some 190) (v := .bool false) (a' := ?_) #[true, true, true, true, true, true, true, true, true, true, true, true, true, true, true, false, false] rfl rfl (by kernel_rfl) (fun _ _ _ h => h) (Or.inl ⟨by rfl, fun w' => by apply neq_self f <;> rfl⟩) ?_ ?_
            rotate_left
            · simp only [Act.put, List.setIfInBounds_toArray, List.set_cons_zero, List.set_cons_succ, i64_w, i32_w]
              rfl
            refine pure_ (i := 15) (N := some 191) (v := ?_) (a' := ?_) #[true, true, true, true, true, true, true, true, true, true, true, true, true, true, true, true, false] rfl rfl (by kernel_rfl) (fun _ _ _ h => h) (Or.inl ⟨by rfl, ?_⟩) ?_ ?_
            rotate_left
            · (intro w'; go_simp; with_reducible rfl)
            rotate_left
            · simp only [Act.put, List.setIfInBounds_toArray, List.set_cons_zero, List.set_cons_succ, i64_w, i32_w]
              rfl
            refine pure_ (i := 16) (N := some 192) (v := ?_) (a' := ?_) #[true, true, true, true, true, true, true, true, true, true, true, true, true, true, true, true, true] rfl rfl (by kernel_rfl) (fun _ _ _ h => h) (Or.inl ⟨by rfl, ?_⟩) ?_ ?_
            rotate_left
            · (intro w'; go_simp; with_reducible rfl)
            rotate_left
            · simp only [Act.put, List.setIfInBounds_toArray, List.set_cons_zero, List.set_cons_succ, i64_w, i32_w]
              rfl
            refine done_ (by kernel_rfl) ?_
            --F7
            have H7 := Lib.hid hHeld.1
            clear hHeld HB6 HL6 HF5
            have sk : wrap64 ((k : Int) + 1) = (k : Int) + 1 := wrap64_in _ ⟨by (go_light; omega), by (go_light; omega)⟩
            go_wp2_with fail
            go_roundw
            case rel => exact ⟨k + 1, by go_light; omega, by simp, H7.out⟩
            case measure => simp [intOf]; go_light; omega
        · have H5 := Lib.hid (H4.out.1.c.b)
          have H6 := Lib.hid (below_step H5.out hbk)
          clear H4 H5 hbk
          go_wp2_with fail
          refine (awake_n _).mono ?_
          rintro e5 W5 ⟨rfl, hb⟩
          have H7 := Lib.hid (below_step H6.out hb)
          clear hb H6
          go_wp2_with fail
          go_ret
          exact ⟨rfl, H7.out⟩
end Go.Proofs.Ythldophikcgkcaa.Y
