/- tarnlaw18.LeadDecides: the law's walk. -/
import Derived.Test.YtdlgdenigmnfiaaWalkLeadPlays
namespace Go.Proofs.Ytdlgdenigmnfiaa.Y
set_option linter.unusedVariables false
set_option linter.unusedSimpArgs false
open Go.RowKit Go.Shelf Go.Proofs Go.Sort Go.IntWalk Go.Proofs.YtdlgdenigmnfiaaW.PrintWords Go.Proofs.YtdlgdenigmnfiaaW.PrintLast Go.Proofs.YtdlgdenigmnfiaaW.PrintMore Go.Proofs.Ytdlgdenigmnfiaa.X

def at3 (a b c : Int) : Fin 3 → Int
  | 0 => a
  | 1 => b
  | 2 => c
theorem C_int {w : World} {A : Option Addr} {n : Nat} {xs : List Int} (h : Kd.C (Kd.int .i64) w A n xs) (i : Nat) (hi : i < n) : ∃ ad x, A = some ad ∧ w.cell? (ad.add i) = some (.int .i64 x) := by
  obtain ⟨ad, c, e, _, hK, hc0⟩ := Kd.C_get h 0 (i : Int) (by omega) (by omega)
  have hK' : c = [.int .i64 (xs.getD (i : Int).toNat 0)] := hK
  subst hK'
  have := hc0 0 _ rfl
  refine ⟨ad, xs.getD (i : Int).toNat 0, e, ?_⟩
  rw [Int.toNat_natCast] at this
  have e1 : i * Kd.sz (Kd.int .i64) + 0 = i := by show i * 1 + 0 = i; omega
  rw [e1] at this
  exact this
/-- The entries so far. -/
structure LE (W0 wr : World) (v : Value) (ts : List Int) (tm : Int) : Prop where
  o : wr.ownsRow W0.heap.size 40 7 v ts.length (flatE ts)
  b : Below W0.heap.size W0 wr
  v : v ≠ .slice none 0 0
  t : ∀ x ∈ ts, 1 ≤ x ∧ x ≤ tm
  m : 1 ≤ tm ∧ tm ≤ (ts.length : Int) + 1
  l : ts ≠ [] → ts.getLast? = some tm
theorem flatE_snoc (ts : List Int) (t : Int) : flatE (ts ++ [t]) = flatE ts ++ encE t := by simp [flatE]
/-- What the law holds: what each said, the entries, the log, the leader. -/
structure LD (w wr : World) (g x b B : Nat) (ts : List Int) (a m n : Fin 3 → Int) : Prop where
  fa : AB wr w.heap.size a
  fe : ∀ j u, (flatE ts)[j]? = some u → wr.cell? ⟨b, j, none⟩ = some u
  bl : b < wr.heap.size
  bB : b < B
  gl : LGB wr g ts B
  fx : LB wr x m n
  bx : B ≤ x
  wx : w.heap.size < B
  bw : Below w.heap.size w wr
theorem LD.below {w wr w' : World} {g x b B : Nat} {ts : List Int} {a m n : Fin 3 → Int} (h : LD w wr g x b B ts a m n) (hb : Below wr.heap.size wr w') : LD w w' g x b B ts a m n :=
  ⟨h.fa.below hb, fun j u hj => (hb.cell (p := ⟨b, j, none⟩) h.bl).trans (h.fe j u hj), Nat.lt_of_lt_of_le h.bl hb.size, h.bB, h.gl.below hb, h.fx.below hb, h.bx, h.wx, below_step h.bw hb⟩
theorem LD.keep {w wr w' : World} {g x b B : Nat} {ts : List Int} {a m n m' n' : Fin 3 → Int} (h : LD w wr g x b B ts a m n) (hL : LB w' x m' n') (k : KB wr w' x) : LD w w' g x b B ts a m' n' := by
  have h1 := h.bB
  have h2 := h.bx
  have h3 := h.wx
  refine ⟨h.fa.keep k (by omega), fun j u hj => ?_, Nat.lt_of_lt_of_le h.bl k.size, h1, h.gl.keep k h2, hL, h2, h3, k.below w h.bw (by omega)⟩
  have := h.fe j u hj
  simp only [World.cell?] at this ⊢
  rw [k.block b h.bl (by omega)]
  exact this
theorem LD.same {w wr : World} {g x b B : Nat} {ts : List Int} {a m n m' : Fin 3 → Int} (h : LD w wr g x b B ts a m n) (e : m = m') : LD w wr g x b B ts a m' n := e ▸ h
def a31 (a : Fin 3 → Int) : Fin 3 → Int := fun i => Go.bits .and .i64 (a i) 31
theorem a31_le (a : Fin 3 → Int) (i : Fin 3) : 0 ≤ a31 a i ∧ a31 a i ≤ 31 := by unfold a31; rw [and_31]; omega
def mpart (a : Fin 3 → Int) (k : Nat) : Fin 3 → Int := fun i => if i.val < k then a31 a i else 0
theorem mpart_next (a : Fin 3 → Int) (k : Fin 3) : yesM (mpart a k.val) k (a31 a k) = mpart a (k.val + 1) := by
  have h := a31_le a k
  have hk : mpart a k.val k = 0 := by unfold mpart; rw [if_neg (by omega)]
  unfold yesM
  rw [hk]
  funext i
  by_cases c : i = k
  · subst c
    have e : mpart a (i.val + 1) i = a31 a i := by unfold mpart; rw [if_pos (by omega)]
    rw [e]
    by_cases c2 : a31 a i > 0
    · rw [if_pos c2, up3_eq]
    · rw [if_neg c2, hk]; omega
  · have e : mpart a (k.val + 1) i = mpart a k.val i := by
      unfold mpart
      have : i.val ≠ k.val := fun e => c (Fin.ext e)
      by_cases c2 : i.val < k.val
      · rw [if_pos c2, if_pos (by omega)]
      · rw [if_neg c2, if_neg (by omega)]
    rw [e]
    by_cases c2 : a31 a k > 0
    · rw [if_pos c2, up3_ne _ _ _ _ c]
    · rw [if_neg c2]
theorem mpart_all (a : Fin 3 → Int) : mpart a 3 = a31 a := by funext i; unfold mpart; rw [if_pos (by omega)]
theorem yesN_le (m n : Fin 3 → Int) (k : Fin 3) (v : Int) (hv : 0 ≤ v ∧ v ≤ 31) (h : ∀ j, 0 ≤ n j ∧ n j ≤ 100) : ∀ j, 0 ≤ yesN m n k v j ∧ yesN m n k v j ≤ 100 := by
  intro j
  unfold yesN
  have h1 := h j
  have h2 := h k
  split
  · by_cases c : j = k
    · subst c; rw [up3_eq]; omega
    · rw [up3_ne _ _ _ _ c]; exact h1
  · exact h1
def cntTo (a : Fin 3 → Int) (n : Int) (k : Nat) : Int := (if 0 < k ∧ n ≤ a 0 then 1 else 0) + (if 1 < k ∧ n ≤ a 1 then 1 else 0) + (if 2 < k ∧ n ≤ a 2 then 1 else 0)
theorem cntTo_next (a : Fin 3 → Int) (n : Int) (k : Fin 3) : cntTo a n (k.val + 1) = cntTo a n k.val + (if n ≤ a k then 1 else 0) := by
  match k with
  | 0 => simp [cntTo]
  | 1 => simp [cntTo]
  | 2 => simp [cntTo]
theorem cntTo_all (a : Fin 3 → Int) (n : Int) : cntTo a n 3 = (cnt a n : Int) := by
  unfold cntTo cnt
  by_cases c0 : n ≤ a 0 <;> by_cases c1 : n ≤ a 1 <;> by_cases c2 : n ≤ a 2 <;> simp [c0, c1, c2]
theorem cntTo_le (a : Fin 3 → Int) (n : Int) (k : Nat) : 0 ≤ cntTo a n k ∧ cntTo a n k ≤ 3 := by
  unfold cntTo
  split <;> split <;> split <;> omega
def bestAt (mid : Int) (k : Nat) : Int := if k = 0 then 0 else min mid ((k : Int) - 1)
theorem best_next (mid : Int) (k : Nat) (h : 0 ≤ mid) : bestAt mid (k + 1) = if (k : Int) ≤ mid then (k : Int) else bestAt mid k := by
  unfold bestAt
  rw [if_neg (by omega)]
  by_cases c : (k : Int) ≤ mid
  · rw [if_pos c]; omega
  · rw [if_neg c, if_neg (by omega)]; omega
theorem mid_le (a : Fin 3 → Int) : 0 ≤ mid3 (a31 a) ∧ mid3 (a31 a) ≤ 31 := by
  have h := fun i => a31_le a i
  constructor
  · refine (mid_iff _ _).2 ?_
    unfold cnt
    rw [if_pos (h 0).1, if_pos (h 1).1, if_pos (h 2).1]
    omega
  · have : ¬ (32 ≤ mid3 (a31 a)) := fun e => by
      have := (mid_iff _ _).1 e
      unfold cnt at this
      have h0 := h 0
      have h1 := h 1
      have h2 := h 2
      rw [if_neg (by omega), if_neg (by omega), if_neg (by omega)] at this
      omega
    omega
set_option maxHeartbeats 16000000 in
set_option maxRecDepth 100000 in
theorem walk_decides (a0 a1 a2 : Int) (A : Option Addr) (c : Nat) (l : List Int) (was : Int) (w : World) (hr : Kd.C (Kd.int .i64) w A l.length l) (hc : l.length ≤ c) :
    Calls Try.prog 4 #[.agg #[.int .i64 a0, .int .i64 a1, .int .i64 a2], .slice A l.length c, .int .i64 was] w fun e w' => e = .returned (.bool true) ∧ Below w.heap.size w w' := by
  have HR := Lib.hid (And.intro hr (Below.refl w.heap.size w))
  clear hr
  go_enter Try.func4, Try.ntmps4
  go_upto_block 0 with (fail)
  obtain ⟨W0, hW0⟩ : ∃ W0, w.alloc (.cells #[.int .i64 a0, .int .i64 a1, .int .i64 a2] 25) = W0 := ⟨_, rfl⟩
  have hA0 : AB W0 w.heap.size (at3 a0 a1 a2) := by rw [← hW0]; exact heap_alloc_new w _
  have hS0 : W0.heap.size = w.heap.size + 1 := by rw [← hW0]; simp
  have hB0 : Below w.heap.size w W0 := by rw [← hW0]; exact below_alloc (Below.refl _ _) _
  have hE0 : LE W0 (W0.alloc (.cells #[] 40)) (.slice (some ⟨W0.heap.size, 0, none⟩) 0 0) [] 1 :=
    ⟨World.ownsRow_made W0 #[] 0 (Nat.le_refl _) (Nat.zero_le _) (by simp), below_alloc (Below.refl _ _) _, (by simp), (by simp), (by simp), (by simp)⟩
  rw [hW0, ← hS0]
  have H0 := Lib.hid (And.intro hA0 (And.intro hS0 (And.intro hB0 hE0)))
  clear hA0 hS0 hB0 hE0 hW0
  go_cut [7, 8] (fun v7 v8 wc => ∃ (ts : List Int) (tm : Int), ts.length ≤ 30 ∧ v8 = .int .i64 tm ∧ LE W0 wc v7 ts tm)
  case first =>
    go_wp2
    go_loopw [7, 8, 9] (fun v7 v8 v9 wr => ∃ (ts : List Int) (tm : Int), ts.length ≤ l.length ∧ ts.length ≤ 30 ∧ v8 = .int .i64 tm ∧ v9 = .int .i64 (ts.length : Int) ∧ LE W0 wr v7 ts tm) (fun _ _ v9 => fun _ => 30 - (intOf v9).toNat)
    case atStart => exact ⟨[], 1, Nat.zero_le _, Nat.zero_le _, rfl, rfl, H0.out.2.2.2⟩
    case round =>
      obtain ⟨ts, tm, hl1, hl2, rfl, rfl, hE⟩ := hrel
      by_cases c1 : (ts.length : Int) < (l.length : Int)
      · by_cases c2 : (ts.length : Int) < 30
        · have hr2 := Kd.C_below HR.out.1 (below_step H0.out.2.2.1 hE.b)
          obtain ⟨ad, x, rfl, k0⟩ := C_int hr2 ts.length (by omega)
          obtain ⟨b, hb, b0, b1⟩ : ∃ b, Go.bits .and .i64 x 1 = b ∧ 0 ≤ b ∧ b ≤ 1 := ⟨_, rfl, by rw [and_1]; omega, by rw [and_1]; omega⟩
          have hm := hE.m
          have s1 : wrap64 (tm + b) = tm + b := wrap64_in _ ⟨by omega, by omega⟩
          have s2 : wrap64 ((ts.length : Int) + 1) = (ts.length : Int) + 1 := wrap64_in _ ⟨by omega, by omega⟩
          have hl0 : (0 : Int) ≤ (ts.length : Int) := by omega
          have HE := Lib.hid hE
          clear hE hr2
          go_wp2_with ((with_reducible refine gate_builtin (b := .append) (xs := #[.tmp 38, .tmp 41]) rfl ?_); at_builtin; refine print_append_cells (w0 := W0) W0.heap.size rfl (.tmp 38) (.tmp 41) 34 40 (.agg #[.int .i64 0, .int .i64 0, .int .i64 0, .int .i64 0, .int .i64 0, .slice none 0 0, .slice none 0 0]) 7 88 rfl Try.underlying34 (by kernel_rfl) rfl (by decide) (by decide) u7 ts.length (flatE ts) (encE (tm + b)) rfl rfl rfl (by intro u hu; exact flatE_one [tm + b] u (by simpa [flatE] using hu)) HE.out.o HE.out.b HE.out.b.size (by omega) ?_; intro v1 w1 ho hb1 _ hat)
          go_roundw
          case rel =>
            have hE := HE.out
            refine ⟨ts ++ [tm + b], tm + b, by simp; omega, by simp; omega, rfl, by rw [List.length_append]; show Value.int .i64 _ = Value.int .i64 _; simp, ?_⟩
            refine ⟨?_, hb1, ?_, ?_, ?_, ?_⟩
            · rw [flatE_snoc, List.length_append]; exact ho
            · intro e
              rcases ho.2 with ⟨_, h0⟩ | ⟨g, cap, cur, hv, _⟩
              · simp at h0
              · rw [e] at hv; cases hv
            · intro x hx
              rcases List.mem_append.1 hx with h | h
              · have := hE.t x h; omega
              · have : x = tm + b := by simpa using h
                omega
            · rw [List.length_append]; show 1 ≤ tm + b ∧ tm + b ≤ ((ts.length + 1 : Nat) : Int) + 1; omega
            · intro _; simp
          case measure => simp [intOf]; omega
        · (go_wp2; go_meet; case rel => exact ⟨ts, tm, hl2, rfl, hE⟩)
      · (go_wp2; go_meet; case rel => exact ⟨ts, tm, hl2, rfl, hE⟩)
  case rest =>
    obtain ⟨ts, tm, hl2, rfl, hE⟩ := hcut
    obtain ⟨b, cap, rfl, hcap, hbl, hbB, hcells⟩ := own_cells hE.o hE.v
    have hmay : ∀ t ∈ ts, mayE t = true := by
      intro t ht
      have h1 := hE.t t ht
      have h2 := hE.m
      unfold mayE
      rw [decide_eq_true (by omega), decide_eq_true (by omega)]
      rfl
    have HN := Lib.hid (rnew_n ts hmay (by omega) b cap wc hcap hbl hcells)
    have HE := Lib.hid (And.intro hE (And.intro hbl (And.intro hbB hcells)))
    clear hE hbl hbB hcells hmay
    go_wp2_with fail
    refine HN.out.mono ?_
    rintro e W1 ⟨g, rfl, hG, hg, hb1⟩
    have hBw1 : Below w.heap.size w W1 := below_step (below_step H0.out.2.2.1 HE.out.1.b) hb1
    clear HN
    go_wp2_with fail
    refine (new_n 0 W1 (by decide) (by decide)).mono ?_
    rintro e W2 ⟨x, rfl, hx, hL, hb2⟩
    have hD : LD w W2 g x b W1.heap.size ts (at3 a0 a1 a2) (mpart (at3 a0 a1 a2) 0) (fun _ => 0 + 1) := by
      have hw1 : w.heap.size < W1.heap.size := by have := H0.out.2.1; have := HE.out.1.b.size; have := hb1.size; omega
      have hWW : Below W0.heap.size W0 W2 := below_step HE.out.1.b (hb1.trans (hb2.mono hb1.size))
      refine ⟨(hWW.block _ (blk_lt H0.out.1)).trans H0.out.1, fun j u hj => ?_, ?_, ?_, hG.b.below hb2, ?_, hx, hw1, below_step hBw1 hb2⟩
      · exact ((hb1.trans (hb2.mono hb1.size)).cell (p := ⟨b, j, none⟩) HE.out.2.1).trans (HE.out.2.2.2 j u hj)
      · exact Nat.lt_of_lt_of_le HE.out.2.1 (Nat.le_trans hb1.size hb2.size)
      · exact Nat.lt_of_lt_of_le HE.out.2.1 hb1.size
      · have e0 : mpart (at3 a0 a1 a2) 0 = fun _ => 0 := by funext i; unfold mpart; rw [if_neg (by omega)]
        rw [e0]
        exact hL
    have HM := Lib.hid (And.intro HE.out.1.t HE.out.1.m)
    have HD0 := Lib.hid hD
    clear hD HE H0 hG hg hb1 hBw1 hx hL hb2
    go_wp2
    go_loopw [12] (fun v wr => ∃ (k : Nat) (n : Fin 3 → Int), k ≤ 3 ∧ v = .int .i64 (k : Int) ∧ (∀ j, 0 ≤ n j ∧ n j ≤ 100) ∧ LD w wr g x b W1.heap.size ts (at3 a0 a1 a2) (mpart (at3 a0 a1 a2) k) n) (fun v => fun _ => 3 - (intOf v).toNat)
    case atStart => exact ⟨0, _, by omega, rfl, fun _ => by omega, HD0.out⟩
    case round =>
      obtain ⟨k, n, hk, rfl, hn, hD⟩ := hrel
      clear HD0
      by_cases c3 : (k : Int) < 3
      · obtain ⟨kf, rfl⟩ : ∃ kf : Fin 3, kf.val = k := ⟨⟨k, by omega⟩, rfl⟩
        have h1 : (0 : Int) ≤ (kf.val : Int) := by omega
        have ca := hD.fa.c kf
        obtain ⟨ak, hak⟩ : ∃ ak, Go.bits .and .i64 (at3 a0 a1 a2 kf) 31 = ak := ⟨_, rfl⟩
        have hak2 : a31 (at3 a0 a1 a2) kf = ak := hak
        have hal := a31_le (at3 a0 a1 a2) kf
        rw [hak2] at hal
        have HD := Lib.hid (And.intro hD hak2)
        clear hD hak2
        generalize at3 a0 a1 a2 kf = av at ca hak
        go_wp2_with fail
        refine (yes_n x _ n kf ak wr HD.out.1.fx (by omega) (by omega) (hn kf).1 (by have := (hn kf).2; omega)).mono ?_
        rintro e W3 ⟨rfl, hL3, hkb⟩
        have hD3 := HD.out.1.keep hL3 hkb
        have hnn := yesN_le (mpart (at3 a0 a1 a2) kf.val) n kf ak hal hn
        have hD4 := LD.same hD3 (show yesM (mpart (at3 a0 a1 a2) kf.val) kf ak = mpart (at3 a0 a1 a2) (kf.val + 1) by rw [← HD.out.2]; exact mpart_next _ _)
        have HD4 := Lib.hid (And.intro hnn hD4)
        clear hD3 hD4 hL3 hkb HD hnn hn hal
        go_wp2
        go_roundw
        case rel => exact ⟨kf.val + 1, _, by omega, by go_num, HD4.out.1, HD4.out.2⟩
        case measure => simp [intOf]; omega
      · obtain rfl : k = 3 := by omega
        rw [mpart_all] at hD
        obtain ⟨w0, hw0, w00, w01⟩ : ∃ w0, Go.bits .and .i64 was 31 = w0 ∧ 0 ≤ w0 ∧ w0 ≤ 31 := ⟨_, rfl, by rw [and_31]; omega, by rw [and_31]; omega⟩
        have HD := Lib.hid hD
        clear hD hn
        go_wp2
        obtain ⟨md, hmd⟩ : ∃ md, mid3 (a31 (at3 a0 a1 a2)) = md := ⟨_, rfl⟩
        have hmdl := mid_le (at3 a0 a1 a2)
        rw [hmd] at hmdl
        go_loopw [14, 15] (fun v14 v15 wr => ∃ k : Nat, k ≤ 32 ∧ v14 = .int .i64 (bestAt md k) ∧ v15 = .int .i64 (k : Int) ∧ LD w wr g x b W1.heap.size ts (at3 a0 a1 a2) (a31 (at3 a0 a1 a2)) n) (fun _ v => fun _ => 32 - (intOf v).toNat)
        case atStart => exact ⟨0, by omega, rfl, rfl, HD.out⟩
        case round =>
          obtain ⟨q, hq, rfl, rfl, hD⟩ := hrel
          clear HD
          by_cases cq : (q : Int) < 32
          · have HD := Lib.hid hD
            clear hD
            have sq : wrap64 ((q : Int) + 1) = (q : Int) + 1 := wrap64_in _ ⟨by omega, by omega⟩
            go_wp2
            go_loopw [16, 17] (fun v16 v17 wr => ∃ k : Nat, k ≤ 3 ∧ v16 = .int .i64 (cntTo (a31 (at3 a0 a1 a2)) (q : Int) k) ∧ v17 = .int .i64 (k : Int) ∧ LD w wr g x b W1.heap.size ts (at3 a0 a1 a2) (a31 (at3 a0 a1 a2)) n) (fun _ v => fun _ => 3 - (intOf v).toNat)
            case atStart => exact ⟨0, by omega, rfl, rfl, HD.out⟩
            case round =>
              obtain ⟨k, hk, rfl, rfl, hD⟩ := hrel
              clear HD
              by_cases c3 : (k : Int) < 3
              · obtain ⟨kf, rfl⟩ : ∃ kf : Fin 3, kf.val = k := ⟨⟨k, by omega⟩, rfl⟩
                have h1 : (0 : Int) ≤ (kf.val : Int) := by omega
                have ca := hD.fa.c kf
                have hnx := cntTo_next (a31 (at3 a0 a1 a2)) (q : Int) kf
                have hle := cntTo_le (a31 (at3 a0 a1 a2)) (q : Int) kf.val
                obtain ⟨ak, hak⟩ : ∃ ak, Go.bits .and .i64 (at3 a0 a1 a2 kf) 31 = ak := ⟨_, rfl⟩
                have hak2 : a31 (at3 a0 a1 a2) kf = ak := hak
                rw [hak2] at hnx
                have sc : wrap64 (cntTo (a31 (at3 a0 a1 a2)) (q : Int) kf.val + 1) = cntTo (a31 (at3 a0 a1 a2)) (q : Int) kf.val + 1 := wrap64_in _ ⟨by omega, by omega⟩
                have HD := Lib.hid hD
                have HNX := Lib.hid hnx
                clear hD hak2 hnx
                generalize at3 a0 a1 a2 kf = av at ca hak
                generalize cntTo (a31 (at3 a0 a1 a2)) (q : Int) kf.val = cn at HNX hle sc
                by_cases cg : (q : Int) ≤ ak
                · go_wp2
                  go_roundw
                  case rel => exact ⟨kf.val + 1, by omega, by rw [HNX.out, if_pos cg], by go_num, HD.out⟩
                  case measure => simp [intOf]; omega
                · go_wp2
                  go_roundw
                  case rel => exact ⟨kf.val + 1, by omega, by rw [HNX.out, if_neg cg, Int.add_zero], by go_num, HD.out⟩
                  case measure => simp [intOf]; omega
              · obtain rfl : k = 3 := by omega
                have hall := cntTo_all (a31 (at3 a0 a1 a2)) (q : Int)
                have hmi := mid_iff (a31 (at3 a0 a1 a2)) (q : Int)
                rw [hmd] at hmi
                have hbn := best_next md q hmdl.1
                have HD := Lib.hid (And.intro hD hbn)
                clear hD hbn
                generalize cntTo (a31 (at3 a0 a1 a2)) (q : Int) 3 = cn at hall
                by_cases cg : (2 : Int) ≤ cn
                · have hle : (q : Int) ≤ md := hmi.2 (by omega)
                  clear hmi hall
                  go_wp2
                  go_roundw
                  case rel => exact ⟨q + 1, by omega, by rw [HD.out.2, if_pos hle], by go_num, HD.out.1⟩
                  case measure => simp [intOf]; omega
                · have hle : ¬ ((q : Int) ≤ md) := fun h => by have := hmi.1 h; omega
                  clear hmi hall
                  go_wp2
                  go_roundw
                  case rel => exact ⟨q + 1, by omega, by rw [HD.out.2, if_neg hle], by go_num, HD.out.1⟩
                  case measure => simp [intOf]; omega
          · obtain rfl : q = 32 := by omega
            have hbm : bestAt md 32 = md := by unfold bestAt; rw [if_neg (by decide)]; omega
            rw [hbm]
            clear hbm
            have hdv : decV (a31 (at3 a0 a1 a2)) ts tm w0 = if (decide (md > w0) && decide (termOf ts md = tm)) = true then md else w0 := by
              unfold decV
              rw [hmd]
              by_cases c1 : md > w0
              · rw [if_pos c1, decide_eq_true c1, Bool.true_and]
                by_cases c2 : termOf ts md = tm
                · rw [if_pos c2, decide_eq_true c2, if_pos rfl]
                · rw [if_neg c2, decide_eq_false c2, if_neg (by decide)]
              · rw [if_neg c1, decide_eq_false c1, Bool.false_and, if_neg (by decide)]
            have HD := Lib.hid (And.intro hD hdv)
            clear hD hdv
            go_upto_region 26 with (fail)
            go_cut [97] (fun v97 wc => v97 = .bool (decide (md > w0) && decide (termOf ts md = tm)) ∧ LD w wc g x b W1.heap.size ts (at3 a0 a1 a2) (a31 (at3 a0 a1 a2)) n)
            case first =>
              by_cases d1 : md > w0
              · by_cases d2 : md ≤ (ts.length : Int)
                · obtain ⟨j, hj⟩ : ∃ j : Nat, md = (j : Int) + 1 := ⟨(md - 1).toNat, by omega⟩
                  have hjl : j < ts.length := by omega
                  have hte : termOf ts md = ts[j]! := by
                    unfold termOf
                    rw [if_neg (by omega), show (md - 1).toNat = j by omega, List.getElem?_eq_getElem hjl, getElem!_pos ts j hjl]
                    rfl
                  have hcj := HD.out.1.fe _ _ (flatE_get ts j 0 (.int .i64 ts[j]!) hjl rfl)
                  rw [Nat.add_zero] at hcj
                  subst hj
                  have s1 : wrap64 ((j : Int) + 1 - 1) = (j : Int) := by rw [show (j : Int) + 1 - 1 = (j : Int) by omega]; exact wrap64_in _ ⟨by omega, by omega⟩
                  have hjz : (j : Int) < (ts.length : Int) := by omega
                  have hj0 : (0 : Int) ≤ (j : Int) := by omega
                  obtain ⟨tv, htv⟩ : ∃ tv, ts[j]! = tv := ⟨_, rfl⟩
                  rw [htv] at hcj hte
                  have HTE := Lib.hid hte
                  clear hte htv
                  by_cases d3 : tv = tm
                  · go_wp2
                    go_meet
                    case rel => exact ⟨by rw [HTE.out, decide_eq_true (p := (j : Int) + 1 > w0) (by omega), decide_eq_true d3]; rfl, HD.out.1⟩
                  · go_wp2
                    go_meet
                    case rel => exact ⟨by rw [HTE.out, decide_eq_true (p := (j : Int) + 1 > w0) (by omega), decide_eq_false d3, show (tv == tm) = false from beq_eq_false_iff_ne.mpr d3]; rfl, HD.out.1⟩
                · have hte : termOf ts md = 0 := by
                    unfold termOf
                    rw [if_neg (by omega), List.getElem?_eq_none (by omega)]
                    rfl
                  have h0 := HM.out.2.1
                  go_wp2
                  go_meet
                  case rel => exact ⟨by rw [hte, decide_eq_false (p := (0 : Int) = tm) (by omega), Bool.and_false], HD.out.1⟩
              · go_wp2
                go_meet
                case rel => exact ⟨by rw [decide_eq_false (p := md > w0) (by omega), Bool.false_and], HD.out.1⟩
            case rest =>
              obtain ⟨rfl, hD⟩ := hcut
              have hdv := HD.out.2
              clear HD
              cases hqb : (decide (md > w0) && decide (termOf ts md = tm)) with
              | true =>
                rw [hqb, if_pos rfl] at hdv
                clear hqb
                have HC := Lib.hid (And.intro hD hdv)
                clear hD hdv
                go_wp2_with fail
                refine (nils 0 1 _).2.1.mono ?_
                rintro e W3 ⟨rfl, hw⟩
                subst hw
                go_wp2_with fail
                refine (nils 0 1 W3).1.mono ?_
                rintro e W4 ⟨rfl, hw⟩
                subst hw
                go_wp2_with fail
                refine (awake_n W4).mono ?_
                rintro e W5 ⟨rfl, hb⟩
                have hD5 := HC.out.1.below hb
                have hdd := decided_n (a31 (at3 a0 a1 a2)) n ts x g tm w0 W5 hD5.fx hD5.gl.l (by omega) w00
                rw [HC.out.2] at hdd
                have HD5 := Lib.hid (And.intro hD5 hdd)
                clear hb hD5 hdd HC
                go_wp2_with fail
                refine HD5.out.2.mono ?_
                rintro e W6 ⟨rfl, hb⟩
                have hb6 := (HD5.out.1.below hb).bw
                clear hb HD5
                go_wp2_with fail
                refine (decided_nil _ tm w0 W6).mono ?_
                rintro e W7 ⟨rfl, hw⟩
                subst hw
                go_wp2_with fail
                refine (nils 0 1 W7).2.2.1.mono ?_
                rintro e W8 ⟨rfl, hw⟩
                subst hw
                go_wp2_with fail
                refine (nils 0 1 W8).2.2.2.mono ?_
                rintro e W9 ⟨rfl, hw⟩
                subst hw
                go_wp2
                go_ret
                exact ⟨rfl, hb6⟩
              | false =>
                rw [hqb, if_neg (by decide)] at hdv
                clear hqb
                have HC := Lib.hid (And.intro hD hdv)
                clear hD hdv
                go_wp2_with fail
                refine (nils 0 1 _).2.1.mono ?_
                rintro e W3 ⟨rfl, hw⟩
                subst hw
                go_wp2_with fail
                refine (nils 0 1 W3).1.mono ?_
                rintro e W4 ⟨rfl, hw⟩
                subst hw
                go_wp2_with fail
                refine (awake_n W4).mono ?_
                rintro e W5 ⟨rfl, hb⟩
                have hD5 := HC.out.1.below hb
                have hdd := decided_n (a31 (at3 a0 a1 a2)) n ts x g tm w0 W5 hD5.fx hD5.gl.l (by omega) w00
                rw [HC.out.2] at hdd
                have HD5 := Lib.hid (And.intro hD5 hdd)
                clear hb hD5 hdd HC
                go_wp2_with fail
                refine HD5.out.2.mono ?_
                rintro e W6 ⟨rfl, hb⟩
                have hb6 := (HD5.out.1.below hb).bw
                clear hb HD5
                go_wp2_with fail
                refine (decided_nil _ tm w0 W6).mono ?_
                rintro e W7 ⟨rfl, hw⟩
                subst hw
                go_wp2_with fail
                refine (nils 0 1 W7).2.2.1.mono ?_
                rintro e W8 ⟨rfl, hw⟩
                subst hw
                go_wp2_with fail
                refine (nils 0 1 W8).2.2.2.mono ?_
                rintro e W9 ⟨rfl, hw⟩
                subst hw
                go_wp2
                go_ret
                exact ⟨rfl, hb6⟩
end Go.Proofs.Ytdlgdenigmnfiaa.Y
namespace Go.Proofs.Ytdlgdenigmnfiaa.X
open Go.RowKit Go.Proofs.YtdlgdenigmnfiaaW.PrintWords
def tarnlaw18_LeadDecides.f (_a0_0 _a0_1 _a0_2 : Int) (_l1 : List Int) (_a2 : Int) : Option Bool := some true
theorem tarnlaw18_LeadDecides.calls (a0_0 a0_1 a0_2 : Int) (A1 : Option Addr) (c1 : Nat) (l1 : List Int) (a2 : Int) (r : Bool) (w : World) (hr1 : Kd.C (Kd.int .i64) w A1 l1.length l1) (hc1 : l1.length ≤ c1) (h : tarnlaw18_LeadDecides.f a0_0 a0_1 a0_2 l1 a2 = some r) :
    Calls Try.prog 4 #[.agg #[.int .i64 a0_0, .int .i64 a0_1, .int .i64 a0_2], .slice A1 l1.length c1, .int .i64 a2] w fun e w' => e = .returned (.bool r) ∧ Below w.heap.size w w' := by
  obtain rfl := Option.some.inj h
  exact Y.walk_decides a0_0 a0_1 a0_2 A1 c1 l1 a2 w hr1 hc1
end Go.Proofs.Ytdlgdenigmnfiaa.X
