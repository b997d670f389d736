/- nat.Add: the sum of two numbers. Condition: both read; fewer than 2^40 words. nat.Trim, nat.Of, nat.Uint, nat.Cmp, nat.Bits. Condition: what comes in reads; fewer than 2^40 words. nat.Uint, nat.Bits, nat.Sub. Condition: what comes in reads; fewer than 2^40 words. nat.Sub: what is left of a number. Condition: both read; fewer than 2^40 words. -/
import Derived.Test.YtngbcbncllfblaaGreatJBits
import Derived.Deep.LoopGhost
import Derived.Test.YtngbcbncllfblaaGreatShelf
import Derived.Deep.QuietTactic
import Derived.BigQuiet
namespace Go.Proofs.YtngbcbncllfblaaGreat
open Go.RowKit

theorem info_u32 : (Tryz.prog.info? 163).map (fun i => (i.zero, i.size, i.bytes)) = some (some (.int .u32 0), 1, 4) := by kernel_rfl

theorem make_u32 (l c : Nat) (hl : l ≤ c) (hc : c ≤ 1099511627776) (u : World) : (Instr.makeSlice 46 (.int .i64 (l : Int)) (.int .i64 (c : Int))).run Tryz.prog u =
    .ok (.slice (some ⟨u.heap.size, 0, none⟩) l c) (u.alloc (.cells (madeCells #[.int .u32 0] c) 163)) := by
  obtain ⟨i0, hi, hz0, hz1, hz2⟩ := info_parts info_u32
  have h := run_make (P := Tryz.prog) u 46 163 i0 (.int .u32 0) Tryz.underlying46 hi hz0 .i64 .i64 (l : Int) (c : Int) (by omega) (by omega) (by rw [hz2]; omega) (by omega)
  simpa [hz1, Value.cells] using h

theorem add_step (N M k : Nat) (x y c : Nat) (hx : x = dig 4294967296 N k) (hy : y = dig 4294967296 M k) (hc : c = carry 4294967296 N M k) :
    (((x : Int) + y + c) % 4294967296 = (dig 4294967296 (N + M) k : Nat)) ∧ (((x : Int) + y + c) / 4294967296 = (carry 4294967296 N M (k + 1) : Nat)) := by
  subst hx; subst hy; subst hc
  rw [← carry_dig (by omega), carry_succ (by omega)]
  constructor <;> omega

theorem mk0 : ((0 : Nat) : Int) = 0 := rfl
theorem mk1 (k : Nat) : ((k + 1 : Nat) : Int) = (k : Int) + 1 := by omega

end Go.Proofs.YtngbcbncllfblaaGreat
namespace Go.Proofs.YtngbcbncllfblaaGreat
open Go.RowKit

theorem size_u32 : (Tryz.prog.info? 163).map (·.size) = some 1 := by kernel_rfl

theorem add_none (b o j : Nat) : (⟨b, o, none⟩ : Addr).add j = ⟨b, o + j, none⟩ := by unfold Addr.add; split <;> simp_all

set_option maxRecDepth 100000 in
set_option maxHeartbeats 1000000 in
theorem trim_any (va : Value) (N n : Nat) (w : World) (ha : Num 4294967296 .u32 w va N n) (hs1 : len 4294967296 N < 1099511627776) :
    Calls Tryz.prog 204 #[va] w fun e w' => ∃ v, e = .returned v ∧ Num 4294967296 .u32 w' v N (len 4294967296 N) ∧ Grew w w' := by
  have hn := ha.len_le (by omega)
  have hNs := lt_len (B := 4294967296) (by omega) N
  generalize hk : len 4294967296 N = k at *
  have Hk := Lib.hid hk
  clear hk
  rcases k with _ | k
  · obtain rfl : N = 0 := by simpa using hNs
    go_enter Tryz.func204, Tryz.ntmps204
    go_wp2_with fail
    refine (size_any _ _ _ _ ha).mono ?_
    rintro e w' ⟨rfl, rfl⟩
    rw [Hk.out]
    go_wp2_with fail
    go_ret
    exact ⟨_, rfl, Num.nil _ _ _, Grew.refl _⟩
  · have hmk := make_u32 (k + 1) (k + 1) (by omega) (by omega)
    rw [mk1] at hmk
    obtain ⟨A, ca, rfl, a1, a2, a3, a4⟩ := id ha
    obtain ⟨b, off, rfl, hc⟩ := a4 (by omega)
    clear a4
    go_enter Tryz.func204, Tryz.ntmps204
    go_wp2_with fail
    refine (size_any _ _ _ _ ha).mono ?_
    rintro e w' ⟨rfl, rfl⟩
    rw [Hk.out, mk1]
    have hcc := Lib.hid hc
    clear hc
    go_wp2_with (first | fail | (refine wpList_copy1 _ rfl (.tmp 11) (.tmp 12) 46 46 rfl 163 Tryz.underlying46 size_u32 w.heap.size (k + 1) (k + 1) ⟨b, off, none⟩ n ca rfl rfl _ 163 (heap_alloc_new w _) (dvals 4294967296 .u32 N (k + 1)) ?_ ?_ ?_ ?_ ?_))
    · rw [dvals_length]; exact (Nat.min_eq_right (by omega)).symm
    · intro j v hj
      have hjk : j < k + 1 := by
        rcases Nat.lt_or_ge j (k + 1) with h | h
        · exact h
        · rw [List.getElem?_eq_none (by rw [dvals_length]; exact h)] at hj; cases hj
      rw [dvals, List.getElem?_map, digs_get? N (k + 1) j hjk] at hj
      rw [add_none]
      have := hcc.out j (by omega)
      rw [((Grew.refl w).alloc _).cell this]
      exact hj
    · rw [dvals_length, size_madeCells]; exact Nat.le_refl _
    · intro v hv
      rw [dvals, List.mem_map] at hv
      obtain ⟨x, _, rfl⟩ := hv
      rfl
    · intro w1 hg1 hG1
      have Hg1 := Lib.hid hg1
      clear hg1
      go_wp2_with fail
      go_ret
      refine ⟨_, rfl, Num.of_blk Hg1.out (Nat.le_refl _) (by omega) hNs fun i hi => ?_, hG1 _ (Nat.le_refl _) ((Grew.refl _).alloc _)⟩
      simp only [List.getElem?_toArray]
      rw [List.getElem?_append_left (by rw [dvals_length]; exact hi), dvals, List.getElem?_map, digs_get? N (k + 1) i hi]
      rfl

theorem num_two (w : World) (x y : Nat) (hx : x < 4294967296) (hy : y < 4294967296) (c : Array Value) (hc : c = #[.int .u32 (x : Int), .int .u32 (y : Int)]) (t : TypeId) :
    Num 4294967296 .u32 (w.alloc (.cells c t)) (.slice (some ⟨w.heap.size, 0, none⟩) 2 2) (x + 4294967296 * y) 2 := by
  subst hc
  refine Num.of_blk (heap_alloc_new w _) (Nat.le_refl _) (by omega) (by simp only [Nat.reducePow]; omega) fun i hi => ?_
  rcases i with _ | _ | i
  · simp [dig]; omega
  · simp [dig]; omega
  · omega

theorem and_low (N : Nat) (h : N < 18446744073709551616) : bits .and .u64 (N : Int) 4294967295 = (N : Int) % 4294967296 := by
  have := u64_and_nat N 4294967295 h (by omega)
  rw [show N &&& 4294967295 = N % 4294967296 from Nat.and_two_pow_sub_one_eq_mod N 32] at this
  rw [show ((4294967295 : Nat) : Int) = 4294967295 from rfl] at this
  rw [this]; omega

set_option maxRecDepth 100000 in
set_option maxHeartbeats 1000000 in
theorem of_any (x : Int) (N : Nat) (w : World) (hx : x = (N : Int)) (hN : N < 18446744073709551616) :
    Calls Tryz.prog 151 #[.int .u64 x] w fun e w' => ∃ v, e = .returned v ∧ Num 4294967296 .u32 w' v N (len 4294967296 N) ∧ Grew w w' := by
  subst hx
  have h2 := num_two w (N % 4294967296) (N / 4294967296) (by omega) (by omega) #[.int .u32 ((N : Int) % 4294967296), .int .u32 ((N : Int) / 4294967296)] (by simp) 163
  rw [show N % 4294967296 + 4294967296 * (N / 4294967296) = N from by omega] at h2
  have hl : len 4294967296 N < 1099511627776 := by
    have := len_le (B := 4294967296) (N := N) (k := 2) (by omega) (by simp only [Nat.reducePow]; omega)
    omega
  have H2 := Lib.hid h2
  have Hl := Lib.hid hl
  clear h2 hl
  have hb : (N : Int) < 18446744073709551616 := by omega
  have hlow := and_low N hN
  clear hN
  go_enter Tryz.func151, Tryz.ntmps151
  go_wp2_with fail
  refine (trim_any _ _ _ _ H2.out Hl.out).mono ?_
  rintro e w' ⟨v, rfl, h1, h3⟩
  go_wp2_with fail
  go_ret
  exact ⟨v, rfl, h1, ((Grew.refl w).alloc _).trans h3⟩

set_option maxRecDepth 100000 in
set_option maxHeartbeats 1000000 in
theorem cmp_any (va vb : Value) (N M n m : Nat) (w : World) (ha : Num 4294967296 .u32 w va N n) (hb : Num 4294967296 .u32 w vb M m) :
    Calls Tryz.prog 207 #[va, vb] w fun e w' => e = .returned (.int .i64 (cmpN N M)) ∧ Grew w w' := by
  have hNs := lt_len (B := 4294967296) (by omega) N
  have hMs := lt_len (B := 4294967296) (by omega) M
  have hn := ha.len_le (by omega)
  have hm := hb.len_le (by omega)
  have hl1 := Lib.hid (fun h => lt_of_len (B := 4294967296) (N := N) (M := M) (by omega) h)
  have hl2 := Lib.hid (fun h => lt_of_len (B := 4294967296) (N := M) (M := N) (by omega) h)
  generalize hk : len 4294967296 N = k at *
  generalize hl : len 4294967296 M = l at *
  have Hk := Lib.hid hk
  have Hl := Lib.hid hl
  clear hk hl
  obtain ⟨A, ca, rfl, a1, a2, a3, a4⟩ := id ha
  obtain ⟨C, cb, rfl, b1, b2, b3, b4⟩ := id hb
  clear a3 b3
  have HN := Lib.hid hNs
  have HM := Lib.hid hMs
  clear hNs hMs
  rcases Nat.lt_trichotomy k l with hkl | hkl | hkl
  · have hkl' : decide (k < l) = true := by simp; omega
    go_enter Tryz.func207, Tryz.ntmps207
    go_wp2_with fail
    refine (size_any _ _ _ _ ha).mono ?_
    rintro e w' ⟨rfl, rfl⟩
    rw [Hk.out]
    go_wp2_with fail
    refine (size_any _ _ _ _ hb).mono ?_
    rintro e w' ⟨rfl, rfl⟩
    rw [Hl.out]
    go_wp2_with fail
    go_ret
    exact ⟨by rw [cmpN_lt (hl1.out hkl)]; rfl, Grew.refl _⟩
  · subst hkl
    have hkl' : decide (k < k) = false := by simp
    go_enter Tryz.func207, Tryz.ntmps207
    go_wp2_with fail
    refine (size_any _ _ _ _ ha).mono ?_
    rintro e w' ⟨rfl, rfl⟩
    rw [Hk.out]
    go_wp2_with fail
    refine (size_any _ _ _ _ hb).mono ?_
    rintro e w' ⟨rfl, rfl⟩
    rw [Hl.out]
    go_wp2_with fail
    go_loopg [7] k (fun gk i wr => gk ≤ k ∧ i = .int .i64 ((gk : Int) - 1) ∧ Hid (N / 4294967296 ^ gk = M / 4294967296 ^ gk) ∧ Grew w wr)
    case atStart => exact ⟨Nat.le_refl _, rfl, Lib.hid (by rw [Nat.div_eq_of_lt HN.out, Nat.div_eq_of_lt HM.out]), Grew.refl _⟩
    case round =>
      obtain ⟨hgk, rfl, hD, hG⟩ := hrel
      rcases gk with _ | j
      · go_wp2_with fail
        go_ret
        have e1 := hD.out
        simp only [Nat.pow_zero, Nat.div_one] at e1
        exact ⟨by rw [e1, cmpN_self]; rfl, hG⟩
      · obtain ⟨ba, oa, rfl, hca⟩ := a4 (by omega)
        obtain ⟨bb, ob, rfl, hcb⟩ := b4 (by omega)
        have hcx := hG.cell (hca j (by omega))
        have hcy := hG.cell (hcb j (by omega))
        have hx := dig_lt (B := 4294967296) (by omega) N j
        have hy := dig_lt (B := 4294967296) (by omega) M j
        have d1 := Lib.hid (fun h => lt_of_dig (k := j) hD.out h)
        have d2 := Lib.hid (fun h => lt_of_dig (k := j) hD.out.symm h)
        have d3 := Lib.hid (fun h => div_eq_of_dig (k := j) hD.out h)
        clear hca hcb a4 b4
        generalize dig 4294967296 N j = x at *
        generalize dig 4294967296 M j = y at *
        have q1 : (j : Int) < (n : Int) := by omega
        have q2 : (j : Int) < (m : Int) := by omega
        have q3 : ((j + 1 : Nat) : Int) - 1 = (j : Int) := by omega
        rw [q3]
        rcases Nat.lt_trichotomy x y with hxy | hxy | hxy
        · go_wp2_with fail
          go_quiet (fail)
          go_wp2
          go_ret
          exact ⟨by rw [cmpN_lt (d1.out hxy)]; rfl, hG.drewN _⟩
        · subst hxy
          go_wp2_with fail
          go_quiet (fail)
          go_wp2_with fail
          go_quiet (fail)
          go_wp2
          go_roundg j
          case rel => exact ⟨by omega, rfl, Lib.hid (d3.out trivial), by first | exact hG.drewN _ | exact (hG.drewN _).drewN _⟩
          case measure => omega
        · have hxy' : ¬ (x : Int) < (y : Int) := by omega
          go_wp2_with fail
          go_quiet (fail)
          go_wp2_with fail
          go_quiet (fail)
          go_wp2
          go_ret
          exact ⟨by rw [cmpN_gt (d2.out hxy)]; rfl, by first | exact hG.drewN _ | exact (hG.drewN _).drewN _⟩
  · have hkl' : decide (k < l) = false := by simp; omega
    go_enter Tryz.func207, Tryz.ntmps207
    go_wp2_with fail
    refine (size_any _ _ _ _ ha).mono ?_
    rintro e w' ⟨rfl, rfl⟩
    rw [Hk.out]
    go_wp2_with fail
    refine (size_any _ _ _ _ hb).mono ?_
    rintro e w' ⟨rfl, rfl⟩
    rw [Hl.out]
    go_wp2_with fail
    go_ret
    exact ⟨by rw [cmpN_gt (hl2.out hkl)]; rfl, Grew.refl _⟩

end Go.Proofs.YtngbcbncllfblaaGreat
namespace Go.Proofs.YtngbcbncllfblaaGreat
open Go.RowKit

theorem or_low (a b : Nat) (ha : a < 4294967296) (hb : b < 4294967296) : bits .or .u64 ((a : Int) * 4294967296) (b : Int) = (a : Int) * 4294967296 + b := by
  have h := u64_or_nat (a * 4294967296) b (by omega) (by omega)
  rw [show a * 4294967296 ||| b = a * 4294967296 + b from by
    have := Nat.two_pow_add_eq_or_of_lt (i := 32) (b := b) (by omega) a
    rw [Nat.mul_comm a 4294967296]
    exact this.symm] at h
  rw [show ((a * 4294967296 : Nat) : Int) = (a : Int) * 4294967296 from by omega] at h
  rw [h]; omega

theorem eq_dig1 {N : Nat} (h : N < 4294967296 ^ 1) : N = dig 4294967296 N 0 := by simp [dig]; omega
theorem eq_dig2 {N : Nat} (h : N < 4294967296 ^ 2) : N = dig 4294967296 N 1 * 4294967296 + dig 4294967296 N 0 := by
  simp only [Nat.reducePow] at h
  simp [dig]; omega

def uintV (N : Nat) : Nat := if len 4294967296 N ≤ 2 then N else 0
def uintOk (N : Nat) : Bool := decide (len 4294967296 N ≤ 2)
theorem uint_yes {N : Nat} (h : len 4294967296 N ≤ 2) : uintV N = N ∧ uintOk N = true := ⟨if_pos h, decide_eq_true h⟩
theorem uint_no {N : Nat} (h : ¬ len 4294967296 N ≤ 2) : uintV N = 0 ∧ uintOk N = false := ⟨if_neg h, decide_eq_false h⟩

set_option maxRecDepth 100000 in
set_option maxHeartbeats 1000000 in
theorem uint_any (va : Value) (N n : Nat) (w : World) (ha : Num 4294967296 .u32 w va N n) :
    Calls Tryz.prog 320 #[va] w fun e w' => e = .returned (.tuple #[.int .u64 (uintV N : Nat), .bool (uintOk N)]) ∧ w = w' := by
  have hn := ha.len_le (by omega)
  have hNs := lt_len (B := 4294967296) (by omega) N
  generalize hk : len 4294967296 N = k at *
  have Hk := Lib.hid hk
  clear hk
  obtain ⟨A, ca, rfl, a1, a2, a3, a4⟩ := id ha
  rcases k with _ | _ | _ | k
  · obtain rfl : N = 0 := by simpa using hNs
    go_enter Tryz.func320, Tryz.ntmps320
    go_wp2_with fail
    refine (size_any _ _ _ _ ha).mono ?_
    rintro e w' ⟨rfl, rfl⟩
    rw [Hk.out]
    go_wp2_with fail
    go_ret2
    exact ⟨rfl, rfl⟩
  · obtain ⟨b, off, rfl, hc⟩ := a4 (by omega)
    have hc0 : w.cell? ⟨b, off, none⟩ = _ := hc 0 (by omega)
    have q0 : (0 : Int) < (n : Int) := by omega
    have e1 := Lib.hid (eq_dig1 hNs)
    have hx := dig_lt (B := 4294967296) (by omega) N 0
    have hor := or_low 0 (dig 4294967296 N 0) (by omega) hx
    rw [show ((0 : Nat) : Int) * 4294967296 = 0 from rfl] at hor
    clear hc a4 hNs a3
    generalize dig 4294967296 N 0 = x at *
    go_enter Tryz.func320, Tryz.ntmps320
    go_wp2_with fail
    refine (size_any _ _ _ _ ha).mono ?_
    rintro e w' ⟨rfl, rfl⟩
    rw [Hk.out]
    go_wp2_with fail
    go_ret2
    have e2 := uint_yes (N := N) (by rw [Hk.out]; omega)
    exact ⟨ret_ib (by rw [e2.1, ← e1.out]) e2.2.symm, rfl⟩
  · obtain ⟨b, off, rfl, hc⟩ := a4 (by omega)
    have hc0 : w.cell? ⟨b, off, none⟩ = _ := hc 0 (by omega)
    have q0 : (0 : Int) < (n : Int) := by omega
    have hc1 := hc 1 (by omega)
    have q1 : (1 : Int) < (n : Int) := by omega
    have e1 := Lib.hid (eq_dig2 hNs)
    have hx := dig_lt (B := 4294967296) (by omega) N 0
    have hy := dig_lt (B := 4294967296) (by omega) N 1
    have hor := or_low _ _ hy hx
    clear hc a4 hNs a3
    generalize dig 4294967296 N 0 = x at *
    generalize dig 4294967296 N 1 = y at *
    go_enter Tryz.func320, Tryz.ntmps320
    go_wp2_with fail
    refine (size_any _ _ _ _ ha).mono ?_
    rintro e w' ⟨rfl, rfl⟩
    rw [Hk.out]
    go_wp2_with fail
    go_ret2
    have e2 := uint_yes (N := N) (by rw [Hk.out]; omega)
    exact ⟨ret_ib (by rw [e2.1, e1.out]; omega) e2.2.symm, rfl⟩
  · have hk2 : ((k + 1 + 1 + 1 : Nat) : Int) = (k : Int) + 3 := by omega
    go_enter Tryz.func320, Tryz.ntmps320
    go_wp2_with fail
    refine (size_any _ _ _ _ ha).mono ?_
    rintro e w' ⟨rfl, rfl⟩
    rw [Hk.out, hk2]
    go_wp2_with fail
    go_ret2
    have e2 := uint_no (N := N) (by rw [Hk.out]; omega)
    exact ⟨ret_ib (by rw [e2.1]; rfl) e2.2.symm, rfl⟩

theorem bitLenAux_le : ∀ f x : Nat, Lib.bitLenAux f x ≤ f
  | 0, x => by simp [Lib.bitLenAux]
  | f + 1, x => by
    unfold Lib.bitLenAux
    split
    · omega
    · have := bitLenAux_le f (x / 2); omega
theorem bitLen_le (x : Nat) : Lib.bitLen x ≤ 64 := bitLenAux_le 64 x
theorem bitLenAux_bd : ∀ f x : Nat, x < 2 ^ f → x < 2 ^ Lib.bitLenAux f x ∧ (x ≠ 0 → 0 < Lib.bitLenAux f x ∧ 2 ^ (Lib.bitLenAux f x - 1) ≤ x)
  | 0, x, h => by
    simp only [Nat.pow_zero] at h
    obtain rfl : x = 0 := by omega
    simp [Lib.bitLenAux]
  | f + 1, x, h => by
    rw [Nat.pow_succ] at h
    obtain ⟨h1, h2⟩ := bitLenAux_bd f (x / 2) (by omega)
    unfold Lib.bitLenAux
    split
    · rename_i h0; subst h0; simp
    · rename_i h0
      rw [Nat.add_comm 1, Nat.pow_succ]
      refine ⟨by omega, fun _ => ⟨by omega, ?_⟩⟩
      rw [Nat.add_sub_cancel]
      by_cases hx : x / 2 = 0
      · rw [hx]
        have : Lib.bitLenAux f 0 = 0 := by cases f <;> simp [Lib.bitLenAux]
        rw [this]; simp; omega
      · obtain ⟨h3, h4⟩ := h2 hx
        generalize Lib.bitLenAux f (x / 2) = b at *
        obtain ⟨c, rfl⟩ : ∃ c, b = c + 1 := ⟨b - 1, by omega⟩
        rw [Nat.add_sub_cancel] at h4
        rw [Nat.pow_succ]
        omega

/-- How many bits a number has. -/
def nbits (N : Nat) : Nat := if N = 0 then 0 else (len 4294967296 N - 1) * 32 + Lib.bitLen (dig 4294967296 N (len 4294967296 N - 1))

set_option maxRecDepth 100000 in
set_option maxHeartbeats 1000000 in
theorem bits_any (va : Value) (N n : Nat) (w : World) (ha : Num 4294967296 .u32 w va N n) (hs1 : len 4294967296 N < 1099511627776) :
    Calls Tryz.prog 206 #[va] w fun e w' => e = .returned (.int .i64 (nbits N : Nat)) ∧ w = w' := by
  have hn := ha.len_le (by omega)
  have hNs := lt_len (B := 4294967296) (by omega) N
  have HD : Hid (nbits N = if N = 0 then 0 else (len 4294967296 N - 1) * 32 + Lib.bitLen (dig 4294967296 N (len 4294967296 N - 1))) := Lib.hid rfl
  have htop := Lib.hid (fun k h => top_ne (B := 4294967296) (N := N) (k := k) (by omega) h)
  generalize nbits N = r at *
  generalize hk : len 4294967296 N = k at *
  have Hk := Lib.hid hk
  clear hk
  obtain ⟨A, ca, rfl, a1, a2, a3, a4⟩ := id ha
  rcases k with _ | k
  · obtain rfl : N = 0 := by simpa using hNs
    obtain rfl : r = 0 := HD.out
    go_enter Tryz.func206, Tryz.ntmps206
    go_wp2_with fail
    refine (size_any _ _ _ _ ha).mono ?_
    rintro e w' ⟨rfl, rfl⟩
    rw [Hk.out]
    go_wp2_with fail
    go_ret
    exact ⟨rfl, rfl⟩
  · obtain ⟨b, off, rfl, hc⟩ := a4 (by omega)
    have hc0 := hc k (by omega)
    have hx := dig_lt (B := 4294967296) (by omega) N k
    have ht := htop.out k rfl
    have q0 : (k : Int) < (n : Int) := by omega
    have HD' := Lib.hid HD.out
    rw [show k + 1 - 1 = k from by omega, if_neg (by rintro rfl; simp [dig] at ht)] at HD'
    clear hc a4 hNs a3 HD htop
    generalize dig 4294967296 N k = x at *
    have hb : Lib.bitLen x ≤ 64 := bitLen_le x
    generalize hbl : Lib.bitLen x = bl at *
    have Hbl := Lib.hid hbl
    clear hbl
    go_enter Tryz.func206, Tryz.ntmps206
    go_wp2_with fail
    refine (size_any _ _ _ _ ha).mono ?_
    rintro e w' ⟨rfl, rfl⟩
    rw [Hk.out, mk1]
    go_wp2_with fail
    refine (Tryz.bits_Len32 _ _ (by omega) (by omega)).mono ?_
    rintro e w' ⟨rfl, rfl⟩
    rw [Int.toNat_natCast, Hbl.out]
    go_wp2_with fail
    go_ret
    exact ⟨ret_int (by rw [HD'.out]; omega), rfl⟩

end Go.Proofs.YtngbcbncllfblaaGreat
namespace Go.Proofs.YtngbcbncllfblaaGreat
open Go.RowKit

end Go.Proofs.YtngbcbncllfblaaGreat
