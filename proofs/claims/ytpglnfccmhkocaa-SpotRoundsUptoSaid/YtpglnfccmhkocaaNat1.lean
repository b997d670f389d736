/- nat.Trim, nat.Of, nat.Uint, nat.Cmp, nat.Bits. Condition: what comes in reads; fewer than 2^40 words. -/
import Derived.Test.YtpglnfccmhkocaaAdd
import Derived.Test.YtpglnfccmhkocaaShelf
import Derived.Deep.QuietTactic
import Derived.BigQuiet
namespace Go.Proofs.Ytpglnfccmhkocaa
open Go.RowKit

theorem size_u32 : (Try.prog.info? 80).map (·.size) = some 1 := by kernel_rfl

theorem add_none (b o j : Nat) : (⟨b, o, none⟩ : Addr).add j = ⟨b, o + j, none⟩ := by unfold Addr.add; split <;> simp_all

set_option maxRecDepth 100000 in
set_option maxHeartbeats 1000000 in
theorem trim_any (va : Value) (N n : Nat) (w : World) (ha : Num 4294967296 .u32 w va N n) (hs1 : len 4294967296 N < 1099511627776) :
    Calls Try.prog 69 #[va] w fun e w' => ∃ v, e = .returned v ∧ Num 4294967296 .u32 w' v N (len 4294967296 N) ∧ Grew w w' := by
  have hn := ha.len_le (by omega)
  have hNs := lt_len (B := 4294967296) (by omega) N
  generalize hk : len 4294967296 N = k at *
  have Hk := Lib.hid hk
  clear hk
  rcases k with _ | k
  · obtain rfl : N = 0 := by simpa using hNs
    go_enter Try.func69, Try.ntmps69
    go_wp2_with fail
    refine (size_any _ _ _ _ ha).mono ?_
    rintro e w' ⟨rfl, rfl⟩
    rw [Hk.out]
    go_wp2_with fail
    go_ret
    exact ⟨_, rfl, Num.nil _ _ _, Grew.refl _⟩
  · have hmk := make_u32 (k + 1) (k + 1) (by omega) (by omega)
    rw [mk1] at hmk
    obtain ⟨A, ca, rfl, a1, a2, a3, a4⟩ := id ha
    obtain ⟨b, off, rfl, hc⟩ := a4 (by omega)
    clear a4
    go_enter Try.func69, Try.ntmps69
    go_wp2_with fail
    refine (size_any _ _ _ _ ha).mono ?_
    rintro e w' ⟨rfl, rfl⟩
    rw [Hk.out, mk1]
    have hcc := Lib.hid hc
    clear hc
    go_wp2_with (first | fail | (refine wpList_copy1 _ rfl (.tmp 11) (.tmp 12) 22 22 rfl 80 Try.underlying22 size_u32 w.heap.size (k + 1) (k + 1) ⟨b, off, none⟩ n ca rfl rfl _ 80 (heap_alloc_new w _) (dvals 4294967296 .u32 N (k + 1)) ?_ ?_ ?_ ?_ ?_))
    · rw [dvals_length]; exact (Nat.min_eq_right (by omega)).symm
    · intro j v hj
      have hjk : j < k + 1 := by
        rcases Nat.lt_or_ge j (k + 1) with h | h
        · exact h
        · rw [List.getElem?_eq_none (by rw [dvals_length]; exact h)] at hj; cases hj
      rw [dvals, List.getElem?_map, digs_get? N (k + 1) j hjk] at hj
      rw [add_none]
      have := hcc.out j (by omega)
      rw [((Grew.refl w).alloc _).cell this]
      exact hj
    · rw [dvals_length, size_madeCells]; exact Nat.le_refl _
    · intro v hv
      rw [dvals, List.mem_map] at hv
      obtain ⟨x, _, rfl⟩ := hv
      rfl
    · intro w1 hg1 hG1
      have Hg1 := Lib.hid hg1
      clear hg1
      go_wp2_with fail
      go_ret
      refine ⟨_, rfl, Num.of_blk Hg1.out (Nat.le_refl _) (by omega) hNs fun i hi => ?_, hG1 _ (Nat.le_refl _) ((Grew.refl _).alloc _)⟩
      simp only [List.getElem?_toArray]
      rw [List.getElem?_append_left (by rw [dvals_length]; exact hi), dvals, List.getElem?_map, digs_get? N (k + 1) i hi]
      rfl

theorem num_two (w : World) (x y : Nat) (hx : x < 4294967296) (hy : y < 4294967296) (c : Array Value) (hc : c = #[.int .u32 (x : Int), .int .u32 (y : Int)]) (t : TypeId) :
    Num 4294967296 .u32 (w.alloc (.cells c t)) (.slice (some ⟨w.heap.size, 0, none⟩) 2 2) (x + 4294967296 * y) 2 := by
  subst hc
  refine Num.of_blk (heap_alloc_new w _) (Nat.le_refl _) (by omega) (by simp only [Nat.reducePow]; omega) fun i hi => ?_
  rcases i with _ | _ | i
  · simp [dig]; omega
  · simp [dig]; omega
  · omega

theorem and_low (N : Nat) (h : N < 18446744073709551616) : bits .and .u64 (N : Int) 4294967295 = (N : Int) % 4294967296 := by
  have := u64_and_nat N 4294967295 h (by omega)
  rw [show N &&& 4294967295 = N % 4294967296 from Nat.and_two_pow_sub_one_eq_mod N 32] at this
  rw [show ((4294967295 : Nat) : Int) = 4294967295 from rfl] at this
  rw [this]; omega

set_option maxRecDepth 100000 in
set_option maxHeartbeats 1000000 in
theorem of_any (x : Int) (N : Nat) (w : World) (hx : x = (N : Int)) (hN : N < 18446744073709551616) :
    Calls Try.prog 89 #[.int .u64 x] w fun e w' => ∃ v, e = .returned v ∧ Num 4294967296 .u32 w' v N (len 4294967296 N) ∧ Grew w w' := by
  subst hx
  have h2 := num_two w (N % 4294967296) (N / 4294967296) (by omega) (by omega) #[.int .u32 ((N : Int) % 4294967296), .int .u32 ((N : Int) / 4294967296)] (by simp) 80
  rw [show N % 4294967296 + 4294967296 * (N / 4294967296) = N from by omega] at h2
  have hl : len 4294967296 N < 1099511627776 := by
    have := len_le (B := 4294967296) (N := N) (k := 2) (by omega) (by simp only [Nat.reducePow]; omega)
    omega
  have H2 := Lib.hid h2
  have Hl := Lib.hid hl
  clear h2 hl
  have hb : (N : Int) < 18446744073709551616 := by omega
  have hlow := and_low N hN
  clear hN
  go_enter Try.func89, Try.ntmps89
  go_wp2_with fail
  refine (trim_any _ _ _ _ H2.out Hl.out).mono ?_
  rintro e w' ⟨v, rfl, h1, h3⟩
  go_wp2_with fail
  go_ret
  exact ⟨v, rfl, h1, ((Grew.refl w).alloc _).trans h3⟩

set_option maxRecDepth 100000 in
set_option maxHeartbeats 1000000 in
theorem cmp_any (va vb : Value) (N M n m : Nat) (w : World) (ha : Num 4294967296 .u32 w va N n) (hb : Num 4294967296 .u32 w vb M m) :
    Calls Try.prog 71 #[va, vb] w fun e w' => e = .returned (.int .i64 (cmpN N M)) ∧ Grew w w' := by
  have hNs := lt_len (B := 4294967296) (by omega) N
  have hMs := lt_len (B := 4294967296) (by omega) M
  have hn := ha.len_le (by omega)
  have hm := hb.len_le (by omega)
  have hl1 := Lib.hid (fun h => lt_of_len (B := 4294967296) (N := N) (M := M) (by omega) h)
  have hl2 := Lib.hid (fun h => lt_of_len (B := 4294967296) (N := M) (M := N) (by omega) h)
  generalize hk : len 4294967296 N = k at *
  generalize hl : len 4294967296 M = l at *
  have Hk := Lib.hid hk
  have Hl := Lib.hid hl
  clear hk hl
  obtain ⟨A, ca, rfl, a1, a2, a3, a4⟩ := id ha
  obtain ⟨C, cb, rfl, b1, b2, b3, b4⟩ := id hb
  clear a3 b3
  have HN := Lib.hid hNs
  have HM := Lib.hid hMs
  clear hNs hMs
  rcases Nat.lt_trichotomy k l with hkl | hkl | hkl
  · have hkl' : decide (k < l) = true := by simp; omega
    go_enter Try.func71, Try.ntmps71
    go_wp2_with fail
    refine (size_any _ _ _ _ ha).mono ?_
    rintro e w' ⟨rfl, rfl⟩
    rw [Hk.out]
    go_wp2_with fail
    refine (size_any _ _ _ _ hb).mono ?_
    rintro e w' ⟨rfl, rfl⟩
    rw [Hl.out]
    go_wp2_with fail
    go_ret
    exact ⟨by rw [cmpN_lt (hl1.out hkl)]; rfl, Grew.refl _⟩
  · subst hkl
    have hkl' : decide (k < k) = false := by simp
    go_enter Try.func71, Try.ntmps71
    go_wp2_with fail
    refine (size_any _ _ _ _ ha).mono ?_
    rintro e w' ⟨rfl, rfl⟩
    rw [Hk.out]
    go_wp2_with fail
    refine (size_any _ _ _ _ hb).mono ?_
    rintro e w' ⟨rfl, rfl⟩
    rw [Hl.out]
    go_wp2_with fail
    go_loopg [7] k (fun gk i wr => gk ≤ k ∧ i = .int .i64 ((gk : Int) - 1) ∧ Hid (N / 4294967296 ^ gk = M / 4294967296 ^ gk) ∧ Grew w wr)
    case atStart => exact ⟨Nat.le_refl _, rfl, Lib.hid (by rw [Nat.div_eq_of_lt HN.out, Nat.div_eq_of_lt HM.out]), Grew.refl _⟩
    case round =>
      obtain ⟨hgk, rfl, hD, hG⟩ := hrel
      rcases gk with _ | j
      · go_wp2_with fail
        go_ret
        have e1 := hD.out
        simp only [Nat.pow_zero, Nat.div_one] at e1
        exact ⟨by rw [e1, cmpN_self]; rfl, hG⟩
      · obtain ⟨ba, oa, rfl, hca⟩ := a4 (by omega)
        obtain ⟨bb, ob, rfl, hcb⟩ := b4 (by omega)
        have hcx := hG.cell (hca j (by omega))
        have hcy := hG.cell (hcb j (by omega))
        have hx := dig_lt (B := 4294967296) (by omega) N j
        have hy := dig_lt (B := 4294967296) (by omega) M j
        have d1 := Lib.hid (fun h => lt_of_dig (k := j) hD.out h)
        have d2 := Lib.hid (fun h => lt_of_dig (k := j) hD.out.symm h)
        have d3 := Lib.hid (fun h => div_eq_of_dig (k := j) hD.out h)
        clear hca hcb a4 b4
        generalize dig 4294967296 N j = x at *
        generalize dig 4294967296 M j = y at *
        have q1 : (j : Int) < (n : Int) := by omega
        have q2 : (j : Int) < (m : Int) := by omega
        have q3 : ((j + 1 : Nat) : Int) - 1 = (j : Int) := by omega
        rw [q3]
        rcases Nat.lt_trichotomy x y with hxy | hxy | hxy
        · go_wp2_with fail
          go_quiet (fail)
          go_wp2
          go_ret
          exact ⟨by rw [cmpN_lt (d1.out hxy)]; rfl, hG.drewN _⟩
        · subst hxy
          go_wp2_with fail
          go_quiet (fail)
          go_wp2_with fail
          go_quiet (fail)
          go_wp2
          go_roundg j
          case rel => exact ⟨by omega, rfl, Lib.hid (d3.out trivial), by first | exact hG.drewN _ | exact (hG.drewN _).drewN _⟩
          case measure => omega
        · have hxy' : ¬ (x : Int) < (y : Int) := by omega
          go_wp2_with fail
          go_quiet (fail)
          go_wp2_with fail
          go_quiet (fail)
          go_wp2
          go_ret
          exact ⟨by rw [cmpN_gt (d2.out hxy)]; rfl, by first | exact hG.drewN _ | exact (hG.drewN _).drewN _⟩
  · have hkl' : decide (k < l) = false := by simp; omega
    go_enter Try.func71, Try.ntmps71
    go_wp2_with fail
    refine (size_any _ _ _ _ ha).mono ?_
    rintro e w' ⟨rfl, rfl⟩
    rw [Hk.out]
    go_wp2_with fail
    refine (size_any _ _ _ _ hb).mono ?_
    rintro e w' ⟨rfl, rfl⟩
    rw [Hl.out]
    go_wp2_with fail
    go_ret
    exact ⟨by rw [cmpN_gt (hl2.out hkl)]; rfl, Grew.refl _⟩

end Go.Proofs.Ytpglnfccmhkocaa
