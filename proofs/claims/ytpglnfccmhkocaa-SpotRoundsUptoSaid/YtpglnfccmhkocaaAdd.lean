/- nat.Add: the sum of two numbers. Condition: both read; fewer than 2^40 words. -/
import Derived.Test.YtpglnfccmhkocaaSize
import Derived.Test.YtpglnfccmhkocaaBits
import Derived.Deep.LoopGhost
namespace Go.Proofs.Ytpglnfccmhkocaa
open Go.RowKit

theorem info_u32 : (Try.prog.info? 80).map (fun i => (i.zero, i.size, i.bytes)) = some (some (.int .u32 0), 1, 4) := by kernel_rfl

theorem make_u32 (l c : Nat) (hl : l ≤ c) (hc : c ≤ 1099511627776) (u : World) : (Instr.makeSlice 22 (.int .i64 (l : Int)) (.int .i64 (c : Int))).run Try.prog u =
    .ok (.slice (some ⟨u.heap.size, 0, none⟩) l c) (u.alloc (.cells (madeCells #[.int .u32 0] c) 80)) := by
  obtain ⟨i0, hi, hz0, hz1, hz2⟩ := info_parts info_u32
  have h := run_make (P := Try.prog) u 22 80 i0 (.int .u32 0) Try.underlying22 hi hz0 .i64 .i64 (l : Int) (c : Int) (by omega) (by omega) (by rw [hz2]; omega) (by omega)
  simpa [hz1, Value.cells] using h

theorem add_step (N M k : Nat) (x y c : Nat) (hx : x = dig 4294967296 N k) (hy : y = dig 4294967296 M k) (hc : c = carry 4294967296 N M k) :
    (((x : Int) + y + c) % 4294967296 = (dig 4294967296 (N + M) k : Nat)) ∧ (((x : Int) + y + c) / 4294967296 = (carry 4294967296 N M (k + 1) : Nat)) := by
  subst hx; subst hy; subst hc
  rw [← carry_dig (by omega), carry_succ (by omega)]
  constructor <;> omega

theorem mk0 : ((0 : Nat) : Int) = 0 := rfl
theorem mk1 (k : Nat) : ((k + 1 : Nat) : Int) = (k : Int) + 1 := by omega

set_option maxRecDepth 100000 in
set_option maxHeartbeats 1000000 in
theorem add_core (va vb : Value) (N M n m : Nat) (w : World) (ha : Num 4294967296 .u32 w va N n) (hb : Num 4294967296 .u32 w vb M m) (hle : len 4294967296 M ≤ len 4294967296 N) (hsz : len 4294967296 N < 1099511627776) :
    Calls Try.prog 116 #[va, vb] w fun e w' => ∃ v, e = .returned v ∧ Num 4294967296 .u32 w' v (N + M) (len 4294967296 (N + M)) ∧ Grew w w' := by
  have hNs := lt_len (B := 4294967296) (by omega) N
  have hMs := lt_len (B := 4294967296) (by omega) M
  have hn := ha.len_le (by omega)
  have hm := hb.len_le (by omega)
  have hfin : Hid (∀ k, len 4294967296 N = k → carry 4294967296 N M k = dig 4294967296 (N + M) k) := Lib.hid fun k hk => carry_last (by omega) N M k (by omega) (by omega)
  have hlen := Lib.hid (len_add (B := 4294967296) (by omega) N M (len 4294967296 N) (Nat.le_refl _) hle)
  have hge := Lib.hid (len_mono (B := 4294967296) (by omega) (Nat.le_add_right N M))
  generalize hk : len 4294967296 N = k at *
  generalize hl : len 4294967296 M = l at *
  have Hk := Lib.hid hk
  have Hl := Lib.hid hl
  clear hk hl
  have hmk := make_u32 0 (k + 1) (by omega) (by omega)
  rw [mk1, mk0] at hmk
  obtain ⟨A, ca, rfl, a1, a2, a3, a4⟩ := id ha
  obtain ⟨C, cb, rfl, b1, b2, b3, b4⟩ := id hb
  have hkl : decide (k < l) = false := by simp; omega
  go_enter Try.func116, Try.ntmps116
  go_wp2_with fail
  refine (size_any _ _ _ _ ha).mono ?_
  rintro e w' ⟨rfl, rfl⟩
  rw [Hk.out]
  go_wp2_with fail
  refine (size_any _ _ _ _ hb).mono ?_
  rintro e w' ⟨rfl, rfl⟩
  rw [Hl.out]
  clear ha hb
  go_wp2_with fail
  go_loopg [7, 8, 27] k (fun gk out cr i wr => ∃ j : Nat, gk + j = k ∧ i = .int .i64 j ∧ cr = .int .u32 (carry 4294967296 N M j : Nat) ∧ wr.ownsRow w.heap.size 80 1 out j (dvals 4294967296 .u32 (N + M) j) ∧ Grew w wr)
  case atStart => exact ⟨0, rfl, rfl, by rw [carry_zero]; rfl, World.ownsRow_made _ _ _ (Nat.le_refl _) (by simp only [maxLen]; omega) (by simp [size_madeCells]), (Grew.refl _).alloc _⟩
  case round =>
    obtain ⟨j, hj, rfl, rfl, hown, hG⟩ := hrel
    by_cases hlt : j < k
    · obtain ⟨ba, oa, rfl, hca⟩ := a4 (by omega)
      have hcx := hG.cell (hca j (by omega))
      have hx := dig_lt (B := 4294967296) (by omega) N j
      have hcl := carry_le (B := 4294967296) (by omega) N M j
      by_cases hjl : j < l
      · obtain ⟨bb, ob, rfl, hcb⟩ := b4 (by omega)
        have hcy := hG.cell (hcb j (by omega))
        have hy := dig_lt (B := 4294967296) (by omega) M j
        have hstep := Lib.hid (add_step N M j _ _ _ rfl rfl rfl)
        have hsucc := Lib.hid (dvals_succ 4294967296 .u32 (N + M) j)
        generalize dig 4294967296 N j = x at *
        generalize dig 4294967296 M j = y at *
        generalize carry 4294967296 N M j = c at *
        go_wp2_with (first | fail | (go_at_call 133; refine (add32_any _ _ _ _ (by omega) (by omega) (by omega) (by omega) (by omega) (by omega)).mono ?_; rintro e w' ⟨rfl, rfl⟩) | (at_builtin; refine wpList_app1 _ rfl (.tmp 47) (.tmp 49) 22 rfl w.heap.size 80 (.int .u32 0) 1 4 Try.underlying22 info_u32 rfl (by omega) _ j _ rfl hown _ rfl (by simp [Value.oneCell']) rfl (by omega) (by omega) (by exact hG.size) ?_; intro v1 w1 hown1 hG1))
        go_roundg (gk - 1)
        case rel => exact ⟨j + 1, by omega, by go_num, by rw [hstep.out.2], by rw [hsucc.out, ← hstep.out.1]; exact hown1, hG1 _ (Nat.le_refl _) hG⟩
        case measure => omega
      · have hy0 : dig 4294967296 M j = 0 := dig_zero_of_lt (by omega) hMs (by omega)
        have hstep := Lib.hid (add_step N M j _ 0 _ rfl hy0.symm rfl)
        have hsucc := Lib.hid (dvals_succ 4294967296 .u32 (N + M) j)
        clear hy0
        generalize dig 4294967296 N j = x at *
        generalize carry 4294967296 N M j = c at *
        go_wp2_with (first | fail | (go_at_call 133; refine (add32_any _ _ _ _ (by omega) (by omega) (by omega) (by omega) (by omega) (by omega)).mono ?_; rintro e w' ⟨rfl, rfl⟩) | (at_builtin; refine wpList_app1 _ rfl (.tmp 47) (.tmp 49) 22 rfl w.heap.size 80 (.int .u32 0) 1 4 Try.underlying22 info_u32 rfl (by omega) _ j _ rfl hown _ rfl (by simp [Value.oneCell']) rfl (by omega) (by omega) (by exact hG.size) ?_; intro v1 w1 hown1 hG1))
        go_roundg (gk - 1)
        case rel => exact ⟨j + 1, by omega, by go_num, by rw [← hstep.out.2]; rfl, by rw [hsucc.out, ← hstep.out.1]; exact hown1, hG1 _ (Nat.le_refl _) hG⟩
        case measure => omega
    · obtain rfl : j = k := by omega
      have hcl := carry_le (B := 4294967296) (by omega) N M j
      have hf := hfin.out j rfl
      have htop := len_top (B := 4294967296) (by omega) hlen.out
      rw [← hf] at htop
      have Hf := Lib.hid hf
      have Htop := Lib.hid htop
      have hsucc := Lib.hid (dvals_succ 4294967296 .u32 (N + M) j)
      rw [← hf] at hsucc
      clear hf htop hfin
      have hge' := hge.out
      generalize carry 4294967296 N M j = c at *
      rcases c with _ | c
      · have e1 := Lib.hid (Nat.le_antisymm (Htop.out.1 rfl) hge')
        clear hge'
        go_wp2
        go_ret
        refine ⟨_, rfl, ?_, hG⟩
        rw [e1.out]
        exact Num.of_own hown (lt_pow_of_len (by omega) (by rw [e1.out]; exact Nat.le_refl _))
      · have e1 := Lib.hid (Htop.out.2 (by omega))
        obtain rfl : c = 0 := by omega
        clear hge'
        go_wp2_with (first | fail | (at_builtin; refine wpList_app1 _ rfl (.tmp 55) (.tmp 57) 22 rfl w.heap.size 80 (.int .u32 0) 1 4 Try.underlying22 info_u32 rfl (by omega) _ j _ rfl hown _ rfl (by simp [Value.oneCell']) rfl (by omega) (by omega) (by exact hG.size) ?_; intro v1 w1 hown1 hG1))
        go_ret
        refine ⟨_, rfl, ?_, hG1 _ (Nat.le_refl _) hG⟩
        rw [e1.out]
        refine Num.of_own (base := w.heap.size) (e := 80) (by rw [hsucc.out]; exact hown1) (lt_pow_of_len (by omega) (by rw [e1.out]; exact Nat.le_refl _))

set_option maxRecDepth 100000 in
set_option maxHeartbeats 1000000 in
theorem add_any (va vb : Value) (N M n m : Nat) (w : World) (ha : Num 4294967296 .u32 w va N n) (hb : Num 4294967296 .u32 w vb M m) (hs1 : len 4294967296 N < 1099511627776) (hs2 : len 4294967296 M < 1099511627776) :
    Calls Try.prog 116 #[va, vb] w fun e w' => ∃ v, e = .returned v ∧ Num 4294967296 .u32 w' v (N + M) (len 4294967296 (N + M)) ∧ Grew w w' := by
  rcases Nat.lt_or_ge (len 4294967296 N) (len 4294967296 M) with hlt | hge
  · have hc := add_core vb va M N m n w hb ha (by omega) hs2
    have Hc := Lib.hid hc
    clear hc
    generalize hk : len 4294967296 N = k at *
    generalize hl : len 4294967296 M = l at *
    have Hk := Lib.hid hk
    have Hl := Lib.hid hl
    clear hk hl
    have hkl : decide (k < l) = true := by simp; omega
    go_enter Try.func116, Try.ntmps116
    go_wp2_with fail
    refine (size_any _ _ _ _ ha).mono ?_
    rintro e w' ⟨rfl, rfl⟩
    rw [Hk.out]
    go_wp2_with fail
    refine (size_any _ _ _ _ hb).mono ?_
    rintro e w' ⟨rfl, rfl⟩
    rw [Hl.out]
    go_wp2_with fail
    refine Hc.out.mono ?_
    rintro e w' ⟨v, rfl, h1, h2⟩
    go_wp2_with fail
    go_ret
    exact ⟨v, rfl, by rw [Nat.add_comm N M]; exact h1, h2⟩
  · exact add_core va vb N M n m w ha hb hge hs1

end Go.Proofs.Ytpglnfccmhkocaa
