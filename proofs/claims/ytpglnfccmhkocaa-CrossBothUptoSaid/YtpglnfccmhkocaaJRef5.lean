/- r01.Half: a number's words as digits of 16 bits. Condition: what comes in reads; fewer than 2^40 words. r01.Words: digits of 16 bits as words. Condition: what comes in reads; fewer than 2^40 digits. r01.cmp, r01.Cmp. Condition: what comes in reads; fewer than 2^40 digits. r01.Add. Condition: what comes in reads; fewer than 2^38 words. -/
import Derived.Test.YtpglnfccmhkocaaJRef1
import Derived.Deep.RegionLaw
import Derived.Deep.RegionHeld3
namespace Go.Proofs.Ytpglnfccmhkocaa
open Go.RowKit

theorem info_u64 : (Try.prog.info? 75).map (fun i => (i.zero, i.size, i.bytes)) = some (some (.int .u64 0), 1, 8) := by kernel_rfl

section
variable {P : Program}
/-- append to a slice of the call's own, as a step of a region that draws: the new elements lie in the block that was laid last. -/
theorem step_appN {ops : Array Oper} {o : Oper} {a : Act} {w : World} {K : Act → World → Prop} {Q : Exit → Act → World → Prop} {E : Prop} (hg : o.guard = none) (s x : Operand) (t : TypeId)
    (ho : o.op = .call { callee := .builtin .append, args := #[s, x], argTypes := #[t, t] })
    (base : Nat) (e : TypeId) (z : Value) (size bytes : Nat) (ht : P.underlying t = some (.slice e)) (hi : (P.info? e).map (fun i => (i.zero, i.size, i.bytes)) = some (some z, size, bytes))
    (hzs : z.cells.size = size) (hsz : 0 < size)
    (v : Value) (n m c : Nat) (xs : List Value) (hs : a.eval s = v) (hown : w.ownsRow base e size v n xs)
    (us : Array Value) (hus : us.size = m * size) (h1 : ∀ u ∈ us.toList, u.oneCell' = true) (hx : a.eval x = .slice (some ⟨w.heap.size, 0, none⟩) m c)
    (hbytes : (n + m) * bytes ≤ 140737488355328) (hby : 0 < bytes) (hbase : base ≤ w.heap.size)
    (h : ∀ v' w', w'.ownsRow base e size v' (n + m) (xs ++ us.toList) → (∀ W, W.heap.size ≤ base → Grew W w → Grew W w') → K (a.put o.dst v') w') :
    if Region.wanted o (yielded ops a.tmps) = true then Oper.wp P o a (w.alloc (.cells us e)).drew K Q else E := by
  have hw : Region.wanted o (yielded ops a.tmps) = true := by simp [Region.wanted, hg]
  rw [if_pos hw]
  have h63 : n + m ≤ maxLen := by
    have : (n + m) * 1 ≤ (n + m) * bytes := Nat.mul_le_mul_left _ hby
    simp only [maxLen]; omega
  obtain ⟨i, hi, hz, hsize, hbyt⟩ := info_parts hi
  have hown' : (w.alloc (.cells us e)).drew.ownsRow base e size v n xs := hown.alloc _
  have hnews : ∀ j u, us.toList[j]? = some u → (w.alloc (.cells us e)).drew.cell? ((⟨w.heap.size, 0, none⟩ : Addr).add j) = some u := by
    intro j u hu
    have hadd : (⟨w.heap.size, 0, none⟩ : Addr).add j = ⟨w.heap.size, j, none⟩ := by unfold Addr.add; split <;> simp_all
    rw [hadd]
    exact (cell_of_row (w.alloc (.cells us e)) w.heap.size j us e (0, 0) (heap_alloc_new w _)).trans (by simpa using hu)
  have hb' : base ≤ (w.alloc (.cells us e)).drew.heap.size := by simp; omega
  obtain ⟨v', w', hr, h2, h3, h4⟩ := run_append_own (P := P) (w.alloc (.cells us e)).drew base t o.type e i z size bytes ht hi hz hsize hbyt hzs hsz v n xs hown' ⟨w.heap.size, 0, none⟩ m c us.toList (by simpa using hus) hnews h1 h63 hbytes hb'
  have hd := drawn_append (P := P) (w.alloc (.cells us e)).drew base t o.type e i z size bytes ht hi hz hsize hbyt hsz v n xs hown' ⟨w.heap.size, 0, none⟩ m c us.toList (by simpa using hus) hnews h1 h63 hbytes v' w' hr
  unfold Oper.wp execOp
  simp only [ho, resolve, invoke, builtin, Sem.run_bind, Sem.run_pure, Result.andThen_ok, List.map_toArray, List.map_cons, List.map_nil, hs, hx, hr]
  exact h v' w' h2 fun W hW hG => ((hG.alloc _).drew).grown h3 hd fun k hk => Nat.le_trans hW (hown.lt k hk).1
end

/-- Digits of 16 bits out of words. -/
theorem dig_half_lo (N k : Nat) : dig 65536 N (2 * k) = dig 4294967296 N k % 65536 := by
  unfold dig
  rw [show (4294967296 : Nat) = 65536 ^ 2 from rfl, ← Nat.pow_mul]
  rw [Nat.mod_mod_of_dvd _ (by exact ⟨65536, rfl⟩)]
theorem dig_half_hi (N k : Nat) : dig 65536 N (2 * k + 1) = dig 4294967296 N k / 65536 := by
  unfold dig
  rw [show (4294967296 : Nat) = 65536 ^ 2 from rfl, ← Nat.pow_mul, Nat.pow_succ, ← Nat.div_div_eq_div_mul]
  generalize N / 65536 ^ (2 * k) = x
  rw [show (65536 ^ 2 : Nat) = 65536 * 65536 from rfl, Nat.mod_mul_right_div_self]
theorem dvals_half (N k : Nat) : dvals 65536 .u64 N (2 * (k + 1)) = dvals 65536 .u64 N (2 * k) ++ [.int .u64 ((dig 4294967296 N k % 65536 : Nat) : Int), .int .u64 ((dig 4294967296 N k / 65536 : Nat) : Int)] := by
  rw [show 2 * (k + 1) = 2 * k + 1 + 1 from by omega, dvals_succ, dvals_succ, dig_half_hi, dig_half_lo, List.append_assoc]
  rfl
theorem wrap_lo (x : Nat) (h : x < 4294967296) : IntKind.u64.wrap ((x : Int).tmod 65536) = ((x % 65536 : Nat) : Int) := by
  rw [Int.tmod_eq_emod_of_nonneg (by omega), IntWalk.u64_in _ ⟨by omega, by omega⟩]; omega
theorem wrap_hi (x : Nat) (h : x < 4294967296) : IntKind.u64.wrap (IntKind.u32.wrap ((x : Int) / 65536)) = ((x / 65536 : Nat) : Int) := by
  rw [IntWalk.u32_in _ ⟨by omega, by omega⟩, IntWalk.u64_in _ ⟨by omega, by omega⟩]; omega
theorem pow_half (k : Nat) : 4294967296 ^ k = 65536 ^ (2 * k) := by rw [Nat.pow_mul]

set_option maxRecDepth 100000 in
set_option maxHeartbeats 4000000 in
theorem rhalf_any (va : Value) (N n : Nat) (w : World) (ha : Num 4294967296 .u32 w va N n) (hsz : n < 1099511627776) :
    Calls Try.prog 103 #[va] w fun e w' => ∃ v, e = .returned v ∧ Num 65536 .u64 w' v N (len 65536 N) ∧ Grew w w' := by
  obtain ⟨A, ca, rfl, a1, a2, a3, a4⟩ := id ha
  have hN2 := Lib.hid (show N < 65536 ^ (2 * n) by rw [← pow_half]; exact a3)
  clear a3 ha
  go_enter Try.func103, Try.ntmps103
  go_wp2_with fail
  go_loopg [3, 4] n (fun gk out i wr => ∃ j : Nat, gk + j = n ∧ i = .int .i64 j ∧ wr.ownsRow w.heap.size 75 1 out (2 * j) (dvals 65536 .u64 N (2 * j)) ∧ Grew w wr)
  case atStart => exact ⟨0, rfl, rfl, World.ownsRow_nil _ _ _ _, Grew.refl _⟩
  case round =>
    obtain ⟨j, hj, rfl, hown, hG⟩ := hrel
    by_cases hlt : j < n
    · obtain ⟨ba, oa, rfl, hca⟩ := a4 (by omega)
      have hcx := hG.cell (hca j (by omega))
      have hx := dig_lt (B := 4294967296) (by omega) N j
      have hsucc := Lib.hid (dvals_half N j)
      have q1 := Lib.hid hG
      have q2 := Lib.hid hown
      have hcw := Lib.hid (hca j hlt)
      have hsz1 := hG.size
      clear hG hown hca
      generalize dig 4294967296 N j = x at *
      go_wp2_with fail
      go_region_held3 (fun w' => w'.cell? ⟨ba, oa + j, none⟩ = some (.int .u32 (x : Int)))
        (first | (with_reducible exact q1.out.drew.cell hcw.out) | (with_reducible exact (q1.out.alloc _).drew.cell hcw.out) | (with_reducible exact (hG1 _ (Nat.le_refl _) q1.out).cell hcw.out))
        (first | (refine step_appN rfl (.tmp 11) (.tmp 24) 111 rfl w.heap.size 75 (.int .u64 0) 1 8 Try.underlying111 info_u64 rfl (by omega) _ (2 * j) 2 2 _ rfl q2.out _ rfl (by simp [Value.oneCell']) rfl (by omega) (by omega) hsz1 ?_; intro v1 w1 hown1 hG1))
      go_wp2_with fail
      go_roundg (gk - 1)
      case rel => exact ⟨j + 1, by omega, by go_num, by rw [hsucc.out, ← wrap_lo x hx, ← wrap_hi x hx]; exact hown1, hG1 _ (Nat.le_refl _) q1.out⟩
      case measure => omega
    · obtain rfl : j = n := by omega
      have hnum := Num.of_own hown hN2.out
      obtain ⟨D, cd, rfl, d1, d2, d3, d4⟩ := id hnum
      replace hnum := Lib.hid hnum
      clear d3 d4 hown
      go_wp2_with fail
      refine (rcut_any _ _ _ _ hnum.out).mono ?_
      rintro e w' ⟨v', rfl, hv', rfl⟩
      replace hv' := Lib.hid hv'
      go_wp2_with fail
      go_ret
      exact ⟨_, rfl, hv'.out, hG⟩
end Go.Proofs.Ytpglnfccmhkocaa
namespace Go.Proofs.Ytpglnfccmhkocaa
open Go.RowKit

theorem dig_words (N k : Nat) : dig 4294967296 N k = dig 65536 N (2 * k) + dig 65536 N (2 * k + 1) * 65536 := by
  rw [dig_half_lo, dig_half_hi]; omega
theorem len_half (N : Nat) : len 4294967296 N = (len 65536 N + 1) / 2 := by
  have e : ∀ k, len 4294967296 N ≤ k ↔ len 65536 N ≤ 2 * k := fun k => by
    rw [len_le_iff (by omega), len_le_iff (by omega), pow_half]
  have h1 := (e ((len 65536 N + 1) / 2)).2 (by omega)
  have h2 := (e (len 4294967296 N)).1 (Nat.le_refl _)
  omega

set_option maxRecDepth 100000 in
set_option maxHeartbeats 4000000 in
theorem rwords_any (va : Value) (N n : Nat) (w : World) (ha : Num 65536 .u64 w va N n) (hsz : n < 1099511627776) :
    Calls Try.prog 104 #[va] w fun e w' => ∃ v, e = .returned v ∧ Num 4294967296 .u32 w' v N (len 4294967296 N) ∧ Grew w w' := by
  obtain ⟨A, ca, rfl, a1, a2, a3, a4⟩ := id ha
  have hN := lt_len (B := 65536) (by omega) N
  have hl := Lib.hid (len_half N)
  have hln := ha.len_le (by omega)
  have hN2 := Lib.hid (lt_len (B := 4294967296) (by omega) N)
  replace ha := Lib.hid ha
  clear a3
  go_enter Try.func104, Try.ntmps104
  go_wp2_with fail
  refine (rcut_any _ _ _ _ ha.out).mono ?_
  rintro e w' ⟨v', rfl, hv', rfl⟩
  obtain ⟨D, cd, rfl, -⟩ := id hv'
  generalize hL : len 65536 N = L at *
  replace hL := Lib.hid hL
  replace hN := Lib.hid hN
  clear hv' ha
  go_wp2_with fail
  go_loopg [3, 5] ((L + 1) / 2) (fun gk out i wr => ∃ j : Nat, gk + j = (L + 1) / 2 ∧ i = .int .i64 ((2 * j : Nat) : Int) ∧ wr.ownsRow w.heap.size 80 1 out j (dvals 4294967296 .u32 N j) ∧ Grew w wr)
  case atStart => exact ⟨0, rfl, rfl, World.ownsRow_nil _ _ _ _, Grew.refl _⟩
  case round =>
    obtain ⟨j, hj, rfl, hown, hG⟩ := hrel
    by_cases hlt : 2 * j < L
    · obtain ⟨ba, oa, rfl, hca⟩ := a4 (by omega)
      have hcx := hG.cell (hca (2 * j) (by omega))
      have hx := dig_lt (B := 65536) (by omega) N (2 * j)
      have hy := dig_lt (B := 65536) (by omega) N (2 * j + 1)
      have hsucc := Lib.hid (dvals_succ 4294967296 .u32 N j)
      have hdw := Lib.hid (dig_words N j)
      have hsz1 := hG.size
      have q1 := Lib.hid hG
      have q2 := Lib.hid hown
      have hgk := Lib.hid (show gk - 1 + (j + 1) = (L + 1) / 2 by omega)
      have hgl := Lib.hid (show gk - 1 < gk by omega)
      by_cases hl2 : 2 * j + 1 < L
      · have hcy := hG.cell (hca (2 * j + 1) (by omega))
        clear hG hown hca
        generalize dig 65536 N (2 * j) = x at *
        generalize dig 65536 N (2 * j + 1) = y at *
        generalize hi2 : 2 * j = i at *
        replace hi2 := Lib.hid hi2
        go_wp2_with (first | fail | (at_builtin; refine wpList_app1 _ rfl (.tmp 31) (.tmp 34) 22 rfl w.heap.size 80 (.int .u32 0) 1 4 Try.underlying22 info_u32 rfl (by omega) _ j _ rfl q2.out _ rfl (by simp [Value.oneCell']) rfl (by omega) (by omega) hsz1 ?_; intro v1 w2 hown1 hG2))
        go_roundg (gk - 1)
        case rel => exact ⟨j + 1, hgk.out, by rw [show 2 * (j + 1) = i + 2 from by have := hi2.out; omega]; go_num, by rw [hsucc.out, hdw.out]; exact hown1, hG2 _ (Nat.le_refl _) q1.out⟩
        case measure => exact hgl.out
      · have hz : dig 65536 N (2 * j + 1) = 0 := dig_zero_of_lt (by omega) hN.out (by omega)
        have hd2 : dig 4294967296 N j = dig 65536 N (2 * j) := by rw [dig_words, hz, Nat.zero_mul, Nat.add_zero]
        replace hd2 := Lib.hid hd2
        clear hdw hG hown hca hy hz
        generalize dig 65536 N (2 * j) = x at *
        generalize hi2 : 2 * j = i at *
        replace hi2 := Lib.hid hi2
        have hl3 : L = i + 1 := by omega
        clear hl2
        subst hl3
        have hll : (i : Int) < (i : Int) + 1 := by omega
        go_wp2_with (first | fail | (at_builtin; refine wpList_app1 _ rfl (.tmp 31) (.tmp 34) 22 rfl w.heap.size 80 (.int .u32 0) 1 4 Try.underlying22 info_u32 rfl (by omega) _ j _ rfl q2.out _ rfl (by simp [Value.oneCell']) rfl (by omega) (by omega) hsz1 ?_; intro v1 w2 hown1 hG2))
        go_roundg (gk - 1)
        case rel => exact ⟨j + 1, hgk.out, by rw [show 2 * (j + 1) = i + 2 from by have := hi2.out; omega]; go_num, by rw [hsucc.out, hd2.out]; exact hown1, hG2 _ (Nat.le_refl _) q1.out⟩
        case measure => exact hgl.out
    · have hjl : j = (L + 1) / 2 := by omega
      have hle : len 4294967296 N = j := by rw [hl.out, hjl]
      have hnum := Num.of_own hown (by rw [← hle]; exact hN2.out)
      rw [← hle] at hnum
      replace hnum := Lib.hid hnum
      replace hG := Lib.hid hG
      clear hown hle hjl
      go_wp2_with fail
      go_ret
      exact ⟨_, rfl, hnum.out, hG.out⟩
end Go.Proofs.Ytpglnfccmhkocaa
namespace Go.Proofs.Ytpglnfccmhkocaa
open Go.RowKit

theorem div_step (N k : Nat) : N / 65536 ^ k = N / 65536 ^ (k + 1) * 65536 + dig 65536 N k := by
  unfold dig
  rw [Nat.pow_succ, ← Nat.div_div_eq_div_mul]
  omega
theorem lt_of_step {N M k : Nat} (h : N / 65536 ^ (k + 1) = M / 65536 ^ (k + 1)) (hd : dig 65536 N k < dig 65536 M k) : N < M := by
  have h1 := div_step N k
  have h2 := div_step M k
  rcases Nat.lt_or_ge N M with h3 | h3
  · exact h3
  · have := Nat.div_le_div_right (c := 65536 ^ k) h3
    rw [h] at h1
    omega
theorem eq_of_step {N M k : Nat} (h : N / 65536 ^ (k + 1) = M / 65536 ^ (k + 1)) (hd : dig 65536 N k = dig 65536 M k) : N / 65536 ^ k = M / 65536 ^ k := by
  rw [div_step N k, div_step M k, h, hd]

set_option maxRecDepth 100000 in
set_option maxHeartbeats 4000000 in
theorem rcmp_any (va vb : Value) (N M n m : Nat) (w : World) (ha : Num 65536 .u64 w va N n) (hb : Num 65536 .u64 w vb M m) (hsz : n < 1099511627776 ∧ m < 1099511627776) :
    Calls Try.prog 122 #[va, vb] w fun e w' => e = .returned (.int .i64 (cmpN N M)) ∧ w = w' := by
  obtain ⟨A, ca, rfl, a1, a2, a3, a4⟩ := id ha
  obtain ⟨C, cb, rfl, b1, b2, b3, b4⟩ := id hb
  have Ha := Lib.hid ha
  have Hb := Lib.hid hb
  have h0 : N / 65536 ^ (max n m) = M / 65536 ^ (max n m) := by
    rw [Nat.div_eq_of_lt (Nat.lt_of_lt_of_le a3 (Nat.pow_le_pow_right (by omega) (Nat.le_max_left _ _))), Nat.div_eq_of_lt (Nat.lt_of_lt_of_le b3 (Nat.pow_le_pow_right (by omega) (Nat.le_max_right _ _)))]
  replace h0 := Lib.hid h0
  clear a3 b3 a4 b4 ha hb
  go_enter Try.func122, Try.ntmps122
  go_wp2_with fail
  obtain ⟨X, hX⟩ : ∃ X : Nat, X = max n m := ⟨_, rfl⟩
  have hmi : max (n : Int) (m : Int) = (X : Int) := by omega
  have hXb : X < 1099511627776 := by omega
  rw [hmi]
  rw [← hX] at h0
  clear hmi hX hsz
  go_loopg [5] X (fun gk i wr => ∃ k : Nat, gk = k ∧ k < 1099511627776 ∧ i = .int .i64 ((k : Int) - 1) ∧ Hid (N / 65536 ^ k = M / 65536 ^ k) ∧ w = wr)
  case atStart => exact ⟨X, rfl, hXb, rfl, h0, rfl⟩
  case round =>
    obtain ⟨k, hgk, hk, rfl, he, rfl⟩ := hrel
    have hgl : k ≤ gk := by omega
    clear hgk
    rcases k with _ | j
    · have e0 : N = M := by have := he.out; simpa using this
      replace e0 := Lib.hid e0
      rw [show ((0 : Nat) : Int) - 1 = -1 from rfl]
      go_wp2_with fail
      go_ret
      exact ⟨by rw [e0.out, cmpN_self]; rfl, rfl⟩
    · have e1 := Lib.hid (fun h => cmpN_lt (lt_of_step (N := N) (M := M) (k := j) he.out h))
      have e2 := Lib.hid (fun h => cmpN_gt (lt_of_step (N := M) (M := N) (k := j) he.out.symm h))
      have e3 := Lib.hid (fun h => eq_of_step (N := N) (M := M) (k := j) he.out h)
      have A1 := Lib.hid (rat_any (.slice A n ca) N n j w Ha.out (by omega))
      have A2 := Lib.hid (rat_any (.slice C m cb) M m j w Hb.out (by omega))
      rw [show ((j + 1 : Nat) : Int) - 1 = (j : Int) from by omega]
      clear he
      generalize dig 65536 N j = x at *
      generalize dig 65536 M j = y at *
      rcases Nat.lt_trichotomy x y with h | h | h
      · have r := Lib.hid (e1.out h)
        go_wp2_with (first | fail | (go_at_call_of 120 (Value.slice A n ca); refine A1.out.mono ?_; rintro e w' ⟨rfl, rfl⟩) | (go_at_call 120; refine A2.out.mono ?_; rintro e w' ⟨rfl, rfl⟩))
        go_ret
        exact ⟨by rw [r.out]; rfl, rfl⟩
      · subst h
        have r := Lib.hid (e3.out rfl)
        go_wp2_with (first | fail | (go_at_call_of 120 (Value.slice A n ca); refine A1.out.mono ?_; rintro e w' ⟨rfl, rfl⟩) | (go_at_call 120; refine A2.out.mono ?_; rintro e w' ⟨rfl, rfl⟩))
        go_roundg j
        case rel => exact ⟨j, rfl, by omega, rfl, r, rfl⟩
        case measure => omega
      · have r := Lib.hid (e2.out h)
        have h' : ¬ x < y := by omega
        go_wp2_with (first | fail | (go_at_call_of 120 (Value.slice A n ca); refine A1.out.mono ?_; rintro e w' ⟨rfl, rfl⟩) | (go_at_call 120; refine A2.out.mono ?_; rintro e w' ⟨rfl, rfl⟩))
        go_ret
        exact ⟨by rw [r.out]; rfl, rfl⟩

set_option maxRecDepth 100000 in
set_option maxHeartbeats 1000000 in
theorem rCmp_any (va vb : Value) (N M n m : Nat) (w : World) (ha : Num 4294967296 .u32 w va N n) (hb : Num 4294967296 .u32 w vb M m) (hsz : n < 274877906944 ∧ m < 274877906944) :
    Calls Try.prog 101 #[va, vb] w fun e w' => e = .returned (.int .i64 (cmpN N M)) ∧ Grew w w' := by
  have l1 : len 65536 N < 1099511627776 := by
    have h1 := ha.len_le (by omega); have := len_half N; omega
  have l2 : len 65536 M < 1099511627776 := by
    have h1 := hb.len_le (by omega); have := len_half M; omega
  go_enter Try.func101, Try.ntmps101
  go_wp2_with fail
  refine (rhalf_any _ _ _ _ ha (by omega)).mono ?_
  rintro e w1 ⟨v1, rfl, h1, g1⟩
  replace hb := hb.grew g1
  go_wp2_with fail
  refine (rhalf_any _ _ _ _ hb (by omega)).mono ?_
  rintro e w2 ⟨v2, rfl, h2, g2⟩
  replace h1 := h1.grew g2
  go_wp2_with fail
  refine (rcmp_any _ _ _ _ _ _ _ h1 h2 ⟨l1, l2⟩).mono ?_
  rintro e w' ⟨rfl, rfl⟩
  go_wp2_with fail
  go_ret
  exact ⟨rfl, g1.trans g2⟩
end Go.Proofs.Ytpglnfccmhkocaa
namespace Go.Proofs.Ytpglnfccmhkocaa
open Go.RowKit

theorem radd_step (N M k : Nat) (x y c : Nat) (hx : x = dig 65536 N k) (hy : y = dig 65536 M k) (hc : c = carry 65536 N M k) :
    (((x : Int) + y + c) % 65536 = (dig 65536 (N + M) k : Nat)) ∧ (((x : Int) + y + c) / 65536 = (carry 65536 N M (k + 1) : Nat)) := by
  subst hx; subst hy; subst hc
  rw [← carry_dig (by omega), carry_succ (by omega)]
  constructor <;> omega

set_option maxRecDepth 100000 in
set_option maxHeartbeats 4000000 in
theorem rnadd_any (va vb : Value) (N M n m : Nat) (w : World) (ha : Num 4294967296 .u32 w va N n) (hb : Num 4294967296 .u32 w vb M m) (hsz : n < 274877906944 ∧ m < 274877906944) :
    Calls Try.prog 97 #[va, vb] w fun e w' => ∃ v, e = .returned v ∧ Num 4294967296 .u32 w' v (N + M) (len 4294967296 (N + M)) ∧ Grew w w' := by
  have l1 : len 65536 N < 549755813889 := by
    have h1 := ha.len_le (by omega); have := len_half N; omega
  have l2 : len 65536 M < 549755813889 := by
    have h1 := hb.len_le (by omega); have := len_half M; omega
  have hNs := lt_len (B := 65536) (by omega) N
  have hMs := lt_len (B := 65536) (by omega) M
  go_enter Try.func97, Try.ntmps97
  go_wp2_with fail
  refine (rhalf_any _ _ _ _ ha (by omega)).mono ?_
  rintro e w1 ⟨v1, rfl, h1, g1⟩
  replace hb := hb.grew g1
  go_wp2_with fail
  refine (rhalf_any _ _ _ _ hb (by omega)).mono ?_
  rintro e w2 ⟨v2, rfl, h2, g2⟩
  replace h1 := h1.grew g2
  replace g2 := Lib.hid (g1.trans g2)
  obtain ⟨A, ca, rfl, -⟩ := id h1
  obtain ⟨C, cb, rfl, -⟩ := id h2
  generalize len 65536 N = L at *
  generalize len 65536 M = K at *
  obtain ⟨X, hX⟩ : ∃ X : Nat, X = max L K := ⟨_, rfl⟩
  have hmi : max (L : Int) (K : Int) = (X : Int) := by omega
  have hXb : X < 549755813889 := by omega
  have hNM := Lib.hid (show N + M < 65536 ^ (X + 1) by
    have e1 := Nat.pow_le_pow_right (n := 65536) (by omega) (show L ≤ X by omega)
    have e2 := Nat.pow_le_pow_right (n := 65536) (by omega) (show K ≤ X by omega)
    rw [Nat.pow_succ]
    omega)
  replace h1 := Lib.hid h1
  replace h2 := Lib.hid h2
  clear g1 ha hb hNs hMs hX l1 l2
  go_wp2_with fail
  go_loopg [7, 8, 9] (X + 1) (fun gk out cr i wr => ∃ j : Nat, gk + j = X + 1 ∧ i = .int .i64 j ∧ cr = .int .u64 (carry 65536 N M j : Nat) ∧ wr.ownsRow w2.heap.size 75 1 out j (dvals 65536 .u64 (N + M) j) ∧ Grew w2 wr)
  case atStart => exact ⟨0, rfl, rfl, by rw [carry_zero]; rfl, World.ownsRow_nil _ _ _ _, Grew.refl _⟩
  case round =>
    obtain ⟨j, hj, rfl, rfl, hown, hG⟩ := hrel
    by_cases hlt : j < X + 1
    · have A1 := Lib.hid (rat_any (.slice A L ca) N L j wr (h1.out.grew hG) (by omega))
      have A2 := Lib.hid (rat_any (.slice C K cb) M K j wr (h2.out.grew hG) (by omega))
      have hx := dig_lt (B := 65536) (by omega) N j
      have hy := dig_lt (B := 65536) (by omega) M j
      have hc := carry_le (B := 65536) (by omega) N M j
      have hstep := Lib.hid (radd_step N M j _ _ _ rfl rfl rfl)
      have hsucc := Lib.hid (dvals_succ 65536 .u64 (N + M) j)
      have hsz1 := hG.size
      have q1 := Lib.hid hG
      have q2 := Lib.hid hown
      have hjx : (j : Int) < (X : Int) + 1 := by omega
      clear hG hown
      generalize dig 65536 N j = x at *
      generalize dig 65536 M j = y at *
      generalize carry 65536 N M j = c at *
      go_wp2_with (first | fail | (go_at_call_of 120 (Value.slice A L ca); refine A1.out.mono ?_; rintro e w' ⟨rfl, rfl⟩) | (go_at_call 120; refine A2.out.mono ?_; rintro e w' ⟨rfl, rfl⟩) | (at_builtin; refine wpList_app1 _ rfl (.tmp 34) (.tmp 37) 111 rfl w2.heap.size 75 (.int .u64 0) 1 8 Try.underlying111 info_u64 rfl (by omega) _ j _ rfl q2.out _ rfl (by simp [Value.oneCell']) rfl (by omega) (by omega) hsz1 ?_; intro v3 w3 hown1 hG1))
      go_roundg (gk - 1)
      case rel => exact ⟨j + 1, by omega, by go_num, by rw [hstep.out.2], by rw [hsucc.out, ← hstep.out.1]; exact hown1, hG1 _ (Nat.le_refl _) q1.out⟩
      case measure => omega
    · obtain rfl : j = X + 1 := by omega
      have hnum := Lib.hid (Num.of_own hown hNM.out)
      have hG' := Lib.hid (g2.out.trans hG)
      have hjx : ¬ ((X : Int) + 1 < (X : Int) + 1) := by omega
      obtain ⟨D, cd, rfl, -⟩ := id hnum.out
      clear hown hG
      go_wp2_with fail
      refine (rwords_any _ _ _ _ hnum.out (by omega)).mono ?_
      rintro e w4 ⟨v4, rfl, h4, g4⟩
      replace h4 := Lib.hid h4
      replace g4 := Lib.hid (hG'.out.trans g4)
      go_wp2_with fail
      go_ret
      exact ⟨_, rfl, h4.out, g4.out⟩
end Go.Proofs.Ytpglnfccmhkocaa
