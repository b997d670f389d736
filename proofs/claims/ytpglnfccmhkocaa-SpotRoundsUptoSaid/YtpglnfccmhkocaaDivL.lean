/- nat.Div of two words and more. Condition: both read; fewer than 2^39 words. -/
import Derived.Test.YtpglnfccmhkocaaDiv
namespace Go.Proofs.Ytpglnfccmhkocaa
open Go.RowKit

theorem shift_back (va : Value) (N n s : Nat) (w : World) (ha : Num 4294967296 .u32 w va N n) (hs : s < 32) (hsz : len 4294967296 N < 1099511627776) :
    Calls Try.prog 76 #[va, .int .i64 (-(s : Int))] w fun e w' => ∃ v, e = .returned v ∧ Num 4294967296 .u32 w' v (N / 2 ^ s) (len 4294967296 (N / 2 ^ s)) ∧ Grew w w' := by
  rcases Nat.eq_zero_or_pos s with h | h
  · subst h
    have := shift_up va N n 0 w ha (by omega) hsz
    rw [Nat.pow_zero, Nat.mul_one] at this
    rw [Nat.pow_zero, Nat.div_one]
    exact this
  · exact shift_down va N n s w ha hs h hsz

theorem row_copy {w : World} {g t N l L : Nat} {K : IntKind} (h : w.heap[g]? = some (.cells (dvals 4294967296 K N l ++ (madeCells #[.int K 0] L).toList.drop (dvals 4294967296 K N l).length).toArray t (0, 0))) (hl : l ≤ L) (hN : N < 4294967296 ^ l) : Row w g t K (dig 4294967296 N) L := by
  unfold Row
  rw [h]
  congr 3
  refine List.ext_getElem? fun q => ?_
  rw [dvals_length, toList_madeCells_one]
  by_cases hq : q < l
  · rw [List.getElem?_append_left (by rw [dvals_length]; exact hq), dvals, List.getElem?_map, digs_get? N l q hq, List.getElem?_map, List.getElem?_range (by omega)]
    rfl
  · rw [List.getElem?_append_right (by rw [dvals_length]; omega), dvals_length, List.getElem?_drop, List.getElem?_replicate]
    by_cases hL : q < L
    · rw [if_pos (by omega), List.getElem?_map, List.getElem?_range hL]
      simp [dig_zero_of_lt (show 0 < 4294967296 by omega) hN (show l ≤ q by omega)]
    · rw [if_neg (by omega), List.getElem?_eq_none (by simp; omega)]

theorem dvals_src {w : World} {N l b o : Nat} {K : IntKind} (hc : ∀ i, i < l → w.cell? ⟨b, o + i, none⟩ = some (.int K (dig 4294967296 N i : Nat))) (j : Nat) (v : Value) (hj : (dvals 4294967296 K N l)[j]? = some v) : w.cell? ((⟨b, o, none⟩ : Addr).add j) = some v := by
  have hjk : j < l := by
    rcases Nat.lt_or_ge j l with h | h
    · exact h
    · rw [List.getElem?_eq_none (by rw [dvals_length]; exact h)] at hj; cases hj
  rw [dvals, List.getElem?_map, digs_get? N l j hjk] at hj
  rw [add_none, hc j hjk]
  exact hj
theorem dvals_one (N l : Nat) (K : IntKind) : ∀ v ∈ dvals 4294967296 K N l, v.oneCell' = true := by
  intro v hv
  rw [dvals, List.mem_map] at hv
  obtain ⟨x, _, rfl⟩ := hv
  rfl

theorem out_set {w : World} {g t i L y : Nat} {K : IntKind} {Z : Nat} (h : Row w g t K (fun p => if p < i + 1 then 0 else dig 4294967296 Z p) L) (hy : y = dig 4294967296 Z i) :
    Row (w.setCell ⟨g, i, none⟩ (.int K (y : Nat))) g t K (fun p => if p < i then 0 else dig 4294967296 Z p) L := by
  refine (h.set i y).congr fun p _ => ?_
  by_cases e : p = i
  · subst e; simp [hy]
  · simp only [if_neg e]
    by_cases hpi : p < i
    · rw [if_pos hpi, if_pos (by omega)]
    · rw [if_neg hpi, if_neg (by omega)]

theorem rest_set {w : World} {g t AA V X U i m L : Nat} {K : IntKind} (h : Row w g t K (part (dig 4294967296 X) (U + 4294967296 ^ (m + 1) - U / V * V) i (m + 1)) L) (hU : X / 4294967296 ^ i = U)
    (hV : V < 4294967296 ^ m) (hXlt : X < V * 4294967296 ^ (i + 1)) (h3 : AA % (V * 4294967296 ^ i) = (U % V) * 4294967296 ^ i + X % 4294967296 ^ i) :
    Row w g t K (dig 4294967296 (AA % (V * 4294967296 ^ i))) L := by
  refine h.congr fun p hp => ?_
  rw [h3, ← hU]
  refine div_row hp hV (fun _ _ => rfl) hXlt fun p hp => ?_
  rw [hU]
  exact left_dig hp

set_option maxRecDepth 100000 in
set_option maxHeartbeats 4000000 in
theorem div_long (va vb : Value) (N M n0 m0 n : Nat) (w : World) (ha : Num 4294967296 .u32 w va N n0) (hb : Num 4294967296 .u32 w vb M m0) (hle : M ≤ N) (h2 : len 4294967296 M = n + 2) (hsz : len 4294967296 N < 549755813888) :
    Calls Try.prog 115 #[va, vb] w fun e w' => ∃ q r, e = .returned (.tuple #[q, r, .bool true]) ∧ Num 4294967296 .u32 w' q (N / M) (len 4294967296 (N / M)) ∧ Num 4294967296 .u32 w' r (N % M) (len 4294967296 (N % M)) ∧ Grew w w' := by
  have hm := hb.len_le (by omega)
  have hNs := lt_len (B := 4294967296) (by omega) N
  have hkl := len_mono (B := 4294967296) (by omega) hle
  rw [h2] at hm hkl
  obtain ⟨s, hs⟩ : ∃ s, s = 32 - Lib.bitLen (dig 4294967296 M (n + 1)) := ⟨_, rfl⟩
  obtain ⟨s32, hbl32, hV, htV⟩ := norm_ok h2 hs
  have htl := dig_lt (B := 4294967296) (by omega) M (n + 1)
  obtain ⟨C, cb, rfl, b1, b2, b3, b4⟩ := id hb
  obtain ⟨bb, ob, rfl, hcb⟩ := b4 (by omega)
  have hc0 : w.cell? ⟨bb, ob + (n + 1), none⟩ = _ := hcb (n + 1) (by omega)
  have hcge := cmp_ge hle
  generalize hk : len 4294967296 N = k at *
  obtain ⟨d, rfl⟩ : ∃ d, k = n + 2 + d := ⟨k - (n + 2), by omega⟩
  have hstart := Lib.hid (div_start hNs s32 hV htV)
  have hmk1 := make_u32 (n + 2 + d + 1) (n + 2 + d + 1) (by omega) (by omega)
  have hmk2 := make_u32 (d + 1) (d + 1) (by omega) (by omega)
  rw [show ((n + 2 + d + 1 : Nat) : Int) = (n : Int) + 2 + d + 1 from by omega] at hmk1
  rw [mk1] at hmk2
  have HK := Lib.hid hk
  have H2 := Lib.hid h2
  have HS := Lib.hid hs
  have HV := Lib.hid hV
  have HtV := Lib.hid htV
  have HNs := Lib.hid hNs
  have Hle := Lib.hid hle
  have z1 : (n : Int) + 2 - 1 = (n : Int) + 1 := by omega
  have q1 : (n : Int) + 1 < (m0 : Int) := by omega
  clear hk h2 hs hV htV hNs hle b3 b4 hcb
  generalize hcm : cmpN N M = cm at *
  have Hcm := Lib.hid hcm
  clear hcm
  generalize hdt : dig 4294967296 M (n + 1) = t at *
  generalize hbl : Lib.bitLen t = bl at *
  have Hbl := Lib.hid hbl
  have Hdt := Lib.hid hdt
  clear hbl hdt
  go_enter Try.func115, Try.ntmps115
  go_wp2_with fail
  refine (size_any _ _ _ _ ha).mono ?_
  rintro e w' ⟨rfl, rfl⟩
  rw [HK.out]
  go_wp2_with fail
  refine (size_any _ _ _ _ hb).mono ?_
  rintro e w' ⟨rfl, rfl⟩
  rw [H2.out]
  go_wp2_with fail
  refine (cmp_any _ _ _ _ _ _ _ ha hb).mono ?_
  rintro e w1 ⟨rfl, hG1⟩
  rw [Hcm.out]
  have hc1 := hG1.cell hc0
  go_wp2_with fail
  refine (Try.bits_LeadingZeros32 _ _ (by omega) (by omega)).mono ?_
  rintro e w' ⟨rfl, rfl⟩
  rw [Int.toNat_natCast, Hbl.out, show (32 - (bl : Int)) = (s : Int) from by rw [HS.out]; omega]
  go_wp2_with fail
  refine (shift_up _ _ _ _ _ (hb.grew hG1) s32 (by rw [H2.out]; omega)).mono ?_
  rintro e w2 ⟨vy, rfl, hy, hG2⟩
  go_wp2_with fail
  have hA0 : N * 2 ^ s < 4294967296 ^ (n + 2 + d + 1) := by
    have e1 : 2 ^ s < 4294967296 := Nat.lt_of_le_of_lt (Nat.pow_le_pow_right (n := 2) (j := 31) (by omega) (by omega)) (by omega)
    rw [Nat.pow_succ]; exact Nat.mul_lt_mul'' HNs.out e1
  have hAl := len_le (B := 4294967296) (by omega) hA0
  have hApos : 0 < len 4294967296 (N * 2 ^ s) := by
    rcases Nat.eq_zero_or_pos (len 4294967296 (N * 2 ^ s)) with h | h
    · exfalso
      have e1 := (len_eq_zero (B := 4294967296) (by omega)).1 h
      have e2 := Nat.two_pow_pos s
      rcases Nat.mul_eq_zero.1 e1 with e3 | e3
      · rw [e3] at HK
        have := HK.out
        rw [len_zero] at this
        omega
      · omega
    · exact h
  have hAN := lt_len (B := 4294967296) (by omega) (N * 2 ^ s)
  have HA0 := Lib.hid hA0
  have HAN := Lib.hid hAN
  clear hA0 hAN
  refine (shift_up _ _ _ _ _ (ha.grew ((hG1.trans hG2).alloc _)) s32 (by rw [HK.out]; omega)).mono ?_
  rintro e w3 ⟨vx, rfl, hxx, hG3⟩
  obtain ⟨X, cx, rfl, x1, x2, x3, x4⟩ := id hxx
  obtain ⟨bx, ox, rfl, hcx⟩ := x4 hApos
  have Hcx := Lib.hid hcx
  clear x3 x4 hcx
  have hg3 : w3.heap[w2.heap.size]? = some (.cells (madeCells #[.int .u32 0] (n + 2 + d + 1)) 80 (0, 0)) := (hG3.below.block _ (by simp)).trans (heap_alloc_new w2 _)
  have Hg3 := Lib.hid hg3
  clear hg3
  generalize hla : len 4294967296 (N * 2 ^ s) = la at *
  have Hla := Lib.hid hla
  clear hla
  go_wp2_with (first | fail | (refine wpList_copy1 _ rfl (.tmp 59) (.tmp 62) 22 22 rfl 80 Try.underlying22 size_u32 w2.heap.size (n + 2 + d + 1) (n + 2 + d + 1) ⟨bx, ox, none⟩ la cx rfl rfl _ 80 Hg3.out (dvals 4294967296 .u32 (N * 2 ^ s) la) ?_ ?_ ?_ ?_ ?_))
  · rw [dvals_length]; exact (Nat.min_eq_left hAl).symm
  · exact dvals_src Hcx.out
  · rw [dvals_length, size_madeCells]; exact hAl
  · exact dvals_one _ _ _
  · intro w4 hg4 hG4
    have hrow := row_copy hg4 hAl HAN.out
    have hGa : Grew w w4 := hG4 _ (hG1.trans hG2).size (((hG1.trans hG2).alloc _).trans hG3)
    have hGy : Grew w2 w4 := hG4 _ (Nat.le_refl _) (((Grew.refl w2).alloc _).trans hG3)
    have Hrow := Lib.hid hrow
    clear hg4 hrow hG4
    have hyl : len 4294967296 (M * 2 ^ s) = n + 2 := by
      have e1 := len_le (B := 4294967296) (by omega) HV.out
      rcases Nat.lt_or_ge (len 4294967296 (M * 2 ^ s)) (n + 2) with h | h
      · have e2 := lt_pow_of_len (B := 4294967296) (k := n + 1) (by omega) (show len 4294967296 (M * 2 ^ s) ≤ n + 1 by omega)
        have e3 := HtV.out
        rw [dig_zero_of_lt (by omega) e2 (Nat.le_refl _)] at e3
        omega
      · omega
    rw [hyl] at hy
    obtain ⟨Y, cy, rfl, y1, y2, y3, y4⟩ := id hy
    obtain ⟨yb, yo, rfl, hcy⟩ := y4 (by omega)
    have hyb : yb < w2.heap.size := World.block_lt_of_cell? w2 ⟨yb, yo + 0, none⟩ (hcy 0 (by omega))
    have Hcy := Lib.hid hcy
    clear hyl hy y3 y4 hcy
    have z3 : (n : Int) + 2 + d - ((n : Int) + 2) = d := by omega
    have hVA : N * 2 ^ s / (M * 2 ^ s) = N / M := Nat.mul_div_mul_right _ _ (Nat.two_pow_pos s)
    have hVM : N * 2 ^ s % (M * 2 ^ s) = N % M * 2 ^ s := Nat.mul_mod_mul_right _ _ _
    have HVA := Lib.hid hVA
    have HVM := Lib.hid hVM
    clear hVA hVM
    generalize hAA : N * 2 ^ s = AA at *
    generalize hVV : M * 2 ^ s = V at *
    have HAA := Lib.hid hAA
    have HVV := Lib.hid hVV
    clear hAA hVV
    go_wp2_with fail
    go_loopg [15] (d + 1) (fun gk i wr => gk ≤ d + 1 ∧ i = .int .i64 ((gk : Int) - 1) ∧ Row wr w2.heap.size 80 .u32 (dig 4294967296 (AA % (V * 4294967296 ^ gk))) (n + 2 + d + 1) ∧ Row wr w4.heap.size 80 .u32 (fun p => if p < gk then 0 else dig 4294967296 (N / M) p) (d + 1) ∧ Grew w wr ∧ (∀ i, i < n + 2 → wr.cell? ⟨yb, yo + i, none⟩ = some (.int .u32 (dig 4294967296 V i : Nat))))
    case atStart =>
      refine ⟨Nat.le_refl _, by congr 1; omega, ?_, (Row.made w4 _ _ _).congr (fun p hp => by rw [if_pos hp]), hGa.alloc _, fun i hi => ?_⟩
      · rw [Nat.mod_eq_of_lt hstart.out]; exact Hrow.out.alloc _
      · exact (hGy.alloc _).cell (Hcy.out i hi)
    case round =>
      obtain ⟨hgk, rfl, hR, hO, hG, hY⟩ := hrel
      have hg24 : w2.heap.size < w4.heap.size := Hrow.out.lt
      rcases gk with _ | i
      · as_aux_lemma =>
        have hV0 : 0 < V := by
          rcases Nat.eq_zero_or_pos V with h | h
          · have e := HtV.out
            rw [h] at e
            simp [dig] at e
          · exact h
        have e1 : AA % (V * 4294967296 ^ 0) = N % M * 2 ^ s := by rw [Nat.pow_zero, Nat.mul_one]; exact HVM.out
        have e2 : N % M * 2 ^ s < V := by rw [← HVM.out]; exact Nat.mod_lt _ hV0
        have e3 : N % M * 2 ^ s < 4294967296 ^ (n + 2 + d + 1) := Nat.lt_of_lt_of_le (Nat.lt_trans e2 HV.out) (Nat.pow_le_pow_right (by omega) (by omega))
        have e4 : N / M < 4294967296 ^ (d + 1) := by
          rw [← HVA.out, Nat.div_lt_iff_lt_mul hV0, Nat.mul_comm]; exact hstart.out
        rw [e1] at hR
        have hnO : Num 4294967296 .u32 wr (.slice (some ⟨w4.heap.size, 0, none⟩) (d + 1) (d + 1)) (N / M) (d + 1) :=
          (hO.congr (fun p _ => by simp)).num (Nat.le_refl _) (Nat.le_refl _) (by omega) e4 (fun _ _ => rfl)
        have hnR : Num 4294967296 .u32 wr (.slice (some ⟨w2.heap.size, 0, none⟩) (n + 2 + d + 1) (n + 2 + d + 1)) (N % M * 2 ^ s) (n + 2 + d + 1) :=
          hR.num (Nat.le_refl _) (Nat.le_refl _) (by omega) e3 (fun _ _ => rfl)
        have hzl := len_le (B := 4294967296) (by omega) e4
        have hcutO := hnO.cut (k := len 4294967296 (N / M)) hzl (lt_len (by omega) _)
        have hrl := len_le (B := 4294967296) (by omega) e3
        have hback : N % M * 2 ^ s / 2 ^ s = N % M := Nat.mul_div_cancel _ (Nat.two_pow_pos s)
        have HnO := Lib.hid hnO
        have HnR := Lib.hid hnR
        have HcutO := Lib.hid hcutO
        have Hback := Lib.hid hback
        have hrl' : len 4294967296 (N % M * 2 ^ s) < 1099511627776 := by omega
        have Hrl := Lib.hid hrl'
        clear hnO hnR hcutO hback hrl hrl' e1 e2 e3 e4 hR hO hY
        generalize hz : len 4294967296 (N / M) = z at *
        have Hz := Lib.hid hz
        clear hz
        have q7 : (z : Int) ≤ (d : Int) + 1 := by omega
        have hw1 : IntKind.i64.wrap (-(s : Int)) = -(s : Int) := IntWalk.i64_in _ (by omega)
        go_wp2_with fail
        go_region_with ((first | (go_at_call 87; refine (size_any _ _ _ _ (HnO.out.grew (Grew.refl _).drew)).mono ?_; rintro e w5 ⟨rfl, rfl⟩; rw [Hz.out]) | (go_at_call 76; refine (shift_back _ _ _ s _ (HnR.out.grew (Grew.refl _).drew) s32 Hrl.out).mono ?_; rintro e w5 ⟨v, rfl, h1, h2⟩)))
        rw [Hback.out] at h1
        have H1 := Lib.hid h1
        clear h1
        go_wp2_with fail
        go_ret3
        exact ⟨_, _, rfl, by rw [Hz.out]; exact (HcutO.out.grew (Grew.refl wr).drew).grew h2, H1.out, hG.drew.trans h2⟩
      · have q3 : ((i + 1 : Nat) : Int) - 1 = (i : Int) := by omega
        rw [q3]
        have y1' := hY (n + 1) (by omega)
        have y2' := hY n (by omega)
        have HY := Lib.hid hY
        have HR := Lib.hid hR
        have HO := Lib.hid hO
        have hu1 := dig_lt (B := 4294967296) (by omega) V (n + 1)
        have hu2 := dig_lt (B := 4294967296) (by omega) V n
        clear hY hR hO
        have z5 : (n : Int) + 2 - 2 = n := by omega
        have hV0 : 0 < V := by
          rcases Nat.eq_zero_or_pos V with h | h
          · have e := HtV.out
            rw [h] at e
            simp [dig] at e
          · exact h
        obtain ⟨f1, f2, f3⟩ := div_facts (A := AA) (i := i) hV0
        have hXlt : AA % (V * 4294967296 ^ (i + 1)) < V * 4294967296 ^ (i + 1) := Nat.mod_lt _ (Nat.mul_pos hV0 (pow_pos' (by omega) _))
        generalize hX : AA % (V * 4294967296 ^ (i + 1)) = X at *
        have HX := Lib.hid hX
        generalize hU : X / 4294967296 ^ i = U at *
        have HU := Lib.hid hU
        have hdU : ∀ p, dig 4294967296 U p = dig 4294967296 X (i + p) := fun p => by rw [← hU]; exact dig_div X i p
        have hU3 : U < 4294967296 ^ (n + 3) := by
          rw [Nat.pow_succ]; exact Nat.lt_of_lt_of_le f1 (Nat.mul_le_mul_right _ (Nat.le_of_lt HV.out))
        have hpart : Num 4294967296 .u32 wr (.slice (some ⟨w2.heap.size, i, none⟩) (n + 3) (n + 2 + d + 1 - i)) U (n + 3) :=
          ⟨_, _, rfl, by omega, by omega, hU3, fun _ => ⟨_, _, rfl, fun p hp => by rw [HR.out.cell (by omega), hdU p]⟩⟩
        have HP := Lib.hid hpart
        have F1 := Lib.hid f1
        have F2 := Lib.hid f2
        have F3 := Lib.hid f3
        have HdU := Lib.hid hdU
        have HU3 := Lib.hid hU3
        have HXlt := Lib.hid hXlt
        clear hX hU hdU hU3 hpart f1 f2 f3 hXlt
        go_wp2_with fail
        rw [show i + (n + 2) + 1 - i = n + 3 from by omega]
        have p1 : (n : Int) + 1 < (n : Int) + 2 := by omega
        have p2 : (n : Int) < (n : Int) + 2 := by omega
        have p3 : (0 : Int) ≤ (n : Int) + 1 := by omega
        have p4 : (0 : Int) ≤ (n : Int) := by omega
        have hw1 : IntKind.i64.wrap ((n : Int) + 1) = (n : Int) + 1 := IntWalk.i64_in _ (by omega)
        have hw2 : IntKind.i64.wrap (n : Int) = (n : Int) := IntWalk.i64_in _ (by omega)
        go_region_held3 (fun w' => w'.cell? ⟨yb, yo + (n + 1), none⟩ = some (.int .u32 (dig 4294967296 V (n + 1) : Nat)) ∧ w'.cell? ⟨yb, yo + n, none⟩ = some (.int .u32 (dig 4294967296 V n : Nat))) (first | exact ⟨y1', y2'⟩ | exact ⟨hG5.cell y1', hG5.cell y2'⟩) (first | (go_at_call 130; refine (guess_any _ U V n _ (HP.out.grew (Grew.refl _).drew) HV.out F1.out HtV.out).mono ?_; rintro e w5 ⟨q, rfl, g1, g2, g3, hG5⟩))
        have hRd := HR.out.drew.grew hG5
        have hOd := HO.out.drew.grew hG5
        have hGd := hG.drew.trans hG5
        have hYd : ∀ p, p < n + 2 → w5.cell? ⟨yb, yo + p, none⟩ = some (.int .u32 (dig 4294967296 V p : Nat)) := fun p hp => hG5.cell (HY.out p hp)
        have HRd := Lib.hid hRd
        have HOd := Lib.hid hOd
        have HYd := Lib.hid hYd
        clear hRd hOd hYd hw1 hw2
        have hyne : yb ≠ w2.heap.size := by omega
        have hyne4 : yb ≠ w4.heap.size := by omega
        have hq32 : (q : Int) % 4294967296 = q := by omega
        have hQd := Nat.div_add_mod U V
        have hQm := Nat.mod_lt U hV0
        go_wp2_with fail
        refine (take_any w2.heap.size i (n + 2) (n + 2 + d + 1 - i) yb yo cy U V q (n + 2 + d + 1) (dig 4294967296 X) w5 HRd.out (by omega) (by omega) (by omega) y1 (fun p _ => (HdU.out p).symm) HYd.out hyne HV.out HU3.out g3).mono ?_
        rintro e w6 ⟨rfl, hR6, hW6⟩
        rcases Nat.lt_or_ge (U / V) q with hqq | hqq
        · as_aux_lemma =>
          obtain rfl : q = U / V + 1 := by omega
          have hd1 : decide ((U / V + 1) * V ≤ U) = false := decide_eq_false (by rw [Nat.add_mul, Nat.one_mul, Nat.mul_comm]; omega)
          rw [hd1]
          have hVB : V < 4294967296 ^ (n + 2 + 1) := Nat.lt_of_lt_of_le HV.out (Nat.pow_le_pow_right (by omega) (by omega))
          have hback := left_back (U := U) (V := V) (m := n + 2) hVB
          have HR6 := Lib.hid hR6
          have Hback := Lib.hid hback
          clear hR6 hd1 hVB hback hQd hQm g1 g2 hqq
          generalize hqv : U / V = qq at *
          have Hqv := Lib.hid hqv
          have q8 : ((qq + 1 : Nat) : Int) - 1 = (qq : Int) := by omega
          have q9 : (qq : Int) % 4294967296 = qq := by omega
          have q10 : (qq : Int) + 1 - 1 = (qq : Int) := by omega
          clear hqv
          go_wp2_with fail
          refine (give_any w2.heap.size i (n + 2) (n + 2 + d + 1 - i) yb yo cy (U + 4294967296 ^ (n + 2 + 1) - (qq + 1) * V) V (n + 2 + d + 1) _ w6 HR6.out (by omega) (by omega) (by omega) y1 (fun p hp => part_in _ _ _ _ _ (by omega)) (fun p hp => hW6.cell (HYd.out p hp) hyne) hyne HV.out).mono ?_
          rintro e w7 ⟨rfl, hR7, hW7⟩
          rw [Hback.out] at hR7
          have hW := hW6.trans hW7
          have hO6 := hW.row HOd.out (by omega)
          have ho1 := hO6.cell (p := i) (by omega)
          have ho2 := hO6.frozen i
          have HR7 := Lib.hid (hR7.congr fun p _ => part_part _ _ _ _ _ _)
          have HO6 := Lib.hid hO6
          clear hR7 hO6
          have q7 : (i : Int) < (d : Int) + 1 := by omega
          go_wp2_with fail
          go_roundg i
          case rel =>
            refine ⟨by omega, rfl, ?_, out_set HO6.out (by rw [F2.out, HVA.out]), (hGd.wrote hW (hG1.trans hG2).size).setCell (by have := hGa.size; omega) _, fun p hp => ?_⟩
            · refine Row.far ?_ (by show w2.heap.size ≠ w4.heap.size; omega) _
              have h1 := HR7.out
              rw [← Hqv.out] at h1
              exact rest_set h1 HU.out HV.out HXlt.out F3.out
            · rw [World.cell?_setCell_other _ _ _ _ (by intro e; have := congrArg Addr.block e; simp at this; omega)]
              exact hW.cell (HYd.out p hp) hyne
          case measure => omega
        · as_aux_lemma =>
          obtain rfl : q = U / V := by omega
          have hd1 : decide (U / V * V ≤ U) = true := decide_eq_true (Nat.div_mul_le_self _ _)
          rw [hd1]
          have hO6 := hW6.row HOd.out (by omega)
          have ho1 := hO6.cell (p := i) (by omega)
          have ho2 := hO6.frozen i
          have HR6 := Lib.hid hR6
          have HO6 := Lib.hid hO6
          clear hR6 hO6 hd1 hQd hQm g1 g2 hqq
          have q7 : (i : Int) < (d : Int) + 1 := by omega
          generalize hqv : U / V = q at *
          have Hqv := Lib.hid hqv
          clear hqv
          go_wp2_with fail
          go_roundg i
          case rel =>
            refine ⟨by omega, rfl, ?_, out_set HO6.out (by rw [F2.out, HVA.out]), (hGd.wrote hW6 (hG1.trans hG2).size).setCell (by have := hGa.size; omega) _, fun p hp => ?_⟩
            · refine Row.far ?_ (by show w2.heap.size ≠ w4.heap.size; omega) _
              have h1 := HR6.out
              rw [← Hqv.out] at h1
              exact rest_set h1 HU.out HV.out HXlt.out F3.out
            · rw [World.cell?_setCell_other _ _ _ _ (by intro e; have := congrArg Addr.block e; simp at this; omega)]
              exact hW6.cell (HYd.out p hp) hyne
          case measure => omega

theorem div_any (va vb : Value) (N M n m : Nat) (w : World) (ha : Num 4294967296 .u32 w va N n) (hb : Num 4294967296 .u32 w vb M m) (h0 : M ≠ 0) (hsz : len 4294967296 N < 549755813888) :
    Calls Try.prog 115 #[va, vb] w fun e w' => ∃ q r, e = .returned (.tuple #[q, r, .bool true]) ∧ Num 4294967296 .u32 w' q (N / M) (len 4294967296 (N / M)) ∧ Num 4294967296 .u32 w' r (N % M) (len 4294967296 (N % M)) ∧ Grew w w' := by
  rcases Nat.lt_or_ge N M with h | h
  · exact div_less va vb N M n m w ha hb h (by omega)
  · have hl : len 4294967296 M ≠ 0 := fun e => h0 ((len_eq_zero (by omega)).1 e)
    rcases hl1 : len 4294967296 M with _ | _ | k
    · exact absurd hl1 hl
    · exact div_one va vb N M n m w ha hb h hl1 (by omega)
    · exact div_long va vb N M n m k w ha hb h hl1 hsz
end Go.Proofs.Ytpglnfccmhkocaa
