/- nat.Div of two words and more. Condition: both read; fewer than 2^39 words. root.small, root.Gcd, root.Reduce: the greatest common factor. Condition: both read; fewer than 2^39 words. whole: numbers with a sign. Condition: what comes in reads; fewer than 2^39 words. whole.Sign and the like. Condition: what comes in reads; fewer than 2^39 words. -/
import Derived.Test.YtngbcbncllfblaaGreatJDiv
import Derived.Handy
namespace Go.Proofs.YtngbcbncllfblaaGreat
open Go.RowKit

theorem shift_back (va : Value) (N n s : Nat) (w : World) (ha : Num 4294967296 .u32 w va N n) (hs : s < 32) (hsz : len 4294967296 N < 1099511627776) :
    Calls Tryz.prog 261 #[va, .int .i64 (-(s : Int))] w fun e w' => ∃ v, e = .returned v ∧ Num 4294967296 .u32 w' v (N / 2 ^ s) (len 4294967296 (N / 2 ^ s)) ∧ Grew w w' := by
  rcases Nat.eq_zero_or_pos s with h | h
  · subst h
    have := shift_up va N n 0 w ha (by omega) hsz
    rw [Nat.pow_zero, Nat.mul_one] at this
    rw [Nat.pow_zero, Nat.div_one]
    exact this
  · exact shift_down va N n s w ha hs h hsz

theorem row_copy {w : World} {g t N l L : Nat} {K : IntKind} (h : w.heap[g]? = some (.cells (dvals 4294967296 K N l ++ (madeCells #[.int K 0] L).toList.drop (dvals 4294967296 K N l).length).toArray t (0, 0))) (hl : l ≤ L) (hN : N < 4294967296 ^ l) : Row w g t K (dig 4294967296 N) L := by
  unfold Row
  rw [h]
  congr 3
  refine List.ext_getElem? fun q => ?_
  rw [dvals_length, toList_madeCells_one]
  by_cases hq : q < l
  · rw [List.getElem?_append_left (by rw [dvals_length]; exact hq), dvals, List.getElem?_map, digs_get? N l q hq, List.getElem?_map, List.getElem?_range (by omega)]
    rfl
  · rw [List.getElem?_append_right (by rw [dvals_length]; omega), dvals_length, List.getElem?_drop, List.getElem?_replicate]
    by_cases hL : q < L
    · rw [if_pos (by omega), List.getElem?_map, List.getElem?_range hL]
      simp [dig_zero_of_lt (show 0 < 4294967296 by omega) hN (show l ≤ q by omega)]
    · rw [if_neg (by omega), List.getElem?_eq_none (by simp; omega)]

theorem dvals_src {w : World} {N l b o : Nat} {K : IntKind} (hc : ∀ i, i < l → w.cell? ⟨b, o + i, none⟩ = some (.int K (dig 4294967296 N i : Nat))) (j : Nat) (v : Value) (hj : (dvals 4294967296 K N l)[j]? = some v) : w.cell? ((⟨b, o, none⟩ : Addr).add j) = some v := by
  have hjk : j < l := by
    rcases Nat.lt_or_ge j l with h | h
    · exact h
    · rw [List.getElem?_eq_none (by rw [dvals_length]; exact h)] at hj; cases hj
  rw [dvals, List.getElem?_map, digs_get? N l j hjk] at hj
  rw [add_none, hc j hjk]
  exact hj
theorem dvals_one (N l : Nat) (K : IntKind) : ∀ v ∈ dvals 4294967296 K N l, v.oneCell' = true := by
  intro v hv
  rw [dvals, List.mem_map] at hv
  obtain ⟨x, _, rfl⟩ := hv
  rfl

theorem out_set {w : World} {g t i L y : Nat} {K : IntKind} {Z : Nat} (h : Row w g t K (fun p => if p < i + 1 then 0 else dig 4294967296 Z p) L) (hy : y = dig 4294967296 Z i) :
    Row (w.setCell ⟨g, i, none⟩ (.int K (y : Nat))) g t K (fun p => if p < i then 0 else dig 4294967296 Z p) L := by
  refine (h.set i y).congr fun p _ => ?_
  by_cases e : p = i
  · subst e; simp [hy]
  · simp only [if_neg e]
    by_cases hpi : p < i
    · rw [if_pos hpi, if_pos (by omega)]
    · rw [if_neg hpi, if_neg (by omega)]

theorem rest_set {w : World} {g t AA V X U i m L : Nat} {K : IntKind} (h : Row w g t K (part (dig 4294967296 X) (U + 4294967296 ^ (m + 1) - U / V * V) i (m + 1)) L) (hU : X / 4294967296 ^ i = U)
    (hV : V < 4294967296 ^ m) (hXlt : X < V * 4294967296 ^ (i + 1)) (h3 : AA % (V * 4294967296 ^ i) = (U % V) * 4294967296 ^ i + X % 4294967296 ^ i) :
    Row w g t K (dig 4294967296 (AA % (V * 4294967296 ^ i))) L := by
  refine h.congr fun p hp => ?_
  rw [h3, ← hU]
  refine div_row hp hV (fun _ _ => rfl) hXlt fun p hp => ?_
  rw [hU]
  exact left_dig hp

set_option maxRecDepth 100000 in
set_option maxHeartbeats 4000000 in
theorem div_long (va vb : Value) (N M n0 m0 n : Nat) (w : World) (ha : Num 4294967296 .u32 w va N n0) (hb : Num 4294967296 .u32 w vb M m0) (hle : M ≤ N) (h2 : len 4294967296 M = n + 2) (hsz : len 4294967296 N < 549755813888) :
    Calls Tryz.prog 283 #[va, vb] w fun e w' => ∃ q r, e = .returned (.tuple #[q, r, .bool true]) ∧ Num 4294967296 .u32 w' q (N / M) (len 4294967296 (N / M)) ∧ Num 4294967296 .u32 w' r (N % M) (len 4294967296 (N % M)) ∧ Grew w w' := by
  have hm := hb.len_le (by omega)
  have hNs := lt_len (B := 4294967296) (by omega) N
  have hkl := len_mono (B := 4294967296) (by omega) hle
  rw [h2] at hm hkl
  obtain ⟨s, hs⟩ : ∃ s, s = 32 - Lib.bitLen (dig 4294967296 M (n + 1)) := ⟨_, rfl⟩
  obtain ⟨s32, hbl32, hV, htV⟩ := norm_ok h2 hs
  have htl := dig_lt (B := 4294967296) (by omega) M (n + 1)
  obtain ⟨C, cb, rfl, b1, b2, b3, b4⟩ := id hb
  obtain ⟨bb, ob, rfl, hcb⟩ := b4 (by omega)
  have hc0 : w.cell? ⟨bb, ob + (n + 1), none⟩ = _ := hcb (n + 1) (by omega)
  have hcge := cmp_ge hle
  generalize hk : len 4294967296 N = k at *
  obtain ⟨d, rfl⟩ : ∃ d, k = n + 2 + d := ⟨k - (n + 2), by omega⟩
  have hstart := Lib.hid (div_start hNs s32 hV htV)
  have hmk1 := make_u32 (n + 2 + d + 1) (n + 2 + d + 1) (by omega) (by omega)
  have hmk2 := make_u32 (d + 1) (d + 1) (by omega) (by omega)
  rw [show ((n + 2 + d + 1 : Nat) : Int) = (n : Int) + 2 + d + 1 from by omega] at hmk1
  rw [mk1] at hmk2
  have HK := Lib.hid hk
  have H2 := Lib.hid h2
  have HS := Lib.hid hs
  have HV := Lib.hid hV
  have HtV := Lib.hid htV
  have HNs := Lib.hid hNs
  have Hle := Lib.hid hle
  have z1 : (n : Int) + 2 - 1 = (n : Int) + 1 := by omega
  have q1 : (n : Int) + 1 < (m0 : Int) := by omega
  clear hk h2 hs hV htV hNs hle b3 b4 hcb
  generalize hcm : cmpN N M = cm at *
  have Hcm := Lib.hid hcm
  clear hcm
  generalize hdt : dig 4294967296 M (n + 1) = t at *
  generalize hbl : Lib.bitLen t = bl at *
  have Hbl := Lib.hid hbl
  have Hdt := Lib.hid hdt
  clear hbl hdt
  go_enter Tryz.func283, Tryz.ntmps283
  go_wp2_with fail
  refine (size_any _ _ _ _ ha).mono ?_
  rintro e w' ⟨rfl, rfl⟩
  rw [HK.out]
  go_wp2_with fail
  refine (size_any _ _ _ _ hb).mono ?_
  rintro e w' ⟨rfl, rfl⟩
  rw [H2.out]
  go_wp2_with fail
  refine (cmp_any _ _ _ _ _ _ _ ha hb).mono ?_
  rintro e w1 ⟨rfl, hG1⟩
  rw [Hcm.out]
  have hc1 := hG1.cell hc0
  go_wp2_with fail
  refine (Tryz.bits_LeadingZeros32 _ _ (by omega) (by omega)).mono ?_
  rintro e w' ⟨rfl, rfl⟩
  rw [Int.toNat_natCast, Hbl.out, show (32 - (bl : Int)) = (s : Int) from by rw [HS.out]; omega]
  go_wp2_with fail
  refine (shift_up _ _ _ _ _ (hb.grew hG1) s32 (by rw [H2.out]; omega)).mono ?_
  rintro e w2 ⟨vy, rfl, hy, hG2⟩
  go_wp2_with fail
  have hA0 : N * 2 ^ s < 4294967296 ^ (n + 2 + d + 1) := by
    have e1 : 2 ^ s < 4294967296 := Nat.lt_of_le_of_lt (Nat.pow_le_pow_right (n := 2) (j := 31) (by omega) (by omega)) (by omega)
    rw [Nat.pow_succ]; exact Nat.mul_lt_mul'' HNs.out e1
  have hAl := len_le (B := 4294967296) (by omega) hA0
  have hApos : 0 < len 4294967296 (N * 2 ^ s) := by
    rcases Nat.eq_zero_or_pos (len 4294967296 (N * 2 ^ s)) with h | h
    · exfalso
      have e1 := (len_eq_zero (B := 4294967296) (by omega)).1 h
      have e2 := Nat.two_pow_pos s
      rcases Nat.mul_eq_zero.1 e1 with e3 | e3
      · rw [e3] at HK
        have := HK.out
        rw [len_zero] at this
        omega
      · omega
    · exact h
  have hAN := lt_len (B := 4294967296) (by omega) (N * 2 ^ s)
  have HA0 := Lib.hid hA0
  have HAN := Lib.hid hAN
  clear hA0 hAN
  refine (shift_up _ _ _ _ _ (ha.grew ((hG1.trans hG2).alloc _)) s32 (by rw [HK.out]; omega)).mono ?_
  rintro e w3 ⟨vx, rfl, hxx, hG3⟩
  obtain ⟨X, cx, rfl, x1, x2, x3, x4⟩ := id hxx
  obtain ⟨bx, ox, rfl, hcx⟩ := x4 hApos
  have Hcx := Lib.hid hcx
  clear x3 x4 hcx
  have hg3 : w3.heap[w2.heap.size]? = some (.cells (madeCells #[.int .u32 0] (n + 2 + d + 1)) 163 (0, 0)) := (hG3.below.block _ (by simp)).trans (heap_alloc_new w2 _)
  have Hg3 := Lib.hid hg3
  clear hg3
  generalize hla : len 4294967296 (N * 2 ^ s) = la at *
  have Hla := Lib.hid hla
  clear hla
  go_wp2_with (first | fail | (refine wpList_copy1 _ rfl (.tmp 59) (.tmp 62) 46 46 rfl 163 Tryz.underlying46 size_u32 w2.heap.size (n + 2 + d + 1) (n + 2 + d + 1) ⟨bx, ox, none⟩ la cx rfl rfl _ 163 Hg3.out (dvals 4294967296 .u32 (N * 2 ^ s) la) ?_ ?_ ?_ ?_ ?_))
  · rw [dvals_length]; exact (Nat.min_eq_left hAl).symm
  · exact dvals_src Hcx.out
  · rw [dvals_length, size_madeCells]; exact hAl
  · exact dvals_one _ _ _
  · intro w4 hg4 hG4
    have hrow := row_copy hg4 hAl HAN.out
    have hGa : Grew w w4 := hG4 _ (hG1.trans hG2).size (((hG1.trans hG2).alloc _).trans hG3)
    have hGy : Grew w2 w4 := hG4 _ (Nat.le_refl _) (((Grew.refl w2).alloc _).trans hG3)
    have Hrow := Lib.hid hrow
    clear hg4 hrow hG4
    have hyl : len 4294967296 (M * 2 ^ s) = n + 2 := by
      have e1 := len_le (B := 4294967296) (by omega) HV.out
      rcases Nat.lt_or_ge (len 4294967296 (M * 2 ^ s)) (n + 2) with h | h
      · have e2 := lt_pow_of_len (B := 4294967296) (k := n + 1) (by omega) (show len 4294967296 (M * 2 ^ s) ≤ n + 1 by omega)
        have e3 := HtV.out
        rw [dig_zero_of_lt (by omega) e2 (Nat.le_refl _)] at e3
        omega
      · omega
    rw [hyl] at hy
    obtain ⟨Y, cy, rfl, y1, y2, y3, y4⟩ := id hy
    obtain ⟨yb, yo, rfl, hcy⟩ := y4 (by omega)
    have hyb : yb < w2.heap.size := World.block_lt_of_cell? w2 ⟨yb, yo + 0, none⟩ (hcy 0 (by omega))
    have Hcy := Lib.hid hcy
    clear hyl hy y3 y4 hcy
    have z3 : (n : Int) + 2 + d - ((n : Int) + 2) = d := by omega
    have hVA : N * 2 ^ s / (M * 2 ^ s) = N / M := Nat.mul_div_mul_right _ _ (Nat.two_pow_pos s)
    have hVM : N * 2 ^ s % (M * 2 ^ s) = N % M * 2 ^ s := Nat.mul_mod_mul_right _ _ _
    have HVA := Lib.hid hVA
    have HVM := Lib.hid hVM
    clear hVA hVM
    generalize hAA : N * 2 ^ s = AA at *
    generalize hVV : M * 2 ^ s = V at *
    have HAA := Lib.hid hAA
    have HVV := Lib.hid hVV
    clear hAA hVV
    go_wp2_with fail
    go_loopg [15] (d + 1) (fun gk i wr => gk ≤ d + 1 ∧ i = .int .i64 ((gk : Int) - 1) ∧ Row wr w2.heap.size 163 .u32 (dig 4294967296 (AA % (V * 4294967296 ^ gk))) (n + 2 + d + 1) ∧ Row wr w4.heap.size 163 .u32 (fun p => if p < gk then 0 else dig 4294967296 (N / M) p) (d + 1) ∧ Grew w wr ∧ (∀ i, i < n + 2 → wr.cell? ⟨yb, yo + i, none⟩ = some (.int .u32 (dig 4294967296 V i : Nat))))
    case atStart =>
      refine ⟨Nat.le_refl _, by congr 1; omega, ?_, (Row.made w4 _ _ _).congr (fun p hp => by rw [if_pos hp]), hGa.alloc _, fun i hi => ?_⟩
      · rw [Nat.mod_eq_of_lt hstart.out]; exact Hrow.out.alloc _
      · exact (hGy.alloc _).cell (Hcy.out i hi)
    case round =>
      obtain ⟨hgk, rfl, hR, hO, hG, hY⟩ := hrel
      have hg24 : w2.heap.size < w4.heap.size := Hrow.out.lt
      rcases gk with _ | i
      · as_aux_lemma =>
        have hV0 : 0 < V := by
          rcases Nat.eq_zero_or_pos V with h | h
          · have e := HtV.out
            rw [h] at e
            simp [dig] at e
          · exact h
        have e1 : AA % (V * 4294967296 ^ 0) = N % M * 2 ^ s := by rw [Nat.pow_zero, Nat.mul_one]; exact HVM.out
        have e2 : N % M * 2 ^ s < V := by rw [← HVM.out]; exact Nat.mod_lt _ hV0
        have e3 : N % M * 2 ^ s < 4294967296 ^ (n + 2 + d + 1) := Nat.lt_of_lt_of_le (Nat.lt_trans e2 HV.out) (Nat.pow_le_pow_right (by omega) (by omega))
        have e4 : N / M < 4294967296 ^ (d + 1) := by
          rw [← HVA.out, Nat.div_lt_iff_lt_mul hV0, Nat.mul_comm]; exact hstart.out
        rw [e1] at hR
        have hnO : Num 4294967296 .u32 wr (.slice (some ⟨w4.heap.size, 0, none⟩) (d + 1) (d + 1)) (N / M) (d + 1) :=
          (hO.congr (fun p _ => by simp)).num (Nat.le_refl _) (Nat.le_refl _) (by omega) e4 (fun _ _ => rfl)
        have hnR : Num 4294967296 .u32 wr (.slice (some ⟨w2.heap.size, 0, none⟩) (n + 2 + d + 1) (n + 2 + d + 1)) (N % M * 2 ^ s) (n + 2 + d + 1) :=
          hR.num (Nat.le_refl _) (Nat.le_refl _) (by omega) e3 (fun _ _ => rfl)
        have hzl := len_le (B := 4294967296) (by omega) e4
        have hcutO := hnO.cut (k := len 4294967296 (N / M)) hzl (lt_len (by omega) _)
        have hrl := len_le (B := 4294967296) (by omega) e3
        have hback : N % M * 2 ^ s / 2 ^ s = N % M := Nat.mul_div_cancel _ (Nat.two_pow_pos s)
        have HnO := Lib.hid hnO
        have HnR := Lib.hid hnR
        have HcutO := Lib.hid hcutO
        have Hback := Lib.hid hback
        have hrl' : len 4294967296 (N % M * 2 ^ s) < 1099511627776 := by omega
        have Hrl := Lib.hid hrl'
        clear hnO hnR hcutO hback hrl hrl' e1 e2 e3 e4 hR hO hY
        generalize hz : len 4294967296 (N / M) = z at *
        have Hz := Lib.hid hz
        clear hz
        have q7 : (z : Int) ≤ (d : Int) + 1 := by omega
        have hw1 : IntKind.i64.wrap (-(s : Int)) = -(s : Int) := IntWalk.i64_in _ (by omega)
        go_wp2_with fail
        go_region_with ((first | (go_at_call 262; refine (size_any _ _ _ _ (HnO.out.grew (Grew.refl _).drew)).mono ?_; rintro e w5 ⟨rfl, rfl⟩; rw [Hz.out]) | (go_at_call 261; refine (shift_back _ _ _ s _ (HnR.out.grew (Grew.refl _).drew) s32 Hrl.out).mono ?_; rintro e w5 ⟨v, rfl, h1, h2⟩)))
        rw [Hback.out] at h1
        have H1 := Lib.hid h1
        clear h1
        go_wp2_with fail
        go_ret3
        exact ⟨_, _, rfl, by rw [Hz.out]; exact (HcutO.out.grew (Grew.refl wr).drew).grew h2, H1.out, hG.drew.trans h2⟩
      · have q3 : ((i + 1 : Nat) : Int) - 1 = (i : Int) := by omega
        rw [q3]
        have y1' := hY (n + 1) (by omega)
        have y2' := hY n (by omega)
        have HY := Lib.hid hY
        have HR := Lib.hid hR
        have HO := Lib.hid hO
        have hu1 := dig_lt (B := 4294967296) (by omega) V (n + 1)
        have hu2 := dig_lt (B := 4294967296) (by omega) V n
        clear hY hR hO
        have z5 : (n : Int) + 2 - 2 = n := by omega
        have hV0 : 0 < V := by
          rcases Nat.eq_zero_or_pos V with h | h
          · have e := HtV.out
            rw [h] at e
            simp [dig] at e
          · exact h
        obtain ⟨f1, f2, f3⟩ := div_facts (A := AA) (i := i) hV0
        have hXlt : AA % (V * 4294967296 ^ (i + 1)) < V * 4294967296 ^ (i + 1) := Nat.mod_lt _ (Nat.mul_pos hV0 (pow_pos' (by omega) _))
        generalize hX : AA % (V * 4294967296 ^ (i + 1)) = X at *
        have HX := Lib.hid hX
        generalize hU : X / 4294967296 ^ i = U at *
        have HU := Lib.hid hU
        have hdU : ∀ p, dig 4294967296 U p = dig 4294967296 X (i + p) := fun p => by rw [← hU]; exact dig_div X i p
        have hU3 : U < 4294967296 ^ (n + 3) := by
          rw [Nat.pow_succ]; exact Nat.lt_of_lt_of_le f1 (Nat.mul_le_mul_right _ (Nat.le_of_lt HV.out))
        have hpart : Num 4294967296 .u32 wr (.slice (some ⟨w2.heap.size, i, none⟩) (n + 3) (n + 2 + d + 1 - i)) U (n + 3) :=
          ⟨_, _, rfl, by omega, by omega, hU3, fun _ => ⟨_, _, rfl, fun p hp => by rw [HR.out.cell (by omega), hdU p]⟩⟩
        have HP := Lib.hid hpart
        have F1 := Lib.hid f1
        have F2 := Lib.hid f2
        have F3 := Lib.hid f3
        have HdU := Lib.hid hdU
        have HU3 := Lib.hid hU3
        have HXlt := Lib.hid hXlt
        clear hX hU hdU hU3 hpart f1 f2 f3 hXlt
        go_wp2_with fail
        rw [show i + (n + 2) + 1 - i = n + 3 from by omega]
        have p1 : (n : Int) + 1 < (n : Int) + 2 := by omega
        have p2 : (n : Int) < (n : Int) + 2 := by omega
        have p3 : (0 : Int) ≤ (n : Int) + 1 := by omega
        have p4 : (0 : Int) ≤ (n : Int) := by omega
        have hw1 : IntKind.i64.wrap ((n : Int) + 1) = (n : Int) + 1 := IntWalk.i64_in _ (by omega)
        have hw2 : IntKind.i64.wrap (n : Int) = (n : Int) := IntWalk.i64_in _ (by omega)
        go_region_held3 (fun w' => w'.cell? ⟨yb, yo + (n + 1), none⟩ = some (.int .u32 (dig 4294967296 V (n + 1) : Nat)) ∧ w'.cell? ⟨yb, yo + n, none⟩ = some (.int .u32 (dig 4294967296 V n : Nat))) (first | exact ⟨y1', y2'⟩ | exact ⟨hG5.cell y1', hG5.cell y2'⟩) (first | (go_at_call 323; refine (guess_any _ U V n _ (HP.out.grew (Grew.refl _).drew) HV.out F1.out HtV.out).mono ?_; rintro e w5 ⟨q, rfl, g1, g2, g3, hG5⟩))
        have hRd := HR.out.drew.grew hG5
        have hOd := HO.out.drew.grew hG5
        have hGd := hG.drew.trans hG5
        have hYd : ∀ p, p < n + 2 → w5.cell? ⟨yb, yo + p, none⟩ = some (.int .u32 (dig 4294967296 V p : Nat)) := fun p hp => hG5.cell (HY.out p hp)
        have HRd := Lib.hid hRd
        have HOd := Lib.hid hOd
        have HYd := Lib.hid hYd
        clear hRd hOd hYd hw1 hw2
        have hyne : yb ≠ w2.heap.size := by omega
        have hyne4 : yb ≠ w4.heap.size := by omega
        have hq32 : (q : Int) % 4294967296 = q := by omega
        have hQd := Nat.div_add_mod U V
        have hQm := Nat.mod_lt U hV0
        go_wp2_with fail
        refine (take_any w2.heap.size i (n + 2) (n + 2 + d + 1 - i) yb yo cy U V q (n + 2 + d + 1) (dig 4294967296 X) w5 HRd.out (by omega) (by omega) (by omega) y1 (fun p _ => (HdU.out p).symm) HYd.out hyne HV.out HU3.out g3).mono ?_
        rintro e w6 ⟨rfl, hR6, hW6⟩
        rcases Nat.lt_or_ge (U / V) q with hqq | hqq
        · as_aux_lemma =>
          obtain rfl : q = U / V + 1 := by omega
          have hd1 : decide ((U / V + 1) * V ≤ U) = false := decide_eq_false (by rw [Nat.add_mul, Nat.one_mul, Nat.mul_comm]; omega)
          rw [hd1]
          have hVB : V < 4294967296 ^ (n + 2 + 1) := Nat.lt_of_lt_of_le HV.out (Nat.pow_le_pow_right (by omega) (by omega))
          have hback := left_back (U := U) (V := V) (m := n + 2) hVB
          have HR6 := Lib.hid hR6
          have Hback := Lib.hid hback
          clear hR6 hd1 hVB hback hQd hQm g1 g2 hqq
          generalize hqv : U / V = qq at *
          have Hqv := Lib.hid hqv
          have q8 : ((qq + 1 : Nat) : Int) - 1 = (qq : Int) := by omega
          have q9 : (qq : Int) % 4294967296 = qq := by omega
          have q10 : (qq : Int) + 1 - 1 = (qq : Int) := by omega
          clear hqv
          go_wp2_with fail
          refine (give_any w2.heap.size i (n + 2) (n + 2 + d + 1 - i) yb yo cy (U + 4294967296 ^ (n + 2 + 1) - (qq + 1) * V) V (n + 2 + d + 1) _ w6 HR6.out (by omega) (by omega) (by omega) y1 (fun p hp => part_in _ _ _ _ _ (by omega)) (fun p hp => hW6.cell (HYd.out p hp) hyne) hyne HV.out).mono ?_
          rintro e w7 ⟨rfl, hR7, hW7⟩
          rw [Hback.out] at hR7
          have hW := hW6.trans hW7
          have hO6 := hW.row HOd.out (by omega)
          have ho1 := hO6.cell (p := i) (by omega)
          have ho2 := hO6.frozen i
          have HR7 := Lib.hid (hR7.congr fun p _ => part_part _ _ _ _ _ _)
          have HO6 := Lib.hid hO6
          clear hR7 hO6
          have q7 : (i : Int) < (d : Int) + 1 := by omega
          go_wp2_with fail
          go_roundg i
          case rel =>
            refine ⟨by omega, rfl, ?_, out_set HO6.out (by rw [F2.out, HVA.out]), (hGd.wrote hW (hG1.trans hG2).size).setCell (by have := hGa.size; omega) _, fun p hp => ?_⟩
            · refine Row.far ?_ (by show w2.heap.size ≠ w4.heap.size; omega) _
              have h1 := HR7.out
              rw [← Hqv.out] at h1
              exact rest_set h1 HU.out HV.out HXlt.out F3.out
            · rw [World.cell?_setCell_other _ _ _ _ (by intro e; have := congrArg Addr.block e; simp at this; omega)]
              exact hW.cell (HYd.out p hp) hyne
          case measure => omega
        · as_aux_lemma =>
          obtain rfl : q = U / V := by omega
          have hd1 : decide (U / V * V ≤ U) = true := decide_eq_true (Nat.div_mul_le_self _ _)
          rw [hd1]
          have hO6 := hW6.row HOd.out (by omega)
          have ho1 := hO6.cell (p := i) (by omega)
          have ho2 := hO6.frozen i
          have HR6 := Lib.hid hR6
          have HO6 := Lib.hid hO6
          clear hR6 hO6 hd1 hQd hQm g1 g2 hqq
          have q7 : (i : Int) < (d : Int) + 1 := by omega
          generalize hqv : U / V = q at *
          have Hqv := Lib.hid hqv
          clear hqv
          go_wp2_with fail
          go_roundg i
          case rel =>
            refine ⟨by omega, rfl, ?_, out_set HO6.out (by rw [F2.out, HVA.out]), (hGd.wrote hW6 (hG1.trans hG2).size).setCell (by have := hGa.size; omega) _, fun p hp => ?_⟩
            · refine Row.far ?_ (by show w2.heap.size ≠ w4.heap.size; omega) _
              have h1 := HR6.out
              rw [← Hqv.out] at h1
              exact rest_set h1 HU.out HV.out HXlt.out F3.out
            · rw [World.cell?_setCell_other _ _ _ _ (by intro e; have := congrArg Addr.block e; simp at this; omega)]
              exact hW6.cell (HYd.out p hp) hyne
          case measure => omega

theorem div_any (va vb : Value) (N M n m : Nat) (w : World) (ha : Num 4294967296 .u32 w va N n) (hb : Num 4294967296 .u32 w vb M m) (h0 : M ≠ 0) (hsz : len 4294967296 N < 549755813888) :
    Calls Tryz.prog 283 #[va, vb] w fun e w' => ∃ q r, e = .returned (.tuple #[q, r, .bool true]) ∧ Num 4294967296 .u32 w' q (N / M) (len 4294967296 (N / M)) ∧ Num 4294967296 .u32 w' r (N % M) (len 4294967296 (N % M)) ∧ Grew w w' := by
  rcases Nat.lt_or_ge N M with h | h
  · exact div_less va vb N M n m w ha hb h (by omega)
  · have hl : len 4294967296 M ≠ 0 := fun e => h0 ((len_eq_zero (by omega)).1 e)
    rcases hl1 : len 4294967296 M with _ | _ | k
    · exact absurd hl1 hl
    · exact div_one va vb N M n m w ha hb h hl1 (by omega)
    · exact div_long va vb N M n m k w ha hb h hl1 hsz
end Go.Proofs.YtngbcbncllfblaaGreat
namespace Go.Proofs.YtngbcbncllfblaaGreat
open Go.RowKit

set_option maxRecDepth 100000 in
set_option maxHeartbeats 1000000 in
theorem rsmall_any (a b : Nat) (w : World) (ha : a < 18446744073709551616) (hb : b < 18446744073709551616) :
    Calls Tryz.prog 321 #[.int .u64 (a : Int), .int .u64 (b : Int)] w fun e w' => e = .returned (.int .u64 (Nat.gcd a b : Nat)) ∧ Grew w w' := by
  obtain ⟨G, hG⟩ : ∃ G, G = Nat.gcd a b := ⟨_, rfl⟩
  have HG := Lib.hid hG
  rw [← hG]
  clear hG
  go_enter Tryz.func321, Tryz.ntmps321
  go_wp2_with fail
  go_loopg [0, 1] b (fun gk x y wr => ∃ p : Nat, x = .int .u64 (p : Nat) ∧ y = .int .u64 (gk : Nat) ∧ p < 18446744073709551616 ∧ gk < 18446744073709551616 ∧ Hid (G = Nat.gcd p gk) ∧ Grew w wr)
  case atStart => exact ⟨a, rfl, rfl, ha, hb, HG, Grew.refl _⟩
  case round =>
    obtain ⟨p, rfl, rfl, hp, hq, hg, hGr⟩ := hrel
    by_cases h0 : gk = 0
    · subst h0
      go_wp2_with fail
      go_ret
      exact ⟨ret_int (by rw [hg.out, Nat.gcd_zero_right]), hGr⟩
    · have hz : ((gk : Int) == 0) = false := by simp <;> omega
      have hp0 : 0 < gk := by omega
      have hml := Nat.mod_lt p hp0
      go_wp2_with fail
      go_quiet (fail)
      go_wp2_with fail
      go_roundg (p % gk)
      case rel => exact ⟨gk, rfl, by rw [emod_cast], hq, by omega, Lib.hid (by rw [hg.out, Nat.gcd_comm gk, ← Nat.gcd_rec, Nat.gcd_comm]), hGr.drewN _⟩
      case measure => exact hml

theorem gcd_lt {a b k : Nat} (ha : a < k) (hb : b < k) : Nat.gcd a b < k := by
  rcases Nat.eq_zero_or_pos a with h | h
  · subst h; rw [Nat.gcd_zero_left]; exact hb
  · exact Nat.lt_of_le_of_lt (Nat.le_of_dvd h (Nat.gcd_dvd_left a b)) ha

theorem len_le_of_le {N M k : Nat} (h : N ≤ M) (hk : len 4294967296 M < k) : len 4294967296 N < k := Nat.lt_of_le_of_lt (len_mono (by omega) h) hk

set_option maxRecDepth 100000 in
set_option maxHeartbeats 1000000 in
theorem gcd_any (va vb : Value) (N M n m : Nat) (w : World) (ha : Num 4294967296 .u32 w va N n) (hb : Num 4294967296 .u32 w vb M m) (hN : len 4294967296 N < 549755813888) (hM : len 4294967296 M < 549755813888) :
    Calls Tryz.prog 281 #[va, vb] w fun e w' => ∃ v, e = .returned v ∧ Num 4294967296 .u32 w' v (Nat.gcd N M) (len 4294967296 (Nat.gcd N M)) ∧ Grew w w' := by
  obtain ⟨G, hG⟩ : ∃ G, G = Nat.gcd N M := ⟨_, rfl⟩
  have HG := Lib.hid hG
  rw [← hG]
  clear hG
  go_enter Tryz.func281, Tryz.ntmps281
  go_wp2_with fail
  refine (trim_any _ _ _ _ ha (by omega)).mono ?_
  rintro e w1 ⟨x0, rfl, hx0, hG1⟩
  go_wp2_with fail
  refine (trim_any _ _ _ _ (hb.grew hG1) (by omega)).mono ?_
  rintro e w2 ⟨y0, rfl, hy0, hG2⟩
  go_wp2_with fail
  go_loopg [0, 1] M (fun gk x y wr => ∃ p : Nat, Num 4294967296 .u32 wr x p (len 4294967296 p) ∧ Num 4294967296 .u32 wr y gk (len 4294967296 gk) ∧ len 4294967296 p < 549755813888 ∧ len 4294967296 gk < 549755813888 ∧ Hid (G = Nat.gcd p gk) ∧ Grew w wr)
  case atStart => exact ⟨N, hx0.grew hG2, hy0, hN, hM, HG, hG1.trans hG2⟩
  case round =>
    obtain ⟨p, hx, hy, hpl, hql, hg, hGr⟩ := hrel
    go_wp2_with fail
    refine (uint_any _ _ _ _ hx).mono ?_
    rintro e w' ⟨rfl, rfl⟩
    go_wp2_with fail
    refine (uint_any _ _ _ _ hy).mono ?_
    rintro e w' ⟨rfl, rfl⟩
    by_cases hboth : len 4294967296 p ≤ 2 ∧ len 4294967296 gk ≤ 2
    · as_aux_lemma =>
      rw [(uint_yes hboth.1).1, (uint_yes hboth.1).2, (uint_yes hboth.2).1, (uint_yes hboth.2).2]
      have hp64 := lt_pow_of_len (B := 4294967296) (by omega) hboth.1
      have hq64 := lt_pow_of_len (B := 4294967296) (by omega) hboth.2
      simp only [Nat.reducePow] at hp64 hq64
      go_wp2_with fail
      refine (rsmall_any p gk _ (by omega) (by omega)).mono ?_
      rintro e w3 ⟨rfl, hG3⟩
      go_wp2_with fail
      refine (of_any _ (Nat.gcd p gk) _ rfl ?_).mono ?_
      · exact gcd_lt hp64 hq64
      rintro e w4 ⟨v, rfl, hv, hG4⟩
      go_wp2_with fail
      go_ret
      exact ⟨v, rfl, by rw [hg.out]; exact hv, (hGr.trans hG3).trans hG4⟩
    · have hok : (uintOk p && uintOk gk) = false := by
        by_cases h1 : len 4294967296 p ≤ 2
        · rw [(uint_yes h1).2, (uint_no (N := gk) (by omega)).2]; rfl
        · rw [(uint_no h1).2]; rfl
      obtain ⟨Y, cy, rfl, y1, y2, y3, y4⟩ := id hy
      have HY := Lib.hid hy
      have HX := Lib.hid hx
      clear hx hy y3 y4 hboth
      generalize uintV p = pv at *
      generalize uintV gk = qv at *
      generalize uintOk p = po at *
      generalize uintOk gk = qo at *
      by_cases h0 : gk = 0
      · subst h0
        rcases po with _ | _ <;> rcases qo with _ | _ <;> first | (exact absurd hok (by decide)) | skip
        all_goals
          clear hok
          rw [len_zero]
          go_wp2_with fail
          go_ret
          exact ⟨_, rfl, by rw [hg.out, Nat.gcd_zero_right]; exact HX.out, hGr⟩
      · have hl0 : len 4294967296 gk ≠ 0 := fun e => h0 ((len_eq_zero (by omega)).1 e)
        have hlz : ((len 4294967296 gk : Nat) : Int) = 0 ↔ False := by simp; exact hl0
        have hp0 : 0 < gk := by omega
        have hml := Nat.mod_lt p hp0
        generalize hlg : len 4294967296 gk = lg at *
        have Hlg := Lib.hid hlg
        have hlb : ((lg : Int) == 0) = false := by simp; omega
        clear hlg hlz
        rcases po with _ | _ <;> rcases qo with _ | _ <;> first | (exact absurd hok (by decide)) | skip
        all_goals
          clear hok
          go_wp2_with fail
          refine (div_any _ _ _ _ _ _ _ HX.out HY.out h0 hpl).mono ?_
          rintro e w3 ⟨q, r, rfl, h1, h2, hG3⟩
          go_wp2_with fail
          go_roundg (p % gk)
          case rel => exact ⟨gk, by rw [Hlg.out]; exact HY.out.grew hG3, h2, by rw [Hlg.out]; exact hql, len_le_of_le (Nat.mod_le _ _) hpl, Lib.hid (by rw [hg.out, Nat.gcd_comm gk, ← Nat.gcd_rec, Nat.gcd_comm]), hGr.trans hG3⟩
          case measure => exact hml

theorem num_one (w : World) (t : TypeId) : Num 4294967296 .u32 (w.alloc (.cells #[.int .u32 1] t)) (.slice (some ⟨w.heap.size, 0, none⟩) 1 1) 1 1 := by
  refine Num.of_blk (heap_alloc_new w _) (Nat.le_refl _) (by omega) (by simp) fun i hi => ?_
  obtain rfl : i = 0 := by omega
  simp [dig]
theorem len_one : len 4294967296 1 = 1 := by
  have h1 := len_le (B := 4294967296) (N := 1) (k := 1) (by omega) (by simp)
  have h2 : len 4294967296 1 ≠ 0 := fun h => by have := (len_eq_zero (B := 4294967296) (by omega)).1 h; omega
  omega

set_option maxRecDepth 100000 in
set_option maxHeartbeats 1000000 in
theorem one_any (w : World) : Calls Tryz.prog 282 #[] w fun e w' => ∃ v, e = .returned v ∧ Num 4294967296 .u32 w' v 1 1 ∧ Grew w w' := by
  have h := num_one w 163
  have H := Lib.hid h
  clear h
  go_enter Tryz.func282, Tryz.ntmps282
  go_wp2
  go_ret
  exact ⟨_, rfl, H.out, (Grew.refl w).alloc _⟩

set_option maxRecDepth 100000 in
set_option maxHeartbeats 2000000 in
theorem reduce_any (va vb : Value) (N M n m : Nat) (w : World) (ha : Num 4294967296 .u32 w va N n) (hb : Num 4294967296 .u32 w vb M m) (hN : len 4294967296 N < 549755813888) (hM : len 4294967296 M < 549755813888) :
    Calls Tryz.prog 238 #[va, vb] w fun e w' => ∃ x y, e = .returned (.tuple #[x, y]) ∧ Num 4294967296 .u32 w' x (N / Nat.gcd N M) (len 4294967296 (N / Nat.gcd N M)) ∧ Num 4294967296 .u32 w' y (M / Nat.gcd N M) (len 4294967296 (M / Nat.gcd N M)) ∧ Grew w w' := by
  go_enter Tryz.func238, Tryz.ntmps238
  go_wp2_with fail
  refine (gcd_any _ _ _ _ _ _ _ ha hb hN hM).mono ?_
  rintro e w1 ⟨vg, rfl, hg, hG1⟩
  obtain ⟨Y, cy, rfl, y1, y2, y3, y4⟩ := id hg
  by_cases h0 : Nat.gcd N M = 0
  · as_aux_lemma =>
    have hN0 : N = 0 := (Nat.gcd_eq_zero_iff.1 h0).1
    have hM0 : M = 0 := (Nat.gcd_eq_zero_iff.1 h0).2
    subst hN0; subst hM0
    have hl0 : len 4294967296 (Nat.gcd 0 0) = 0 := rfl
    rw [hl0]
    clear hl0 h0
    go_wp2_with fail
    refine (trim_any _ _ _ _ (ha.grew hG1) (by omega)).mono ?_
    rintro e w2 ⟨x, rfl, hx, hG2⟩
    go_wp2_with fail
    refine (trim_any _ _ _ _ ((hb.grew hG1).grew hG2) (by omega)).mono ?_
    rintro e w3 ⟨y, rfl, hy, hG3⟩
    go_wp2_with fail
    go_ret2
    exact ⟨_, _, rfl, hx.grew hG3, hy, (hG1.trans hG2).trans hG3⟩
  · have hl0 : len 4294967296 (Nat.gcd N M) ≠ 0 := fun e => h0 ((len_eq_zero (by omega)).1 e)
    have Hg := Lib.hid hg
    clear hg y3 y4
    generalize hgg : Nat.gcd N M = g at *
    have Hgg := Lib.hid hgg
    clear hgg
    generalize hlg : len 4294967296 g = lg at *
    have Hlg := Lib.hid hlg
    clear hlg
    have hlb : ((lg : Int) == 0) = false := by simp; omega
    go_wp2_with fail
    refine (one_any _).mono ?_
    rintro e w2 ⟨vo, rfl, ho, hG2⟩
    go_wp2_with fail
    refine (cmp_any _ _ _ _ _ _ _ (Hg.out.grew hG2) ho).mono ?_
    rintro e w3 ⟨rfl, hG3⟩
    have hG123 := (hG1.trans hG2).trans hG3
    by_cases h1 : g = 1
    · as_aux_lemma =>
      subst h1
      rw [cmpN_self]
      go_wp2_with fail
      refine (trim_any _ _ _ _ (ha.grew hG123) (by omega)).mono ?_
      rintro e w4 ⟨x, rfl, hx, hG4⟩
      go_wp2_with fail
      refine (trim_any _ _ _ _ ((hb.grew hG123).grew hG4) (by omega)).mono ?_
      rintro e w5 ⟨y, rfl, hy, hG5⟩
      go_wp2_with fail
      go_ret2
      rw [Hgg.out, Nat.div_one, Nat.div_one]
      exact ⟨_, _, rfl, hx.grew hG5, hy, (hG123.trans hG4).trans hG5⟩
    · as_aux_lemma =>
      have hc : cmpN g 1 ≠ 0 := by
        unfold cmpN
        split
        · omega
        · split <;> omega
      generalize cmpN g 1 = cm at *
      have hcb : (cm == 0) = false := by simpa using hc
      have Hg' : Num 4294967296 .u32 w1 (.slice Y lg cy) g lg := Hg.out
      go_wp2_with fail
      refine (div_any _ _ _ _ _ _ _ (ha.grew hG123) (Hg'.grew (hG2.trans hG3)) h0 hN).mono ?_
      rintro e w4 ⟨q, r, rfl, hq, hr, hG4⟩
      go_wp2_with fail
      refine (div_any _ _ _ _ _ _ _ ((hb.grew hG123).grew hG4) ((Hg'.grew (hG2.trans hG3)).grew hG4) h0 hM).mono ?_
      rintro e w5 ⟨q2, r2, rfl, hq2, hr2, hG5⟩
      go_wp2_with fail
      go_ret2
      exact ⟨_, _, rfl, by rw [Hgg.out]; exact hq.grew hG5, by rw [Hgg.out]; exact hq2, (hG123.trans hG4).trans hG5⟩
end Go.Proofs.YtngbcbncllfblaaGreat
namespace Go.Proofs.YtngbcbncllfblaaGreat
open Go.RowKit

/-- The number of a sign and a size. -/
def sgn (neg : Bool) (N : Nat) : Int := if neg then -(N : Int) else N

theorem sgn_neg (neg : Bool) (N : Nat) : decide (sgn neg N < 0) = (neg && decide (N ≠ 0)) := by
  unfold sgn
  cases neg
  · simp
  · simp only [Bool.true_and, if_true]
    by_cases h : N = 0
    · subst h; simp
    · rw [decide_eq_true h, decide_eq_true (by omega)]
theorem sgn_abs (neg : Bool) (N : Nat) : (sgn neg N).natAbs = N := by unfold sgn; cases neg <;> simp

theorem cell_set {w : World} {p : Addr} {u : Value} (h : w.cell? p = some u) (x : Value) : (w.setCell p x).cell? p = some x := by
  unfold World.cell? at *
  simp only [World.setCell, Array.getElem?_modify, if_true]
  split at h
  · rename_i c t f hb
    split at h
    · cases h
    · rename_i hs
      have hlt : p.off < c.size := (Array.getElem?_eq_some_iff.1 h).1
      simp [hb, hs, hlt]
  · cases h

/-- A store into a cell that holds no digit turns no number. -/
theorem Num.setCell {w : World} {B : Nat} {K : IntKind} {v : Value} {N n : Nat} (h : Num B K w v N n) {p : Addr} (hp : ∀ m, w.cell? p ≠ some (.int K m)) (u : Value) : Num B K (w.setCell p u) v N n := by
  obtain ⟨A, c, hv, h1, h2, h4, h3⟩ := h
  refine ⟨A, c, hv, h1, h2, h4, fun hn => ?_⟩
  obtain ⟨b, off, hA, hc⟩ := h3 hn
  refine ⟨b, off, hA, fun i hi => ?_⟩
  rw [World.cell?_setCell_other w p _ u (fun e => hp _ (by rw [e]; exact hc i hi))]
  exact hc i hi

/-- A whole number as it is answered: its sign (none of 0), its words without noughts. -/
def Whl (w : World) (V : Value) (z : Int) : Prop := ∃ v, V = .agg #[.bool (decide (z < 0)), v] ∧ Num 4294967296 .u32 w v z.natAbs (len 4294967296 z.natAbs)
theorem Whl.grew {w w' : World} {V : Value} {z : Int} (h : Whl w V z) (g : Grew w w') : Whl w' V z := by
  obtain ⟨v, e, hn⟩ := h
  exact ⟨v, e, hn.grew g⟩
theorem Whl.of_num {w : World} {v : Value} {neg : Bool} {N : Nat} (h : Num 4294967296 .u32 w v N (len 4294967296 N)) : Whl w (.agg #[.bool (neg && decide (N ≠ 0)), v]) (sgn neg N) :=
  ⟨v, by rw [sgn_neg], by rw [sgn_abs]; exact h⟩

set_option maxRecDepth 100000 in
set_option maxHeartbeats 1000000 in
theorem clean_any (neg : Bool) (v : Value) (N : Nat) (w : World) (h : Num 4294967296 .u32 w v N (len 4294967296 N)) :
    Calls Tryz.prog 150 #[.bool neg, v] w fun e w' => ∃ V, e = .returned V ∧ Whl w' V (sgn neg N) ∧ Grew w w' := by
  have hW := Whl.of_num (neg := neg) h
  obtain ⟨A, c, rfl, h1, h2, h3, h4⟩ := id h
  have hz : len 4294967296 N = 0 ↔ N = 0 := len_eq_zero (by omega)
  have HW := Lib.hid hW
  have Hz := Lib.hid hz
  clear h3 h4 hz hW h
  by_cases h0 : N = 0
  · have e0 : decide (N ≠ 0) = false := by simp [h0]
    rw [e0] at HW
    have hn0 := Hz.out.2 h0
    generalize len 4294967296 N = n at *
    subst hn0
    clear e0 h0
    cases neg
    all_goals
      go_enter Tryz.func150, Tryz.ntmps150
      go_wp2
      go_returns
      exact ⟨_, rfl, HW.out.grew ((Grew.refl w).alloc _), (Grew.refl w).alloc _⟩
  · have e0 : decide (N ≠ 0) = true := by simp [h0]
    rw [e0] at HW
    have hn0 : 0 < len 4294967296 N := by
      rcases Nat.eq_zero_or_pos (len 4294967296 N) with h | h
      · exact absurd (Hz.out.1 h) h0
      · exact h
    generalize len 4294967296 N = n at *
    clear e0 h0 Hz
    have hp : (0 : Int) < (n : Int) := by omega
    cases neg
    all_goals
      go_enter Tryz.func150, Tryz.ntmps150
      go_wp2
      go_returns
      exact ⟨_, rfl, HW.out.grew ((Grew.refl w).alloc _), (Grew.refl w).alloc _⟩

set_option maxRecDepth 100000 in
set_option maxHeartbeats 1000000 in
theorem make_any (neg : Bool) (v : Value) (N n : Nat) (w : World) (h : Num 4294967296 .u32 w v N n) (hs : len 4294967296 N < 1099511627776) :
    Calls Tryz.prog 205 #[.bool neg, v] w fun e w' => ∃ V, e = .returned V ∧ Whl w' V (sgn neg N) ∧ Grew w w' := by
  go_enter Tryz.func205, Tryz.ntmps205
  go_wp2_with fail
  refine (trim_any _ _ _ _ (h.grew ((Grew.refl w).alloc _)) hs).mono ?_
  rintro e w1 ⟨v1, rfl, h1, hG1⟩
  go_wp2_with fail
  refine (clean_any neg v1 N w1 h1).mono ?_
  rintro e w2 ⟨V, rfl, hV, hG2⟩
  obtain ⟨v2, rfl, hV2⟩ := id hV
  obtain ⟨A2, c2, rfl, -⟩ := id hV2
  have hG12 := hG1.trans hG2
  obtain ⟨hc, hf⟩ := hG12.olds
  have hc0 : w2.cell? ⟨w.heap.size, 0, none⟩ = some (.bool false) := by rw [hc _ _ (by simp)]; simp
  have hc1 : w2.cell? ⟨w.heap.size, 1, none⟩ = some (.slice none 0 0) := by rw [hc _ _ (by simp)]; simp
  have hf0 : w2.frozen? ⟨w.heap.size, 0, none⟩ = false := by rw [hf _ _ (by simp)]; simp
  have hf1 : w2.frozen? ⟨w.heap.size, 1, none⟩ = false := by rw [hf _ _ (by simp)]; simp
  have hs0 : ∀ u, (w2.setCell ⟨w.heap.size, 0, none⟩ u).cell? ⟨w.heap.size, 0, none⟩ = some u := fun u => cell_set hc0 u
  have hs1 : ∀ u x, ((w2.setCell ⟨w.heap.size, 0, none⟩ u).setCell ⟨w.heap.size, 1, none⟩ x).cell? ⟨w.heap.size, 1, none⟩ = some x := fun u x => cell_set (u := .slice none 0 0) (by rw [World.cell?_setCell_other _ _ _ _ (by simp)]; exact hc1) x
  clear hc hf
  have hV3 : Whl ((w2.setCell ⟨w.heap.size, 0, none⟩ (.bool (decide (sgn neg N < 0)))).setCell ⟨w.heap.size, 1, none⟩ (.slice A2 (len 4294967296 (sgn neg N).natAbs) c2)) (.agg #[.bool (decide (sgn neg N < 0)), .slice A2 (len 4294967296 (sgn neg N).natAbs) c2]) (sgn neg N) :=
    ⟨_, rfl, (hV2.setCell (by rw [hc0]; simp) _).setCell (by rw [World.cell?_setCell_other _ _ _ _ (by simp), hc1]; simp) _⟩
  have HV := Lib.hid hV3
  clear hV3 hV2 hV
  generalize decide (sgn neg N < 0) = bb at *
  go_wp2_with fail
  exact bodyPost_ret (v := .agg #[.bool bb, .slice A2 (len 4294967296 (sgn neg N).natAbs) c2]) (by simp [results, Tryz.results205, go_sem, hs0, hs1]) rfl ⟨_, rfl, HV.out, (((Grew.refl w).alloc _).trans hG12).setCell (Nat.le_refl _) _ |>.setCell (Nat.le_refl _) _⟩
end Go.Proofs.YtngbcbncllfblaaGreat
namespace Go.Proofs.YtngbcbncllfblaaGreat
open Go.RowKit

/-- A number's sign. -/
def sg (z : Int) : Int := if z = 0 then 0 else if z < 0 then -1 else 1

theorem nbits_zero (N : Nat) : nbits N = 0 ↔ N = 0 := by
  unfold nbits
  constructor
  · intro h
    split at h
    · assumption
    · rename_i h0
      exfalso
      have hl : len 4294967296 N ≠ 0 := fun e => h0 ((len_eq_zero (by omega)).1 e)
      obtain ⟨k, hk⟩ : ∃ k, len 4294967296 N = k + 1 := ⟨len 4294967296 N - 1, by omega⟩
      have ht := top_ne (B := 4294967296) (by omega) hk
      have htl := dig_lt (B := 4294967296) (by omega) N k
      rw [hk, Nat.add_sub_cancel] at h
      obtain ⟨b1, b2⟩ := bitLenAux_bd 64 (dig 4294967296 N k) (by omega)
      have b3 := (b2 ht).1
      change 0 < Lib.bitLen _ at b3
      omega
  · rintro rfl; rfl

set_option maxRecDepth 100000 in
set_option maxHeartbeats 1000000 in
theorem sign_any (neg : Bool) (v : Value) (N n : Nat) (w : World) (h : Num 4294967296 .u32 w v N n) (hs : len 4294967296 N < 1099511627776) :
    Calls Tryz.prog 147 #[.agg #[.bool neg, v]] w fun e w' => e = .returned (.int .i64 (sg (sgn neg N))) ∧ Grew w w' := by
  obtain ⟨A, c, rfl, -⟩ := id h
  go_enter Tryz.func147, Tryz.ntmps147
  go_wp2_with fail
  refine (bits_any _ _ _ _ (h.grew ((Grew.refl w).alloc _)) hs).mono ?_
  rintro e w' ⟨rfl, rfl⟩
  by_cases h0 : N = 0
  · rw [(nbits_zero N).2 h0]
    subst h0
    have e0 : sg (sgn neg 0) = 0 := by unfold sg sgn; cases neg <;> simp
    have E0 := Lib.hid e0
    clear e0
    go_wp2_with fail
    go_ret
    exact ⟨by rw [E0.out]; rfl, (Grew.refl w).alloc _⟩
  · have hb : nbits N ≠ 0 := fun e => h0 ((nbits_zero N).1 e)
    generalize nbits N = bb at *
    have hbb : ((bb : Int) == 0) = false := by simp; omega
    cases neg
    · have e0 : sg (sgn false N) = 1 := by unfold sg sgn; simp; omega
      have E0 := Lib.hid e0
      clear e0
      go_wp2_with fail
      go_ret
      exact ⟨by rw [E0.out]; rfl, (Grew.refl w).alloc _⟩
    · have e0 : sg (sgn true N) = -1 := by unfold sg sgn; simp; omega
      have E0 := Lib.hid e0
      clear e0
      go_wp2_with fail
      go_ret
      exact ⟨by rw [E0.out]; rfl, (Grew.refl w).alloc _⟩
end Go.Proofs.YtngbcbncllfblaaGreat
