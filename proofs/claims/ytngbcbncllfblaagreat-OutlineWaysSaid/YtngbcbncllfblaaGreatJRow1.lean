/- outline.near, Square, Centre, r25.Square, Centre; cells.page, May, within, Has, r24.May, Has; outline.kind, way. Conditions: none but that what comes in reads. append of a slice of ways to two that the walk has laid. Condition: at most 2^18 ways. An operation of a region that draws is taken first, its slot written out. Conditions: none. Rows of structs that hold no ints: append, with the numbers kept. Conditions: none. -/
import Derived.Test.YtngbcbncllfblaaGreatJOutQ
import Derived.Test.YtngbcbncllfblaaGreatJKit
import Derived.Deep.RegionHeld3
namespace Go.Proofs.YtngbcbncllfblaaGreat
open Go.RowKit

def nearZ (x y : Int) : Bool := decide (-16384 ≤ x ∧ x ≤ 16384 ∧ -16384 ≤ y ∧ y ≤ 16384)
set_option maxRecDepth 100000 in
set_option maxHeartbeats 4000000 in
theorem onear_any (x y : Int) (w : World) : Calls Tryz.prog 42 #[.int .i64 x, .int .i64 y] w fun e w' => e = .returned (.bool (nearZ x y)) ∧ w' = w := by
  unfold nearZ
  by_cases h0 : -16384 ≤ x
  · by_cases h1 : x ≤ 16384
    · by_cases h2 : -16384 ≤ y
      · by_cases h3 : y ≤ 16384
        · go_enter Tryz.func42, Tryz.ntmps42
          go_wp2_with fail
          go_ret
          exact ⟨by simp <;> omega, rfl⟩
        · go_enter Tryz.func42, Tryz.ntmps42
          go_wp2_with fail
          go_ret
          exact ⟨by simp <;> omega, rfl⟩
      · go_enter Tryz.func42, Tryz.ntmps42
        go_wp2_with fail
        go_ret
        exact ⟨by simp <;> omega, rfl⟩
    · go_enter Tryz.func42, Tryz.ntmps42
      go_wp2_with fail
      go_ret
      exact ⟨by simp <;> omega, rfl⟩
  · go_enter Tryz.func42, Tryz.ntmps42
    go_wp2_with fail
    go_ret
    exact ⟨by simp <;> omega, rfl⟩

/-- A cell's corners, and its middle. -/
def sqA (x y : Int) : Int × Int := if nearZ x y = true then (256 * x, 256 * y) else (0, 0)
def sqB (x y : Int) : Int × Int := if nearZ x y = true then (256 * x + 256, 256 * y + 256) else (0, 0)
def sqC (x y : Int) : Int × Int := if nearZ x y = true then (256 * x + 128, 256 * y + 128) else (0, 0)
theorem near_in {x y : Int} (h : nearZ x y = true) : -16384 ≤ x ∧ x ≤ 16384 ∧ -16384 ≤ y ∧ y ≤ 16384 := of_decide_eq_true h
set_option maxRecDepth 100000 in
set_option maxHeartbeats 4000000 in
theorem osquare_any (x y : Int) (w : World) : Calls Tryz.prog 9 #[.int .i64 x, .int .i64 y] w fun e w' => e = .returned (.tuple #[ptV (sqA x y).1 (sqA x y).2, ptV (sqB x y).1 (sqB x y).2]) ∧ Grew w w' := by
  unfold sqA sqB
  by_cases hn : nearZ x y = true
  · obtain ⟨x0, x1, y0, y1⟩ := near_in hn
    have ex : 256 * (x + 1) = 256 * x + 256 := by omega
    have ey : 256 * (y + 1) = 256 * y + 256 := by omega
    rw [if_pos hn, if_pos hn]
    have hn' := Lib.hid hn
    replace ex := Lib.hid ex
    replace ey := Lib.hid ey
    clear hn
    go_enter Tryz.func9, Tryz.ntmps9
    go_wp2_with fail
    refine (onear_any x y _).mono ?_
    rintro e w2 ⟨rfl, rfl⟩
    rw [hn'.out]
    go_wp2_with fail
    exact bodyPost_ret (v := .tuple #[ptV (256 * x) (256 * y), ptV (256 * x + 256) (256 * y + 256)]) (by rw [← ex.out, ← ey.out]; simp [results, Tryz.results9, go_sem]) rfl ⟨rfl, by repeat (first | exact Grew.refl _ | refine Grew.setCell ?_ (by simp <;> omega) _ | refine Grew.alloc ?_ _)⟩
  · rw [if_neg hn, if_neg hn]
    have hn' := Lib.hid (Bool.eq_false_iff.2 hn)
    clear hn
    go_enter Tryz.func9, Tryz.ntmps9
    go_wp2_with fail
    refine (onear_any x y _).mono ?_
    rintro e w2 ⟨rfl, rfl⟩
    rw [hn'.out]
    go_wp2_with fail
    exact bodyPost_ret (v := .tuple #[ptV 0 0, ptV 0 0]) (by simp [results, Tryz.results9, go_sem]) rfl ⟨rfl, by repeat (first | exact Grew.refl _ | refine Grew.setCell ?_ (by simp <;> omega) _ | refine Grew.alloc ?_ _)⟩
set_option maxRecDepth 100000 in
set_option maxHeartbeats 4000000 in
theorem ocentre_any (x y : Int) (w : World) : Calls Tryz.prog 18 #[.int .i64 x, .int .i64 y] w fun e w' => e = .returned (ptV (sqC x y).1 (sqC x y).2) ∧ Grew w w' := by
  unfold sqC
  by_cases hn : nearZ x y = true
  · obtain ⟨x0, x1, y0, y1⟩ := near_in hn
    rw [if_pos hn]
    have hn' := Lib.hid hn
    clear hn
    go_enter Tryz.func18, Tryz.ntmps18
    go_wp2_with fail
    refine (onear_any x y _).mono ?_
    rintro e w2 ⟨rfl, rfl⟩
    rw [hn'.out]
    go_wp2_with fail
    exact bodyPost_ret (v := ptV (256 * x + 128) (256 * y + 128)) (by simp [results, Tryz.results18, go_sem]) rfl ⟨rfl, by repeat (first | exact Grew.refl _ | refine Grew.setCell ?_ (by simp <;> omega) _ | refine Grew.alloc ?_ _)⟩
  · rw [if_neg hn]
    have hn' := Lib.hid (Bool.eq_false_iff.2 hn)
    clear hn
    go_enter Tryz.func18, Tryz.ntmps18
    go_wp2_with fail
    refine (onear_any x y _).mono ?_
    rintro e w2 ⟨rfl, rfl⟩
    rw [hn'.out]
    go_wp2_with fail
    exact bodyPost_ret (v := ptV 0 0) (by simp [results, Tryz.results18, go_sem]) rfl ⟨rfl, by repeat (first | exact Grew.refl _ | refine Grew.setCell ?_ (by simp <;> omega) _ | refine Grew.alloc ?_ _)⟩
set_option maxRecDepth 100000 in
set_option maxHeartbeats 4000000 in
theorem rsquare_any (x y : Int) (w : World) : Calls Tryz.prog 10 #[.int .i64 x, .int .i64 y] w fun e w' => e = .returned (.tuple #[ptV (sqA x y).1 (sqA x y).2, ptV (sqB x y).1 (sqB x y).2]) ∧ Grew w w' := by
  unfold sqA sqB
  by_cases hn : nearZ x y = true
  · obtain ⟨x0, x1, y0, y1⟩ := near_in hn
    rw [if_pos hn, if_pos hn]
    clear hn
    have n0 : ¬ x < -16384 := by omega
    have n1 : ¬ 16384 < x := by omega
    have n2 : ¬ y < -16384 := by omega
    have n3 : ¬ 16384 < y := by omega
    go_enter Tryz.func10, Tryz.ntmps10
    go_wp2_with fail
    exact bodyPost_ret (v := .tuple #[ptV (256 * x) (256 * y), ptV (256 * x + 256) (256 * y + 256)]) (by simp [results, Tryz.results10, go_sem]) rfl ⟨rfl, by repeat (first | exact Grew.refl _ | refine Grew.setCell ?_ (by simp <;> omega) _ | refine Grew.alloc ?_ _)⟩
  · rw [if_neg hn, if_neg hn]
    have hn' : ¬ (-16384 ≤ x ∧ x ≤ 16384 ∧ -16384 ≤ y ∧ y ≤ 16384) := fun h => hn (decide_eq_true h)
    clear hn
    by_cases n0 : x < -16384
    · clear hn'
      go_enter Tryz.func10, Tryz.ntmps10
      go_wp2_with fail
      exact bodyPost_ret (v := .tuple #[ptV 0 0, ptV 0 0]) (by simp [results, Tryz.results10, go_sem]) rfl ⟨rfl, by repeat (first | exact Grew.refl _ | refine Grew.setCell ?_ (by simp <;> omega) _ | refine Grew.alloc ?_ _)⟩
    · by_cases n1 : 16384 < x
      · clear hn'
        go_enter Tryz.func10, Tryz.ntmps10
        go_wp2_with fail
        exact bodyPost_ret (v := .tuple #[ptV 0 0, ptV 0 0]) (by simp [results, Tryz.results10, go_sem]) rfl ⟨rfl, by repeat (first | exact Grew.refl _ | refine Grew.setCell ?_ (by simp <;> omega) _ | refine Grew.alloc ?_ _)⟩
      · by_cases n2 : y < -16384
        · clear hn'
          go_enter Tryz.func10, Tryz.ntmps10
          go_wp2_with fail
          exact bodyPost_ret (v := .tuple #[ptV 0 0, ptV 0 0]) (by simp [results, Tryz.results10, go_sem]) rfl ⟨rfl, by repeat (first | exact Grew.refl _ | refine Grew.setCell ?_ (by simp <;> omega) _ | refine Grew.alloc ?_ _)⟩
        · have n3 : 16384 < y := by omega
          clear hn'
          go_enter Tryz.func10, Tryz.ntmps10
          go_wp2_with fail
          exact bodyPost_ret (v := .tuple #[ptV 0 0, ptV 0 0]) (by simp [results, Tryz.results10, go_sem]) rfl ⟨rfl, by repeat (first | exact Grew.refl _ | refine Grew.setCell ?_ (by simp <;> omega) _ | refine Grew.alloc ?_ _)⟩

abbrev cellV (W H : Int) (A : Option Addr) (n c : Nat) : Value := .agg #[.int .i64 W, .int .i64 H, .slice A n c]
def pageB (W H : Int) : Bool := decide (1 ≤ W ∧ W ≤ 64 ∧ 1 ≤ H ∧ H ≤ 64)
theorem page_in {W H : Int} (h : pageB W H = true) : 1 ≤ W ∧ W ≤ 64 ∧ 1 ≤ H ∧ H ≤ 64 := of_decide_eq_true h
theorem mayC_page {W H : Int} {n : Nat} (h : pageB W H = false) : mayC W H n = false := by
  unfold pageB at h; unfold mayC
  simp only [decide_eq_false_iff_not] at h ⊢
  exact fun k => h ⟨k.1, k.2.1, k.2.2.1, k.2.2.2.1⟩
theorem mayC_eq {W H : Int} {n : Nat} (h : pageB W H = true) : mayC W H n = decide ((n : Int) = W * H) := by
  have := page_in h
  unfold mayC
  exact decide_eq_decide.2 ⟨fun k => k.2.2.2.2, fun k => ⟨this.1, this.2.1, this.2.2.1, this.2.2.2, k⟩⟩
theorem mul_bd {W H : Int} (h : 0 ≤ W ∧ W ≤ 64 ∧ 0 ≤ H ∧ H ≤ 64) : 0 ≤ W * H ∧ W * H ≤ 4096 := by
  refine ⟨Int.mul_nonneg h.1 h.2.2.1, ?_⟩
  have h1 := Int.mul_le_mul_of_nonneg_right h.2.1 h.2.2.1
  omega
set_option maxRecDepth 100000 in
set_option maxHeartbeats 4000000 in
theorem kpage_any (x y : Int) (w : World) : Calls Tryz.prog 81 #[.int .i64 x, .int .i64 y] w fun e w' => e = .returned (.bool (pageB x y)) ∧ w' = w := by
  unfold pageB
  by_cases h0 : 1 ≤ x
  · by_cases h1 : x ≤ 64
    · by_cases h2 : 1 ≤ y
      · by_cases h3 : y ≤ 64
        · go_enter Tryz.func81, Tryz.ntmps81
          go_wp2_with fail
          go_ret
          exact ⟨by simp <;> omega, rfl⟩
        · go_enter Tryz.func81, Tryz.ntmps81
          go_wp2_with fail
          go_ret
          exact ⟨by simp <;> omega, rfl⟩
      · go_enter Tryz.func81, Tryz.ntmps81
        go_wp2_with fail
        go_ret
        exact ⟨by simp <;> omega, rfl⟩
    · go_enter Tryz.func81, Tryz.ntmps81
      go_wp2_with fail
      go_ret
      exact ⟨by simp <;> omega, rfl⟩
  · go_enter Tryz.func81, Tryz.ntmps81
    go_wp2_with fail
    go_ret
    exact ⟨by simp <;> omega, rfl⟩
set_option maxRecDepth 100000 in
set_option maxHeartbeats 4000000 in
theorem kmay_any (W H : Int) (A : Option Addr) (n c : Nat) (w : World) (_ : n ≤ 9223372036854775807) : Calls Tryz.prog 43 #[cellV W H A n c] w fun e w' => e = .returned (.bool (mayC W H n)) ∧ Grew w w' := by
  by_cases hp : pageB W H = true
  · obtain ⟨a0, a1, b0, b1⟩ := page_in hp
    obtain ⟨m0, m1⟩ := mul_bd (W := W) (H := H) ⟨by omega, a1, by omega, b1⟩
    rw [mayC_eq hp]
    have hp' := Lib.hid hp
    clear hp
    by_cases he : (n : Int) = W * H
    · have he' := Lib.hid he
      go_enter Tryz.func43, Tryz.ntmps43
      go_wp2_with fail
      refine (kpage_any W H _).mono ?_
      rintro e w2 ⟨rfl, rfl⟩
      rw [hp'.out]
      go_wp2_with fail
      go_ret
      exact ⟨by simp [he'.out], (Grew.refl w).alloc _⟩
    · go_enter Tryz.func43, Tryz.ntmps43
      go_wp2_with fail
      refine (kpage_any W H _).mono ?_
      rintro e w2 ⟨rfl, rfl⟩
      rw [hp'.out]
      go_wp2_with fail
      go_ret
      exact ⟨by simp [he], (Grew.refl w).alloc _⟩
  · have hp' := Lib.hid (Bool.eq_false_iff.2 hp)
    rw [mayC_page hp'.out]
    clear hp
    go_enter Tryz.func43, Tryz.ntmps43
    go_wp2_with fail
    refine (kpage_any W H _).mono ?_
    rintro e w2 ⟨rfl, rfl⟩
    rw [hp'.out]
    go_wp2_with fail
    go_ret
    exact ⟨rfl, (Grew.refl w).alloc _⟩

def withB (W H x y : Int) : Bool := decide (0 ≤ x ∧ x < W ∧ 0 ≤ y ∧ y < H)
theorem with_in {W H x y : Int} (h : withB W H x y = true) : 0 ≤ x ∧ x < W ∧ 0 ≤ y ∧ y < H := of_decide_eq_true h
set_option maxRecDepth 100000 in
set_option maxHeartbeats 4000000 in
theorem kwithin_any (W H : Int) (A : Option Addr) (n c : Nat) (x y : Int) (w : World) : Calls Tryz.prog 127 #[cellV W H A n c, .int .i64 x, .int .i64 y] w fun e w' => e = .returned (.bool (withB W H x y)) ∧ Grew w w' := by
  unfold withB
  by_cases h0 : 0 ≤ x
  · by_cases h1 : x < W
    · by_cases h2 : 0 ≤ y
      · by_cases h3 : y < H
        · go_enter Tryz.func127, Tryz.ntmps127
          go_wp2_with fail
          go_ret
          exact ⟨by simp <;> omega, (Grew.refl w).alloc _⟩
        · go_enter Tryz.func127, Tryz.ntmps127
          go_wp2_with fail
          go_ret
          exact ⟨by simp <;> omega, (Grew.refl w).alloc _⟩
      · go_enter Tryz.func127, Tryz.ntmps127
        go_wp2_with fail
        go_ret
        exact ⟨by simp <;> omega, (Grew.refl w).alloc _⟩
    · go_enter Tryz.func127, Tryz.ntmps127
      go_wp2_with fail
      go_ret
      exact ⟨by simp <;> omega, (Grew.refl w).alloc _⟩
  · go_enter Tryz.func127, Tryz.ntmps127
    go_wp2_with fail
    go_ret
    exact ⟨by simp <;> omega, (Grew.refl w).alloc _⟩
theorem hasC_split (W H : Int) (bs : List Bool) (x y : Int) : hasC W H bs x y = (mayC W H bs.length && withB W H x y && bs.getD (y * W + x).toNat false) := rfl
/-- Where a cell's bit lies. -/
theorem cell_at {W H : Int} {bs : List Bool} {x y : Int} (hm : mayC W H bs.length = true) (hw : withB W H x y = true) : ∃ k : Nat, y * W + x = (k : Int) ∧ x + W * y = (k : Int) ∧ k < bs.length ∧ bs.length ≤ 4096 ∧ 0 ≤ y * W ∧ y * W ≤ 4096 ∧ 0 ≤ W * y ∧ W * y ≤ 4096 ∧ 1 ≤ W ∧ W ≤ 64 ∧ 1 ≤ H ∧ H ≤ 64 ∧ bs[k]? = some (bs.getD (y * W + x).toNat false) := by
  obtain ⟨x0, x1, y0, y1⟩ := with_in hw
  have hm' := of_decide_eq_true hm
  obtain ⟨a0, a1, b0, b1, hn⟩ := hm'
  have h1 : 0 ≤ y * W := Int.mul_nonneg y0 (by omega)
  have h2 : (y + 1) * W ≤ H * W := Int.mul_le_mul_of_nonneg_right (by omega) (by omega)
  have h3 : H * W = W * H := Int.mul_comm _ _
  have h4 : (y + 1) * W = y * W + W := by rw [Int.add_mul, Int.one_mul]
  have h5 := (mul_bd (W := W) (H := H) ⟨by omega, a1, by omega, b1⟩).2
  have h6 : W * y = y * W := Int.mul_comm _ _
  have hk : (y * W + x).toNat < bs.length := by omega
  refine ⟨(y * W + x).toNat, by omega, by omega, hk, by omega, h1, by omega, by omega, by omega, a0, a1, b0, b1, ?_⟩
  rw [List.getD_eq_getElem?_getD, List.getElem?_eq_getElem hk]; rfl
set_option maxRecDepth 100000 in
set_option maxHeartbeats 4000000 in
theorem khas_any (W H : Int) (A : Option Addr) (c : Nat) (bs : List Bool) (x y : Int) (w : World) (hb : BoolsR w (.slice A bs.length c) bs) : Calls Tryz.prog 84 #[cellV W H A bs.length c, .int .i64 x, .int .i64 y] w fun e w' => e = .returned (.bool (hasC W H bs x y)) ∧ Grew w w' := by
  rw [hasC_split]
  obtain ⟨A', c', e, l1, l2, l3⟩ := id hb
  injection e with e1 e2 e3
  subst e1; subst e3
  clear e2
  obtain ⟨n, hn⟩ : ∃ n, bs.length = n := ⟨_, rfl⟩
  obtain ⟨m, hm⟩ : ∃ m, mayC W H bs.length = m := ⟨_, rfl⟩
  obtain ⟨i, hi⟩ : ∃ i, withB W H x y = i := ⟨_, rfl⟩
  have hat := fun (h1 : m = true) (h2 : i = true) => cell_at (bs := bs) (hm.trans h1) (hi.trans h2)
  rw [hm, hi]
  rw [hn] at l1 l3 hm hat hb ⊢
  have l2' : n ≤ 9223372036854775807 := by omega
  replace hn := Lib.hid hn
  replace hm := Lib.hid hm
  replace hi := Lib.hid hi
  replace l3 := Lib.hid l3
  replace hat := Lib.hid hat
  clear hb
  cases m
  · go_enter Tryz.func84, Tryz.ntmps84
    go_upto_region 1 with fail
    refine gen_wp ?_
    intro W1 hW1
    have p0 : W1.cell? ⟨w.heap.size, 0, none⟩ = some (.int .i64 W) := by rw [hW1]; simp [go_sem]
    have p1 : W1.cell? ⟨w.heap.size, 1, none⟩ = some (.int .i64 H) := by rw [hW1]; simp [go_sem]
    have p2 : W1.cell? ⟨w.heap.size, 2, none⟩ = some (.slice A n c) := by rw [hW1]; simp [go_sem]
    have G1 : Grew w W1 := by rw [hW1]; exact (Grew.refl _).alloc _
    replace G1 := Lib.hid G1
    clear hW1
    go_wp2_with fail
    refine (kmay_any W H A n c _ l2').mono ?_
    rintro e w1 ⟨rfl, g1⟩
    rw [hm.out]
    replace G1 := Lib.hid (G1.out.trans g1)
    replace p0 := g1.cell p0
    replace p1 := g1.cell p1
    replace p2 := g1.cell p2
    clear g1
    go_wp2_with fail
    go_ret
    exact ⟨rfl, G1.out⟩
  · go_enter Tryz.func84, Tryz.ntmps84
    go_upto_region 1 with fail
    refine gen_wp ?_
    intro W1 hW1
    have p0 : W1.cell? ⟨w.heap.size, 0, none⟩ = some (.int .i64 W) := by rw [hW1]; simp [go_sem]
    have p1 : W1.cell? ⟨w.heap.size, 1, none⟩ = some (.int .i64 H) := by rw [hW1]; simp [go_sem]
    have p2 : W1.cell? ⟨w.heap.size, 2, none⟩ = some (.slice A n c) := by rw [hW1]; simp [go_sem]
    have G1 : Grew w W1 := by rw [hW1]; exact (Grew.refl _).alloc _
    replace G1 := Lib.hid G1
    clear hW1
    go_wp2_with fail
    refine (kmay_any W H A n c _ l2').mono ?_
    rintro e w1 ⟨rfl, g1⟩
    rw [hm.out]
    replace G1 := Lib.hid (G1.out.trans g1)
    replace p0 := g1.cell p0
    replace p1 := g1.cell p1
    replace p2 := g1.cell p2
    clear g1
    go_wp2_with fail
    refine (kwithin_any W H A n c x y _).mono ?_
    rintro e w2 ⟨rfl, g2⟩
    rw [hi.out]
    replace G1 := Lib.hid (G1.out.trans g2)
    replace p0 := g2.cell p0
    replace p1 := g2.cell p1
    replace p2 := g2.cell p2
    clear g2
    cases i
    · go_wp2_with fail
      go_ret
      exact ⟨rfl, G1.out⟩
    · obtain ⟨k, k1, k2, k3, k4, k5, k6, k7, k8, k9, k10, k11, k12, k13⟩ := hat.out (by trivial) (by trivial)
      obtain ⟨b, o, rfl, he⟩ := l3.out (by omega)
      have bc := G1.out.cell (he k _ k13)
      have kl : (k : Int) < (n : Int) := by omega
      obtain ⟨bb, hbb⟩ : ∃ bb, bs.getD (y * W + x).toNat false = bb := ⟨_, rfl⟩
      rw [hbb] at bc
      replace hbb := Lib.hid hbb
      clear he k13
      go_wp2_with fail
      go_ret
      exact ⟨by rw [hbb.out]; rfl, G1.out⟩
set_option maxRecDepth 100000 in
set_option maxHeartbeats 4000000 in
theorem rmay24_any (W H : Int) (A : Option Addr) (n c : Nat) (w : World) (_ : n ≤ 9223372036854775807) : Calls Tryz.prog 46 #[cellV W H A n c] w fun e w' => e = .returned (.bool (mayC W H n)) ∧ Grew w w' := by
  unfold mayC
  by_cases h0 : 1 ≤ W
  · by_cases h1 : W ≤ 64
    · by_cases h2 : 1 ≤ H
      · by_cases h3 : H ≤ 64
        · obtain ⟨m0, m1⟩ := mul_bd (W := W) (H := H) ⟨by omega, by omega, by omega, by omega⟩
          by_cases h4 : (n : Int) = W * H
          · go_enter Tryz.func46, Tryz.ntmps46
            go_wp2_with fail
            go_ret
            exact ⟨by first | rfl | (simp; done) | (simp; omega) | (simp [*]; done) | (simp [*]; omega), (Grew.refl w).alloc _⟩
          · go_enter Tryz.func46, Tryz.ntmps46
            go_wp2_with fail
            go_ret
            exact ⟨by first | rfl | (simp; done) | (simp; omega) | (simp [*]; done) | (simp [*]; omega), (Grew.refl w).alloc _⟩
        · go_enter Tryz.func46, Tryz.ntmps46
          go_wp2_with fail
          go_ret
          exact ⟨by first | rfl | (simp; done) | (simp; omega) | (simp [*]; done) | (simp [*]; omega), (Grew.refl w).alloc _⟩
      · go_enter Tryz.func46, Tryz.ntmps46
        go_wp2_with fail
        go_ret
        exact ⟨by first | rfl | (simp; done) | (simp; omega) | (simp [*]; done) | (simp [*]; omega), (Grew.refl w).alloc _⟩
    · go_enter Tryz.func46, Tryz.ntmps46
      go_wp2_with fail
      go_ret
      exact ⟨by first | rfl | (simp; done) | (simp; omega) | (simp [*]; done) | (simp [*]; omega), (Grew.refl w).alloc _⟩
  · go_enter Tryz.func46, Tryz.ntmps46
    go_wp2_with fail
    go_ret
    exact ⟨by first | rfl | (simp; done) | (simp; omega) | (simp [*]; done) | (simp [*]; omega), (Grew.refl w).alloc _⟩
set_option maxRecDepth 100000 in
set_option maxHeartbeats 4000000 in
theorem rhas24_any (W H : Int) (A : Option Addr) (c : Nat) (bs : List Bool) (x y : Int) (w : World) (hb : BoolsR w (.slice A bs.length c) bs) : Calls Tryz.prog 95 #[cellV W H A bs.length c, .int .i64 x, .int .i64 y] w fun e w' => e = .returned (.bool (hasC W H bs x y)) ∧ Grew w w' := by
  rw [hasC_split]
  obtain ⟨A', c', e, l1, l2, l3⟩ := id hb
  injection e with e1 e2 e3
  subst e1; subst e3
  clear e2
  obtain ⟨n, hn⟩ : ∃ n, bs.length = n := ⟨_, rfl⟩
  obtain ⟨m, hm⟩ : ∃ m, mayC W H bs.length = m := ⟨_, rfl⟩
  obtain ⟨i, hi⟩ : ∃ i, withB W H x y = i := ⟨_, rfl⟩
  have hat := fun (h1 : m = true) (h2 : i = true) => cell_at (bs := bs) (hm.trans h1) (hi.trans h2)
  rw [hm, hi]
  rw [hn] at l1 l3 hm hat hb ⊢
  have l2' : n ≤ 9223372036854775807 := by omega
  replace hn := Lib.hid hn
  replace hm := Lib.hid hm
  replace hi := Lib.hid hi
  replace l3 := Lib.hid l3
  replace hat := Lib.hid hat
  clear hb
  cases m
  · go_enter Tryz.func95, Tryz.ntmps95
    go_upto_region 1 with fail
    refine gen_wp ?_
    intro W1 hW1
    have p0 : W1.cell? ⟨w.heap.size, 0, none⟩ = some (.int .i64 W) := by rw [hW1]; simp [go_sem]
    have p1 : W1.cell? ⟨w.heap.size, 1, none⟩ = some (.int .i64 H) := by rw [hW1]; simp [go_sem]
    have p2 : W1.cell? ⟨w.heap.size, 2, none⟩ = some (.slice A n c) := by rw [hW1]; simp [go_sem]
    have G1 : Grew w W1 := by rw [hW1]; exact (Grew.refl _).alloc _
    replace G1 := Lib.hid G1
    clear hW1
    go_wp2_with fail
    refine (rmay24_any W H A n c _ l2').mono ?_
    rintro e w1 ⟨rfl, g1⟩
    rw [hm.out]
    replace G1 := Lib.hid (G1.out.trans g1)
    replace p0 := g1.cell p0
    replace p1 := g1.cell p1
    replace p2 := g1.cell p2
    clear g1
    go_wp2_with fail
    go_ret
    exact ⟨rfl, G1.out⟩
  · go_enter Tryz.func95, Tryz.ntmps95
    go_upto_region 1 with fail
    refine gen_wp ?_
    intro W1 hW1
    have p0 : W1.cell? ⟨w.heap.size, 0, none⟩ = some (.int .i64 W) := by rw [hW1]; simp [go_sem]
    have p1 : W1.cell? ⟨w.heap.size, 1, none⟩ = some (.int .i64 H) := by rw [hW1]; simp [go_sem]
    have p2 : W1.cell? ⟨w.heap.size, 2, none⟩ = some (.slice A n c) := by rw [hW1]; simp [go_sem]
    have G1 : Grew w W1 := by rw [hW1]; exact (Grew.refl _).alloc _
    replace G1 := Lib.hid G1
    clear hW1
    go_wp2_with fail
    refine (rmay24_any W H A n c _ l2').mono ?_
    rintro e w1 ⟨rfl, g1⟩
    rw [hm.out]
    replace G1 := Lib.hid (G1.out.trans g1)
    replace p0 := g1.cell p0
    replace p1 := g1.cell p1
    replace p2 := g1.cell p2
    clear g1
    cases i
    · by_cases h0 : 0 ≤ x
      · by_cases h1 : 0 ≤ y
        · by_cases h2 : x < W
          · have h3 : ¬ y < H := fun h => absurd (show withB W H x y = true from decide_eq_true ⟨h0, h2, h1, h⟩) (by rw [hi.out]; simp)
            go_wp2_with fail
            go_ret
            exact ⟨rfl, G1.out⟩
          · go_wp2_with fail
            go_ret
            exact ⟨rfl, G1.out⟩
        · go_wp2_with fail
          go_ret
          exact ⟨rfl, G1.out⟩
      · go_wp2_with fail
        go_ret
        exact ⟨rfl, G1.out⟩
    · have hi2 := of_decide_eq_true hi.out
      obtain ⟨x0, x1, y0, y1⟩ := hi2
      obtain ⟨k, k1, k2, k3, k4, k5, k6, k7, k8, k9, k10, k11, k12, k13⟩ := hat.out (by trivial) (by trivial)
      obtain ⟨b, o, rfl, he⟩ := l3.out (by omega)
      have bc := G1.out.cell (he k _ k13)
      have kl : (k : Int) < (n : Int) := by omega
      obtain ⟨bb, hbb⟩ : ∃ bb, bs.getD (y * W + x).toNat false = bb := ⟨_, rfl⟩
      rw [hbb] at bc
      replace hbb := Lib.hid hbb
      clear he k13
      go_wp2_with fail
      go_ret
      exact ⟨by rw [hbb.out]; rfl, G1.out⟩
set_option maxRecDepth 100000 in
set_option maxHeartbeats 4000000 in
theorem okind_any (a b : Bool) (w : World) : Calls Tryz.prog 83 #[.bool a, .bool b] w fun e w' => e = .returned (.int .i64 (kindZ a b)) ∧ w' = w := by
  cases a
  · cases b
    · go_enter Tryz.func83, Tryz.ntmps83
      go_wp2_with fail
      go_ret
      exact ⟨rfl, rfl⟩
    · go_enter Tryz.func83, Tryz.ntmps83
      go_wp2_with fail
      go_ret
      exact ⟨rfl, rfl⟩
  · cases b
    · go_enter Tryz.func83, Tryz.ntmps83
      go_wp2_with fail
      go_ret
      exact ⟨rfl, rfl⟩
    · go_enter Tryz.func83, Tryz.ntmps83
      go_wp2_with fail
      go_ret
      exact ⟨rfl, rfl⟩
set_option maxRecDepth 100000 in
set_option maxHeartbeats 4000000 in
theorem oway_any (ax ay bx b_y : Int) (f : Bool) (w : World) (h0 : -64 ≤ ax ∧ ax ≤ 64) (h1 : -64 ≤ ay ∧ ay ≤ 64) (h2 : -64 ≤ bx ∧ bx ≤ 64) (h3 : -64 ≤ b_y ∧ b_y ≤ 64) :
    Calls Tryz.prog 87 #[ptV ax ay, ptV bx b_y, .bool f] w fun e w' => e = .returned (if f = true then segV (256 * ax) (256 * ay) (256 * bx) (256 * b_y) else segV (256 * bx) (256 * b_y) (256 * ax) (256 * ay)) ∧ Grew w w' := by
  obtain ⟨h0, h0'⟩ := h0
  obtain ⟨h1, h1'⟩ := h1
  obtain ⟨h2, h2'⟩ := h2
  obtain ⟨h3, h3'⟩ := h3
  cases f
  · go_enter Tryz.func87, Tryz.ntmps87
    go_wp2_with fail
    exact bodyPost_ret (v := segV (256 * bx) (256 * b_y) (256 * ax) (256 * ay)) (by simp [results, Tryz.results87, go_sem]) rfl ⟨rfl, by
      repeat (first | exact Grew.refl _ | refine Grew.setCell ?_ (by simp <;> omega) _ | refine Grew.alloc ?_ _)⟩
  · go_enter Tryz.func87, Tryz.ntmps87
    go_wp2_with fail
    exact bodyPost_ret (v := segV (256 * ax) (256 * ay) (256 * bx) (256 * b_y)) (by simp [results, Tryz.results87, go_sem]) rfl ⟨rfl, by
      repeat (first | exact Grew.refl _ | refine Grew.setCell ?_ (by simp <;> omega) _ | refine Grew.alloc ?_ _)⟩
end Go.Proofs.YtngbcbncllfblaaGreat
namespace Go.Proofs.YtngbcbncllfblaaGreat
open Go.RowKit

theorem segVals_len : ∀ l : List SegZ, (segVals l).length = l.length * 4
  | [] => rfl
  | s :: l => by simp only [segVals, List.length_cons, segVals_len l]; omega
theorem segVals_one : ∀ (l : List SegZ) (u : Value), u ∈ segVals l → u.oneCell' = true
  | [], u, h => by simp [segVals] at h
  | s :: l, u, h => by
    simp only [segVals, List.mem_cons] at h
    rcases h with rfl | rfl | rfl | rfl | h
    · rfl
    · rfl
    · rfl
    · rfl
    · exact segVals_one l u h
end Go.Proofs.YtngbcbncllfblaaGreat
namespace Go.Proofs.YtngbcbncllfblaaGreat
open Go.RowKit

/-- An operation is taken first, its slot written out. -/
theorem wpAnyH_takeD {P : Program} {ops : Array Oper} {Q : Exit → Act → World → Prop} {md : Region.Mode} {S : World → Prop} {i d : Nat} {oi : Oper} {v : Value} {fuel : Nat} {listed : Array Bool} {a : Act} {w : World} (hi : ops[i]? = some oi) (hd : oi.dst = some d)
    (hs : Region.noSelect ops = true) (hf : Region.free md ops listed i = true) (hr : (Region.ready md ops listed).contains i = true)
    (hQ : ∀ c a w, Q (.panic c) (a.put (some d) v) w → Q (.panic c) a w) (hy : YieldsIf P ops S oi v a) (hS : S w)
    (h : wpAnyH P md ops Q S fuel (listed.setIfInBounds i true) (a.put (some d) v) w) : wpAnyH P md ops Q S (fuel + 1) listed a w :=
  wpAnyH_take hi hs hf hr (by rw [hd]; exact hQ) hy hS (by rw [hd]; exact h)
end Go.Proofs.YtngbcbncllfblaaGreat
namespace Go.Proofs.YtngbcbncllfblaaGreat
open Go.RowKit

/-- A value that is no int. -/
def NoInt (u : Value) : Prop := ∀ k x, u ≠ .int k x
/-- A block none of whose cells is an int. -/
def NoInts (w : World) (g : Nat) : Prop := ∀ p u, w.cell? ⟨g, p, none⟩ = some u → NoInt u
/-- A row of structs that a call owns, and that holds no int. -/
def OwnS (w : World) (base : Nat) (e : TypeId) (size : Nat) (v : Value) (n : Nat) (xs : List Value) : Prop :=
  w.ownsRow base e size v n xs ∧ ∀ g, v.ownBlock = some g → NoInts w g

theorem OwnS.nil (w : World) (base : Nat) (e : TypeId) (size : Nat) : OwnS w base e size (.slice none 0 0) 0 [] := ⟨World.ownsRow_nil _ _ _ _, fun g h => by simp [Value.ownBlock] at h⟩

/-- What is written into such a row turns no number. -/
theorem keeps_of_grown {w w' : World} {row : Option Nat} (hg : w.grownBy w' row) (hn : ∀ g, row = some g → NoInts w g) : Keeps w w' := by
  intro B K v N k h
  obtain ⟨A, c, hv, h1, h2, h4, h3⟩ := h
  refine ⟨A, c, hv, h1, h2, h4, fun hk => ?_⟩
  obtain ⟨b, off, hA, hc⟩ := h3 hk
  refine ⟨b, off, hA, fun i hi => ?_⟩
  refine hg.cell (hc i hi) fun e => ?_
  exact hn b e.symm _ _ (hc i hi) K _ rfl

section
variable {P : Program} (w : World)

theorem run_appS (base : Nat) (t ty e : TypeId) (i : TypeInfo) (z : Value) (size bytes : Nat) (ht : P.underlying t = some (.slice e)) (hi : P.info? e = some i) (hz : i.zero = some z)
    (hsize : i.size = size) (hby : i.bytes = bytes) (hzs : z.cells.size = size) (hsz : 0 < size) (hzn : ∀ u ∈ z.cells, NoInt u)
    (v : Value) (n : Nat) (xs : List Value) (hown : OwnS w base e size v n xs)
    (a : Addr) (m c : Nat) (news : List Value) (hl : news.length = m * size) (hnews : ∀ j u, news[j]? = some u → w.cell? (a.add j) = some u) (h1 : ∀ u ∈ news, u.oneCell' = true) (hnn : ∀ u ∈ news, NoInt u)
    (h63 : n + m ≤ maxLen) (hbytes : (n + m) * bytes ≤ 140737488355328) (hbase : base ≤ w.heap.size) :
    ∃ v' w', (Builtin.append_ #[t, t] ty #[v, .slice (some a) m c]).run P w = .ok v' w' ∧ OwnS w' base e size v' (n + m) (xs ++ news) ∧ w.grownBy w' v.ownBlock ∧ w.drawn ≤ w'.drawn ∧ Keeps w w' := by
  obtain ⟨hown, hni⟩ := hown
  obtain ⟨v', w', hr, h2, h3, h4⟩ := run_append_own (P := P) w base t ty e i z size bytes ht hi hz hsize hby hzs hsz v n xs hown a m c news hl hnews h1 h63 hbytes hbase
  have hd := drawn_append (P := P) w base t ty e i z size bytes ht hi hz hsize hby hsz v n xs hown a m c news hl hnews h1 h63 hbytes v' w' hr
  refine ⟨v', w', hr, ⟨h2, ?_⟩, h3, hd, keeps_of_grown h3 hni⟩
  subst hsize
  subst hby
  have hzero : ∀ k, ∀ u ∈ Builtin.zeroCells z.cells k, NoInt u := by
    intro k u hu
    simp only [Builtin.zeroCells, Array.mem_map, Array.mem_range] at hu
    obtain ⟨j, -, rfl⟩ := hu
    have hlt : j % z.cells.size < z.cells.size := Nat.mod_lt _ (by omega)
    rw [getElem!_pos z.cells _ hlt]
    exact hzn _ (Array.getElem_mem hlt)
  have hsmall : n + m ≤ 9223372036854775807 := by simp only [maxLen] at h63; omega
  have hblk : ∀ (W : World) (b : Nat) (cs : Array Value), W.heap[b]? = some (.cells cs e (0, 0)) → (∀ u ∈ cs, NoInt u) → NoInts W b := by
    intro W b cs hb hcs p u hu
    rw [cell_of_row W b p cs e (0, 0) hb] at hu
    exact hcs u (Array.mem_of_getElem? hu)
  rcases hown.2 with ⟨rfl, rfl⟩ | ⟨g, cap, cur, rfl, hbg, hg, hnc, hcm, hcs, htake⟩
  · by_cases hm : m = 0
    · subst hm
      have e1 : (Builtin.append_ #[t, t] ty #[.slice none 0 0, .slice (some a) 0 c]).run P w = .ok (.slice none 0 0) w := by
        simp [Builtin.append_, run_underlying ht, sizeOf, typeInfo, hi, Builtin.lenOf, Builtin.firstCells, loadCells, loadCellsFrom]
      rw [e1] at hr
      injection hr with hv _
      subst hv
      intro g hg
      simp [Value.ownBlock] at hg
    · have e1 := run_append_nil (P := P) w t ty e i z ht hi hz a m c news hl hnews (by omega) (by omega) (by have hb := hbytes; simp only [Nat.zero_add] at hb; omega)
      rw [e1] at hr
      injection hr with hv hw
      subst hv
      subst hw
      intro g hg
      simp only [Value.ownBlock, Option.some.injEq] at hg
      subst hg
      refine hblk _ _ _ (heap_alloc_new w.drew _) fun u hu => ?_
      simp only [Array.mem_append, List.mem_toArray] at hu
      exact hu.elim (hnn u) (hzero _ u)
  · have hcur : ∀ u ∈ cur, NoInt u := by
      intro u hu
      obtain ⟨p, hp⟩ := Array.getElem?_of_mem hu
      exact hni g rfl p u (by rw [cell_of_row w g p cur e (0, 0) hg]; exact hp)
    by_cases hroom : n + m ≤ cap
    · have hfit : n * i.size + news.length ≤ cur.size := by rw [hl, hcs, ← Nat.add_mul]; exact Nat.mul_le_mul_right _ hroom
      have e1 := run_append_room (P := P) w t ty e i ht hi g n cap cur hg a m c news hl hnews h1 hroom hfit
      rw [e1] at hr
      injection hr with hv hw
      subst hv
      subst hw
      intro g' hg'
      simp only [Value.ownBlock, Option.some.injEq] at hg'
      subst hg'
      refine hblk _ _ _ (setRow_heap w g cur _ e (0, 0) hg) fun u hu => ?_
      simp only [List.mem_toArray, List.mem_append] at hu
      rcases hu with (hu | hu) | hu
      · exact hcur u (by simpa using List.mem_of_mem_take hu)
      · exact hnn u hu
      · exact hcur u (by simpa using List.mem_of_mem_drop hu)
    · have holds : ∀ j u, xs[j]? = some u → w.cell? ((⟨g, 0, none⟩ : Addr).add j) = some u := hown.cells (g := g) rfl
      have e1 := run_append_grow (P := P) w t ty e i z ht hi hz ⟨g, 0, none⟩ n cap xs hown.1 holds a m c news hl hnews (by omega) (by omega) (growslice_fits (by omega) hbytes)
      rw [e1] at hr
      injection hr with hv hw
      subst hv
      subst hw
      intro g' hg'
      simp only [Value.ownBlock, Option.some.injEq] at hg'
      subst hg'
      refine hblk _ _ _ (heap_alloc_new w.drew _) fun u hu => ?_
      simp only [Array.mem_append, List.mem_toArray] at hu
      rcases hu with (hu | hu) | hu
      · exact hcur u (by rw [← htake] at hu; simpa using List.mem_of_mem_take hu)
      · exact hnn u hu
      · exact hzero _ u hu

end
end Go.Proofs.YtngbcbncllfblaaGreat
