/- r25.Ways. Condition: the cells read. The references' digits: r01.at, r01.cut. Conditions: what comes in reads. r01.Half: a number's words as digits of 16 bits. Condition: what comes in reads; fewer than 2^40 words. r01.Words: digits of 16 bits as words. Condition: what comes in reads; fewer than 2^40 digits. -/
import Derived.Test.YtngbcbncllfblaaGreatJOutM
import Derived.Test.YtngbcbncllfblaaGreatJOutK
import Derived.Test.YtngbcbncllfblaaGreatJSub
import Derived.Deep.RegionLaw
import Derived.Deep.RegionHeld3
namespace Go.Proofs.YtngbcbncllfblaaGreat
open Go.RowKit

instance (x y : Rn) : Decidable (aheadR x y) := by unfold aheadR; infer_instance
def ltR (x y : Rn) : Bool := decide (aheadR x y)
theorem ltR_spec (x y : Rn) : ltR x y = true ↔ aheadR x y := decide_eq_true_iff
theorem ordR_snoc (lt : Rn → Rn → Bool) (l : List Rn) (p : Rn) : ordR lt (l ++ [p]) = insR lt p (ordR lt l) := by unfold ordR; rw [List.foldl_append]; rfl
theorem insR_len (lt : Rn → Rn → Bool) (p : Rn) : ∀ os : List Rn, (insR lt p os).length = os.length + 1
  | [] => rfl
  | o :: os => by
    unfold insR
    split
    · rfl
    · simp [insR_len lt p os]
theorem ordR_lenF (lt : Rn → Rn → Bool) : ∀ l s : List Rn, (l.foldl (fun out p => insR lt p out) s).length = s.length + l.length
  | [], s => rfl
  | p :: l, s => by rw [List.foldl_cons, ordR_lenF lt l, insR_len, List.length_cons]; omega
theorem ordR_len (lt : Rn → Rn → Bool) (l : List Rn) : (ordR lt l).length = l.length := by unfold ordR; rw [ordR_lenF]; simp
theorem ordR_memF (lt : Rn → Rn → Bool) (q : Rn) : ∀ l s : List Rn, q ∈ l.foldl (fun out p => insR lt p out) s ↔ q ∈ l ∨ q ∈ s
  | [], s => by simp
  | p :: l, s => by
    rw [List.foldl_cons, ordR_memF lt q l, insR_mem, List.mem_cons]
    constructor
    · rintro (h | h | h)
      · exact .inl (.inr h)
      · exact .inl (.inl h)
      · exact .inr h
    · rintro ((h | h) | h)
      · exact .inr (.inl h)
      · exact .inl h
      · exact .inr (.inr h)
theorem ordR_mem (lt : Rn → Rn → Bool) (l : List Rn) (q : Rn) : q ∈ ordR lt l ↔ q ∈ l := by unfold ordR; rw [ordR_memF]; simp

set_option maxRecDepth 100000 in
set_option maxHeartbeats 16000000 in
theorem rways_no (W H : Int) (A : Option Addr) (c : Nat) (bs : List Bool) (w : World) (l2' : bs.length ≤ 9223372036854775807) (hm' : Hid (mayC W H bs.length = false)) :
    Calls Tryz.prog 14 #[cellV W H A bs.length c] w fun e w' => ∃ v', e = .returned v' ∧ ∃ l : List Rn, IsWays (hasC W H bs) l ∧ l.length ≤ 16384 ∧ SegsR w' v' (l.map segOf) ∧ Grew w w' := by
  have hc0 := Lib.hid (show Cov (hasC 0 0 []) [] from sides_cov (W := 0) (H := 0) fun x y h => absurd h (by simp [hasC, mayC]))
  by_cases h0 : (0 : Int) < H
  · skip
    go_enter Tryz.func14, Tryz.ntmps14
    go_upto_region 1 with fail
    refine gen_wp ?_
    intro W1 hW1
    have p0 : W1.cell? ⟨w.heap.size, 0, none⟩ = some (.int .i64 W) := by rw [hW1]; simp [go_sem]
    have p1 : W1.cell? ⟨w.heap.size, 1, none⟩ = some (.int .i64 H) := by rw [hW1]; simp [go_sem]
    have p2 : W1.cell? ⟨w.heap.size, 2, none⟩ = some (.slice A bs.length c) := by rw [hW1]; simp [go_sem]
    have G1 := Lib.hid (show Grew w W1 by rw [hW1]; exact (Grew.refl _).alloc _)
    replace p0 := Lib.hid p0
    replace p1 := Lib.hid p1
    replace p2 := Lib.hid p2
    clear hW1
    go_wp2_with fail
    go_loopg [3, 4] 0 (fun gk s3 s4 wr => gk = 0 ∧ s3 = .slice none 0 0 ∧ s4 = .int .i64 0 ∧ Grew W1 wr)
    case atStart => exact ⟨rfl, rfl, rfl, Grew.refl _⟩
    case round =>
      obtain ⟨rfl, rfl, rfl, hG⟩ := hrel
      have q0 := hG.cell p0.out
      have q1 := hG.cell p1.out
      have q2 := hG.cell p2.out
      have hG2 := Lib.hid (G1.out.trans hG)
      clear hG
      go_wp2_with fail
      refine (rmay24_any W H A _ c _ l2').mono ?_
      rintro e w1 ⟨rfl, g1⟩
      rw [hm'.out]
      replace hG2 := Lib.hid (hG2.out.trans g1)
      clear g1
      go_wp2_with fail
      refine (join_any 0 0 [] _ [] _ ⟨none, 0, rfl, by simp, by omega, by simp⟩ hc0.out (by omega) (by omega) (by simp)).mono ?_
      rintro e wj ⟨v9, rfl, m, hC, hno, hml, hSm, g9⟩
      have hmn : m = [] := List.eq_nil_iff_forall_not_mem.2 fun r hr => by
        have h1 := (hC.max hno r).1 hr
        exact absurd (((has_no (W := 0) (H := 0) (bs := []) rfl).2 r).2 h1) (by simp)
      subst hmn
      obtain ⟨Am, cm, rfl, hs1, hs2, -⟩ := hSm
      have hs1' : 0 ≤ cm := hs1
      have hGj := Lib.hid (hG2.out.trans g9)
      clear hC hno hml g9 hG2 p0 p1 p2 q0 q1 q2 G1
      simp only [List.map_nil, List.length_nil] at hs1 ⊢
      go_wp2_with fail
      go_loopg [9, 10] 0 (fun gk s9 s10 wr => gk = 0 ∧ s9 = .slice none 0 0 ∧ s10 = .int .i64 0 ∧ Grew wj wr)
      case atStart => exact ⟨rfl, rfl, rfl, Grew.refl _⟩
      case round =>
        obtain ⟨rfl, rfl, rfl, hG⟩ := hrel
        have hGz := Lib.hid (hGj.out.trans hG)
        clear hG
        go_wp2_with fail
        go_ret
        exact ⟨_, rfl, [], has_no hm'.out, by simp, ⟨none, 0, rfl, by simp, by omega, by simp⟩, hGz.out⟩
  · skip
    go_enter Tryz.func14, Tryz.ntmps14
    go_upto_region 1 with fail
    refine gen_wp ?_
    intro W1 hW1
    have p0 : W1.cell? ⟨w.heap.size, 0, none⟩ = some (.int .i64 W) := by rw [hW1]; simp [go_sem]
    have p1 : W1.cell? ⟨w.heap.size, 1, none⟩ = some (.int .i64 H) := by rw [hW1]; simp [go_sem]
    have p2 : W1.cell? ⟨w.heap.size, 2, none⟩ = some (.slice A bs.length c) := by rw [hW1]; simp [go_sem]
    have G1 := Lib.hid (show Grew w W1 by rw [hW1]; exact (Grew.refl _).alloc _)
    replace p0 := Lib.hid p0
    replace p1 := Lib.hid p1
    replace p2 := Lib.hid p2
    clear hW1
    go_wp2_with fail
    go_loopg [3, 4] 0 (fun gk s3 s4 wr => gk = 0 ∧ s3 = .slice none 0 0 ∧ s4 = .int .i64 0 ∧ Grew W1 wr)
    case atStart => exact ⟨rfl, rfl, rfl, Grew.refl _⟩
    case round =>
      obtain ⟨rfl, rfl, rfl, hG⟩ := hrel
      have q0 := hG.cell p0.out
      have q1 := hG.cell p1.out
      have q2 := hG.cell p2.out
      have hG2 := Lib.hid (G1.out.trans hG)
      clear hG
      go_wp2_with fail
      refine (join_any 0 0 [] _ [] _ ⟨none, 0, rfl, by simp, by omega, by simp⟩ hc0.out (by omega) (by omega) (by simp)).mono ?_
      rintro e wj ⟨v9, rfl, m, hC, hno, hml, hSm, g9⟩
      have hmn : m = [] := List.eq_nil_iff_forall_not_mem.2 fun r hr => by
        have h1 := (hC.max hno r).1 hr
        exact absurd (((has_no (W := 0) (H := 0) (bs := []) rfl).2 r).2 h1) (by simp)
      subst hmn
      obtain ⟨Am, cm, rfl, hs1, hs2, -⟩ := hSm
      have hs1' : 0 ≤ cm := hs1
      have hGj := Lib.hid (hG2.out.trans g9)
      clear hC hno hml g9 hG2 p0 p1 p2 q0 q1 q2 G1
      simp only [List.map_nil, List.length_nil] at hs1 ⊢
      go_wp2_with fail
      go_loopg [9, 10] 0 (fun gk s9 s10 wr => gk = 0 ∧ s9 = .slice none 0 0 ∧ s10 = .int .i64 0 ∧ Grew wj wr)
      case atStart => exact ⟨rfl, rfl, rfl, Grew.refl _⟩
      case round =>
        obtain ⟨rfl, rfl, rfl, hG⟩ := hrel
        have hGz := Lib.hid (hGj.out.trans hG)
        clear hG
        go_wp2_with fail
        go_ret
        exact ⟨_, rfl, [], has_no hm'.out, by simp, ⟨none, 0, rfl, by simp, by omega, by simp⟩, hGz.out⟩

set_option maxRecDepth 100000 in
set_option maxHeartbeats 16000000 in
theorem rways_yes (W H : Nat) (A : Option Addr) (c : Nat) (bs : List Bool) (w : World) (hb : BoolsR w (.slice A bs.length c) bs) (l2' : bs.length ≤ 9223372036854775807) (hm' : Hid (mayC W H bs.length = true)) (hW : W ≤ 64) (hH : H ≤ 64) :
    Calls Tryz.prog 14 #[cellV W H A bs.length c] w fun e w' => ∃ v', e = .returned v' ∧ ∃ l : List Rn, IsWays (hasC W H bs) l ∧ l.length ≤ 16384 ∧ SegsR w' v' (l.map segOf) ∧ Grew w w' := by
  go_enter Tryz.func14, Tryz.ntmps14
  go_upto_region 1 with fail
  refine gen_wp ?_
  intro W1 hW1
  have p0 : W1.cell? ⟨w.heap.size, 0, none⟩ = some (.int .i64 W) := by rw [hW1]; simp [go_sem]
  have p1 : W1.cell? ⟨w.heap.size, 1, none⟩ = some (.int .i64 H) := by rw [hW1]; simp [go_sem]
  have p2 : W1.cell? ⟨w.heap.size, 2, none⟩ = some (.slice A bs.length c) := by rw [hW1]; simp [go_sem]
  have G1 : Grew w W1 := by rw [hW1]; exact (Grew.refl _).alloc _
  have hbW := Lib.hid (hb.grew G1)
  replace G1 := Lib.hid G1
  replace p0 := Lib.hid p0
  replace p1 := Lib.hid p1
  replace p2 := Lib.hid p2
  clear hW1 hb
  go_wp2_with fail
  go_loopg [3, 4] H (fun gk s3 s4 wr => ∃ y : Nat, gk + y = H ∧ s4 = .int .i64 y ∧ wr.ownsRow W1.heap.size 76 4 s3 ((sidesY (hasC W H bs) W y).map segOf).length (segVals ((sidesY (hasC W H bs) W y).map segOf)) ∧ Grew W1 wr)
  case atStart => exact ⟨0, rfl, rfl, World.ownsRow_nil _ _ _ _, Grew.refl _⟩
  case round =>
    obtain ⟨y, hgy, rfl, hO, hG⟩ := hrel
    have q0 := hG.cell p0.out
    have q1 := hG.cell p1.out
    have q2 := hG.cell p2.out
    by_cases hy : y < H
    · have hyl : (y : Int) < (H : Int) := by omega
      have hO' := Lib.hid hO
      have hG' := Lib.hid hG
      clear hO hG
      obtain ⟨wo, rfl⟩ : ∃ wo : World, wo = wr := ⟨_, rfl⟩
      obtain ⟨gy, rfl⟩ : ∃ gy : Nat, gy = gk := ⟨_, rfl⟩
      go_wp2_with fail
      refine (rmay24_any W H A _ c _ l2').mono ?_
      rintro e w1 ⟨rfl, g1⟩
      rw [hm'.out]
      have hO1 := Lib.hid (ownsRow_grew hO'.out g1)
      have hG1 := Lib.hid (hG'.out.trans g1)
      clear g1 hO' hG' q0 q1 q2
      go_wp2_with fail
      go_loopg [3, 5] W (fun gk s3 s5 wx => ∃ x : Nat, gk + x = W ∧ s5 = .int .i64 x ∧ wx.ownsRow W1.heap.size 76 4 s3 ((sidesY (hasC W H bs) W y ++ sidesX (hasC W H bs) y x).map segOf).length (segVals ((sidesY (hasC W H bs) W y ++ sidesX (hasC W H bs) y x).map segOf)) ∧ Grew W1 wx)
      case atStart => exact ⟨0, rfl, rfl, by simp only [sidesX, List.range_zero, List.flatMap_nil, List.append_nil]; exact hO1.out, hG1.out⟩
      case round =>
        obtain ⟨x, hgx, rfl, hO, hG⟩ := hrel
        have q0 := hG.cell p0.out
        have q1 := hG.cell p1.out
        have q2 := hG.cell p2.out
        by_cases hx : x < W
        · have hxl : (x : Int) < (W : Int) := by omega
          have hO' := Lib.hid hO
          have hG' := Lib.hid hG
          clear hO hG
          obtain ⟨wp, rfl⟩ : ∃ wp : World, wp = wr := ⟨_, rfl⟩
          obtain ⟨gx, rfl⟩ : ∃ gx : Nat, gx = gk := ⟨_, rfl⟩
          clear q0 q1 q2
          have q0 := Lib.hid (hG'.out.cell p0.out)
          replace q0 := q0.out
          go_wp2_with fail
          clear q0
          go_loopg [3, 6] 4 (fun gk s3 s6 wz => ∃ k : Nat, gk + k = 4 ∧ s6 = .int .i64 k ∧ wz.ownsRow W1.heap.size 76 4 s3 ((sidesY (hasC W H bs) W y ++ sidesX (hasC W H bs) y x ++ sidesK (hasC W H bs) x y k).map segOf).length (segVals ((sidesY (hasC W H bs) W y ++ sidesX (hasC W H bs) y x ++ sidesK (hasC W H bs) x y k).map segOf)) ∧ Grew W1 wz)
          case atStart => exact ⟨0, rfl, rfl, by simp only [sidesK, List.range_zero, List.filter_nil, List.map_nil, List.append_nil]; exact hO'.out, hG'.out⟩
          case round =>
            obtain ⟨k, hgk, rfl, hO, hG⟩ := hrel
            by_cases hk : k < 4
            · have hkl : (k : Int) < 4 := by omega
              have q0 := hG.cell p0.out
              have q1 := hG.cell p1.out
              have q2 := hG.cell p2.out
              have hbr := Lib.hid (hbW.out.grew hG)
              have hO' := Lib.hid hO
              have hG' := Lib.hid hG
              clear hO hG
              have hsd := side_any W H A c bs x y k (by omega) (by omega) hk
              have hsu := sidesK_succ (hasC W H bs) x y k
              obtain ⟨⟨⟨⟨ax, ay⟩, bx, b_y⟩, hss⟩⟩ : Nonempty { z : SegZ // segOf (unitOf x y k) = z } := ⟨⟨_, rfl⟩⟩
              obtain ⟨b, hbi⟩ : ∃ b, sideIn (hasC W H bs) x y k = b := ⟨_, rfl⟩
              rw [hss, hbi] at hsd
              rw [hbi] at hsu
              have hll : ((sidesY (hasC W H bs) W y ++ sidesX (hasC W H bs) y x ++ sidesK (hasC W H bs) x y k).map segOf).length ≤ 1048576 := by
                have h1 := sidesY_len (hasC W H bs) W y
                have h2 := sidesX_len (hasC W H bs) y x
                have h3 := sidesK_len (hasC W H bs) x y k
                have h4 : y * (4 * W) ≤ 64 * (4 * 64) := Nat.mul_le_mul (by omega) (by omega)
                rw [List.length_map, List.length_append, List.length_append]; omega
              replace hsd := Lib.hid hsd
              replace hss := Lib.hid hss
              clear hbi
              go_wp2_with fail
              refine (hsd.out _ hbr.out).mono ?_
              rintro e w2 ⟨rfl, g2⟩
              dsimp only
              obtain ⟨wa, hwa⟩ : ∃ wa, w2.alloc (.cells #[.int .i64 ax, .int .i64 ay, .int .i64 bx, .int .i64 b_y] 76) = wa := ⟨_, rfl⟩
              have ga : Grew w2 wa := by rw [← hwa]; exact (Grew.refl _).alloc _
              have c0 : wa.cell? ⟨w2.heap.size, 0, none⟩ = some (.int .i64 ax) := by rw [← hwa]; simp [go_sem]
              have c1 : wa.cell? ⟨w2.heap.size, 1, none⟩ = some (.int .i64 ay) := by rw [← hwa]; simp [go_sem]
              have c2 : wa.cell? ⟨w2.heap.size, 2, none⟩ = some (.int .i64 bx) := by rw [← hwa]; simp [go_sem]
              have c3 : wa.cell? ⟨w2.heap.size, 3, none⟩ = some (.int .i64 b_y) := by rw [← hwa]; simp [go_sem]
              have hO2 := Lib.hid (ownsRow_grew (ownsRow_grew hO'.out g2) ga)
              have hG2 := Lib.hid ((hG'.out.trans g2).trans ga)
              have hsz := hG2.out.size
              clear g2 ga hO' hG' q0 q1 q2 hbr
              cases b
              · have hs2 := Lib.hid (show sidesK (hasC W H bs) x y (k + 1) = sidesK (hasC W H bs) x y k by rw [hsu, if_neg (by simp), List.append_nil])
                clear hsu
                go_wp2_with fail
                go_roundg (gk - 1)
                case rel => exact ⟨k + 1, by omega, by go_num, by rw [hs2.out]; exact hO2.out, hG2.out⟩
                case measure => omega
              · have hs2 := Lib.hid (show (sidesY (hasC W H bs) W y ++ sidesX (hasC W H bs) y x ++ sidesK (hasC W H bs) x y k).map segOf ++ [((ax, ay), bx, b_y)] = (sidesY (hasC W H bs) W y ++ sidesX (hasC W H bs) y x ++ sidesK (hasC W H bs) x y (k + 1)).map segOf by rw [hsu, if_pos rfl]; simp [hss.out])
                clear hsu
                go_wp2_with (first | fail | (at_builtin; (refine wpList_appSeg rfl (.tmp 43) (.tmp 45) rfl rfl rfl hO2.out hll hsz ?_); intro vB wzB hOB hGB))
                have gzB := Lib.hid (hGB W1 (Nat.le_refl _) hG2.out)
                rw [hs2.out] at hOB
                replace hOB := Lib.hid hOB
                clear hGB hO2 hG2
                go_wp2_with fail
                go_roundg (gk - 1)
                case rel => exact ⟨k + 1, by omega, by go_num, hOB.out, gzB.out⟩
                case measure => omega
            · have ek : k = 4 := by omega
              have hkl : ¬ (k : Int) < 4 := by omega
              have hs2 := Lib.hid (show sidesY (hasC W H bs) W y ++ sidesX (hasC W H bs) y x ++ sidesK (hasC W H bs) x y k = sidesY (hasC W H bs) W y ++ sidesX (hasC W H bs) y (x + 1) by rw [sidesX_succ, ek, List.append_assoc])
              rw [hs2.out] at hO
              have hO2 := Lib.hid hO
              have hG2 := Lib.hid hG
              clear hO hG ek
              go_wp2_with fail
              go_roundg (gx - 1)
              case rel => exact ⟨x + 1, by omega, by go_num, hO2.out, hG2.out⟩
              case measure => omega
        · have ex : x = W := by omega
          have hxl : ¬ (x : Int) < (W : Int) := by omega
          have hs2 := Lib.hid (show sidesY (hasC W H bs) W y ++ sidesX (hasC W H bs) y x = sidesY (hasC W H bs) W (y + 1) by rw [sidesY_succ, ex])
          rw [hs2.out] at hO
          have hO2 := Lib.hid hO
          have hG2 := Lib.hid hG
          replace ex := Lib.hid ex
          clear hO hG
          go_wp2_with fail
          go_roundg (gy - 1)
          case rel => exact ⟨y + 1, by omega, by go_num, hO2.out, hG2.out⟩
          case measure => omega
    · have ey : y = H := by omega
      have hyl : ¬ (y : Int) < (H : Int) := by omega
      rw [ey] at hO
      have hin : ∀ x y, hasC W H bs x y = true → 0 ≤ x ∧ x < W ∧ 0 ≤ y ∧ y < H := fun x y h => hasC_in h
      have hcv := sides_cov hin
      have hS := Lib.hid (segs_own hO (fun z hz => by
        obtain ⟨u, hu, rfl⟩ := List.mem_map.1 hz
        exact seg_bd (cov_bd hcv hu (by omega) (by omega))))
      have hll : (sidesY (hasC W H bs) W H).length ≤ 16384 := by
        have h1 := sidesY_len (hasC W H bs) W H
        have h4 : H * (4 * W) ≤ 64 * (4 * 64) := Nat.mul_le_mul (by omega) (by omega)
        omega
      have hG2 := Lib.hid hG
      replace hcv := Lib.hid hcv
      replace ey := Lib.hid ey
      clear hO hG hin
      go_wp2_with fail
      refine (join_any W H bs _ _ _ hS.out hcv.out (by omega) (by omega) hll).mono ?_
      rintro e wj ⟨v9, rfl, m, hC, hno, hml, hSm, g9⟩
      have hGj := Lib.hid (G1.out.trans (hG2.out.trans g9))
      obtain ⟨M, hMm⟩ : ∃ M, m.length = M := ⟨_, rfl⟩
      have hI := Lib.hid (hC.ways ltR_spec hno)
      have hpb := Lib.hid (fun (r : Rn) (h : r ∈ m) => cov_bd hC h (show (W : Int) ≤ 64 by omega) (show (H : Int) ≤ 64 by omega))
      have hpd := Lib.hid (fun (r : Rn) (h : r ∈ m) => cov_dir hC h)
      clear hC hno g9 hS hcv hll hG2 hyl hy p0 p1 p2 q0 q1 q2 ey hgy hbW
      obtain ⟨Am, cm, rfl, hs1, hs2, hs3⟩ := id hSm
      rw [List.length_map, hMm] at hs1 hs3
      have hMx : M ≤ 9223372036854775807 := by omega
      rw [List.length_map, hMm]
      rw [hMm] at hml
      replace hs3 := Lib.hid hs3
      replace hSm := Lib.hid hSm
      replace hMm := Lib.hid hMm
      go_wp2_with fail
      go_loopg [9, 10] M (fun gk s9 s10 wr => ∃ i : Nat, gk + i = M ∧ s10 = .int .i64 i ∧ wr.ownsRow wj.heap.size 76 4 s9 ((ordR ltR (m.take i)).map segOf).length (segVals ((ordR ltR (m.take i)).map segOf)) ∧ Grew wj wr)
      case atStart => exact ⟨0, rfl, rfl, World.ownsRow_nil _ _ _ _, Grew.refl _⟩
      case round =>
        obtain ⟨i, hgi, rfl, hO, hG⟩ := hrel
        have hmem := Lib.hid (fun (q : Rn) (h : q ∈ ordR ltR (m.take i)) => List.mem_of_mem_take ((ordR_mem ltR _ q).1 h))
        have hSo := segs_own hO (fun z hz => by
          obtain ⟨u, hu, rfl⟩ := List.mem_map.1 hz
          exact seg_bd (hpb.out u (hmem.out u hu)))
        have hol : (ordR ltR (m.take i)).length ≤ i := by rw [ordR_len, List.length_take]; omega
        by_cases hi : i < M
        · obtain ⟨b, o, rfl, he⟩ := hs3.out (by omega)
          obtain ⟨p, hp⟩ : ∃ p, m[i]? = some p := ⟨m[i]'(by rw [hMm.out]; omega), List.getElem?_eq_getElem _⟩
          obtain ⟨⟨⟨⟨cx, cy⟩, dx, dy⟩, hps⟩⟩ : Nonempty { z : SegZ // segOf p = z } := ⟨⟨_, rfl⟩⟩
          obtain ⟨⟨r0, r1, r2, r3⟩, -⟩ := he i ((cx, cy), dx, dy) (by rw [List.getElem?_map, hp]; exact congrArg some hps)
          dsimp only at r0 r1 r2 r3
          have hil : (i : Int) < (M : Int) := by omega
          have hpm := List.mem_of_getElem? hp
          have hnx := Lib.hid (show ordR ltR (m.take (i + 1)) = insR ltR p (ordR ltR (m.take i)) by rw [List.take_add_one, hp]; exact ordR_snoc _ _ _)
          have hpdp := Lib.hid (hpd.out p hpm)
          obtain ⟨os, hos⟩ : ∃ os, ordR ltR (m.take i) = os := ⟨_, rfl⟩
          rw [hos] at hO hSo hmem hol hnx
          obtain ⟨Ao, co, rfl, ho1, ho2, ho3⟩ := id hSo
          obtain ⟨N, hN⟩ : ∃ N, os.length = N := ⟨_, rfl⟩
          rw [List.length_map, hN] at ho1 ho3
          rw [hN] at hol
          have hNx : N ≤ 9223372036854775807 := by omega
          replace ho3 := Lib.hid ho3
          replace r0 := Lib.hid (hG.cell r0)
          replace r1 := Lib.hid (hG.cell r1)
          replace r2 := Lib.hid (hG.cell r2)
          replace r3 := Lib.hid (hG.cell r3)
          replace hp := Lib.hid hp
          replace hps := Lib.hid hps
          replace hO := Lib.hid hO
          replace hG := Lib.hid hG
          clear hSo hos he hpm
          rw [List.length_map, hN]
          replace hN := Lib.hid hN
          obtain ⟨G, rfl⟩ : ∃ G : Nat, G = gk := ⟨_, rfl⟩
          obtain ⟨wo, rfl⟩ : ∃ wo : World, wo = wr := ⟨_, rfl⟩
          go_wp2_with fail
          go_loopg [11, 12, 13] N (fun gk s11 s12 s13 wx => ∃ (k : Nat) (u : List Rn) (t : Bool), gk + k = N ∧ s13 = .int .i64 k ∧ s12 = .bool t ∧ Hid ((os.take k).foldl (stepW ltR p) ([], false) = (u, t)) ∧ u.length ≤ 2 * k ∧ wx.ownsRow wo.heap.size 76 4 s11 (u.map segOf).length (segVals (u.map segOf)) ∧ Grew wo wx)
          case atStart => exact ⟨0, [], false, rfl, rfl, rfl, Lib.hid rfl, by simp, World.ownsRow_nil _ _ _ _, Grew.refl _⟩
          case round =>
            obtain ⟨k, u, t, hgk, rfl, rfl, hf, hul, hU, hX⟩ := hrel
            by_cases hk : k < N
            · obtain ⟨bo, oo, rfl, heo⟩ := ho3.out (by omega)
              obtain ⟨q, hq⟩ : ∃ q, os[k]? = some q := ⟨os[k]'(by rw [hN.out]; omega), List.getElem?_eq_getElem _⟩
              obtain ⟨⟨⟨⟨ex, ey⟩, fx, fy⟩, hqs⟩⟩ : Nonempty { z : SegZ // segOf q = z } := ⟨⟨_, rfl⟩⟩
              obtain ⟨⟨s0, s1, s2, s3⟩, -⟩ := heo k ((ex, ey), fx, fy) (by rw [List.getElem?_map, hq]; exact congrArg some hqs)
              dsimp only at s0 s1 s2 s3
              have hkl : (k : Int) < (N : Int) := by omega
              have hah := Lib.hid (show aheadZ ((cx, cy), dx, dy) ((ex, ey), fx, fy) = ltR p q by
                have hqd := hpd.out q (hmem.out q (List.mem_of_getElem? hq))
                have h := aheadZ_run hpdp.out.1 hqd.1 hpdp.out.2 hqd.2
                rw [hps.out, hqs] at h
                exact Bool.eq_iff_iff.2 (h.trans (ltR_spec p q).symm))
              have hf2 := Lib.hid (show (os.take (k + 1)).foldl (stepW ltR p) ([], false) = stepW ltR p (u, t) q by rw [List.take_add_one, hq, List.foldl_append, hf.out]; rfl)
              have y0 := Lib.hid s0
              have y1 := Lib.hid s1
              have y2 := Lib.hid s2
              have y3 := Lib.hid s3
              replace s0 := Lib.hid (hX.cell s0)
              replace s1 := Lib.hid (hX.cell s1)
              replace s2 := Lib.hid (hX.cell s2)
              replace s3 := Lib.hid (hX.cell s3)
              have R0 := Lib.hid (hX.cell r0.out)
              have R1 := Lib.hid (hX.cell r1.out)
              have R2 := Lib.hid (hX.cell r2.out)
              have R3 := Lib.hid (hX.cell r3.out)
              have hq1 := Lib.hid (show u.map segOf ++ [((ex, ey), fx, fy)] = (u ++ [q]).map segOf by simp [hqs])
              have hp1 := Lib.hid (show u.map segOf ++ [((cx, cy), dx, dy)] = (u ++ [p]).map segOf by simp [hps.out])
              have hq2 := Lib.hid (show (u ++ [p]).map segOf ++ [((ex, ey), fx, fy)] = (u ++ [p] ++ [q]).map segOf by simp [hqs])
              have hl1 : (u.map segOf).length ≤ 1048576 := by rw [List.length_map]; omega
              have hl2 : ((u ++ [p]).map segOf).length ≤ 1048576 := by rw [List.length_map, List.length_append, List.length_singleton]; omega
              have hsz := hX.size
              have hX' := Lib.hid hX
              have hU' := Lib.hid hU
              replace hqs := Lib.hid hqs
              replace hq := Lib.hid hq
              clear hX hU heo hf
              go_upto_region 24 with fail
              cases t
              · obtain ⟨a, ha⟩ : ∃ a, ltR p q = a := ⟨_, rfl⟩
                rw [ha] at hah
                cases a
                · have hst := Lib.hid (show stepW ltR p (u, false) q = (u ++ [q], false) by unfold stepW; rw [if_neg (by simp [ha])])
                  refine wp_region_held_drew (S := fun wv => Grew wr wv) (by kernel_rfl) ((Grew.refl wr).drew) (fun hHeld => ?_)
                  replace hHeld := Lib.hid hHeld
                  try simp only [Act.put, List.setIfInBounds_toArray, List.set_cons_zero, List.set_cons_succ]
                  refine wpAnyH_takeD (i := 0) (d := 61) (v := ?_) rfl rfl (by kernel_rfl) (by kernel_rfl) (by kernel_rfl) (fun _ _ _ h => h) (Or.inl ⟨by rfl, ?_⟩) hHeld.out ?_
                  rotate_left
                  · intro wv hSw
                    replace hSw : Hid (Grew wr wv) := Lib.hid hSw
                    go_simp
                    try with_reducible rfl
                  try simp only [Act.put, List.setIfInBounds_toArray, List.set_cons_zero, List.set_cons_succ]
                  refine wpAnyH_takeD (i := 1) (d := 62) (v := ?_) rfl rfl (by kernel_rfl) (by kernel_rfl) (by kernel_rfl) (fun _ _ _ h => h) (Or.inl ⟨by rfl, ?_⟩) hHeld.out ?_
                  rotate_left
                  · intro wv hSw
                    replace hSw : Hid (Grew wr wv) := Lib.hid hSw
                    go_simp
                    try with_reducible rfl
                  try simp only [Act.put, List.setIfInBounds_toArray, List.set_cons_zero, List.set_cons_succ]
                  refine wpAnyH_takeD (i := 2) (d := 63) (v := ?_) rfl rfl (by kernel_rfl) (by kernel_rfl) (by kernel_rfl) (fun _ _ _ h => h) (Or.inl ⟨by rfl, ?_⟩) hHeld.out ?_
                  rotate_left
                  · intro wv hSw
                    replace hSw : Hid (Grew wr wv) := Lib.hid hSw
                    go_simp
                    try with_reducible rfl
                  try simp only [Act.put, List.setIfInBounds_toArray, List.set_cons_zero, List.set_cons_succ]
                  refine wpAnyH_takeD (i := 3) (d := 64) (v := ?_) rfl rfl (by kernel_rfl) (by kernel_rfl) (by kernel_rfl) (fun _ _ _ h => h) (Or.inl ⟨by rfl, ?_⟩) hHeld.out ?_
                  rotate_left
                  · intro wv hSw
                    replace hSw : Hid (Grew wr wv) := Lib.hid hSw
                    go_simp
                    try with_reducible rfl
                  try simp only [Act.put, List.setIfInBounds_toArray, List.set_cons_zero, List.set_cons_succ]
                  refine wpAnyH_takeD (i := 4) (d := 65) (v := ?_) rfl rfl (by kernel_rfl) (by kernel_rfl) (by kernel_rfl) (fun _ _ _ h => h) (Or.inl ⟨by rfl, ?_⟩) hHeld.out ?_
                  rotate_left
                  · intro wv hSw
                    replace hSw : Hid (Grew wr wv) := Lib.hid hSw
                    go_simp
                    try with_reducible rfl
                  try simp only [Act.put, List.setIfInBounds_toArray, List.set_cons_zero, List.set_cons_succ]
                  refine wpAnyH_takeD (i := 5) (d := 66) (v := ?_) rfl rfl (by kernel_rfl) (by kernel_rfl) (by kernel_rfl) (fun _ _ _ h => h) (Or.inl ⟨by rfl, ?_⟩) hHeld.out ?_
                  rotate_left
                  · intro wv hSw
                    replace hSw : Hid (Grew wr wv) := Lib.hid hSw
                    go_simp
                    try with_reducible rfl
                  try simp only [Act.put, List.setIfInBounds_toArray, List.set_cons_zero, List.set_cons_succ]
                  refine wpAnyH_takeD (i := 6) (d := 67) (v := ?_) rfl rfl (by kernel_rfl) (by kernel_rfl) (by kernel_rfl) (fun _ _ _ h => h) (Or.inl ⟨by rfl, ?_⟩) hHeld.out ?_
                  rotate_left
                  · intro wv hSw
                    replace hSw : Hid (Grew wr wv) := Lib.hid hSw
                    have t0 := hSw.out.cell R0.out
                    have t1 := hSw.out.cell R1.out
                    have t2 := hSw.out.cell R2.out
                    have t3 := hSw.out.cell R3.out
                    go_simp
                    try with_reducible rfl
                  try simp only [Act.put, List.setIfInBounds_toArray, List.set_cons_zero, List.set_cons_succ]
                  refine wpAnyH_takeD (i := 7) (d := 68) (v := ?_) rfl rfl (by kernel_rfl) (by kernel_rfl) (by kernel_rfl) (fun _ _ _ h => h) (Or.inl ⟨by rfl, ?_⟩) hHeld.out ?_
                  rotate_left
                  · intro wv hSw
                    replace hSw : Hid (Grew wr wv) := Lib.hid hSw
                    go_simp
                    try with_reducible rfl
                  try simp only [Act.put, List.setIfInBounds_toArray, List.set_cons_zero, List.set_cons_succ]
                  refine wpAnyH_takeD (i := 8) (d := 69) (v := ?_) rfl rfl (by kernel_rfl) (by kernel_rfl) (by kernel_rfl) (fun _ _ _ h => h) (Or.inl ⟨by rfl, ?_⟩) hHeld.out ?_
                  rotate_left
                  · intro wv hSw
                    replace hSw : Hid (Grew wr wv) := Lib.hid hSw
                    go_simp
                    try with_reducible rfl
                  try simp only [Act.put, List.setIfInBounds_toArray, List.set_cons_zero, List.set_cons_succ]
                  refine wpAnyH_takeD (i := 9) (d := 70) (v := ?_) rfl rfl (by kernel_rfl) (by kernel_rfl) (by kernel_rfl) (fun _ _ _ h => h) (Or.inl ⟨by rfl, ?_⟩) hHeld.out ?_
                  rotate_left
                  · intro wv hSw
                    replace hSw : Hid (Grew wr wv) := Lib.hid hSw
                    go_simp
                    try with_reducible rfl
                  try simp only [Act.put, List.setIfInBounds_toArray, List.set_cons_zero, List.set_cons_succ]
                  refine wpAnyH_takeD (i := 10) (d := 71) (v := ?_) rfl rfl (by kernel_rfl) (by kernel_rfl) (by kernel_rfl) (fun _ _ _ h => h) (Or.inl ⟨by rfl, ?_⟩) hHeld.out ?_
                  rotate_left
                  · intro wv hSw
                    replace hSw : Hid (Grew wr wv) := Lib.hid hSw
                    have t0 := hSw.out.cell s0.out
                    have t1 := hSw.out.cell s1.out
                    have t2 := hSw.out.cell s2.out
                    have t3 := hSw.out.cell s3.out
                    go_simp
                    try with_reducible rfl
                  try simp only [Act.put, List.setIfInBounds_toArray, List.set_cons_zero, List.set_cons_succ]
                  refine wpAnyH_ready (rs := [11]) (by kernel_rfl) (by simp) ?_
                  refine AllReadyH.cons rfl (fun KK hKK => ?_) AllReadyH.nil
                  go_simp
                  refine (ahead25_any ((cx, cy), dx, dy) ((ex, ey), fx, fy) _).mono ?_
                  rintro e wk1 ⟨rfl, g⟩
                  have gk := hHeld.out.trans g
                  rw [hah.out]
                  clear hHeld
                  try dsimp only
                  refine hKK.out _ _ gk (fun hHeld => ?_)
                  clear gk hKK KK
                  replace hHeld := Lib.hid (show Grew wr wk1 from hHeld)
                  try simp only [Act.put, List.setIfInBounds_toArray, List.set_cons_zero, List.set_cons_succ]
                  refine wpAnyH_takeD (i := 12) (d := 73) (v := ?_) rfl rfl (by kernel_rfl) (by kernel_rfl) (by kernel_rfl) (fun _ _ _ h => h) (Or.inl ⟨by rfl, ?_⟩) hHeld.out ?_
                  rotate_left
                  · intro wv hSw
                    replace hSw : Hid (Grew wr wv) := Lib.hid hSw
                    go_simp
                    try with_reducible rfl
                  try simp only [Act.put, List.setIfInBounds_toArray, List.set_cons_zero, List.set_cons_succ]
                  refine wpAnyH_done (by kernel_rfl) ?_ _
                  have GX := Lib.hid (hX'.out.trans hHeld.out)
                  have UX := Lib.hid (ownsRow_grew hU'.out hHeld.out)
                  have zsz := GX.out.size
                  have S0 := hHeld.out.cell s0.out
                  have Q0 := hHeld.out.cell R0.out
                  have S1 := hHeld.out.cell s1.out
                  have Q1 := hHeld.out.cell R1.out
                  have S2 := hHeld.out.cell s2.out
                  have Q2 := hHeld.out.cell R2.out
                  have S3 := hHeld.out.cell s3.out
                  have Q3 := hHeld.out.cell R3.out
                  clear hHeld
                  clear hah
                  go_wp2_with (first | fail | (at_builtin; (refine wpList_appSeg rfl (.tmp 81) (.tmp 86) rfl rfl rfl UX.out hl1 zsz ?_); intro vB wzB hOB hGB))
                  have gzB := Lib.hid (hGB wo (Nat.le_refl _) GX.out)
                  rw [hq1.out] at hOB
                  replace hOB := Lib.hid hOB
                  clear hGB S0 S1 S2 S3 Q0 Q1 Q2 Q3
                  go_wp2_with fail
                  go_roundg (gk - 1)
                  case rel => exact ⟨k + 1, u ++ [q], false, by omega, by go_num, rfl, Lib.hid (hf2.out.trans hst.out), by rw [List.length_append, List.length_singleton]; omega, hOB.out, gzB.out⟩
                  case measure => omega
                · have hst := Lib.hid (show stepW ltR p (u, false) q = (u ++ [p] ++ [q], true) by unfold stepW; rw [if_pos ⟨rfl, ha⟩])
                  refine wp_region_held_drew (S := fun wv => Grew wr wv) (by kernel_rfl) ((Grew.refl wr).drew) (fun hHeld => ?_)
                  replace hHeld := Lib.hid hHeld
                  try simp only [Act.put, List.setIfInBounds_toArray, List.set_cons_zero, List.set_cons_succ]
                  refine wpAnyH_takeD (i := 0) (d := 61) (v := ?_) rfl rfl (by kernel_rfl) (by kernel_rfl) (by kernel_rfl) (fun _ _ _ h => h) (Or.inl ⟨by rfl, ?_⟩) hHeld.out ?_
                  rotate_left
                  · intro wv hSw
                    replace hSw : Hid (Grew wr wv) := Lib.hid hSw
                    go_simp
                    try with_reducible rfl
                  try simp only [Act.put, List.setIfInBounds_toArray, List.set_cons_zero, List.set_cons_succ]
                  refine wpAnyH_takeD (i := 1) (d := 62) (v := ?_) rfl rfl (by kernel_rfl) (by kernel_rfl) (by kernel_rfl) (fun _ _ _ h => h) (Or.inl ⟨by rfl, ?_⟩) hHeld.out ?_
                  rotate_left
                  · intro wv hSw
                    replace hSw : Hid (Grew wr wv) := Lib.hid hSw
                    go_simp
                    try with_reducible rfl
                  try simp only [Act.put, List.setIfInBounds_toArray, List.set_cons_zero, List.set_cons_succ]
                  refine wpAnyH_takeD (i := 2) (d := 63) (v := ?_) rfl rfl (by kernel_rfl) (by kernel_rfl) (by kernel_rfl) (fun _ _ _ h => h) (Or.inl ⟨by rfl, ?_⟩) hHeld.out ?_
                  rotate_left
                  · intro wv hSw
                    replace hSw : Hid (Grew wr wv) := Lib.hid hSw
                    go_simp
                    try with_reducible rfl
                  try simp only [Act.put, List.setIfInBounds_toArray, List.set_cons_zero, List.set_cons_succ]
                  refine wpAnyH_takeD (i := 3) (d := 64) (v := ?_) rfl rfl (by kernel_rfl) (by kernel_rfl) (by kernel_rfl) (fun _ _ _ h => h) (Or.inl ⟨by rfl, ?_⟩) hHeld.out ?_
                  rotate_left
                  · intro wv hSw
                    replace hSw : Hid (Grew wr wv) := Lib.hid hSw
                    go_simp
                    try with_reducible rfl
                  try simp only [Act.put, List.setIfInBounds_toArray, List.set_cons_zero, List.set_cons_succ]
                  refine wpAnyH_takeD (i := 4) (d := 65) (v := ?_) rfl rfl (by kernel_rfl) (by kernel_rfl) (by kernel_rfl) (fun _ _ _ h => h) (Or.inl ⟨by rfl, ?_⟩) hHeld.out ?_
                  rotate_left
                  · intro wv hSw
                    replace hSw : Hid (Grew wr wv) := Lib.hid hSw
                    go_simp
                    try with_reducible rfl
                  try simp only [Act.put, List.setIfInBounds_toArray, List.set_cons_zero, List.set_cons_succ]
                  refine wpAnyH_takeD (i := 5) (d := 66) (v := ?_) rfl rfl (by kernel_rfl) (by kernel_rfl) (by kernel_rfl) (fun _ _ _ h => h) (Or.inl ⟨by rfl, ?_⟩) hHeld.out ?_
                  rotate_left
                  · intro wv hSw
                    replace hSw : Hid (Grew wr wv) := Lib.hid hSw
                    go_simp
                    try with_reducible rfl
                  try simp only [Act.put, List.setIfInBounds_toArray, List.set_cons_zero, List.set_cons_succ]
                  refine wpAnyH_takeD (i := 6) (d := 67) (v := ?_) rfl rfl (by kernel_rfl) (by kernel_rfl) (by kernel_rfl) (fun _ _ _ h => h) (Or.inl ⟨by rfl, ?_⟩) hHeld.out ?_
                  rotate_left
                  · intro wv hSw
                    replace hSw : Hid (Grew wr wv) := Lib.hid hSw
                    have t0 := hSw.out.cell R0.out
                    have t1 := hSw.out.cell R1.out
                    have t2 := hSw.out.cell R2.out
                    have t3 := hSw.out.cell R3.out
                    go_simp
                    try with_reducible rfl
                  try simp only [Act.put, List.setIfInBounds_toArray, List.set_cons_zero, List.set_cons_succ]
                  refine wpAnyH_takeD (i := 7) (d := 68) (v := ?_) rfl rfl (by kernel_rfl) (by kernel_rfl) (by kernel_rfl) (fun _ _ _ h => h) (Or.inl ⟨by rfl, ?_⟩) hHeld.out ?_
                  rotate_left
                  · intro wv hSw
                    replace hSw : Hid (Grew wr wv) := Lib.hid hSw
                    go_simp
                    try with_reducible rfl
                  try simp only [Act.put, List.setIfInBounds_toArray, List.set_cons_zero, List.set_cons_succ]
                  refine wpAnyH_takeD (i := 8) (d := 69) (v := ?_) rfl rfl (by kernel_rfl) (by kernel_rfl) (by kernel_rfl) (fun _ _ _ h => h) (Or.inl ⟨by rfl, ?_⟩) hHeld.out ?_
                  rotate_left
                  · intro wv hSw
                    replace hSw : Hid (Grew wr wv) := Lib.hid hSw
                    go_simp
                    try with_reducible rfl
                  try simp only [Act.put, List.setIfInBounds_toArray, List.set_cons_zero, List.set_cons_succ]
                  refine wpAnyH_takeD (i := 9) (d := 70) (v := ?_) rfl rfl (by kernel_rfl) (by kernel_rfl) (by kernel_rfl) (fun _ _ _ h => h) (Or.inl ⟨by rfl, ?_⟩) hHeld.out ?_
                  rotate_left
                  · intro wv hSw
                    replace hSw : Hid (Grew wr wv) := Lib.hid hSw
                    go_simp
                    try with_reducible rfl
                  try simp only [Act.put, List.setIfInBounds_toArray, List.set_cons_zero, List.set_cons_succ]
                  refine wpAnyH_takeD (i := 10) (d := 71) (v := ?_) rfl rfl (by kernel_rfl) (by kernel_rfl) (by kernel_rfl) (fun _ _ _ h => h) (Or.inl ⟨by rfl, ?_⟩) hHeld.out ?_
                  rotate_left
                  · intro wv hSw
                    replace hSw : Hid (Grew wr wv) := Lib.hid hSw
                    have t0 := hSw.out.cell s0.out
                    have t1 := hSw.out.cell s1.out
                    have t2 := hSw.out.cell s2.out
                    have t3 := hSw.out.cell s3.out
                    go_simp
                    try with_reducible rfl
                  try simp only [Act.put, List.setIfInBounds_toArray, List.set_cons_zero, List.set_cons_succ]
                  refine wpAnyH_ready (rs := [11]) (by kernel_rfl) (by simp) ?_
                  refine AllReadyH.cons rfl (fun KK hKK => ?_) AllReadyH.nil
                  go_simp
                  refine (ahead25_any ((cx, cy), dx, dy) ((ex, ey), fx, fy) _).mono ?_
                  rintro e wk1 ⟨rfl, g⟩
                  have gk := hHeld.out.trans g
                  rw [hah.out]
                  clear hHeld
                  try dsimp only
                  refine hKK.out _ _ gk (fun hHeld => ?_)
                  clear gk hKK KK
                  replace hHeld := Lib.hid (show Grew wr wk1 from hHeld)
                  try simp only [Act.put, List.setIfInBounds_toArray, List.set_cons_zero, List.set_cons_succ]
                  refine wpAnyH_takeD (i := 12) (d := 73) (v := ?_) rfl rfl (by kernel_rfl) (by kernel_rfl) (by kernel_rfl) (fun _ _ _ h => h) (Or.inl ⟨by rfl, ?_⟩) hHeld.out ?_
                  rotate_left
                  · intro wv hSw
                    replace hSw : Hid (Grew wr wv) := Lib.hid hSw
                    go_simp
                    try with_reducible rfl
                  try simp only [Act.put, List.setIfInBounds_toArray, List.set_cons_zero, List.set_cons_succ]
                  refine wpAnyH_done (by kernel_rfl) ?_ _
                  have GX := Lib.hid (hX'.out.trans hHeld.out)
                  have UX := Lib.hid (ownsRow_grew hU'.out hHeld.out)
                  have zsz := GX.out.size
                  have S0 := hHeld.out.cell s0.out
                  have Q0 := hHeld.out.cell R0.out
                  have S1 := hHeld.out.cell s1.out
                  have Q1 := hHeld.out.cell R1.out
                  have S2 := hHeld.out.cell s2.out
                  have Q2 := hHeld.out.cell R2.out
                  have S3 := hHeld.out.cell s3.out
                  have Q3 := hHeld.out.cell R3.out
                  clear hHeld
                  clear hah
                  obtain ⟨wq, hwq⟩ : ∃ wq : World, wq = wk1 := ⟨_, rfl⟩
                  rw [← hwq] at GX UX zsz S0 S1 S2 S3 Q0 Q1 Q2 Q3 ⊢
                  clear hwq
                  go_wp2_with (first | fail | (at_builtin; first | ((refine wpList_appSeg rfl (.tmp 74) (.tmp 79) rfl rfl rfl UX.out hl1 zsz ?_); intro vA wA hOA hGA; rw [hp1.out] at hOA; have gA := hGA wo (Nat.le_refl _) GX.out; have gzA := gA.size; have z0 := gA.cell y0.out; have z1 := gA.cell y1.out; have z2 := gA.cell y2.out; have z3 := gA.cell y3.out; clear hGA) | ((refine wpList_appSeg rfl (.tmp 81) (.tmp 86) rfl rfl rfl hOA hl2 gzA ?_); intro vB wzB hOB hGB)))
                  have gzB := Lib.hid (hGB wo (Nat.le_refl _) gA)
                  rw [hq2.out] at hOB
                  replace hOB := Lib.hid hOB
                  clear hGB hOA gA S0 S1 S2 S3 Q0 Q1 Q2 Q3 z0 z1 z2 z3
                  go_wp2_with fail
                  go_roundg (gk - 1)
                  case rel => exact ⟨k + 1, u ++ [p] ++ [q], true, by omega, by go_num, rfl, Lib.hid (hf2.out.trans hst.out), by simp only [List.length_append, List.length_singleton]; omega, hOB.out, gzB.out⟩
                  case measure => omega
              · have hst := Lib.hid (show stepW ltR p (u, true) q = (u ++ [q], true) by unfold stepW; rw [if_neg (by simp)])
                clear hah
                refine wp_region_held_drew (S := fun wv => Grew wr wv) (by kernel_rfl) ((Grew.refl wr).drew) (fun hHeld => ?_)
                replace hHeld := Lib.hid hHeld
                try simp only [Act.put, List.setIfInBounds_toArray, List.set_cons_zero, List.set_cons_succ]
                refine wpAnyH_takeD (i := 0) (d := 61) (v := ?_) rfl rfl (by kernel_rfl) (by kernel_rfl) (by kernel_rfl) (fun _ _ _ h => h) (Or.inl ⟨by rfl, ?_⟩) hHeld.out ?_
                rotate_left
                · intro wv hSw
                  replace hSw : Hid (Grew wr wv) := Lib.hid hSw
                  go_simp
                  try with_reducible rfl
                try simp only [Act.put, List.setIfInBounds_toArray, List.set_cons_zero, List.set_cons_succ]
                refine wpAnyH_takeD (i := 1) (d := 62) (v := ?_) rfl rfl (by kernel_rfl) (by kernel_rfl) (by kernel_rfl) (fun _ _ _ h => h) (Or.inl ⟨by rfl, ?_⟩) hHeld.out ?_
                rotate_left
                · intro wv hSw
                  replace hSw : Hid (Grew wr wv) := Lib.hid hSw
                  go_simp
                  try with_reducible rfl
                try simp only [Act.put, List.setIfInBounds_toArray, List.set_cons_zero, List.set_cons_succ]
                refine wpAnyH_takeD (i := 2) (d := 63) (v := ?_) rfl rfl (by kernel_rfl) (by kernel_rfl) (by kernel_rfl) (fun _ _ _ h => h) (Or.inl ⟨by rfl, ?_⟩) hHeld.out ?_
                rotate_left
                · intro wv hSw
                  replace hSw : Hid (Grew wr wv) := Lib.hid hSw
                  go_simp
                  try with_reducible rfl
                try simp only [Act.put, List.setIfInBounds_toArray, List.set_cons_zero, List.set_cons_succ]
                refine wpAnyH_takeD (i := 3) (d := 64) (v := undef) rfl rfl (by kernel_rfl) (by kernel_rfl) (by kernel_rfl) (fun _ _ _ h => h) (Or.inr ⟨by rfl, rfl⟩) hHeld.out ?_
                try simp only [Act.put, List.setIfInBounds_toArray, List.set_cons_zero, List.set_cons_succ]
                refine wpAnyH_takeD (i := 4) (d := 65) (v := undef) rfl rfl (by kernel_rfl) (by kernel_rfl) (by kernel_rfl) (fun _ _ _ h => h) (Or.inr ⟨by rfl, rfl⟩) hHeld.out ?_
                try simp only [Act.put, List.setIfInBounds_toArray, List.set_cons_zero, List.set_cons_succ]
                refine wpAnyH_takeD (i := 5) (d := 66) (v := undef) rfl rfl (by kernel_rfl) (by kernel_rfl) (by kernel_rfl) (fun _ _ _ h => h) (Or.inr ⟨by rfl, rfl⟩) hHeld.out ?_
                try simp only [Act.put, List.setIfInBounds_toArray, List.set_cons_zero, List.set_cons_succ]
                refine wpAnyH_takeD (i := 6) (d := 67) (v := undef) rfl rfl (by kernel_rfl) (by kernel_rfl) (by kernel_rfl) (fun _ _ _ h => h) (Or.inr ⟨by rfl, rfl⟩) hHeld.out ?_
                try simp only [Act.put, List.setIfInBounds_toArray, List.set_cons_zero, List.set_cons_succ]
                refine wpAnyH_takeD (i := 7) (d := 68) (v := undef) rfl rfl (by kernel_rfl) (by kernel_rfl) (by kernel_rfl) (fun _ _ _ h => h) (Or.inr ⟨by rfl, rfl⟩) hHeld.out ?_
                try simp only [Act.put, List.setIfInBounds_toArray, List.set_cons_zero, List.set_cons_succ]
                refine wpAnyH_takeD (i := 8) (d := 69) (v := undef) rfl rfl (by kernel_rfl) (by kernel_rfl) (by kernel_rfl) (fun _ _ _ h => h) (Or.inr ⟨by rfl, rfl⟩) hHeld.out ?_
                try simp only [Act.put, List.setIfInBounds_toArray, List.set_cons_zero, List.set_cons_succ]
                refine wpAnyH_takeD (i := 9) (d := 70) (v := undef) rfl rfl (by kernel_rfl) (by kernel_rfl) (by kernel_rfl) (fun _ _ _ h => h) (Or.inr ⟨by rfl, rfl⟩) hHeld.out ?_
                try simp only [Act.put, List.setIfInBounds_toArray, List.set_cons_zero, List.set_cons_succ]
                refine wpAnyH_takeD (i := 10) (d := 71) (v := undef) rfl rfl (by kernel_rfl) (by kernel_rfl) (by kernel_rfl) (fun _ _ _ h => h) (Or.inr ⟨by rfl, rfl⟩) hHeld.out ?_
                try simp only [Act.put, List.setIfInBounds_toArray, List.set_cons_zero, List.set_cons_succ]
                refine wpAnyH_takeD (i := 11) (d := 72) (v := undef) rfl rfl (by kernel_rfl) (by kernel_rfl) (by kernel_rfl) (fun _ _ _ h => h) (Or.inr ⟨by rfl, rfl⟩) hHeld.out ?_
                try simp only [Act.put, List.setIfInBounds_toArray, List.set_cons_zero, List.set_cons_succ]
                refine wpAnyH_takeD (i := 12) (d := 73) (v := ?_) rfl rfl (by kernel_rfl) (by kernel_rfl) (by kernel_rfl) (fun _ _ _ h => h) (Or.inl ⟨by rfl, ?_⟩) hHeld.out ?_
                rotate_left
                · intro wv hSw
                  replace hSw : Hid (Grew wr wv) := Lib.hid hSw
                  go_simp
                  try with_reducible rfl
                try simp only [Act.put, List.setIfInBounds_toArray, List.set_cons_zero, List.set_cons_succ]
                refine wpAnyH_done (by kernel_rfl) ?_ _
                have GX := Lib.hid (hX'.out.trans hHeld.out)
                have UX := Lib.hid (ownsRow_grew hU'.out hHeld.out)
                have zsz := GX.out.size
                have S0 := hHeld.out.cell s0.out
                have Q0 := hHeld.out.cell R0.out
                have S1 := hHeld.out.cell s1.out
                have Q1 := hHeld.out.cell R1.out
                have S2 := hHeld.out.cell s2.out
                have Q2 := hHeld.out.cell R2.out
                have S3 := hHeld.out.cell s3.out
                have Q3 := hHeld.out.cell R3.out
                clear hHeld
                go_wp2_with (first | fail | (at_builtin; (refine wpList_appSeg rfl (.tmp 81) (.tmp 86) rfl rfl rfl UX.out hl1 zsz ?_); intro vB wzB hOB hGB))
                have gzB := Lib.hid (hGB wo (Nat.le_refl _) GX.out)
                rw [hq1.out] at hOB
                replace hOB := Lib.hid hOB
                clear hGB S0 S1 S2 S3 Q0 Q1 Q2 Q3
                go_wp2_with fail
                go_roundg (gk - 1)
                case rel => exact ⟨k + 1, u ++ [q], true, by omega, by go_num, rfl, Lib.hid (hf2.out.trans hst.out), by rw [List.length_append, List.length_singleton]; omega, hOB.out, gzB.out⟩
                case measure => omega
            · have hkl : ¬ (k : Int) < (N : Int) := by omega
              have hkN : os.take k = os := List.take_of_length_le (by rw [hN.out]; omega)
              have hf9 := hf.out
              rw [hkN] at hf9
              have hfin := insR_fold hf9
              have hGX := Lib.hid (hG.out.trans hX)
              have hUl := ownsRow_low hU hG.out.size
              have R0 := Lib.hid (hX.cell r0.out)
              have R1 := Lib.hid (hX.cell r1.out)
              have R2 := Lib.hid (hX.cell r2.out)
              have R3 := Lib.hid (hX.cell r3.out)
              have hp1 := Lib.hid (show u.map segOf ++ [((cx, cy), dx, dy)] = (u ++ [p]).map segOf by simp [hps.out])
              have hl1 : (u.map segOf).length ≤ 1048576 := by rw [List.length_map]; omega
              have hsz := hGX.out.size
              replace hUl := Lib.hid hUl
              clear hX hU hf hf9 hkN
              cases t
              · have hfe := Lib.hid (show ordR ltR (m.take (i + 1)) = u ++ [p] by rw [hnx.out, hfin, if_neg (by simp)])
                clear hfin
                have R0' := R0.out
                have R1' := R1.out
                have R2' := R2.out
                have R3' := R3.out
                go_wp2_with (first | fail | (at_builtin; (refine wpList_appSeg rfl (.tmp 90) (.tmp 95) rfl rfl rfl hUl.out hl1 hsz ?_); intro vB wzB hOB hGB))
                have gzB := Lib.hid (hGB wj (Nat.le_refl _) hGX.out)
                rw [hp1.out] at hOB
                replace hOB := Lib.hid hOB
                clear hGB R0' R1' R2' R3'
                go_wp2_with fail
                go_roundg (G - 1)
                case rel => exact ⟨i + 1, by omega, by go_num, by rw [hfe.out]; exact hOB.out, gzB.out⟩
                case measure => omega
              · have hfe := Lib.hid (show ordR ltR (m.take (i + 1)) = u by rw [hnx.out, hfin, if_pos rfl])
                clear hfin
                go_wp2_with fail
                go_roundg (G - 1)
                case rel => exact ⟨i + 1, by omega, by go_num, by rw [hfe.out]; exact hUl.out, hGX.out⟩
                case measure => omega
        · have hil : ¬ (i : Int) < (M : Int) := by omega
          have hmi : m.take i = m := List.take_of_length_le (by rw [hMm.out]; omega)
          rw [hmi] at hSo hol
          have hSo' := Lib.hid hSo
          have hGz := Lib.hid (hGj.out.trans hG)
          have hol2 := Lib.hid (show (ordR ltR m).length ≤ 16384 by omega)
          clear hO hG hSo hmi hmem
          go_wp2_with fail
          go_ret
          exact ⟨_, rfl, ordR ltR m, hI.out, hol2.out, hSo'.out, hGz.out⟩

theorem rways_any (W H : Int) (A : Option Addr) (c : Nat) (bs : List Bool) (w : World) (hb : BoolsR w (.slice A bs.length c) bs) :
    Calls Tryz.prog 14 #[cellV W H A bs.length c] w fun e w' => ∃ v', e = .returned v' ∧ ∃ l : List Rn, IsWays (hasC W H bs) l ∧ l.length ≤ 16384 ∧ SegsR w' v' (l.map segOf) ∧ Grew w w' := by
  have l2' : bs.length ≤ 9223372036854775807 := by
    obtain ⟨A', c', -, l1, l2, -⟩ := hb
    omega
  cases hm : mayC W H bs.length
  · exact rways_no W H A c bs w l2' (Lib.hid hm)
  · obtain ⟨a0, a1, b0, b1, -⟩ := of_decide_eq_true hm
    obtain ⟨W, rfl⟩ : ∃ n : Nat, W = n := ⟨W.toNat, by omega⟩
    obtain ⟨H, rfl⟩ : ∃ n : Nat, H = n := ⟨H.toNat, by omega⟩
    exact rways_yes W H A c bs w hb l2' (Lib.hid hm) (by omega) (by omega)
end Go.Proofs.YtngbcbncllfblaaGreat
namespace Go.Proofs.YtngbcbncllfblaaGreat
open Go.RowKit

set_option maxRecDepth 100000 in
set_option maxHeartbeats 1000000 in
theorem rat_any (v : Value) (N n j : Nat) (w : World) (hv : Num 65536 .u64 w v N n) (hj : j ≤ 4611686018427387904) :
    Calls Tryz.prog 249 #[v, .int .i64 (j : Int)] w fun e w' => e = .returned (.int .u64 (dig 65536 N j : Nat)) ∧ w = w' := by
  obtain ⟨A, c, rfl, h1, h2, h4, h3⟩ := hv
  have hm : n ≤ 9223372036854775807 := by omega
  by_cases hlt : j < n
  · obtain ⟨b, off, rfl, hc⟩ := h3 (by omega)
    have hcell := hc j hlt
    clear hc h3 h4
    generalize dig 65536 N j = x at *
    go_enter Tryz.func249, Tryz.ntmps249
    go_wp2
    go_ret
    exact ⟨rfl, rfl⟩
  · have hz : dig 65536 N j = 0 := dig_zero_of_lt (by omega) h4 (by omega)
    replace hz := Lib.hid hz
    clear h3 h4
    go_enter Tryz.func249, Tryz.ntmps249
    go_wp2
    go_ret
    exact ⟨by rw [hz.out]; rfl, rfl⟩

set_option maxRecDepth 100000 in
set_option maxHeartbeats 1000000 in
theorem rcut_any (v : Value) (N n : Nat) (w : World) (hv : Num 65536 .u64 w v N n) :
    Calls Tryz.prog 287 #[v] w fun e w' => ∃ v', e = .returned v' ∧ Num 65536 .u64 w v' N (len 65536 N) ∧ w = w' := by
  have hv' := Lib.hid hv
  obtain ⟨A, c, rfl, h1, h2, h4, h3⟩ := hv
  have hm : n ≤ 9223372036854775807 := by omega
  have HS : Hid (lenN 65536 N n = len 65536 N) := Lib.hid (lenN_eq (by omega) h4)
  clear h4
  have fin : ∀ k : Nat, k ≤ n → len 65536 N = k → Num 65536 .u64 w (.slice A k c) N (len 65536 N) := fun k hk e => by
    rw [e]; exact hv'.out.cut hk (by rw [← e]; exact lt_len (by omega) N)
  replace fin := Lib.hid fin
  go_enter Tryz.func287, Tryz.ntmps287
  go_wp2
  go_loop [3] (fun t => ∃ k : Nat, k ≤ n ∧ t = .int .i64 k ∧ Hid (lenN 65536 N k = len 65536 N)) (fun t => (intOf t).toNat)
  case atStart => exact ⟨n, Nat.le_refl _, rfl, HS⟩
  case round =>
    obtain ⟨k, hk, rfl, hs⟩ := hrel
    rcases k with _ | j
    · have e0 := Lib.hid (fin.out 0 (Nat.zero_le _) hs.out.symm)
      go_wp2
      go_ret
      exact ⟨_, rfl, e0.out, rfl⟩
    · obtain ⟨b, off, rfl, hc⟩ := h3 (by omega)
      have hcell := hc j (by omega)
      clear hc h3
      by_cases hz : dig 65536 N j = 0
      · rw [hz] at hcell
        go_wp2
        go_round
        case rel => exact ⟨j, by omega, by go_num, Lib.hid (by rw [← hs.out]; simp only [lenN, hz, if_true])⟩
        case measure => simp [intOf]
      · have hp : 0 < dig 65536 N j := by omega
        have hs' : Hid (lenN 65536 N (j + 1) = j + 1) := Lib.hid (by simp only [lenN, if_neg hz])
        have e0 := Lib.hid (fin.out (j + 1) hk (hs.out.symm.trans hs'.out))
        generalize hx : dig 65536 N j = x at *
        have hpb : ((x : Int) == 0) = false := by simp; omega
        have hjc : (j : Int) + 1 ≤ (c : Int) := by omega
        clear hx
        go_wp2
        go_ret
        exact ⟨_, rfl, e0.out, rfl⟩
end Go.Proofs.YtngbcbncllfblaaGreat
namespace Go.Proofs.YtngbcbncllfblaaGreat
open Go.RowKit

theorem info_u64 : (Tryz.prog.info? 175).map (fun i => (i.zero, i.size, i.bytes)) = some (some (.int .u64 0), 1, 8) := by kernel_rfl

section
variable {P : Program}
/-- append to a slice of the call's own, as a step of a region that draws: the new elements lie in the block that was laid last. -/
theorem step_appN {ops : Array Oper} {o : Oper} {a : Act} {w : World} {K : Act → World → Prop} {Q : Exit → Act → World → Prop} {E : Prop} (hg : o.guard = none) (s x : Operand) (t : TypeId)
    (ho : o.op = .call { callee := .builtin .append, args := #[s, x], argTypes := #[t, t] })
    (base : Nat) (e : TypeId) (z : Value) (size bytes : Nat) (ht : P.underlying t = some (.slice e)) (hi : (P.info? e).map (fun i => (i.zero, i.size, i.bytes)) = some (some z, size, bytes))
    (hzs : z.cells.size = size) (hsz : 0 < size)
    (v : Value) (n m c : Nat) (xs : List Value) (hs : a.eval s = v) (hown : w.ownsRow base e size v n xs)
    (us : Array Value) (hus : us.size = m * size) (h1 : ∀ u ∈ us.toList, u.oneCell' = true) (hx : a.eval x = .slice (some ⟨w.heap.size, 0, none⟩) m c)
    (hbytes : (n + m) * bytes ≤ 140737488355328) (hby : 0 < bytes) (hbase : base ≤ w.heap.size)
    (h : ∀ v' w', w'.ownsRow base e size v' (n + m) (xs ++ us.toList) → (∀ W, W.heap.size ≤ base → Grew W w → Grew W w') → K (a.put o.dst v') w') :
    if Region.wanted o (yielded ops a.tmps) = true then Oper.wp P o a (w.alloc (.cells us e)).drew K Q else E := by
  have hw : Region.wanted o (yielded ops a.tmps) = true := by simp [Region.wanted, hg]
  rw [if_pos hw]
  have h63 : n + m ≤ maxLen := by
    have : (n + m) * 1 ≤ (n + m) * bytes := Nat.mul_le_mul_left _ hby
    simp only [maxLen]; omega
  obtain ⟨i, hi, hz, hsize, hbyt⟩ := info_parts hi
  have hown' : (w.alloc (.cells us e)).drew.ownsRow base e size v n xs := hown.alloc _
  have hnews : ∀ j u, us.toList[j]? = some u → (w.alloc (.cells us e)).drew.cell? ((⟨w.heap.size, 0, none⟩ : Addr).add j) = some u := by
    intro j u hu
    have hadd : (⟨w.heap.size, 0, none⟩ : Addr).add j = ⟨w.heap.size, j, none⟩ := by unfold Addr.add; split <;> simp_all
    rw [hadd]
    exact (cell_of_row (w.alloc (.cells us e)) w.heap.size j us e (0, 0) (heap_alloc_new w _)).trans (by simpa using hu)
  have hb' : base ≤ (w.alloc (.cells us e)).drew.heap.size := by simp; omega
  obtain ⟨v', w', hr, h2, h3, h4⟩ := run_append_own (P := P) (w.alloc (.cells us e)).drew base t o.type e i z size bytes ht hi hz hsize hbyt hzs hsz v n xs hown' ⟨w.heap.size, 0, none⟩ m c us.toList (by simpa using hus) hnews h1 h63 hbytes hb'
  have hd := drawn_append (P := P) (w.alloc (.cells us e)).drew base t o.type e i z size bytes ht hi hz hsize hbyt hsz v n xs hown' ⟨w.heap.size, 0, none⟩ m c us.toList (by simpa using hus) hnews h1 h63 hbytes v' w' hr
  unfold Oper.wp execOp
  simp only [ho, resolve, invoke, builtin, Sem.run_bind, Sem.run_pure, Result.andThen_ok, List.map_toArray, List.map_cons, List.map_nil, hs, hx, hr]
  exact h v' w' h2 fun W hW hG => ((hG.alloc _).drew).grown h3 hd fun k hk => Nat.le_trans hW (hown.lt k hk).1
end

/-- Digits of 16 bits out of words. -/
theorem dig_half_lo (N k : Nat) : dig 65536 N (2 * k) = dig 4294967296 N k % 65536 := by
  unfold dig
  rw [show (4294967296 : Nat) = 65536 ^ 2 from rfl, ← Nat.pow_mul]
  rw [Nat.mod_mod_of_dvd _ (by exact ⟨65536, rfl⟩)]
theorem dig_half_hi (N k : Nat) : dig 65536 N (2 * k + 1) = dig 4294967296 N k / 65536 := by
  unfold dig
  rw [show (4294967296 : Nat) = 65536 ^ 2 from rfl, ← Nat.pow_mul, Nat.pow_succ, ← Nat.div_div_eq_div_mul]
  generalize N / 65536 ^ (2 * k) = x
  rw [show (65536 ^ 2 : Nat) = 65536 * 65536 from rfl, Nat.mod_mul_right_div_self]
theorem dvals_half (N k : Nat) : dvals 65536 .u64 N (2 * (k + 1)) = dvals 65536 .u64 N (2 * k) ++ [.int .u64 ((dig 4294967296 N k % 65536 : Nat) : Int), .int .u64 ((dig 4294967296 N k / 65536 : Nat) : Int)] := by
  rw [show 2 * (k + 1) = 2 * k + 1 + 1 from by omega, dvals_succ, dvals_succ, dig_half_hi, dig_half_lo, List.append_assoc]
  rfl
theorem wrap_lo (x : Nat) (h : x < 4294967296) : IntKind.u64.wrap ((x : Int).tmod 65536) = ((x % 65536 : Nat) : Int) := by
  rw [Int.tmod_eq_emod_of_nonneg (by omega), IntWalk.u64_in _ ⟨by omega, by omega⟩]; omega
theorem wrap_hi (x : Nat) (h : x < 4294967296) : IntKind.u64.wrap (IntKind.u32.wrap ((x : Int) / 65536)) = ((x / 65536 : Nat) : Int) := by
  rw [IntWalk.u32_in _ ⟨by omega, by omega⟩, IntWalk.u64_in _ ⟨by omega, by omega⟩]; omega
theorem pow_half (k : Nat) : 4294967296 ^ k = 65536 ^ (2 * k) := by rw [Nat.pow_mul]

set_option maxRecDepth 100000 in
set_option maxHeartbeats 4000000 in
theorem rhalf_any (va : Value) (N n : Nat) (w : World) (ha : Num 4294967296 .u32 w va N n) (hsz : n < 1099511627776) :
    Calls Tryz.prog 248 #[va] w fun e w' => ∃ v, e = .returned v ∧ Num 65536 .u64 w' v N (len 65536 N) ∧ Grew w w' := by
  obtain ⟨A, ca, rfl, a1, a2, a3, a4⟩ := id ha
  have hN2 := Lib.hid (show N < 65536 ^ (2 * n) by rw [← pow_half]; exact a3)
  clear a3 ha
  go_enter Tryz.func248, Tryz.ntmps248
  go_wp2_with fail
  go_loopg [3, 4] n (fun gk out i wr => ∃ j : Nat, gk + j = n ∧ i = .int .i64 j ∧ wr.ownsRow w.heap.size 175 1 out (2 * j) (dvals 65536 .u64 N (2 * j)) ∧ Grew w wr)
  case atStart => exact ⟨0, rfl, rfl, World.ownsRow_nil _ _ _ _, Grew.refl _⟩
  case round =>
    obtain ⟨j, hj, rfl, hown, hG⟩ := hrel
    by_cases hlt : j < n
    · obtain ⟨ba, oa, rfl, hca⟩ := a4 (by omega)
      have hcx := hG.cell (hca j (by omega))
      have hx := dig_lt (B := 4294967296) (by omega) N j
      have hsucc := Lib.hid (dvals_half N j)
      have q1 := Lib.hid hG
      have q2 := Lib.hid hown
      have hcw := Lib.hid (hca j hlt)
      have hsz1 := hG.size
      clear hG hown hca
      generalize dig 4294967296 N j = x at *
      go_wp2_with fail
      go_region_held3 (fun w' => w'.cell? ⟨ba, oa + j, none⟩ = some (.int .u32 (x : Int)))
        (first | (with_reducible exact q1.out.drew.cell hcw.out) | (with_reducible exact (q1.out.alloc _).drew.cell hcw.out) | (with_reducible exact (hG1 _ (Nat.le_refl _) q1.out).cell hcw.out))
        (first | (refine step_appN rfl (.tmp 11) (.tmp 24) 243 rfl w.heap.size 175 (.int .u64 0) 1 8 Tryz.underlying243 info_u64 rfl (by omega) _ (2 * j) 2 2 _ rfl q2.out _ rfl (by simp [Value.oneCell']) rfl (by omega) (by omega) hsz1 ?_; intro v1 w1 hown1 hG1))
      go_wp2_with fail
      go_roundg (gk - 1)
      case rel => exact ⟨j + 1, by omega, by go_num, by rw [hsucc.out, ← wrap_lo x hx, ← wrap_hi x hx]; exact hown1, hG1 _ (Nat.le_refl _) q1.out⟩
      case measure => omega
    · obtain rfl : j = n := by omega
      have hnum := Num.of_own hown hN2.out
      obtain ⟨D, cd, rfl, d1, d2, d3, d4⟩ := id hnum
      replace hnum := Lib.hid hnum
      clear d3 d4 hown
      go_wp2_with fail
      refine (rcut_any _ _ _ _ hnum.out).mono ?_
      rintro e w' ⟨v', rfl, hv', rfl⟩
      replace hv' := Lib.hid hv'
      go_wp2_with fail
      go_ret
      exact ⟨_, rfl, hv'.out, hG⟩
end Go.Proofs.YtngbcbncllfblaaGreat
namespace Go.Proofs.YtngbcbncllfblaaGreat
open Go.RowKit

theorem dig_words (N k : Nat) : dig 4294967296 N k = dig 65536 N (2 * k) + dig 65536 N (2 * k + 1) * 65536 := by
  rw [dig_half_lo, dig_half_hi]; omega
theorem len_half (N : Nat) : len 4294967296 N = (len 65536 N + 1) / 2 := by
  have e : ∀ k, len 4294967296 N ≤ k ↔ len 65536 N ≤ 2 * k := fun k => by
    rw [len_le_iff (by omega), len_le_iff (by omega), pow_half]
  have h1 := (e ((len 65536 N + 1) / 2)).2 (by omega)
  have h2 := (e (len 4294967296 N)).1 (Nat.le_refl _)
  omega

set_option maxRecDepth 100000 in
set_option maxHeartbeats 4000000 in
theorem rwords_any (va : Value) (N n : Nat) (w : World) (ha : Num 65536 .u64 w va N n) (hsz : n < 1099511627776) :
    Calls Tryz.prog 247 #[va] w fun e w' => ∃ v, e = .returned v ∧ Num 4294967296 .u32 w' v N (len 4294967296 N) ∧ Grew w w' := by
  obtain ⟨A, ca, rfl, a1, a2, a3, a4⟩ := id ha
  have hN := lt_len (B := 65536) (by omega) N
  have hl := Lib.hid (len_half N)
  have hln := ha.len_le (by omega)
  have hN2 := Lib.hid (lt_len (B := 4294967296) (by omega) N)
  replace ha := Lib.hid ha
  clear a3
  go_enter Tryz.func247, Tryz.ntmps247
  go_wp2_with fail
  refine (rcut_any _ _ _ _ ha.out).mono ?_
  rintro e w' ⟨v', rfl, hv', rfl⟩
  obtain ⟨D, cd, rfl, -⟩ := id hv'
  generalize hL : len 65536 N = L at *
  replace hL := Lib.hid hL
  replace hN := Lib.hid hN
  clear hv' ha
  go_wp2_with fail
  go_loopg [3, 5] ((L + 1) / 2) (fun gk out i wr => ∃ j : Nat, gk + j = (L + 1) / 2 ∧ i = .int .i64 ((2 * j : Nat) : Int) ∧ wr.ownsRow w.heap.size 163 1 out j (dvals 4294967296 .u32 N j) ∧ Grew w wr)
  case atStart => exact ⟨0, rfl, rfl, World.ownsRow_nil _ _ _ _, Grew.refl _⟩
  case round =>
    obtain ⟨j, hj, rfl, hown, hG⟩ := hrel
    by_cases hlt : 2 * j < L
    · obtain ⟨ba, oa, rfl, hca⟩ := a4 (by omega)
      have hcx := hG.cell (hca (2 * j) (by omega))
      have hx := dig_lt (B := 65536) (by omega) N (2 * j)
      have hy := dig_lt (B := 65536) (by omega) N (2 * j + 1)
      have hsucc := Lib.hid (dvals_succ 4294967296 .u32 N j)
      have hdw := Lib.hid (dig_words N j)
      have hsz1 := hG.size
      have q1 := Lib.hid hG
      have q2 := Lib.hid hown
      have hgk := Lib.hid (show gk - 1 + (j + 1) = (L + 1) / 2 by omega)
      have hgl := Lib.hid (show gk - 1 < gk by omega)
      by_cases hl2 : 2 * j + 1 < L
      · have hcy := hG.cell (hca (2 * j + 1) (by omega))
        clear hG hown hca
        generalize dig 65536 N (2 * j) = x at *
        generalize dig 65536 N (2 * j + 1) = y at *
        generalize hi2 : 2 * j = i at *
        replace hi2 := Lib.hid hi2
        go_wp2_with (first | fail | (at_builtin; refine wpList_app1 _ rfl (.tmp 31) (.tmp 34) 46 rfl w.heap.size 163 (.int .u32 0) 1 4 Tryz.underlying46 info_u32 rfl (by omega) _ j _ rfl q2.out _ rfl (by simp [Value.oneCell']) rfl (by omega) (by omega) hsz1 ?_; intro v1 w2 hown1 hG2))
        go_roundg (gk - 1)
        case rel => exact ⟨j + 1, hgk.out, by rw [show 2 * (j + 1) = i + 2 from by have := hi2.out; omega]; go_num, by rw [hsucc.out, hdw.out]; exact hown1, hG2 _ (Nat.le_refl _) q1.out⟩
        case measure => exact hgl.out
      · have hz : dig 65536 N (2 * j + 1) = 0 := dig_zero_of_lt (by omega) hN.out (by omega)
        have hd2 : dig 4294967296 N j = dig 65536 N (2 * j) := by rw [dig_words, hz, Nat.zero_mul, Nat.add_zero]
        replace hd2 := Lib.hid hd2
        clear hdw hG hown hca hy hz
        generalize dig 65536 N (2 * j) = x at *
        generalize hi2 : 2 * j = i at *
        replace hi2 := Lib.hid hi2
        have hl3 : L = i + 1 := by omega
        clear hl2
        subst hl3
        have hll : (i : Int) < (i : Int) + 1 := by omega
        go_wp2_with (first | fail | (at_builtin; refine wpList_app1 _ rfl (.tmp 31) (.tmp 34) 46 rfl w.heap.size 163 (.int .u32 0) 1 4 Tryz.underlying46 info_u32 rfl (by omega) _ j _ rfl q2.out _ rfl (by simp [Value.oneCell']) rfl (by omega) (by omega) hsz1 ?_; intro v1 w2 hown1 hG2))
        go_roundg (gk - 1)
        case rel => exact ⟨j + 1, hgk.out, by rw [show 2 * (j + 1) = i + 2 from by have := hi2.out; omega]; go_num, by rw [hsucc.out, hd2.out]; exact hown1, hG2 _ (Nat.le_refl _) q1.out⟩
        case measure => exact hgl.out
    · have hjl : j = (L + 1) / 2 := by omega
      have hle : len 4294967296 N = j := by rw [hl.out, hjl]
      have hnum := Num.of_own hown (by rw [← hle]; exact hN2.out)
      rw [← hle] at hnum
      replace hnum := Lib.hid hnum
      replace hG := Lib.hid hG
      clear hown hle hjl
      go_wp2_with fail
      go_ret
      exact ⟨_, rfl, hnum.out, hG.out⟩
end Go.Proofs.YtngbcbncllfblaaGreat
