/- r17.Cuts. Condition: ints of 64 bits; at most 2^20 ways. Edges as values: twelve cells, written out; one edge in a block of its own. Conditions: none. r18.Pieces. Condition: ints of 64 bits; at most 2^18 ways. frisketlaw18.SplitPieces: its walk. Condition: ints of 64 bits; at most 2^18 ways. -/
import Derived.Test.YtmommicmblfibaaGreatJCut1
import Derived.Test.YtmommicmblfibaaGreatJRMeet2
import Derived.Test.YtmommicmblfibaaGreatJSplG
import Derived.Test.YtmommicmblfibaaGreatJRow3
import Derived.Test.YtmommicmblfibaaGreatJCross7
set_option maxRecDepth 100000
namespace Go.Proofs.YtmommicmblfibaaGreat
open Go.RowKit
set_option maxHeartbeats 16000000 in
theorem rcuts_fresh (ax ay bx b_y : Int) (v : Value) (l : List SegZ) (w : World) (ra : In64 ax ay) (rb : In64 bx b_y) (hl : SegsR w v l) (hn : l.length ≤ 1048576) :
  Calls Tryz.prog 28 #[segV ax ay bx b_y, v] w fun e w' => ∃ v', e = .returned v' ∧ RowC w' v' (cutsQ ax ay bx b_y l) ∧ Fresh w v' ∧ Grew w w' := by
 obtain ⟨A, c, rfl, h1, h2, h3⟩ := hl
 obtain ⟨L, hL⟩ : ∃ L, l.length = L := ⟨_, rfl⟩
 rw [hL] at h1 hn h3
 rw [hL]
 have hm : L ≤ 9223372036854775807 := by omega
 replace h3 := hZ h3
 replace ra := hZ ra
 replace rb := hZ rb
 obtain ⟨f, hf⟩ : ∃ f, (fitB ax ay && fitB bx b_y) = f := ⟨_, rfl⟩
 replace hf := hZ hf
 obtain ⟨cq, hcq⟩ : ∃ cq, cutsQ ax ay bx b_y l = cq := ⟨_, rfl⟩
 rw [hcq]
 replace hcq := hZ hcq
 go_enter Tryz.func28, Tryz.ntmps28
 go_upto_region 1 with fail
 refine gen_wp ?_
 intro W1 hW1
 have p0 : W1.cell? ⟨w.heap.size, 0, none⟩ = some (.int .i64 ax) := by rw [hW1]; simp [go_sem]
 have p1 : W1.cell? ⟨w.heap.size, 1, none⟩ = some (.int .i64 ay) := by rw [hW1]; simp [go_sem]
 have p2 : W1.cell? ⟨w.heap.size, 2, none⟩ = some (.int .i64 bx) := by rw [hW1]; simp [go_sem]
 have p3 : W1.cell? ⟨w.heap.size, 3, none⟩ = some (.int .i64 b_y) := by rw [hW1]; simp [go_sem]
 have G1 : Grew w W1 := by rw [hW1]; exact (Grew.refl _).alloc _
 have zw : w.heap.size < W1.heap.size := by rw [hW1]; simp
 replace G1 := hZ G1
 clear hW1
 go_wp2_with fail
 refine (rmay_any ax ay bx b_y _).mono ?_
 rintro e W2 ⟨rfl, g2⟩
 rw [hf.out]
 replace g2 := hZ g2
 cases f
 ·have hcq' := hZ (hcq.out.symm.trans (by unfold cutsQ; rw [hf.out]; rfl) : cq = [])
  have gE := hZ (G1.out.trans g2.out)
  clear p0 p1 p2 p3
  go_wp2_with fail
  go_ret
  exact ⟨_, rfl, by rw [hcq'.out]; exact RowP.nil _ _, fun g h => by simp [Value.ownBlock] at h, gE.out⟩
 have q0 := g2.out.cell p0
 have q1 := g2.out.cell p1
 have q2 := g2.out.cell p2
 have q3 := g2.out.cell p3
 go_wp2_with fail
 go_region_held3 (fun w' => w'.cell? ⟨w.heap.size, 0, none⟩ = some (.int .i64 ax) ∧ w'.cell? ⟨w.heap.size, 1, none⟩ = some (.int .i64 ay) ∧ w'.cell? ⟨w.heap.size, 2, none⟩ = some (.int .i64 bx) ∧ w'.cell? ⟨w.heap.size, 3, none⟩ = some (.int .i64 b_y))
  (first | exact ⟨q0, q1, q2, q3⟩ | exact ⟨g5.cell q0, g5.cell q1, g5.cell q2, g5.cell q3⟩ | exact ⟨(g5.trans g6).cell q0, (g5.trans g6).cell q1, (g5.trans g6).cell q2, (g5.trans g6).cell q3⟩ | exact ⟨((g5.trans g6).alloc _).cell q0, ((g5.trans g6).alloc _).cell q1, ((g5.trans g6).alloc _).cell q2, ((g5.trans g6).alloc _).cell q3⟩)
  (first | (have chk := g5; clear chk; go_at_call 52; refine (rat5_any bx b_y _ rb.out.1 rb.out.2.1 rb.out.2.2.1 rb.out.2.2.2).mono ?_; rintro e w6 ⟨V6, rfl, hV6, g6⟩; obtain ⟨b9, A9, n9, c9, C9, m9, d9, b10, A10, n10, c10, C10, m10, d10, rfl, -, -, X6⟩ := hV6.laid; clear hV6) | (go_at_call 52; refine (rat5_any ax ay _ ra.out.1 ra.out.2.1 ra.out.2.2.1 ra.out.2.2.2).mono ?_; rintro e w5 ⟨V5, rfl, hV5, g5⟩; obtain ⟨b7, A7, n7, c7, C7, m7, d7, b8, A8, n8, c8, C8, m8, d8, rfl, -, -, X5⟩ := hV5.laid; clear hV5))
 have gS := ((g2.out.drew).trans g5).trans g6
 have oS := hZ (own_two (e := 35) (base := W1.heap.size) gS.size (SpotC.kept X5.out g6.keeps) X6.out)
 have gT := hZ (gS.alloc (.cells #[.bool b7, .slice A7 n7 c7, .slice C7 m7 d7, .bool b8, .slice A8 n8 c8, .slice C8 m8 d8, .bool b9, .slice A9 n9 c9, .slice C9 m9 d9, .bool b10, .slice A10 n10 c10, .slice C10 m10 d10] 35))
 clear gS g5 g6 X5 X6 q0 q1 q2 q3 g2
 go_wp2_with fail
 go_loopg [5, 6] L (fun gk s5 s6 wr => ∃ j : Nat, gk + j = L ∧ s6 = .int .i64 j ∧ OwnC 35 wr W1.heap.size s5 (cutAll ax ay bx b_y (l.take j)) ∧ Grew W1 wr)
 case atStart => exact ⟨0, rfl, rfl, by rw [List.take_zero]; exact oS.out, gT.out⟩
 case round =>
  obtain ⟨j, hj, rfl, hO, hG⟩ := hrel
  clear oS gT
  by_cases hlt : j < L
  ·obtain ⟨b, o, rfl, he⟩ := h3.out (by omega)
   obtain ⟨t, ht⟩ : ∃ t, l[j]? = some t := ⟨l[j]'(by omega), List.getElem?_eq_getElem _⟩
   obtain ⟨⟨e0, e1, e2, e3⟩, rc, rd⟩ := he j t ht
   have hsu : cutAll ax ay bx b_y (l.take (j + 1)) = cutAll ax ay bx b_y (l.take j) ++ meetW ax ay bx b_y t := cutRow_succ _ _ _ ht
   have hle := cutAll_len ax ay bx b_y (l.take j)
   have hml := meetW_len ax ay bx b_y t
   have htl : (l.take j).length = j := by rw [List.length_take]; omega
   have hmq := meetQ_eq ax ay bx b_y t.1.1 t.1.2 t.2.1 t.2.2
   obtain ⟨⟨cx, cy⟩, dx, dy⟩ := t
   simp only [] at e0 e1 e2 e3 rc rd hmq
   have f0 := hZ (G1.out.cell e0)
   have f1 := hZ (G1.out.cell e1)
   have f2 := hZ (G1.out.cell e2)
   have f3 := hZ (G1.out.cell e3)
   replace p0 := hZ p0
   replace p1 := hZ p1
   replace p2 := hZ p2
   replace p3 := hZ p3
   replace rc := hZ rc
   replace rd := hZ rd
   replace hsu := hZ hsu
   replace hmq := hZ hmq
   have hjl : (j : Int) < (L : Int) := by omega
   have hO' := hZ hO
   have hG' := hZ hG
   clear e0 e1 e2 e3 he hO hG ht
   go_wp2_with fail
   refine wp_region_held_drew (S := fun wv => Grew W1 wv) (by kernel_rfl) (hG'.out.drew) (fun hHeld => ?_)
   replace hHeld := hZ hHeld
   try simp only [Act.put, List.setIfInBounds_toArray, List.set_cons_zero, List.set_cons_succ]
   refine wpAnyH_takeD (i := 0) (d := 25) (v := ?_) rfl rfl (by kernel_rfl) (by kernel_rfl) (by kernel_rfl) (fun _ _ _ h => h) (Or.inl ⟨by rfl, ?_⟩) hHeld.out ?_
   rotate_left
   ·intro wv hSw
    replace hSw : Hid (Grew W1 wv) := hZ hSw
    go_simp
    try with_reducible rfl
   try simp only [Act.put, List.setIfInBounds_toArray, List.set_cons_zero, List.set_cons_succ]
   refine wpAnyH_takeD (i := 1) (d := 26) (v := ?_) rfl rfl (by kernel_rfl) (by kernel_rfl) (by kernel_rfl) (fun _ _ _ h => h) (Or.inl ⟨by rfl, ?_⟩) hHeld.out ?_
   rotate_left
   ·intro wv hSw
    replace hSw : Hid (Grew W1 wv) := hZ hSw
    have t0 := hSw.out.cell p0.out
    have t1 := hSw.out.cell p1.out
    have t2 := hSw.out.cell p2.out
    have t3 := hSw.out.cell p3.out
    go_simp
    try with_reducible rfl
   try simp only [Act.put, List.setIfInBounds_toArray, List.set_cons_zero, List.set_cons_succ]
   refine wpAnyH_takeD (i := 2) (d := 27) (v := ?_) rfl rfl (by kernel_rfl) (by kernel_rfl) (by kernel_rfl) (fun _ _ _ h => h) (Or.inl ⟨by rfl, ?_⟩) hHeld.out ?_
   rotate_left
   ·intro wv hSw
    replace hSw : Hid (Grew W1 wv) := hZ hSw
    go_simp
    try with_reducible rfl
   try simp only [Act.put, List.setIfInBounds_toArray, List.set_cons_zero, List.set_cons_succ]
   refine wpAnyH_takeD (i := 3) (d := 28) (v := ?_) rfl rfl (by kernel_rfl) (by kernel_rfl) (by kernel_rfl) (fun _ _ _ h => h) (Or.inl ⟨by rfl, ?_⟩) hHeld.out ?_
   rotate_left
   ·intro wv hSw
    replace hSw : Hid (Grew W1 wv) := hZ hSw
    go_simp
    try with_reducible rfl
   try simp only [Act.put, List.setIfInBounds_toArray, List.set_cons_zero, List.set_cons_succ]
   refine wpAnyH_takeD (i := 4) (d := 29) (v := ?_) rfl rfl (by kernel_rfl) (by kernel_rfl) (by kernel_rfl) (fun _ _ _ h => h) (Or.inl ⟨by rfl, ?_⟩) hHeld.out ?_
   rotate_left
   ·intro wv hSw
    replace hSw : Hid (Grew W1 wv) := hZ hSw
    go_simp
    try with_reducible rfl
   try simp only [Act.put, List.setIfInBounds_toArray, List.set_cons_zero, List.set_cons_succ]
   refine wpAnyH_takeD (i := 5) (d := 30) (v := ?_) rfl rfl (by kernel_rfl) (by kernel_rfl) (by kernel_rfl) (fun _ _ _ h => h) (Or.inl ⟨by rfl, ?_⟩) hHeld.out ?_
   rotate_left
   ·intro wv hSw
    replace hSw : Hid (Grew W1 wv) := hZ hSw
    have t0 := hSw.out.cell f0.out
    have t1 := hSw.out.cell f1.out
    have t2 := hSw.out.cell f2.out
    have t3 := hSw.out.cell f3.out
    go_simp
    try with_reducible rfl
   try simp only [Act.put, List.setIfInBounds_toArray, List.set_cons_zero, List.set_cons_succ]
   refine wpAnyH_ready (rs := [6]) (by kernel_rfl) (by simp) ?_
   refine AllReadyH.cons rfl (fun KK hKK => ?_) AllReadyH.nil
   go_simp
   refine (rmeet_any ax ay bx b_y cx cy dx dy _ ra.out rb.out rc.out rd.out).mono ?_
   rintro e wk1 ⟨V, rfl, hV, g⟩
   have gk := hHeld.out.trans g
   rw [← hmq.out] at hV
   replace hV := hZ (show RowC _ V (meetW ax ay bx b_y ((cx, cy), dx, dy)) from hV)
   have ho := hZ (OwnC.grew hO'.out (((Grew.refl wr).drew).trans g))
   clear hHeld
   try dsimp only
   refine hKK.out _ _ gk (fun hHeld => ?_)
   clear gk hKK KK
   replace hHeld := hZ (show Grew W1 wk1 from hHeld)
   try simp only [Act.put, List.setIfInBounds_toArray, List.set_cons_zero, List.set_cons_succ]
   refine wpAnyH_ready (rs := [7]) (by kernel_rfl) (by simp) ?_
   refine AllReadyH.cons rfl (fun KK hKK => ?_) AllReadyH.nil
   refine wp_appRow (.tmp 25) (.tmp 31) rfl rfl rfl ho.out hV.out (by omega) hHeld.out.size ?_
   intro vk2 wk2 hO9 hG9
   have gk := hG9 W1 (Nat.le_refl _) hHeld.out
   rw [← hsu.out] at hO9
   replace hO9 := hZ hO9
   clear hG9 ho hV
   clear hHeld
   try dsimp only
   refine hKK.out _ _ gk (fun hHeld => ?_)
   clear gk hKK KK
   replace hHeld := hZ (show Grew W1 wk2 from hHeld)
   try simp only [Act.put, List.setIfInBounds_toArray]
   refine wpAnyH_takeD (i := 8) (d := 5) (v := ?_) rfl rfl (by kernel_rfl) (by kernel_rfl) (by kernel_rfl) (fun _ _ _ h => h) (Or.inl ⟨by rfl, ?_⟩) hHeld.out ?_
   rotate_left
   ·intro wv hSw
    replace hSw : Hid (Grew W1 wv) := hZ hSw
    go_simp
    try with_reducible rfl
   try simp only [Act.put]
   refine wpAnyH_done (by kernel_rfl) ?_ _
   replace p0 := p0.out
   replace p1 := p1.out
   replace p2 := p2.out
   replace p3 := p3.out
   go_wp2_with fail
   go_roundg (gk - 1)
   case rel => exact ⟨j + 1, by omega, by go_num, hO9.out, hHeld.out⟩
   case measure => omega
  ·obtain rfl : j = L := by omega
   have hall : l.take j = l := by rw [← hL]; exact List.take_length
   rw [hall] at hO
   have hle := cutAll_len ax ay bx b_y l
   have hqb := hZ (cutAll_qb (l := l) hf.out)
   have hqa := hqb.out ((ax : Rat), (ay : Rat)) (by unfold cutAll cutRow; simp)
   have hqc := hqb.out ((bx : Rat), (b_y : Rat)) (by unfold cutAll cutRow; simp)
   replace hqa := hZ hqa
   replace hqc := hZ hqc
   have hcq' := hcq.out
   unfold cutsQ at hcq'
   rw [if_pos hf.out] at hcq'
   generalize cutAll ax ay bx b_y l = all at hO hle hqb hcq'
   have hR := hZ (hO.row.r hqb.out)
   have hG' := hZ hG
   obtain ⟨A5, c5, rfl, -, -, -⟩ := hO.row
   clear hO hG
   replace hcq' := hZ hcq'
   go_wp2_with fail
   refine (rrow_own _ all 7 _ hR.out hqb.out (by omega) (by omega) (by omega)).mono ?_
   rintro e W5 ⟨V5, rfl, hV5, hF5, g5⟩
   have hrl := rowQ_len all
   obtain ⟨R, hRq⟩ : ∃ R, rowQ all = R := ⟨_, rfl⟩
   rw [hRq] at hV5 hrl
   rw [hRq] at hcq'
   obtain ⟨M, hM⟩ : ∃ M, R.length = M := ⟨_, rfl⟩
   have gV := hZ (hG'.out.trans g5)
   have q0 := hZ (gV.out.cell p0)
   have q1 := hZ (gV.out.cell p1)
   have q2 := hZ (gV.out.cell p2)
   have q3 := hZ (gV.out.cell p3)
   obtain ⟨A6, c6, rfl, x1, x2, x3⟩ := id hV5
   rw [hM] at x1 x3 hrl hV5 hF5
   have hF6 := hZ (Fresh.low (show Fresh wr _ from hF5) (G1.out.trans hG'.out))
   clear hF5
   rw [hM]
   replace x3 := hZ x3
   replace hV5 := hZ hV5
   clear g5 hR hqb hG' p0 p1 p2 p3
   have hsa := spotCmp_ahead ax ay bx b_y
   obtain ⟨cc, hcc⟩ : ∃ cc, spotCmp (ax : Rat) (ay : Rat) (bx : Rat) (b_y : Rat) = cc := ⟨_, rfl⟩
   rw [hcc] at hsa
   replace hcc := hZ hcc
   obtain ⟨tt, htt⟩ : ∃ tt, aheadB bx b_y ax ay = tt := ⟨_, rfl⟩
   rw [htt] at hsa
   rw [htt] at hcq'
   replace hsa := hZ hsa
   clear htt
   go_wp2_with fail
   refine wp_region_held_drew (S := fun wv => Grew W5 wv) (by kernel_rfl) ((Grew.refl W5).drew) (fun hHeld => ?_)
   replace hHeld := hZ hHeld
   try simp only [Act.put, List.setIfInBounds_toArray, List.set_cons_zero, List.set_cons_succ]
   refine wpAnyH_takeD (i := 0) (d := 35) (v := ?_) rfl rfl (by kernel_rfl) (by kernel_rfl) (by kernel_rfl) (fun _ _ _ h => h) (Or.inl ⟨by rfl, ?_⟩) hHeld.out ?_
   rotate_left
   ·intro wv hSw
    replace hSw : Hid (Grew W5 wv) := hZ hSw
    go_simp
    try with_reducible rfl
   try simp only [Act.put, List.setIfInBounds_toArray, List.set_cons_zero, List.set_cons_succ]
   refine wpAnyH_takeD (i := 1) (d := 36) (v := ?_) rfl rfl (by kernel_rfl) (by kernel_rfl) (by kernel_rfl) (fun _ _ _ h => h) (Or.inl ⟨by rfl, ?_⟩) hHeld.out ?_
   rotate_left
   ·intro wv hSw
    replace hSw : Hid (Grew W5 wv) := hZ hSw
    have t0 := hSw.out.cell q0.out
    have t1 := hSw.out.cell q1.out
    go_simp
    try with_reducible rfl
   try simp only [Act.put, List.setIfInBounds_toArray, List.set_cons_zero, List.set_cons_succ]
   refine wpAnyH_takeD (i := 3) (d := 38) (v := ?_) rfl rfl (by kernel_rfl) (by kernel_rfl) (by kernel_rfl) (fun _ _ _ h => h) (Or.inl ⟨by rfl, ?_⟩) hHeld.out ?_
   rotate_left
   ·intro wv hSw
    replace hSw : Hid (Grew W5 wv) := hZ hSw
    go_simp
    try with_reducible rfl
   try simp only [Act.put, List.setIfInBounds_toArray, List.set_cons_zero, List.set_cons_succ]
   refine wpAnyH_takeD (i := 4) (d := 39) (v := ?_) rfl rfl (by kernel_rfl) (by kernel_rfl) (by kernel_rfl) (fun _ _ _ h => h) (Or.inl ⟨by rfl, ?_⟩) hHeld.out ?_
   rotate_left
   ·intro wv hSw
    replace hSw : Hid (Grew W5 wv) := hZ hSw
    have t2 := hSw.out.cell q2.out
    have t3 := hSw.out.cell q3.out
    go_simp
    try with_reducible rfl
   try simp only [Act.put, List.setIfInBounds_toArray, List.set_cons_zero, List.set_cons_succ]
   refine wpAnyH_ready (rs := [2]) (by kernel_rfl) (by simp) ?_
   refine AllReadyH.cons rfl (fun KK hKK => ?_) AllReadyH.nil
   go_simp
   refine (rat5_any ax ay _ ra.out.1 ra.out.2.1 ra.out.2.2.1 ra.out.2.2.2).mono ?_
   rintro e wk1 ⟨V1, rfl, hV1, g⟩
   have gk := hHeld.out.trans g
   replace hV1 := hZ hV1
   clear hHeld
   try dsimp only
   refine hKK.out _ _ gk (fun hHeld => ?_)
   clear gk hKK KK
   replace hHeld := hZ (show Grew W5 wk1 from hHeld)
   try simp only [Act.put, List.setIfInBounds_toArray, List.set_cons_zero, List.set_cons_succ]
   refine wpAnyH_ready (rs := [5]) (by kernel_rfl) (by simp) ?_
   refine AllReadyH.cons rfl (fun KK hKK => ?_) AllReadyH.nil
   go_simp
   refine (rat5_any bx b_y _ rb.out.1 rb.out.2.1 rb.out.2.2.1 rb.out.2.2.2).mono ?_
   rintro e wk2 ⟨V2, rfl, hV2, g⟩
   have gk := hHeld.out.trans g
   replace hV1 := hZ (SpotC.kept hV1.out g.keeps)
   replace hV2 := hZ hV2
   clear hHeld
   try dsimp only
   refine hKK.out _ _ gk (fun hHeld => ?_)
   clear gk hKK KK
   replace hHeld := hZ (show Grew W5 wk2 from hHeld)
   try simp only [Act.put, List.setIfInBounds_toArray, List.set_cons_zero, List.set_cons_succ]
   refine wpAnyH_ready (rs := [6]) (by kernel_rfl) (by simp) ?_
   refine AllReadyH.cons rfl (fun KK hKK => ?_) AllReadyH.nil
   go_simp
   refine (rscmp_any _ _ (ax : Rat) (ay : Rat) (bx : Rat) (b_y : Rat) 7 _ (hV1.out.r hqa.out.1 hqa.out.2) (hV2.out.r hqc.out.1 hqc.out.2) (by omega) (by omega)).mono ?_
   rintro e wk3 ⟨rfl, g⟩
   have gk := hHeld.out.trans g
   rw [hcc.out]
   clear hV1 hV2
   clear hHeld
   try dsimp only
   refine hKK.out _ _ gk (fun hHeld => ?_)
   clear gk hKK KK
   replace hHeld := hZ (show Grew W5 wk3 from hHeld)
   try simp only [Act.put, List.setIfInBounds_toArray, List.set_cons_zero, List.set_cons_succ]
   refine wpAnyH_takeD (i := 7) (d := 42) (v := ?_) rfl rfl (by kernel_rfl) (by kernel_rfl) (by kernel_rfl) (fun _ _ _ h => h) (Or.inl ⟨by rfl, ?_⟩) hHeld.out ?_
   rotate_left
   ·intro wv hSw
    replace hSw : Hid (Grew W5 wv) := hZ hSw
    go_simp
    try with_reducible rfl
   try simp only [Act.put, List.setIfInBounds_toArray, List.set_cons_zero, List.set_cons_succ]
   refine wpAnyH_done (by kernel_rfl) ?_ _
   have gW := hZ ((G1.out.trans gV.out).trans hHeld.out)
   have g6 := hHeld
   clear hHeld q0 q1 q2 q3
   by_cases hc0 : cc ≤ 0
   ·have et : tt = false := by
     have := hsa.out
     rw [decide_eq_true hc0] at this
     cases tt
     ·rfl
     ·exact absurd this (by simp)
    subst et
    have e1 := hZ (hcq'.out.symm.trans (if_neg (by simp)) : cq = R)
    have hV6 := hZ (hV5.out.grew g6.out)
    clear hcq' g6 hsa
    go_wp2_with fail
    go_ret
    exact ⟨_, rfl, by rw [e1.out]; exact hV6.out, hF6.out, gW.out⟩
   ·have et : tt = true := by
     have := hsa.out
     rw [decide_eq_false hc0] at this
     cases tt
     ·exact absurd this (by simp)
     ·rfl
    subst et
    have e1 := hZ (hcq'.out.symm.trans (if_pos rfl) : cq = R.reverse)
    have hO0 := hZ (OwnC.nil 35 wk3 wk3.heap.size)
    have hG0 := hZ (Grew.refl wk3)
    clear hcq' hV5 hsa
    go_wp2_with fail
    go_loopg [7, 8] M (fun gk s9 s10 wr => ∃ (i : Nat) (z : Int), gk = i ∧ i ≤ M ∧ z = (i : Int) - 1 ∧ s10 = .int .i64 z ∧ OwnC 35 wr wk3.heap.size s9 (R.drop i).reverse ∧ Grew wk3 wr)
    case atStart => exact ⟨M, (M : Int) - 1, rfl, Nat.le_refl _, rfl, by go_num, by rw [List.drop_eq_nil_of_le (by omega)]; exact hO0.out, hG0.out⟩
    case round =>
     obtain ⟨i, z, rfl, hiM, hz, rfl, hO, hG⟩ := hrel
     clear hO0 hG0
     by_cases hi0 : 0 < gk
     ·obtain ⟨k, hk⟩ : ∃ k, k + 1 = gk := ⟨gk - 1, by omega⟩
      obtain rfl : z = (k : Int) := by omega
      obtain ⟨g, o9, rfl, ke⟩ := x3.out (by omega)
      obtain ⟨q, hq9⟩ : ∃ q, R[k]? = some q := ⟨R[k]'(by omega), List.getElem?_eq_getElem _⟩
      have hst := rev_step hq9
      rw [hk] at hst
      replace hst := hZ hst
      obtain ⟨b3, A3, n3, c3, C3, m3, d3, b4, A4, n4, c4, C4, m4, d4, ⟨e0, e1, e2, e3, e4, e5⟩, S2⟩ := ke k q hq9
      have f0 : wr.cell? ⟨g, o9 + k * 6, none⟩ = some (.bool b3) := hG.cell (g6.out.cell e0)
      have f1 : wr.cell? ⟨g, o9 + k * 6 + 1, none⟩ = some (.slice A3 n3 c3) := hG.cell (g6.out.cell e1)
      have f2 : wr.cell? ⟨g, o9 + k * 6 + 2, none⟩ = some (.slice C3 m3 d3) := hG.cell (g6.out.cell e2)
      have f3 : wr.cell? ⟨g, o9 + k * 6 + 3, none⟩ = some (.bool b4) := hG.cell (g6.out.cell e3)
      have f4 : wr.cell? ⟨g, o9 + k * 6 + 4, none⟩ = some (.slice A4 n4 c4) := hG.cell (g6.out.cell e4)
      have f5 : wr.cell? ⟨g, o9 + k * 6 + 5, none⟩ = some (.slice C4 m4 d4) := hG.cell (g6.out.cell e5)
      have X7 := hZ (SpotC.kept S2 (g6.out.trans hG).keeps)
      obtain ⟨xs, hown, hF⟩ := hO
      have hlen : ((R.drop gk).reverse).length = M - gk := by rw [List.length_reverse, List.length_drop]; omega
      have hsz := hG.size
      have hGr := hZ hG
      have hkM : (k : Int) < (M : Int) := by omega
      have hk0 : (0 : Int) ≤ (k : Int) := by omega
      have ho := hZ hown
      replace hF := hZ hF
      replace hk := hZ hk
      clear e0 e1 e2 e3 e4 e5 S2 hown hG ke hq9 hz
      go_wp2_with (first | fail | (at_builtin; (refine wpList_appS1 _ rfl (.tmp 51) (.tmp 56) 41 rfl wk3.heap.size 35 _ 6 112 Tryz.underlying41 info_spot rfl (by omega) zero_spot _ _ _ rfl ho.out _ rfl (one6 _ _ _ _ _ _ _ _ _ _ _ _ _ _) (noint6 _ _ _ _ _ _ _ _ _ _ _ _ _ _) rfl (by omega) (by omega) hsz ?_); intro vB wzB hown1 hG1 hK1))
      have gzB := hG1 wk3 (Nat.le_refl _) hGr.out
      have ozB := OwnC.snoc (p := q) hown1 hF.out X7.out hK1
      clear hown1 hG1 hK1 ho hF X7 hGr f0 f1 f2 f3 f4 f5
      go_wp2_with fail
      have hk' := hk.out
      go_roundg k
      case rel => exact ⟨k, (k : Int) - 1, rfl, by omega, rfl, by go_num, by rw [hst.out]; exact ozB, gzB⟩
      case measure => omega
     ·obtain rfl : gk = 0 := by omega
      obtain rfl : z = -1 := by omega
      clear hz
      rw [List.drop_zero] at hO
      have hrow := hZ hO.row
      obtain ⟨A8, c8, rfl, -, -, -⟩ := hO.row
      have hfr := hZ (hO.fresh (a := w) (m := (R.reverse).length) (d := c8) gW.out.size)
      have hG' := hZ (gW.out.trans hG)
      clear hO hG
      go_wp2_with fail
      go_ret
      exact ⟨_, rfl, by rw [e1.out]; exact hrow.out, hfr.out, hG'.out⟩
theorem edge12_laid {w : World} {us : Array Value} {x : EdgeQ} (h : Edge12R w us x) : ∃ b1 A1 n1 c1 C1 m1 d1 b2 A2 n2 c2 C2 m2 d2 b3 A3 n3 c3 C3 m3 d3 b4 A4 n4 c4 C4 m4 d4, us = #[.bool b1, .slice A1 n1 c1, .slice C1 m1 d1, .bool b2, .slice A2 n2 c2, .slice C2 m2 d2, .bool b3, .slice A3 n3 c3, .slice C3 m3 d3, .bool b4, .slice A4 n4 c4, .slice C4 m4 d4] ∧ Hid (Edge12R w #[.bool b1, .slice A1 n1 c1, .slice C1 m1 d1, .bool b2, .slice A2 n2 c2, .slice C2 m2 d2, .bool b3, .slice A3 n3 c3, .slice C3 m3 d3, .bool b4, .slice A4 n4 c4, .slice C4 m4 d4] x) := by
 have h3 := h
 obtain ⟨us1, us2, rfl, h4, h5⟩ := h3
 obtain ⟨b1, A1, n1, c1, C1, m1, d1, b2, A2, n2, c2, C2, m2, d2, e, -, -⟩ := h4
 injection e with e
 subst e
 obtain ⟨b3, A3, n3, c3, C3, m3, d3, b4, A4, n4, c4, C4, m4, d4, e, -, -⟩ := h5
 injection e with e
 subst e
 exact ⟨b1, A1, n1, c1, C1, m1, d1, b2, A2, n2, c2, C2, m2, d2, b3, A3, n3, c3, C3, m3, d3, b4, A4, n4, c4, C4, m4, d4, rfl, h⟩
set_option maxHeartbeats 16000000 in
theorem rpieces_any (v : Value) (l : List SegZ) (w : World) (hl : SegsR w v l) (hn : l.length ≤ 262144) :
  Calls Tryz.prog 8 #[v] w fun e w' => ∃ v', e = .returned v' ∧ RowK 12 Edge12R w' v' (piecesQ l) ∧ Grew w w' := by
 obtain ⟨A, c, rfl, h1, h2, h3⟩ := id hl
 obtain ⟨L, hL⟩ : ∃ L, l.length = L := ⟨_, rfl⟩
 rw [hL] at h1 hn h3 hl
 rw [hL]
 have hm : L ≤ 9223372036854775807 := by omega
 replace h3 := hZ h3
 replace hl := hZ hl
 go_enter Tryz.func8, Tryz.ntmps8
 go_wp2_with fail
 go_loopg [3, 4] L (fun gk s3 s4 wr => ∃ j : Nat, gk + j = L ∧ s4 = .int .i64 j ∧ OwnK 12 Edge12R 37 wr w.heap.size s3 ((l.take j).flatMap (pieceOf l)) ∧ Grew w wr)
 case atStart => exact ⟨0, rfl, rfl, by rw [List.take_zero]; exact OwnK.nil _ _ _ _ _, Grew.refl _⟩
 case round =>
  obtain ⟨j, hj, rfl, hO, hG⟩ := hrel
  by_cases hlt : j < L
  ·obtain ⟨b, o, rfl, he⟩ := h3.out (by omega)
   obtain ⟨t, ht⟩ : ∃ t, l[j]? = some t := ⟨l[j]'(by omega), List.getElem?_eq_getElem _⟩
   obtain ⟨⟨e0, e1, e2, e3⟩, ra, rb⟩ := he j t ht
   have hps := pieces_succ l ht
   have hfl := flat_len (pieceOf l) (1 + 2 * L) (fun s => by rw [← hL]; exact pieceOf_len l s) (l.take j)
   have hmj : (l.take j).length * (1 + 2 * L) ≤ 262144 * 524289 := Nat.mul_le_mul (by rw [List.length_take]; omega) (by omega)
   obtain ⟨⟨ax, ay⟩, bx, b_y⟩ := t
   simp only [] at e0 e1 e2 e3 ra rb
   obtain ⟨acc, hacc⟩ : ∃ acc, (l.take j).flatMap (pieceOf l) = acc := ⟨_, rfl⟩
   rw [hacc] at hps hfl hO
   obtain ⟨f, hf⟩ : ∃ f, (fitB ax ay && fitB bx b_y) = f := ⟨_, rfl⟩
   have f0 := hZ (hG.cell e0)
   have f1 := hZ (hG.cell e1)
   have f2 := hZ (hG.cell e2)
   have f3 := hZ (hG.cell e3)
   have hown := hZ (fun g (hg : Value.ownBlock _ = some g) => OwnK.lt hO hg)
   have hal : acc.length ≤ 262144 * 524289 := Nat.le_trans hfl hmj
   replace ra := hZ ra
   replace rb := hZ rb
   replace hps := hZ hps
   replace hf := hZ hf
   have hjl : (j : Int) < (L : Int) := by omega
   have og := hZ hO
   have gg := hZ hG
   clear e0 e1 e2 e3 he hO hG ht hfl hmj hacc
   go_wp2_with fail
   cases f
   ·have hps' := hZ (hps.out.trans (show _ = acc by rw [pieceOf_no (s := ((ax, ay), bx, b_y)) (.inl hf.out), List.append_nil]))
    clear hps
    refine wp_region_held_drew (S := fun wv => Grew wr wv) (by kernel_rfl) ((Grew.refl wr).drew) (fun hHeld => ?_)
    replace hHeld := hZ hHeld
    try simp only [Act.put, List.setIfInBounds_toArray, List.set_cons_zero, List.set_cons_succ]
    refine wpAnyH_takeD (i := 0) (d := 14) (v := ?_) rfl rfl (by kernel_rfl) (by kernel_rfl) (by kernel_rfl) (fun _ _ _ h => h) (Or.inl ⟨by rfl, ?_⟩) hHeld.out ?_
    rotate_left
    ·intro wv hSw
     replace hSw : Hid (Grew wr wv) := hZ hSw
     go_simp
     try with_reducible rfl
    try simp only [Act.put, List.setIfInBounds_toArray, List.set_cons_zero, List.set_cons_succ]
    refine wpAnyH_takeD (i := 1) (d := 15) (v := ?_) rfl rfl (by kernel_rfl) (by kernel_rfl) (by kernel_rfl) (fun _ _ _ h => h) (Or.inl ⟨by rfl, ?_⟩) hHeld.out ?_
    rotate_left
    ·intro wv hSw
     replace hSw : Hid (Grew wr wv) := hZ hSw
     go_simp
     try with_reducible rfl
    try simp only [Act.put, List.setIfInBounds_toArray, List.set_cons_zero, List.set_cons_succ]
    refine wpAnyH_takeD (i := 2) (d := 16) (v := ?_) rfl rfl (by kernel_rfl) (by kernel_rfl) (by kernel_rfl) (fun _ _ _ h => h) (Or.inl ⟨by rfl, ?_⟩) hHeld.out ?_
    rotate_left
    ·intro wv hSw
     replace hSw : Hid (Grew wr wv) := hZ hSw
     go_simp
     try with_reducible rfl
    try simp only [Act.put, List.setIfInBounds_toArray, List.set_cons_zero, List.set_cons_succ]
    refine wpAnyH_takeD (i := 3) (d := 17) (v := ?_) rfl rfl (by kernel_rfl) (by kernel_rfl) (by kernel_rfl) (fun _ _ _ h => h) (Or.inl ⟨by rfl, ?_⟩) hHeld.out ?_
    rotate_left
    ·intro wv hSw
     replace hSw : Hid (Grew wr wv) := hZ hSw
     have t0 := hSw.out.cell f0.out
     have t1 := hSw.out.cell f1.out
     have t2 := hSw.out.cell f2.out
     have t3 := hSw.out.cell f3.out
     go_simp
     try with_reducible rfl
    try simp only [Act.put, List.setIfInBounds_toArray, List.set_cons_zero, List.set_cons_succ]
    refine wpAnyH_ready (rs := [4]) (by kernel_rfl) (by simp) ?_
    refine AllReadyH.cons rfl (fun KK hKK => ?_) AllReadyH.nil
    go_simp
    refine (rmay_any ax ay bx b_y _).mono ?_
    rintro e wk1 ⟨rfl, g⟩
    have gk := hHeld.out.trans g
    rw [hf.out]
    clear hHeld
    try dsimp only
    refine hKK.out _ _ gk (fun hHeld => ?_)
    clear gk hKK KK
    replace hHeld := hZ (show Grew wr wk1 from hHeld)
    try simp only [Act.put, List.setIfInBounds_toArray, List.set_cons_zero, List.set_cons_succ]
    refine wpAnyH_takeD (i := 5) (d := 19) (v := ?_) rfl rfl (by kernel_rfl) (by kernel_rfl) (by kernel_rfl) (fun _ _ _ h => h) (Or.inl ⟨by rfl, ?_⟩) hHeld.out ?_
    rotate_left
    ·intro wv hSw
     replace hSw : Hid (Grew wr wv) := hZ hSw
     go_simp
     try with_reducible rfl
    try simp only [Act.put, List.setIfInBounds_toArray, List.set_cons_zero, List.set_cons_succ]
    refine wpAnyH_takeD (i := 6) (d := 20) (v := ?_) rfl rfl (by kernel_rfl) (by kernel_rfl) (by kernel_rfl) (fun _ _ _ h => h) (Or.inl ⟨by rfl, ?_⟩) hHeld.out ?_
    rotate_left
    ·intro wv hSw
     replace hSw : Hid (Grew wr wv) := hZ hSw
     go_simp
     try with_reducible rfl
    try simp only [Act.put, List.setIfInBounds_toArray, List.set_cons_zero, List.set_cons_succ]
    refine wpAnyH_takeD (i := 7) (d := 21) (v := undef) rfl rfl (by kernel_rfl) (by kernel_rfl) (by kernel_rfl) (fun _ _ _ h => h) (Or.inr ⟨by rfl, rfl⟩) hHeld.out ?_
    try simp only [Act.put, List.setIfInBounds_toArray, List.set_cons_zero, List.set_cons_succ]
    refine wpAnyH_takeD (i := 8) (d := 22) (v := undef) rfl rfl (by kernel_rfl) (by kernel_rfl) (by kernel_rfl) (fun _ _ _ h => h) (Or.inr ⟨by rfl, rfl⟩) hHeld.out ?_
    try simp only [Act.put, List.setIfInBounds_toArray, List.set_cons_zero, List.set_cons_succ]
    refine wpAnyH_takeD (i := 9) (d := 23) (v := undef) rfl rfl (by kernel_rfl) (by kernel_rfl) (by kernel_rfl) (fun _ _ _ h => h) (Or.inr ⟨by rfl, rfl⟩) hHeld.out ?_
    try simp only [Act.put, List.setIfInBounds_toArray, List.set_cons_zero, List.set_cons_succ]
    refine wpAnyH_takeD (i := 10) (d := 24) (v := undef) rfl rfl (by kernel_rfl) (by kernel_rfl) (by kernel_rfl) (fun _ _ _ h => h) (Or.inr ⟨by rfl, rfl⟩) hHeld.out ?_
    try simp only [Act.put, List.setIfInBounds_toArray, List.set_cons_zero, List.set_cons_succ]
    refine wpAnyH_takeD (i := 11) (d := 25) (v := undef) rfl rfl (by kernel_rfl) (by kernel_rfl) (by kernel_rfl) (fun _ _ _ h => h) (Or.inr ⟨by rfl, rfl⟩) hHeld.out ?_
    try simp only [Act.put, List.setIfInBounds_toArray, List.set_cons_zero, List.set_cons_succ]
    refine wpAnyH_takeD (i := 12) (d := 26) (v := undef) rfl rfl (by kernel_rfl) (by kernel_rfl) (by kernel_rfl) (fun _ _ _ h => h) (Or.inr ⟨by rfl, rfl⟩) hHeld.out ?_
    try simp only [Act.put, List.setIfInBounds_toArray, List.set_cons_zero, List.set_cons_succ]
    refine wpAnyH_takeD (i := 13) (d := 27) (v := undef) rfl rfl (by kernel_rfl) (by kernel_rfl) (by kernel_rfl) (fun _ _ _ h => h) (Or.inr ⟨by rfl, rfl⟩) hHeld.out ?_
    try simp only [Act.put, List.setIfInBounds_toArray, List.set_cons_zero, List.set_cons_succ]
    refine wpAnyH_takeD (i := 14) (d := 28) (v := undef) rfl rfl (by kernel_rfl) (by kernel_rfl) (by kernel_rfl) (fun _ _ _ h => h) (Or.inr ⟨by rfl, rfl⟩) hHeld.out ?_
    try simp only [Act.put, List.setIfInBounds_toArray, List.set_cons_zero, List.set_cons_succ]
    refine wpAnyH_takeD (i := 15) (d := 29) (v := undef) rfl rfl (by kernel_rfl) (by kernel_rfl) (by kernel_rfl) (fun _ _ _ h => h) (Or.inr ⟨by rfl, rfl⟩) hHeld.out ?_
    try simp only [Act.put, List.setIfInBounds_toArray, List.set_cons_zero, List.set_cons_succ]
    refine wpAnyH_takeD (i := 16) (d := 30) (v := undef) rfl rfl (by kernel_rfl) (by kernel_rfl) (by kernel_rfl) (fun _ _ _ h => h) (Or.inr ⟨by rfl, rfl⟩) hHeld.out ?_
    try simp only [Act.put, List.setIfInBounds_toArray, List.set_cons_zero, List.set_cons_succ]
    refine wpAnyH_takeD (i := 17) (d := 31) (v := undef) rfl rfl (by kernel_rfl) (by kernel_rfl) (by kernel_rfl) (fun _ _ _ h => h) (Or.inr ⟨by rfl, rfl⟩) hHeld.out ?_
    try simp only [Act.put, List.setIfInBounds_toArray, List.set_cons_zero, List.set_cons_succ]
    refine wpAnyH_takeD (i := 18) (d := 32) (v := ?_) rfl rfl (by kernel_rfl) (by kernel_rfl) (by kernel_rfl) (fun _ _ _ h => h) (Or.inl ⟨by rfl, ?_⟩) hHeld.out ?_
    rotate_left
    ·intro wv hSw
     replace hSw : Hid (Grew wr wv) := hZ hSw
     go_simp
     try with_reducible rfl
    try simp only [Act.put, List.setIfInBounds_toArray, List.set_cons_zero, List.set_cons_succ]
    refine wpAnyH_done (by kernel_rfl) ?_ _
    go_wp2_with fail
    go_roundg (gk - 1)
    case rel => exact ⟨j + 1, by omega, by go_num, by rw [hps'.out]; exact OwnK.grew says_edge og.out hHeld.out, gg.out.trans hHeld.out⟩
    case measure => omega
   ·by_cases hne : ax = bx ∧ ay = b_y
    ·have hps' := hZ (hps.out.trans (show _ = acc by rw [pieceOf_no (s := ((ax, ay), bx, b_y)) (.inr (by rw [hne.1, hne.2])), List.append_nil]))
     have hite := hZ (show ∀ (α : Type) (x y : α), (if ax = bx then if ay = b_y then x else y else y) = x from fun _ x y => by rw [if_pos hne.1, if_pos hne.2])
     clear hne
     clear hps
     refine wp_region_held_drew (S := fun wv => Grew wr wv) (by kernel_rfl) ((Grew.refl wr).drew) (fun hHeld => ?_)
     replace hHeld := hZ hHeld
     try simp only [Act.put, List.setIfInBounds_toArray, List.set_cons_zero, List.set_cons_succ]
     refine wpAnyH_takeD (i := 0) (d := 14) (v := ?_) rfl rfl (by kernel_rfl) (by kernel_rfl) (by kernel_rfl) (fun _ _ _ h => h) (Or.inl ⟨by rfl, ?_⟩) hHeld.out ?_
     rotate_left
     ·intro wv hSw
      replace hSw : Hid (Grew wr wv) := hZ hSw
      go_simp
      try with_reducible rfl
     try simp only [Act.put, List.setIfInBounds_toArray, List.set_cons_zero, List.set_cons_succ]
     refine wpAnyH_takeD (i := 1) (d := 15) (v := ?_) rfl rfl (by kernel_rfl) (by kernel_rfl) (by kernel_rfl) (fun _ _ _ h => h) (Or.inl ⟨by rfl, ?_⟩) hHeld.out ?_
     rotate_left
     ·intro wv hSw
      replace hSw : Hid (Grew wr wv) := hZ hSw
      go_simp
      try with_reducible rfl
     try simp only [Act.put, List.setIfInBounds_toArray, List.set_cons_zero, List.set_cons_succ]
     refine wpAnyH_takeD (i := 2) (d := 16) (v := ?_) rfl rfl (by kernel_rfl) (by kernel_rfl) (by kernel_rfl) (fun _ _ _ h => h) (Or.inl ⟨by rfl, ?_⟩) hHeld.out ?_
     rotate_left
     ·intro wv hSw
      replace hSw : Hid (Grew wr wv) := hZ hSw
      go_simp
      try with_reducible rfl
     try simp only [Act.put, List.setIfInBounds_toArray, List.set_cons_zero, List.set_cons_succ]
     refine wpAnyH_takeD (i := 3) (d := 17) (v := ?_) rfl rfl (by kernel_rfl) (by kernel_rfl) (by kernel_rfl) (fun _ _ _ h => h) (Or.inl ⟨by rfl, ?_⟩) hHeld.out ?_
     rotate_left
     ·intro wv hSw
      replace hSw : Hid (Grew wr wv) := hZ hSw
      have t0 := hSw.out.cell f0.out
      have t1 := hSw.out.cell f1.out
      have t2 := hSw.out.cell f2.out
      have t3 := hSw.out.cell f3.out
      go_simp
      try with_reducible rfl
     try simp only [Act.put, List.setIfInBounds_toArray, List.set_cons_zero, List.set_cons_succ]
     refine wpAnyH_ready (rs := [4]) (by kernel_rfl) (by simp) ?_
     refine AllReadyH.cons rfl (fun KK hKK => ?_) AllReadyH.nil
     go_simp
     refine (rmay_any ax ay bx b_y _).mono ?_
     rintro e wk1 ⟨rfl, g⟩
     have gk := hHeld.out.trans g
     rw [hf.out]
     clear hHeld
     try dsimp only
     refine hKK.out _ _ gk (fun hHeld => ?_)
     clear gk hKK KK
     replace hHeld := hZ (show Grew wr wk1 from hHeld)
     try simp only [Act.put, List.setIfInBounds_toArray, List.set_cons_zero, List.set_cons_succ]
     refine wpAnyH_takeD (i := 5) (d := 19) (v := ?_) rfl rfl (by kernel_rfl) (by kernel_rfl) (by kernel_rfl) (fun _ _ _ h => h) (Or.inl ⟨by rfl, ?_⟩) hHeld.out ?_
     rotate_left
     ·intro wv hSw
      replace hSw : Hid (Grew wr wv) := hZ hSw
      go_simp
      try with_reducible rfl
     try simp only [Act.put, List.setIfInBounds_toArray, List.set_cons_zero, List.set_cons_succ]
     refine wpAnyH_takeD (i := 6) (d := 20) (v := ?_) rfl rfl (by kernel_rfl) (by kernel_rfl) (by kernel_rfl) (fun _ _ _ h => h) (Or.inl ⟨by rfl, ?_⟩) hHeld.out ?_
     rotate_left
     ·intro wv hSw
      replace hSw : Hid (Grew wr wv) := hZ hSw
      go_simp
      try with_reducible rfl
     try simp only [Act.put, List.setIfInBounds_toArray, List.set_cons_zero, List.set_cons_succ]
     refine wpAnyH_takeD (i := 7) (d := 21) (v := ?_) rfl rfl (by kernel_rfl) (by kernel_rfl) (by kernel_rfl) (fun _ _ _ h => h) (Or.inl ⟨by rfl, ?_⟩) hHeld.out ?_
     rotate_left
     ·intro wv hSw
      replace hSw : Hid (Grew wr wv) := hZ hSw
      go_simp
      try with_reducible rfl
     try simp only [Act.put, List.setIfInBounds_toArray, List.set_cons_zero, List.set_cons_succ]
     refine wpAnyH_takeD (i := 8) (d := 22) (v := ?_) rfl rfl (by kernel_rfl) (by kernel_rfl) (by kernel_rfl) (fun _ _ _ h => h) (Or.inl ⟨by rfl, ?_⟩) hHeld.out ?_
     rotate_left
     ·intro wv hSw
      replace hSw : Hid (Grew wr wv) := hZ hSw
      go_simp
      try with_reducible rfl
     try simp only [Act.put, List.setIfInBounds_toArray, List.set_cons_zero, List.set_cons_succ]
     refine wpAnyH_takeD (i := 9) (d := 23) (v := ?_) rfl rfl (by kernel_rfl) (by kernel_rfl) (by kernel_rfl) (fun _ _ _ h => h) (Or.inl ⟨by rfl, ?_⟩) hHeld.out ?_
     rotate_left
     ·intro wv hSw
      replace hSw : Hid (Grew wr wv) := hZ hSw
      go_simp
      try with_reducible rfl
     try simp only [Act.put, List.setIfInBounds_toArray, List.set_cons_zero, List.set_cons_succ]
     refine wpAnyH_takeD (i := 10) (d := 24) (v := ?_) rfl rfl (by kernel_rfl) (by kernel_rfl) (by kernel_rfl) (fun _ _ _ h => h) (Or.inl ⟨by rfl, ?_⟩) hHeld.out ?_
     rotate_left
     ·intro wv hSw
      replace hSw : Hid (Grew wr wv) := hZ hSw
      go_simp
      try with_reducible rfl
     try simp only [Act.put, List.setIfInBounds_toArray, List.set_cons_zero, List.set_cons_succ]
     refine wpAnyH_takeD (i := 11) (d := 25) (v := ?_) rfl rfl (by kernel_rfl) (by kernel_rfl) (by kernel_rfl) (fun _ _ _ h => h) (Or.inl ⟨by rfl, ?_⟩) hHeld.out ?_
     rotate_left
     ·intro wv hSw
      replace hSw : Hid (Grew wr wv) := hZ hSw
      have t0 := hSw.out.cell f0.out
      have t1 := hSw.out.cell f1.out
      go_simp
      try with_reducible rfl
     try simp only [Act.put, List.setIfInBounds_toArray, List.set_cons_zero, List.set_cons_succ]
     refine wpAnyH_takeD (i := 12) (d := 26) (v := ?_) rfl rfl (by kernel_rfl) (by kernel_rfl) (by kernel_rfl) (fun _ _ _ h => h) (Or.inl ⟨by rfl, ?_⟩) hHeld.out ?_
     rotate_left
     ·intro wv hSw
      replace hSw : Hid (Grew wr wv) := hZ hSw
      go_simp
      try with_reducible rfl
     try simp only [Act.put, List.setIfInBounds_toArray, List.set_cons_zero, List.set_cons_succ]
     refine wpAnyH_takeD (i := 13) (d := 27) (v := ?_) rfl rfl (by kernel_rfl) (by kernel_rfl) (by kernel_rfl) (fun _ _ _ h => h) (Or.inl ⟨by rfl, ?_⟩) hHeld.out ?_
     rotate_left
     ·intro wv hSw
      replace hSw : Hid (Grew wr wv) := hZ hSw
      go_simp
      try with_reducible rfl
     try simp only [Act.put, List.setIfInBounds_toArray, List.set_cons_zero, List.set_cons_succ]
     refine wpAnyH_takeD (i := 14) (d := 28) (v := ?_) rfl rfl (by kernel_rfl) (by kernel_rfl) (by kernel_rfl) (fun _ _ _ h => h) (Or.inl ⟨by rfl, ?_⟩) hHeld.out ?_
     rotate_left
     ·intro wv hSw
      replace hSw : Hid (Grew wr wv) := hZ hSw
      go_simp
      try with_reducible rfl
     try simp only [Act.put, List.setIfInBounds_toArray, List.set_cons_zero, List.set_cons_succ]
     refine wpAnyH_takeD (i := 15) (d := 29) (v := ?_) rfl rfl (by kernel_rfl) (by kernel_rfl) (by kernel_rfl) (fun _ _ _ h => h) (Or.inl ⟨by rfl, ?_⟩) hHeld.out ?_
     rotate_left
     ·intro wv hSw
      replace hSw : Hid (Grew wr wv) := hZ hSw
      go_simp
      try with_reducible rfl
     try simp only [Act.put, List.setIfInBounds_toArray, List.set_cons_zero, List.set_cons_succ]
     refine wpAnyH_takeD (i := 16) (d := 30) (v := ?_) rfl rfl (by kernel_rfl) (by kernel_rfl) (by kernel_rfl) (fun _ _ _ h => h) (Or.inl ⟨by rfl, ?_⟩) hHeld.out ?_
     rotate_left
     ·intro wv hSw
      replace hSw : Hid (Grew wr wv) := hZ hSw
      have t0 := hSw.out.cell f2.out
      have t1 := hSw.out.cell f3.out
      go_simp
      try with_reducible rfl
     try simp only [Act.put, List.setIfInBounds_toArray, List.set_cons_zero, List.set_cons_succ]
     refine wpAnyH_takeD (i := 17) (d := 31) (v := ?_) rfl rfl (by kernel_rfl) (by kernel_rfl) (by kernel_rfl) (fun _ _ _ h => h) (Or.inl ⟨by rfl, ?_⟩) hHeld.out ?_
     rotate_left
     ·intro wv hSw
      replace hSw : Hid (Grew wr wv) := hZ hSw
      go_simp
      rw [hite.out]
      try with_reducible rfl
     try simp only [Act.put, List.setIfInBounds_toArray, List.set_cons_zero, List.set_cons_succ]
     refine wpAnyH_takeD (i := 18) (d := 32) (v := ?_) rfl rfl (by kernel_rfl) (by kernel_rfl) (by kernel_rfl) (fun _ _ _ h => h) (Or.inl ⟨by rfl, ?_⟩) hHeld.out ?_
     rotate_left
     ·intro wv hSw
      replace hSw : Hid (Grew wr wv) := hZ hSw
      go_simp
      try with_reducible rfl
     try simp only [Act.put, List.setIfInBounds_toArray, List.set_cons_zero, List.set_cons_succ]
     refine wpAnyH_done (by kernel_rfl) ?_ _
     go_wp2_with fail
     go_roundg (gk - 1)
     case rel => exact ⟨j + 1, by omega, by go_num, by rw [hps'.out]; exact OwnK.grew says_edge og.out hHeld.out, gg.out.trans hHeld.out⟩
     case measure => omega
    ·have hpo : pieceOf l ((ax, ay), bx, b_y) = pairsN (cutsQ ax ay bx b_y l) ((cutsQ ax ay bx b_y l).length - 1) := by
      unfold pieceOf
      rw [if_pos ⟨hf.out, fun e => hne (by simpa using e)⟩]
     have hps' := hZ (hps.out.trans (show _ = acc ++ pairsN (cutsQ ax ay bx b_y l) ((cutsQ ax ay bx b_y l).length - 1) by rw [hpo]))
     have hCl := cutsQ_len ax ay bx b_y l
     have hite := hZ (show ∀ (α : Type) (x y : α), (if ax = bx then if ay = b_y then x else y else y) = y from fun _ x y => by
      by_cases h1 : ax = bx
      ·rw [if_pos h1, if_neg (fun h2 => hne ⟨h1, h2⟩)]
      ·rw [if_neg h1])
     clear hpo hps hne
     refine wp_region_held_drew (S := fun wv => Grew wr wv) (by kernel_rfl) ((Grew.refl wr).drew) (fun hHeld => ?_)
     replace hHeld := hZ hHeld
     try simp only [Act.put, List.setIfInBounds_toArray, List.set_cons_zero, List.set_cons_succ]
     refine wpAnyH_takeD (i := 0) (d := 14) (v := ?_) rfl rfl (by kernel_rfl) (by kernel_rfl) (by kernel_rfl) (fun _ _ _ h => h) (Or.inl ⟨by rfl, ?_⟩) hHeld.out ?_
     rotate_left
     ·intro wv hSw
      replace hSw : Hid (Grew wr wv) := hZ hSw
      go_simp
      try with_reducible rfl
     try simp only [Act.put, List.setIfInBounds_toArray, List.set_cons_zero, List.set_cons_succ]
     refine wpAnyH_takeD (i := 1) (d := 15) (v := ?_) rfl rfl (by kernel_rfl) (by kernel_rfl) (by kernel_rfl) (fun _ _ _ h => h) (Or.inl ⟨by rfl, ?_⟩) hHeld.out ?_
     rotate_left
     ·intro wv hSw
      replace hSw : Hid (Grew wr wv) := hZ hSw
      go_simp
      try with_reducible rfl
     try simp only [Act.put, List.setIfInBounds_toArray, List.set_cons_zero, List.set_cons_succ]
     refine wpAnyH_takeD (i := 2) (d := 16) (v := ?_) rfl rfl (by kernel_rfl) (by kernel_rfl) (by kernel_rfl) (fun _ _ _ h => h) (Or.inl ⟨by rfl, ?_⟩) hHeld.out ?_
     rotate_left
     ·intro wv hSw
      replace hSw : Hid (Grew wr wv) := hZ hSw
      go_simp
      try with_reducible rfl
     try simp only [Act.put, List.setIfInBounds_toArray, List.set_cons_zero, List.set_cons_succ]
     refine wpAnyH_takeD (i := 3) (d := 17) (v := ?_) rfl rfl (by kernel_rfl) (by kernel_rfl) (by kernel_rfl) (fun _ _ _ h => h) (Or.inl ⟨by rfl, ?_⟩) hHeld.out ?_
     rotate_left
     ·intro wv hSw
      replace hSw : Hid (Grew wr wv) := hZ hSw
      have t0 := hSw.out.cell f0.out
      have t1 := hSw.out.cell f1.out
      have t2 := hSw.out.cell f2.out
      have t3 := hSw.out.cell f3.out
      go_simp
      try with_reducible rfl
     try simp only [Act.put, List.setIfInBounds_toArray, List.set_cons_zero, List.set_cons_succ]
     refine wpAnyH_ready (rs := [4]) (by kernel_rfl) (by simp) ?_
     refine AllReadyH.cons rfl (fun KK hKK => ?_) AllReadyH.nil
     go_simp
     refine (rmay_any ax ay bx b_y _).mono ?_
     rintro e wk1 ⟨rfl, g⟩
     have gk := hHeld.out.trans g
     rw [hf.out]
     clear hHeld
     try dsimp only
     refine hKK.out _ _ gk (fun hHeld => ?_)
     clear gk hKK KK
     replace hHeld := hZ (show Grew wr wk1 from hHeld)
     try simp only [Act.put, List.setIfInBounds_toArray, List.set_cons_zero, List.set_cons_succ]
     refine wpAnyH_takeD (i := 5) (d := 19) (v := ?_) rfl rfl (by kernel_rfl) (by kernel_rfl) (by kernel_rfl) (fun _ _ _ h => h) (Or.inl ⟨by rfl, ?_⟩) hHeld.out ?_
     rotate_left
     ·intro wv hSw
      replace hSw : Hid (Grew wr wv) := hZ hSw
      go_simp
      try with_reducible rfl
     try simp only [Act.put, List.setIfInBounds_toArray, List.set_cons_zero, List.set_cons_succ]
     refine wpAnyH_takeD (i := 6) (d := 20) (v := ?_) rfl rfl (by kernel_rfl) (by kernel_rfl) (by kernel_rfl) (fun _ _ _ h => h) (Or.inl ⟨by rfl, ?_⟩) hHeld.out ?_
     rotate_left
     ·intro wv hSw
      replace hSw : Hid (Grew wr wv) := hZ hSw
      go_simp
      try with_reducible rfl
     try simp only [Act.put, List.setIfInBounds_toArray, List.set_cons_zero, List.set_cons_succ]
     refine wpAnyH_takeD (i := 7) (d := 21) (v := ?_) rfl rfl (by kernel_rfl) (by kernel_rfl) (by kernel_rfl) (fun _ _ _ h => h) (Or.inl ⟨by rfl, ?_⟩) hHeld.out ?_
     rotate_left
     ·intro wv hSw
      replace hSw : Hid (Grew wr wv) := hZ hSw
      go_simp
      try with_reducible rfl
     try simp only [Act.put, List.setIfInBounds_toArray, List.set_cons_zero, List.set_cons_succ]
     refine wpAnyH_takeD (i := 8) (d := 22) (v := ?_) rfl rfl (by kernel_rfl) (by kernel_rfl) (by kernel_rfl) (fun _ _ _ h => h) (Or.inl ⟨by rfl, ?_⟩) hHeld.out ?_
     rotate_left
     ·intro wv hSw
      replace hSw : Hid (Grew wr wv) := hZ hSw
      go_simp
      try with_reducible rfl
     try simp only [Act.put, List.setIfInBounds_toArray, List.set_cons_zero, List.set_cons_succ]
     refine wpAnyH_takeD (i := 9) (d := 23) (v := ?_) rfl rfl (by kernel_rfl) (by kernel_rfl) (by kernel_rfl) (fun _ _ _ h => h) (Or.inl ⟨by rfl, ?_⟩) hHeld.out ?_
     rotate_left
     ·intro wv hSw
      replace hSw : Hid (Grew wr wv) := hZ hSw
      go_simp
      try with_reducible rfl
     try simp only [Act.put, List.setIfInBounds_toArray, List.set_cons_zero, List.set_cons_succ]
     refine wpAnyH_takeD (i := 10) (d := 24) (v := ?_) rfl rfl (by kernel_rfl) (by kernel_rfl) (by kernel_rfl) (fun _ _ _ h => h) (Or.inl ⟨by rfl, ?_⟩) hHeld.out ?_
     rotate_left
     ·intro wv hSw
      replace hSw : Hid (Grew wr wv) := hZ hSw
      go_simp
      try with_reducible rfl
     try simp only [Act.put, List.setIfInBounds_toArray, List.set_cons_zero, List.set_cons_succ]
     refine wpAnyH_takeD (i := 11) (d := 25) (v := ?_) rfl rfl (by kernel_rfl) (by kernel_rfl) (by kernel_rfl) (fun _ _ _ h => h) (Or.inl ⟨by rfl, ?_⟩) hHeld.out ?_
     rotate_left
     ·intro wv hSw
      replace hSw : Hid (Grew wr wv) := hZ hSw
      have t0 := hSw.out.cell f0.out
      have t1 := hSw.out.cell f1.out
      go_simp
      try with_reducible rfl
     try simp only [Act.put, List.setIfInBounds_toArray, List.set_cons_zero, List.set_cons_succ]
     refine wpAnyH_takeD (i := 12) (d := 26) (v := ?_) rfl rfl (by kernel_rfl) (by kernel_rfl) (by kernel_rfl) (fun _ _ _ h => h) (Or.inl ⟨by rfl, ?_⟩) hHeld.out ?_
     rotate_left
     ·intro wv hSw
      replace hSw : Hid (Grew wr wv) := hZ hSw
      go_simp
      try with_reducible rfl
     try simp only [Act.put, List.setIfInBounds_toArray, List.set_cons_zero, List.set_cons_succ]
     refine wpAnyH_takeD (i := 13) (d := 27) (v := ?_) rfl rfl (by kernel_rfl) (by kernel_rfl) (by kernel_rfl) (fun _ _ _ h => h) (Or.inl ⟨by rfl, ?_⟩) hHeld.out ?_
     rotate_left
     ·intro wv hSw
      replace hSw : Hid (Grew wr wv) := hZ hSw
      go_simp
      try with_reducible rfl
     try simp only [Act.put, List.setIfInBounds_toArray, List.set_cons_zero, List.set_cons_succ]
     refine wpAnyH_takeD (i := 14) (d := 28) (v := ?_) rfl rfl (by kernel_rfl) (by kernel_rfl) (by kernel_rfl) (fun _ _ _ h => h) (Or.inl ⟨by rfl, ?_⟩) hHeld.out ?_
     rotate_left
     ·intro wv hSw
      replace hSw : Hid (Grew wr wv) := hZ hSw
      go_simp
      try with_reducible rfl
     try simp only [Act.put, List.setIfInBounds_toArray, List.set_cons_zero, List.set_cons_succ]
     refine wpAnyH_takeD (i := 15) (d := 29) (v := ?_) rfl rfl (by kernel_rfl) (by kernel_rfl) (by kernel_rfl) (fun _ _ _ h => h) (Or.inl ⟨by rfl, ?_⟩) hHeld.out ?_
     rotate_left
     ·intro wv hSw
      replace hSw : Hid (Grew wr wv) := hZ hSw
      go_simp
      try with_reducible rfl
     try simp only [Act.put, List.setIfInBounds_toArray, List.set_cons_zero, List.set_cons_succ]
     refine wpAnyH_takeD (i := 16) (d := 30) (v := ?_) rfl rfl (by kernel_rfl) (by kernel_rfl) (by kernel_rfl) (fun _ _ _ h => h) (Or.inl ⟨by rfl, ?_⟩) hHeld.out ?_
     rotate_left
     ·intro wv hSw
      replace hSw : Hid (Grew wr wv) := hZ hSw
      have t0 := hSw.out.cell f2.out
      have t1 := hSw.out.cell f3.out
      go_simp
      try with_reducible rfl
     try simp only [Act.put, List.setIfInBounds_toArray, List.set_cons_zero, List.set_cons_succ]
     refine wpAnyH_takeD (i := 17) (d := 31) (v := ?_) rfl rfl (by kernel_rfl) (by kernel_rfl) (by kernel_rfl) (fun _ _ _ h => h) (Or.inl ⟨by rfl, ?_⟩) hHeld.out ?_
     rotate_left
     ·intro wv hSw
      replace hSw : Hid (Grew wr wv) := hZ hSw
      go_simp
      rw [hite.out]
      try with_reducible rfl
     try simp only [Act.put, List.setIfInBounds_toArray, List.set_cons_zero, List.set_cons_succ]
     refine wpAnyH_takeD (i := 18) (d := 32) (v := ?_) rfl rfl (by kernel_rfl) (by kernel_rfl) (by kernel_rfl) (fun _ _ _ h => h) (Or.inl ⟨by rfl, ?_⟩) hHeld.out ?_
     rotate_left
     ·intro wv hSw
      replace hSw : Hid (Grew wr wv) := hZ hSw
      go_simp
      try with_reducible rfl
     try simp only [Act.put, List.setIfInBounds_toArray, List.set_cons_zero, List.set_cons_succ]
     refine wpAnyH_done (by kernel_rfl) ?_ _
     clear hite
     have r0 := hHeld.out.cell f0.out
     have r1 := hHeld.out.cell f1.out
     have r2 := hHeld.out.cell f2.out
     have r3 := hHeld.out.cell f3.out
     have og1 := hZ (OwnK.grew says_edge og.out hHeld.out)
     have gg1 := hZ (gg.out.trans hHeld.out)
     have zm := hHeld.out.size
     clear og gg hHeld
     go_wp2_with fail
     refine (rcuts_fresh ax ay bx b_y _ l _ ra.out rb.out (hl.out.grew gg1.out) (by omega)).mono ?_
     rintro e w6 ⟨V2, rfl, hV2, hF2, g6⟩
     have og2 := OwnK.grew says_edge og1.out g6
     have gg2 := gg1.out.trans g6
     obtain ⟨C, hC⟩ : ∃ C, cutsQ ax ay bx b_y l = C := ⟨_, rfl⟩
     have hCq := hZ (fun p (hp : p ∈ C) => cuts_qb (ax := ax) (ay := ay) (bx := bx) (b_y := b_y) (l := l) p (by rw [hC]; exact hp))
     rw [hC] at hV2 hps' hCl
     obtain ⟨M, hM⟩ : ∃ M, C.length = M := ⟨_, rfl⟩
     obtain ⟨AA, cc, rfl, y1, y2, -⟩ := id hV2
     rw [hM] at y1 hCl hV2 hps' hF2
     rw [hM]
     replace hV2 := hZ hV2
     replace hF2 := hZ hF2
     replace og2 := hZ og2
     replace gg2 := hZ gg2
     have hne0 := hZ (fun (g : Nat) (h : Value.ownBlock _ = some g) (h2 : Value.ownBlock (.slice AA M cc) = some g) => Nat.lt_irrefl g (Nat.lt_of_lt_of_le (Nat.lt_of_lt_of_le (hown.out g h) zm) (hF2.out g h2)))
     obtain ⟨G, rfl⟩ : ∃ G : Nat, G = gk := ⟨_, rfl⟩
     clear og1 gg1 r0 r1 r2 r3 g6 hF2 hC hown zm f0 f1 f2 f3
     go_wp2_with fail
     go_loopg [3, 6] M (fun gk s3 s6 wr => ∃ n i : Nat, gk + n = M ∧ n + 1 = i ∧ s6 = .int .i64 n ∧ (n ≤ M - 1) ∧ OwnK 12 Edge12R 37 wr w.heap.size s3 (acc ++ pairsN C n) ∧ RowC wr (.slice AA M cc) C ∧ (∀ g, s3.ownBlock = some g → Value.ownBlock (.slice AA M cc) = some g → False) ∧ Grew w wr)
     case atStart => exact ⟨0, 1, rfl, rfl, rfl, by omega, by rw [pairsN_zero, List.append_nil]; exact og2.out, hV2.out, hne0.out, gg2.out⟩
     case round =>
      obtain ⟨n, i, hgn, hni, rfl, hnM, hO, hV, hnb, hG⟩ := hrel
      clear og2 hV2 hne0 gg2
      have hwi : IntKind.i64.wrap ((n : Int) + 1) = (i : Int) := by rw [IntWalk.i64_in _ (by omega)]; omega
      by_cases hi : i < M
      ·obtain ⟨A8, c8, e8, -, -, z3⟩ := id hV
       obtain ⟨bb, oo, e7, ke⟩ := z3 (by omega)
       obtain rfl : AA = some ⟨bb, oo, none⟩ := by rw [← e7]; injection e8
       clear e8 z3 e7
       obtain ⟨p, hp⟩ : ∃ p, C[n]? = some p := ⟨C[n]'(by omega), List.getElem?_eq_getElem _⟩
       obtain ⟨q, hq⟩ : ∃ q, C[n + 1]? = some q := ⟨C[n + 1]'(by omega), List.getElem?_eq_getElem _⟩
       obtain ⟨b1, A1, n1, c1, C1, m1, d1, b2, A2, n2, c2, C2, m2, d2, ⟨e0, e1, e2, e3, e4, e5⟩, S1⟩ := ke n p hp
       obtain ⟨b3, A3, n3, c3, C3, m3, d3, b4, A4, n4, c4, C4, m4, d4, ⟨f0, f1, f2, f3, f4, f5⟩, S2⟩ := ke (n + 1) q hq
       rw [hni] at f0 f1 f2 f3 f4 f5
       have g0 : wr.cell? ⟨bb, oo + n * 6, none⟩ = some (.bool b1) := e0
       have g1 : wr.cell? ⟨bb, oo + n * 6 + 1, none⟩ = some (.slice A1 n1 c1) := e1
       have g2 : wr.cell? ⟨bb, oo + n * 6 + 2, none⟩ = some (.slice C1 m1 d1) := e2
       have g3 : wr.cell? ⟨bb, oo + n * 6 + 3, none⟩ = some (.bool b2) := e3
       have g4 : wr.cell? ⟨bb, oo + n * 6 + 4, none⟩ = some (.slice A2 n2 c2) := e4
       have g5 : wr.cell? ⟨bb, oo + n * 6 + 5, none⟩ = some (.slice C2 m2 d2) := e5
       have h0 : wr.cell? ⟨bb, oo + i * 6, none⟩ = some (.bool b3) := f0
       have h1 : wr.cell? ⟨bb, oo + i * 6 + 1, none⟩ = some (.slice A3 n3 c3) := f1
       have h2 : wr.cell? ⟨bb, oo + i * 6 + 2, none⟩ = some (.slice C3 m3 d3) := f2
       have h3 : wr.cell? ⟨bb, oo + i * 6 + 3, none⟩ = some (.bool b4) := f3
       have h4 : wr.cell? ⟨bb, oo + i * 6 + 4, none⟩ = some (.slice A4 n4 c4) := f4
       have h5 : wr.cell? ⟨bb, oo + i * 6 + 5, none⟩ = some (.slice C4 m4 d4) := f5
       have hpq := hZ (hCq.out p (List.mem_of_getElem? hp))
       have hqq := hZ (hCq.out q (List.mem_of_getElem? hq))
       have hpl := pairsN_len C n
       have hal2 : (acc ++ pairsN C n).length ≤ 262144 * 524289 + M := by rw [List.length_append]; omega
       have hnl : (n : Int) < (M : Int) := by omega
       have hil : (i : Int) < (M : Int) := by omega
       have hpC := hZ hp
       have hqC := hZ hq
       have hbb := hZ (row_lt hV (by omega))
       have S1' := hZ S1
       have S2' := hZ S2
       replace hO := hZ hO
       replace hV := hZ hV
       replace hnb := hZ hnb
       replace hG := hZ hG
       replace hni := hZ hni
       clear ke hp hq S1 S2 e0 e1 e2 e3 e4 e5 f0 f1 f2 f3 f4 f5
       obtain ⟨WA, hWA⟩ : ∃ WA, wr.alloc (.cells #[.bool false, .slice none 0 0, .slice none 0 0, .bool false, .slice none 0 0, .slice none 0 0, .bool false, .slice none 0 0, .slice none 0 0, .bool false, .slice none 0 0, .slice none 0 0] 37) = WA := ⟨_, rfl⟩
       have gl : Grew wr WA := by rw [← hWA]; exact (Grew.refl _).alloc _
       have k0 := gl.cell g0
       have k1 := gl.cell g1
       have k2 := gl.cell g2
       have k3 := gl.cell g3
       have k4 := gl.cell g4
       have k5 := gl.cell g5
       have k6 := gl.cell h0
       have k7 := gl.cell h1
       have k8 := gl.cell h2
       have k9 := gl.cell h3
       have k10 := gl.cell h4
       have k11 := gl.cell h5
       have u0 : WA.cell? ⟨wr.heap.size, 0, none⟩ = some (.bool false) := by rw [← hWA]; simp [go_sem]
       have v0 : WA.frozen? ⟨wr.heap.size, 0, none⟩ = false := by rw [← hWA]; simp [go_sem]
       have u1 : WA.cell? ⟨wr.heap.size, 1, none⟩ = some (.slice none 0 0) := by rw [← hWA]; simp [go_sem]
       have v1 : WA.frozen? ⟨wr.heap.size, 1, none⟩ = false := by rw [← hWA]; simp [go_sem]
       have u2 : WA.cell? ⟨wr.heap.size, 2, none⟩ = some (.slice none 0 0) := by rw [← hWA]; simp [go_sem]
       have v2 : WA.frozen? ⟨wr.heap.size, 2, none⟩ = false := by rw [← hWA]; simp [go_sem]
       have u3 : WA.cell? ⟨wr.heap.size, 3, none⟩ = some (.bool false) := by rw [← hWA]; simp [go_sem]
       have v3 : WA.frozen? ⟨wr.heap.size, 3, none⟩ = false := by rw [← hWA]; simp [go_sem]
       have u4 : WA.cell? ⟨wr.heap.size, 4, none⟩ = some (.slice none 0 0) := by rw [← hWA]; simp [go_sem]
       have v4 : WA.frozen? ⟨wr.heap.size, 4, none⟩ = false := by rw [← hWA]; simp [go_sem]
       have u5 : WA.cell? ⟨wr.heap.size, 5, none⟩ = some (.slice none 0 0) := by rw [← hWA]; simp [go_sem]
       have v5 : WA.frozen? ⟨wr.heap.size, 5, none⟩ = false := by rw [← hWA]; simp [go_sem]
       have u6 : WA.cell? ⟨wr.heap.size, 6, none⟩ = some (.bool false) := by rw [← hWA]; simp [go_sem]
       have v6 : WA.frozen? ⟨wr.heap.size, 6, none⟩ = false := by rw [← hWA]; simp [go_sem]
       have u7 : WA.cell? ⟨wr.heap.size, 7, none⟩ = some (.slice none 0 0) := by rw [← hWA]; simp [go_sem]
       have v7 : WA.frozen? ⟨wr.heap.size, 7, none⟩ = false := by rw [← hWA]; simp [go_sem]
       have u8 : WA.cell? ⟨wr.heap.size, 8, none⟩ = some (.slice none 0 0) := by rw [← hWA]; simp [go_sem]
       have v8 : WA.frozen? ⟨wr.heap.size, 8, none⟩ = false := by rw [← hWA]; simp [go_sem]
       have u9 : WA.cell? ⟨wr.heap.size, 9, none⟩ = some (.bool false) := by rw [← hWA]; simp [go_sem]
       have v9 : WA.frozen? ⟨wr.heap.size, 9, none⟩ = false := by rw [← hWA]; simp [go_sem]
       have u10 : WA.cell? ⟨wr.heap.size, 10, none⟩ = some (.slice none 0 0) := by rw [← hWA]; simp [go_sem]
       have v10 : WA.frozen? ⟨wr.heap.size, 10, none⟩ = false := by rw [← hWA]; simp [go_sem]
       have u11 : WA.cell? ⟨wr.heap.size, 11, none⟩ = some (.slice none 0 0) := by rw [← hWA]; simp [go_sem]
       have v11 : WA.frozen? ⟨wr.heap.size, 11, none⟩ = false := by rw [← hWA]; simp [go_sem]
       go_upto_region 10 with fail
       go_region
       refine gen_then ?_
       intro W10 hW10
       obtain ⟨q0, q1, q2, q3, q4, q5, q6, q7, q8, q9, q10, q11, qK, qG, qF⟩ := store12d u0 u1 u2 u3 u4 u5 u6 u7 u8 u9 u10 u11 hW10
       have g10 := qG wr (Nat.le_refl _) gl
       clear qK qG hW10 u0 u1 u2 u3 u4 u5 u6 u7 u8 u9 u10 u11 k0 k1 k2 k3 k4 k5 k6 k7 k8 k9 k10 k11 hWA gl g0 g1 g2 g3 g4 g5 h0 h1 h2 h3 h4 h5
       replace g10 := hZ g10
       go_wp2_with fail
       refine (rscmp_any _ _ p.1 p.2 q.1 q.2 7 _ (SpotC.r (SpotC.kept S1'.out g10.out.keeps) hpq.out.1 hpq.out.2) (SpotC.r (SpotC.kept S2'.out g10.out.keeps) hqq.out.1 hqq.out.2) (by omega) (by omega)).mono ?_
       rintro e w11 ⟨rfl, g11⟩
       obtain ⟨-, hfz⟩ := g11.olds
       have zlt := World.block_lt_of_cell? W10 _ q0
       replace v0 := (hfz _ 0 zlt).trans ((qF _).trans v0)
       replace v1 := (hfz _ 1 zlt).trans ((qF _).trans v1)
       replace v2 := (hfz _ 2 zlt).trans ((qF _).trans v2)
       replace v3 := (hfz _ 3 zlt).trans ((qF _).trans v3)
       replace v4 := (hfz _ 4 zlt).trans ((qF _).trans v4)
       replace v5 := (hfz _ 5 zlt).trans ((qF _).trans v5)
       replace v6 := (hfz _ 6 zlt).trans ((qF _).trans v6)
       replace v7 := (hfz _ 7 zlt).trans ((qF _).trans v7)
       replace v8 := (hfz _ 8 zlt).trans ((qF _).trans v8)
       replace v9 := (hfz _ 9 zlt).trans ((qF _).trans v9)
       replace v10 := (hfz _ 10 zlt).trans ((qF _).trans v10)
       replace v11 := (hfz _ 11 zlt).trans ((qF _).trans v11)
       clear hfz zlt qF
       replace q0 := g11.cell q0
       replace q1 := g11.cell q1
       replace q2 := g11.cell q2
       replace q3 := g11.cell q3
       replace q4 := g11.cell q4
       replace q5 := g11.cell q5
       replace q6 := g11.cell q6
       replace q7 := g11.cell q7
       replace q8 := g11.cell q8
       replace q9 := g11.cell q9
       replace q10 := g11.cell q10
       replace q11 := g11.cell q11
       have g12 := hZ (g10.out.trans g11)
       clear g10 g11
       by_cases hc : 0 < spotCmp p.1 p.2 q.1 q.2
       ·have hed := hZ (show edgeOf p q = (q, p) from if_pos hc)
        have XR := hZ (edge_r (k := 7) (edge_mk (e := (p, q)) (SpotC.kept S1'.out g12.out.keeps) (SpotC.kept S2'.out g12.out.keeps)) ⟨hpq.out, hqq.out⟩)
        go_wp2_with fail
        refine (rturned_any _ (p, q) 7 _ XR.out (by omega)).mono ?_
        rintro e w13 ⟨vs, rfl, hV13, g13⟩
        obtain ⟨b5, A5, n5, c5, C5, m5, d5, b6, A6, n6, c6, C6, m6, d6, b7, A7, n7, c7, C7, m7, d7, b8, A8, n8, c8, C8, m8, d8, rfl, X13⟩ := edge12_laid hV13
        obtain ⟨-, hfz⟩ := g13.olds
        have zlt := World.block_lt_of_cell? w11 _ q0
        replace v0 := (hfz _ 0 zlt).trans v0
        replace v1 := (hfz _ 1 zlt).trans v1
        replace v2 := (hfz _ 2 zlt).trans v2
        replace v3 := (hfz _ 3 zlt).trans v3
        replace v4 := (hfz _ 4 zlt).trans v4
        replace v5 := (hfz _ 5 zlt).trans v5
        replace v6 := (hfz _ 6 zlt).trans v6
        replace v7 := (hfz _ 7 zlt).trans v7
        replace v8 := (hfz _ 8 zlt).trans v8
        replace v9 := (hfz _ 9 zlt).trans v9
        replace v10 := (hfz _ 10 zlt).trans v10
        replace v11 := (hfz _ 11 zlt).trans v11
        clear hfz zlt hV13 XR
        replace q0 := g13.cell q0
        replace q1 := g13.cell q1
        replace q2 := g13.cell q2
        replace q3 := g13.cell q3
        replace q4 := g13.cell q4
        replace q5 := g13.cell q5
        replace q6 := g13.cell q6
        replace q7 := g13.cell q7
        replace q8 := g13.cell q8
        replace q9 := g13.cell q9
        replace q10 := g13.cell q10
        replace q11 := g13.cell q11
        have g14 := hZ (g12.out.trans g13)
        clear g12 g13
        go_upto_region 13 with fail
        refine gen_wp ?_
        intro W12 hW12
        obtain ⟨p0, p1, p2, p3, p4, p5, p6, p7, p8, p9, p10, p11, pK, pG⟩ := store12 q0 q1 q2 q3 q4 q5 q6 q7 q8 q9 q10 q11 hW12
        have gZ := pG wr (Nat.le_refl _) g14.out
        have XE := hZ (show Edge12R W12 #[.bool b5, .slice A5 n5 c5, .slice C5 m5 d5, .bool b6, .slice A6 n6 c6, .slice C6 m6 d6, .bool b7, .slice A7 n7 c7, .slice C7 m7 d7, .bool b8, .slice A8 n8 c8, .slice C8 m8 d8] (edgeOf p q) from by rw [hed.out]; exact says_edge.kept X13.out pK)
        clear pK pG hW12 g14 hed hc X13 q0 q1 q2 q3 q4 q5 q6 q7 q8 q9 q10 q11 v0 v1 v2 v3 v4 v5 v6 v7 v8 v9 v10 v11
        have oA := hZ (OwnK.grew says_edge hO.out gZ)
        have hVA := hZ (hV.out.grew gZ)
        have gA := hZ (hG.out.trans gZ)
        have hszA := gA.out.size
        have hbB := hZ (fun g (hg : Value.ownBlock (.slice (some ⟨bb, oo, none⟩) M cc) = some g) => Nat.lt_of_lt_of_le (hbb.out g hg) gZ.size)
        have hnA := hnb
        clear hO hV hG hnb hbb gZ S1' S2'
        go_wp2_with (first | fail | (at_builtin; (refine wpList_appK (m := [edgeOf p q]) rfl (.tmp 64) (.tmp 66) 24 rfl rfl says_edge oA.out _ (cells_one says_edge XE.out) rfl _ 224 Tryz.underlying24 info_edge rfl (by omega) znoE (by simp only [List.length_cons, List.length_nil]; omega) (by omega) hszA ?_); intro vB wzB hOB hKB hCB hWB hGB))
        have gzB := hZ (hGB w (Nat.le_refl _) gA.out)
        have ozB := hZ (show OwnK 12 Edge12R 37 wzB w.heap.size vB (acc ++ pairsN C (n + 1)) from by rw [pairsN_succ hpC.out hqC.out, ← List.append_assoc]; exact hOB)
        have hneB := hZ (fun (g : Nat) (hg : vB.ownBlock = some g) (hv : Value.ownBlock (.slice (some ⟨bb, oo, none⟩) M cc) = some g) => (hWB g hg).elim (fun h => hnA.out g h hv) (fun h => Nat.lt_irrefl _ (Nat.lt_of_lt_of_le (hbB.out g hv) h)))
        have hVB := hZ (row_kept (w' := wzB) hVA.out hKB (fun j u hu => hCB bb j u (fun h => hnA.out bb h rfl) hu))
        clear hOB hKB hCB hWB hGB oA XE gA hszA hVA hnA hbB
        go_wp2_with fail
        go_roundg (gk - 1)
        case rel => exact ⟨n + 1, i + 1, by have := hni.out; omega, by have := hni.out; omega, by have := hni.out; go_num, by have := hni.out; omega, ozB.out, hVB.out, hneB.out, gzB.out⟩
        case measure => have := hni.out; omega
       ·have hed := hZ (show edgeOf p q = (p, q) from if_neg hc)
        go_upto_region 13 with fail
        have gZ := g12.out
        have XE := hZ (show Edge12R w11 #[.bool b1, .slice A1 n1 c1, .slice C1 m1 d1, .bool b2, .slice A2 n2 c2, .slice C2 m2 d2, .bool b3, .slice A3 n3 c3, .slice C3 m3 d3, .bool b4, .slice A4 n4 c4, .slice C4 m4 d4] (edgeOf p q) from by rw [hed.out]; exact edge_mk (e := (p, q)) (SpotC.kept S1'.out gZ.keeps) (SpotC.kept S2'.out gZ.keeps))
        clear g12 hed hc v0 v1 v2 v3 v4 v5 v6 v7 v8 v9 v10 v11
        have oA := hZ (OwnK.grew says_edge hO.out gZ)
        have hVA := hZ (hV.out.grew gZ)
        have gA := hZ (hG.out.trans gZ)
        have hszA := gA.out.size
        have hbB := hZ (fun g (hg : Value.ownBlock (.slice (some ⟨bb, oo, none⟩) M cc) = some g) => Nat.lt_of_lt_of_le (hbb.out g hg) gZ.size)
        have hnA := hnb
        clear hO hV hG hnb hbb gZ S1' S2'
        go_wp2_with (first | fail | (at_builtin; (refine wpList_appK (m := [edgeOf p q]) rfl (.tmp 64) (.tmp 66) 24 rfl rfl says_edge oA.out _ (cells_one says_edge XE.out) rfl _ 224 Tryz.underlying24 info_edge rfl (by omega) znoE (by simp only [List.length_cons, List.length_nil]; omega) (by omega) hszA ?_); intro vB wzB hOB hKB hCB hWB hGB))
        have gzB := hZ (hGB w (Nat.le_refl _) gA.out)
        have ozB := hZ (show OwnK 12 Edge12R 37 wzB w.heap.size vB (acc ++ pairsN C (n + 1)) from by rw [pairsN_succ hpC.out hqC.out, ← List.append_assoc]; exact hOB)
        have hneB := hZ (fun (g : Nat) (hg : vB.ownBlock = some g) (hv : Value.ownBlock (.slice (some ⟨bb, oo, none⟩) M cc) = some g) => (hWB g hg).elim (fun h => hnA.out g h hv) (fun h => Nat.lt_irrefl _ (Nat.lt_of_lt_of_le (hbB.out g hv) h)))
        have hVB := hZ (row_kept (w' := wzB) hVA.out hKB (fun j u hu => hCB bb j u (fun h => hnA.out bb h rfl) hu))
        clear hOB hKB hCB hWB hGB oA XE gA hszA hVA hnA hbB
        go_wp2_with fail
        go_roundg (gk - 1)
        case rel => exact ⟨n + 1, i + 1, by have := hni.out; omega, by have := hni.out; omega, by have := hni.out; go_num, by have := hni.out; omega, ozB.out, hVB.out, hneB.out, gzB.out⟩
        case measure => have := hni.out; omega
      ·have hnn : n = M - 1 := by omega
       subst hnn
       have hil : ¬ (i : Int) < (M : Int) := by omega
       have hO' := hZ hO
       have hG' := hZ hG
       replace hni := hZ hni
       clear hO hV hnb hG
       go_wp2_with fail
       go_roundg (G - 1)
       case rel => exact ⟨j + 1, by omega, by go_num, by rw [hps'.out]; exact hO'.out, hG'.out⟩
       case measure => omega
  ·obtain rfl : j = L := by omega
   have hall : l.take j = l := by rw [← hL]; exact List.take_length
   rw [hall] at hO
   have hfl := flat_len (pieceOf l) (1 + 2 * j) (fun s => by rw [← hL]; exact pieceOf_len l s) l
   have hmj : l.length * (1 + 2 * j) ≤ 262144 * 524289 := Nat.mul_le_mul (by omega) (by omega)
   have hqe := hZ (show ∀ e ∈ l.flatMap (pieceOf l), EB 7 e from fun e he => by
    obtain ⟨s, -, hs⟩ := List.mem_flatMap.1 he
    exact piece_eb e hs)
   have hrw := hZ (edge12_r hO.row hqe.out)
   have hG' := hZ hG
   clear hO hG
   go_wp2_with fail
   refine (rxrow_any _ (l.flatMap (pieceOf l)) 7 _ hrw.out hqe.out (by omega) (by omega) (by omega)).mono ?_
   rintro e w2 ⟨V2, rfl, hrow, g2⟩
   have hg := hZ (hG'.out.trans g2)
   replace hrow := hZ hrow
   clear g2 hG' hrw hqe hfl hmj
   go_wp2_with fail
   go_ret
   exact ⟨_, rfl, hrow.out, hg.out⟩
set_option maxHeartbeats 4000000 in
theorem splitpieces_any (v : Value) (l : List SegZ) (w : World) (hl : SegsR w v l) (hn : l.length ≤ 262144) :
  Calls Tryz.prog 3 #[v] w fun e w' => e = .returned (.bool true) ∧ Grew w w' := by
 obtain ⟨A, c, rfl, -, -, -⟩ := id hl
 replace hl := hZ hl
 go_enter Tryz.func3, Tryz.ntmps3
 go_wp2_with fail
 refine (pieces_any _ l _ hl.out hn).mono ?_
 rintro e w1 ⟨V1, rfl, hV1, g⟩
 have G1 := hZ g
 replace hV1 := hZ hV1
 clear g
 go_wp2_with fail
 refine (rpieces_any _ l _ (hl.out.grew G1.out) hn).mono ?_
 rintro e w2 ⟨V2, rfl, hV2, g⟩
 have G2 := hZ (G1.out.trans g)
 replace hV1 := hZ (RowK.grew says_edge hV1.out g)
 replace hV2 := hZ hV2
 clear g G1
 go_wp2_with fail
 refine (esame_yes _ _ _ _ hV1.out hV2.out).mono ?_
 rintro e w3 ⟨rfl, g⟩
 have G3 := hZ (G2.out.trans g)
 clear g G2 hV1 hV2
 go_wp2_with fail
 refine (lives18_any _).mono ?_
 rintro e w7 ⟨rfl, g⟩
 have G7 := hZ (G3.out.trans g)
 clear g G3
 go_wp2_with fail
 go_ret
 exact ⟨rfl, G7.out⟩
end Go.Proofs.YtmommicmblfibaaGreat
