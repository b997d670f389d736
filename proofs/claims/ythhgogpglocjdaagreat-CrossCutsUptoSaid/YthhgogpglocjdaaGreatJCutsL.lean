/- An operation of a region that draws is taken first, its slot written out. Conditions: none. r17.Cuts. Condition: ints of 64 bits; at most 2^20 ways. law17.lives: two ways meet in the middle. Condition: none. frisketlaw17.CrossCuts: its walk. Condition: ints of 64 bits; at most 2^20 ways. -/
import Derived.Test.YthhgogpglocjdaaGreatJKit
import Derived.Deep.RegionHeld3
import Derived.Test.YthhgogpglocjdaaGreatJCrossR
import Derived.Test.YthhgogpglocjdaaGreatJRMeet2
import Derived.Test.YthhgogpglocjdaaGreatJMeetP3
import Derived.Test.YthhgogpglocjdaaGreatJRoundsP
import Derived.Test.YthhgogpglocjdaaGreatJCross8
namespace Go.Proofs.YthhgogpglocjdaaGreat
open Go.RowKit

/-- An operation is taken first, its slot written out. -/
theorem wpAnyH_takeD {P : Program} {ops : Array Oper} {Q : Exit → Act → World → Prop} {md : Region.Mode} {S : World → Prop} {i d : Nat} {oi : Oper} {v : Value} {fuel : Nat} {listed : Array Bool} {a : Act} {w : World} (hi : ops[i]? = some oi) (hd : oi.dst = some d)
    (hs : Region.noSelect ops = true) (hf : Region.free md ops listed i = true) (hr : (Region.ready md ops listed).contains i = true)
    (hQ : ∀ c a w, Q (.panic c) (a.put (some d) v) w → Q (.panic c) a w) (hy : YieldsIf P ops S oi v a) (hS : S w)
    (h : wpAnyH P md ops Q S fuel (listed.setIfInBounds i true) (a.put (some d) v) w) : wpAnyH P md ops Q S (fuel + 1) listed a w :=
  wpAnyH_take hi hs hf hr (by rw [hd]; exact hQ) hy hS (by rw [hd]; exact h)
end Go.Proofs.YthhgogpglocjdaaGreat
namespace Go.Proofs.YthhgogpglocjdaaGreat
open Go.RowKit

set_option maxRecDepth 100000 in
set_option maxHeartbeats 16000000 in
theorem rcuts_any (ax ay bx b_y : Int) (v : Value) (l : List SegZ) (w : World) (ra : In64 ax ay) (rb : In64 bx b_y) (hl : SegsR w v l) (hn : l.length ≤ 1048576) :
    Calls Tryz.prog 17 #[segV ax ay bx b_y, v] w fun e w' => ∃ v', e = .returned v' ∧ RowC w' v' (cutsQ ax ay bx b_y l) ∧ Grew w w' := by
  obtain ⟨A, c, rfl, h1, h2, h3⟩ := hl
  obtain ⟨L, hL⟩ : ∃ L, l.length = L := ⟨_, rfl⟩
  rw [hL] at h1 hn h3
  rw [hL]
  have hm : L ≤ 9223372036854775807 := by omega
  replace h3 := Lib.hid h3
  replace ra := Lib.hid ra
  replace rb := Lib.hid rb
  obtain ⟨f, hf⟩ : ∃ f, (fitB ax ay && fitB bx b_y) = f := ⟨_, rfl⟩
  replace hf := Lib.hid hf
  obtain ⟨cq, hcq⟩ : ∃ cq, cutsQ ax ay bx b_y l = cq := ⟨_, rfl⟩
  rw [hcq]
  replace hcq := Lib.hid hcq
  go_enter Tryz.func17, Tryz.ntmps17
  go_upto_region 1 with fail
  refine gen_wp ?_
  intro W1 hW1
  have p0 : W1.cell? ⟨w.heap.size, 0, none⟩ = some (.int .i64 ax) := by rw [hW1]; simp [go_sem]
  have p1 : W1.cell? ⟨w.heap.size, 1, none⟩ = some (.int .i64 ay) := by rw [hW1]; simp [go_sem]
  have p2 : W1.cell? ⟨w.heap.size, 2, none⟩ = some (.int .i64 bx) := by rw [hW1]; simp [go_sem]
  have p3 : W1.cell? ⟨w.heap.size, 3, none⟩ = some (.int .i64 b_y) := by rw [hW1]; simp [go_sem]
  have G1 : Grew w W1 := by rw [hW1]; exact (Grew.refl _).alloc _
  have zw : w.heap.size < W1.heap.size := by rw [hW1]; simp
  replace G1 := Lib.hid G1
  clear hW1
  go_wp2_with fail
  refine (rmay_any ax ay bx b_y _).mono ?_
  rintro e W2 ⟨rfl, g2⟩
  rw [hf.out]
  replace g2 := Lib.hid g2
  cases f
  · have hcq' := Lib.hid (hcq.out.symm.trans (by unfold cutsQ; rw [hf.out]; rfl) : cq = [])
    have gE := Lib.hid (G1.out.trans g2.out)
    clear p0 p1 p2 p3
    go_wp2_with fail
    go_ret
    exact ⟨_, rfl, by rw [hcq'.out]; exact RowP.nil _ _, gE.out⟩
  have q0 := g2.out.cell p0
  have q1 := g2.out.cell p1
  have q2 := g2.out.cell p2
  have q3 := g2.out.cell p3
  go_wp2_with fail
  go_region_held3 (fun w' => w'.cell? ⟨w.heap.size, 0, none⟩ = some (.int .i64 ax) ∧ w'.cell? ⟨w.heap.size, 1, none⟩ = some (.int .i64 ay) ∧ w'.cell? ⟨w.heap.size, 2, none⟩ = some (.int .i64 bx) ∧ w'.cell? ⟨w.heap.size, 3, none⟩ = some (.int .i64 b_y))
    (first | exact ⟨q0, q1, q2, q3⟩ | exact ⟨g5.cell q0, g5.cell q1, g5.cell q2, g5.cell q3⟩ | exact ⟨(g5.trans g6).cell q0, (g5.trans g6).cell q1, (g5.trans g6).cell q2, (g5.trans g6).cell q3⟩ | exact ⟨((g5.trans g6).alloc _).cell q0, ((g5.trans g6).alloc _).cell q1, ((g5.trans g6).alloc _).cell q2, ((g5.trans g6).alloc _).cell q3⟩)
    (first | (have chk := g5; clear chk; go_at_call 23; refine (rat5_any bx b_y _ rb.out.1 rb.out.2.1 rb.out.2.2.1 rb.out.2.2.2).mono ?_; rintro e w6 ⟨V6, rfl, hV6, g6⟩; obtain ⟨b9, A9, n9, c9, C9, m9, d9, b10, A10, n10, c10, C10, m10, d10, rfl, -, -, X6⟩ := hV6.laid; clear hV6) | (go_at_call 23; refine (rat5_any ax ay _ ra.out.1 ra.out.2.1 ra.out.2.2.1 ra.out.2.2.2).mono ?_; rintro e w5 ⟨V5, rfl, hV5, g5⟩; obtain ⟨b7, A7, n7, c7, C7, m7, d7, b8, A8, n8, c8, C8, m8, d8, rfl, -, -, X5⟩ := hV5.laid; clear hV5))
  have gS := ((g2.out.drew).trans g5).trans g6
  have oS := Lib.hid (own_two (e := 39) (base := W1.heap.size) gS.size (SpotC.kept X5.out g6.keeps) X6.out)
  have gT := Lib.hid (gS.alloc (.cells #[.bool b7, .slice A7 n7 c7, .slice C7 m7 d7, .bool b8, .slice A8 n8 c8, .slice C8 m8 d8, .bool b9, .slice A9 n9 c9, .slice C9 m9 d9, .bool b10, .slice A10 n10 c10, .slice C10 m10 d10] 39))
  clear gS g5 g6 X5 X6 q0 q1 q2 q3 g2
  go_wp2_with fail
  go_loopg [5, 6] L (fun gk s5 s6 wr => ∃ j : Nat, gk + j = L ∧ s6 = .int .i64 j ∧ OwnC 39 wr W1.heap.size s5 (cutAll ax ay bx b_y (l.take j)) ∧ Grew W1 wr)
  case atStart => exact ⟨0, rfl, rfl, by rw [List.take_zero]; exact oS.out, gT.out⟩
  case round =>
    obtain ⟨j, hj, rfl, hO, hG⟩ := hrel
    clear oS gT
    by_cases hlt : j < L
    · obtain ⟨b, o, rfl, he⟩ := h3.out (by omega)
      obtain ⟨t, ht⟩ : ∃ t, l[j]? = some t := ⟨l[j]'(by omega), List.getElem?_eq_getElem _⟩
      obtain ⟨⟨e0, e1, e2, e3⟩, rc, rd⟩ := he j t ht
      have hsu : cutAll ax ay bx b_y (l.take (j + 1)) = cutAll ax ay bx b_y (l.take j) ++ meetW ax ay bx b_y t := cutRow_succ _ _ _ ht
      have hle := cutAll_len ax ay bx b_y (l.take j)
      have hml := meetW_len ax ay bx b_y t
      have htl : (l.take j).length = j := by rw [List.length_take]; omega
      have hmq := meetQ_eq ax ay bx b_y t.1.1 t.1.2 t.2.1 t.2.2
      obtain ⟨⟨cx, cy⟩, dx, dy⟩ := t
      simp only [] at e0 e1 e2 e3 rc rd hmq
      have f0 := Lib.hid (G1.out.cell e0)
      have f1 := Lib.hid (G1.out.cell e1)
      have f2 := Lib.hid (G1.out.cell e2)
      have f3 := Lib.hid (G1.out.cell e3)
      replace p0 := Lib.hid p0
      replace p1 := Lib.hid p1
      replace p2 := Lib.hid p2
      replace p3 := Lib.hid p3
      replace rc := Lib.hid rc
      replace rd := Lib.hid rd
      replace hsu := Lib.hid hsu
      replace hmq := Lib.hid hmq
      have hjl : (j : Int) < (L : Int) := by omega
      have hO' := Lib.hid hO
      have hG' := Lib.hid hG
      clear e0 e1 e2 e3 he hO hG ht
      go_wp2_with fail
      refine wp_region_held_drew (S := fun wv => Grew W1 wv) (by kernel_rfl) (hG'.out.drew) (fun hHeld => ?_)
      replace hHeld := Lib.hid hHeld
      try simp only [Act.put, List.setIfInBounds_toArray, List.set_cons_zero, List.set_cons_succ]
      refine wpAnyH_takeD (i := 0) (d := 25) (v := ?_) rfl rfl (by kernel_rfl) (by kernel_rfl) (by kernel_rfl) (fun _ _ _ h => h) (Or.inl ⟨by rfl, ?_⟩) hHeld.out ?_
      rotate_left
      · intro wv hSw
        replace hSw : Hid (Grew W1 wv) := Lib.hid hSw
        go_simp
        try with_reducible rfl
      try simp only [Act.put, List.setIfInBounds_toArray, List.set_cons_zero, List.set_cons_succ]
      refine wpAnyH_takeD (i := 1) (d := 26) (v := ?_) rfl rfl (by kernel_rfl) (by kernel_rfl) (by kernel_rfl) (fun _ _ _ h => h) (Or.inl ⟨by rfl, ?_⟩) hHeld.out ?_
      rotate_left
      · intro wv hSw
        replace hSw : Hid (Grew W1 wv) := Lib.hid hSw
        have t0 := hSw.out.cell p0.out
        have t1 := hSw.out.cell p1.out
        have t2 := hSw.out.cell p2.out
        have t3 := hSw.out.cell p3.out
        go_simp
        try with_reducible rfl
      try simp only [Act.put, List.setIfInBounds_toArray, List.set_cons_zero, List.set_cons_succ]
      refine wpAnyH_takeD (i := 2) (d := 27) (v := ?_) rfl rfl (by kernel_rfl) (by kernel_rfl) (by kernel_rfl) (fun _ _ _ h => h) (Or.inl ⟨by rfl, ?_⟩) hHeld.out ?_
      rotate_left
      · intro wv hSw
        replace hSw : Hid (Grew W1 wv) := Lib.hid hSw
        go_simp
        try with_reducible rfl
      try simp only [Act.put, List.setIfInBounds_toArray, List.set_cons_zero, List.set_cons_succ]
      refine wpAnyH_takeD (i := 3) (d := 28) (v := ?_) rfl rfl (by kernel_rfl) (by kernel_rfl) (by kernel_rfl) (fun _ _ _ h => h) (Or.inl ⟨by rfl, ?_⟩) hHeld.out ?_
      rotate_left
      · intro wv hSw
        replace hSw : Hid (Grew W1 wv) := Lib.hid hSw
        go_simp
        try with_reducible rfl
      try simp only [Act.put, List.setIfInBounds_toArray, List.set_cons_zero, List.set_cons_succ]
      refine wpAnyH_takeD (i := 4) (d := 29) (v := ?_) rfl rfl (by kernel_rfl) (by kernel_rfl) (by kernel_rfl) (fun _ _ _ h => h) (Or.inl ⟨by rfl, ?_⟩) hHeld.out ?_
      rotate_left
      · intro wv hSw
        replace hSw : Hid (Grew W1 wv) := Lib.hid hSw
        go_simp
        try with_reducible rfl
      try simp only [Act.put, List.setIfInBounds_toArray, List.set_cons_zero, List.set_cons_succ]
      refine wpAnyH_takeD (i := 5) (d := 30) (v := ?_) rfl rfl (by kernel_rfl) (by kernel_rfl) (by kernel_rfl) (fun _ _ _ h => h) (Or.inl ⟨by rfl, ?_⟩) hHeld.out ?_
      rotate_left
      · intro wv hSw
        replace hSw : Hid (Grew W1 wv) := Lib.hid hSw
        have t0 := hSw.out.cell f0.out
        have t1 := hSw.out.cell f1.out
        have t2 := hSw.out.cell f2.out
        have t3 := hSw.out.cell f3.out
        go_simp
        try with_reducible rfl
      try simp only [Act.put, List.setIfInBounds_toArray, List.set_cons_zero, List.set_cons_succ]
      refine wpAnyH_ready (rs := [6]) (by kernel_rfl) (by simp) ?_
      refine AllReadyH.cons rfl (fun KK hKK => ?_) AllReadyH.nil
      go_simp
      refine (rmeet_any ax ay bx b_y cx cy dx dy _ ra.out rb.out rc.out rd.out).mono ?_
      rintro e wk1 ⟨V, rfl, hV, g⟩
      have gk := hHeld.out.trans g
      rw [← hmq.out] at hV
      replace hV := Lib.hid (show RowC _ V (meetW ax ay bx b_y ((cx, cy), dx, dy)) from hV)
      have ho := Lib.hid (OwnC.grew hO'.out (((Grew.refl wr).drew).trans g))
      clear hHeld
      try dsimp only
      refine hKK.out _ _ gk (fun hHeld => ?_)
      clear gk hKK KK
      replace hHeld := Lib.hid (show Grew W1 wk1 from hHeld)
      try simp only [Act.put, List.setIfInBounds_toArray, List.set_cons_zero, List.set_cons_succ]
      refine wpAnyH_ready (rs := [7]) (by kernel_rfl) (by simp) ?_
      refine AllReadyH.cons rfl (fun KK hKK => ?_) AllReadyH.nil
      refine wp_appRow (.tmp 25) (.tmp 31) rfl rfl rfl ho.out hV.out (by omega) hHeld.out.size ?_
      intro vk2 wk2 hO9 hG9
      have gk := hG9 W1 (Nat.le_refl _) hHeld.out
      rw [← hsu.out] at hO9
      replace hO9 := Lib.hid hO9
      clear hG9 ho hV
      clear hHeld
      try dsimp only
      refine hKK.out _ _ gk (fun hHeld => ?_)
      clear gk hKK KK
      replace hHeld := Lib.hid (show Grew W1 wk2 from hHeld)
      try simp only [Act.put, List.setIfInBounds_toArray]
      refine wpAnyH_takeD (i := 8) (d := 5) (v := ?_) rfl rfl (by kernel_rfl) (by kernel_rfl) (by kernel_rfl) (fun _ _ _ h => h) (Or.inl ⟨by rfl, ?_⟩) hHeld.out ?_
      rotate_left
      · intro wv hSw
        replace hSw : Hid (Grew W1 wv) := Lib.hid hSw
        go_simp
        try with_reducible rfl
      try simp only [Act.put]
      refine wpAnyH_done (by kernel_rfl) ?_ _
      replace p0 := p0.out
      replace p1 := p1.out
      replace p2 := p2.out
      replace p3 := p3.out
      go_wp2_with fail
      go_roundg (gk - 1)
      case rel => exact ⟨j + 1, by omega, by go_num, hO9.out, hHeld.out⟩
      case measure => omega
    · obtain rfl : j = L := by omega
      have hall : l.take j = l := by rw [← hL]; exact List.take_length
      rw [hall] at hO
      have hle := cutAll_len ax ay bx b_y l
      have hqb := Lib.hid (cutAll_qb (l := l) hf.out)
      have hqa := hqb.out ((ax : Rat), (ay : Rat)) (by unfold cutAll cutRow; simp)
      have hqc := hqb.out ((bx : Rat), (b_y : Rat)) (by unfold cutAll cutRow; simp)
      replace hqa := Lib.hid hqa
      replace hqc := Lib.hid hqc
      have hcq' := hcq.out
      unfold cutsQ at hcq'
      rw [if_pos hf.out] at hcq'
      generalize cutAll ax ay bx b_y l = all at hO hle hqb hcq'
      have hR := Lib.hid (hO.row.r hqb.out)
      have hG' := Lib.hid hG
      obtain ⟨A5, c5, rfl, -, -, -⟩ := hO.row
      clear hO hG
      replace hcq' := Lib.hid hcq'
      go_wp2_with fail
      refine (rrow_any _ all 7 _ hR.out hqb.out (by omega) (by omega) (by omega)).mono ?_
      rintro e W5 ⟨V5, rfl, hV5, g5⟩
      have hrl := rowQ_len all
      obtain ⟨R, hRq⟩ : ∃ R, rowQ all = R := ⟨_, rfl⟩
      rw [hRq] at hV5 hrl
      rw [hRq] at hcq'
      obtain ⟨M, hM⟩ : ∃ M, R.length = M := ⟨_, rfl⟩
      have gV := Lib.hid (hG'.out.trans g5)
      have q0 := Lib.hid (gV.out.cell p0)
      have q1 := Lib.hid (gV.out.cell p1)
      have q2 := Lib.hid (gV.out.cell p2)
      have q3 := Lib.hid (gV.out.cell p3)
      obtain ⟨A6, c6, rfl, x1, x2, x3⟩ := id hV5
      rw [hM] at x1 x3 hrl hV5
      rw [hM]
      replace x3 := Lib.hid x3
      replace hV5 := Lib.hid hV5
      clear g5 hR hqb hG' p0 p1 p2 p3
      have hsa := spotCmp_ahead ax ay bx b_y
      obtain ⟨cc, hcc⟩ : ∃ cc, spotCmp (ax : Rat) (ay : Rat) (bx : Rat) (b_y : Rat) = cc := ⟨_, rfl⟩
      rw [hcc] at hsa
      replace hcc := Lib.hid hcc
      obtain ⟨tt, htt⟩ : ∃ tt, aheadB bx b_y ax ay = tt := ⟨_, rfl⟩
      rw [htt] at hsa
      rw [htt] at hcq'
      replace hsa := Lib.hid hsa
      clear htt
      go_wp2_with fail
      refine wp_region_held_drew (S := fun wv => Grew W5 wv) (by kernel_rfl) ((Grew.refl W5).drew) (fun hHeld => ?_)
      replace hHeld := Lib.hid hHeld
      try simp only [Act.put, List.setIfInBounds_toArray, List.set_cons_zero, List.set_cons_succ]
      refine wpAnyH_takeD (i := 0) (d := 35) (v := ?_) rfl rfl (by kernel_rfl) (by kernel_rfl) (by kernel_rfl) (fun _ _ _ h => h) (Or.inl ⟨by rfl, ?_⟩) hHeld.out ?_
      rotate_left
      · intro wv hSw
        replace hSw : Hid (Grew W5 wv) := Lib.hid hSw
        go_simp
        try with_reducible rfl
      try simp only [Act.put, List.setIfInBounds_toArray, List.set_cons_zero, List.set_cons_succ]
      refine wpAnyH_takeD (i := 1) (d := 36) (v := ?_) rfl rfl (by kernel_rfl) (by kernel_rfl) (by kernel_rfl) (fun _ _ _ h => h) (Or.inl ⟨by rfl, ?_⟩) hHeld.out ?_
      rotate_left
      · intro wv hSw
        replace hSw : Hid (Grew W5 wv) := Lib.hid hSw
        have t0 := hSw.out.cell q0.out
        have t1 := hSw.out.cell q1.out
        go_simp
        try with_reducible rfl
      try simp only [Act.put, List.setIfInBounds_toArray, List.set_cons_zero, List.set_cons_succ]
      refine wpAnyH_takeD (i := 3) (d := 38) (v := ?_) rfl rfl (by kernel_rfl) (by kernel_rfl) (by kernel_rfl) (fun _ _ _ h => h) (Or.inl ⟨by rfl, ?_⟩) hHeld.out ?_
      rotate_left
      · intro wv hSw
        replace hSw : Hid (Grew W5 wv) := Lib.hid hSw
        go_simp
        try with_reducible rfl
      try simp only [Act.put, List.setIfInBounds_toArray, List.set_cons_zero, List.set_cons_succ]
      refine wpAnyH_takeD (i := 4) (d := 39) (v := ?_) rfl rfl (by kernel_rfl) (by kernel_rfl) (by kernel_rfl) (fun _ _ _ h => h) (Or.inl ⟨by rfl, ?_⟩) hHeld.out ?_
      rotate_left
      · intro wv hSw
        replace hSw : Hid (Grew W5 wv) := Lib.hid hSw
        have t2 := hSw.out.cell q2.out
        have t3 := hSw.out.cell q3.out
        go_simp
        try with_reducible rfl
      try simp only [Act.put, List.setIfInBounds_toArray, List.set_cons_zero, List.set_cons_succ]
      refine wpAnyH_ready (rs := [2]) (by kernel_rfl) (by simp) ?_
      refine AllReadyH.cons rfl (fun KK hKK => ?_) AllReadyH.nil
      go_simp
      refine (rat5_any ax ay _ ra.out.1 ra.out.2.1 ra.out.2.2.1 ra.out.2.2.2).mono ?_
      rintro e wk1 ⟨V1, rfl, hV1, g⟩
      have gk := hHeld.out.trans g
      replace hV1 := Lib.hid hV1
      clear hHeld
      try dsimp only
      refine hKK.out _ _ gk (fun hHeld => ?_)
      clear gk hKK KK
      replace hHeld := Lib.hid (show Grew W5 wk1 from hHeld)
      try simp only [Act.put, List.setIfInBounds_toArray, List.set_cons_zero, List.set_cons_succ]
      refine wpAnyH_ready (rs := [5]) (by kernel_rfl) (by simp) ?_
      refine AllReadyH.cons rfl (fun KK hKK => ?_) AllReadyH.nil
      go_simp
      refine (rat5_any bx b_y _ rb.out.1 rb.out.2.1 rb.out.2.2.1 rb.out.2.2.2).mono ?_
      rintro e wk2 ⟨V2, rfl, hV2, g⟩
      have gk := hHeld.out.trans g
      replace hV1 := Lib.hid (SpotC.kept hV1.out g.keeps)
      replace hV2 := Lib.hid hV2
      clear hHeld
      try dsimp only
      refine hKK.out _ _ gk (fun hHeld => ?_)
      clear gk hKK KK
      replace hHeld := Lib.hid (show Grew W5 wk2 from hHeld)
      try simp only [Act.put, List.setIfInBounds_toArray, List.set_cons_zero, List.set_cons_succ]
      refine wpAnyH_ready (rs := [6]) (by kernel_rfl) (by simp) ?_
      refine AllReadyH.cons rfl (fun KK hKK => ?_) AllReadyH.nil
      go_simp
      refine (rscmp_any _ _ (ax : Rat) (ay : Rat) (bx : Rat) (b_y : Rat) 7 _ (hV1.out.r hqa.out.1 hqa.out.2) (hV2.out.r hqc.out.1 hqc.out.2) (by omega) (by omega)).mono ?_
      rintro e wk3 ⟨rfl, g⟩
      have gk := hHeld.out.trans g
      rw [hcc.out]
      clear hV1 hV2
      clear hHeld
      try dsimp only
      refine hKK.out _ _ gk (fun hHeld => ?_)
      clear gk hKK KK
      replace hHeld := Lib.hid (show Grew W5 wk3 from hHeld)
      try simp only [Act.put, List.setIfInBounds_toArray, List.set_cons_zero, List.set_cons_succ]
      refine wpAnyH_takeD (i := 7) (d := 42) (v := ?_) rfl rfl (by kernel_rfl) (by kernel_rfl) (by kernel_rfl) (fun _ _ _ h => h) (Or.inl ⟨by rfl, ?_⟩) hHeld.out ?_
      rotate_left
      · intro wv hSw
        replace hSw : Hid (Grew W5 wv) := Lib.hid hSw
        go_simp
        try with_reducible rfl
      try simp only [Act.put, List.setIfInBounds_toArray, List.set_cons_zero, List.set_cons_succ]
      refine wpAnyH_done (by kernel_rfl) ?_ _
      have gW := Lib.hid ((G1.out.trans gV.out).trans hHeld.out)
      have g6 := hHeld
      clear hHeld q0 q1 q2 q3
      by_cases hc0 : cc ≤ 0
      · have et : tt = false := by
          have := hsa.out
          rw [decide_eq_true hc0] at this
          cases tt
          · rfl
          · exact absurd this (by simp)
        subst et
        have e1 := Lib.hid (hcq'.out.symm.trans (if_neg (by simp)) : cq = R)
        have hV6 := Lib.hid (hV5.out.grew g6.out)
        clear hcq' g6 hsa
        go_wp2_with fail
        go_ret
        exact ⟨_, rfl, by rw [e1.out]; exact hV6.out, gW.out⟩
      · have et : tt = true := by
          have := hsa.out
          rw [decide_eq_false hc0] at this
          cases tt
          · exact absurd this (by simp)
          · rfl
        subst et
        have e1 := Lib.hid (hcq'.out.symm.trans (if_pos rfl) : cq = R.reverse)
        have hO0 := Lib.hid (OwnC.nil 39 wk3 wk3.heap.size)
        have hG0 := Lib.hid (Grew.refl wk3)
        clear hcq' hV5 hsa
        go_wp2_with fail
        go_loopg [7, 8] M (fun gk s9 s10 wr => ∃ (i : Nat) (z : Int), gk = i ∧ i ≤ M ∧ z = (i : Int) - 1 ∧ s10 = .int .i64 z ∧ OwnC 39 wr wk3.heap.size s9 (R.drop i).reverse ∧ Grew wk3 wr)
        case atStart => exact ⟨M, (M : Int) - 1, rfl, Nat.le_refl _, rfl, by go_num, by rw [List.drop_eq_nil_of_le (by omega)]; exact hO0.out, hG0.out⟩
        case round =>
          obtain ⟨i, z, rfl, hiM, hz, rfl, hO, hG⟩ := hrel
          clear hO0 hG0
          by_cases hi0 : 0 < gk
          · obtain ⟨k, hk⟩ : ∃ k, k + 1 = gk := ⟨gk - 1, by omega⟩
            obtain rfl : z = (k : Int) := by omega
            obtain ⟨g, o9, rfl, ke⟩ := x3.out (by omega)
            obtain ⟨q, hq9⟩ : ∃ q, R[k]? = some q := ⟨R[k]'(by omega), List.getElem?_eq_getElem _⟩
            have hst := rev_step hq9
            rw [hk] at hst
            replace hst := Lib.hid hst
            obtain ⟨b3, A3, n3, c3, C3, m3, d3, b4, A4, n4, c4, C4, m4, d4, ⟨e0, e1, e2, e3, e4, e5⟩, S2⟩ := ke k q hq9
            have f0 : wr.cell? ⟨g, o9 + k * 6, none⟩ = some (.bool b3) := hG.cell (g6.out.cell e0)
            have f1 : wr.cell? ⟨g, o9 + k * 6 + 1, none⟩ = some (.slice A3 n3 c3) := hG.cell (g6.out.cell e1)
            have f2 : wr.cell? ⟨g, o9 + k * 6 + 2, none⟩ = some (.slice C3 m3 d3) := hG.cell (g6.out.cell e2)
            have f3 : wr.cell? ⟨g, o9 + k * 6 + 3, none⟩ = some (.bool b4) := hG.cell (g6.out.cell e3)
            have f4 : wr.cell? ⟨g, o9 + k * 6 + 4, none⟩ = some (.slice A4 n4 c4) := hG.cell (g6.out.cell e4)
            have f5 : wr.cell? ⟨g, o9 + k * 6 + 5, none⟩ = some (.slice C4 m4 d4) := hG.cell (g6.out.cell e5)
            have X7 := Lib.hid (SpotC.kept S2 (g6.out.trans hG).keeps)
            obtain ⟨xs, hown, hF⟩ := hO
            have hlen : ((R.drop gk).reverse).length = M - gk := by rw [List.length_reverse, List.length_drop]; omega
            have hsz := hG.size
            have hGr := Lib.hid hG
            have hkM : (k : Int) < (M : Int) := by omega
            have hk0 : (0 : Int) ≤ (k : Int) := by omega
            have ho := Lib.hid hown
            replace hF := Lib.hid hF
            replace hk := Lib.hid hk
            clear e0 e1 e2 e3 e4 e5 S2 hown hG ke hq9 hz
            go_wp2_with (first | fail | (at_builtin; (refine wpList_appS1 _ rfl (.tmp 51) (.tmp 56) 27 rfl wk3.heap.size 39 _ 6 112 Tryz.underlying27 info_spot rfl (by omega) zero_spot _ _ _ rfl ho.out _ rfl (one6 _ _ _ _ _ _ _ _ _ _ _ _ _ _) (noint6 _ _ _ _ _ _ _ _ _ _ _ _ _ _) rfl (by omega) (by omega) hsz ?_); intro vB wzB hown1 hG1 hK1))
            have gzB := hG1 wk3 (Nat.le_refl _) hGr.out
            have ozB := OwnC.snoc (p := q) hown1 hF.out X7.out hK1
            clear hown1 hG1 hK1 ho hF X7 hGr f0 f1 f2 f3 f4 f5
            go_wp2_with fail
            have hk' := hk.out
            go_roundg k
            case rel => exact ⟨k, (k : Int) - 1, rfl, by omega, rfl, by go_num, by rw [hst.out]; exact ozB, gzB⟩
            case measure => omega
          · obtain rfl : gk = 0 := by omega
            obtain rfl : z = -1 := by omega
            clear hz
            rw [List.drop_zero] at hO
            have hrow := Lib.hid hO.row
            have hG' := Lib.hid (gW.out.trans hG)
            clear hO hG
            go_wp2_with fail
            go_ret
            exact ⟨_, rfl, by rw [e1.out]; exact hrow.out, hG'.out⟩
end Go.Proofs.YthhgogpglocjdaaGreat
namespace Go.Proofs.YthhgogpglocjdaaGreat
open Go.RowKit

theorem meet_lives : meetQ 0 0 4 4 0 4 4 0 = [(((2 : Int) : Rat), ((2 : Int) : Rat))] := by decide +kernel

set_option maxRecDepth 100000 in
set_option maxHeartbeats 4000000 in
theorem lives17_any (w : World) : Calls Tryz.prog 11 #[] w fun e w' => e = .returned (.bool true) ∧ Grew w w' := by
  go_enter Tryz.func11, Tryz.ntmps11
  go_wp2_with fail
  refine (meet_any 0 0 4 4 0 4 4 0 _ (by unfold In64; omega) (by unfold In64; omega) (by unfold In64; omega) (by unfold In64; omega)).mono ?_
  rintro e w1 ⟨v, rfl, hv, g1⟩
  rw [meet_lives] at hv
  obtain ⟨A, c, rfl, h1, h2, h3⟩ := hv
  obtain ⟨b, o, rfl, he⟩ := h3 (by simp)
  obtain ⟨b1, A1, n1, c1, C1, m1, d1, b2, A2, n2, c2, C2, m2, d2, ⟨e0, e1, e2, e3, e4, e5⟩, S1⟩ := he 0 _ rfl
  replace e0 : w1.cell? ⟨b, o, none⟩ = some (.bool b1) := e0
  replace e1 : w1.cell? ⟨b, o + 1, none⟩ = some (.slice A1 n1 c1) := e1
  replace e2 : w1.cell? ⟨b, o + 2, none⟩ = some (.slice C1 m1 d1) := e2
  replace e3 : w1.cell? ⟨b, o + 3, none⟩ = some (.bool b2) := e3
  replace e4 : w1.cell? ⟨b, o + 4, none⟩ = some (.slice A2 n2 c2) := e4
  replace e5 : w1.cell? ⟨b, o + 5, none⟩ = some (.slice C2 m2 d2) := e5
  have hv := Lib.hid (SpotC.v (k := 1) S1 (QB_int 2 1 (by rw [show (2 : Int).natAbs = 2 from rfl, len_lt_base (by omega) (by omega)]; exact Nat.le_refl _) (by omega)) (QB_int 2 1 (by rw [show (2 : Int).natAbs = 2 from rfl, len_lt_base (by omega) (by omega)]; exact Nat.le_refl _) (by omega)))
  replace g1 := Lib.hid g1
  have h4 : c ≤ 9223372036854775807 := h2
  clear S1 he h3
  simp only [List.length_cons, List.length_nil] at h1 ⊢
  go_wp2_with fail
  refine (stext_int 2 2 _ _ (Lib.hid wt2) (Lib.hid wt2) rfl (.inl rfl) _ 1 _ hv.out (by omega) (by omega)).mono ?_
  rintro e w3 ⟨rfl, g3⟩
  have es : digS 2 ++ (⟨#[32]⟩ : ByteArray) ++ digS 2 = (⟨#[50, 32, 50]⟩ : ByteArray) := rfl
  rw [es]
  have g9 := Lib.hid (g1.out.trans g3)
  clear g3 e0 e1 e2 e3 e4 e5
  go_wp2_with fail
  go_ret
  exact ⟨by rfl, g9.out⟩
end Go.Proofs.YthhgogpglocjdaaGreat
namespace Go.Proofs.YthhgogpglocjdaaGreat
open Go.RowKit

set_option maxRecDepth 100000 in
set_option maxHeartbeats 4000000 in
theorem cutsl_any (ax ay bx b_y : Int) (v : Value) (l : List SegZ) (w : World) (ra : In64 ax ay) (rb : In64 bx b_y) (hl : SegsR w v l) (hn : l.length ≤ 1048576) :
    Calls Tryz.prog 5 #[segV ax ay bx b_y, v] w fun e w' => e = .returned (.bool true) ∧ Grew w w' := by
  replace ra := Lib.hid ra
  replace rb := Lib.hid rb
  replace hl := Lib.hid hl
  go_enter Tryz.func5, Tryz.ntmps5
  go_upto_region 1 with fail
  refine gen_wp ?_
  intro W1 hW1
  have p0 : W1.cell? ⟨w.heap.size, 0, none⟩ = some (.int .i64 ax) := by rw [hW1]; simp [go_sem]
  have p1 : W1.cell? ⟨w.heap.size, 1, none⟩ = some (.int .i64 ay) := by rw [hW1]; simp [go_sem]
  have p2 : W1.cell? ⟨w.heap.size, 2, none⟩ = some (.int .i64 bx) := by rw [hW1]; simp [go_sem]
  have p3 : W1.cell? ⟨w.heap.size, 3, none⟩ = some (.int .i64 b_y) := by rw [hW1]; simp [go_sem]
  have G1 : Grew w W1 := by rw [hW1]; exact (Grew.refl _).alloc _
  replace hl := Lib.hid (hl.out.grew G1)
  replace G1 := Lib.hid G1
  replace p0 := Lib.hid p0
  replace p1 := Lib.hid p1
  replace p2 := Lib.hid p2
  replace p3 := Lib.hid p3
  clear hW1
  go_wp2_with fail
  refine wp_region_held_drew (S := fun wv => Grew W1 wv) (by kernel_rfl) ((Grew.refl W1).drew) (fun hHeld => ?_)
  replace hHeld := Lib.hid hHeld
  try simp only [Act.put, List.setIfInBounds_toArray, List.set_cons_zero, List.set_cons_succ]
  refine wpAnyH_takeD (i := 0) (d := 5) (v := ?_) rfl rfl (by kernel_rfl) (by kernel_rfl) (by kernel_rfl) (fun _ _ _ h => h) (Or.inl ⟨by rfl, ?_⟩) hHeld.out ?_
  rotate_left
  · intro wv hSw
    replace hSw : Hid (Grew W1 wv) := Lib.hid hSw
    have t0 := hSw.out.cell p0.out
    have t1 := hSw.out.cell p1.out
    have t2 := hSw.out.cell p2.out
    have t3 := hSw.out.cell p3.out
    go_simp
    try with_reducible rfl
  try simp only [Act.put, List.setIfInBounds_toArray, List.set_cons_zero, List.set_cons_succ]
  refine wpAnyH_takeD (i := 1) (d := 6) (v := ?_) rfl rfl (by kernel_rfl) (by kernel_rfl) (by kernel_rfl) (fun _ _ _ h => h) (Or.inl ⟨by rfl, ?_⟩) hHeld.out ?_
  rotate_left
  · intro wv hSw
    replace hSw : Hid (Grew W1 wv) := Lib.hid hSw
    go_simp
    try with_reducible rfl
  try simp only [Act.put, List.setIfInBounds_toArray, List.set_cons_zero, List.set_cons_succ]
  refine wpAnyH_takeD (i := 3) (d := 8) (v := ?_) rfl rfl (by kernel_rfl) (by kernel_rfl) (by kernel_rfl) (fun _ _ _ h => h) (Or.inl ⟨by rfl, ?_⟩) hHeld.out ?_
  rotate_left
  · intro wv hSw
    replace hSw : Hid (Grew W1 wv) := Lib.hid hSw
    have t0 := hSw.out.cell p0.out
    have t1 := hSw.out.cell p1.out
    have t2 := hSw.out.cell p2.out
    have t3 := hSw.out.cell p3.out
    go_simp
    try with_reducible rfl
  try simp only [Act.put, List.setIfInBounds_toArray, List.set_cons_zero, List.set_cons_succ]
  refine wpAnyH_takeD (i := 4) (d := 9) (v := ?_) rfl rfl (by kernel_rfl) (by kernel_rfl) (by kernel_rfl) (fun _ _ _ h => h) (Or.inl ⟨by rfl, ?_⟩) hHeld.out ?_
  rotate_left
  · intro wv hSw
    replace hSw : Hid (Grew W1 wv) := Lib.hid hSw
    go_simp
    try with_reducible rfl
  try simp only [Act.put, List.setIfInBounds_toArray, List.set_cons_zero, List.set_cons_succ]
  refine wpAnyH_ready (rs := [2]) (by kernel_rfl) (by simp) ?_
  refine AllReadyH.cons rfl (fun KK hKK => ?_) AllReadyH.nil
  go_simp
  refine (cuts_any ax ay bx b_y _ l _ ra.out rb.out (hl.out.grew hHeld.out) hn).mono ?_
  rintro e wk1 ⟨V1, rfl, hV1, g⟩
  have gk := hHeld.out.trans g
  replace hV1 := Lib.hid hV1
  clear hHeld
  try dsimp only
  refine hKK.out _ _ gk (fun hHeld => ?_)
  clear gk hKK KK
  replace hHeld := Lib.hid (show Grew W1 wk1 from hHeld)
  try simp only [Act.put, List.setIfInBounds_toArray, List.set_cons_zero, List.set_cons_succ]
  refine wpAnyH_ready (rs := [5]) (by kernel_rfl) (by simp) ?_
  refine AllReadyH.cons rfl (fun KK hKK => ?_) AllReadyH.nil
  go_simp
  refine (rcuts_any ax ay bx b_y _ l _ ra.out rb.out (hl.out.grew hHeld.out) hn).mono ?_
  rintro e wk2 ⟨V2, rfl, hV2, g⟩
  have gk := hHeld.out.trans g
  replace hV1 := Lib.hid (hV1.out.grew g)
  replace hV2 := Lib.hid hV2
  clear hHeld
  try dsimp only
  refine hKK.out _ _ gk (fun hHeld => ?_)
  clear gk hKK KK
  replace hHeld := Lib.hid (show Grew W1 wk2 from hHeld)
  try simp only [Act.put, List.setIfInBounds_toArray, List.set_cons_zero, List.set_cons_succ]
  refine wpAnyH_ready (rs := [6]) (by kernel_rfl) (by simp) ?_
  refine AllReadyH.cons rfl (fun KK hKK => ?_) AllReadyH.nil
  go_simp
  refine (rowsame_yes _ _ _ _ hV1.out hV2.out).mono ?_
  rintro e wk3 ⟨rfl, g⟩
  have gk := hHeld.out.trans g
  clear hV1 hV2
  clear hHeld
  try dsimp only
  refine hKK.out _ _ gk (fun hHeld => ?_)
  clear gk hKK KK
  replace hHeld := Lib.hid (show Grew W1 wk3 from hHeld)
  try simp only [Act.put, List.setIfInBounds_toArray, List.set_cons_zero, List.set_cons_succ]
  refine wpAnyH_takeD (i := 7) (d := 12) (v := ?_) rfl rfl (by kernel_rfl) (by kernel_rfl) (by kernel_rfl) (fun _ _ _ h => h) (Or.inl ⟨by rfl, ?_⟩) hHeld.out ?_
  rotate_left
  · intro wv hSw
    replace hSw : Hid (Grew W1 wv) := Lib.hid hSw
    go_simp
    try with_reducible rfl
  try simp only [Act.put, List.setIfInBounds_toArray, List.set_cons_zero, List.set_cons_succ]
  refine wpAnyH_ready (rs := [8]) (by kernel_rfl) (by simp) ?_
  refine AllReadyH.cons rfl (fun KK hKK => ?_) AllReadyH.nil
  go_simp
  refine (lives17_any _).mono ?_
  rintro e wk4 ⟨rfl, g⟩
  have gk := hHeld.out.trans g
  clear hHeld
  try dsimp only
  refine hKK.out _ _ gk (fun hHeld => ?_)
  clear gk hKK KK
  replace hHeld := Lib.hid (show Grew W1 wk4 from hHeld)
  try simp only [Act.put, List.setIfInBounds_toArray, List.set_cons_zero, List.set_cons_succ]
  refine wpAnyH_takeD (i := 9) (d := 14) (v := ?_) rfl rfl (by kernel_rfl) (by kernel_rfl) (by kernel_rfl) (fun _ _ _ h => h) (Or.inl ⟨by rfl, ?_⟩) hHeld.out ?_
  rotate_left
  · intro wv hSw
    replace hSw : Hid (Grew W1 wv) := Lib.hid hSw
    go_simp
    try with_reducible rfl
  try simp only [Act.put, List.setIfInBounds_toArray, List.set_cons_zero, List.set_cons_succ]
  refine wpAnyH_takeD (i := 10) (d := 4) (v := ?_) rfl rfl (by kernel_rfl) (by kernel_rfl) (by kernel_rfl) (fun _ _ _ h => h) (Or.inl ⟨by rfl, ?_⟩) hHeld.out ?_
  rotate_left
  · intro wv hSw
    replace hSw : Hid (Grew W1 wv) := Lib.hid hSw
    go_simp
    try with_reducible rfl
  try simp only [Act.put, List.setIfInBounds_toArray, List.set_cons_zero, List.set_cons_succ]
  refine wpAnyH_done (by kernel_rfl) ?_ _
  have ge := Lib.hid (G1.out.trans hHeld.out)
  go_wp2_with fail
  go_ret
  exact ⟨rfl, ge.out⟩
end Go.Proofs.YthhgogpglocjdaaGreat
