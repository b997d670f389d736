/- outline.Ways; r12.SameSegs, r25.dir. Conditions: what comes in reads. r25.Centre, outline.Term. Conditions: what comes in reads. r25.side. Condition: the cells read. -/
import Derived.Test.YtngbcbncllfblaaGreatJOutG
import Derived.Test.YtngbcbncllfblaaGreatJRow1
namespace Go.Proofs.YtngbcbncllfblaaGreat
open Go.RowKit

theorem run_bd {W H : Int} {bs : List Bool} {r : Rn} (h : maxR (hasC W H bs) r) (hW : W ≤ 64) (hH : H ≤ 64) : 0 ≤ r.c ∧ r.c ≤ 64 ∧ 0 ≤ r.f ∧ r.f < 64 ∧ 0 < r.t ∧ r.t ≤ 64 := by
  have hd := h.dir
  have h1 := h.2.1 r.f (Int.le_refl _) h.1
  have h2 := h.2.1 (r.t - 1) (by have := h.1; omega) (by omega)
  have h3 := h.1
  unfold sideB at h1 h2
  rcases (show r.d = 1 ∨ r.d = 2 ∨ r.d = 3 ∨ r.d = 4 by omega) with e | e | e | e <;> simp [e] at h1 h2
  · have a := hasC_in h1.1; have b := hasC_in h2.1; omega
  · have a := hasC_in h1.1; have b := hasC_in h2.1; omega
  · have a := hasC_in h1.1; have b := hasC_in h2.1; omega
  · have a := hasC_in h1.1; have b := hasC_in h2.1; omega
theorem seg_bd {r : Rn} (h : 0 ≤ r.c ∧ r.c ≤ 64 ∧ 0 ≤ r.f ∧ r.f < 64 ∧ 0 < r.t ∧ r.t ≤ 64) : In64 (segOf r).1.1 (segOf r).1.2 ∧ In64 (segOf r).2.1 (segOf r).2.2 := by
  unfold segOf In64
  split
  · dsimp only; omega
  · split
    · dsimp only; omega
    · split <;> dsimp only <;> omega
theorem has_no {W H : Int} {bs : List Bool} (h : mayC W H bs.length = false) : IsWays (hasC W H bs) [] := by
  refine ⟨List.Pairwise.nil, fun r => ⟨fun h => by simp at h, fun hr => ?_⟩⟩
  have hd := hr.dir
  have h1 := hr.2.1 r.f (Int.le_refl _) hr.1
  have hf : ∀ x y, hasC W H bs x y = false := fun x y => by unfold hasC; rw [h]; rfl
  unfold sideB at h1
  rcases (show r.d = 1 ∨ r.d = 2 ∨ r.d = 3 ∨ r.d = 4 by omega) with e | e | e | e <;> simp [e, hf] at h1
set_option maxRecDepth 100000 in
set_option maxHeartbeats 8000000 in
theorem oways_any (W H : Int) (A : Option Addr) (c : Nat) (bs : List Bool) (w : World) (hb : BoolsR w (.slice A bs.length c) bs) :
    Calls Tryz.prog 13 #[cellV W H A bs.length c] w fun e w' => ∃ v', e = .returned v' ∧ ∃ l : List Rn, IsWays (hasC W H bs) l ∧ l.length ≤ 8320 ∧ SegsR w' v' (l.map segOf) ∧ Grew w w' := by
  have l2' : bs.length ≤ 9223372036854775807 := by
    obtain ⟨A', c', -, l1, l2, -⟩ := hb
    omega
  obtain ⟨m, hm⟩ : ∃ m, mayC W H bs.length = m := ⟨_, rfl⟩
  cases m
  · have hm' := Lib.hid hm
    clear hm
    go_enter Tryz.func13, Tryz.ntmps13
    go_wp2_with fail
    refine (kmay_any W H A _ c _ l2').mono ?_
    rintro e w1 ⟨rfl, g1⟩
    rw [hm'.out]
    have G := Lib.hid (((Grew.refl w).alloc _).trans g1)
    clear g1
    go_wp2_with fail
    go_ret
    exact ⟨_, rfl, [], has_no hm'.out, by simp, ⟨none, 0, rfl, by simp, by omega, by simp⟩, G.out⟩
  · have hb9 := of_decide_eq_true hm
    obtain ⟨a0, a1, b0, b1, -⟩ := hb9
    obtain ⟨W, rfl⟩ : ∃ n : Nat, W = n := ⟨W.toNat, by omega⟩
    obtain ⟨H, rfl⟩ : ∃ n : Nat, H = n := ⟨H.toNat, by omega⟩
    have hW : W ≤ 64 := by omega
    have hH : H ≤ 64 := by omega
    have hm' := Lib.hid hm
    clear hm a0 a1 b0 b1
    go_enter Tryz.func13, Tryz.ntmps13
    go_upto_region 1 with fail
    refine gen_wp ?_
    intro W0 hW0
    have p0 : W0.cell? ⟨w.heap.size, 0, none⟩ = some (.int .i64 W) := by rw [hW0]; simp [go_sem]
    have p1 : W0.cell? ⟨w.heap.size, 1, none⟩ = some (.int .i64 H) := by rw [hW0]; simp [go_sem]
    have p2 : W0.cell? ⟨w.heap.size, 2, none⟩ = some (.slice A bs.length c) := by rw [hW0]; simp [go_sem]
    have G0 : Grew w W0 := by rw [hW0]; exact (Grew.refl _).alloc _
    clear hW0
    go_wp2_with fail
    refine (kmay_any W H A _ c _ l2').mono ?_
    rintro e W1 ⟨rfl, g1⟩
    rw [hm'.out]
    have G1 := Lib.hid (G0.trans g1)
    replace p0 := Lib.hid (g1.cell p0)
    replace p1 := Lib.hid (g1.cell p1)
    replace p2 := Lib.hid (g1.cell p2)
    have hbW := Lib.hid (hb.grew G1.out)
    clear g1 G0 hb
    go_wp2_with fail
    refine wp_region_held_drew (S := fun wv => Grew W1 wv) (by kernel_rfl) ((Grew.refl W1).drew) (fun hHeld => ?_)
    replace hHeld := Lib.hid hHeld
    try simp only [Act.put, List.setIfInBounds_toArray, List.set_cons_zero, List.set_cons_succ]
    refine wpAnyH_takeD (i := 0) (d := 6) (v := ?_) rfl rfl (by kernel_rfl) (by kernel_rfl) (by kernel_rfl) (fun _ _ _ h => h) (Or.inl ⟨by rfl, ?_⟩) hHeld.out ?_
    rotate_left
    · intro wv hSw
      replace hSw : Hid (Grew W1 wv) := Lib.hid hSw
      have t0 := hSw.out.cell p0.out
      have t1 := hSw.out.cell p1.out
      have t2 := hSw.out.cell p2.out
      go_simp
      try with_reducible rfl
    try simp only [Act.put, List.setIfInBounds_toArray, List.set_cons_zero, List.set_cons_succ]
    refine wpAnyH_takeD (i := 2) (d := 8) (v := ?_) rfl rfl (by kernel_rfl) (by kernel_rfl) (by kernel_rfl) (fun _ _ _ h => h) (Or.inl ⟨by rfl, ?_⟩) hHeld.out ?_
    rotate_left
    · intro wv hSw
      replace hSw : Hid (Grew W1 wv) := Lib.hid hSw
      have t0 := hSw.out.cell p0.out
      have t1 := hSw.out.cell p1.out
      have t2 := hSw.out.cell p2.out
      go_simp
      try with_reducible rfl
    try simp only [Act.put, List.setIfInBounds_toArray, List.set_cons_zero, List.set_cons_succ]
    refine wpAnyH_ready (rs := [1]) (by kernel_rfl) (by simp) ?_
    refine AllReadyH.cons rfl (fun KK hKK => ?_) AllReadyH.nil
    go_simp
    refine (level_any W H A c bs _ (hbW.out.grew hHeld.out) hW hH).mono ?_
    rintro e wk1 ⟨v1, rfl, l1, k1, hL1, hl1, hk1, hm1, hn1, hO1, g⟩
    have gk := hHeld.out.trans g
    replace hL1 := Lib.hid hL1
    replace hk1 := Lib.hid hk1
    replace hm1 := Lib.hid hm1
    replace hn1 := Lib.hid hn1
    have hs1 := g.size
    replace hO1 := Lib.hid hO1
    clear hHeld
    try dsimp only
    refine hKK.out _ _ gk (fun hHeld => ?_)
    clear gk hKK KK
    replace hHeld := Lib.hid (show Grew W1 wk1 from hHeld)
    try simp only [Act.put, List.setIfInBounds_toArray, List.set_cons_zero, List.set_cons_succ]
    refine wpAnyH_ready (rs := [3]) (by kernel_rfl) (by simp) ?_
    refine AllReadyH.cons rfl (fun KK hKK => ?_) AllReadyH.nil
    go_simp
    refine (upright_any W H A c bs _ (hbW.out.grew hHeld.out) hW hH).mono ?_
    rintro e wk2 ⟨v2, rfl, l2, k2, hL2, hl2, hk2, hm2, hn2, hO2, g⟩
    have gk := hHeld.out.trans g
    replace hO1 := Lib.hid (ownsRow_grew hO1.out g)
    have hs2 := g.size
    replace hL2 := Lib.hid hL2
    replace hk2 := Lib.hid hk2
    replace hm2 := Lib.hid hm2
    replace hn2 := Lib.hid hn2
    replace hO2 := Lib.hid hO2
    clear hHeld
    try dsimp only
    refine hKK.out _ _ gk (fun hHeld => ?_)
    clear gk hKK KK
    replace hHeld := Lib.hid (show Grew W1 wk2 from hHeld)
    try simp only [Act.put, List.setIfInBounds_toArray, List.set_cons_zero, List.set_cons_succ]
    refine wpAnyH_ready (rs := [4]) (by kernel_rfl) (by simp) ?_
    refine AllReadyH.cons rfl (fun KK hKK => ?_) AllReadyH.nil
    refine wp_appWays (.tmp 7) (.tmp 9) rfl rfl rfl hO1.out hO2.out (by rw [List.length_map, List.length_map, hn1.out, hn2.out]; omega) (Nat.le_trans hs1 hs2) ?_
    intro vk3 wk3 hO3 hC3 hG3
    have gk := hG3 W1 (Nat.le_refl _) hHeld.out
    replace hO3 := Lib.hid hO3
    clear hC3 hG3 hO1 hO2
    clear hHeld
    try dsimp only
    refine hKK.out _ _ gk (fun hHeld => ?_)
    clear gk hKK KK
    replace hHeld := Lib.hid (show Grew W1 wk3 from hHeld)
    try simp only [Act.put, List.setIfInBounds_toArray]
    refine wpAnyH_takeD (i := 5) (d := 2) (v := ?_) rfl rfl (by kernel_rfl) (by kernel_rfl) (by kernel_rfl) (fun _ _ _ h => h) (Or.inl ⟨by rfl, ?_⟩) hHeld.out ?_
    rotate_left
    · intro wv hSw
      replace hSw : Hid (Grew W1 wv) := Lib.hid hSw
      go_simp
      try with_reducible rfl
    try simp only [Act.put]
    refine wpAnyH_done (by kernel_rfl) ?_ _
    have hfin : ∀ x y, hasC W H bs x y = true → 0 ≤ x ∧ x < W ∧ 0 ≤ y ∧ y < H := fun x y h => hasC_in h
    have hIs := Lib.hid (ways_append hfin hL1.out hL2.out hk1.out hm1.out hk2.out hm2.out)
    have hlen : (k1 ++ k2).length ≤ 8320 := by rw [List.length_append, hn1.out, hn2.out]; omega
    have hO4 := Lib.hid (segs_own (m := (k1 ++ k2).map segOf) (by rw [List.map_append]; exact hO3.out) (fun s hs => by
      obtain ⟨r, hr, rfl⟩ := List.mem_map.1 hs
      exact seg_bd (run_bd ((hIs.out.2 r).1 hr) (by omega) (by omega))))
    have gz := Lib.hid (G1.out.trans hHeld.out)
    clear hO3 hHeld hfin
    go_wp2_with fail
    go_ret
    exact ⟨vk3, by simp, k1 ++ k2, hIs.out, hlen, hO4.out, gz.out⟩

set_option maxRecDepth 100000 in
set_option maxHeartbeats 8000000 in
theorem sames_yes (v v' : Value) (l : List SegZ) (w : World) (ha : SegsR w v l) (hb : SegsR w v' l) (hl : l.length ≤ 1048576) :
    Calls Tryz.prog 12 #[v, v'] w fun e w' => e = .returned (.bool true) ∧ Grew w w' := by
  obtain ⟨A, c, rfl, x1, x2, x3⟩ := ha
  obtain ⟨A', c', rfl, k1, k2, k3⟩ := hb
  obtain ⟨L, hL⟩ : ∃ L, l.length = L := ⟨_, rfl⟩
  rw [hL] at x1 x3 k1 k3 hl
  rw [hL]
  have hm : L ≤ 9223372036854775807 := by omega
  replace x3 := Lib.hid x3
  replace k3 := Lib.hid k3
  replace hL := Lib.hid hL
  go_enter Tryz.func12, Tryz.ntmps12
  go_wp2_with fail
  go_loopg [5] L (fun gk i wr => ∃ j : Nat, gk + j = L ∧ i = .int .i64 j ∧ Grew w wr)
  case atStart => exact ⟨0, rfl, rfl, Grew.refl _⟩
  case round =>
    obtain ⟨j, hj, rfl, hG⟩ := hrel
    by_cases hlt : j < L
    · obtain ⟨b, o, rfl, he⟩ := x3.out (by omega)
      obtain ⟨b', o', rfl, he'⟩ := k3.out (by omega)
      obtain ⟨s, hs⟩ : ∃ s, l[j]? = some s := ⟨l[j]'(by rw [hL.out]; omega), List.getElem?_eq_getElem _⟩
      obtain ⟨⟨e0, e1, e2, e3⟩, -⟩ := he j s hs
      obtain ⟨⟨d0, d1, d2, d3⟩, -⟩ := he' j s hs
      have f0 := Lib.hid (hG.cell e0)
      have f1 := Lib.hid (hG.cell e1)
      have f2 := Lib.hid (hG.cell e2)
      have f3 := Lib.hid (hG.cell e3)
      have h0 := Lib.hid (hG.cell d0)
      have h1 := Lib.hid (hG.cell d1)
      have h2 := Lib.hid (hG.cell d2)
      have h3 := Lib.hid (hG.cell d3)
      have hG' := Lib.hid hG
      have hjl : (j : Int) < (L : Int) := by omega
      clear e0 e1 e2 e3 d0 d1 d2 d3 he he' hG hs
      go_wp2_with fail
      refine wp_region_held_drew (S := fun wv => Grew wr wv) (by kernel_rfl) ((Grew.refl wr).drew) (fun hHeld => ?_)
      replace hHeld := Lib.hid hHeld
      try simp only [Act.put, List.setIfInBounds_toArray, List.set_cons_zero, List.set_cons_succ]
      refine wpAnyH_takeD (i := 0) (d := 17) (v := ?_) rfl rfl (by kernel_rfl) (by kernel_rfl) (by kernel_rfl) (fun _ _ _ h => h) (Or.inl ⟨by rfl, ?_⟩) hHeld.out ?_
      rotate_left
      · intro wv hSw
        replace hSw : Hid (Grew wr wv) := Lib.hid hSw
        go_simp
        try with_reducible rfl
      try simp only [Act.put, List.setIfInBounds_toArray, List.set_cons_zero, List.set_cons_succ]
      refine wpAnyH_takeD (i := 1) (d := 18) (v := ?_) rfl rfl (by kernel_rfl) (by kernel_rfl) (by kernel_rfl) (fun _ _ _ h => h) (Or.inl ⟨by rfl, ?_⟩) hHeld.out ?_
      rotate_left
      · intro wv hSw
        replace hSw : Hid (Grew wr wv) := Lib.hid hSw
        go_simp
        try with_reducible rfl
      try simp only [Act.put, List.setIfInBounds_toArray, List.set_cons_zero, List.set_cons_succ]
      refine wpAnyH_takeD (i := 2) (d := 19) (v := ?_) rfl rfl (by kernel_rfl) (by kernel_rfl) (by kernel_rfl) (fun _ _ _ h => h) (Or.inl ⟨by rfl, ?_⟩) hHeld.out ?_
      rotate_left
      · intro wv hSw
        replace hSw : Hid (Grew wr wv) := Lib.hid hSw
        go_simp
        try with_reducible rfl
      try simp only [Act.put, List.setIfInBounds_toArray, List.set_cons_zero, List.set_cons_succ]
      refine wpAnyH_takeD (i := 3) (d := 20) (v := ?_) rfl rfl (by kernel_rfl) (by kernel_rfl) (by kernel_rfl) (fun _ _ _ h => h) (Or.inl ⟨by rfl, ?_⟩) hHeld.out ?_
      rotate_left
      · intro wv hSw
        replace hSw : Hid (Grew wr wv) := Lib.hid hSw
        have t0 := hSw.out.cell f0.out
        have t1 := hSw.out.cell f1.out
        have t2 := hSw.out.cell f2.out
        have t3 := hSw.out.cell f3.out
        go_simp
        try with_reducible rfl
      try simp only [Act.put, List.setIfInBounds_toArray, List.set_cons_zero, List.set_cons_succ]
      refine wpAnyH_takeD (i := 4) (d := 21) (v := ?_) rfl rfl (by kernel_rfl) (by kernel_rfl) (by kernel_rfl) (fun _ _ _ h => h) (Or.inl ⟨by rfl, ?_⟩) hHeld.out ?_
      rotate_left
      · intro wv hSw
        replace hSw : Hid (Grew wr wv) := Lib.hid hSw
        go_simp
        try with_reducible rfl
      try simp only [Act.put, List.setIfInBounds_toArray, List.set_cons_zero, List.set_cons_succ]
      refine wpAnyH_takeD (i := 5) (d := 22) (v := ?_) rfl rfl (by kernel_rfl) (by kernel_rfl) (by kernel_rfl) (fun _ _ _ h => h) (Or.inl ⟨by rfl, ?_⟩) hHeld.out ?_
      rotate_left
      · intro wv hSw
        replace hSw : Hid (Grew wr wv) := Lib.hid hSw
        go_simp
        try with_reducible rfl
      try simp only [Act.put, List.setIfInBounds_toArray, List.set_cons_zero, List.set_cons_succ]
      refine wpAnyH_takeD (i := 6) (d := 23) (v := ?_) rfl rfl (by kernel_rfl) (by kernel_rfl) (by kernel_rfl) (fun _ _ _ h => h) (Or.inl ⟨by rfl, ?_⟩) hHeld.out ?_
      rotate_left
      · intro wv hSw
        replace hSw : Hid (Grew wr wv) := Lib.hid hSw
        go_simp
        try with_reducible rfl
      try simp only [Act.put, List.setIfInBounds_toArray, List.set_cons_zero, List.set_cons_succ]
      refine wpAnyH_takeD (i := 7) (d := 24) (v := ?_) rfl rfl (by kernel_rfl) (by kernel_rfl) (by kernel_rfl) (fun _ _ _ h => h) (Or.inl ⟨by rfl, ?_⟩) hHeld.out ?_
      rotate_left
      · intro wv hSw
        replace hSw : Hid (Grew wr wv) := Lib.hid hSw
        have t0 := hSw.out.cell h0.out
        have t1 := hSw.out.cell h1.out
        have t2 := hSw.out.cell h2.out
        have t3 := hSw.out.cell h3.out
        go_simp
        try with_reducible rfl
      try simp only [Act.put, List.setIfInBounds_toArray, List.set_cons_zero, List.set_cons_succ]
      refine wpAnyH_takeD (i := 8) (d := 25) (v := ?_) rfl rfl (by kernel_rfl) (by kernel_rfl) (by kernel_rfl) (fun _ _ _ h => h) (Or.inl ⟨by rfl, ?_⟩) hHeld.out ?_
      rotate_left
      · intro wv hSw
        replace hSw : Hid (Grew wr wv) := Lib.hid hSw
        go_simp
        try with_reducible rfl
      try simp only [Act.put, List.setIfInBounds_toArray, List.set_cons_zero, List.set_cons_succ]
      refine wpAnyH_done (by kernel_rfl) ?_ _
      go_wp2_with fail
      go_roundg (gk - 1)
      case rel => exact ⟨j + 1, by omega, by go_num, hG'.out.trans hHeld.out⟩
      case measure => omega
    · obtain rfl : j = L := by omega
      have hG' := Lib.hid hG
      clear hG
      go_wp2_with fail
      go_ret
      exact ⟨rfl, hG'.out⟩

/-- Which way one goes. -/
def dirZ (s : SegZ) : Int := if s.1.2 = s.2.2 then (if s.1.1 < s.2.1 then 1 else 2) else if s.1.2 < s.2.2 then 3 else 4
theorem dirZ_run {r : Rn} (hd : 1 ≤ r.d ∧ r.d ≤ 4) (hf : r.f < r.t) : dirZ (segOf r) = r.d := by
  unfold dirZ segOf
  rcases (show r.d = 1 ∨ r.d = 2 ∨ r.d = 3 ∨ r.d = 4 by omega) with e | e | e | e <;> simp [e] <;> omega
set_option maxRecDepth 100000 in
set_option maxHeartbeats 8000000 in
theorem dir_any (s : SegZ) (w : World) : Calls Tryz.prog 96 #[segV s.1.1 s.1.2 s.2.1 s.2.2] w fun e w' => e = .returned (.int .i64 (dirZ s)) ∧ Grew w w' := by
  obtain ⟨⟨ax, ay⟩, bx, b_y⟩ := s
  unfold dirZ
  dsimp only
  by_cases h0 : ay = b_y
  · by_cases h1 : ax < bx
    · go_enter Tryz.func96, Tryz.ntmps96
      go_wp2_with fail
      go_ret
      exact ⟨by rfl, (Grew.refl w).alloc _⟩
    · go_enter Tryz.func96, Tryz.ntmps96
      go_wp2_with fail
      go_ret
      exact ⟨by rfl, (Grew.refl w).alloc _⟩
  · by_cases h1 : ay < b_y
    · go_enter Tryz.func96, Tryz.ntmps96
      go_wp2_with fail
      go_ret
      exact ⟨by rfl, (Grew.refl w).alloc _⟩
    · go_enter Tryz.func96, Tryz.ntmps96
      go_wp2_with fail
      go_ret
      exact ⟨by rfl, (Grew.refl w).alloc _⟩
end Go.Proofs.YtngbcbncllfblaaGreat
namespace Go.Proofs.YtngbcbncllfblaaGreat
open Go.RowKit

set_option maxRecDepth 100000 in
set_option maxHeartbeats 8000000 in
theorem rcentre_gen (x y p0 p1 q0 q1 c0 c1 : Int) (hA : sqA x y = (p0, p1)) (hB : sqB x y = (q0, q1)) (hx : (p0 + q0).tdiv 2 = c0) (hy : (p1 + q1).tdiv 2 = c1)
    (l0 : -68719476736 ≤ p0) (u0 : p0 ≤ 68719476736) (l1 : -68719476736 ≤ p1) (u1 : p1 ≤ 68719476736) (l2 : -68719476736 ≤ q0) (u2 : q0 ≤ 68719476736) (l3 : -68719476736 ≤ q1) (u3 : q1 ≤ 68719476736) (l4 : -68719476736 ≤ c0) (u4 : c0 ≤ 68719476736) (l5 : -68719476736 ≤ c1) (u5 : c1 ≤ 68719476736) (w : World) :
    Calls Tryz.prog 19 #[.int .i64 x, .int .i64 y] w fun e w' => e = .returned (ptV c0 c1) ∧ Grew w w' := by
  have ea := Lib.hid hA
  have eb := Lib.hid hB
  have v0 : wrap64 c0 = c0 := IntWalk.wrap64_in _ (by omega)
  have v1 : wrap64 c1 = c1 := IntWalk.wrap64_in _ (by omega)
  clear hA hB
  go_enter Tryz.func19, Tryz.ntmps19
  go_upto_region 1 with fail
  refine gen_wp ?_
  intro W1 hW1
  have r0 : W1.cell? ⟨w.heap.size, 0, none⟩ = some (.int .i64 0) := by rw [hW1]; simp [go_sem]
  have r1 : W1.cell? ⟨w.heap.size, 1, none⟩ = some (.int .i64 0) := by rw [hW1]; simp [go_sem]
  have f0 : W1.frozen? ⟨w.heap.size, 0, none⟩ = false := by rw [hW1]; simp [go_sem]
  have f1 : W1.frozen? ⟨w.heap.size, 1, none⟩ = false := by rw [hW1]; simp [go_sem]
  have hlt : w.heap.size < W1.heap.size := by rw [hW1]; simp
  have G1 := Lib.hid (show Grew w W1 by rw [hW1]; exact (Grew.refl _).alloc _)
  clear hW1
  go_wp2_with fail
  refine (rsquare_any x y _).mono ?_
  rintro e w2 ⟨rfl, g2⟩
  rw [ea.out, eb.out]
  dsimp only
  obtain ⟨WA, hWA⟩ : ∃ WA, w2.alloc (.cells #[.int .i64 p0, .int .i64 p1] 26) = WA := ⟨_, rfl⟩
  have hSA : WA.heap.size = w2.heap.size + 1 := by rw [← hWA]; simp
  have gA : Grew w2 WA := by rw [← hWA]; exact (Grew.refl _).alloc _
  obtain ⟨WZ, hWZ⟩ : ∃ WZ, WA.alloc (.cells #[.int .i64 0, .int .i64 0] 26) = WZ := ⟨_, rfl⟩
  have z0 : WZ.cell? ⟨w2.heap.size + 1, 0, none⟩ = some (.int .i64 0) := by rw [← hSA, ← hWZ]; simp [go_sem]
  have z1 : WZ.cell? ⟨w2.heap.size + 1, 1, none⟩ = some (.int .i64 0) := by rw [← hSA, ← hWZ]; simp [go_sem]
  have zf0 : WZ.frozen? ⟨w2.heap.size + 1, 0, none⟩ = false := by rw [← hSA, ← hWZ]; simp [go_sem]
  have zf1 : WZ.frozen? ⟨w2.heap.size + 1, 1, none⟩ = false := by rw [← hSA, ← hWZ]; simp [go_sem]
  have gZ : Grew w2 WZ := by rw [← hWZ]; exact gA.alloc _
  have y0 : WZ.cell? ⟨w2.heap.size, 0, none⟩ = some (.int .i64 p0) := by rw [← hWZ]; refine (show Grew WA (WA.alloc _) from (Grew.refl _).alloc _).cell ?_; rw [← hWA]; simp [go_sem]
  have y1 : WZ.cell? ⟨w2.heap.size, 1, none⟩ = some (.int .i64 p1) := by rw [← hWZ]; refine (show Grew WA (WA.alloc _) from (Grew.refl _).alloc _).cell ?_; rw [← hWA]; simp [go_sem]
  obtain ⟨WB, hWB⟩ : ∃ WB, (WZ.setCell ⟨w2.heap.size + 1, 0, none⟩ (.int .i64 q0)).setCell ⟨w2.heap.size + 1, 1, none⟩ (.int .i64 q1) = WB := ⟨_, rfl⟩
  have a0 : WB.cell? ⟨w2.heap.size, 0, none⟩ = some (.int .i64 p0) := by rw [← hWB]; simp [go_sem, y0]
  have a1 : WB.cell? ⟨w2.heap.size, 1, none⟩ = some (.int .i64 p1) := by rw [← hWB]; simp [go_sem, y1]
  have b0 : WB.cell? ⟨w2.heap.size + 1, 0, none⟩ = some (.int .i64 q0) := by rw [← hWB]; simp [go_sem, z0]
  have b1 : WB.cell? ⟨w2.heap.size + 1, 1, none⟩ = some (.int .i64 q1) := by rw [← hWB]; simp [go_sem, z1]
  have gB : Grew w2 WB := by rw [← hWB]; exact (gZ.setCell (by simp) _).setCell (by simp) _
  have gAll : Grew W1 WB := g2.trans gB
  replace r0 := gAll.cell r0
  replace r1 := gAll.cell r1
  replace f0 := (gAll.olds.2 _ 0 hlt).trans f0
  replace f1 := (gAll.olds.2 _ 1 hlt).trans f1
  have GB := Lib.hid (G1.out.trans gAll)
  clear g2 gA gB gAll hSA gZ y0 y1
  go_wp2_with fail
  exact bodyPost_ret (v := ptV c0 c1) (by simp [results, Tryz.results19, go_sem, r0, r1]) rfl ⟨rfl, by
    repeat (first | exact GB.out | refine Grew.setCell ?_ (by simp <;> omega) _ | refine Grew.alloc ?_ _)⟩

theorem rcentre_any (x y : Int) (w : World) : Calls Tryz.prog 19 #[.int .i64 x, .int .i64 y] w fun e w' => e = .returned (ptV (sqC x y).1 (sqC x y).2) ∧ Grew w w' := by
  by_cases hn : nearZ x y = true
  · obtain ⟨x0, x1, y0, y1⟩ := near_in hn
    rw [show sqC x y = (256 * x + 128, 256 * y + 128) from if_pos hn]
    refine rcentre_gen x y _ _ _ _ _ _ (show sqA x y = (256 * x, 256 * y) from if_pos hn) (show sqB x y = (256 * x + 256, 256 * y + 256) from if_pos hn) ?_ ?_ (by omega) (by omega) (by omega) (by omega) (by omega) (by omega) (by omega) (by omega) (by omega) (by omega) (by omega) (by omega) w
    · rw [show 256 * x + (256 * x + 256) = 2 * (256 * x + 128) by omega]; exact Int.mul_tdiv_cancel_left _ (by omega)
    · rw [show 256 * y + (256 * y + 256) = 2 * (256 * y + 128) by omega]; exact Int.mul_tdiv_cancel_left _ (by omega)
  · rw [show sqC x y = (0, 0) from if_neg hn]
    exact rcentre_gen x y 0 0 0 0 0 0 (show sqA x y = (0, 0) from if_neg hn) (show sqB x y = (0, 0) from if_neg hn) rfl rfl (by omega) (by omega) (by omega) (by omega) (by omega) (by omega) (by omega) (by omega) (by omega) (by omega) (by omega) (by omega) w
end Go.Proofs.YtngbcbncllfblaaGreat
namespace Go.Proofs.YtngbcbncllfblaaGreat
open Go.RowKit

theorem lit_cell (w : World) (l : List Int) (t : TypeId) (i : Nat) (u : Int) (h : l[i]? = some u) : (w.alloc (.cells (l.map fun z => Value.int .i64 z).toArray t)).cell? ⟨w.heap.size, i, none⟩ = some (.int .i64 u) := by
  have hi := (List.getElem?_eq_some_iff.1 h).1
  simp [go_sem, h]

theorem rhas24_n (W H : Int) (A : Option Addr) (n c : Nat) (bs : List Bool) (x y : Int) (w : World) (hb : BoolsR w (.slice A n c) bs) (hn : bs.length = n) : Calls Tryz.prog 95 #[cellV W H A n c, .int .i64 x, .int .i64 y] w fun e w' => e = .returned (.bool (hasC W H bs x y)) ∧ Grew w w' := by
  subst hn
  exact rhas24_any W H A c bs x y w hb

set_option maxRecDepth 100000 in
set_option maxHeartbeats 8000000 in
theorem side_gen (W H : Int) (A : Option Addr) (n c : Nat) (bs : List Bool) (x y p0 p1 q0 q1 : Int) (k k1 : Nat) (sx sy tx ty dx dy : Int) (hA : sqA x y = (p0, p1)) (hB : sqB x y = (q0, q1)) (w : World)
    (hb : Hid (BoolsR w (.slice A n c) bs)) (hn : Hid (bs.length = n)) (hk : k < 4) (hk1 : Hid (k1 = k + 1)) (hx : 0 ≤ x ∧ x ≤ 64) (hy : 0 ≤ y ∧ y ≤ 64)
    (e0 : Hid ([p0, p1, q0, p1, q0, q1, p0, q1, p0, p1][k * 2]? = some sx)) (e1 : Hid ([p0, p1, q0, p1, q0, q1, p0, q1, p0, p1][k * 2 + 1]? = some sy)) (e2 : Hid ([p0, p1, q0, p1, q0, q1, p0, q1, p0, p1][k1 * 2]? = some tx)) (e3 : Hid ([p0, p1, q0, p1, q0, q1, p0, q1, p0, p1][k1 * 2 + 1]? = some ty))
    (e4 : Hid ([(0 : Int), 1, 0, -1][k]? = some dx)) (e5 : Hid ([(-1 : Int), 0, 1, 0][k]? = some dy)) (bd : -1 ≤ dx ∧ dx ≤ 1 ∧ -1 ≤ dy ∧ dy ≤ 1) (b1 b2 : Bool) (hf : Hid (hasC W H bs x y = b1)) (hg : Hid (hasC W H bs (x + dx) (y + dy) = b2)) :
    Calls Tryz.prog 47 #[cellV W H A n c, .int .i64 x, .int .i64 y, .int .i64 k] w fun e w' => e = .returned (.tuple #[segV sx sy tx ty, .bool (b1 && !b2)]) ∧ Grew w w' := by
  have k5 : (k : Int) < 5 := by omega
  have k4 : (k : Int) < 4 := by omega
  have k6 : (k1 : Int) < 5 := by have := hk1.out; omega
  have kw : IntKind.i64.wrap ((k : Int) + 1) = (k1 : Int) := by have := hk1.out; rw [IntWalk.i64_in _ (by omega)]; omega
  have xw : IntKind.i64.wrap (x + dx) = x + dx := IntWalk.i64_in _ (by omega)
  have yw : IntKind.i64.wrap (y + dy) = y + dy := IntWalk.i64_in _ (by omega)
  have ea := Lib.hid hA
  have eb := Lib.hid hB
  clear hA hB
  cases b1
  · rw [Bool.false_and]
    go_enter Tryz.func47, Tryz.ntmps47
    go_upto_region 1 with fail
    refine gen_wp ?_
    intro W1 hW1
    have B0 : W1.cell? ⟨w.heap.size, 0, none⟩ = some (.int .i64 W) := by rw [hW1]; simp [go_sem]
    have B1 : W1.cell? ⟨w.heap.size, 1, none⟩ = some (.int .i64 H) := by rw [hW1]; simp [go_sem]
    have B2 : W1.cell? ⟨w.heap.size, 2, none⟩ = some (.slice A n c) := by rw [hW1]; simp [go_sem]
    have hR : Res4 W1 (w.heap.size + 1) 0 (.int .i64 0) (.int .i64 0) (.int .i64 0) (.int .i64 0) := by rw [hW1]; refine ⟨?_, ?_, ?_, ?_, ?_, ?_, ?_, ?_, ?_⟩ <;> simp [go_sem]
    have G1 : Grew w W1 := by rw [hW1]; exact ((Grew.refl _).alloc _).alloc _
    clear hW1
    replace hR := Lib.hid hR
    replace G1 := Lib.hid G1
    go_wp2_with fail
    refine (rsquare_any x y _).mono ?_
    rintro e w2 ⟨rfl, g2⟩
    rw [ea.out, eb.out]
    dsimp only
    obtain ⟨WA, hWA⟩ : ∃ WA, w2.alloc (.cells #[.int .i64 p0, .int .i64 p1] 26) = WA := ⟨_, rfl⟩
    have hSA : WA.heap.size = w2.heap.size + 1 := by rw [← hWA]; simp
    have gA : Grew w2 WA := by rw [← hWA]; exact (Grew.refl _).alloc _
    obtain ⟨WZ, hWZ⟩ : ∃ WZ, WA.alloc (.cells #[.int .i64 0, .int .i64 0] 26) = WZ := ⟨_, rfl⟩
    have z0 : WZ.cell? ⟨w2.heap.size + 1, 0, none⟩ = some (.int .i64 0) := by rw [← hSA, ← hWZ]; simp [go_sem]
    have z1 : WZ.cell? ⟨w2.heap.size + 1, 1, none⟩ = some (.int .i64 0) := by rw [← hSA, ← hWZ]; simp [go_sem]
    have zf0 : WZ.frozen? ⟨w2.heap.size + 1, 0, none⟩ = false := by rw [← hSA, ← hWZ]; simp [go_sem]
    have zf1 : WZ.frozen? ⟨w2.heap.size + 1, 1, none⟩ = false := by rw [← hSA, ← hWZ]; simp [go_sem]
    have gZ : Grew w2 WZ := by rw [← hWZ]; exact gA.alloc _
    have y0 : WZ.cell? ⟨w2.heap.size, 0, none⟩ = some (.int .i64 p0) := by rw [← hWZ]; refine (show Grew WA (WA.alloc _) from (Grew.refl _).alloc _).cell ?_; rw [← hWA]; simp [go_sem]
    have y1 : WZ.cell? ⟨w2.heap.size, 1, none⟩ = some (.int .i64 p1) := by rw [← hWZ]; refine (show Grew WA (WA.alloc _) from (Grew.refl _).alloc _).cell ?_; rw [← hWA]; simp [go_sem]
    obtain ⟨WB, hWB⟩ : ∃ WB, (WZ.setCell ⟨w2.heap.size + 1, 0, none⟩ (.int .i64 q0)).setCell ⟨w2.heap.size + 1, 1, none⟩ (.int .i64 q1) = WB := ⟨_, rfl⟩
    have a0 : WB.cell? ⟨w2.heap.size, 0, none⟩ = some (.int .i64 p0) := by rw [← hWB]; simp [go_sem, y0]
    have a1 : WB.cell? ⟨w2.heap.size, 1, none⟩ = some (.int .i64 p1) := by rw [← hWB]; simp [go_sem, y1]
    have b0 : WB.cell? ⟨w2.heap.size + 1, 0, none⟩ = some (.int .i64 q0) := by rw [← hWB]; simp [go_sem, z0]
    have b1 : WB.cell? ⟨w2.heap.size + 1, 1, none⟩ = some (.int .i64 q1) := by rw [← hWB]; simp [go_sem, z1]
    have gB : Grew w2 WB := by rw [← hWB]; exact (gZ.setCell (by simp) _).setCell (by simp) _
    obtain ⟨WP, hWP⟩ : ∃ WP, WB.alloc (.cells #[.int .i64 p0, .int .i64 p1, .int .i64 q0, .int .i64 p1, .int .i64 q0, .int .i64 q1, .int .i64 p0, .int .i64 q1, .int .i64 p0, .int .i64 p1] 26) = WP := ⟨_, rfl⟩
    have gP : Grew WB WP := by rw [← hWP]; exact (Grew.refl _).alloc _
    obtain ⟨WD, hWD⟩ : ∃ WD, WP.alloc (.cells #[.int .i64 0, .int .i64 1, .int .i64 0, .int .i64 (-1)] 3) = WD := ⟨_, rfl⟩
    have gD : Grew WP WD := by rw [← hWD]; exact (Grew.refl _).alloc _
    obtain ⟨WE, hWE⟩ : ∃ WE, WD.alloc (.cells #[.int .i64 (-1), .int .i64 0, .int .i64 1, .int .i64 0] 3) = WE := ⟨_, rfl⟩
    have gE : Grew WD WE := by rw [← hWE]; exact (Grew.refl _).alloc _
    have gAll : Grew W1 WE := ((g2.trans gB).trans gP).trans (gD.trans gE)
    have B0' := Lib.hid (gAll.cell B0)
    have B1' := Lib.hid (gAll.cell B1)
    have B2' := Lib.hid (gAll.cell B2)
    have HR := Lib.hid (hR.out.grew gAll)
    have GE := Lib.hid (G1.out.trans gAll)
    have hP : ∀ i u, [p0, p1, q0, p1, q0, q1, p0, q1, p0, p1][i]? = some u → WE.cell? ⟨WB.heap.size, i, none⟩ = some (.int .i64 u) := fun i u h => gE.cell (gD.cell (by rw [← hWP]; exact lit_cell WB [p0, p1, q0, p1, q0, q1, p0, q1, p0, p1] _ i u h))
    have hDx : ∀ i u, [0, 1, 0, -1][i]? = some u → WE.cell? ⟨WP.heap.size, i, none⟩ = some (.int .i64 u) := fun i u h => gE.cell (by rw [← hWD]; exact lit_cell WP [0, 1, 0, -1] _ i u h)
    have hDy : ∀ i u, [-1, 0, 1, 0][i]? = some u → WE.cell? ⟨WD.heap.size, i, none⟩ = some (.int .i64 u) := fun i u h => by rw [← hWE]; exact lit_cell WD [-1, 0, 1, 0] _ i u h
    replace hP := Lib.hid hP
    replace hDx := Lib.hid hDx
    replace hDy := Lib.hid hDy
    have nP : WB.heap.size ≠ w.heap.size + 1 := by have h1 := hR.out.2.2.2.2.2.2.2.2; have h2 := (g2.trans gB).size; omega
    have nDx : WP.heap.size ≠ w.heap.size + 1 := by have h1 := hR.out.2.2.2.2.2.2.2.2; have h2 := ((g2.trans gB).trans gP).size; omega
    have nDy : WD.heap.size ≠ w.heap.size + 1 := by have h1 := hR.out.2.2.2.2.2.2.2.2; have h2 := (((g2.trans gB).trans gP).trans gD).size; omega
    have nB : w.heap.size ≠ w.heap.size + 1 := by omega
    clear g2 gB gP gD gE gA gZ gAll hSA y0 y1 B0 B1 B2 hR G1
    go_upto_region 4 with fail
    have hR := Lib.hid (HR.out.grew (Grew.refl WE).drew)
    refine wp_region_held_drew (S := fun wv => Wrote (w.heap.size + 1) WE wv) (by kernel_rfl) ((Wrote.refl (w.heap.size + 1) WE).drew) (fun hHeld => ?_)
    replace hHeld := Lib.hid hHeld
    try simp only [Act.put, List.setIfInBounds_toArray, List.set_cons_zero, List.set_cons_succ]
    refine wpAnyH_takeD (i := 0) (d := 37) (v := ?_) rfl rfl (by kernel_rfl) (by kernel_rfl) (by kernel_rfl) (fun _ _ _ h => h) (Or.inl ⟨by rfl, ?_⟩) hHeld.out ?_
    rotate_left
    · intro wv hSw
      replace hSw : Hid (Wrote (w.heap.size + 1) WE wv) := Lib.hid hSw
      go_simp
      try with_reducible rfl
    try simp only [Act.put, List.setIfInBounds_toArray, List.set_cons_zero, List.set_cons_succ]
    refine wpAnyH_takeD (i := 1) (d := 38) (v := ?_) rfl rfl (by kernel_rfl) (by kernel_rfl) (by kernel_rfl) (fun _ _ _ h => h) (Or.inl ⟨by rfl, ?_⟩) hHeld.out ?_
    rotate_left
    · intro wv hSw
      replace hSw : Hid (Wrote (w.heap.size + 1) WE wv) := Lib.hid hSw
      go_simp
      try with_reducible rfl
    try simp only [Act.put, List.setIfInBounds_toArray, List.set_cons_zero, List.set_cons_succ]
    refine wpAnyH_takeD (i := 2) (d := 39) (v := ?_) rfl rfl (by kernel_rfl) (by kernel_rfl) (by kernel_rfl) (fun _ _ _ h => h) (Or.inl ⟨by rfl, ?_⟩) hHeld.out ?_
    rotate_left
    · intro wv hSw
      replace hSw : Hid (Wrote (w.heap.size + 1) WE wv) := Lib.hid hSw
      go_simp
      try with_reducible rfl
    try simp only [Act.put, List.setIfInBounds_toArray, List.set_cons_zero, List.set_cons_succ]
    refine wpAnyH_takeD (i := 3) (d := 40) (v := ?_) rfl rfl (by kernel_rfl) (by kernel_rfl) (by kernel_rfl) (fun _ _ _ h => h) (Or.inl ⟨by rfl, ?_⟩) hHeld.out ?_
    rotate_left
    · intro wv hSw
      replace hSw : Hid (Wrote (w.heap.size + 1) WE wv) := Lib.hid hSw
      have t0 := hSw.out.cell (hP.out _ _ e0.out) nP
      have t1 := hSw.out.cell (hP.out _ _ e1.out) nP
      go_simp
      try with_reducible rfl
    try simp only [Act.put, List.setIfInBounds_toArray, List.set_cons_zero, List.set_cons_succ]
    refine wpAnyH_takeD (i := 4) (d := 41) (v := ?_) rfl rfl (by kernel_rfl) (by kernel_rfl) (by kernel_rfl) (fun _ _ _ h => h) (Or.inl ⟨by rfl, ?_⟩) hHeld.out ?_
    rotate_left
    · intro wv hSw
      replace hSw : Hid (Wrote (w.heap.size + 1) WE wv) := Lib.hid hSw
      go_simp
      try with_reducible rfl
    try simp only [Act.put, List.setIfInBounds_toArray, List.set_cons_zero, List.set_cons_succ]
    refine wpAnyH_takeD (i := 5) (d := 42) (v := ?_) rfl rfl (by kernel_rfl) (by kernel_rfl) (by kernel_rfl) (fun _ _ _ h => h) (Or.inl ⟨by rfl, ?_⟩) hHeld.out ?_
    rotate_left
    · intro wv hSw
      replace hSw : Hid (Wrote (w.heap.size + 1) WE wv) := Lib.hid hSw
      go_simp
      try with_reducible rfl
    try simp only [Act.put, List.setIfInBounds_toArray, List.set_cons_zero, List.set_cons_succ]
    refine wpAnyH_takeD (i := 6) (d := 43) (v := ?_) rfl rfl (by kernel_rfl) (by kernel_rfl) (by kernel_rfl) (fun _ _ _ h => h) (Or.inl ⟨by rfl, ?_⟩) hHeld.out ?_
    rotate_left
    · intro wv hSw
      replace hSw : Hid (Wrote (w.heap.size + 1) WE wv) := Lib.hid hSw
      go_simp
      try with_reducible rfl
    try simp only [Act.put, List.setIfInBounds_toArray, List.set_cons_zero, List.set_cons_succ]
    refine wpAnyH_takeD (i := 7) (d := 44) (v := ?_) rfl rfl (by kernel_rfl) (by kernel_rfl) (by kernel_rfl) (fun _ _ _ h => h) (Or.inl ⟨by rfl, ?_⟩) hHeld.out ?_
    rotate_left
    · intro wv hSw
      replace hSw : Hid (Wrote (w.heap.size + 1) WE wv) := Lib.hid hSw
      go_simp
      try with_reducible rfl
    try simp only [Act.put, List.setIfInBounds_toArray, List.set_cons_zero, List.set_cons_succ]
    refine wpAnyH_takeD (i := 8) (d := 45) (v := ?_) rfl rfl (by kernel_rfl) (by kernel_rfl) (by kernel_rfl) (fun _ _ _ h => h) (Or.inl ⟨by rfl, ?_⟩) hHeld.out ?_
    rotate_left
    · intro wv hSw
      replace hSw : Hid (Wrote (w.heap.size + 1) WE wv) := Lib.hid hSw
      have t0 := hSw.out.cell (hP.out _ _ e2.out) nP
      have t1 := hSw.out.cell (hP.out _ _ e3.out) nP
      go_simp
      try with_reducible rfl
    try simp only [Act.put, List.setIfInBounds_toArray, List.set_cons_zero, List.set_cons_succ]
    refine wpAnyH_takeD (i := 9) (d := 46) (v := ?_) rfl rfl (by kernel_rfl) (by kernel_rfl) (by kernel_rfl) (fun _ _ _ h => h) (Or.inl ⟨by rfl, ?_⟩) hHeld.out ?_
    rotate_left
    · intro wv hSw
      replace hSw : Hid (Wrote (w.heap.size + 1) WE wv) := Lib.hid hSw
      go_simp
      try with_reducible rfl
    try simp only [Act.put, List.setIfInBounds_toArray, List.set_cons_zero, List.set_cons_succ]
    refine wpAnyH_takeD (i := 10) (d := 47) (v := ?_) rfl rfl (by kernel_rfl) (by kernel_rfl) (by kernel_rfl) (fun _ _ _ h => h) (Or.inl ⟨by rfl, ?_⟩) hHeld.out ?_
    rotate_left
    · intro wv hSw
      replace hSw : Hid (Wrote (w.heap.size + 1) WE wv) := Lib.hid hSw
      have t0 := hSw.out.cell B0'.out nB
      have t1 := hSw.out.cell B1'.out nB
      have t2 := hSw.out.cell B2'.out nB
      go_simp
      try with_reducible rfl
    try simp only [Act.put, List.setIfInBounds_toArray, List.set_cons_zero, List.set_cons_succ]
    refine wpAnyH_takeD (i := 11) (d := 48) (v := ?_) rfl rfl (by kernel_rfl) (by kernel_rfl) (by kernel_rfl) (fun _ _ _ h => h) (Or.inl ⟨by rfl, ?_⟩) hHeld.out ?_
    rotate_left
    · intro wv hSw
      replace hSw : Hid (Wrote (w.heap.size + 1) WE wv) := Lib.hid hSw
      go_simp
      try with_reducible rfl
    try simp only [Act.put, List.setIfInBounds_toArray, List.set_cons_zero, List.set_cons_succ]
    refine wpAnyH_takeD (i := 12) (d := 49) (v := ?_) rfl rfl (by kernel_rfl) (by kernel_rfl) (by kernel_rfl) (fun _ _ _ h => h) (Or.inl ⟨by rfl, ?_⟩) hHeld.out ?_
    rotate_left
    · intro wv hSw
      replace hSw : Hid (Wrote (w.heap.size + 1) WE wv) := Lib.hid hSw
      go_simp
      try with_reducible rfl
    try simp only [Act.put, List.setIfInBounds_toArray, List.set_cons_zero, List.set_cons_succ]
    refine wpAnyH_ready (rs := [13]) (by kernel_rfl) (by simp) ?_
    refine AllReadyH.cons rfl (fun KK hKK => ?_) AllReadyH.nil
    go_simp
    refine (rhas24_n W H A n c bs x y _ (hb.out.grew (GE.out.wrote hHeld.out (by simp))) hn.out).mono ?_
    rintro e wk1 ⟨rfl, g⟩
    have gk := hHeld.out.trans (Wrote.of_grew g (w.heap.size + 1))
    rw [hf.out]
    (try (replace hR := Lib.hid (hR.out.grew g)))
    (try (replace s0 := g.cell s0))
    (try (replace s1 := g.cell s1))
    (try (replace s2 := g.cell s2))
    (try (replace s3 := g.cell s3))
    clear hHeld
    try dsimp only
    refine hKK.out _ _ gk (fun hHeld => ?_)
    clear gk hKK KK
    replace hHeld := Lib.hid (show Wrote (w.heap.size + 1) WE wk1 from hHeld)
    try simp only [Act.put, List.setIfInBounds_toArray, List.set_cons_zero, List.set_cons_succ]
    refine wpAnyH_takeD (i := 14) (d := 51) (v := ?_) rfl rfl (by kernel_rfl) (by kernel_rfl) (by kernel_rfl) (fun _ _ _ h => h) (Or.inl ⟨by rfl, ?_⟩) hHeld.out ?_
    rotate_left
    · intro wv hSw
      replace hSw : Hid (Wrote (w.heap.size + 1) WE wv) := Lib.hid hSw
      go_simp
      try with_reducible rfl
    try simp only [Act.put, List.setIfInBounds_toArray, List.set_cons_zero, List.set_cons_succ]
    refine wpAnyH_takeD (i := 15) (d := 52) (v := undef) rfl rfl (by kernel_rfl) (by kernel_rfl) (by kernel_rfl) (fun _ _ _ h => h) (Or.inr ⟨by rfl, rfl⟩) hHeld.out ?_
    try simp only [Act.put, List.setIfInBounds_toArray, List.set_cons_zero, List.set_cons_succ]
    refine wpAnyH_takeD (i := 16) (d := 53) (v := undef) rfl rfl (by kernel_rfl) (by kernel_rfl) (by kernel_rfl) (fun _ _ _ h => h) (Or.inr ⟨by rfl, rfl⟩) hHeld.out ?_
    try simp only [Act.put, List.setIfInBounds_toArray, List.set_cons_zero, List.set_cons_succ]
    refine wpAnyH_takeD (i := 17) (d := 54) (v := undef) rfl rfl (by kernel_rfl) (by kernel_rfl) (by kernel_rfl) (fun _ _ _ h => h) (Or.inr ⟨by rfl, rfl⟩) hHeld.out ?_
    try simp only [Act.put, List.setIfInBounds_toArray, List.set_cons_zero, List.set_cons_succ]
    refine wpAnyH_takeD (i := 18) (d := 55) (v := undef) rfl rfl (by kernel_rfl) (by kernel_rfl) (by kernel_rfl) (fun _ _ _ h => h) (Or.inr ⟨by rfl, rfl⟩) hHeld.out ?_
    try simp only [Act.put, List.setIfInBounds_toArray, List.set_cons_zero, List.set_cons_succ]
    refine wpAnyH_takeD (i := 19) (d := 56) (v := undef) rfl rfl (by kernel_rfl) (by kernel_rfl) (by kernel_rfl) (fun _ _ _ h => h) (Or.inr ⟨by rfl, rfl⟩) hHeld.out ?_
    try simp only [Act.put, List.setIfInBounds_toArray, List.set_cons_zero, List.set_cons_succ]
    refine wpAnyH_takeD (i := 20) (d := 57) (v := undef) rfl rfl (by kernel_rfl) (by kernel_rfl) (by kernel_rfl) (fun _ _ _ h => h) (Or.inr ⟨by rfl, rfl⟩) hHeld.out ?_
    try simp only [Act.put, List.setIfInBounds_toArray, List.set_cons_zero, List.set_cons_succ]
    refine wpAnyH_takeD (i := 21) (d := 58) (v := undef) rfl rfl (by kernel_rfl) (by kernel_rfl) (by kernel_rfl) (fun _ _ _ h => h) (Or.inr ⟨by rfl, rfl⟩) hHeld.out ?_
    try simp only [Act.put, List.setIfInBounds_toArray, List.set_cons_zero, List.set_cons_succ]
    refine wpAnyH_takeD (i := 22) (d := 59) (v := undef) rfl rfl (by kernel_rfl) (by kernel_rfl) (by kernel_rfl) (fun _ _ _ h => h) (Or.inr ⟨by rfl, rfl⟩) hHeld.out ?_
    try simp only [Act.put, List.setIfInBounds_toArray, List.set_cons_zero, List.set_cons_succ]
    refine wpAnyH_takeD (i := 23) (d := 60) (v := undef) rfl rfl (by kernel_rfl) (by kernel_rfl) (by kernel_rfl) (fun _ _ _ h => h) (Or.inr ⟨by rfl, rfl⟩) hHeld.out ?_
    try simp only [Act.put, List.setIfInBounds_toArray, List.set_cons_zero, List.set_cons_succ]
    refine wpAnyH_takeD (i := 24) (d := 61) (v := undef) rfl rfl (by kernel_rfl) (by kernel_rfl) (by kernel_rfl) (fun _ _ _ h => h) (Or.inr ⟨by rfl, rfl⟩) hHeld.out ?_
    try simp only [Act.put, List.setIfInBounds_toArray, List.set_cons_zero, List.set_cons_succ]
    refine wpAnyH_takeD (i := 25) (d := 62) (v := undef) rfl rfl (by kernel_rfl) (by kernel_rfl) (by kernel_rfl) (fun _ _ _ h => h) (Or.inr ⟨by rfl, rfl⟩) hHeld.out ?_
    try simp only [Act.put, List.setIfInBounds_toArray, List.set_cons_zero, List.set_cons_succ]
    refine wpAnyH_takeD (i := 26) (d := 63) (v := undef) rfl rfl (by kernel_rfl) (by kernel_rfl) (by kernel_rfl) (fun _ _ _ h => h) (Or.inr ⟨by rfl, rfl⟩) hHeld.out ?_
    try simp only [Act.put, List.setIfInBounds_toArray, List.set_cons_zero, List.set_cons_succ]
    refine wpAnyH_takeD (i := 27) (d := 64) (v := undef) rfl rfl (by kernel_rfl) (by kernel_rfl) (by kernel_rfl) (fun _ _ _ h => h) (Or.inr ⟨by rfl, rfl⟩) hHeld.out ?_
    try simp only [Act.put, List.setIfInBounds_toArray, List.set_cons_zero, List.set_cons_succ]
    refine wpAnyH_takeD (i := 28) (d := 65) (v := undef) rfl rfl (by kernel_rfl) (by kernel_rfl) (by kernel_rfl) (fun _ _ _ h => h) (Or.inr ⟨by rfl, rfl⟩) hHeld.out ?_
    try simp only [Act.put, List.setIfInBounds_toArray, List.set_cons_zero, List.set_cons_succ]
    refine wpAnyH_takeD (i := 29) (d := 66) (v := undef) rfl rfl (by kernel_rfl) (by kernel_rfl) (by kernel_rfl) (fun _ _ _ h => h) (Or.inr ⟨by rfl, rfl⟩) hHeld.out ?_
    try simp only [Act.put, List.setIfInBounds_toArray, List.set_cons_zero, List.set_cons_succ]
    refine wpAnyH_takeD (i := 30) (d := 67) (v := ?_) rfl rfl (by kernel_rfl) (by kernel_rfl) (by kernel_rfl) (fun _ _ _ h => h) (Or.inl ⟨by rfl, ?_⟩) hHeld.out ?_
    rotate_left
    · intro wv hSw
      replace hSw : Hid (Wrote (w.heap.size + 1) WE wv) := Lib.hid hSw
      go_simp
      try with_reducible rfl
    try simp only [Act.put, List.setIfInBounds_toArray, List.set_cons_zero, List.set_cons_succ]
    refine wpAnyH_ready (rs := [31]) (by kernel_rfl) (by simp) ?_
    refine AllReadyH.cons rfl (fun KK hKK => ?_) AllReadyH.nil
    have u0 : wk1.cell? ⟨(w.heap.size + 1), 0, none⟩ = _ := hR.out.1
    have u1 : wk1.cell? ⟨(w.heap.size + 1), 1, none⟩ = _ := hR.out.2.1
    have u2 : wk1.cell? ⟨(w.heap.size + 1), 2, none⟩ = _ := hR.out.2.2.1
    have u3 : wk1.cell? ⟨(w.heap.size + 1), 3, none⟩ = _ := hR.out.2.2.2.1
    have v0 : wk1.frozen? ⟨(w.heap.size + 1), 0, none⟩ = _ := hR.out.2.2.2.2.1
    have v1 : wk1.frozen? ⟨(w.heap.size + 1), 1, none⟩ = _ := hR.out.2.2.2.2.2.1
    have v2 : wk1.frozen? ⟨(w.heap.size + 1), 2, none⟩ = _ := hR.out.2.2.2.2.2.2.1
    have v3 : wk1.frozen? ⟨(w.heap.size + 1), 3, none⟩ = _ := hR.out.2.2.2.2.2.2.2.1
    go_simp
    try dsimp only
    have gS := ((((hHeld.out).setCell 0 (.int .i64 sx)).setCell 1 (.int .i64 sy)).setCell 2 (.int .i64 tx)).setCell 3 (.int .i64 ty)
    obtain ⟨s0, s1, s2, s3, -⟩ := store4 (w' := (((wk1.setCell ⟨(w.heap.size + 1), 0, none⟩ (.int .i64 sx)).setCell ⟨(w.heap.size + 1), 1, none⟩ (.int .i64 sy)).setCell ⟨(w.heap.size + 1), 2, none⟩ (.int .i64 tx)).setCell ⟨(w.heap.size + 1), 3, none⟩ (.int .i64 ty)) hR.out rfl
    clear u0 u1 u2 u3 v0 v1 v2 v3 hR hHeld
    generalize (((wk1.setCell ⟨(w.heap.size + 1), 0, none⟩ (.int .i64 sx)).setCell ⟨(w.heap.size + 1), 1, none⟩ (.int .i64 sy)).setCell ⟨(w.heap.size + 1), 2, none⟩ (.int .i64 tx)).setCell ⟨(w.heap.size + 1), 3, none⟩ (.int .i64 ty) = wk2 at gS s0 s1 s2 s3 ⊢
    refine hKK.out _ _ gS (fun hHeld => ?_)
    clear gS hKK KK
    replace hHeld := Lib.hid (show Wrote (w.heap.size + 1) WE wk2 from hHeld)
    try simp only [Act.put]
    refine wpAnyH_takeD (i := 32) (d := 9) (v := ?_) rfl rfl (by kernel_rfl) (by kernel_rfl) (by kernel_rfl) (fun _ _ _ h => h) (Or.inl ⟨by rfl, ?_⟩) hHeld.out ?_
    rotate_left
    · intro wv hSw
      replace hSw : Hid (Wrote (w.heap.size + 1) WE wv) := Lib.hid hSw
      go_simp
      try with_reducible rfl
    try simp only [Act.put, List.setIfInBounds_toArray, List.set_cons_zero, List.set_cons_succ]
    refine wpAnyH_done (by kernel_rfl) ?_ _
    go_wp2_with fail
    exact bodyPost_ret (v := .tuple #[segV sx sy tx ty, .bool false]) (by simp [results, Tryz.results47, go_sem, s0, s1, s2, s3]) rfl ⟨rfl, GE.out.wrote hHeld.out (by simp)⟩
  · rw [Bool.true_and]
    go_enter Tryz.func47, Tryz.ntmps47
    go_upto_region 1 with fail
    refine gen_wp ?_
    intro W1 hW1
    have B0 : W1.cell? ⟨w.heap.size, 0, none⟩ = some (.int .i64 W) := by rw [hW1]; simp [go_sem]
    have B1 : W1.cell? ⟨w.heap.size, 1, none⟩ = some (.int .i64 H) := by rw [hW1]; simp [go_sem]
    have B2 : W1.cell? ⟨w.heap.size, 2, none⟩ = some (.slice A n c) := by rw [hW1]; simp [go_sem]
    have hR : Res4 W1 (w.heap.size + 1) 0 (.int .i64 0) (.int .i64 0) (.int .i64 0) (.int .i64 0) := by rw [hW1]; refine ⟨?_, ?_, ?_, ?_, ?_, ?_, ?_, ?_, ?_⟩ <;> simp [go_sem]
    have G1 : Grew w W1 := by rw [hW1]; exact ((Grew.refl _).alloc _).alloc _
    clear hW1
    replace hR := Lib.hid hR
    replace G1 := Lib.hid G1
    go_wp2_with fail
    refine (rsquare_any x y _).mono ?_
    rintro e w2 ⟨rfl, g2⟩
    rw [ea.out, eb.out]
    dsimp only
    obtain ⟨WA, hWA⟩ : ∃ WA, w2.alloc (.cells #[.int .i64 p0, .int .i64 p1] 26) = WA := ⟨_, rfl⟩
    have hSA : WA.heap.size = w2.heap.size + 1 := by rw [← hWA]; simp
    have gA : Grew w2 WA := by rw [← hWA]; exact (Grew.refl _).alloc _
    obtain ⟨WZ, hWZ⟩ : ∃ WZ, WA.alloc (.cells #[.int .i64 0, .int .i64 0] 26) = WZ := ⟨_, rfl⟩
    have z0 : WZ.cell? ⟨w2.heap.size + 1, 0, none⟩ = some (.int .i64 0) := by rw [← hSA, ← hWZ]; simp [go_sem]
    have z1 : WZ.cell? ⟨w2.heap.size + 1, 1, none⟩ = some (.int .i64 0) := by rw [← hSA, ← hWZ]; simp [go_sem]
    have zf0 : WZ.frozen? ⟨w2.heap.size + 1, 0, none⟩ = false := by rw [← hSA, ← hWZ]; simp [go_sem]
    have zf1 : WZ.frozen? ⟨w2.heap.size + 1, 1, none⟩ = false := by rw [← hSA, ← hWZ]; simp [go_sem]
    have gZ : Grew w2 WZ := by rw [← hWZ]; exact gA.alloc _
    have y0 : WZ.cell? ⟨w2.heap.size, 0, none⟩ = some (.int .i64 p0) := by rw [← hWZ]; refine (show Grew WA (WA.alloc _) from (Grew.refl _).alloc _).cell ?_; rw [← hWA]; simp [go_sem]
    have y1 : WZ.cell? ⟨w2.heap.size, 1, none⟩ = some (.int .i64 p1) := by rw [← hWZ]; refine (show Grew WA (WA.alloc _) from (Grew.refl _).alloc _).cell ?_; rw [← hWA]; simp [go_sem]
    obtain ⟨WB, hWB⟩ : ∃ WB, (WZ.setCell ⟨w2.heap.size + 1, 0, none⟩ (.int .i64 q0)).setCell ⟨w2.heap.size + 1, 1, none⟩ (.int .i64 q1) = WB := ⟨_, rfl⟩
    have a0 : WB.cell? ⟨w2.heap.size, 0, none⟩ = some (.int .i64 p0) := by rw [← hWB]; simp [go_sem, y0]
    have a1 : WB.cell? ⟨w2.heap.size, 1, none⟩ = some (.int .i64 p1) := by rw [← hWB]; simp [go_sem, y1]
    have b0 : WB.cell? ⟨w2.heap.size + 1, 0, none⟩ = some (.int .i64 q0) := by rw [← hWB]; simp [go_sem, z0]
    have b1 : WB.cell? ⟨w2.heap.size + 1, 1, none⟩ = some (.int .i64 q1) := by rw [← hWB]; simp [go_sem, z1]
    have gB : Grew w2 WB := by rw [← hWB]; exact (gZ.setCell (by simp) _).setCell (by simp) _
    obtain ⟨WP, hWP⟩ : ∃ WP, WB.alloc (.cells #[.int .i64 p0, .int .i64 p1, .int .i64 q0, .int .i64 p1, .int .i64 q0, .int .i64 q1, .int .i64 p0, .int .i64 q1, .int .i64 p0, .int .i64 p1] 26) = WP := ⟨_, rfl⟩
    have gP : Grew WB WP := by rw [← hWP]; exact (Grew.refl _).alloc _
    obtain ⟨WD, hWD⟩ : ∃ WD, WP.alloc (.cells #[.int .i64 0, .int .i64 1, .int .i64 0, .int .i64 (-1)] 3) = WD := ⟨_, rfl⟩
    have gD : Grew WP WD := by rw [← hWD]; exact (Grew.refl _).alloc _
    obtain ⟨WE, hWE⟩ : ∃ WE, WD.alloc (.cells #[.int .i64 (-1), .int .i64 0, .int .i64 1, .int .i64 0] 3) = WE := ⟨_, rfl⟩
    have gE : Grew WD WE := by rw [← hWE]; exact (Grew.refl _).alloc _
    have gAll : Grew W1 WE := ((g2.trans gB).trans gP).trans (gD.trans gE)
    have B0' := Lib.hid (gAll.cell B0)
    have B1' := Lib.hid (gAll.cell B1)
    have B2' := Lib.hid (gAll.cell B2)
    have HR := Lib.hid (hR.out.grew gAll)
    have GE := Lib.hid (G1.out.trans gAll)
    have hP : ∀ i u, [p0, p1, q0, p1, q0, q1, p0, q1, p0, p1][i]? = some u → WE.cell? ⟨WB.heap.size, i, none⟩ = some (.int .i64 u) := fun i u h => gE.cell (gD.cell (by rw [← hWP]; exact lit_cell WB [p0, p1, q0, p1, q0, q1, p0, q1, p0, p1] _ i u h))
    have hDx : ∀ i u, [0, 1, 0, -1][i]? = some u → WE.cell? ⟨WP.heap.size, i, none⟩ = some (.int .i64 u) := fun i u h => gE.cell (by rw [← hWD]; exact lit_cell WP [0, 1, 0, -1] _ i u h)
    have hDy : ∀ i u, [-1, 0, 1, 0][i]? = some u → WE.cell? ⟨WD.heap.size, i, none⟩ = some (.int .i64 u) := fun i u h => by rw [← hWE]; exact lit_cell WD [-1, 0, 1, 0] _ i u h
    replace hP := Lib.hid hP
    replace hDx := Lib.hid hDx
    replace hDy := Lib.hid hDy
    have nP : WB.heap.size ≠ w.heap.size + 1 := by have h1 := hR.out.2.2.2.2.2.2.2.2; have h2 := (g2.trans gB).size; omega
    have nDx : WP.heap.size ≠ w.heap.size + 1 := by have h1 := hR.out.2.2.2.2.2.2.2.2; have h2 := ((g2.trans gB).trans gP).size; omega
    have nDy : WD.heap.size ≠ w.heap.size + 1 := by have h1 := hR.out.2.2.2.2.2.2.2.2; have h2 := (((g2.trans gB).trans gP).trans gD).size; omega
    have nB : w.heap.size ≠ w.heap.size + 1 := by omega
    clear g2 gB gP gD gE gA gZ gAll hSA y0 y1 B0 B1 B2 hR G1
    go_upto_region 4 with fail
    have hR := Lib.hid (HR.out.grew (Grew.refl WE).drew)
    refine wp_region_held_drew (S := fun wv => Wrote (w.heap.size + 1) WE wv) (by kernel_rfl) ((Wrote.refl (w.heap.size + 1) WE).drew) (fun hHeld => ?_)
    replace hHeld := Lib.hid hHeld
    try simp only [Act.put, List.setIfInBounds_toArray, List.set_cons_zero, List.set_cons_succ]
    refine wpAnyH_takeD (i := 0) (d := 37) (v := ?_) rfl rfl (by kernel_rfl) (by kernel_rfl) (by kernel_rfl) (fun _ _ _ h => h) (Or.inl ⟨by rfl, ?_⟩) hHeld.out ?_
    rotate_left
    · intro wv hSw
      replace hSw : Hid (Wrote (w.heap.size + 1) WE wv) := Lib.hid hSw
      go_simp
      try with_reducible rfl
    try simp only [Act.put, List.setIfInBounds_toArray, List.set_cons_zero, List.set_cons_succ]
    refine wpAnyH_takeD (i := 1) (d := 38) (v := ?_) rfl rfl (by kernel_rfl) (by kernel_rfl) (by kernel_rfl) (fun _ _ _ h => h) (Or.inl ⟨by rfl, ?_⟩) hHeld.out ?_
    rotate_left
    · intro wv hSw
      replace hSw : Hid (Wrote (w.heap.size + 1) WE wv) := Lib.hid hSw
      go_simp
      try with_reducible rfl
    try simp only [Act.put, List.setIfInBounds_toArray, List.set_cons_zero, List.set_cons_succ]
    refine wpAnyH_takeD (i := 2) (d := 39) (v := ?_) rfl rfl (by kernel_rfl) (by kernel_rfl) (by kernel_rfl) (fun _ _ _ h => h) (Or.inl ⟨by rfl, ?_⟩) hHeld.out ?_
    rotate_left
    · intro wv hSw
      replace hSw : Hid (Wrote (w.heap.size + 1) WE wv) := Lib.hid hSw
      go_simp
      try with_reducible rfl
    try simp only [Act.put, List.setIfInBounds_toArray, List.set_cons_zero, List.set_cons_succ]
    refine wpAnyH_takeD (i := 3) (d := 40) (v := ?_) rfl rfl (by kernel_rfl) (by kernel_rfl) (by kernel_rfl) (fun _ _ _ h => h) (Or.inl ⟨by rfl, ?_⟩) hHeld.out ?_
    rotate_left
    · intro wv hSw
      replace hSw : Hid (Wrote (w.heap.size + 1) WE wv) := Lib.hid hSw
      have t0 := hSw.out.cell (hP.out _ _ e0.out) nP
      have t1 := hSw.out.cell (hP.out _ _ e1.out) nP
      go_simp
      try with_reducible rfl
    try simp only [Act.put, List.setIfInBounds_toArray, List.set_cons_zero, List.set_cons_succ]
    refine wpAnyH_takeD (i := 4) (d := 41) (v := ?_) rfl rfl (by kernel_rfl) (by kernel_rfl) (by kernel_rfl) (fun _ _ _ h => h) (Or.inl ⟨by rfl, ?_⟩) hHeld.out ?_
    rotate_left
    · intro wv hSw
      replace hSw : Hid (Wrote (w.heap.size + 1) WE wv) := Lib.hid hSw
      go_simp
      try with_reducible rfl
    try simp only [Act.put, List.setIfInBounds_toArray, List.set_cons_zero, List.set_cons_succ]
    refine wpAnyH_takeD (i := 5) (d := 42) (v := ?_) rfl rfl (by kernel_rfl) (by kernel_rfl) (by kernel_rfl) (fun _ _ _ h => h) (Or.inl ⟨by rfl, ?_⟩) hHeld.out ?_
    rotate_left
    · intro wv hSw
      replace hSw : Hid (Wrote (w.heap.size + 1) WE wv) := Lib.hid hSw
      go_simp
      try with_reducible rfl
    try simp only [Act.put, List.setIfInBounds_toArray, List.set_cons_zero, List.set_cons_succ]
    refine wpAnyH_takeD (i := 6) (d := 43) (v := ?_) rfl rfl (by kernel_rfl) (by kernel_rfl) (by kernel_rfl) (fun _ _ _ h => h) (Or.inl ⟨by rfl, ?_⟩) hHeld.out ?_
    rotate_left
    · intro wv hSw
      replace hSw : Hid (Wrote (w.heap.size + 1) WE wv) := Lib.hid hSw
      go_simp
      try with_reducible rfl
    try simp only [Act.put, List.setIfInBounds_toArray, List.set_cons_zero, List.set_cons_succ]
    refine wpAnyH_takeD (i := 7) (d := 44) (v := ?_) rfl rfl (by kernel_rfl) (by kernel_rfl) (by kernel_rfl) (fun _ _ _ h => h) (Or.inl ⟨by rfl, ?_⟩) hHeld.out ?_
    rotate_left
    · intro wv hSw
      replace hSw : Hid (Wrote (w.heap.size + 1) WE wv) := Lib.hid hSw
      go_simp
      try with_reducible rfl
    try simp only [Act.put, List.setIfInBounds_toArray, List.set_cons_zero, List.set_cons_succ]
    refine wpAnyH_takeD (i := 8) (d := 45) (v := ?_) rfl rfl (by kernel_rfl) (by kernel_rfl) (by kernel_rfl) (fun _ _ _ h => h) (Or.inl ⟨by rfl, ?_⟩) hHeld.out ?_
    rotate_left
    · intro wv hSw
      replace hSw : Hid (Wrote (w.heap.size + 1) WE wv) := Lib.hid hSw
      have t0 := hSw.out.cell (hP.out _ _ e2.out) nP
      have t1 := hSw.out.cell (hP.out _ _ e3.out) nP
      go_simp
      try with_reducible rfl
    try simp only [Act.put, List.setIfInBounds_toArray, List.set_cons_zero, List.set_cons_succ]
    refine wpAnyH_takeD (i := 9) (d := 46) (v := ?_) rfl rfl (by kernel_rfl) (by kernel_rfl) (by kernel_rfl) (fun _ _ _ h => h) (Or.inl ⟨by rfl, ?_⟩) hHeld.out ?_
    rotate_left
    · intro wv hSw
      replace hSw : Hid (Wrote (w.heap.size + 1) WE wv) := Lib.hid hSw
      go_simp
      try with_reducible rfl
    try simp only [Act.put, List.setIfInBounds_toArray, List.set_cons_zero, List.set_cons_succ]
    refine wpAnyH_takeD (i := 10) (d := 47) (v := ?_) rfl rfl (by kernel_rfl) (by kernel_rfl) (by kernel_rfl) (fun _ _ _ h => h) (Or.inl ⟨by rfl, ?_⟩) hHeld.out ?_
    rotate_left
    · intro wv hSw
      replace hSw : Hid (Wrote (w.heap.size + 1) WE wv) := Lib.hid hSw
      have t0 := hSw.out.cell B0'.out nB
      have t1 := hSw.out.cell B1'.out nB
      have t2 := hSw.out.cell B2'.out nB
      go_simp
      try with_reducible rfl
    try simp only [Act.put, List.setIfInBounds_toArray, List.set_cons_zero, List.set_cons_succ]
    refine wpAnyH_takeD (i := 11) (d := 48) (v := ?_) rfl rfl (by kernel_rfl) (by kernel_rfl) (by kernel_rfl) (fun _ _ _ h => h) (Or.inl ⟨by rfl, ?_⟩) hHeld.out ?_
    rotate_left
    · intro wv hSw
      replace hSw : Hid (Wrote (w.heap.size + 1) WE wv) := Lib.hid hSw
      go_simp
      try with_reducible rfl
    try simp only [Act.put, List.setIfInBounds_toArray, List.set_cons_zero, List.set_cons_succ]
    refine wpAnyH_takeD (i := 12) (d := 49) (v := ?_) rfl rfl (by kernel_rfl) (by kernel_rfl) (by kernel_rfl) (fun _ _ _ h => h) (Or.inl ⟨by rfl, ?_⟩) hHeld.out ?_
    rotate_left
    · intro wv hSw
      replace hSw : Hid (Wrote (w.heap.size + 1) WE wv) := Lib.hid hSw
      go_simp
      try with_reducible rfl
    try simp only [Act.put, List.setIfInBounds_toArray, List.set_cons_zero, List.set_cons_succ]
    refine wpAnyH_ready (rs := [13]) (by kernel_rfl) (by simp) ?_
    refine AllReadyH.cons rfl (fun KK hKK => ?_) AllReadyH.nil
    go_simp
    refine (rhas24_n W H A n c bs x y _ (hb.out.grew (GE.out.wrote hHeld.out (by simp))) hn.out).mono ?_
    rintro e wk1 ⟨rfl, g⟩
    have gk := hHeld.out.trans (Wrote.of_grew g (w.heap.size + 1))
    rw [hf.out]
    (try (replace hR := Lib.hid (hR.out.grew g)))
    (try (replace s0 := g.cell s0))
    (try (replace s1 := g.cell s1))
    (try (replace s2 := g.cell s2))
    (try (replace s3 := g.cell s3))
    clear hHeld
    try dsimp only
    refine hKK.out _ _ gk (fun hHeld => ?_)
    clear gk hKK KK
    replace hHeld := Lib.hid (show Wrote (w.heap.size + 1) WE wk1 from hHeld)
    try simp only [Act.put, List.setIfInBounds_toArray, List.set_cons_zero, List.set_cons_succ]
    refine wpAnyH_takeD (i := 14) (d := 51) (v := ?_) rfl rfl (by kernel_rfl) (by kernel_rfl) (by kernel_rfl) (fun _ _ _ h => h) (Or.inl ⟨by rfl, ?_⟩) hHeld.out ?_
    rotate_left
    · intro wv hSw
      replace hSw : Hid (Wrote (w.heap.size + 1) WE wv) := Lib.hid hSw
      go_simp
      try with_reducible rfl
    try simp only [Act.put, List.setIfInBounds_toArray, List.set_cons_zero, List.set_cons_succ]
    refine wpAnyH_takeD (i := 15) (d := 52) (v := ?_) rfl rfl (by kernel_rfl) (by kernel_rfl) (by kernel_rfl) (fun _ _ _ h => h) (Or.inl ⟨by rfl, ?_⟩) hHeld.out ?_
    rotate_left
    · intro wv hSw
      replace hSw : Hid (Wrote (w.heap.size + 1) WE wv) := Lib.hid hSw
      have t0 := hSw.out.cell B0'.out nB
      have t1 := hSw.out.cell B1'.out nB
      have t2 := hSw.out.cell B2'.out nB
      go_simp
      try with_reducible rfl
    try simp only [Act.put, List.setIfInBounds_toArray, List.set_cons_zero, List.set_cons_succ]
    refine wpAnyH_takeD (i := 16) (d := 53) (v := ?_) rfl rfl (by kernel_rfl) (by kernel_rfl) (by kernel_rfl) (fun _ _ _ h => h) (Or.inl ⟨by rfl, ?_⟩) hHeld.out ?_
    rotate_left
    · intro wv hSw
      replace hSw : Hid (Wrote (w.heap.size + 1) WE wv) := Lib.hid hSw
      go_simp
      try with_reducible rfl
    try simp only [Act.put, List.setIfInBounds_toArray, List.set_cons_zero, List.set_cons_succ]
    refine wpAnyH_takeD (i := 17) (d := 54) (v := ?_) rfl rfl (by kernel_rfl) (by kernel_rfl) (by kernel_rfl) (fun _ _ _ h => h) (Or.inl ⟨by rfl, ?_⟩) hHeld.out ?_
    rotate_left
    · intro wv hSw
      replace hSw : Hid (Wrote (w.heap.size + 1) WE wv) := Lib.hid hSw
      go_simp
      try with_reducible rfl
    try simp only [Act.put, List.setIfInBounds_toArray, List.set_cons_zero, List.set_cons_succ]
    refine wpAnyH_takeD (i := 18) (d := 55) (v := ?_) rfl rfl (by kernel_rfl) (by kernel_rfl) (by kernel_rfl) (fun _ _ _ h => h) (Or.inl ⟨by rfl, ?_⟩) hHeld.out ?_
    rotate_left
    · intro wv hSw
      replace hSw : Hid (Wrote (w.heap.size + 1) WE wv) := Lib.hid hSw
      go_simp
      try with_reducible rfl
    try simp only [Act.put, List.setIfInBounds_toArray, List.set_cons_zero, List.set_cons_succ]
    refine wpAnyH_takeD (i := 19) (d := 56) (v := ?_) rfl rfl (by kernel_rfl) (by kernel_rfl) (by kernel_rfl) (fun _ _ _ h => h) (Or.inl ⟨by rfl, ?_⟩) hHeld.out ?_
    rotate_left
    · intro wv hSw
      replace hSw : Hid (Wrote (w.heap.size + 1) WE wv) := Lib.hid hSw
      go_simp
      try with_reducible rfl
    try simp only [Act.put, List.setIfInBounds_toArray, List.set_cons_zero, List.set_cons_succ]
    refine wpAnyH_takeD (i := 20) (d := 57) (v := ?_) rfl rfl (by kernel_rfl) (by kernel_rfl) (by kernel_rfl) (fun _ _ _ h => h) (Or.inl ⟨by rfl, ?_⟩) hHeld.out ?_
    rotate_left
    · intro wv hSw
      replace hSw : Hid (Wrote (w.heap.size + 1) WE wv) := Lib.hid hSw
      have t0 := hSw.out.cell (hDx.out _ _ e4.out) nDx
      go_simp
      try with_reducible rfl
    try simp only [Act.put, List.setIfInBounds_toArray, List.set_cons_zero, List.set_cons_succ]
    refine wpAnyH_takeD (i := 21) (d := 58) (v := ?_) rfl rfl (by kernel_rfl) (by kernel_rfl) (by kernel_rfl) (fun _ _ _ h => h) (Or.inl ⟨by rfl, ?_⟩) hHeld.out ?_
    rotate_left
    · intro wv hSw
      replace hSw : Hid (Wrote (w.heap.size + 1) WE wv) := Lib.hid hSw
      go_simp
      try with_reducible rfl
    try simp only [Act.put, List.setIfInBounds_toArray, List.set_cons_zero, List.set_cons_succ]
    refine wpAnyH_takeD (i := 22) (d := 59) (v := ?_) rfl rfl (by kernel_rfl) (by kernel_rfl) (by kernel_rfl) (fun _ _ _ h => h) (Or.inl ⟨by rfl, ?_⟩) hHeld.out ?_
    rotate_left
    · intro wv hSw
      replace hSw : Hid (Wrote (w.heap.size + 1) WE wv) := Lib.hid hSw
      go_simp
      try with_reducible rfl
    try simp only [Act.put, List.setIfInBounds_toArray, List.set_cons_zero, List.set_cons_succ]
    refine wpAnyH_takeD (i := 23) (d := 60) (v := ?_) rfl rfl (by kernel_rfl) (by kernel_rfl) (by kernel_rfl) (fun _ _ _ h => h) (Or.inl ⟨by rfl, ?_⟩) hHeld.out ?_
    rotate_left
    · intro wv hSw
      replace hSw : Hid (Wrote (w.heap.size + 1) WE wv) := Lib.hid hSw
      go_simp
      try with_reducible rfl
    try simp only [Act.put, List.setIfInBounds_toArray, List.set_cons_zero, List.set_cons_succ]
    refine wpAnyH_takeD (i := 24) (d := 61) (v := ?_) rfl rfl (by kernel_rfl) (by kernel_rfl) (by kernel_rfl) (fun _ _ _ h => h) (Or.inl ⟨by rfl, ?_⟩) hHeld.out ?_
    rotate_left
    · intro wv hSw
      replace hSw : Hid (Wrote (w.heap.size + 1) WE wv) := Lib.hid hSw
      go_simp
      try with_reducible rfl
    try simp only [Act.put, List.setIfInBounds_toArray, List.set_cons_zero, List.set_cons_succ]
    refine wpAnyH_takeD (i := 25) (d := 62) (v := ?_) rfl rfl (by kernel_rfl) (by kernel_rfl) (by kernel_rfl) (fun _ _ _ h => h) (Or.inl ⟨by rfl, ?_⟩) hHeld.out ?_
    rotate_left
    · intro wv hSw
      replace hSw : Hid (Wrote (w.heap.size + 1) WE wv) := Lib.hid hSw
      go_simp
      try with_reducible rfl
    try simp only [Act.put, List.setIfInBounds_toArray, List.set_cons_zero, List.set_cons_succ]
    refine wpAnyH_takeD (i := 26) (d := 63) (v := ?_) rfl rfl (by kernel_rfl) (by kernel_rfl) (by kernel_rfl) (fun _ _ _ h => h) (Or.inl ⟨by rfl, ?_⟩) hHeld.out ?_
    rotate_left
    · intro wv hSw
      replace hSw : Hid (Wrote (w.heap.size + 1) WE wv) := Lib.hid hSw
      have t0 := hSw.out.cell (hDy.out _ _ e5.out) nDy
      go_simp
      try with_reducible rfl
    try simp only [Act.put, List.setIfInBounds_toArray, List.set_cons_zero, List.set_cons_succ]
    refine wpAnyH_takeD (i := 27) (d := 64) (v := ?_) rfl rfl (by kernel_rfl) (by kernel_rfl) (by kernel_rfl) (fun _ _ _ h => h) (Or.inl ⟨by rfl, ?_⟩) hHeld.out ?_
    rotate_left
    · intro wv hSw
      replace hSw : Hid (Wrote (w.heap.size + 1) WE wv) := Lib.hid hSw
      go_simp
      try with_reducible rfl
    try simp only [Act.put, List.setIfInBounds_toArray, List.set_cons_zero, List.set_cons_succ]
    refine wpAnyH_ready (rs := [28]) (by kernel_rfl) (by simp) ?_
    refine AllReadyH.cons rfl (fun KK hKK => ?_) AllReadyH.nil
    go_simp
    refine (rhas24_n W H A n c bs (x + dx) (y + dy) _ (hb.out.grew (GE.out.wrote hHeld.out (by simp))) hn.out).mono ?_
    rintro e wk2 ⟨rfl, g⟩
    have gk := hHeld.out.trans (Wrote.of_grew g (w.heap.size + 1))
    rw [hg.out]
    (try (replace hR := Lib.hid (hR.out.grew g)))
    (try (replace s0 := g.cell s0))
    (try (replace s1 := g.cell s1))
    (try (replace s2 := g.cell s2))
    (try (replace s3 := g.cell s3))
    clear hHeld
    try dsimp only
    refine hKK.out _ _ gk (fun hHeld => ?_)
    clear gk hKK KK
    replace hHeld := Lib.hid (show Wrote (w.heap.size + 1) WE wk2 from hHeld)
    try simp only [Act.put, List.setIfInBounds_toArray, List.set_cons_zero, List.set_cons_succ]
    refine wpAnyH_takeD (i := 29) (d := 66) (v := ?_) rfl rfl (by kernel_rfl) (by kernel_rfl) (by kernel_rfl) (fun _ _ _ h => h) (Or.inl ⟨by rfl, ?_⟩) hHeld.out ?_
    rotate_left
    · intro wv hSw
      replace hSw : Hid (Wrote (w.heap.size + 1) WE wv) := Lib.hid hSw
      go_simp
      try with_reducible rfl
    try simp only [Act.put, List.setIfInBounds_toArray, List.set_cons_zero, List.set_cons_succ]
    refine wpAnyH_takeD (i := 30) (d := 67) (v := ?_) rfl rfl (by kernel_rfl) (by kernel_rfl) (by kernel_rfl) (fun _ _ _ h => h) (Or.inl ⟨by rfl, ?_⟩) hHeld.out ?_
    rotate_left
    · intro wv hSw
      replace hSw : Hid (Wrote (w.heap.size + 1) WE wv) := Lib.hid hSw
      go_simp
      try with_reducible rfl
    try simp only [Act.put, List.setIfInBounds_toArray, List.set_cons_zero, List.set_cons_succ]
    refine wpAnyH_ready (rs := [31]) (by kernel_rfl) (by simp) ?_
    refine AllReadyH.cons rfl (fun KK hKK => ?_) AllReadyH.nil
    have u0 : wk2.cell? ⟨(w.heap.size + 1), 0, none⟩ = _ := hR.out.1
    have u1 : wk2.cell? ⟨(w.heap.size + 1), 1, none⟩ = _ := hR.out.2.1
    have u2 : wk2.cell? ⟨(w.heap.size + 1), 2, none⟩ = _ := hR.out.2.2.1
    have u3 : wk2.cell? ⟨(w.heap.size + 1), 3, none⟩ = _ := hR.out.2.2.2.1
    have v0 : wk2.frozen? ⟨(w.heap.size + 1), 0, none⟩ = _ := hR.out.2.2.2.2.1
    have v1 : wk2.frozen? ⟨(w.heap.size + 1), 1, none⟩ = _ := hR.out.2.2.2.2.2.1
    have v2 : wk2.frozen? ⟨(w.heap.size + 1), 2, none⟩ = _ := hR.out.2.2.2.2.2.2.1
    have v3 : wk2.frozen? ⟨(w.heap.size + 1), 3, none⟩ = _ := hR.out.2.2.2.2.2.2.2.1
    go_simp
    try dsimp only
    have gS := ((((hHeld.out).setCell 0 (.int .i64 sx)).setCell 1 (.int .i64 sy)).setCell 2 (.int .i64 tx)).setCell 3 (.int .i64 ty)
    obtain ⟨s0, s1, s2, s3, -⟩ := store4 (w' := (((wk2.setCell ⟨(w.heap.size + 1), 0, none⟩ (.int .i64 sx)).setCell ⟨(w.heap.size + 1), 1, none⟩ (.int .i64 sy)).setCell ⟨(w.heap.size + 1), 2, none⟩ (.int .i64 tx)).setCell ⟨(w.heap.size + 1), 3, none⟩ (.int .i64 ty)) hR.out rfl
    clear u0 u1 u2 u3 v0 v1 v2 v3 hR hHeld
    generalize (((wk2.setCell ⟨(w.heap.size + 1), 0, none⟩ (.int .i64 sx)).setCell ⟨(w.heap.size + 1), 1, none⟩ (.int .i64 sy)).setCell ⟨(w.heap.size + 1), 2, none⟩ (.int .i64 tx)).setCell ⟨(w.heap.size + 1), 3, none⟩ (.int .i64 ty) = wk3 at gS s0 s1 s2 s3 ⊢
    refine hKK.out _ _ gS (fun hHeld => ?_)
    clear gS hKK KK
    replace hHeld := Lib.hid (show Wrote (w.heap.size + 1) WE wk3 from hHeld)
    try simp only [Act.put]
    refine wpAnyH_takeD (i := 32) (d := 9) (v := ?_) rfl rfl (by kernel_rfl) (by kernel_rfl) (by kernel_rfl) (fun _ _ _ h => h) (Or.inl ⟨by rfl, ?_⟩) hHeld.out ?_
    rotate_left
    · intro wv hSw
      replace hSw : Hid (Wrote (w.heap.size + 1) WE wv) := Lib.hid hSw
      go_simp
      try with_reducible rfl
    try simp only [Act.put, List.setIfInBounds_toArray, List.set_cons_zero, List.set_cons_succ]
    refine wpAnyH_done (by kernel_rfl) ?_ _
    go_wp2_with fail
    exact bodyPost_ret (v := .tuple #[segV sx sy tx ty, .bool (!b2)]) (by simp [results, Tryz.results47, go_sem, s0, s1, s2, s3]) rfl ⟨rfl, GE.out.wrote hHeld.out (by simp)⟩

theorem side_any (W H : Int) (A : Option Addr) (c : Nat) (bs : List Bool) (x y k : Nat) (hx : x ≤ 64) (hy : y ≤ 64) (hk : k < 4) (w : World) (hb : BoolsR w (.slice A bs.length c) bs) :
    Calls Tryz.prog 47 #[cellV W H A bs.length c, .int .i64 x, .int .i64 y, .int .i64 k] w fun e w' => e = .returned (.tuple #[segV (segOf (unitOf x y k)).1.1 (segOf (unitOf x y k)).1.2 (segOf (unitOf x y k)).2.1 (segOf (unitOf x y k)).2.2, .bool (sideIn (hasC W H bs) x y k)]) ∧ Grew w w' := by
  have hn : nearZ x y = true := decide_eq_true (by omega)
  have hA : sqA x y = (256 * (x : Int), 256 * (y : Int)) := if_pos hn
  have hB : sqB x y = (256 * (x : Int) + 256, 256 * (y : Int) + 256) := if_pos hn
  have a0 : (256 : Int) * (x + 1) = 256 * x + 256 := by omega
  have a1 : (256 : Int) * (y + 1) = 256 * y + 256 := by omega
  have a2 : (x : Int) + 1 - 1 = x := by omega
  have a3 : (y : Int) + 1 - 1 = y := by omega
  rcases (show k = 0 ∨ k = 1 ∨ k = 2 ∨ k = 3 by omega) with rfl | rfl | rfl | rfl
  · refine (side_gen W H A _ c bs x y _ _ _ _ 0 1 _ _ _ _ _ _ hA hB w (Lib.hid hb) (Lib.hid rfl) (by omega) (Lib.hid rfl) (by omega) (by omega) (Lib.hid rfl) (Lib.hid rfl) (Lib.hid rfl) (Lib.hid rfl) (Lib.hid rfl) (Lib.hid rfl) (by omega) _ _ (Lib.hid rfl) (Lib.hid rfl)).mono ?_
    rintro e w' ⟨rfl, g⟩
    refine ⟨?_, g⟩
    simp [unitOf, segOf, sideIn, sideB, a0, ← Int.sub_eq_add_neg]
  · refine (side_gen W H A _ c bs x y _ _ _ _ 1 2 _ _ _ _ _ _ hA hB w (Lib.hid hb) (Lib.hid rfl) (by omega) (Lib.hid rfl) (by omega) (by omega) (Lib.hid rfl) (Lib.hid rfl) (Lib.hid rfl) (Lib.hid rfl) (Lib.hid rfl) (Lib.hid rfl) (by omega) _ _ (Lib.hid rfl) (Lib.hid rfl)).mono ?_
    rintro e w' ⟨rfl, g⟩
    refine ⟨?_, g⟩
    simp [unitOf, segOf, sideIn, sideB, a0, a1, a2]
  · refine (side_gen W H A _ c bs x y _ _ _ _ 2 3 _ _ _ _ _ _ hA hB w (Lib.hid hb) (Lib.hid rfl) (by omega) (Lib.hid rfl) (by omega) (by omega) (Lib.hid rfl) (Lib.hid rfl) (Lib.hid rfl) (Lib.hid rfl) (Lib.hid rfl) (Lib.hid rfl) (by omega) _ _ (Lib.hid rfl) (Lib.hid rfl)).mono ?_
    rintro e w' ⟨rfl, g⟩
    refine ⟨?_, g⟩
    simp [unitOf, segOf, sideIn, sideB, a0, a1, a3]
  · refine (side_gen W H A _ c bs x y _ _ _ _ 3 4 _ _ _ _ _ _ hA hB w (Lib.hid hb) (Lib.hid rfl) (by omega) (Lib.hid rfl) (by omega) (by omega) (Lib.hid rfl) (Lib.hid rfl) (Lib.hid rfl) (Lib.hid rfl) (Lib.hid rfl) (Lib.hid rfl) (by omega) _ _ (Lib.hid rfl) (Lib.hid rfl)).mono ?_
    rintro e w' ⟨rfl, g⟩
    refine ⟨?_, g⟩
    simp [unitOf, segOf, sideIn, sideB, a1, ← Int.sub_eq_add_neg]
end Go.Proofs.YtngbcbncllfblaaGreat
