/- spot.small, spot.over, spot.Turns, at any points. Condition: what comes in reads. Locals of two cells. Conditions: none. spot.Turns at all points; spot.Side. Condition: what comes in reads; fewer than 2^26 words. outline.Term, outline.Border, r25.Border. Condition: the cells read. -/
import Derived.Test.YtngbcbncllfblaaGreatJGridP
import Derived.Test.YtngbcbncllfblaaGreatJR2c
import Derived.Test.YtngbcbncllfblaaGreatJKit2
import Derived.Test.YtngbcbncllfblaaGreatJOutQ
import Derived.Test.YtngbcbncllfblaaGreatJRef3
import Derived.Test.YtngbcbncllfblaaGreatJSplD
import Derived.Test.YtngbcbncllfblaaGreatJR5c
namespace Go.Proofs.YtngbcbncllfblaaGreat
open Go.RowKit

end Go.Proofs.YtngbcbncllfblaaGreat
namespace Go.Proofs.YtngbcbncllfblaaGreat
open Go.RowKit

end Go.Proofs.YtngbcbncllfblaaGreat
namespace Go.Proofs.YtngbcbncllfblaaGreat
open Go.RowKit

theorem QB_i64 {x : Int} (h0 : -9223372036854775808 ≤ x) (h1 : x ≤ 9223372036854775807) : QB (x : Rat) 2 := QB_int x 2 (len_word (by omega)) (by omega)

end Go.Proofs.YtngbcbncllfblaaGreat
namespace Go.Proofs.YtngbcbncllfblaaGreat
open Go.RowKit

/-- A way as an edge. -/
def edgeZ (s : SegZ) : EdgeQ := (((s.1.1 : Rat), (s.1.2 : Rat)), ((s.2.1 : Rat), (s.2.2 : Rat)))
theorem RowK.mapR {V : Type} {k : Nat} {R R' : World → Array Value → V → Prop} {w : World} {v : Value} {l : List V} (h : RowK k R w v l) (hm : ∀ us x, x ∈ l → R w us x → R' w us x) : RowK k R' w v l := by
  obtain ⟨A, c, hv, h1, h2, h3⟩ := h
  refine ⟨A, c, hv, h1, h2, fun hl => ?_⟩
  obtain ⟨b, o, hA, he⟩ := h3 hl
  refine ⟨b, o, hA, fun i x hx => ?_⟩
  obtain ⟨us, e1, e2⟩ := he i x hx
  exact ⟨us, e1, hm us x (List.mem_of_getElem? hx) e2⟩

theorem segs_in64 {w : World} {v : Value} {Z : List SegZ} (h : SegsR w v Z) : ∀ z ∈ Z, In64 z.1.1 z.1.2 ∧ In64 z.2.1 z.2.2 := by
  intro z hz
  obtain ⟨A, c, -, -, -, h3⟩ := h
  obtain ⟨i, hi, rfl⟩ := List.getElem_of_mem hz
  obtain ⟨b, o, -, he⟩ := h3 (by omega)
  exact (he i _ (List.getElem?_eq_getElem hi)).2
theorem eb_segs {Z : List SegZ} (h : ∀ z ∈ Z, In64 z.1.1 z.1.2 ∧ In64 z.2.1 z.2.2) : ∀ x ∈ Z.map edgeZ, EB 2 x := by
  intro x hx
  obtain ⟨z, hz, rfl⟩ := List.mem_map.1 hx
  obtain ⟨⟨a0, a1, a2, a3⟩, a4, a5, a6, a7⟩ := h z hz
  exact ⟨⟨QB_i64 a0 a1, QB_i64 a2 a3⟩, QB_i64 a4 a5, QB_i64 a6 a7⟩
theorem SegsR.set {w : World} {v u x : Value} {l : List SegZ} {p : Addr} (h : SegsR w v l) (hp : w.cell? p = some u) (hx : x = u ∨ ∀ z, u ≠ .int .i64 z) : SegsR (w.setCell p x) v l := by
  have key : ∀ (q : Addr) (z : Int), w.cell? q = some (.int .i64 z) → (w.setCell p x).cell? q = some (.int .i64 z) := by
    intro q z hq
    by_cases e : p = q
    · subst e
      have hu : u = .int .i64 z := Option.some.inj (hp.symm.trans hq)
      rcases hx with rfl | hx
      · rw [cell_set hp, hu]
      · exact absurd hu (hx z)
    · rw [World.cell?_setCell_other _ _ _ _ e]; exact hq
  obtain ⟨A, c, e, h1, h2, h3⟩ := h
  refine ⟨A, c, e, h1, h2, fun hl => ?_⟩
  obtain ⟨b, o, hA, he⟩ := h3 hl
  refine ⟨b, o, hA, fun i s hs => ?_⟩
  obtain ⟨⟨c0, c1, c2, c3⟩, hr⟩ := he i s hs
  exact ⟨⟨key _ _ c0, key _ _ c1, key _ _ c2, key _ _ c3⟩, hr⟩

set_option maxRecDepth 100000 in
set_option maxHeartbeats 4000000 in
theorem oterm_any (W H : Int) (A : Option Addr) (c : Nat) (bs : List Bool) (w : World) (hb : BoolsR w (.slice A bs.length c) bs) :
    Calls Tryz.prog 11 #[cellV W H A bs.length c] w fun e w' => ∃ A' n' c', e = .returned (.agg #[.slice A' n' c', .int .i64 0, .bool false]) ∧ ∃ l : List Rn, IsWays (hasC W H bs) l ∧ l.length ≤ 8320 ∧ SegsR w' (.slice A' n' c') (l.map segOf) ∧ Grew w w' := by
  go_enter Tryz.func11, Tryz.ntmps11
  go_upto_region 1 with fail
  refine gen_wp ?_
  intro W1 hW1
  have p0 : W1.cell? ⟨w.heap.size, 0, none⟩ = some (.int .i64 W) := by rw [hW1]; simp [go_sem]
  have p1 : W1.cell? ⟨w.heap.size, 1, none⟩ = some (.int .i64 H) := by rw [hW1]; simp [go_sem]
  have p2 : W1.cell? ⟨w.heap.size, 2, none⟩ = some (.slice A bs.length c) := by rw [hW1]; simp [go_sem]
  have r0 : W1.cell? ⟨w.heap.size + 1, 0, none⟩ = some (.slice none 0 0) := by rw [hW1]; simp [go_sem]
  have r1 : W1.cell? ⟨w.heap.size + 1, 1, none⟩ = some (.int .i64 0) := by rw [hW1]; simp [go_sem]
  have r2 : W1.cell? ⟨w.heap.size + 1, 2, none⟩ = some (.bool false) := by rw [hW1]; simp [go_sem]
  have f0 : W1.frozen? ⟨w.heap.size + 1, 0, none⟩ = false := by rw [hW1]; simp [go_sem]
  have f1 : W1.frozen? ⟨w.heap.size + 1, 1, none⟩ = false := by rw [hW1]; simp [go_sem]
  have f2 : W1.frozen? ⟨w.heap.size + 1, 2, none⟩ = false := by rw [hW1]; simp [go_sem]
  have hlt : w.heap.size + 1 < W1.heap.size := by rw [hW1]; simp
  have G1 : Grew w W1 := by rw [hW1]; exact ((Grew.refl _).alloc _).alloc _
  have hbW := Lib.hid (hb.grew G1)
  replace G1 := Lib.hid G1
  clear hW1 hb
  go_wp2_with fail
  refine (oways_any W H A c bs _ hbW.out).mono ?_
  rintro e wj ⟨v9, rfl, l, hI, hll, hS, g⟩
  obtain ⟨A2, c2, rfl, h1, h2, h3⟩ := id hS
  obtain ⟨M, hM⟩ : ∃ M, (l.map segOf).length = M := ⟨_, rfl⟩
  rw [hM] at hS h1 h3 ⊢
  replace r0 := g.cell r0
  replace r1 := g.cell r1
  replace r2 := g.cell r2
  replace f0 := (g.olds.2 _ 0 hlt).trans f0
  replace f1 := (g.olds.2 _ 1 hlt).trans f1
  replace f2 := (g.olds.2 _ 2 hlt).trans f2
  have hGj := Lib.hid (G1.out.trans g)
  have hgj := g.size
  replace hS := Lib.hid hS
  replace hM := Lib.hid hM
  replace hI := Lib.hid hI
  clear g G1 hbW p0 p1 p2 h3
  go_wp2_with fail
  refine bodyPost_ret (v := .agg #[.slice A2 M c2, .int .i64 0, .bool false]) (by simp [results, Tryz.results11, go_sem, r0, r1, r2]) rfl ⟨A2, M, c2, rfl, l, hI.out, hll, ?_, ?_⟩
  · refine SegsR.set (SegsR.set (SegsR.set hS.out r0 (.inr fun z h => by simp at h)) (u := .int .i64 0) ?_ (.inl rfl)) (u := .bool false) ?_ (.inl rfl)
    · rw [World.cell?_setCell_other _ _ _ _ (by simp)]; exact r1
    · rw [World.cell?_setCell_other _ _ _ _ (by simp), World.cell?_setCell_other _ _ _ _ (by simp)]; exact r2
  · repeat (first | exact hGj.out | refine Grew.setCell ?_ (by simp <;> omega) _)
set_option maxRecDepth 100000 in
set_option maxHeartbeats 16000000 in
theorem obord_any (W H : Int) (A : Option Addr) (c : Nat) (bs : List Bool) (w : World) (hb : BoolsR w (.slice A bs.length c) bs) :
    Calls Tryz.prog 16 #[cellV W H A bs.length c] w fun e w' => ∃ v', e = .returned v' ∧ ∃ l : List Rn, IsWays (hasC W H bs) l ∧ RowK 12 Edge12R w' v' (rowG edgeCmp ((l.map segOf).map edgeZ)) ∧ Grew w w' := by
  go_enter Tryz.func16, Tryz.ntmps16
  go_upto_region 1 with fail
  refine gen_wp ?_
  intro W1 hW1
  have p0 : W1.cell? ⟨w.heap.size, 0, none⟩ = some (.int .i64 W) := by rw [hW1]; simp [go_sem]
  have p1 : W1.cell? ⟨w.heap.size, 1, none⟩ = some (.int .i64 H) := by rw [hW1]; simp [go_sem]
  have p2 : W1.cell? ⟨w.heap.size, 2, none⟩ = some (.slice A bs.length c) := by rw [hW1]; simp [go_sem]
  have G1 : Grew w W1 := by rw [hW1]; exact (Grew.refl _).alloc _
  have hbW := Lib.hid (hb.grew G1)
  replace G1 := Lib.hid G1
  clear hW1 hb
  go_wp2_with fail
  refine (oways_any W H A c bs _ hbW.out).mono ?_
  rintro e wj ⟨v9, rfl, l, hI, hll, hS, g⟩
  obtain ⟨Z, hZ⟩ : ∃ Z, l.map segOf = Z := ⟨_, rfl⟩
  rw [hZ] at hS
  have heb := Lib.hid (eb_segs (segs_in64 hS))
  have hZl : Z.length ≤ 16384 := by rw [← hZ, List.length_map]; omega
  obtain ⟨A2, c2, rfl, h1, h2, h3⟩ := hS
  obtain ⟨M, hM⟩ : ∃ M, Z.length = M := ⟨_, rfl⟩
  rw [hM] at h1 h3 hZl
  rw [hM]
  have hEl := Lib.hid (show (Z.map edgeZ).length = M by rw [List.length_map, hM])
  have hMx : M ≤ 9223372036854775807 := by omega
  have hGj := Lib.hid (G1.out.trans g)
  replace h3 := Lib.hid h3
  replace hZ := Lib.hid hZ
  replace hI := Lib.hid hI
  replace hM := Lib.hid hM
  clear g G1 hbW p0 p1 p2 hll
  go_wp2_with fail
  go_loopg [3, 9] M (fun gk ov ii wr => ∃ j : Nat, gk + j = M ∧ ii = .int .i64 j ∧ OwnK 12 Edge12R 84 wr wj.heap.size ov ((Z.map edgeZ).take j) ∧ Grew wj wr)
  case atStart => exact ⟨0, rfl, rfl, by rw [List.take_zero]; exact OwnK.nil _ _ _ _ _, Grew.refl _⟩
  case round =>
    obtain ⟨j, hj, rfl, hO, hG⟩ := hrel
    by_cases hlt : j < M
    · obtain ⟨b, o, rfl, he⟩ := h3.out (by omega)
      obtain ⟨⟨⟨⟨ax, ay⟩, bx, b_y⟩, hx⟩⟩ : Nonempty { z : SegZ // Z[j]? = some z } := ⟨⟨Z[j]'(by rw [hM.out]; exact hlt), List.getElem?_eq_getElem _⟩⟩
      obtain ⟨⟨s0, s1, s2, s3⟩, ⟨i0, i1, i2, i3⟩, i4, i5, i6, i7⟩ := he j _ hx
      dsimp only at s0 s1 s2 s3 i0 i1 i2 i3 i4 i5 i6 i7
      have htk := Lib.hid (takeG_snoc (show (Z.map edgeZ)[j]? = some (edgeZ ((ax, ay), bx, b_y)) by rw [List.getElem?_map, hx]; rfl))
      have hlen : ((Z.map edgeZ).take j).length = j := by rw [List.length_take, hEl.out]; omega
      have hjl : (j : Int) < (M : Int) := by omega
      clear he hx
      replace s0 := hG.cell s0
      replace s1 := hG.cell s1
      replace s2 := hG.cell s2
      replace s3 := hG.cell s3
      have hO' := Lib.hid hO
      have hG' := Lib.hid hG
      have hne : Hid (u3.ownBlock ≠ some wr.heap.size) := Lib.hid fun e => Nat.lt_irrefl _ (hO.lt e)
      clear hO hG
      go_upto_region 5 with fail
      refine gen_wp ?_
      intro W9 hW9
      have gl : Grew wr W9 := by rw [hW9]; exact (Grew.refl _).alloc _
      have hloc : LocN wj wr.heap.size [.int .i64 ax, .int .i64 ay, .int .i64 bx, .int .i64 b_y] W9 := ⟨hG'.out.trans gl, by
        intro j u hu
        rw [hW9, cell_of_row _ wr.heap.size j _ _ (0, 0) (heap_alloc_new wr _), ← Array.getElem?_toList]; exact hu⟩
      have og := Lib.hid (OwnK.grew says_edge hO'.out gl)
      replace hloc := Lib.hid hloc
      clear hW9 gl hO' hG' s0 s1 s2 s3
      go_wp2_with fail
      refine wp_region_held_drew (S := fun wv => LocN wj wr.heap.size [.int .i64 ax, .int .i64 ay, .int .i64 bx, .int .i64 b_y] wv) (by kernel_rfl) (hloc.out.drew) (fun hHeld => ?_)
      replace hHeld := Lib.hid hHeld
      try simp only [Act.put, List.setIfInBounds_toArray, List.set_cons_zero, List.set_cons_succ]
      refine wpAnyH_takeD (i := 0) (d := 13) (v := ?_) rfl rfl (by kernel_rfl) (by kernel_rfl) (by kernel_rfl) (fun _ _ _ h => h) (Or.inl ⟨by rfl, ?_⟩) hHeld.out ?_
      rotate_left
      · intro wv hSw
        replace hSw : Hid (LocN wj wr.heap.size [.int .i64 ax, .int .i64 ay, .int .i64 bx, .int .i64 b_y] wv) := Lib.hid hSw
        go_simp
        try with_reducible rfl
      try simp only [Act.put, List.setIfInBounds_toArray, List.set_cons_zero, List.set_cons_succ]
      refine wpAnyH_takeD (i := 1) (d := 14) (v := ?_) rfl rfl (by kernel_rfl) (by kernel_rfl) (by kernel_rfl) (fun _ _ _ h => h) (Or.inl ⟨by rfl, ?_⟩) hHeld.out ?_
      rotate_left
      · intro wv hSw
        replace hSw : Hid (LocN wj wr.heap.size [.int .i64 ax, .int .i64 ay, .int .i64 bx, .int .i64 b_y] wv) := Lib.hid hSw
        go_simp
        try with_reducible rfl
      try simp only [Act.put, List.setIfInBounds_toArray, List.set_cons_zero, List.set_cons_succ]
      refine wpAnyH_takeD (i := 2) (d := 15) (v := ?_) rfl rfl (by kernel_rfl) (by kernel_rfl) (by kernel_rfl) (fun _ _ _ h => h) (Or.inl ⟨by rfl, ?_⟩) hHeld.out ?_
      rotate_left
      · intro wv hSw
        replace hSw : Hid (LocN wj wr.heap.size [.int .i64 ax, .int .i64 ay, .int .i64 bx, .int .i64 b_y] wv) := Lib.hid hSw
        have t0 := hSw.out.2 0 _ rfl
        have t1 := hSw.out.2 1 _ rfl
        go_simp
        try with_reducible rfl
      try simp only [Act.put, List.setIfInBounds_toArray, List.set_cons_zero, List.set_cons_succ]
      refine wpAnyH_takeD (i := 4) (d := 17) (v := ?_) rfl rfl (by kernel_rfl) (by kernel_rfl) (by kernel_rfl) (fun _ _ _ h => h) (Or.inl ⟨by rfl, ?_⟩) hHeld.out ?_
      rotate_left
      · intro wv hSw
        replace hSw : Hid (LocN wj wr.heap.size [.int .i64 ax, .int .i64 ay, .int .i64 bx, .int .i64 b_y] wv) := Lib.hid hSw
        go_simp
        try with_reducible rfl
      try simp only [Act.put, List.setIfInBounds_toArray, List.set_cons_zero, List.set_cons_succ]
      refine wpAnyH_takeD (i := 5) (d := 18) (v := ?_) rfl rfl (by kernel_rfl) (by kernel_rfl) (by kernel_rfl) (fun _ _ _ h => h) (Or.inl ⟨by rfl, ?_⟩) hHeld.out ?_
      rotate_left
      · intro wv hSw
        replace hSw : Hid (LocN wj wr.heap.size [.int .i64 ax, .int .i64 ay, .int .i64 bx, .int .i64 b_y] wv) := Lib.hid hSw
        have t2 := hSw.out.2 2 _ rfl
        have t3 := hSw.out.2 3 _ rfl
        go_simp
        try with_reducible rfl
      try simp only [Act.put, List.setIfInBounds_toArray, List.set_cons_zero, List.set_cons_succ]
      refine wpAnyH_ready (rs := [3]) (by kernel_rfl) (by simp) ?_
      refine AllReadyH.cons rfl (fun KK hKK => ?_) AllReadyH.nil
      go_simp
      refine (at_any ax ay _ i0 i1 i2 i3).mono ?_
      rintro e wk1 ⟨V1, rfl, hV1, g⟩
      have gk := hHeld.out.trans g
      obtain ⟨b13, A13, n13, c13, C13, m13, d13, b14, A14, n14, c14, C14, m14, d14, rfl, -, -, X1⟩ := hV1.laid
      clear hV1
      have o1 := Lib.hid (OwnK.grew says_edge og.out (((Grew.refl W9).drew).trans g))
      clear hHeld
      try dsimp only
      refine hKK.out _ _ gk (fun hHeld => ?_)
      clear gk hKK KK
      replace hHeld := Lib.hid (show LocN wj wr.heap.size [.int .i64 ax, .int .i64 ay, .int .i64 bx, .int .i64 b_y] wk1 from hHeld)
      try simp only [Act.put, List.setIfInBounds_toArray, List.set_cons_zero, List.set_cons_succ]
      refine wpAnyH_ready (rs := [6]) (by kernel_rfl) (by simp) ?_
      refine AllReadyH.cons rfl (fun KK hKK => ?_) AllReadyH.nil
      go_simp
      refine (at_any bx b_y _ i4 i5 i6 i7).mono ?_
      rintro e wk2 ⟨V2, rfl, hV2, g⟩
      have gk := hHeld.out.trans g
      obtain ⟨b15, A15, n15, c15, C15, m15, d15, b16, A16, n16, c16, C16, m16, d16, rfl, -, -, X2⟩ := hV2.laid
      clear hV2
      replace X1 := Lib.hid (SpotC.kept X1.out g.keeps)
      replace o1 := Lib.hid (OwnK.grew says_edge o1.out g)
      clear hHeld
      try dsimp only
      refine hKK.out _ _ gk (fun hHeld => ?_)
      clear gk hKK KK
      replace hHeld := Lib.hid (show LocN wj wr.heap.size [.int .i64 ax, .int .i64 ay, .int .i64 bx, .int .i64 b_y] wk2 from hHeld)
      try simp only [Act.put, List.setIfInBounds_toArray, List.set_cons_zero, List.set_cons_succ]
      refine wpAnyH_takeD (i := 7) (d := 20) (v := ?_) rfl rfl (by kernel_rfl) (by kernel_rfl) (by kernel_rfl) (fun _ _ _ h => h) (Or.inl ⟨by rfl, ?_⟩) hHeld.out ?_
      rotate_left
      · intro wv hSw
        replace hSw : Hid (LocN wj wr.heap.size [.int .i64 ax, .int .i64 ay, .int .i64 bx, .int .i64 b_y] wv) := Lib.hid hSw
        go_simp
        try with_reducible rfl
      try simp only [Act.put, List.setIfInBounds_toArray, List.set_cons_zero, List.set_cons_succ]
      refine wpAnyH_ready (rs := [8]) (by kernel_rfl) (by simp) ?_
      refine AllReadyH.cons rfl (fun KK hKK => ?_) AllReadyH.nil
      go_simp
      have gP := hHeld
      clear hHeld
      try dsimp only
      refine hKK.out _ _ (gP.out.alloc _) (fun hHeld => ?_)
      clear hKK KK
      replace hHeld := Lib.hid hHeld
      try simp only [Act.put, List.setIfInBounds_toArray, List.set_cons_zero, List.set_cons_succ]
      refine wpAnyH_ready (rs := [9]) (by kernel_rfl) (by simp) ?_
      refine AllReadyH.cons rfl (fun KK hKK => ?_) AllReadyH.nil
      refine wp_appK (m := [edgeZ ((ax, ay), bx, b_y)]) (.tmp 13) (.tmp 21) 36 rfl rfl says_edge o1.out _ (cells_one says_edge (edge_mk (e := edgeZ ((ax, ay), bx, b_y)) X1.out X2.out)) rfl _ 224 Tryz.underlying36 info_edge rfl (by omega) znoE (by simp only [List.length_cons, List.length_nil]; omega) (by omega) gP.out.1.size ?_
      intro vk3 wk3 hO9 hK9 hC9 hB9 hG9
      have gk : LocN wj wr.heap.size [.int .i64 ax, .int .i64 ay, .int .i64 bx, .int .i64 b_y] wk3 := ⟨hG9 wj (Nat.le_refl _) gP.out.1, fun j u hu => hC9 _ _ _ hne.out (gP.out.2 j u hu)⟩
      clear hK9 hC9 hB9 hG9 o1 X1 X2 gP
      clear hHeld
      try dsimp only
      refine hKK.out _ _ gk (fun hHeld => ?_)
      clear gk hKK KK
      replace hHeld := Lib.hid (show LocN wj wr.heap.size [.int .i64 ax, .int .i64 ay, .int .i64 bx, .int .i64 b_y] wk3 from hHeld)
      try simp only [Act.put, List.setIfInBounds_toArray]
      refine wpAnyH_takeD (i := 10) (d := 3) (v := ?_) rfl rfl (by kernel_rfl) (by kernel_rfl) (by kernel_rfl) (fun _ _ _ h => h) (Or.inl ⟨by rfl, ?_⟩) hHeld.out ?_
      rotate_left
      · intro wv hSw
        replace hSw : Hid (LocN wj wr.heap.size [.int .i64 ax, .int .i64 ay, .int .i64 bx, .int .i64 b_y] wv) := Lib.hid hSw
        go_simp
        try with_reducible rfl
      try simp only [Act.put]
      refine wpAnyH_done (by kernel_rfl) ?_ _
      rw [← htk.out] at hO9
      replace hO9 := Lib.hid hO9
      go_wp2_with fail
      go_roundg (gk - 1)
      case rel => exact ⟨j + 1, by omega, by go_num, hO9.out, hHeld.out.1⟩
      case measure => omega
    · obtain rfl : j = M := by omega
      have hall : (Z.map edgeZ).take j = Z.map edgeZ := by rw [← hEl.out]; exact List.take_length
      rw [hall] at hO
      have hrow := Lib.hid (RowK.mapR (R' := EdgeR 2) (OwnK.row hO) (fun us x hx h => edge_r h (heb.out x hx)))
      have hG' := Lib.hid (hGj.out.trans hG)
      clear hO hG hall
      go_wp2_with fail
      refine (xrow_any _ _ 2 _ hrow.out heb.out (by omega) (by omega) (by rw [hEl.out]; omega)).mono ?_
      rintro e w2 ⟨V2, rfl, hR2, g⟩
      have hz := Lib.hid (hG'.out.trans g)
      replace hR2 := Lib.hid hR2
      clear g hG' hrow
      go_wp2_with fail
      go_ret
      exact ⟨_, rfl, l, hI.out, by rw [hZ.out]; exact hR2.out, hz.out⟩
set_option maxRecDepth 100000 in
set_option maxHeartbeats 16000000 in
theorem rbord_any (W H : Int) (A : Option Addr) (c : Nat) (bs : List Bool) (w : World) (hb : BoolsR w (.slice A bs.length c) bs) :
    Calls Tryz.prog 17 #[cellV W H A bs.length c] w fun e w' => ∃ v', e = .returned v' ∧ ∃ l : List Rn, IsWays (hasC W H bs) l ∧ RowK 12 Edge12R w' v' (rowG edgeCmp ((l.map segOf).map edgeZ)) ∧ Grew w w' := by
  go_enter Tryz.func17, Tryz.ntmps17
  go_upto_region 1 with fail
  refine gen_wp ?_
  intro W1 hW1
  have p0 : W1.cell? ⟨w.heap.size, 0, none⟩ = some (.int .i64 W) := by rw [hW1]; simp [go_sem]
  have p1 : W1.cell? ⟨w.heap.size, 1, none⟩ = some (.int .i64 H) := by rw [hW1]; simp [go_sem]
  have p2 : W1.cell? ⟨w.heap.size, 2, none⟩ = some (.slice A bs.length c) := by rw [hW1]; simp [go_sem]
  have G1 : Grew w W1 := by rw [hW1]; exact (Grew.refl _).alloc _
  have hbW := Lib.hid (hb.grew G1)
  replace G1 := Lib.hid G1
  clear hW1 hb
  go_wp2_with fail
  refine (rways_any W H A c bs _ hbW.out).mono ?_
  rintro e wj ⟨v9, rfl, l, hI, hll, hS, g⟩
  obtain ⟨Z, hZ⟩ : ∃ Z, l.map segOf = Z := ⟨_, rfl⟩
  rw [hZ] at hS
  have heb := Lib.hid (eb_segs (segs_in64 hS))
  have hZl : Z.length ≤ 16384 := by rw [← hZ, List.length_map]; omega
  obtain ⟨A2, c2, rfl, h1, h2, h3⟩ := hS
  obtain ⟨M, hM⟩ : ∃ M, Z.length = M := ⟨_, rfl⟩
  rw [hM] at h1 h3 hZl
  rw [hM]
  have hEl := Lib.hid (show (Z.map edgeZ).length = M by rw [List.length_map, hM])
  have hMx : M ≤ 9223372036854775807 := by omega
  have hGj := Lib.hid (G1.out.trans g)
  replace h3 := Lib.hid h3
  replace hZ := Lib.hid hZ
  replace hI := Lib.hid hI
  replace hM := Lib.hid hM
  clear g G1 hbW p0 p1 p2 hll
  go_wp2_with fail
  go_loopg [3, 5] M (fun gk ov ii wr => ∃ j : Nat, gk + j = M ∧ ii = .int .i64 j ∧ OwnK 12 Edge12R 84 wr wj.heap.size ov ((Z.map edgeZ).take j) ∧ Grew wj wr)
  case atStart => exact ⟨0, rfl, rfl, by rw [List.take_zero]; exact OwnK.nil _ _ _ _ _, Grew.refl _⟩
  case round =>
    obtain ⟨j, hj, rfl, hO, hG⟩ := hrel
    by_cases hlt : j < M
    · obtain ⟨b, o, rfl, he⟩ := h3.out (by omega)
      obtain ⟨⟨⟨⟨ax, ay⟩, bx, b_y⟩, hx⟩⟩ : Nonempty { z : SegZ // Z[j]? = some z } := ⟨⟨Z[j]'(by rw [hM.out]; exact hlt), List.getElem?_eq_getElem _⟩⟩
      obtain ⟨⟨s0, s1, s2, s3⟩, ⟨i0, i1, i2, i3⟩, i4, i5, i6, i7⟩ := he j _ hx
      dsimp only at s0 s1 s2 s3 i0 i1 i2 i3 i4 i5 i6 i7
      have htk := Lib.hid (takeG_snoc (show (Z.map edgeZ)[j]? = some (edgeZ ((ax, ay), bx, b_y)) by rw [List.getElem?_map, hx]; rfl))
      have hlen : ((Z.map edgeZ).take j).length = j := by rw [List.length_take, hEl.out]; omega
      have hjl : (j : Int) < (M : Int) := by omega
      clear he hx
      replace s0 := Lib.hid s0
      replace s1 := Lib.hid s1
      replace s2 := Lib.hid s2
      replace s3 := Lib.hid s3
      have hO' := Lib.hid hO
      have hG' := Lib.hid hG
      clear hO hG
      go_wp2_with fail
      refine wp_region_held_drew (S := fun wv => Grew wj wv) (by kernel_rfl) (hG'.out.drew) (fun hHeld => ?_)
      replace hHeld := Lib.hid hHeld
      try simp only [Act.put, List.setIfInBounds_toArray, List.set_cons_zero, List.set_cons_succ]
      refine wpAnyH_takeD (i := 0) (d := 14) (v := ?_) rfl rfl (by kernel_rfl) (by kernel_rfl) (by kernel_rfl) (fun _ _ _ h => h) (Or.inl ⟨by rfl, ?_⟩) hHeld.out ?_
      rotate_left
      · intro wv hSw
        replace hSw : Hid (Grew wj wv) := Lib.hid hSw
        go_simp
        try with_reducible rfl
      try simp only [Act.put, List.setIfInBounds_toArray, List.set_cons_zero, List.set_cons_succ]
      refine wpAnyH_takeD (i := 1) (d := 15) (v := ?_) rfl rfl (by kernel_rfl) (by kernel_rfl) (by kernel_rfl) (fun _ _ _ h => h) (Or.inl ⟨by rfl, ?_⟩) hHeld.out ?_
      rotate_left
      · intro wv hSw
        replace hSw : Hid (Grew wj wv) := Lib.hid hSw
        go_simp
        try with_reducible rfl
      try simp only [Act.put, List.setIfInBounds_toArray, List.set_cons_zero, List.set_cons_succ]
      refine wpAnyH_takeD (i := 2) (d := 16) (v := ?_) rfl rfl (by kernel_rfl) (by kernel_rfl) (by kernel_rfl) (fun _ _ _ h => h) (Or.inl ⟨by rfl, ?_⟩) hHeld.out ?_
      rotate_left
      · intro wv hSw
        replace hSw : Hid (Grew wj wv) := Lib.hid hSw
        go_simp
        try with_reducible rfl
      try simp only [Act.put, List.setIfInBounds_toArray, List.set_cons_zero, List.set_cons_succ]
      refine wpAnyH_takeD (i := 3) (d := 17) (v := ?_) rfl rfl (by kernel_rfl) (by kernel_rfl) (by kernel_rfl) (fun _ _ _ h => h) (Or.inl ⟨by rfl, ?_⟩) hHeld.out ?_
      rotate_left
      · intro wv hSw
        replace hSw : Hid (Grew wj wv) := Lib.hid hSw
        go_simp
        try with_reducible rfl
      try simp only [Act.put, List.setIfInBounds_toArray, List.set_cons_zero, List.set_cons_succ]
      refine wpAnyH_takeD (i := 4) (d := 18) (v := ?_) rfl rfl (by kernel_rfl) (by kernel_rfl) (by kernel_rfl) (fun _ _ _ h => h) (Or.inl ⟨by rfl, ?_⟩) hHeld.out ?_
      rotate_left
      · intro wv hSw
        replace hSw : Hid (Grew wj wv) := Lib.hid hSw
        go_simp
        try with_reducible rfl
      try simp only [Act.put, List.setIfInBounds_toArray, List.set_cons_zero, List.set_cons_succ]
      refine wpAnyH_takeD (i := 5) (d := 19) (v := ?_) rfl rfl (by kernel_rfl) (by kernel_rfl) (by kernel_rfl) (fun _ _ _ h => h) (Or.inl ⟨by rfl, ?_⟩) hHeld.out ?_
      rotate_left
      · intro wv hSw
        replace hSw : Hid (Grew wj wv) := Lib.hid hSw
        have t0 := hSw.out.cell s0.out
        have t1 := hSw.out.cell s1.out
        go_simp
        try with_reducible rfl
      try simp only [Act.put, List.setIfInBounds_toArray, List.set_cons_zero, List.set_cons_succ]
      refine wpAnyH_takeD (i := 7) (d := 21) (v := ?_) rfl rfl (by kernel_rfl) (by kernel_rfl) (by kernel_rfl) (fun _ _ _ h => h) (Or.inl ⟨by rfl, ?_⟩) hHeld.out ?_
      rotate_left
      · intro wv hSw
        replace hSw : Hid (Grew wj wv) := Lib.hid hSw
        go_simp
        try with_reducible rfl
      try simp only [Act.put, List.setIfInBounds_toArray, List.set_cons_zero, List.set_cons_succ]
      refine wpAnyH_takeD (i := 8) (d := 22) (v := ?_) rfl rfl (by kernel_rfl) (by kernel_rfl) (by kernel_rfl) (fun _ _ _ h => h) (Or.inl ⟨by rfl, ?_⟩) hHeld.out ?_
      rotate_left
      · intro wv hSw
        replace hSw : Hid (Grew wj wv) := Lib.hid hSw
        go_simp
        try with_reducible rfl
      try simp only [Act.put, List.setIfInBounds_toArray, List.set_cons_zero, List.set_cons_succ]
      refine wpAnyH_takeD (i := 9) (d := 23) (v := ?_) rfl rfl (by kernel_rfl) (by kernel_rfl) (by kernel_rfl) (fun _ _ _ h => h) (Or.inl ⟨by rfl, ?_⟩) hHeld.out ?_
      rotate_left
      · intro wv hSw
        replace hSw : Hid (Grew wj wv) := Lib.hid hSw
        go_simp
        try with_reducible rfl
      try simp only [Act.put, List.setIfInBounds_toArray, List.set_cons_zero, List.set_cons_succ]
      refine wpAnyH_takeD (i := 10) (d := 24) (v := ?_) rfl rfl (by kernel_rfl) (by kernel_rfl) (by kernel_rfl) (fun _ _ _ h => h) (Or.inl ⟨by rfl, ?_⟩) hHeld.out ?_
      rotate_left
      · intro wv hSw
        replace hSw : Hid (Grew wj wv) := Lib.hid hSw
        go_simp
        try with_reducible rfl
      try simp only [Act.put, List.setIfInBounds_toArray, List.set_cons_zero, List.set_cons_succ]
      refine wpAnyH_takeD (i := 11) (d := 25) (v := ?_) rfl rfl (by kernel_rfl) (by kernel_rfl) (by kernel_rfl) (fun _ _ _ h => h) (Or.inl ⟨by rfl, ?_⟩) hHeld.out ?_
      rotate_left
      · intro wv hSw
        replace hSw : Hid (Grew wj wv) := Lib.hid hSw
        have t0 := hSw.out.cell s2.out
        have t1 := hSw.out.cell s3.out
        go_simp
        try with_reducible rfl
      try simp only [Act.put, List.setIfInBounds_toArray, List.set_cons_zero, List.set_cons_succ]
      refine wpAnyH_ready (rs := [6]) (by kernel_rfl) (by simp) ?_
      refine AllReadyH.cons rfl (fun KK hKK => ?_) AllReadyH.nil
      go_simp
      refine (rat5_any ax ay _ i0 i1 i2 i3).mono ?_
      rintro e wk1 ⟨V1, rfl, hV1, g⟩
      have gk := hHeld.out.trans g
      obtain ⟨b13, A13, n13, c13, C13, m13, d13, b14, A14, n14, c14, C14, m14, d14, rfl, -, -, X1⟩ := hV1.laid
      clear hV1
      have o1 := Lib.hid (OwnK.grew says_edge hO'.out (((Grew.refl wr).drew).trans g))
      clear hHeld
      try dsimp only
      refine hKK.out _ _ gk (fun hHeld => ?_)
      clear gk hKK KK
      replace hHeld := Lib.hid (show Grew wj wk1 from hHeld)
      try simp only [Act.put, List.setIfInBounds_toArray, List.set_cons_zero, List.set_cons_succ]
      refine wpAnyH_ready (rs := [12]) (by kernel_rfl) (by simp) ?_
      refine AllReadyH.cons rfl (fun KK hKK => ?_) AllReadyH.nil
      go_simp
      refine (rat5_any bx b_y _ i4 i5 i6 i7).mono ?_
      rintro e wk2 ⟨V2, rfl, hV2, g⟩
      have gk := hHeld.out.trans g
      obtain ⟨b15, A15, n15, c15, C15, m15, d15, b16, A16, n16, c16, C16, m16, d16, rfl, -, -, X2⟩ := hV2.laid
      clear hV2
      replace X1 := Lib.hid (SpotC.kept X1.out g.keeps)
      replace o1 := Lib.hid (OwnK.grew says_edge o1.out g)
      clear hHeld
      try dsimp only
      refine hKK.out _ _ gk (fun hHeld => ?_)
      clear gk hKK KK
      replace hHeld := Lib.hid (show Grew wj wk2 from hHeld)
      try simp only [Act.put, List.setIfInBounds_toArray, List.set_cons_zero, List.set_cons_succ]
      refine wpAnyH_takeD (i := 13) (d := 27) (v := ?_) rfl rfl (by kernel_rfl) (by kernel_rfl) (by kernel_rfl) (fun _ _ _ h => h) (Or.inl ⟨by rfl, ?_⟩) hHeld.out ?_
      rotate_left
      · intro wv hSw
        replace hSw : Hid (Grew wj wv) := Lib.hid hSw
        go_simp
        try with_reducible rfl
      try simp only [Act.put, List.setIfInBounds_toArray, List.set_cons_zero, List.set_cons_succ]
      refine wpAnyH_ready (rs := [14]) (by kernel_rfl) (by simp) ?_
      refine AllReadyH.cons rfl (fun KK hKK => ?_) AllReadyH.nil
      go_simp
      have gP := hHeld
      clear hHeld
      try dsimp only
      refine hKK.out _ _ (gP.out.alloc _) (fun hHeld => ?_)
      clear hKK KK
      replace hHeld := Lib.hid hHeld
      try simp only [Act.put, List.setIfInBounds_toArray, List.set_cons_zero, List.set_cons_succ]
      refine wpAnyH_ready (rs := [15]) (by kernel_rfl) (by simp) ?_
      refine AllReadyH.cons rfl (fun KK hKK => ?_) AllReadyH.nil
      refine wp_appK (m := [edgeZ ((ax, ay), bx, b_y)]) (.tmp 14) (.tmp 28) 36 rfl rfl says_edge o1.out _ (cells_one says_edge (edge_mk (e := edgeZ ((ax, ay), bx, b_y)) X1.out X2.out)) rfl _ 224 Tryz.underlying36 info_edge rfl (by omega) znoE (by simp only [List.length_cons, List.length_nil]; omega) (by omega) gP.out.size ?_
      intro vk3 wk3 hO9 hK9 hC9 hB9 hG9
      have gk := hG9 wj (Nat.le_refl _) gP.out
      clear hK9 hC9 hB9 hG9 o1 X1 X2 gP
      clear hHeld
      try dsimp only
      refine hKK.out _ _ gk (fun hHeld => ?_)
      clear gk hKK KK
      replace hHeld := Lib.hid (show Grew wj wk3 from hHeld)
      try simp only [Act.put, List.setIfInBounds_toArray]
      refine wpAnyH_takeD (i := 16) (d := 3) (v := ?_) rfl rfl (by kernel_rfl) (by kernel_rfl) (by kernel_rfl) (fun _ _ _ h => h) (Or.inl ⟨by rfl, ?_⟩) hHeld.out ?_
      rotate_left
      · intro wv hSw
        replace hSw : Hid (Grew wj wv) := Lib.hid hSw
        go_simp
        try with_reducible rfl
      try simp only [Act.put]
      refine wpAnyH_done (by kernel_rfl) ?_ _
      rw [← htk.out] at hO9
      replace hO9 := Lib.hid hO9
      go_wp2_with fail
      go_roundg (gk - 1)
      case rel => exact ⟨j + 1, by omega, by go_num, hO9.out, hHeld.out⟩
      case measure => omega
    · obtain rfl : j = M := by omega
      have hall : (Z.map edgeZ).take j = Z.map edgeZ := by rw [← hEl.out]; exact List.take_length
      rw [hall] at hO
      have hrow := Lib.hid (RowK.mapR (R' := EdgeR 2) (OwnK.row hO) (fun us x hx h => edge_r h (heb.out x hx)))
      have hG' := Lib.hid (hGj.out.trans hG)
      clear hO hG hall
      go_wp2_with fail
      refine (rxrow_any _ _ 2 _ hrow.out heb.out (by omega) (by omega) (by rw [hEl.out]; omega)).mono ?_
      rintro e w2 ⟨V2, rfl, hR2, g⟩
      have hz := Lib.hid (hG'.out.trans g)
      replace hR2 := Lib.hid hR2
      clear g hG' hrow
      go_wp2_with fail
      go_ret
      exact ⟨_, rfl, l, hI.out, by rw [hZ.out]; exact hR2.out, hz.out⟩
end Go.Proofs.YtngbcbncllfblaaGreat
