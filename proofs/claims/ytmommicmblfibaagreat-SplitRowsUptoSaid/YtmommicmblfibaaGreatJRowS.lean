/- r18.Row, r18.Ends, r18.Same. Condition: what comes in reads; fewer than 2^26 words, at most 2^39 edges. law17.lives: two ways meet in the middle. Condition: none. law18.lives: two ways that cross come to four pieces. Condition: none. r17.Same at one row. Condition: what comes in reads. -/
import Derived.Test.YtmommicmblfibaaGreatJRow4
import Derived.Test.YtmommicmblfibaaGreatJR4c
import Derived.Test.YtmommicmblfibaaGreatJMeetP3
import Derived.Test.YtmommicmblfibaaGreatJRoundsP
import Derived.Test.YtmommicmblfibaaGreatJSort1
import Derived.Test.YtmommicmblfibaaGreatJRowP
import Derived.Deep.LoopGhost
import Derived.Deep.RegionHeld3
namespace Go.Proofs.YtmommicmblfibaaGreat
open Go.RowKit

theorem row_spotR {k : Nat} {w : World} {v : Value} {l : List (Rat × Rat)} (h : RowK 6 (fun w us (p : Rat × Rat) => SpotR w (.agg us) p.1 p.2 k) w v l) : RowR k w v l := by
  obtain ⟨A, c, hv, h1, h2, h3⟩ := h
  refine ⟨A, c, hv, h1, h2, fun hl => ?_⟩
  obtain ⟨b, o, hA, he⟩ := h3 hl
  refine ⟨b, o, hA, fun i p hp => ?_⟩
  obtain ⟨us, k1, k2⟩ := he i p hp
  have k3 := k2
  obtain ⟨b, A, n, c, C, m, d, b', A', n', c', C', m', d', e, -, -⟩ := k3
  injection e with e; subst e
  exact ⟨b, A, n, c, C, m, d, b', A', n', c', C', m', d', ⟨k1 0 (by omega), k1 1 (by omega), k1 2 (by omega), k1 3 (by omega), k1 4 (by omega), k1 5 (by omega)⟩, k2⟩

set_option maxRecDepth 100000 in
set_option maxHeartbeats 16000000 in
theorem rxrow_any (v : Value) (l : List EdgeQ) (k : Nat) (w : World) (hr : RowK 12 (EdgeR k) w v l) (hq : ∀ x ∈ l, EB k x) (hk : 1 ≤ k) (hs : k < 67108864) (hl : l.length ≤ 549755813888) :
    Calls Tryz.prog 15 #[v] w fun e w' => ∃ v', e = .returned v' ∧ RowK 12 Edge12R w' v' (rowG edgeCmp l) ∧ Grew w w' := by
  obtain ⟨A, c, rfl, h1, h2, h3⟩ := hr
  obtain ⟨L, hL⟩ : ∃ L, l.length = L := ⟨_, rfl⟩
  rw [hL] at h1 hl h3
  rw [hL]
  have hm : L ≤ 9223372036854775807 := by omega
  replace h3 := Lib.hid h3
  replace hq := Lib.hid hq
  go_enter Tryz.func15, Tryz.ntmps15
  go_wp2_with fail
  go_loopg [3, 4] L (fun gk ov i wr => ∃ j : Nat, gk + j = L ∧ i = .int .i64 j ∧ RowK 12 Edge12R wr ov (rowG edgeCmp (l.take j)) ∧ Grew w wr)
  case atStart => exact ⟨0, rfl, rfl, RowK.nil _ _ _, Grew.refl _⟩
  case round =>
    obtain ⟨j, hj, rfl, hO, hG⟩ := hrel
    by_cases hlt : j < L
    · skip
      obtain ⟨b, o, rfl, he⟩ := h3.out (by omega)
      obtain ⟨x, hx⟩ : ∃ x, l[j]? = some x := ⟨l[j]'(by omega), List.getElem?_eq_getElem _⟩
      obtain ⟨b1, A1, n1, c1, C1, m1, d1, b2, A2, n2, c2, C2, m2, d2, b3, A3, n3, c3, C3, m3, d3, b4, A4, n4, c4, C4, m4, d4, ⟨e0, e1, e2, e3, e4, e5, e6, e7, e8, e9, e10, e11⟩, S1⟩ := cellsE (he j x hx)
      obtain ⟨b21, A21, n21, c21, C21, m21, d21, b22, A22, n22, c22, C22, m22, d22, b23, A23, n23, c23, C23, m23, d23, b24, A24, n24, c24, C24, m24, d24, e9, Fa, Fb⟩ := EdgeR.laid S1.out
      injection e9 with e9
      simp only [List.cons.injEq, Value.bool.injEq, Value.slice.injEq, and_true] at e9
      obtain ⟨rfl, ⟨rfl, rfl, rfl⟩, ⟨rfl, rfl, rfl⟩, rfl, ⟨rfl, rfl, rfl⟩, ⟨rfl, rfl, rfl⟩, rfl, ⟨rfl, rfl, rfl⟩, ⟨rfl, rfl, rfl⟩, rfl, ⟨rfl, rfl, rfl⟩, rfl, rfl, rfl⟩ := e9
      replace e0 : Hid (w.cell? ⟨b, o + j * 12, none⟩ = some (.bool b1)) := Lib.hid e0
      replace e1 : Hid (w.cell? ⟨b, o + j * 12 + 1, none⟩ = some (.slice A1 n1 c1)) := Lib.hid e1
      replace e2 : Hid (w.cell? ⟨b, o + j * 12 + 2, none⟩ = some (.slice C1 m1 d1)) := Lib.hid e2
      replace e3 : Hid (w.cell? ⟨b, o + j * 12 + 3, none⟩ = some (.bool b2)) := Lib.hid e3
      replace e4 : Hid (w.cell? ⟨b, o + j * 12 + 4, none⟩ = some (.slice A2 n2 c2)) := Lib.hid e4
      replace e5 : Hid (w.cell? ⟨b, o + j * 12 + 5, none⟩ = some (.slice C2 m2 d2)) := Lib.hid e5
      replace e6 : Hid (w.cell? ⟨b, o + j * 12 + 6, none⟩ = some (.bool b3)) := Lib.hid e6
      replace e7 : Hid (w.cell? ⟨b, o + j * 12 + 7, none⟩ = some (.slice A3 n3 c3)) := Lib.hid e7
      replace e8 : Hid (w.cell? ⟨b, o + j * 12 + 8, none⟩ = some (.slice C3 m3 d3)) := Lib.hid e8
      replace e9 : Hid (w.cell? ⟨b, o + j * 12 + 9, none⟩ = some (.bool b4)) := Lib.hid e9
      replace e10 : Hid (w.cell? ⟨b, o + j * 12 + 10, none⟩ = some (.slice A4 n4 c4)) := Lib.hid e10
      replace e11 : Hid (w.cell? ⟨b, o + j * 12 + 11, none⟩ = some (.slice C4 m4 d4)) := Lib.hid e11
      have hsu := Lib.hid (rowG_succ (cf := edgeCmp) l j x hx)
      have hlen := rowG_len (cf := edgeCmp) (l.take j)
      have htl : (l.take j).length = j := by rw [List.length_take]; omega
      have hqj := Lib.hid (fun y (hy : y ∈ rowG edgeCmp (l.take j)) => hq.out y (List.mem_of_mem_take ((mem_rowG ord_edge).1 hy)))
      have hqx := Lib.hid (hq.out x (List.mem_of_getElem? hx))
      have hO' := Lib.hid hO
      have hG' := Lib.hid hG
      have hjl : (j : Int) < (L : Int) := by omega
      clear he hO hG hx S1
      go_wp2_with fail
      refine wp_region_held_drew (S := fun wv => Grew w wv) (by kernel_rfl) (hG'.out.drew) (fun hHeld => ?_)
      replace hHeld := Lib.hid hHeld
      try simp only [Act.put, List.setIfInBounds_toArray, List.set_cons_zero, List.set_cons_succ]
      refine wpAnyH_takeD (i := 0) (d := 11) (v := ?_) rfl rfl (by kernel_rfl) (by kernel_rfl) (by kernel_rfl) (fun _ _ _ h => h) (Or.inl ⟨by rfl, ?_⟩) hHeld.out ?_
      rotate_left
      · intro wv hSw
        replace hSw : Hid (Grew w wv) := Lib.hid hSw
        go_simp
        try with_reducible rfl
      try simp only [Act.put, List.setIfInBounds_toArray, List.set_cons_zero, List.set_cons_succ]
      refine wpAnyH_takeD (i := 1) (d := 12) (v := ?_) rfl rfl (by kernel_rfl) (by kernel_rfl) (by kernel_rfl) (fun _ _ _ h => h) (Or.inl ⟨by rfl, ?_⟩) hHeld.out ?_
      rotate_left
      · intro wv hSw
        replace hSw : Hid (Grew w wv) := Lib.hid hSw
        go_simp
        try with_reducible rfl
      try simp only [Act.put, List.setIfInBounds_toArray, List.set_cons_zero, List.set_cons_succ]
      refine wpAnyH_takeD (i := 2) (d := 13) (v := ?_) rfl rfl (by kernel_rfl) (by kernel_rfl) (by kernel_rfl) (fun _ _ _ h => h) (Or.inl ⟨by rfl, ?_⟩) hHeld.out ?_
      rotate_left
      · intro wv hSw
        replace hSw : Hid (Grew w wv) := Lib.hid hSw
        go_simp
        try with_reducible rfl
      try simp only [Act.put, List.setIfInBounds_toArray, List.set_cons_zero, List.set_cons_succ]
      refine wpAnyH_takeD (i := 3) (d := 14) (v := ?_) rfl rfl (by kernel_rfl) (by kernel_rfl) (by kernel_rfl) (fun _ _ _ h => h) (Or.inl ⟨by rfl, ?_⟩) hHeld.out ?_
      rotate_left
      · intro wv hSw
        replace hSw : Hid (Grew w wv) := Lib.hid hSw
        go_simp
        try with_reducible rfl
      try simp only [Act.put, List.setIfInBounds_toArray, List.set_cons_zero, List.set_cons_succ]
      refine wpAnyH_takeD (i := 4) (d := 15) (v := ?_) rfl rfl (by kernel_rfl) (by kernel_rfl) (by kernel_rfl) (fun _ _ _ h => h) (Or.inl ⟨by rfl, ?_⟩) hHeld.out ?_
      rotate_left
      · intro wv hSw
        replace hSw : Hid (Grew w wv) := Lib.hid hSw
        go_simp
        try with_reducible rfl
      try simp only [Act.put, List.setIfInBounds_toArray, List.set_cons_zero, List.set_cons_succ]
      refine wpAnyH_takeD (i := 5) (d := 16) (v := ?_) rfl rfl (by kernel_rfl) (by kernel_rfl) (by kernel_rfl) (fun _ _ _ h => h) (Or.inl ⟨by rfl, ?_⟩) hHeld.out ?_
      rotate_left
      · intro wv hSw
        replace hSw : Hid (Grew w wv) := Lib.hid hSw
        have t0 := hSw.out.cell e0.out
        have t1 := hSw.out.cell e1.out
        have t2 := hSw.out.cell e2.out
        have t3 := hSw.out.cell e3.out
        have t4 := hSw.out.cell e4.out
        have t5 := hSw.out.cell e5.out
        go_simp
        try with_reducible rfl
      try simp only [Act.put, List.setIfInBounds_toArray, List.set_cons_zero, List.set_cons_succ]
      refine wpAnyH_takeD (i := 7) (d := 18) (v := ?_) rfl rfl (by kernel_rfl) (by kernel_rfl) (by kernel_rfl) (fun _ _ _ h => h) (Or.inl ⟨by rfl, ?_⟩) hHeld.out ?_
      rotate_left
      · intro wv hSw
        replace hSw : Hid (Grew w wv) := Lib.hid hSw
        go_simp
        try with_reducible rfl
      try simp only [Act.put, List.setIfInBounds_toArray, List.set_cons_zero, List.set_cons_succ]
      refine wpAnyH_takeD (i := 8) (d := 19) (v := ?_) rfl rfl (by kernel_rfl) (by kernel_rfl) (by kernel_rfl) (fun _ _ _ h => h) (Or.inl ⟨by rfl, ?_⟩) hHeld.out ?_
      rotate_left
      · intro wv hSw
        replace hSw : Hid (Grew w wv) := Lib.hid hSw
        go_simp
        try with_reducible rfl
      try simp only [Act.put, List.setIfInBounds_toArray, List.set_cons_zero, List.set_cons_succ]
      refine wpAnyH_takeD (i := 9) (d := 20) (v := ?_) rfl rfl (by kernel_rfl) (by kernel_rfl) (by kernel_rfl) (fun _ _ _ h => h) (Or.inl ⟨by rfl, ?_⟩) hHeld.out ?_
      rotate_left
      · intro wv hSw
        replace hSw : Hid (Grew w wv) := Lib.hid hSw
        go_simp
        try with_reducible rfl
      try simp only [Act.put, List.setIfInBounds_toArray, List.set_cons_zero, List.set_cons_succ]
      refine wpAnyH_takeD (i := 10) (d := 21) (v := ?_) rfl rfl (by kernel_rfl) (by kernel_rfl) (by kernel_rfl) (fun _ _ _ h => h) (Or.inl ⟨by rfl, ?_⟩) hHeld.out ?_
      rotate_left
      · intro wv hSw
        replace hSw : Hid (Grew w wv) := Lib.hid hSw
        go_simp
        try with_reducible rfl
      try simp only [Act.put, List.setIfInBounds_toArray, List.set_cons_zero, List.set_cons_succ]
      refine wpAnyH_takeD (i := 11) (d := 22) (v := ?_) rfl rfl (by kernel_rfl) (by kernel_rfl) (by kernel_rfl) (fun _ _ _ h => h) (Or.inl ⟨by rfl, ?_⟩) hHeld.out ?_
      rotate_left
      · intro wv hSw
        replace hSw : Hid (Grew w wv) := Lib.hid hSw
        have t6 := hSw.out.cell e6.out
        have t7 := hSw.out.cell e7.out
        have t8 := hSw.out.cell e8.out
        have t9 := hSw.out.cell e9.out
        have t10 := hSw.out.cell e10.out
        have t11 := hSw.out.cell e11.out
        go_simp
        try with_reducible rfl
      try simp only [Act.put, List.setIfInBounds_toArray, List.set_cons_zero, List.set_cons_succ]
      refine wpAnyH_ready (rs := [6]) (by kernel_rfl) (by simp) ?_
      refine AllReadyH.cons rfl (fun KK hKK => ?_) AllReadyH.nil
      go_simp
      refine (rxclean_any _ x.1.1 x.1.2 k _ (SpotR.kept Fa.out hHeld.out.keeps) hs).mono ?_
      rintro e wk1 ⟨V1, rfl, hV1, g⟩
      have gk := hHeld.out.trans g
      obtain ⟨b13, A13, n13, c13, C13, m13, d13, b14, A14, n14, c14, C14, m14, d14, rfl, -, -, X1⟩ := hV1.laid
      clear hV1
      have o1 := Lib.hid (RowK.grew says_edge hO'.out (((Grew.refl wr).drew).trans g))
      clear hHeld
      try dsimp only
      refine hKK.out _ _ gk (fun hHeld => ?_)
      clear gk hKK KK
      replace hHeld := Lib.hid (show Grew w wk1 from hHeld)
      try simp only [Act.put, List.setIfInBounds_toArray, List.set_cons_zero, List.set_cons_succ]
      refine wpAnyH_ready (rs := [12]) (by kernel_rfl) (by simp) ?_
      refine AllReadyH.cons rfl (fun KK hKK => ?_) AllReadyH.nil
      go_simp
      refine (rxclean_any _ x.2.1 x.2.2 k _ (SpotR.kept Fb.out hHeld.out.keeps) hs).mono ?_
      rintro e wk2 ⟨V2, rfl, hV2, g⟩
      have gk := hHeld.out.trans g
      obtain ⟨b15, A15, n15, c15, C15, m15, d15, b16, A16, n16, c16, C16, m16, d16, rfl, -, -, X2⟩ := hV2.laid
      clear hV2
      replace X1 := Lib.hid (SpotC.kept X1.out g.keeps)
      replace o1 := Lib.hid (RowK.grew says_edge o1.out g)
      clear hHeld
      try dsimp only
      refine hKK.out _ _ gk (fun hHeld => ?_)
      clear gk hKK KK
      replace hHeld := Lib.hid (show Grew w wk2 from hHeld)
      try simp only [Act.put, List.setIfInBounds_toArray, List.set_cons_zero, List.set_cons_succ]
      refine wpAnyH_takeD (i := 13) (d := 24) (v := ?_) rfl rfl (by kernel_rfl) (by kernel_rfl) (by kernel_rfl) (fun _ _ _ h => h) (Or.inl ⟨by rfl, ?_⟩) hHeld.out ?_
      rotate_left
      · intro wv hSw
        replace hSw : Hid (Grew w wv) := Lib.hid hSw
        go_simp
        try with_reducible rfl
      try simp only [Act.put, List.setIfInBounds_toArray, List.set_cons_zero, List.set_cons_succ]
      refine wpAnyH_ready (rs := [14]) (by kernel_rfl) (by simp) ?_
      refine AllReadyH.cons rfl (fun KK hKK => ?_) AllReadyH.nil
      go_simp
      refine (rput_any _ _ _ x k _ o1.out (edge_mk (e := x) X1.out X2.out) hqj.out hqx.out hk hs (by omega)).mono ?_
      rintro e wk3 ⟨V3, rfl, hV3, g⟩
      have gk := hHeld.out.trans g
      clear o1 X1 X2
      replace hV3 := Lib.hid hV3
      clear hHeld
      try dsimp only
      refine hKK.out _ _ gk (fun hHeld => ?_)
      clear gk hKK KK
      replace hHeld := Lib.hid (show Grew w wk3 from hHeld)
      try simp only [Act.put, List.setIfInBounds_toArray, List.set_cons_zero, List.set_cons_succ]
      refine wpAnyH_takeD (i := 15) (d := 3) (v := ?_) rfl rfl (by kernel_rfl) (by kernel_rfl) (by kernel_rfl) (fun _ _ _ h => h) (Or.inl ⟨by rfl, ?_⟩) hHeld.out ?_
      rotate_left
      · intro wv hSw
        replace hSw : Hid (Grew w wv) := Lib.hid hSw
        go_simp
        try with_reducible rfl
      try simp only [Act.put, List.setIfInBounds_toArray, List.set_cons_zero, List.set_cons_succ]
      refine wpAnyH_done (by kernel_rfl) ?_ _
      have hV4 : RowK 12 Edge12R wk3 V3 (rowG edgeCmp (l.take (j + 1))) := by rw [hsu.out]; exact hV3.out
      replace hV4 := Lib.hid hV4
      clear hV3
      go_wp2_with fail
      go_roundg (gk - 1)
      case rel => exact ⟨j + 1, by omega, by go_num, hV4.out, hHeld.out⟩
      case measure => omega
    · obtain rfl : j = L := by omega
      have hall : l.take j = l := by rw [← hL]; exact List.take_length
      rw [hall] at hO
      have hO' := Lib.hid hO
      have hG' := Lib.hid hG
      clear hO hG
      go_wp2_with fail
      go_ret
      exact ⟨_, rfl, hO'.out, hG'.out⟩

set_option maxRecDepth 100000 in
set_option maxHeartbeats 16000000 in
theorem rxends_any (v : Value) (l : List EdgeQ) (k : Nat) (w : World) (hr : RowK 12 (EdgeR k) w v l) (hq : ∀ x ∈ l, EB k x) (hk : 1 ≤ k) (hs : k < 67108864) (hl : l.length ≤ 549755813888) :
    Calls Tryz.prog 18 #[v] w fun e w' => ∃ v', e = .returned v' ∧ RowC w' v' (rowQ (endsE l)) ∧ Grew w w' := by
  obtain ⟨A, c, rfl, h1, h2, h3⟩ := hr
  obtain ⟨L, hL⟩ : ∃ L, l.length = L := ⟨_, rfl⟩
  rw [hL] at h1 hl h3
  rw [hL]
  have hm : L ≤ 9223372036854775807 := by omega
  replace h3 := Lib.hid h3
  have hqe := Lib.hid (fun p (hp : p ∈ endsE l) => show QB p.1 k ∧ QB p.2 k from by
    unfold endsE at hp
    obtain ⟨x, hx, h⟩ := List.mem_flatMap.1 hp
    have := hq x hx
    simp only [List.mem_cons, List.not_mem_nil, or_false] at h
    rcases h with rfl | rfl
    · exact this.1
    · exact this.2)
  replace hq := Lib.hid hq
  go_enter Tryz.func18, Tryz.ntmps18
  go_wp2_with fail
  go_loopg [3, 4] L (fun gk ov i wr => ∃ j : Nat, gk + j = L ∧ i = .int .i64 j ∧ OwnK 6 (fun w us (p : Rat × Rat) => SpotR w (.agg us) p.1 p.2 k) 35 wr w.heap.size ov (endsE (l.take j)) ∧ Grew w wr)
  case atStart => exact ⟨0, rfl, rfl, OwnK.nil _ _ _ _ _, Grew.refl _⟩
  case round =>
    obtain ⟨j, hj, rfl, hO, hG⟩ := hrel
    by_cases hlt : j < L
    · skip
      obtain ⟨b, o, rfl, he⟩ := h3.out (by omega)
      obtain ⟨x, hx⟩ : ∃ x, l[j]? = some x := ⟨l[j]'(by omega), List.getElem?_eq_getElem _⟩
      obtain ⟨b1, A1, n1, c1, C1, m1, d1, b2, A2, n2, c2, C2, m2, d2, b3, A3, n3, c3, C3, m3, d3, b4, A4, n4, c4, C4, m4, d4, ⟨e0, e1, e2, e3, e4, e5, e6, e7, e8, e9, e10, e11⟩, S1⟩ := cellsE (he j x hx)
      obtain ⟨b21, A21, n21, c21, C21, m21, d21, b22, A22, n22, c22, C22, m22, d22, b23, A23, n23, c23, C23, m23, d23, b24, A24, n24, c24, C24, m24, d24, e9, Fa, Fb⟩ := EdgeR.laid S1.out
      injection e9 with e9
      simp only [List.cons.injEq, Value.bool.injEq, Value.slice.injEq, and_true] at e9
      obtain ⟨rfl, ⟨rfl, rfl, rfl⟩, ⟨rfl, rfl, rfl⟩, rfl, ⟨rfl, rfl, rfl⟩, ⟨rfl, rfl, rfl⟩, rfl, ⟨rfl, rfl, rfl⟩, ⟨rfl, rfl, rfl⟩, rfl, ⟨rfl, rfl, rfl⟩, rfl, rfl, rfl⟩ := e9
      replace e0 : Hid (w.cell? ⟨b, o + j * 12, none⟩ = some (.bool b1)) := Lib.hid e0
      replace e1 : Hid (w.cell? ⟨b, o + j * 12 + 1, none⟩ = some (.slice A1 n1 c1)) := Lib.hid e1
      replace e2 : Hid (w.cell? ⟨b, o + j * 12 + 2, none⟩ = some (.slice C1 m1 d1)) := Lib.hid e2
      replace e3 : Hid (w.cell? ⟨b, o + j * 12 + 3, none⟩ = some (.bool b2)) := Lib.hid e3
      replace e4 : Hid (w.cell? ⟨b, o + j * 12 + 4, none⟩ = some (.slice A2 n2 c2)) := Lib.hid e4
      replace e5 : Hid (w.cell? ⟨b, o + j * 12 + 5, none⟩ = some (.slice C2 m2 d2)) := Lib.hid e5
      replace e6 : Hid (w.cell? ⟨b, o + j * 12 + 6, none⟩ = some (.bool b3)) := Lib.hid e6
      replace e7 : Hid (w.cell? ⟨b, o + j * 12 + 7, none⟩ = some (.slice A3 n3 c3)) := Lib.hid e7
      replace e8 : Hid (w.cell? ⟨b, o + j * 12 + 8, none⟩ = some (.slice C3 m3 d3)) := Lib.hid e8
      replace e9 : Hid (w.cell? ⟨b, o + j * 12 + 9, none⟩ = some (.bool b4)) := Lib.hid e9
      replace e10 : Hid (w.cell? ⟨b, o + j * 12 + 10, none⟩ = some (.slice A4 n4 c4)) := Lib.hid e10
      replace e11 : Hid (w.cell? ⟨b, o + j * 12 + 11, none⟩ = some (.slice C4 m4 d4)) := Lib.hid e11
      have hsu := Lib.hid (endsE_succ hx)
      have hel := endsE_len (l.take j)
      have htl : (l.take j).length = j := by rw [List.length_take]; omega
      have o1 := Lib.hid (OwnK.grew (says_spotR k) hO ((Grew.refl wr).drew))
      have hG' := Lib.hid hG
      have hjl : (j : Int) < (L : Int) := by omega
      clear he hO hG hx S1
      go_wp2_with fail
      refine wp_region_held_drew (S := fun wv => Grew w wv) (by kernel_rfl) (hG'.out.drew) (fun hHeld => ?_)
      replace hHeld := Lib.hid hHeld
      try simp only [Act.put, List.setIfInBounds_toArray, List.set_cons_zero, List.set_cons_succ]
      refine wpAnyH_takeD (i := 0) (d := 11) (v := ?_) rfl rfl (by kernel_rfl) (by kernel_rfl) (by kernel_rfl) (fun _ _ _ h => h) (Or.inl ⟨by rfl, ?_⟩) hHeld.out ?_
      rotate_left
      · intro wv hSw
        replace hSw : Hid (Grew w wv) := Lib.hid hSw
        go_simp
        try with_reducible rfl
      try simp only [Act.put, List.setIfInBounds_toArray, List.set_cons_zero, List.set_cons_succ]
      refine wpAnyH_takeD (i := 1) (d := 12) (v := ?_) rfl rfl (by kernel_rfl) (by kernel_rfl) (by kernel_rfl) (fun _ _ _ h => h) (Or.inl ⟨by rfl, ?_⟩) hHeld.out ?_
      rotate_left
      · intro wv hSw
        replace hSw : Hid (Grew w wv) := Lib.hid hSw
        go_simp
        try with_reducible rfl
      try simp only [Act.put, List.setIfInBounds_toArray, List.set_cons_zero, List.set_cons_succ]
      refine wpAnyH_takeD (i := 2) (d := 13) (v := ?_) rfl rfl (by kernel_rfl) (by kernel_rfl) (by kernel_rfl) (fun _ _ _ h => h) (Or.inl ⟨by rfl, ?_⟩) hHeld.out ?_
      rotate_left
      · intro wv hSw
        replace hSw : Hid (Grew w wv) := Lib.hid hSw
        go_simp
        try with_reducible rfl
      try simp only [Act.put, List.setIfInBounds_toArray, List.set_cons_zero, List.set_cons_succ]
      refine wpAnyH_takeD (i := 3) (d := 14) (v := ?_) rfl rfl (by kernel_rfl) (by kernel_rfl) (by kernel_rfl) (fun _ _ _ h => h) (Or.inl ⟨by rfl, ?_⟩) hHeld.out ?_
      rotate_left
      · intro wv hSw
        replace hSw : Hid (Grew w wv) := Lib.hid hSw
        go_simp
        try with_reducible rfl
      try simp only [Act.put, List.setIfInBounds_toArray, List.set_cons_zero, List.set_cons_succ]
      refine wpAnyH_takeD (i := 4) (d := 15) (v := ?_) rfl rfl (by kernel_rfl) (by kernel_rfl) (by kernel_rfl) (fun _ _ _ h => h) (Or.inl ⟨by rfl, ?_⟩) hHeld.out ?_
      rotate_left
      · intro wv hSw
        replace hSw : Hid (Grew w wv) := Lib.hid hSw
        go_simp
        try with_reducible rfl
      try simp only [Act.put, List.setIfInBounds_toArray, List.set_cons_zero, List.set_cons_succ]
      refine wpAnyH_takeD (i := 5) (d := 16) (v := ?_) rfl rfl (by kernel_rfl) (by kernel_rfl) (by kernel_rfl) (fun _ _ _ h => h) (Or.inl ⟨by rfl, ?_⟩) hHeld.out ?_
      rotate_left
      · intro wv hSw
        replace hSw : Hid (Grew w wv) := Lib.hid hSw
        have t0 := hSw.out.cell e0.out
        have t1 := hSw.out.cell e1.out
        have t2 := hSw.out.cell e2.out
        have t3 := hSw.out.cell e3.out
        have t4 := hSw.out.cell e4.out
        have t5 := hSw.out.cell e5.out
        go_simp
        try with_reducible rfl
      try simp only [Act.put, List.setIfInBounds_toArray, List.set_cons_zero, List.set_cons_succ]
      refine wpAnyH_takeD (i := 6) (d := 17) (v := ?_) rfl rfl (by kernel_rfl) (by kernel_rfl) (by kernel_rfl) (fun _ _ _ h => h) (Or.inl ⟨by rfl, ?_⟩) hHeld.out ?_
      rotate_left
      · intro wv hSw
        replace hSw : Hid (Grew w wv) := Lib.hid hSw
        go_simp
        try with_reducible rfl
      try simp only [Act.put, List.setIfInBounds_toArray, List.set_cons_zero, List.set_cons_succ]
      refine wpAnyH_takeD (i := 7) (d := 18) (v := ?_) rfl rfl (by kernel_rfl) (by kernel_rfl) (by kernel_rfl) (fun _ _ _ h => h) (Or.inl ⟨by rfl, ?_⟩) hHeld.out ?_
      rotate_left
      · intro wv hSw
        replace hSw : Hid (Grew w wv) := Lib.hid hSw
        go_simp
        try with_reducible rfl
      try simp only [Act.put, List.setIfInBounds_toArray, List.set_cons_zero, List.set_cons_succ]
      refine wpAnyH_takeD (i := 8) (d := 19) (v := ?_) rfl rfl (by kernel_rfl) (by kernel_rfl) (by kernel_rfl) (fun _ _ _ h => h) (Or.inl ⟨by rfl, ?_⟩) hHeld.out ?_
      rotate_left
      · intro wv hSw
        replace hSw : Hid (Grew w wv) := Lib.hid hSw
        go_simp
        try with_reducible rfl
      try simp only [Act.put, List.setIfInBounds_toArray, List.set_cons_zero, List.set_cons_succ]
      refine wpAnyH_takeD (i := 9) (d := 20) (v := ?_) rfl rfl (by kernel_rfl) (by kernel_rfl) (by kernel_rfl) (fun _ _ _ h => h) (Or.inl ⟨by rfl, ?_⟩) hHeld.out ?_
      rotate_left
      · intro wv hSw
        replace hSw : Hid (Grew w wv) := Lib.hid hSw
        go_simp
        try with_reducible rfl
      try simp only [Act.put, List.setIfInBounds_toArray, List.set_cons_zero, List.set_cons_succ]
      refine wpAnyH_takeD (i := 10) (d := 21) (v := ?_) rfl rfl (by kernel_rfl) (by kernel_rfl) (by kernel_rfl) (fun _ _ _ h => h) (Or.inl ⟨by rfl, ?_⟩) hHeld.out ?_
      rotate_left
      · intro wv hSw
        replace hSw : Hid (Grew w wv) := Lib.hid hSw
        have t6 := hSw.out.cell e6.out
        have t7 := hSw.out.cell e7.out
        have t8 := hSw.out.cell e8.out
        have t9 := hSw.out.cell e9.out
        have t10 := hSw.out.cell e10.out
        have t11 := hSw.out.cell e11.out
        go_simp
        try with_reducible rfl
      try simp only [Act.put, List.setIfInBounds_toArray, List.set_cons_zero, List.set_cons_succ]
      refine wpAnyH_ready (rs := [11]) (by kernel_rfl) (by simp) ?_
      refine AllReadyH.cons rfl (fun KK hKK => ?_) AllReadyH.nil
      go_simp
      have gP := hHeld
      clear hHeld
      try dsimp only
      refine hKK.out _ _ (gP.out.alloc _) (fun hHeld => ?_)
      clear hKK KK
      replace hHeld := Lib.hid hHeld
      try simp only [Act.put, List.setIfInBounds_toArray, List.set_cons_zero, List.set_cons_succ]
      refine wpAnyH_ready (rs := [12]) (by kernel_rfl) (by simp) ?_
      refine AllReadyH.cons rfl (fun KK hKK => ?_) AllReadyH.nil
      refine wp_appK (m := [x.1, x.2]) (.tmp 11) (.tmp 22) 41 rfl rfl (says_spotR k) o1.out _ (cells_two (says_spotR k) (x := x.1) (y := x.2) (SpotR.kept Fa.out gP.out.keeps) (SpotR.kept Fb.out gP.out.keeps)) rfl _ 112 Tryz.underlying41 info_spot rfl (by omega) znoS (by simp only [List.length_cons, List.length_nil]; omega) (by omega) gP.out.size ?_
      intro vk1 wk1 hO9 hK9 hC9 hB9 hG9
      have gk := hG9 w (Nat.le_refl _) gP.out
      clear hK9 hC9 hB9 hG9 o1 gP
      clear hHeld
      try dsimp only
      refine hKK.out _ _ gk (fun hHeld => ?_)
      clear gk hKK KK
      replace hHeld := Lib.hid (show Grew w wk1 from hHeld)
      try simp only [Act.put, List.setIfInBounds_toArray]
      refine wpAnyH_takeD (i := 13) (d := 3) (v := ?_) rfl rfl (by kernel_rfl) (by kernel_rfl) (by kernel_rfl) (fun _ _ _ h => h) (Or.inl ⟨by rfl, ?_⟩) hHeld.out ?_
      rotate_left
      · intro wv hSw
        replace hSw : Hid (Grew w wv) := Lib.hid hSw
        go_simp
        try with_reducible rfl
      try simp only [Act.put]
      refine wpAnyH_done (by kernel_rfl) ?_ _
      rw [← hsu.out] at hO9
      replace hO9 := Lib.hid hO9
      go_wp2_with fail
      go_roundg (gk - 1)
      case rel => exact ⟨j + 1, by omega, by go_num, hO9.out, hHeld.out⟩
      case measure => omega
    · obtain rfl : j = L := by omega
      have hall : l.take j = l := by rw [← hL]; exact List.take_length
      rw [hall] at hO
      have hO' := Lib.hid (row_spotR hO.row)
      have hG' := Lib.hid hG
      clear hO hG
      go_wp2_with fail
      refine (rrow_any _ (endsE l) k _ hO'.out hqe.out hk hs (by rw [endsE_len]; omega)).mono ?_
      rintro e w2 ⟨V2, rfl, hV2, g2⟩
      have ge := Lib.hid (hG'.out.trans g2)
      replace hV2 := Lib.hid hV2
      clear g2 hG' hO'
      go_wp2_with fail
      go_ret
      exact ⟨_, rfl, hV2.out, ge.out⟩

theorem edge_parts {w : World} {b1 b2 b3 b4 : Bool} {A1 A2 A3 A4 C1 C2 C3 C4 : Option Addr} {n1 n2 n3 n4 c1 c2 c3 c4 m1 m2 m3 m4 d1 d2 d3 d4 : Nat} {x : EdgeQ} (h : Edge12R w #[.bool b1, .slice A1 n1 c1, .slice C1 m1 d1, .bool b2, .slice A2 n2 c2, .slice C2 m2 d2, .bool b3, .slice A3 n3 c3, .slice C3 m3 d3, .bool b4, .slice A4 n4 c4, .slice C4 m4 d4] x) :
    Hid (SpotC w (.agg #[.bool b1, .slice A1 n1 c1, .slice C1 m1 d1, .bool b2, .slice A2 n2 c2, .slice C2 m2 d2]) x.1.1 x.1.2) ∧ Hid (SpotC w (.agg #[.bool b3, .slice A3 n3 c3, .slice C3 m3 d3, .bool b4, .slice A4 n4 c4, .slice C4 m4 d4]) x.2.1 x.2.2) := by
  obtain ⟨us1, us2, e, h1, h2⟩ := h
  have k1 := h1
  have k2 := h2
  obtain ⟨b5, A5, n5, c5, C5, m5, d5, b6, A6, n6, c6, C6, m6, d6, e1, -, -⟩ := k1
  obtain ⟨b7, A7, n7, c7, C7, m7, d7, b8, A8, n8, c8, C8, m8, d8, e2, -, -⟩ := k2
  injection e1 with e1
  injection e2 with e2
  subst e1
  subst e2
  injection e with e
  simp only [] at e
  obtain ⟨rfl, ⟨rfl, rfl, rfl⟩, ⟨rfl, rfl, rfl⟩, rfl, ⟨rfl, rfl, rfl⟩, ⟨rfl, rfl, rfl⟩, rfl, ⟨rfl, rfl, rfl⟩, ⟨rfl, rfl, rfl⟩, rfl, ⟨rfl, rfl, rfl⟩, rfl, rfl, rfl⟩ := e
  exact ⟨h1, h2⟩

set_option maxRecDepth 100000 in
set_option maxHeartbeats 16000000 in
theorem esame_yes (v v' : Value) (l : List EdgeQ) (w : World) (ha : RowK 12 Edge12R w v l) (hb : RowK 12 Edge12R w v' l) :
    Calls Tryz.prog 6 #[v, v'] w fun e w' => e = .returned (.bool true) ∧ Grew w w' := by
  obtain ⟨A, c, rfl, x1, x2, x3⟩ := ha
  obtain ⟨A', c', rfl, k1, k2, k3⟩ := hb
  obtain ⟨L, hL⟩ : ∃ L, l.length = L := ⟨_, rfl⟩
  rw [hL] at x1 x3 k1 k3 ⊢
  have hm : L ≤ 9223372036854775807 := by omega
  replace x3 := Lib.hid x3
  replace k3 := Lib.hid k3
  go_enter Tryz.func6, Tryz.ntmps6
  go_wp2_with fail
  go_loopg [5] L (fun gk i wr => ∃ j : Nat, gk + j = L ∧ i = .int .i64 j ∧ Grew w wr)
  case atStart => exact ⟨0, rfl, rfl, Grew.refl _⟩
  case round =>
    obtain ⟨j, hj, rfl, hG⟩ := hrel
    by_cases hlt : j < L
    · obtain ⟨b, o, rfl, he⟩ := x3.out (by omega)
      obtain ⟨b9, o9, rfl, ke⟩ := k3.out (by omega)
      obtain ⟨x, hx⟩ : ∃ x, l[j]? = some x := ⟨l[j]'(by omega), List.getElem?_eq_getElem _⟩
      obtain ⟨b1, A1, n1, c1, C1, m1, d1, b2, A2, n2, c2, C2, m2, d2, b3, A3, n3, c3, C3, m3, d3, b4, A4, n4, c4, C4, m4, d4, ⟨e0, e1, e2, e3, e4, e5, e6, e7, e8, e9, e10, e11⟩, S1⟩ := cellsC (he j x hx)
      obtain ⟨b5, A5, n5, c5, C5, m5, d5, b6, A6, n6, c6, C6, m6, d6, b7, A7, n7, c7, C7, m7, d7, b8, A8, n8, c8, C8, m8, d8, ⟨f0, f1, f2, f3, f4, f5, f6, f7, f8, f9, f10, f11⟩, S2⟩ := cellsC (ke j x hx)
      obtain ⟨A1x, A2x⟩ := edge_parts S1.out
      obtain ⟨B1x, B2x⟩ := edge_parts S2.out
      replace e0 : Hid (w.cell? ⟨b, o + j * 12, none⟩ = some (.bool b1)) := Lib.hid e0
      replace e1 : Hid (w.cell? ⟨b, o + j * 12 + 1, none⟩ = some (.slice A1 n1 c1)) := Lib.hid e1
      replace e2 : Hid (w.cell? ⟨b, o + j * 12 + 2, none⟩ = some (.slice C1 m1 d1)) := Lib.hid e2
      replace e3 : Hid (w.cell? ⟨b, o + j * 12 + 3, none⟩ = some (.bool b2)) := Lib.hid e3
      replace e4 : Hid (w.cell? ⟨b, o + j * 12 + 4, none⟩ = some (.slice A2 n2 c2)) := Lib.hid e4
      replace e5 : Hid (w.cell? ⟨b, o + j * 12 + 5, none⟩ = some (.slice C2 m2 d2)) := Lib.hid e5
      replace e6 : Hid (w.cell? ⟨b, o + j * 12 + 6, none⟩ = some (.bool b3)) := Lib.hid e6
      replace e7 : Hid (w.cell? ⟨b, o + j * 12 + 7, none⟩ = some (.slice A3 n3 c3)) := Lib.hid e7
      replace e8 : Hid (w.cell? ⟨b, o + j * 12 + 8, none⟩ = some (.slice C3 m3 d3)) := Lib.hid e8
      replace e9 : Hid (w.cell? ⟨b, o + j * 12 + 9, none⟩ = some (.bool b4)) := Lib.hid e9
      replace e10 : Hid (w.cell? ⟨b, o + j * 12 + 10, none⟩ = some (.slice A4 n4 c4)) := Lib.hid e10
      replace e11 : Hid (w.cell? ⟨b, o + j * 12 + 11, none⟩ = some (.slice C4 m4 d4)) := Lib.hid e11
      replace f0 : Hid (w.cell? ⟨b9, o9 + j * 12, none⟩ = some (.bool b5)) := Lib.hid f0
      replace f1 : Hid (w.cell? ⟨b9, o9 + j * 12 + 1, none⟩ = some (.slice A5 n5 c5)) := Lib.hid f1
      replace f2 : Hid (w.cell? ⟨b9, o9 + j * 12 + 2, none⟩ = some (.slice C5 m5 d5)) := Lib.hid f2
      replace f3 : Hid (w.cell? ⟨b9, o9 + j * 12 + 3, none⟩ = some (.bool b6)) := Lib.hid f3
      replace f4 : Hid (w.cell? ⟨b9, o9 + j * 12 + 4, none⟩ = some (.slice A6 n6 c6)) := Lib.hid f4
      replace f5 : Hid (w.cell? ⟨b9, o9 + j * 12 + 5, none⟩ = some (.slice C6 m6 d6)) := Lib.hid f5
      replace f6 : Hid (w.cell? ⟨b9, o9 + j * 12 + 6, none⟩ = some (.bool b7)) := Lib.hid f6
      replace f7 : Hid (w.cell? ⟨b9, o9 + j * 12 + 7, none⟩ = some (.slice A7 n7 c7)) := Lib.hid f7
      replace f8 : Hid (w.cell? ⟨b9, o9 + j * 12 + 8, none⟩ = some (.slice C7 m7 d7)) := Lib.hid f8
      replace f9 : Hid (w.cell? ⟨b9, o9 + j * 12 + 9, none⟩ = some (.bool b8)) := Lib.hid f9
      replace f10 : Hid (w.cell? ⟨b9, o9 + j * 12 + 10, none⟩ = some (.slice A8 n8 c8)) := Lib.hid f10
      replace f11 : Hid (w.cell? ⟨b9, o9 + j * 12 + 11, none⟩ = some (.slice C8 m8 d8)) := Lib.hid f11
      have hG' := Lib.hid hG
      have hjl : (j : Int) < (L : Int) := by omega
      clear he ke hG hx S1 S2
      go_wp2_with fail
      refine wp_region_held_drew (S := fun wv => Grew w wv) (by kernel_rfl) (hG'.out.drew) (fun hHeld => ?_)
      replace hHeld := Lib.hid hHeld
      try simp only [Act.put, List.setIfInBounds_toArray, List.set_cons_zero, List.set_cons_succ]
      refine wpAnyH_takeD (i := 0) (d := 17) (v := ?_) rfl rfl (by kernel_rfl) (by kernel_rfl) (by kernel_rfl) (fun _ _ _ h => h) (Or.inl ⟨by rfl, ?_⟩) hHeld.out ?_
      rotate_left
      · intro wv hSw
        replace hSw : Hid (Grew w wv) := Lib.hid hSw
        go_simp
        try with_reducible rfl
      try simp only [Act.put, List.setIfInBounds_toArray, List.set_cons_zero, List.set_cons_succ]
      refine wpAnyH_takeD (i := 1) (d := 18) (v := ?_) rfl rfl (by kernel_rfl) (by kernel_rfl) (by kernel_rfl) (fun _ _ _ h => h) (Or.inl ⟨by rfl, ?_⟩) hHeld.out ?_
      rotate_left
      · intro wv hSw
        replace hSw : Hid (Grew w wv) := Lib.hid hSw
        go_simp
        try with_reducible rfl
      try simp only [Act.put, List.setIfInBounds_toArray, List.set_cons_zero, List.set_cons_succ]
      refine wpAnyH_takeD (i := 2) (d := 19) (v := ?_) rfl rfl (by kernel_rfl) (by kernel_rfl) (by kernel_rfl) (fun _ _ _ h => h) (Or.inl ⟨by rfl, ?_⟩) hHeld.out ?_
      rotate_left
      · intro wv hSw
        replace hSw : Hid (Grew w wv) := Lib.hid hSw
        go_simp
        try with_reducible rfl
      try simp only [Act.put, List.setIfInBounds_toArray, List.set_cons_zero, List.set_cons_succ]
      refine wpAnyH_takeD (i := 3) (d := 20) (v := ?_) rfl rfl (by kernel_rfl) (by kernel_rfl) (by kernel_rfl) (fun _ _ _ h => h) (Or.inl ⟨by rfl, ?_⟩) hHeld.out ?_
      rotate_left
      · intro wv hSw
        replace hSw : Hid (Grew w wv) := Lib.hid hSw
        go_simp
        try with_reducible rfl
      try simp only [Act.put, List.setIfInBounds_toArray, List.set_cons_zero, List.set_cons_succ]
      refine wpAnyH_takeD (i := 4) (d := 21) (v := ?_) rfl rfl (by kernel_rfl) (by kernel_rfl) (by kernel_rfl) (fun _ _ _ h => h) (Or.inl ⟨by rfl, ?_⟩) hHeld.out ?_
      rotate_left
      · intro wv hSw
        replace hSw : Hid (Grew w wv) := Lib.hid hSw
        have t0 := hSw.out.cell e0.out
        have t1 := hSw.out.cell e1.out
        have t2 := hSw.out.cell e2.out
        have t3 := hSw.out.cell e3.out
        have t4 := hSw.out.cell e4.out
        have t5 := hSw.out.cell e5.out
        go_simp
        try with_reducible rfl
      try simp only [Act.put, List.setIfInBounds_toArray, List.set_cons_zero, List.set_cons_succ]
      refine wpAnyH_takeD (i := 5) (d := 22) (v := ?_) rfl rfl (by kernel_rfl) (by kernel_rfl) (by kernel_rfl) (fun _ _ _ h => h) (Or.inl ⟨by rfl, ?_⟩) hHeld.out ?_
      rotate_left
      · intro wv hSw
        replace hSw : Hid (Grew w wv) := Lib.hid hSw
        go_simp
        try with_reducible rfl
      try simp only [Act.put, List.setIfInBounds_toArray, List.set_cons_zero, List.set_cons_succ]
      refine wpAnyH_takeD (i := 6) (d := 23) (v := ?_) rfl rfl (by kernel_rfl) (by kernel_rfl) (by kernel_rfl) (fun _ _ _ h => h) (Or.inl ⟨by rfl, ?_⟩) hHeld.out ?_
      rotate_left
      · intro wv hSw
        replace hSw : Hid (Grew w wv) := Lib.hid hSw
        go_simp
        try with_reducible rfl
      try simp only [Act.put, List.setIfInBounds_toArray, List.set_cons_zero, List.set_cons_succ]
      refine wpAnyH_takeD (i := 7) (d := 24) (v := ?_) rfl rfl (by kernel_rfl) (by kernel_rfl) (by kernel_rfl) (fun _ _ _ h => h) (Or.inl ⟨by rfl, ?_⟩) hHeld.out ?_
      rotate_left
      · intro wv hSw
        replace hSw : Hid (Grew w wv) := Lib.hid hSw
        go_simp
        try with_reducible rfl
      try simp only [Act.put, List.setIfInBounds_toArray, List.set_cons_zero, List.set_cons_succ]
      refine wpAnyH_takeD (i := 8) (d := 25) (v := ?_) rfl rfl (by kernel_rfl) (by kernel_rfl) (by kernel_rfl) (fun _ _ _ h => h) (Or.inl ⟨by rfl, ?_⟩) hHeld.out ?_
      rotate_left
      · intro wv hSw
        replace hSw : Hid (Grew w wv) := Lib.hid hSw
        go_simp
        try with_reducible rfl
      try simp only [Act.put, List.setIfInBounds_toArray, List.set_cons_zero, List.set_cons_succ]
      refine wpAnyH_takeD (i := 9) (d := 26) (v := ?_) rfl rfl (by kernel_rfl) (by kernel_rfl) (by kernel_rfl) (fun _ _ _ h => h) (Or.inl ⟨by rfl, ?_⟩) hHeld.out ?_
      rotate_left
      · intro wv hSw
        replace hSw : Hid (Grew w wv) := Lib.hid hSw
        have t20 := hSw.out.cell f0.out
        have t21 := hSw.out.cell f1.out
        have t22 := hSw.out.cell f2.out
        have t23 := hSw.out.cell f3.out
        have t24 := hSw.out.cell f4.out
        have t25 := hSw.out.cell f5.out
        go_simp
        try with_reducible rfl
      try simp only [Act.put, List.setIfInBounds_toArray, List.set_cons_zero, List.set_cons_succ]
      refine wpAnyH_ready (rs := [10]) (by kernel_rfl) (by simp) ?_
      refine AllReadyH.cons rfl (fun KK hKK => ?_) AllReadyH.nil
      go_simp
      refine (r5same_yes _ _ x.1.1 x.1.2 _ (SpotC.kept A1x.out hHeld.out.keeps) (SpotC.kept B1x.out hHeld.out.keeps)).mono ?_
      rintro e wk1 ⟨rfl, g⟩
      have gk := hHeld.out.trans g
      clear hHeld
      try dsimp only
      refine hKK.out _ _ gk (fun hHeld => ?_)
      clear gk hKK KK
      replace hHeld := Lib.hid (show Grew w wk1 from hHeld)
      try simp only [Act.put, List.setIfInBounds_toArray, List.set_cons_zero, List.set_cons_succ]
      refine wpAnyH_takeD (i := 11) (d := 28) (v := ?_) rfl rfl (by kernel_rfl) (by kernel_rfl) (by kernel_rfl) (fun _ _ _ h => h) (Or.inl ⟨by rfl, ?_⟩) hHeld.out ?_
      rotate_left
      · intro wv hSw
        replace hSw : Hid (Grew w wv) := Lib.hid hSw
        go_simp
        try with_reducible rfl
      try simp only [Act.put, List.setIfInBounds_toArray, List.set_cons_zero, List.set_cons_succ]
      refine wpAnyH_takeD (i := 12) (d := 29) (v := ?_) rfl rfl (by kernel_rfl) (by kernel_rfl) (by kernel_rfl) (fun _ _ _ h => h) (Or.inl ⟨by rfl, ?_⟩) hHeld.out ?_
      rotate_left
      · intro wv hSw
        replace hSw : Hid (Grew w wv) := Lib.hid hSw
        go_simp
        try with_reducible rfl
      try simp only [Act.put, List.setIfInBounds_toArray, List.set_cons_zero, List.set_cons_succ]
      refine wpAnyH_takeD (i := 13) (d := 30) (v := ?_) rfl rfl (by kernel_rfl) (by kernel_rfl) (by kernel_rfl) (fun _ _ _ h => h) (Or.inl ⟨by rfl, ?_⟩) hHeld.out ?_
      rotate_left
      · intro wv hSw
        replace hSw : Hid (Grew w wv) := Lib.hid hSw
        go_simp
        try with_reducible rfl
      try simp only [Act.put, List.setIfInBounds_toArray, List.set_cons_zero, List.set_cons_succ]
      refine wpAnyH_takeD (i := 14) (d := 31) (v := ?_) rfl rfl (by kernel_rfl) (by kernel_rfl) (by kernel_rfl) (fun _ _ _ h => h) (Or.inl ⟨by rfl, ?_⟩) hHeld.out ?_
      rotate_left
      · intro wv hSw
        replace hSw : Hid (Grew w wv) := Lib.hid hSw
        go_simp
        try with_reducible rfl
      try simp only [Act.put, List.setIfInBounds_toArray, List.set_cons_zero, List.set_cons_succ]
      refine wpAnyH_takeD (i := 15) (d := 32) (v := ?_) rfl rfl (by kernel_rfl) (by kernel_rfl) (by kernel_rfl) (fun _ _ _ h => h) (Or.inl ⟨by rfl, ?_⟩) hHeld.out ?_
      rotate_left
      · intro wv hSw
        replace hSw : Hid (Grew w wv) := Lib.hid hSw
        go_simp
        try with_reducible rfl
      try simp only [Act.put, List.setIfInBounds_toArray, List.set_cons_zero, List.set_cons_succ]
      refine wpAnyH_takeD (i := 16) (d := 33) (v := ?_) rfl rfl (by kernel_rfl) (by kernel_rfl) (by kernel_rfl) (fun _ _ _ h => h) (Or.inl ⟨by rfl, ?_⟩) hHeld.out ?_
      rotate_left
      · intro wv hSw
        replace hSw : Hid (Grew w wv) := Lib.hid hSw
        go_simp
        try with_reducible rfl
      try simp only [Act.put, List.setIfInBounds_toArray, List.set_cons_zero, List.set_cons_succ]
      refine wpAnyH_takeD (i := 17) (d := 34) (v := ?_) rfl rfl (by kernel_rfl) (by kernel_rfl) (by kernel_rfl) (fun _ _ _ h => h) (Or.inl ⟨by rfl, ?_⟩) hHeld.out ?_
      rotate_left
      · intro wv hSw
        replace hSw : Hid (Grew w wv) := Lib.hid hSw
        have t6 := hSw.out.cell e6.out
        have t7 := hSw.out.cell e7.out
        have t8 := hSw.out.cell e8.out
        have t9 := hSw.out.cell e9.out
        have t10 := hSw.out.cell e10.out
        have t11 := hSw.out.cell e11.out
        go_simp
        try with_reducible rfl
      try simp only [Act.put, List.setIfInBounds_toArray, List.set_cons_zero, List.set_cons_succ]
      refine wpAnyH_takeD (i := 18) (d := 35) (v := ?_) rfl rfl (by kernel_rfl) (by kernel_rfl) (by kernel_rfl) (fun _ _ _ h => h) (Or.inl ⟨by rfl, ?_⟩) hHeld.out ?_
      rotate_left
      · intro wv hSw
        replace hSw : Hid (Grew w wv) := Lib.hid hSw
        go_simp
        try with_reducible rfl
      try simp only [Act.put, List.setIfInBounds_toArray, List.set_cons_zero, List.set_cons_succ]
      refine wpAnyH_takeD (i := 19) (d := 36) (v := ?_) rfl rfl (by kernel_rfl) (by kernel_rfl) (by kernel_rfl) (fun _ _ _ h => h) (Or.inl ⟨by rfl, ?_⟩) hHeld.out ?_
      rotate_left
      · intro wv hSw
        replace hSw : Hid (Grew w wv) := Lib.hid hSw
        go_simp
        try with_reducible rfl
      try simp only [Act.put, List.setIfInBounds_toArray, List.set_cons_zero, List.set_cons_succ]
      refine wpAnyH_takeD (i := 20) (d := 37) (v := ?_) rfl rfl (by kernel_rfl) (by kernel_rfl) (by kernel_rfl) (fun _ _ _ h => h) (Or.inl ⟨by rfl, ?_⟩) hHeld.out ?_
      rotate_left
      · intro wv hSw
        replace hSw : Hid (Grew w wv) := Lib.hid hSw
        go_simp
        try with_reducible rfl
      try simp only [Act.put, List.setIfInBounds_toArray, List.set_cons_zero, List.set_cons_succ]
      refine wpAnyH_takeD (i := 21) (d := 38) (v := ?_) rfl rfl (by kernel_rfl) (by kernel_rfl) (by kernel_rfl) (fun _ _ _ h => h) (Or.inl ⟨by rfl, ?_⟩) hHeld.out ?_
      rotate_left
      · intro wv hSw
        replace hSw : Hid (Grew w wv) := Lib.hid hSw
        go_simp
        try with_reducible rfl
      try simp only [Act.put, List.setIfInBounds_toArray, List.set_cons_zero, List.set_cons_succ]
      refine wpAnyH_takeD (i := 22) (d := 39) (v := ?_) rfl rfl (by kernel_rfl) (by kernel_rfl) (by kernel_rfl) (fun _ _ _ h => h) (Or.inl ⟨by rfl, ?_⟩) hHeld.out ?_
      rotate_left
      · intro wv hSw
        replace hSw : Hid (Grew w wv) := Lib.hid hSw
        have t26 := hSw.out.cell f6.out
        have t27 := hSw.out.cell f7.out
        have t28 := hSw.out.cell f8.out
        have t29 := hSw.out.cell f9.out
        have t30 := hSw.out.cell f10.out
        have t31 := hSw.out.cell f11.out
        go_simp
        try with_reducible rfl
      try simp only [Act.put, List.setIfInBounds_toArray, List.set_cons_zero, List.set_cons_succ]
      refine wpAnyH_ready (rs := [23]) (by kernel_rfl) (by simp) ?_
      refine AllReadyH.cons rfl (fun KK hKK => ?_) AllReadyH.nil
      go_simp
      refine (r5same_yes _ _ x.2.1 x.2.2 _ (SpotC.kept A2x.out hHeld.out.keeps) (SpotC.kept B2x.out hHeld.out.keeps)).mono ?_
      rintro e wk2 ⟨rfl, g⟩
      have gk := hHeld.out.trans g
      clear hHeld
      try dsimp only
      refine hKK.out _ _ gk (fun hHeld => ?_)
      clear gk hKK KK
      replace hHeld := Lib.hid (show Grew w wk2 from hHeld)
      try simp only [Act.put, List.setIfInBounds_toArray, List.set_cons_zero, List.set_cons_succ]
      refine wpAnyH_takeD (i := 24) (d := 41) (v := ?_) rfl rfl (by kernel_rfl) (by kernel_rfl) (by kernel_rfl) (fun _ _ _ h => h) (Or.inl ⟨by rfl, ?_⟩) hHeld.out ?_
      rotate_left
      · intro wv hSw
        replace hSw : Hid (Grew w wv) := Lib.hid hSw
        go_simp
        try with_reducible rfl
      try simp only [Act.put, List.setIfInBounds_toArray, List.set_cons_zero, List.set_cons_succ]
      refine wpAnyH_takeD (i := 25) (d := 42) (v := ?_) rfl rfl (by kernel_rfl) (by kernel_rfl) (by kernel_rfl) (fun _ _ _ h => h) (Or.inl ⟨by rfl, ?_⟩) hHeld.out ?_
      rotate_left
      · intro wv hSw
        replace hSw : Hid (Grew w wv) := Lib.hid hSw
        go_simp
        try with_reducible rfl
      try simp only [Act.put, List.setIfInBounds_toArray, List.set_cons_zero, List.set_cons_succ]
      refine wpAnyH_done (by kernel_rfl) ?_ _
      go_wp2_with fail
      go_roundg (gk - 1)
      case rel => exact ⟨j + 1, by omega, by go_num, hHeld.out⟩
      case measure => omega
    · obtain rfl : j = L := by omega
      have hG' := Lib.hid hG
      clear hG
      go_wp2_with fail
      go_ret
      exact ⟨rfl, hG'.out⟩
end Go.Proofs.YtmommicmblfibaaGreat
namespace Go.Proofs.YtmommicmblfibaaGreat
open Go.RowKit

end Go.Proofs.YtmommicmblfibaaGreat
namespace Go.Proofs.YtmommicmblfibaaGreat
open Go.RowKit

theorem pieces_lives : (piecesQ [((0, 0), 4, 4), ((0, 4), 4, 0)]).length = 4 := by decide +kernel
theorem ends_lives : (rowQ (endsE (piecesQ [((0, 0), 4, 4), ((0, 4), 4, 0)]))).length = 5 := by decide +kernel
theorem first_lives : (piecesQ [((0, 0), 4, 4), ((0, 4), 4, 0)])[0]? = some ((((0 : Int) : Rat), ((0 : Int) : Rat)), ((2 : Int) : Rat), ((2 : Int) : Rat)) := by decide +kernel
theorem piecesQ_eb {l : List SegZ} : ∀ e ∈ piecesQ l, EB 7 e := by
  intro e he
  obtain ⟨s, -, hs⟩ := List.mem_flatMap.1 ((mem_rowG ord_edge).1 he)
  exact piece_eb e hs
theorem edge12_r {k : Nat} {w : World} {v : Value} {l : List EdgeQ} (h : RowK 12 Edge12R w v l) (hq : ∀ e ∈ l, EB k e) : RowK 12 (EdgeR k) w v l := by
  obtain ⟨A, c, hv, h1, h2, h3⟩ := h
  refine ⟨A, c, hv, h1, h2, fun hl => ?_⟩
  obtain ⟨b, o, hA, he⟩ := h3 hl
  refine ⟨b, o, hA, fun i x hx => ?_⟩
  obtain ⟨us, k1, k2⟩ := he i x hx
  exact ⟨us, k1, edge_r k2 (hq x (List.mem_of_getElem? hx))⟩

set_option maxRecDepth 100000 in
set_option maxHeartbeats 4000000 in
theorem lives18_any (w : World) : Calls Tryz.prog 9 #[] w fun e w' => e = .returned (.bool true) ∧ Grew w w' := by
  go_enter Tryz.func9, Tryz.ntmps9
  go_wp2_with fail
  refine (pieces_any _ [((0, 0), 4, 4), ((0, 4), 4, 0)] _ ?_ (by simp)).mono ?_
  · refine ⟨_, 2, rfl, by simp, by omega, fun _ => ⟨w.heap.size, 0, rfl, fun i s hs => ?_⟩⟩
    have hi : i < 2 := (List.getElem?_eq_some_iff.1 hs).1
    rcases (show i = 0 ∨ i = 1 by omega) with rfl | rfl
    · obtain rfl : ((0, 0), 4, 4) = s := by simpa using hs
      exact ⟨⟨by simp [go_sem], by simp [go_sem], by simp [go_sem], by simp [go_sem]⟩, by unfold In64; dsimp only; omega, by unfold In64; dsimp only; omega⟩
    · obtain rfl : ((0, 4), 4, 0) = s := by simpa using hs
      exact ⟨⟨by simp [go_sem], by simp [go_sem], by simp [go_sem], by simp [go_sem]⟩, by unfold In64; dsimp only; omega, by unfold In64; dsimp only; omega⟩
  rintro e w1 ⟨v, rfl, hv, g1⟩
  replace g1 := Lib.hid (((Grew.refl w).alloc _).trans g1)
  have hvr := Lib.hid (edge12_r hv piecesQ_eb)
  obtain ⟨A, c, rfl, h1, h2, h3⟩ := id hv
  rw [pieces_lives] at h1 h3 hvr
  rw [pieces_lives]
  obtain ⟨b, o, rfl, he⟩ := h3 (by omega)
  obtain ⟨b1, A1, n1, c1, C1, m1, d1, b2, A2, n2, c2, C2, m2, d2, b3, A3, n3, c3, C3, m3, d3, b4, A4, n4, c4, C4, m4, d4, ⟨e0, e1, e2, e3, e4, e5, e6, e7, e8, e9, e10, e11⟩, S1⟩ := cellsC (he 0 _ first_lives)
  obtain ⟨-, S2⟩ := edge_parts S1.out
  clear e0 e1 e2 e3 e4 e5
  replace e6 : w1.cell? ⟨b, o + 6, none⟩ = some (.bool b3) := e6
  replace e7 : w1.cell? ⟨b, o + 7, none⟩ = some (.slice A3 n3 c3) := e7
  replace e8 : w1.cell? ⟨b, o + 8, none⟩ = some (.slice C3 m3 d3) := e8
  replace e9 : w1.cell? ⟨b, o + 9, none⟩ = some (.bool b4) := e9
  replace e10 : w1.cell? ⟨b, o + 10, none⟩ = some (.slice A4 n4 c4) := e10
  replace e11 : w1.cell? ⟨b, o + 11, none⟩ = some (.slice C4 m4 d4) := e11
  clear S1 he h3 hv
  replace S2 := Lib.hid S2
  go_wp2_with fail
  refine (xends_any _ _ 7 _ hvr.out piecesQ_eb (by omega) (by omega) (by rw [pieces_lives]; omega)).mono ?_
  rintro e w2 ⟨X, rfl, hX, g2⟩
  obtain ⟨A9, c9, rfl, -, -, -⟩ := id hX
  rw [ends_lives]
  replace e6 := g2.cell e6
  replace e7 := g2.cell e7
  replace e8 := g2.cell e8
  replace e9 := g2.cell e9
  replace e10 := g2.cell e10
  replace e11 := g2.cell e11
  have hv := Lib.hid (SpotC.v (k := 1) (SpotC.kept S2.out.out g2.keeps) (QB_int 2 1 (by rw [show (2 : Int).natAbs = 2 from rfl, len_lt_base (by omega) (by omega)]; exact Nat.le_refl _) (by omega)) (QB_int 2 1 (by rw [show (2 : Int).natAbs = 2 from rfl, len_lt_base (by omega) (by omega)]; exact Nat.le_refl _) (by omega)))
  replace g1 := Lib.hid (g1.out.trans g2)
  clear hX g2 S2 hvr
  go_wp2_with fail
  refine (stext_int 2 2 _ _ (Lib.hid wt2) (Lib.hid wt2) rfl (.inl rfl) _ 1 _ hv.out (by omega) (by omega)).mono ?_
  rintro e w3 ⟨rfl, g3⟩
  have es : digS 2 ++ (⟨#[32]⟩ : ByteArray) ++ digS 2 = (⟨#[50, 32, 50]⟩ : ByteArray) := rfl
  rw [es]
  have g9 := Lib.hid (g1.out.trans g3)
  clear g3 e6 e7 e8 e9 e10 e11 hv g1
  go_wp2_with fail
  go_ret
  exact ⟨by rfl, g9.out⟩
end Go.Proofs.YtmommicmblfibaaGreat
namespace Go.Proofs.YtmommicmblfibaaGreat
open Go.RowKit

set_option maxRecDepth 100000 in
set_option maxHeartbeats 4000000 in
theorem rowsame_yes (v v' : Value) (l : List (Rat × Rat)) (w : World) (ha : RowC w v l) (hb : RowC w v' l) :
    Calls Tryz.prog 16 #[v, v'] w fun e w' => e = .returned (.bool true) ∧ Grew w w' := by
  obtain ⟨A, c, rfl, x1, x2, x3⟩ := ha
  obtain ⟨A', c', rfl, k1, k2, k3⟩ := hb
  obtain ⟨L, hL⟩ : ∃ L, l.length = L := ⟨_, rfl⟩
  rw [hL] at x1 x3 k1 k3 ⊢
  have hm : L ≤ 9223372036854775807 := by omega
  replace x3 := Lib.hid x3
  replace k3 := Lib.hid k3
  go_enter Tryz.func16, Tryz.ntmps16
  go_wp2_with fail
  go_loopg [5] L (fun gk i wr => ∃ j : Nat, gk + j = L ∧ i = .int .i64 j ∧ Grew w wr)
  case atStart => exact ⟨0, rfl, rfl, Grew.refl _⟩
  case round =>
    obtain ⟨j, hj, rfl, hG⟩ := hrel
    by_cases hlt : j < L
    · obtain ⟨b, o, rfl, he⟩ := x3.out (by omega)
      obtain ⟨b9, o9, rfl, ke⟩ := k3.out (by omega)
      obtain ⟨p, hp⟩ : ∃ p, l[j]? = some p := ⟨l[j]'(by omega), List.getElem?_eq_getElem _⟩
      obtain ⟨b1, A1, n1, c1, C1, m1, d1, b2, A2, n2, c2, C2, m2, d2, ⟨e0, e1, e2, e3, e4, e5⟩, S1⟩ := he j p hp
      obtain ⟨b3, A3, n3, c3, C3, m3, d3, b4, A4, n4, c4, C4, m4, d4, ⟨f0, f1, f2, f3, f4, f5⟩, S2⟩ := ke j p hp
      have g0 : wr.cell? ⟨b, o + j * 6, none⟩ = some (.bool b1) := hG.cell e0
      have g1 : wr.cell? ⟨b, o + j * 6 + 1, none⟩ = some (.slice A1 n1 c1) := hG.cell e1
      have g2 : wr.cell? ⟨b, o + j * 6 + 2, none⟩ = some (.slice C1 m1 d1) := hG.cell e2
      have g3 : wr.cell? ⟨b, o + j * 6 + 3, none⟩ = some (.bool b2) := hG.cell e3
      have g4 : wr.cell? ⟨b, o + j * 6 + 4, none⟩ = some (.slice A2 n2 c2) := hG.cell e4
      have g5 : wr.cell? ⟨b, o + j * 6 + 5, none⟩ = some (.slice C2 m2 d2) := hG.cell e5
      have h0 : wr.cell? ⟨b9, o9 + j * 6, none⟩ = some (.bool b3) := hG.cell f0
      have h1 : wr.cell? ⟨b9, o9 + j * 6 + 1, none⟩ = some (.slice A3 n3 c3) := hG.cell f1
      have h2 : wr.cell? ⟨b9, o9 + j * 6 + 2, none⟩ = some (.slice C3 m3 d3) := hG.cell f2
      have h3 : wr.cell? ⟨b9, o9 + j * 6 + 3, none⟩ = some (.bool b4) := hG.cell f3
      have h4 : wr.cell? ⟨b9, o9 + j * 6 + 4, none⟩ = some (.slice A4 n4 c4) := hG.cell f4
      have h5 : wr.cell? ⟨b9, o9 + j * 6 + 5, none⟩ = some (.slice C4 m4 d4) := hG.cell f5
      replace S1 := Lib.hid (SpotC.kept S1 hG.keeps)
      replace S2 := Lib.hid (SpotC.kept S2 hG.keeps)
      have hjl : (j : Int) < (L : Int) := by omega
      clear e0 e1 e2 e3 e4 e5 f0 f1 f2 f3 f4 f5 he ke
      go_wp2_with fail
      go_region_held3 (fun w' => w'.cell? ⟨b, o + j * 6, none⟩ = some (.bool b1) ∧ w'.cell? ⟨b, o + j * 6 + 1, none⟩ = some (.slice A1 n1 c1) ∧ w'.cell? ⟨b, o + j * 6 + 2, none⟩ = some (.slice C1 m1 d1) ∧ w'.cell? ⟨b, o + j * 6 + 3, none⟩ = some (.bool b2) ∧ w'.cell? ⟨b, o + j * 6 + 4, none⟩ = some (.slice A2 n2 c2) ∧ w'.cell? ⟨b, o + j * 6 + 5, none⟩ = some (.slice C2 m2 d2) ∧ w'.cell? ⟨b9, o9 + j * 6, none⟩ = some (.bool b3) ∧ w'.cell? ⟨b9, o9 + j * 6 + 1, none⟩ = some (.slice A3 n3 c3) ∧ w'.cell? ⟨b9, o9 + j * 6 + 2, none⟩ = some (.slice C3 m3 d3) ∧ w'.cell? ⟨b9, o9 + j * 6 + 3, none⟩ = some (.bool b4) ∧ w'.cell? ⟨b9, o9 + j * 6 + 4, none⟩ = some (.slice A4 n4 c4) ∧ w'.cell? ⟨b9, o9 + j * 6 + 5, none⟩ = some (.slice C4 m4 d4))
        (first | exact ⟨g0, g1, g2, g3, g4, g5, h0, h1, h2, h3, h4, h5⟩ | exact ⟨gc.cell g0, gc.cell g1, gc.cell g2, gc.cell g3, gc.cell g4, gc.cell g5, gc.cell h0, gc.cell h1, gc.cell h2, gc.cell h3, gc.cell h4, gc.cell h5⟩)
        (first | (go_at_call 22; refine (r5same_yes _ _ p.1 p.2 _ (SpotC.kept S1.out ((Grew.refl wr).drew).keeps) (SpotC.kept S2.out ((Grew.refl wr).drew).keeps)).mono ?_; rintro e wx ⟨rfl, gc⟩))
      have gA := (hG.drew).trans gc
      clear g0 g1 g2 g3 g4 g5 h0 h1 h2 h3 h4 h5 gc
      go_wp2_with fail
      go_roundg (gk - 1)
      case rel => exact ⟨j + 1, by omega, by go_num, gA⟩
      case measure => omega
    · obtain rfl : j = L := by omega
      go_wp2_with fail
      go_ret
      exact ⟨rfl, hG⟩

end Go.Proofs.YtmommicmblfibaaGreat
