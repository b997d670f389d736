/- r05.Row. Condition: what comes in reads; fewer than 2^26 words, at most 2^40 spots. r18.Row, r18.Ends, r18.Same. Condition: what comes in reads; fewer than 2^26 words, at most 2^39 edges. Plain: signs of fractions. Conditions: none. Plain: points of the grid that are near; the sides of a way of the grid, over lower parts. Conditions: none. -/
import Derived.Test.YtngbcbncllfblaaGreatJSplA
import Derived.Test.YtngbcbncllfblaaGreatJSplD
import Derived.Test.YtngbcbncllfblaaGreatJR2c
import Derived.Test.YtngbcbncllfblaaGreatJKit
import Derived.Test.YtngbcbncllfblaaGreatJRowP
namespace Go.Proofs.YtngbcbncllfblaaGreat
open Go.RowKit

end Go.Proofs.YtngbcbncllfblaaGreat
namespace Go.Proofs.YtngbcbncllfblaaGreat
open Go.RowKit

set_option maxRecDepth 100000 in
set_option maxHeartbeats 16000000 in
theorem rxrow_any (v : Value) (l : List EdgeQ) (k : Nat) (w : World) (hr : RowK 12 (EdgeR k) w v l) (hq : ∀ x ∈ l, EB k x) (hk : 1 ≤ k) (hs : k < 67108864) (hl : l.length ≤ 549755813888) :
    Calls Tryz.prog 54 #[v] w fun e w' => ∃ v', e = .returned v' ∧ RowK 12 Edge12R w' v' (rowG edgeCmp l) ∧ Grew w w' := by
  obtain ⟨A, c, rfl, h1, h2, h3⟩ := hr
  obtain ⟨L, hL⟩ : ∃ L, l.length = L := ⟨_, rfl⟩
  rw [hL] at h1 hl h3
  rw [hL]
  have hm : L ≤ 9223372036854775807 := by omega
  replace h3 := Lib.hid h3
  replace hq := Lib.hid hq
  go_enter Tryz.func54, Tryz.ntmps54
  go_wp2_with fail
  go_loopg [3, 4] L (fun gk ov i wr => ∃ j : Nat, gk + j = L ∧ i = .int .i64 j ∧ RowK 12 Edge12R wr ov (rowG edgeCmp (l.take j)) ∧ Grew w wr)
  case atStart => exact ⟨0, rfl, rfl, RowK.nil _ _ _, Grew.refl _⟩
  case round =>
    obtain ⟨j, hj, rfl, hO, hG⟩ := hrel
    by_cases hlt : j < L
    · skip
      obtain ⟨b, o, rfl, he⟩ := h3.out (by omega)
      obtain ⟨x, hx⟩ : ∃ x, l[j]? = some x := ⟨l[j]'(by omega), List.getElem?_eq_getElem _⟩
      obtain ⟨b1, A1, n1, c1, C1, m1, d1, b2, A2, n2, c2, C2, m2, d2, b3, A3, n3, c3, C3, m3, d3, b4, A4, n4, c4, C4, m4, d4, ⟨e0, e1, e2, e3, e4, e5, e6, e7, e8, e9, e10, e11⟩, S1⟩ := cellsE (he j x hx)
      obtain ⟨b21, A21, n21, c21, C21, m21, d21, b22, A22, n22, c22, C22, m22, d22, b23, A23, n23, c23, C23, m23, d23, b24, A24, n24, c24, C24, m24, d24, e9, Fa, Fb⟩ := EdgeR.laid S1.out
      injection e9 with e9
      simp only [List.cons.injEq, Value.bool.injEq, Value.slice.injEq, and_true] at e9
      obtain ⟨rfl, ⟨rfl, rfl, rfl⟩, ⟨rfl, rfl, rfl⟩, rfl, ⟨rfl, rfl, rfl⟩, ⟨rfl, rfl, rfl⟩, rfl, ⟨rfl, rfl, rfl⟩, ⟨rfl, rfl, rfl⟩, rfl, ⟨rfl, rfl, rfl⟩, rfl, rfl, rfl⟩ := e9
      replace e0 : Hid (w.cell? ⟨b, o + j * 12, none⟩ = some (.bool b1)) := Lib.hid e0
      replace e1 : Hid (w.cell? ⟨b, o + j * 12 + 1, none⟩ = some (.slice A1 n1 c1)) := Lib.hid e1
      replace e2 : Hid (w.cell? ⟨b, o + j * 12 + 2, none⟩ = some (.slice C1 m1 d1)) := Lib.hid e2
      replace e3 : Hid (w.cell? ⟨b, o + j * 12 + 3, none⟩ = some (.bool b2)) := Lib.hid e3
      replace e4 : Hid (w.cell? ⟨b, o + j * 12 + 4, none⟩ = some (.slice A2 n2 c2)) := Lib.hid e4
      replace e5 : Hid (w.cell? ⟨b, o + j * 12 + 5, none⟩ = some (.slice C2 m2 d2)) := Lib.hid e5
      replace e6 : Hid (w.cell? ⟨b, o + j * 12 + 6, none⟩ = some (.bool b3)) := Lib.hid e6
      replace e7 : Hid (w.cell? ⟨b, o + j * 12 + 7, none⟩ = some (.slice A3 n3 c3)) := Lib.hid e7
      replace e8 : Hid (w.cell? ⟨b, o + j * 12 + 8, none⟩ = some (.slice C3 m3 d3)) := Lib.hid e8
      replace e9 : Hid (w.cell? ⟨b, o + j * 12 + 9, none⟩ = some (.bool b4)) := Lib.hid e9
      replace e10 : Hid (w.cell? ⟨b, o + j * 12 + 10, none⟩ = some (.slice A4 n4 c4)) := Lib.hid e10
      replace e11 : Hid (w.cell? ⟨b, o + j * 12 + 11, none⟩ = some (.slice C4 m4 d4)) := Lib.hid e11
      have hsu := Lib.hid (rowG_succ (cf := edgeCmp) l j x hx)
      have hlen := rowG_len (cf := edgeCmp) (l.take j)
      have htl : (l.take j).length = j := by rw [List.length_take]; omega
      have hqj := Lib.hid (fun y (hy : y ∈ rowG edgeCmp (l.take j)) => hq.out y (List.mem_of_mem_take ((mem_rowG ord_edge).1 hy)))
      have hqx := Lib.hid (hq.out x (List.mem_of_getElem? hx))
      have hO' := Lib.hid hO
      have hG' := Lib.hid hG
      have hjl : (j : Int) < (L : Int) := by omega
      clear he hO hG hx S1
      go_wp2_with fail
      refine wp_region_held_drew (S := fun wv => Grew w wv) (by kernel_rfl) (hG'.out.drew) (fun hHeld => ?_)
      replace hHeld := Lib.hid hHeld
      try simp only [Act.put, List.setIfInBounds_toArray, List.set_cons_zero, List.set_cons_succ]
      refine wpAnyH_takeD (i := 0) (d := 11) (v := ?_) rfl rfl (by kernel_rfl) (by kernel_rfl) (by kernel_rfl) (fun _ _ _ h => h) (Or.inl ⟨by rfl, ?_⟩) hHeld.out ?_
      rotate_left
      · intro wv hSw
        replace hSw : Hid (Grew w wv) := Lib.hid hSw
        go_simp
        try with_reducible rfl
      try simp only [Act.put, List.setIfInBounds_toArray, List.set_cons_zero, List.set_cons_succ]
      refine wpAnyH_takeD (i := 1) (d := 12) (v := ?_) rfl rfl (by kernel_rfl) (by kernel_rfl) (by kernel_rfl) (fun _ _ _ h => h) (Or.inl ⟨by rfl, ?_⟩) hHeld.out ?_
      rotate_left
      · intro wv hSw
        replace hSw : Hid (Grew w wv) := Lib.hid hSw
        go_simp
        try with_reducible rfl
      try simp only [Act.put, List.setIfInBounds_toArray, List.set_cons_zero, List.set_cons_succ]
      refine wpAnyH_takeD (i := 2) (d := 13) (v := ?_) rfl rfl (by kernel_rfl) (by kernel_rfl) (by kernel_rfl) (fun _ _ _ h => h) (Or.inl ⟨by rfl, ?_⟩) hHeld.out ?_
      rotate_left
      · intro wv hSw
        replace hSw : Hid (Grew w wv) := Lib.hid hSw
        go_simp
        try with_reducible rfl
      try simp only [Act.put, List.setIfInBounds_toArray, List.set_cons_zero, List.set_cons_succ]
      refine wpAnyH_takeD (i := 3) (d := 14) (v := ?_) rfl rfl (by kernel_rfl) (by kernel_rfl) (by kernel_rfl) (fun _ _ _ h => h) (Or.inl ⟨by rfl, ?_⟩) hHeld.out ?_
      rotate_left
      · intro wv hSw
        replace hSw : Hid (Grew w wv) := Lib.hid hSw
        go_simp
        try with_reducible rfl
      try simp only [Act.put, List.setIfInBounds_toArray, List.set_cons_zero, List.set_cons_succ]
      refine wpAnyH_takeD (i := 4) (d := 15) (v := ?_) rfl rfl (by kernel_rfl) (by kernel_rfl) (by kernel_rfl) (fun _ _ _ h => h) (Or.inl ⟨by rfl, ?_⟩) hHeld.out ?_
      rotate_left
      · intro wv hSw
        replace hSw : Hid (Grew w wv) := Lib.hid hSw
        go_simp
        try with_reducible rfl
      try simp only [Act.put, List.setIfInBounds_toArray, List.set_cons_zero, List.set_cons_succ]
      refine wpAnyH_takeD (i := 5) (d := 16) (v := ?_) rfl rfl (by kernel_rfl) (by kernel_rfl) (by kernel_rfl) (fun _ _ _ h => h) (Or.inl ⟨by rfl, ?_⟩) hHeld.out ?_
      rotate_left
      · intro wv hSw
        replace hSw : Hid (Grew w wv) := Lib.hid hSw
        have t0 := hSw.out.cell e0.out
        have t1 := hSw.out.cell e1.out
        have t2 := hSw.out.cell e2.out
        have t3 := hSw.out.cell e3.out
        have t4 := hSw.out.cell e4.out
        have t5 := hSw.out.cell e5.out
        go_simp
        try with_reducible rfl
      try simp only [Act.put, List.setIfInBounds_toArray, List.set_cons_zero, List.set_cons_succ]
      refine wpAnyH_takeD (i := 7) (d := 18) (v := ?_) rfl rfl (by kernel_rfl) (by kernel_rfl) (by kernel_rfl) (fun _ _ _ h => h) (Or.inl ⟨by rfl, ?_⟩) hHeld.out ?_
      rotate_left
      · intro wv hSw
        replace hSw : Hid (Grew w wv) := Lib.hid hSw
        go_simp
        try with_reducible rfl
      try simp only [Act.put, List.setIfInBounds_toArray, List.set_cons_zero, List.set_cons_succ]
      refine wpAnyH_takeD (i := 8) (d := 19) (v := ?_) rfl rfl (by kernel_rfl) (by kernel_rfl) (by kernel_rfl) (fun _ _ _ h => h) (Or.inl ⟨by rfl, ?_⟩) hHeld.out ?_
      rotate_left
      · intro wv hSw
        replace hSw : Hid (Grew w wv) := Lib.hid hSw
        go_simp
        try with_reducible rfl
      try simp only [Act.put, List.setIfInBounds_toArray, List.set_cons_zero, List.set_cons_succ]
      refine wpAnyH_takeD (i := 9) (d := 20) (v := ?_) rfl rfl (by kernel_rfl) (by kernel_rfl) (by kernel_rfl) (fun _ _ _ h => h) (Or.inl ⟨by rfl, ?_⟩) hHeld.out ?_
      rotate_left
      · intro wv hSw
        replace hSw : Hid (Grew w wv) := Lib.hid hSw
        go_simp
        try with_reducible rfl
      try simp only [Act.put, List.setIfInBounds_toArray, List.set_cons_zero, List.set_cons_succ]
      refine wpAnyH_takeD (i := 10) (d := 21) (v := ?_) rfl rfl (by kernel_rfl) (by kernel_rfl) (by kernel_rfl) (fun _ _ _ h => h) (Or.inl ⟨by rfl, ?_⟩) hHeld.out ?_
      rotate_left
      · intro wv hSw
        replace hSw : Hid (Grew w wv) := Lib.hid hSw
        go_simp
        try with_reducible rfl
      try simp only [Act.put, List.setIfInBounds_toArray, List.set_cons_zero, List.set_cons_succ]
      refine wpAnyH_takeD (i := 11) (d := 22) (v := ?_) rfl rfl (by kernel_rfl) (by kernel_rfl) (by kernel_rfl) (fun _ _ _ h => h) (Or.inl ⟨by rfl, ?_⟩) hHeld.out ?_
      rotate_left
      · intro wv hSw
        replace hSw : Hid (Grew w wv) := Lib.hid hSw
        have t6 := hSw.out.cell e6.out
        have t7 := hSw.out.cell e7.out
        have t8 := hSw.out.cell e8.out
        have t9 := hSw.out.cell e9.out
        have t10 := hSw.out.cell e10.out
        have t11 := hSw.out.cell e11.out
        go_simp
        try with_reducible rfl
      try simp only [Act.put, List.setIfInBounds_toArray, List.set_cons_zero, List.set_cons_succ]
      refine wpAnyH_ready (rs := [6]) (by kernel_rfl) (by simp) ?_
      refine AllReadyH.cons rfl (fun KK hKK => ?_) AllReadyH.nil
      go_simp
      refine (rxclean_any _ x.1.1 x.1.2 k _ (SpotR.kept Fa.out hHeld.out.keeps) hs).mono ?_
      rintro e wk1 ⟨V1, rfl, hV1, g⟩
      have gk := hHeld.out.trans g
      obtain ⟨b13, A13, n13, c13, C13, m13, d13, b14, A14, n14, c14, C14, m14, d14, rfl, -, -, X1⟩ := hV1.laid
      clear hV1
      have o1 := Lib.hid (RowK.grew says_edge hO'.out (((Grew.refl wr).drew).trans g))
      clear hHeld
      try dsimp only
      refine hKK.out _ _ gk (fun hHeld => ?_)
      clear gk hKK KK
      replace hHeld := Lib.hid (show Grew w wk1 from hHeld)
      try simp only [Act.put, List.setIfInBounds_toArray, List.set_cons_zero, List.set_cons_succ]
      refine wpAnyH_ready (rs := [12]) (by kernel_rfl) (by simp) ?_
      refine AllReadyH.cons rfl (fun KK hKK => ?_) AllReadyH.nil
      go_simp
      refine (rxclean_any _ x.2.1 x.2.2 k _ (SpotR.kept Fb.out hHeld.out.keeps) hs).mono ?_
      rintro e wk2 ⟨V2, rfl, hV2, g⟩
      have gk := hHeld.out.trans g
      obtain ⟨b15, A15, n15, c15, C15, m15, d15, b16, A16, n16, c16, C16, m16, d16, rfl, -, -, X2⟩ := hV2.laid
      clear hV2
      replace X1 := Lib.hid (SpotC.kept X1.out g.keeps)
      replace o1 := Lib.hid (RowK.grew says_edge o1.out g)
      clear hHeld
      try dsimp only
      refine hKK.out _ _ gk (fun hHeld => ?_)
      clear gk hKK KK
      replace hHeld := Lib.hid (show Grew w wk2 from hHeld)
      try simp only [Act.put, List.setIfInBounds_toArray, List.set_cons_zero, List.set_cons_succ]
      refine wpAnyH_takeD (i := 13) (d := 24) (v := ?_) rfl rfl (by kernel_rfl) (by kernel_rfl) (by kernel_rfl) (fun _ _ _ h => h) (Or.inl ⟨by rfl, ?_⟩) hHeld.out ?_
      rotate_left
      · intro wv hSw
        replace hSw : Hid (Grew w wv) := Lib.hid hSw
        go_simp
        try with_reducible rfl
      try simp only [Act.put, List.setIfInBounds_toArray, List.set_cons_zero, List.set_cons_succ]
      refine wpAnyH_ready (rs := [14]) (by kernel_rfl) (by simp) ?_
      refine AllReadyH.cons rfl (fun KK hKK => ?_) AllReadyH.nil
      go_simp
      refine (rput_any _ _ _ x k _ o1.out (edge_mk (e := x) X1.out X2.out) hqj.out hqx.out hk hs (by omega)).mono ?_
      rintro e wk3 ⟨V3, rfl, hV3, g⟩
      have gk := hHeld.out.trans g
      clear o1 X1 X2
      replace hV3 := Lib.hid hV3
      clear hHeld
      try dsimp only
      refine hKK.out _ _ gk (fun hHeld => ?_)
      clear gk hKK KK
      replace hHeld := Lib.hid (show Grew w wk3 from hHeld)
      try simp only [Act.put, List.setIfInBounds_toArray, List.set_cons_zero, List.set_cons_succ]
      refine wpAnyH_takeD (i := 15) (d := 3) (v := ?_) rfl rfl (by kernel_rfl) (by kernel_rfl) (by kernel_rfl) (fun _ _ _ h => h) (Or.inl ⟨by rfl, ?_⟩) hHeld.out ?_
      rotate_left
      · intro wv hSw
        replace hSw : Hid (Grew w wv) := Lib.hid hSw
        go_simp
        try with_reducible rfl
      try simp only [Act.put, List.setIfInBounds_toArray, List.set_cons_zero, List.set_cons_succ]
      refine wpAnyH_done (by kernel_rfl) ?_ _
      have hV4 : RowK 12 Edge12R wk3 V3 (rowG edgeCmp (l.take (j + 1))) := by rw [hsu.out]; exact hV3.out
      replace hV4 := Lib.hid hV4
      clear hV3
      go_wp2_with fail
      go_roundg (gk - 1)
      case rel => exact ⟨j + 1, by omega, by go_num, hV4.out, hHeld.out⟩
      case measure => omega
    · obtain rfl : j = L := by omega
      have hall : l.take j = l := by rw [← hL]; exact List.take_length
      rw [hall] at hO
      have hO' := Lib.hid hO
      have hG' := Lib.hid hG
      clear hO hG
      go_wp2_with fail
      go_ret
      exact ⟨_, rfl, hO'.out, hG'.out⟩

theorem edge_parts {w : World} {b1 b2 b3 b4 : Bool} {A1 A2 A3 A4 C1 C2 C3 C4 : Option Addr} {n1 n2 n3 n4 c1 c2 c3 c4 m1 m2 m3 m4 d1 d2 d3 d4 : Nat} {x : EdgeQ} (h : Edge12R w #[.bool b1, .slice A1 n1 c1, .slice C1 m1 d1, .bool b2, .slice A2 n2 c2, .slice C2 m2 d2, .bool b3, .slice A3 n3 c3, .slice C3 m3 d3, .bool b4, .slice A4 n4 c4, .slice C4 m4 d4] x) :
    Hid (SpotC w (.agg #[.bool b1, .slice A1 n1 c1, .slice C1 m1 d1, .bool b2, .slice A2 n2 c2, .slice C2 m2 d2]) x.1.1 x.1.2) ∧ Hid (SpotC w (.agg #[.bool b3, .slice A3 n3 c3, .slice C3 m3 d3, .bool b4, .slice A4 n4 c4, .slice C4 m4 d4]) x.2.1 x.2.2) := by
  obtain ⟨us1, us2, e, h1, h2⟩ := h
  have k1 := h1
  have k2 := h2
  obtain ⟨b5, A5, n5, c5, C5, m5, d5, b6, A6, n6, c6, C6, m6, d6, e1, -, -⟩ := k1
  obtain ⟨b7, A7, n7, c7, C7, m7, d7, b8, A8, n8, c8, C8, m8, d8, e2, -, -⟩ := k2
  injection e1 with e1
  injection e2 with e2
  subst e1
  subst e2
  injection e with e
  simp only [] at e
  obtain ⟨rfl, ⟨rfl, rfl, rfl⟩, ⟨rfl, rfl, rfl⟩, rfl, ⟨rfl, rfl, rfl⟩, ⟨rfl, rfl, rfl⟩, rfl, ⟨rfl, rfl, rfl⟩, ⟨rfl, rfl, rfl⟩, rfl, ⟨rfl, rfl, rfl⟩, rfl, rfl, rfl⟩ := e
  exact ⟨h1, h2⟩

set_option maxRecDepth 100000 in
set_option maxHeartbeats 16000000 in
theorem esame_yes (v v' : Value) (l : List EdgeQ) (w : World) (ha : RowK 12 Edge12R w v l) (hb : RowK 12 Edge12R w v' l) :
    Calls Tryz.prog 15 #[v, v'] w fun e w' => e = .returned (.bool true) ∧ Grew w w' := by
  obtain ⟨A, c, rfl, x1, x2, x3⟩ := ha
  obtain ⟨A', c', rfl, k1, k2, k3⟩ := hb
  obtain ⟨L, hL⟩ : ∃ L, l.length = L := ⟨_, rfl⟩
  rw [hL] at x1 x3 k1 k3 ⊢
  have hm : L ≤ 9223372036854775807 := by omega
  replace x3 := Lib.hid x3
  replace k3 := Lib.hid k3
  go_enter Tryz.func15, Tryz.ntmps15
  go_wp2_with fail
  go_loopg [5] L (fun gk i wr => ∃ j : Nat, gk + j = L ∧ i = .int .i64 j ∧ Grew w wr)
  case atStart => exact ⟨0, rfl, rfl, Grew.refl _⟩
  case round =>
    obtain ⟨j, hj, rfl, hG⟩ := hrel
    by_cases hlt : j < L
    · obtain ⟨b, o, rfl, he⟩ := x3.out (by omega)
      obtain ⟨b9, o9, rfl, ke⟩ := k3.out (by omega)
      obtain ⟨x, hx⟩ : ∃ x, l[j]? = some x := ⟨l[j]'(by omega), List.getElem?_eq_getElem _⟩
      obtain ⟨b1, A1, n1, c1, C1, m1, d1, b2, A2, n2, c2, C2, m2, d2, b3, A3, n3, c3, C3, m3, d3, b4, A4, n4, c4, C4, m4, d4, ⟨e0, e1, e2, e3, e4, e5, e6, e7, e8, e9, e10, e11⟩, S1⟩ := cellsC (he j x hx)
      obtain ⟨b5, A5, n5, c5, C5, m5, d5, b6, A6, n6, c6, C6, m6, d6, b7, A7, n7, c7, C7, m7, d7, b8, A8, n8, c8, C8, m8, d8, ⟨f0, f1, f2, f3, f4, f5, f6, f7, f8, f9, f10, f11⟩, S2⟩ := cellsC (ke j x hx)
      obtain ⟨A1x, A2x⟩ := edge_parts S1.out
      obtain ⟨B1x, B2x⟩ := edge_parts S2.out
      replace e0 : Hid (w.cell? ⟨b, o + j * 12, none⟩ = some (.bool b1)) := Lib.hid e0
      replace e1 : Hid (w.cell? ⟨b, o + j * 12 + 1, none⟩ = some (.slice A1 n1 c1)) := Lib.hid e1
      replace e2 : Hid (w.cell? ⟨b, o + j * 12 + 2, none⟩ = some (.slice C1 m1 d1)) := Lib.hid e2
      replace e3 : Hid (w.cell? ⟨b, o + j * 12 + 3, none⟩ = some (.bool b2)) := Lib.hid e3
      replace e4 : Hid (w.cell? ⟨b, o + j * 12 + 4, none⟩ = some (.slice A2 n2 c2)) := Lib.hid e4
      replace e5 : Hid (w.cell? ⟨b, o + j * 12 + 5, none⟩ = some (.slice C2 m2 d2)) := Lib.hid e5
      replace e6 : Hid (w.cell? ⟨b, o + j * 12 + 6, none⟩ = some (.bool b3)) := Lib.hid e6
      replace e7 : Hid (w.cell? ⟨b, o + j * 12 + 7, none⟩ = some (.slice A3 n3 c3)) := Lib.hid e7
      replace e8 : Hid (w.cell? ⟨b, o + j * 12 + 8, none⟩ = some (.slice C3 m3 d3)) := Lib.hid e8
      replace e9 : Hid (w.cell? ⟨b, o + j * 12 + 9, none⟩ = some (.bool b4)) := Lib.hid e9
      replace e10 : Hid (w.cell? ⟨b, o + j * 12 + 10, none⟩ = some (.slice A4 n4 c4)) := Lib.hid e10
      replace e11 : Hid (w.cell? ⟨b, o + j * 12 + 11, none⟩ = some (.slice C4 m4 d4)) := Lib.hid e11
      replace f0 : Hid (w.cell? ⟨b9, o9 + j * 12, none⟩ = some (.bool b5)) := Lib.hid f0
      replace f1 : Hid (w.cell? ⟨b9, o9 + j * 12 + 1, none⟩ = some (.slice A5 n5 c5)) := Lib.hid f1
      replace f2 : Hid (w.cell? ⟨b9, o9 + j * 12 + 2, none⟩ = some (.slice C5 m5 d5)) := Lib.hid f2
      replace f3 : Hid (w.cell? ⟨b9, o9 + j * 12 + 3, none⟩ = some (.bool b6)) := Lib.hid f3
      replace f4 : Hid (w.cell? ⟨b9, o9 + j * 12 + 4, none⟩ = some (.slice A6 n6 c6)) := Lib.hid f4
      replace f5 : Hid (w.cell? ⟨b9, o9 + j * 12 + 5, none⟩ = some (.slice C6 m6 d6)) := Lib.hid f5
      replace f6 : Hid (w.cell? ⟨b9, o9 + j * 12 + 6, none⟩ = some (.bool b7)) := Lib.hid f6
      replace f7 : Hid (w.cell? ⟨b9, o9 + j * 12 + 7, none⟩ = some (.slice A7 n7 c7)) := Lib.hid f7
      replace f8 : Hid (w.cell? ⟨b9, o9 + j * 12 + 8, none⟩ = some (.slice C7 m7 d7)) := Lib.hid f8
      replace f9 : Hid (w.cell? ⟨b9, o9 + j * 12 + 9, none⟩ = some (.bool b8)) := Lib.hid f9
      replace f10 : Hid (w.cell? ⟨b9, o9 + j * 12 + 10, none⟩ = some (.slice A8 n8 c8)) := Lib.hid f10
      replace f11 : Hid (w.cell? ⟨b9, o9 + j * 12 + 11, none⟩ = some (.slice C8 m8 d8)) := Lib.hid f11
      have hG' := Lib.hid hG
      have hjl : (j : Int) < (L : Int) := by omega
      clear he ke hG hx S1 S2
      go_wp2_with fail
      refine wp_region_held_drew (S := fun wv => Grew w wv) (by kernel_rfl) (hG'.out.drew) (fun hHeld => ?_)
      replace hHeld := Lib.hid hHeld
      try simp only [Act.put, List.setIfInBounds_toArray, List.set_cons_zero, List.set_cons_succ]
      refine wpAnyH_takeD (i := 0) (d := 17) (v := ?_) rfl rfl (by kernel_rfl) (by kernel_rfl) (by kernel_rfl) (fun _ _ _ h => h) (Or.inl ⟨by rfl, ?_⟩) hHeld.out ?_
      rotate_left
      · intro wv hSw
        replace hSw : Hid (Grew w wv) := Lib.hid hSw
        go_simp
        try with_reducible rfl
      try simp only [Act.put, List.setIfInBounds_toArray, List.set_cons_zero, List.set_cons_succ]
      refine wpAnyH_takeD (i := 1) (d := 18) (v := ?_) rfl rfl (by kernel_rfl) (by kernel_rfl) (by kernel_rfl) (fun _ _ _ h => h) (Or.inl ⟨by rfl, ?_⟩) hHeld.out ?_
      rotate_left
      · intro wv hSw
        replace hSw : Hid (Grew w wv) := Lib.hid hSw
        go_simp
        try with_reducible rfl
      try simp only [Act.put, List.setIfInBounds_toArray, List.set_cons_zero, List.set_cons_succ]
      refine wpAnyH_takeD (i := 2) (d := 19) (v := ?_) rfl rfl (by kernel_rfl) (by kernel_rfl) (by kernel_rfl) (fun _ _ _ h => h) (Or.inl ⟨by rfl, ?_⟩) hHeld.out ?_
      rotate_left
      · intro wv hSw
        replace hSw : Hid (Grew w wv) := Lib.hid hSw
        go_simp
        try with_reducible rfl
      try simp only [Act.put, List.setIfInBounds_toArray, List.set_cons_zero, List.set_cons_succ]
      refine wpAnyH_takeD (i := 3) (d := 20) (v := ?_) rfl rfl (by kernel_rfl) (by kernel_rfl) (by kernel_rfl) (fun _ _ _ h => h) (Or.inl ⟨by rfl, ?_⟩) hHeld.out ?_
      rotate_left
      · intro wv hSw
        replace hSw : Hid (Grew w wv) := Lib.hid hSw
        go_simp
        try with_reducible rfl
      try simp only [Act.put, List.setIfInBounds_toArray, List.set_cons_zero, List.set_cons_succ]
      refine wpAnyH_takeD (i := 4) (d := 21) (v := ?_) rfl rfl (by kernel_rfl) (by kernel_rfl) (by kernel_rfl) (fun _ _ _ h => h) (Or.inl ⟨by rfl, ?_⟩) hHeld.out ?_
      rotate_left
      · intro wv hSw
        replace hSw : Hid (Grew w wv) := Lib.hid hSw
        have t0 := hSw.out.cell e0.out
        have t1 := hSw.out.cell e1.out
        have t2 := hSw.out.cell e2.out
        have t3 := hSw.out.cell e3.out
        have t4 := hSw.out.cell e4.out
        have t5 := hSw.out.cell e5.out
        go_simp
        try with_reducible rfl
      try simp only [Act.put, List.setIfInBounds_toArray, List.set_cons_zero, List.set_cons_succ]
      refine wpAnyH_takeD (i := 5) (d := 22) (v := ?_) rfl rfl (by kernel_rfl) (by kernel_rfl) (by kernel_rfl) (fun _ _ _ h => h) (Or.inl ⟨by rfl, ?_⟩) hHeld.out ?_
      rotate_left
      · intro wv hSw
        replace hSw : Hid (Grew w wv) := Lib.hid hSw
        go_simp
        try with_reducible rfl
      try simp only [Act.put, List.setIfInBounds_toArray, List.set_cons_zero, List.set_cons_succ]
      refine wpAnyH_takeD (i := 6) (d := 23) (v := ?_) rfl rfl (by kernel_rfl) (by kernel_rfl) (by kernel_rfl) (fun _ _ _ h => h) (Or.inl ⟨by rfl, ?_⟩) hHeld.out ?_
      rotate_left
      · intro wv hSw
        replace hSw : Hid (Grew w wv) := Lib.hid hSw
        go_simp
        try with_reducible rfl
      try simp only [Act.put, List.setIfInBounds_toArray, List.set_cons_zero, List.set_cons_succ]
      refine wpAnyH_takeD (i := 7) (d := 24) (v := ?_) rfl rfl (by kernel_rfl) (by kernel_rfl) (by kernel_rfl) (fun _ _ _ h => h) (Or.inl ⟨by rfl, ?_⟩) hHeld.out ?_
      rotate_left
      · intro wv hSw
        replace hSw : Hid (Grew w wv) := Lib.hid hSw
        go_simp
        try with_reducible rfl
      try simp only [Act.put, List.setIfInBounds_toArray, List.set_cons_zero, List.set_cons_succ]
      refine wpAnyH_takeD (i := 8) (d := 25) (v := ?_) rfl rfl (by kernel_rfl) (by kernel_rfl) (by kernel_rfl) (fun _ _ _ h => h) (Or.inl ⟨by rfl, ?_⟩) hHeld.out ?_
      rotate_left
      · intro wv hSw
        replace hSw : Hid (Grew w wv) := Lib.hid hSw
        go_simp
        try with_reducible rfl
      try simp only [Act.put, List.setIfInBounds_toArray, List.set_cons_zero, List.set_cons_succ]
      refine wpAnyH_takeD (i := 9) (d := 26) (v := ?_) rfl rfl (by kernel_rfl) (by kernel_rfl) (by kernel_rfl) (fun _ _ _ h => h) (Or.inl ⟨by rfl, ?_⟩) hHeld.out ?_
      rotate_left
      · intro wv hSw
        replace hSw : Hid (Grew w wv) := Lib.hid hSw
        have t20 := hSw.out.cell f0.out
        have t21 := hSw.out.cell f1.out
        have t22 := hSw.out.cell f2.out
        have t23 := hSw.out.cell f3.out
        have t24 := hSw.out.cell f4.out
        have t25 := hSw.out.cell f5.out
        go_simp
        try with_reducible rfl
      try simp only [Act.put, List.setIfInBounds_toArray, List.set_cons_zero, List.set_cons_succ]
      refine wpAnyH_ready (rs := [10]) (by kernel_rfl) (by simp) ?_
      refine AllReadyH.cons rfl (fun KK hKK => ?_) AllReadyH.nil
      go_simp
      refine (r5same_yes _ _ x.1.1 x.1.2 _ (SpotC.kept A1x.out hHeld.out.keeps) (SpotC.kept B1x.out hHeld.out.keeps)).mono ?_
      rintro e wk1 ⟨rfl, g⟩
      have gk := hHeld.out.trans g
      clear hHeld
      try dsimp only
      refine hKK.out _ _ gk (fun hHeld => ?_)
      clear gk hKK KK
      replace hHeld := Lib.hid (show Grew w wk1 from hHeld)
      try simp only [Act.put, List.setIfInBounds_toArray, List.set_cons_zero, List.set_cons_succ]
      refine wpAnyH_takeD (i := 11) (d := 28) (v := ?_) rfl rfl (by kernel_rfl) (by kernel_rfl) (by kernel_rfl) (fun _ _ _ h => h) (Or.inl ⟨by rfl, ?_⟩) hHeld.out ?_
      rotate_left
      · intro wv hSw
        replace hSw : Hid (Grew w wv) := Lib.hid hSw
        go_simp
        try with_reducible rfl
      try simp only [Act.put, List.setIfInBounds_toArray, List.set_cons_zero, List.set_cons_succ]
      refine wpAnyH_takeD (i := 12) (d := 29) (v := ?_) rfl rfl (by kernel_rfl) (by kernel_rfl) (by kernel_rfl) (fun _ _ _ h => h) (Or.inl ⟨by rfl, ?_⟩) hHeld.out ?_
      rotate_left
      · intro wv hSw
        replace hSw : Hid (Grew w wv) := Lib.hid hSw
        go_simp
        try with_reducible rfl
      try simp only [Act.put, List.setIfInBounds_toArray, List.set_cons_zero, List.set_cons_succ]
      refine wpAnyH_takeD (i := 13) (d := 30) (v := ?_) rfl rfl (by kernel_rfl) (by kernel_rfl) (by kernel_rfl) (fun _ _ _ h => h) (Or.inl ⟨by rfl, ?_⟩) hHeld.out ?_
      rotate_left
      · intro wv hSw
        replace hSw : Hid (Grew w wv) := Lib.hid hSw
        go_simp
        try with_reducible rfl
      try simp only [Act.put, List.setIfInBounds_toArray, List.set_cons_zero, List.set_cons_succ]
      refine wpAnyH_takeD (i := 14) (d := 31) (v := ?_) rfl rfl (by kernel_rfl) (by kernel_rfl) (by kernel_rfl) (fun _ _ _ h => h) (Or.inl ⟨by rfl, ?_⟩) hHeld.out ?_
      rotate_left
      · intro wv hSw
        replace hSw : Hid (Grew w wv) := Lib.hid hSw
        go_simp
        try with_reducible rfl
      try simp only [Act.put, List.setIfInBounds_toArray, List.set_cons_zero, List.set_cons_succ]
      refine wpAnyH_takeD (i := 15) (d := 32) (v := ?_) rfl rfl (by kernel_rfl) (by kernel_rfl) (by kernel_rfl) (fun _ _ _ h => h) (Or.inl ⟨by rfl, ?_⟩) hHeld.out ?_
      rotate_left
      · intro wv hSw
        replace hSw : Hid (Grew w wv) := Lib.hid hSw
        go_simp
        try with_reducible rfl
      try simp only [Act.put, List.setIfInBounds_toArray, List.set_cons_zero, List.set_cons_succ]
      refine wpAnyH_takeD (i := 16) (d := 33) (v := ?_) rfl rfl (by kernel_rfl) (by kernel_rfl) (by kernel_rfl) (fun _ _ _ h => h) (Or.inl ⟨by rfl, ?_⟩) hHeld.out ?_
      rotate_left
      · intro wv hSw
        replace hSw : Hid (Grew w wv) := Lib.hid hSw
        go_simp
        try with_reducible rfl
      try simp only [Act.put, List.setIfInBounds_toArray, List.set_cons_zero, List.set_cons_succ]
      refine wpAnyH_takeD (i := 17) (d := 34) (v := ?_) rfl rfl (by kernel_rfl) (by kernel_rfl) (by kernel_rfl) (fun _ _ _ h => h) (Or.inl ⟨by rfl, ?_⟩) hHeld.out ?_
      rotate_left
      · intro wv hSw
        replace hSw : Hid (Grew w wv) := Lib.hid hSw
        have t6 := hSw.out.cell e6.out
        have t7 := hSw.out.cell e7.out
        have t8 := hSw.out.cell e8.out
        have t9 := hSw.out.cell e9.out
        have t10 := hSw.out.cell e10.out
        have t11 := hSw.out.cell e11.out
        go_simp
        try with_reducible rfl
      try simp only [Act.put, List.setIfInBounds_toArray, List.set_cons_zero, List.set_cons_succ]
      refine wpAnyH_takeD (i := 18) (d := 35) (v := ?_) rfl rfl (by kernel_rfl) (by kernel_rfl) (by kernel_rfl) (fun _ _ _ h => h) (Or.inl ⟨by rfl, ?_⟩) hHeld.out ?_
      rotate_left
      · intro wv hSw
        replace hSw : Hid (Grew w wv) := Lib.hid hSw
        go_simp
        try with_reducible rfl
      try simp only [Act.put, List.setIfInBounds_toArray, List.set_cons_zero, List.set_cons_succ]
      refine wpAnyH_takeD (i := 19) (d := 36) (v := ?_) rfl rfl (by kernel_rfl) (by kernel_rfl) (by kernel_rfl) (fun _ _ _ h => h) (Or.inl ⟨by rfl, ?_⟩) hHeld.out ?_
      rotate_left
      · intro wv hSw
        replace hSw : Hid (Grew w wv) := Lib.hid hSw
        go_simp
        try with_reducible rfl
      try simp only [Act.put, List.setIfInBounds_toArray, List.set_cons_zero, List.set_cons_succ]
      refine wpAnyH_takeD (i := 20) (d := 37) (v := ?_) rfl rfl (by kernel_rfl) (by kernel_rfl) (by kernel_rfl) (fun _ _ _ h => h) (Or.inl ⟨by rfl, ?_⟩) hHeld.out ?_
      rotate_left
      · intro wv hSw
        replace hSw : Hid (Grew w wv) := Lib.hid hSw
        go_simp
        try with_reducible rfl
      try simp only [Act.put, List.setIfInBounds_toArray, List.set_cons_zero, List.set_cons_succ]
      refine wpAnyH_takeD (i := 21) (d := 38) (v := ?_) rfl rfl (by kernel_rfl) (by kernel_rfl) (by kernel_rfl) (fun _ _ _ h => h) (Or.inl ⟨by rfl, ?_⟩) hHeld.out ?_
      rotate_left
      · intro wv hSw
        replace hSw : Hid (Grew w wv) := Lib.hid hSw
        go_simp
        try with_reducible rfl
      try simp only [Act.put, List.setIfInBounds_toArray, List.set_cons_zero, List.set_cons_succ]
      refine wpAnyH_takeD (i := 22) (d := 39) (v := ?_) rfl rfl (by kernel_rfl) (by kernel_rfl) (by kernel_rfl) (fun _ _ _ h => h) (Or.inl ⟨by rfl, ?_⟩) hHeld.out ?_
      rotate_left
      · intro wv hSw
        replace hSw : Hid (Grew w wv) := Lib.hid hSw
        have t26 := hSw.out.cell f6.out
        have t27 := hSw.out.cell f7.out
        have t28 := hSw.out.cell f8.out
        have t29 := hSw.out.cell f9.out
        have t30 := hSw.out.cell f10.out
        have t31 := hSw.out.cell f11.out
        go_simp
        try with_reducible rfl
      try simp only [Act.put, List.setIfInBounds_toArray, List.set_cons_zero, List.set_cons_succ]
      refine wpAnyH_ready (rs := [23]) (by kernel_rfl) (by simp) ?_
      refine AllReadyH.cons rfl (fun KK hKK => ?_) AllReadyH.nil
      go_simp
      refine (r5same_yes _ _ x.2.1 x.2.2 _ (SpotC.kept A2x.out hHeld.out.keeps) (SpotC.kept B2x.out hHeld.out.keeps)).mono ?_
      rintro e wk2 ⟨rfl, g⟩
      have gk := hHeld.out.trans g
      clear hHeld
      try dsimp only
      refine hKK.out _ _ gk (fun hHeld => ?_)
      clear gk hKK KK
      replace hHeld := Lib.hid (show Grew w wk2 from hHeld)
      try simp only [Act.put, List.setIfInBounds_toArray, List.set_cons_zero, List.set_cons_succ]
      refine wpAnyH_takeD (i := 24) (d := 41) (v := ?_) rfl rfl (by kernel_rfl) (by kernel_rfl) (by kernel_rfl) (fun _ _ _ h => h) (Or.inl ⟨by rfl, ?_⟩) hHeld.out ?_
      rotate_left
      · intro wv hSw
        replace hSw : Hid (Grew w wv) := Lib.hid hSw
        go_simp
        try with_reducible rfl
      try simp only [Act.put, List.setIfInBounds_toArray, List.set_cons_zero, List.set_cons_succ]
      refine wpAnyH_takeD (i := 25) (d := 42) (v := ?_) rfl rfl (by kernel_rfl) (by kernel_rfl) (by kernel_rfl) (fun _ _ _ h => h) (Or.inl ⟨by rfl, ?_⟩) hHeld.out ?_
      rotate_left
      · intro wv hSw
        replace hSw : Hid (Grew w wv) := Lib.hid hSw
        go_simp
        try with_reducible rfl
      try simp only [Act.put, List.setIfInBounds_toArray, List.set_cons_zero, List.set_cons_succ]
      refine wpAnyH_done (by kernel_rfl) ?_ _
      go_wp2_with fail
      go_roundg (gk - 1)
      case rel => exact ⟨j + 1, by omega, by go_num, hHeld.out⟩
      case measure => omega
    · obtain rfl : j = L := by omega
      have hG' := Lib.hid hG
      clear hG
      go_wp2_with fail
      go_ret
      exact ⟨rfl, hG'.out⟩
end Go.Proofs.YtngbcbncllfblaaGreat
namespace Go.Proofs.YtngbcbncllfblaaGreat
open Go.RowKit

end Go.Proofs.YtngbcbncllfblaaGreat
namespace Go.Proofs.YtngbcbncllfblaaGreat
open Go.RowKit

end Go.Proofs.YtngbcbncllfblaaGreat
