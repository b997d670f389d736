/- frisketlaw18.SplitClean: its walk. Condition: ints of 64 bits; fewer than 2^18 ways. How spots come in: an argument of type api.Spot reads as two fractions, of no more words than its reading's bulk. Conditions: none. -/
import Derived.Test.YtmommicmblfibaaGreatJSegsA
import Derived.Test.YtmommicmblfibaaGreatJRowP
import Derived.Test.YtmommicmblfibaaGreatRows
import Derived.WalkKit
import Derived.ProofKit
import Derived.OpenShut
import Derived.JoinedCond
import Derived.ChangeSlices
import Derived.Carry
namespace Go.Proofs.YtmommicmblfibaaGreat
open Go.RowKit

theorem piecesQ_len {l : List SegZ} (h : l.length ≤ 262144) : (piecesQ l).length ≤ 549755813888 := by
  have h1 := rowG_len (cf := edgeCmp) (l.flatMap (pieceOf l))
  have h2 := flat_len (pieceOf l) (1 + 2 * l.length) (fun s => pieceOf_len l s) l
  have h3 : l.length * (1 + 2 * l.length) ≤ 262144 * 524289 := Nat.mul_le_mul h (by omega)
  unfold piecesQ
  omega
theorem endsE_qb {l : List EdgeQ} (h : ∀ e ∈ l, EB 7 e) : ∀ p ∈ rowQ (endsE l), QB p.1 7 ∧ QB p.2 7 := by
  intro p hp
  have hp := mem_rowQ.1 hp
  unfold endsE at hp
  obtain ⟨e, he, hp⟩ := List.mem_flatMap.1 hp
  have b := h e he
  simp only [List.mem_cons, List.not_mem_nil, or_false] at hp
  rcases hp with rfl | rfl
  · exact b.1
  · exact b.2
theorem clean_end {l : List SegZ} {x : EdgeQ} {p : Rat × Rat} (hx : x ∈ piecesQ l) (hp : p ∈ rowQ (endsE (piecesQ l))) (h : onQ x.1.1 x.1.2 x.2.1 x.2.2 p.1 p.2 = true) : p = x.1 ∨ p = x.2 := by
  have hp := mem_rowQ.1 hp
  unfold endsE at hp
  obtain ⟨f, hf, hp⟩ := List.mem_flatMap.1 hp
  simp only [List.mem_cons, List.not_mem_nil, or_false] at hp
  exact clean_on hx hf hp h

set_option maxRecDepth 100000 in
set_option maxHeartbeats 16000000 in
theorem splitclean_any (v : Value) (l : List SegZ) (k : Int) (w : World) (hl : SegsR w v l) (hn : l.length ≤ 262142) (k1 : -9223372036854775808 ≤ k) (k2 : k ≤ 9223372036854775807) :
    Calls Tryz.prog 5 #[v, .int .i64 k] w fun e w' => e = .returned (.bool true) ∧ Grew w w' := by
  have hin : ∀ s ∈ l, In64 s.1.1 s.1.2 ∧ In64 s.2.1 s.2.2 := by
    obtain ⟨A, c, -, -, -, h3⟩ := id hl
    intro s hs
    obtain ⟨i, hi, rfl⟩ := List.getElem_of_mem hs
    obtain ⟨b, o, -, he⟩ := h3 (by omega)
    exact (he i _ (List.getElem?_eq_getElem hi)).2
  have hXl := piecesQ_len (l := l) (by omega)
  have hXq : ∀ e ∈ piecesQ l, EB 7 e := piecesQ_eb
  obtain ⟨A, c, rfl, l1, l2, l3⟩ := id hl
  obtain ⟨L, hL⟩ : ∃ L, l.length = L := ⟨_, rfl⟩
  rw [hL] at l1 l3 hn hl
  rw [hL]
  replace l3 := Lib.hid l3
  replace hl := Lib.hid hl
  replace hin := Lib.hid hin
  replace hL := Lib.hid hL
  go_enter Tryz.func5, Tryz.ntmps5
  go_wp2_with fail
  refine (pieces_any _ l _ hl.out (by rw [hL.out]; omega)).mono ?_
  rintro e w1 ⟨V1, rfl, hV1, g1⟩
  obtain ⟨X, hX⟩ : ∃ X, piecesQ l = X := ⟨_, rfl⟩
  rw [hX] at hV1 hXl hXq
  have hEx := hX
  obtain ⟨A1, c1, rfl, x1, x2, x3⟩ := id hV1
  have hXr := Lib.hid (edge12_r hV1 hXq)
  obtain ⟨N, hN⟩ : ∃ N, X.length = N := ⟨_, rfl⟩
  rw [hN] at x1 x3 hXl hV1 hXr
  rw [hN]
  replace hV1 := Lib.hid hV1
  replace hXq := Lib.hid hXq
  replace hX := Lib.hid hX
  replace hN := Lib.hid hN
  replace x3 := Lib.hid x3
  replace g1 := Lib.hid g1
  clear hEx
  go_wp2_with fail
  refine (xends_any _ X 7 _ hXr.out hXq.out (by omega) (by omega) (by rw [hN.out]; omega)).mono ?_
  rintro e w2 ⟨V2, rfl, hV2, g2⟩
  have hPq := endsE_qb hXq.out
  obtain ⟨P, hP⟩ : ∃ P, rowQ (endsE X) = P := ⟨_, rfl⟩
  rw [hP] at hV2 hPq
  obtain ⟨A2, c2, rfl, y1, y2, y3⟩ := id hV2
  obtain ⟨M, hM⟩ : ∃ M, P.length = M := ⟨_, rfl⟩
  rw [hM] at y1 y3 hV2
  rw [hM]
  replace hPq := Lib.hid hPq
  replace hP := Lib.hid hP
  replace hM := Lib.hid hM
  replace y3 := Lib.hid y3
  replace hV2 := Lib.hid hV2
  replace g2 := Lib.hid g2
  have hNm : N ≤ 9223372036854775807 := by omega
  have hMm : M ≤ 9223372036854775807 := by omega
  go_wp2_with fail
  go_loopg [7] N (fun gk s7 wr => ∃ j : Nat, gk + j = N ∧ s7 = .int .i64 j ∧ Grew w2 wr)
  case atStart => exact ⟨0, rfl, rfl, Grew.refl _⟩
  case round =>
    obtain ⟨j, hj, rfl, hG⟩ := hrel
    by_cases hlt : j < N
    · obtain ⟨b, o, rfl, he⟩ := x3.out (by omega)
      obtain ⟨x, hx⟩ : ∃ x, X[j]? = some x := ⟨X[j]'(by rw [hN.out]; omega), List.getElem?_eq_getElem _⟩
      obtain ⟨b1, A1, n1, c1, C1, m1, d1, b2, A2, n2, c2, C2, m2, d2, b3, A3, n3, c3, C3, m3, d3, b4, A4, n4, c4, C4, m4, d4, ⟨e0, e1, e2, e3, e4, e5, e6, e7, e8, e9, e10, e11⟩, S1⟩ := cellsC (he j x hx)
      obtain ⟨SA, SB⟩ := edge_parts S1.out
      have hxm := Lib.hid (show x ∈ piecesQ l by rw [hX.out]; exact List.mem_of_getElem? hx)
      have hqx := Lib.hid (hXq.out x (List.mem_of_getElem? hx))
      have hGw := g2.out.trans hG
      replace e0 : Hid (wr.cell? ⟨b, o + j * 12, none⟩ = some (.bool b1)) := Lib.hid (hGw.cell e0)
      replace e1 : Hid (wr.cell? ⟨b, o + j * 12 + 1, none⟩ = some (.slice A1 n1 c1)) := Lib.hid (hGw.cell e1)
      replace e2 : Hid (wr.cell? ⟨b, o + j * 12 + 2, none⟩ = some (.slice C1 m1 d1)) := Lib.hid (hGw.cell e2)
      replace e3 : Hid (wr.cell? ⟨b, o + j * 12 + 3, none⟩ = some (.bool b2)) := Lib.hid (hGw.cell e3)
      replace e4 : Hid (wr.cell? ⟨b, o + j * 12 + 4, none⟩ = some (.slice A2 n2 c2)) := Lib.hid (hGw.cell e4)
      replace e5 : Hid (wr.cell? ⟨b, o + j * 12 + 5, none⟩ = some (.slice C2 m2 d2)) := Lib.hid (hGw.cell e5)
      replace e6 : Hid (wr.cell? ⟨b, o + j * 12 + 6, none⟩ = some (.bool b3)) := Lib.hid (hGw.cell e6)
      replace e7 : Hid (wr.cell? ⟨b, o + j * 12 + 7, none⟩ = some (.slice A3 n3 c3)) := Lib.hid (hGw.cell e7)
      replace e8 : Hid (wr.cell? ⟨b, o + j * 12 + 8, none⟩ = some (.slice C3 m3 d3)) := Lib.hid (hGw.cell e8)
      replace e9 : Hid (wr.cell? ⟨b, o + j * 12 + 9, none⟩ = some (.bool b4)) := Lib.hid (hGw.cell e9)
      replace e10 : Hid (wr.cell? ⟨b, o + j * 12 + 10, none⟩ = some (.slice A4 n4 c4)) := Lib.hid (hGw.cell e10)
      replace e11 : Hid (wr.cell? ⟨b, o + j * 12 + 11, none⟩ = some (.slice C4 m4 d4)) := Lib.hid (hGw.cell e11)
      replace SA := Lib.hid (SpotC.kept SA.out hGw.keeps)
      replace SB := Lib.hid (SpotC.kept SB.out hGw.keeps)
      have hG' := Lib.hid hG
      have hjl : (j : Int) < (N : Int) := by omega
      obtain ⟨cc, hcc⟩ : ∃ cc, spotCmp x.1.1 x.1.2 x.2.1 x.2.2 = cc := ⟨_, rfl⟩
      have hc0 : ¬ (0 ≤ cc) := by
        have := spotCmp_neg.2 (clean_lt hxm.out)
        omega
      replace hcc := Lib.hid hcc
      clear he hx S1 hGw hG
      go_wp2_with fail
      refine wp_region_held_drew (S := fun wv => Grew wr wv) (by kernel_rfl) ((Grew.refl wr).drew) (fun hHeld => ?_)
      replace hHeld := Lib.hid hHeld
      try simp only [Act.put, List.setIfInBounds_toArray, List.set_cons_zero, List.set_cons_succ]
      refine wpAnyH_takeD (i := 0) (d := 20) (v := ?_) rfl rfl (by kernel_rfl) (by kernel_rfl) (by kernel_rfl) (fun _ _ _ h => h) (Or.inl ⟨by rfl, ?_⟩) hHeld.out ?_
      rotate_left
      · intro wv hSw
        replace hSw : Hid (Grew wr wv) := Lib.hid hSw
        go_simp
        try with_reducible rfl
      try simp only [Act.put, List.setIfInBounds_toArray, List.set_cons_zero, List.set_cons_succ]
      refine wpAnyH_takeD (i := 1) (d := 21) (v := ?_) rfl rfl (by kernel_rfl) (by kernel_rfl) (by kernel_rfl) (fun _ _ _ h => h) (Or.inl ⟨by rfl, ?_⟩) hHeld.out ?_
      rotate_left
      · intro wv hSw
        replace hSw : Hid (Grew wr wv) := Lib.hid hSw
        go_simp
        try with_reducible rfl
      try simp only [Act.put, List.setIfInBounds_toArray, List.set_cons_zero, List.set_cons_succ]
      refine wpAnyH_takeD (i := 2) (d := 22) (v := ?_) rfl rfl (by kernel_rfl) (by kernel_rfl) (by kernel_rfl) (fun _ _ _ h => h) (Or.inl ⟨by rfl, ?_⟩) hHeld.out ?_
      rotate_left
      · intro wv hSw
        replace hSw : Hid (Grew wr wv) := Lib.hid hSw
        go_simp
        try with_reducible rfl
      try simp only [Act.put, List.setIfInBounds_toArray, List.set_cons_zero, List.set_cons_succ]
      refine wpAnyH_takeD (i := 3) (d := 23) (v := ?_) rfl rfl (by kernel_rfl) (by kernel_rfl) (by kernel_rfl) (fun _ _ _ h => h) (Or.inl ⟨by rfl, ?_⟩) hHeld.out ?_
      rotate_left
      · intro wv hSw
        replace hSw : Hid (Grew wr wv) := Lib.hid hSw
        go_simp
        try with_reducible rfl
      try simp only [Act.put, List.setIfInBounds_toArray, List.set_cons_zero, List.set_cons_succ]
      refine wpAnyH_takeD (i := 4) (d := 24) (v := ?_) rfl rfl (by kernel_rfl) (by kernel_rfl) (by kernel_rfl) (fun _ _ _ h => h) (Or.inl ⟨by rfl, ?_⟩) hHeld.out ?_
      rotate_left
      · intro wv hSw
        replace hSw : Hid (Grew wr wv) := Lib.hid hSw
        have t0 := hSw.out.cell e0.out
        have t1 := hSw.out.cell e1.out
        have t2 := hSw.out.cell e2.out
        have t3 := hSw.out.cell e3.out
        have t4 := hSw.out.cell e4.out
        have t5 := hSw.out.cell e5.out
        go_simp
        try with_reducible rfl
      try simp only [Act.put, List.setIfInBounds_toArray, List.set_cons_zero, List.set_cons_succ]
      refine wpAnyH_takeD (i := 5) (d := 25) (v := ?_) rfl rfl (by kernel_rfl) (by kernel_rfl) (by kernel_rfl) (fun _ _ _ h => h) (Or.inl ⟨by rfl, ?_⟩) hHeld.out ?_
      rotate_left
      · intro wv hSw
        replace hSw : Hid (Grew wr wv) := Lib.hid hSw
        go_simp
        try with_reducible rfl
      try simp only [Act.put, List.setIfInBounds_toArray, List.set_cons_zero, List.set_cons_succ]
      refine wpAnyH_takeD (i := 6) (d := 26) (v := ?_) rfl rfl (by kernel_rfl) (by kernel_rfl) (by kernel_rfl) (fun _ _ _ h => h) (Or.inl ⟨by rfl, ?_⟩) hHeld.out ?_
      rotate_left
      · intro wv hSw
        replace hSw : Hid (Grew wr wv) := Lib.hid hSw
        go_simp
        try with_reducible rfl
      try simp only [Act.put, List.setIfInBounds_toArray, List.set_cons_zero, List.set_cons_succ]
      refine wpAnyH_takeD (i := 7) (d := 27) (v := ?_) rfl rfl (by kernel_rfl) (by kernel_rfl) (by kernel_rfl) (fun _ _ _ h => h) (Or.inl ⟨by rfl, ?_⟩) hHeld.out ?_
      rotate_left
      · intro wv hSw
        replace hSw : Hid (Grew wr wv) := Lib.hid hSw
        go_simp
        try with_reducible rfl
      try simp only [Act.put, List.setIfInBounds_toArray, List.set_cons_zero, List.set_cons_succ]
      refine wpAnyH_takeD (i := 8) (d := 28) (v := ?_) rfl rfl (by kernel_rfl) (by kernel_rfl) (by kernel_rfl) (fun _ _ _ h => h) (Or.inl ⟨by rfl, ?_⟩) hHeld.out ?_
      rotate_left
      · intro wv hSw
        replace hSw : Hid (Grew wr wv) := Lib.hid hSw
        go_simp
        try with_reducible rfl
      try simp only [Act.put, List.setIfInBounds_toArray, List.set_cons_zero, List.set_cons_succ]
      refine wpAnyH_takeD (i := 9) (d := 29) (v := ?_) rfl rfl (by kernel_rfl) (by kernel_rfl) (by kernel_rfl) (fun _ _ _ h => h) (Or.inl ⟨by rfl, ?_⟩) hHeld.out ?_
      rotate_left
      · intro wv hSw
        replace hSw : Hid (Grew wr wv) := Lib.hid hSw
        have t0 := hSw.out.cell e6.out
        have t1 := hSw.out.cell e7.out
        have t2 := hSw.out.cell e8.out
        have t3 := hSw.out.cell e9.out
        have t4 := hSw.out.cell e10.out
        have t5 := hSw.out.cell e11.out
        go_simp
        try with_reducible rfl
      try simp only [Act.put, List.setIfInBounds_toArray, List.set_cons_zero, List.set_cons_succ]
      refine wpAnyH_ready (rs := [10]) (by kernel_rfl) (by simp) ?_
      refine AllReadyH.cons rfl (fun KK hKK => ?_) AllReadyH.nil
      go_simp
      refine (scmp_any _ _ x.1.1 x.1.2 x.2.1 x.2.2 7 _ (SpotC.v (SpotC.kept SA.out hHeld.out.keeps) hqx.out.1.1 hqx.out.1.2) (SpotC.v (SpotC.kept SB.out hHeld.out.keeps) hqx.out.2.1 hqx.out.2.2) (by omega) (by omega)).mono ?_
      rintro e wk1 ⟨rfl, g⟩
      have gk := hHeld.out.trans g
      rw [hcc.out]
      clear hHeld
      try dsimp only
      refine hKK.out _ _ gk (fun hHeld => ?_)
      clear gk hKK KK
      replace hHeld := Lib.hid (show Grew wr wk1 from hHeld)
      try simp only [Act.put, List.setIfInBounds_toArray, List.set_cons_zero, List.set_cons_succ]
      refine wpAnyH_takeD (i := 11) (d := 31) (v := ?_) rfl rfl (by kernel_rfl) (by kernel_rfl) (by kernel_rfl) (fun _ _ _ h => h) (Or.inl ⟨by rfl, ?_⟩) hHeld.out ?_
      rotate_left
      · intro wv hSw
        replace hSw : Hid (Grew wr wv) := Lib.hid hSw
        go_simp
        try with_reducible rfl
      try simp only [Act.put, List.setIfInBounds_toArray, List.set_cons_zero, List.set_cons_succ]
      refine wpAnyH_done (by kernel_rfl) ?_ _
      have hG2 := Lib.hid (hG'.out.trans hHeld.out)
      have f0 := Lib.hid (hHeld.out.cell e0.out)
      have f1 := Lib.hid (hHeld.out.cell e1.out)
      have f2 := Lib.hid (hHeld.out.cell e2.out)
      have f3 := Lib.hid (hHeld.out.cell e3.out)
      have f4 := Lib.hid (hHeld.out.cell e4.out)
      have f5 := Lib.hid (hHeld.out.cell e5.out)
      have f6 := Lib.hid (hHeld.out.cell e6.out)
      have f7 := Lib.hid (hHeld.out.cell e7.out)
      have f8 := Lib.hid (hHeld.out.cell e8.out)
      have f9 := Lib.hid (hHeld.out.cell e9.out)
      have f10 := Lib.hid (hHeld.out.cell e10.out)
      have f11 := Lib.hid (hHeld.out.cell e11.out)
      replace SA := Lib.hid (SpotC.kept SA.out hHeld.out.keeps)
      replace SB := Lib.hid (SpotC.kept SB.out hHeld.out.keeps)
      clear e0 e1 e2 e3 e4 e5 e6 e7 e8 e9 e10 e11 hHeld hG'
      obtain ⟨G, rfl⟩ : ∃ G : Nat, G = gk := ⟨_, rfl⟩
      go_wp2_with fail
      go_loopg [8] M (fun gk s8 wr => ∃ m : Nat, gk + m = M ∧ s8 = .int .i64 m ∧ Grew wk1 wr)
      case atStart => exact ⟨0, rfl, rfl, Grew.refl _⟩
      case round =>
        obtain ⟨m, hm, rfl, hI⟩ := hrel
        by_cases hmt : m < M
        · obtain ⟨b', o', rfl, he⟩ := y3.out (by omega)
          obtain ⟨p, hp⟩ : ∃ p, P[m]? = some p := ⟨P[m]'(by rw [hM.out]; omega), List.getElem?_eq_getElem _⟩
          obtain ⟨b5, A5, n5, c5, C5, m5, d5, b6, A6, n6, c6, C6, m6, d6, ⟨z0, z1, z2, z3, z4, z5⟩, SP⟩ := he m p hp
          have hpm := Lib.hid (show p ∈ rowQ (endsE (piecesQ l)) by rw [hX.out, hP.out]; exact List.mem_of_getElem? hp)
          have hqp := Lib.hid (hPq.out p (List.mem_of_getElem? hp))
          have hGw := hG2.out.trans hI
          replace z0 : Hid (wr.cell? ⟨b', o' + m * 6, none⟩ = some (.bool b5)) := Lib.hid (hGw.cell z0)
          replace z1 : Hid (wr.cell? ⟨b', o' + m * 6 + 1, none⟩ = some (.slice A5 n5 c5)) := Lib.hid (hGw.cell z1)
          replace z2 : Hid (wr.cell? ⟨b', o' + m * 6 + 2, none⟩ = some (.slice C5 m5 d5)) := Lib.hid (hGw.cell z2)
          replace z3 : Hid (wr.cell? ⟨b', o' + m * 6 + 3, none⟩ = some (.bool b6)) := Lib.hid (hGw.cell z3)
          replace z4 : Hid (wr.cell? ⟨b', o' + m * 6 + 4, none⟩ = some (.slice A6 n6 c6)) := Lib.hid (hGw.cell z4)
          replace z5 : Hid (wr.cell? ⟨b', o' + m * 6 + 5, none⟩ = some (.slice C6 m6 d6)) := Lib.hid (hGw.cell z5)
          replace SP := Lib.hid (SpotC.kept SP hGw.keeps)
          replace SA := Lib.hid (SpotC.kept SA.out hI.keeps)
          replace SB := Lib.hid (SpotC.kept SB.out hI.keeps)
          replace f0 := Lib.hid (hI.cell f0.out)
          replace f1 := Lib.hid (hI.cell f1.out)
          replace f2 := Lib.hid (hI.cell f2.out)
          replace f3 := Lib.hid (hI.cell f3.out)
          replace f4 := Lib.hid (hI.cell f4.out)
          replace f5 := Lib.hid (hI.cell f5.out)
          replace f6 := Lib.hid (hI.cell f6.out)
          replace f7 := Lib.hid (hI.cell f7.out)
          replace f8 := Lib.hid (hI.cell f8.out)
          replace f9 := Lib.hid (hI.cell f9.out)
          replace f10 := Lib.hid (hI.cell f10.out)
          replace f11 := Lib.hid (hI.cell f11.out)
          have hI' := Lib.hid hI
          have hjl : (j : Int) < (N : Int) := by omega
          have hml : (m : Int) < (M : Int) := by omega
          obtain ⟨on, hon⟩ : ∃ on, onQ x.1.1 x.1.2 x.2.1 x.2.2 p.1 p.2 = on := ⟨_, rfl⟩
          have hce := Lib.hid (fun h : on = true => clean_end hxm.out hpm.out (by rw [hon]; exact h))
          replace hon := Lib.hid hon
          clear he hp hGw hI
          go_wp2_with fail
          cases on
          · skip
            refine wp_region_held_drew (S := fun wv => Grew wr wv) (by kernel_rfl) ((Grew.refl wr).drew) (fun hHeld => ?_)
            replace hHeld := Lib.hid hHeld
            try simp only [Act.put, List.setIfInBounds_toArray, List.set_cons_zero, List.set_cons_succ]
            refine wpAnyH_takeD (i := 0) (d := 38) (v := ?_) rfl rfl (by kernel_rfl) (by kernel_rfl) (by kernel_rfl) (fun _ _ _ h => h) (Or.inl ⟨by rfl, ?_⟩) hHeld.out ?_
            rotate_left
            · intro wv hSw
              replace hSw : Hid (Grew wr wv) := Lib.hid hSw
              go_simp
              try with_reducible rfl
            try simp only [Act.put, List.setIfInBounds_toArray, List.set_cons_zero, List.set_cons_succ]
            refine wpAnyH_takeD (i := 1) (d := 39) (v := ?_) rfl rfl (by kernel_rfl) (by kernel_rfl) (by kernel_rfl) (fun _ _ _ h => h) (Or.inl ⟨by rfl, ?_⟩) hHeld.out ?_
            rotate_left
            · intro wv hSw
              replace hSw : Hid (Grew wr wv) := Lib.hid hSw
              go_simp
              try with_reducible rfl
            try simp only [Act.put, List.setIfInBounds_toArray, List.set_cons_zero, List.set_cons_succ]
            refine wpAnyH_takeD (i := 2) (d := 40) (v := ?_) rfl rfl (by kernel_rfl) (by kernel_rfl) (by kernel_rfl) (fun _ _ _ h => h) (Or.inl ⟨by rfl, ?_⟩) hHeld.out ?_
            rotate_left
            · intro wv hSw
              replace hSw : Hid (Grew wr wv) := Lib.hid hSw
              go_simp
              try with_reducible rfl
            try simp only [Act.put, List.setIfInBounds_toArray, List.set_cons_zero, List.set_cons_succ]
            refine wpAnyH_takeD (i := 3) (d := 41) (v := ?_) rfl rfl (by kernel_rfl) (by kernel_rfl) (by kernel_rfl) (fun _ _ _ h => h) (Or.inl ⟨by rfl, ?_⟩) hHeld.out ?_
            rotate_left
            · intro wv hSw
              replace hSw : Hid (Grew wr wv) := Lib.hid hSw
              go_simp
              try with_reducible rfl
            try simp only [Act.put, List.setIfInBounds_toArray, List.set_cons_zero, List.set_cons_succ]
            refine wpAnyH_takeD (i := 4) (d := 42) (v := ?_) rfl rfl (by kernel_rfl) (by kernel_rfl) (by kernel_rfl) (fun _ _ _ h => h) (Or.inl ⟨by rfl, ?_⟩) hHeld.out ?_
            rotate_left
            · intro wv hSw
              replace hSw : Hid (Grew wr wv) := Lib.hid hSw
              have t0 := hSw.out.cell f0.out
              have t1 := hSw.out.cell f1.out
              have t2 := hSw.out.cell f2.out
              have t3 := hSw.out.cell f3.out
              have t4 := hSw.out.cell f4.out
              have t5 := hSw.out.cell f5.out
              go_simp
              try with_reducible rfl
            try simp only [Act.put, List.setIfInBounds_toArray, List.set_cons_zero, List.set_cons_succ]
            refine wpAnyH_takeD (i := 5) (d := 43) (v := ?_) rfl rfl (by kernel_rfl) (by kernel_rfl) (by kernel_rfl) (fun _ _ _ h => h) (Or.inl ⟨by rfl, ?_⟩) hHeld.out ?_
            rotate_left
            · intro wv hSw
              replace hSw : Hid (Grew wr wv) := Lib.hid hSw
              go_simp
              try with_reducible rfl
            try simp only [Act.put, List.setIfInBounds_toArray, List.set_cons_zero, List.set_cons_succ]
            refine wpAnyH_takeD (i := 6) (d := 44) (v := ?_) rfl rfl (by kernel_rfl) (by kernel_rfl) (by kernel_rfl) (fun _ _ _ h => h) (Or.inl ⟨by rfl, ?_⟩) hHeld.out ?_
            rotate_left
            · intro wv hSw
              replace hSw : Hid (Grew wr wv) := Lib.hid hSw
              go_simp
              try with_reducible rfl
            try simp only [Act.put, List.setIfInBounds_toArray, List.set_cons_zero, List.set_cons_succ]
            refine wpAnyH_takeD (i := 7) (d := 45) (v := ?_) rfl rfl (by kernel_rfl) (by kernel_rfl) (by kernel_rfl) (fun _ _ _ h => h) (Or.inl ⟨by rfl, ?_⟩) hHeld.out ?_
            rotate_left
            · intro wv hSw
              replace hSw : Hid (Grew wr wv) := Lib.hid hSw
              go_simp
              try with_reducible rfl
            try simp only [Act.put, List.setIfInBounds_toArray, List.set_cons_zero, List.set_cons_succ]
            refine wpAnyH_takeD (i := 8) (d := 46) (v := ?_) rfl rfl (by kernel_rfl) (by kernel_rfl) (by kernel_rfl) (fun _ _ _ h => h) (Or.inl ⟨by rfl, ?_⟩) hHeld.out ?_
            rotate_left
            · intro wv hSw
              replace hSw : Hid (Grew wr wv) := Lib.hid hSw
              go_simp
              try with_reducible rfl
            try simp only [Act.put, List.setIfInBounds_toArray, List.set_cons_zero, List.set_cons_succ]
            refine wpAnyH_takeD (i := 9) (d := 47) (v := ?_) rfl rfl (by kernel_rfl) (by kernel_rfl) (by kernel_rfl) (fun _ _ _ h => h) (Or.inl ⟨by rfl, ?_⟩) hHeld.out ?_
            rotate_left
            · intro wv hSw
              replace hSw : Hid (Grew wr wv) := Lib.hid hSw
              have t0 := hSw.out.cell f6.out
              have t1 := hSw.out.cell f7.out
              have t2 := hSw.out.cell f8.out
              have t3 := hSw.out.cell f9.out
              have t4 := hSw.out.cell f10.out
              have t5 := hSw.out.cell f11.out
              go_simp
              try with_reducible rfl
            try simp only [Act.put, List.setIfInBounds_toArray, List.set_cons_zero, List.set_cons_succ]
            refine wpAnyH_takeD (i := 10) (d := 48) (v := ?_) rfl rfl (by kernel_rfl) (by kernel_rfl) (by kernel_rfl) (fun _ _ _ h => h) (Or.inl ⟨by rfl, ?_⟩) hHeld.out ?_
            rotate_left
            · intro wv hSw
              replace hSw : Hid (Grew wr wv) := Lib.hid hSw
              go_simp
              try with_reducible rfl
            try simp only [Act.put, List.setIfInBounds_toArray, List.set_cons_zero, List.set_cons_succ]
            refine wpAnyH_takeD (i := 11) (d := 49) (v := ?_) rfl rfl (by kernel_rfl) (by kernel_rfl) (by kernel_rfl) (fun _ _ _ h => h) (Or.inl ⟨by rfl, ?_⟩) hHeld.out ?_
            rotate_left
            · intro wv hSw
              replace hSw : Hid (Grew wr wv) := Lib.hid hSw
              go_simp
              try with_reducible rfl
            try simp only [Act.put, List.setIfInBounds_toArray, List.set_cons_zero, List.set_cons_succ]
            refine wpAnyH_takeD (i := 12) (d := 50) (v := ?_) rfl rfl (by kernel_rfl) (by kernel_rfl) (by kernel_rfl) (fun _ _ _ h => h) (Or.inl ⟨by rfl, ?_⟩) hHeld.out ?_
            rotate_left
            · intro wv hSw
              replace hSw : Hid (Grew wr wv) := Lib.hid hSw
              go_simp
              try with_reducible rfl
            try simp only [Act.put, List.setIfInBounds_toArray, List.set_cons_zero, List.set_cons_succ]
            refine wpAnyH_takeD (i := 13) (d := 51) (v := ?_) rfl rfl (by kernel_rfl) (by kernel_rfl) (by kernel_rfl) (fun _ _ _ h => h) (Or.inl ⟨by rfl, ?_⟩) hHeld.out ?_
            rotate_left
            · intro wv hSw
              replace hSw : Hid (Grew wr wv) := Lib.hid hSw
              have t0 := hSw.out.cell z0.out
              have t1 := hSw.out.cell z1.out
              have t2 := hSw.out.cell z2.out
              have t3 := hSw.out.cell z3.out
              have t4 := hSw.out.cell z4.out
              have t5 := hSw.out.cell z5.out
              go_simp
              try with_reducible rfl
            try simp only [Act.put, List.setIfInBounds_toArray, List.set_cons_zero, List.set_cons_succ]
            refine wpAnyH_ready (rs := [14]) (by kernel_rfl) (by simp) ?_
            refine AllReadyH.cons rfl (fun KK hKK => ?_) AllReadyH.nil
            go_simp
            refine (on_any _ _ _ x.1.1 x.1.2 x.2.1 x.2.2 p.1 p.2 7 _ (SpotC.v (SpotC.kept SA.out hHeld.out.keeps) hqx.out.1.1 hqx.out.1.2) (SpotC.v (SpotC.kept SB.out hHeld.out.keeps) hqx.out.2.1 hqx.out.2.2) (SpotC.v (SpotC.kept SP.out hHeld.out.keeps) hqp.out.1 hqp.out.2) (by omega) (by omega)).mono ?_
            rintro e wk1 ⟨rfl, g⟩
            have gk := hHeld.out.trans g
            rw [hon.out]
            clear hHeld
            try dsimp only
            refine hKK.out _ _ gk (fun hHeld => ?_)
            clear gk hKK KK
            replace hHeld := Lib.hid (show Grew wr wk1 from hHeld)
            try simp only [Act.put, List.setIfInBounds_toArray, List.set_cons_zero, List.set_cons_succ]
            refine wpAnyH_takeD (i := 15) (d := 53) (v := ?_) rfl rfl (by kernel_rfl) (by kernel_rfl) (by kernel_rfl) (fun _ _ _ h => h) (Or.inl ⟨by rfl, ?_⟩) hHeld.out ?_
            rotate_left
            · intro wv hSw
              replace hSw : Hid (Grew wr wv) := Lib.hid hSw
              go_simp
              try with_reducible rfl
            try simp only [Act.put, List.setIfInBounds_toArray, List.set_cons_zero, List.set_cons_succ]
            refine wpAnyH_takeD (i := 16) (d := 54) (v := undef) rfl rfl (by kernel_rfl) (by kernel_rfl) (by kernel_rfl) (fun _ _ _ h => h) (Or.inr ⟨by rfl, rfl⟩) hHeld.out ?_
            try simp only [Act.put, List.setIfInBounds_toArray, List.set_cons_zero, List.set_cons_succ]
            refine wpAnyH_takeD (i := 17) (d := 55) (v := undef) rfl rfl (by kernel_rfl) (by kernel_rfl) (by kernel_rfl) (fun _ _ _ h => h) (Or.inr ⟨by rfl, rfl⟩) hHeld.out ?_
            try simp only [Act.put, List.setIfInBounds_toArray, List.set_cons_zero, List.set_cons_succ]
            refine wpAnyH_takeD (i := 18) (d := 56) (v := undef) rfl rfl (by kernel_rfl) (by kernel_rfl) (by kernel_rfl) (fun _ _ _ h => h) (Or.inr ⟨by rfl, rfl⟩) hHeld.out ?_
            try simp only [Act.put, List.setIfInBounds_toArray, List.set_cons_zero, List.set_cons_succ]
            refine wpAnyH_takeD (i := 19) (d := 57) (v := undef) rfl rfl (by kernel_rfl) (by kernel_rfl) (by kernel_rfl) (fun _ _ _ h => h) (Or.inr ⟨by rfl, rfl⟩) hHeld.out ?_
            try simp only [Act.put, List.setIfInBounds_toArray, List.set_cons_zero, List.set_cons_succ]
            refine wpAnyH_takeD (i := 20) (d := 58) (v := undef) rfl rfl (by kernel_rfl) (by kernel_rfl) (by kernel_rfl) (fun _ _ _ h => h) (Or.inr ⟨by rfl, rfl⟩) hHeld.out ?_
            try simp only [Act.put, List.setIfInBounds_toArray, List.set_cons_zero, List.set_cons_succ]
            refine wpAnyH_takeD (i := 21) (d := 59) (v := undef) rfl rfl (by kernel_rfl) (by kernel_rfl) (by kernel_rfl) (fun _ _ _ h => h) (Or.inr ⟨by rfl, rfl⟩) hHeld.out ?_
            try simp only [Act.put, List.setIfInBounds_toArray, List.set_cons_zero, List.set_cons_succ]
            refine wpAnyH_takeD (i := 22) (d := 60) (v := undef) rfl rfl (by kernel_rfl) (by kernel_rfl) (by kernel_rfl) (fun _ _ _ h => h) (Or.inr ⟨by rfl, rfl⟩) hHeld.out ?_
            try simp only [Act.put, List.setIfInBounds_toArray, List.set_cons_zero, List.set_cons_succ]
            refine wpAnyH_takeD (i := 23) (d := 61) (v := undef) rfl rfl (by kernel_rfl) (by kernel_rfl) (by kernel_rfl) (fun _ _ _ h => h) (Or.inr ⟨by rfl, rfl⟩) hHeld.out ?_
            try simp only [Act.put, List.setIfInBounds_toArray, List.set_cons_zero, List.set_cons_succ]
            refine wpAnyH_takeD (i := 24) (d := 62) (v := undef) rfl rfl (by kernel_rfl) (by kernel_rfl) (by kernel_rfl) (fun _ _ _ h => h) (Or.inr ⟨by rfl, rfl⟩) hHeld.out ?_
            try simp only [Act.put, List.setIfInBounds_toArray, List.set_cons_zero, List.set_cons_succ]
            refine wpAnyH_takeD (i := 25) (d := 63) (v := undef) rfl rfl (by kernel_rfl) (by kernel_rfl) (by kernel_rfl) (fun _ _ _ h => h) (Or.inr ⟨by rfl, rfl⟩) hHeld.out ?_
            try simp only [Act.put, List.setIfInBounds_toArray, List.set_cons_zero, List.set_cons_succ]
            refine wpAnyH_takeD (i := 26) (d := 64) (v := undef) rfl rfl (by kernel_rfl) (by kernel_rfl) (by kernel_rfl) (fun _ _ _ h => h) (Or.inr ⟨by rfl, rfl⟩) hHeld.out ?_
            try simp only [Act.put, List.setIfInBounds_toArray, List.set_cons_zero, List.set_cons_succ]
            refine wpAnyH_takeD (i := 27) (d := 65) (v := ?_) rfl rfl (by kernel_rfl) (by kernel_rfl) (by kernel_rfl) (fun _ _ _ h => h) (Or.inl ⟨by rfl, ?_⟩) hHeld.out ?_
            rotate_left
            · intro wv hSw
              replace hSw : Hid (Grew wr wv) := Lib.hid hSw
              go_simp
              try with_reducible rfl
            try simp only [Act.put, List.setIfInBounds_toArray, List.set_cons_zero, List.set_cons_succ]
            refine wpAnyH_takeD (i := 28) (d := 66) (v := ?_) rfl rfl (by kernel_rfl) (by kernel_rfl) (by kernel_rfl) (fun _ _ _ h => h) (Or.inl ⟨by rfl, ?_⟩) hHeld.out ?_
            rotate_left
            · intro wv hSw
              replace hSw : Hid (Grew wr wv) := Lib.hid hSw
              go_simp
              try with_reducible rfl
            try simp only [Act.put, List.setIfInBounds_toArray, List.set_cons_zero, List.set_cons_succ]
            refine wpAnyH_takeD (i := 29) (d := 67) (v := undef) rfl rfl (by kernel_rfl) (by kernel_rfl) (by kernel_rfl) (fun _ _ _ h => h) (Or.inr ⟨by rfl, rfl⟩) hHeld.out ?_
            try simp only [Act.put, List.setIfInBounds_toArray, List.set_cons_zero, List.set_cons_succ]
            refine wpAnyH_takeD (i := 30) (d := 68) (v := undef) rfl rfl (by kernel_rfl) (by kernel_rfl) (by kernel_rfl) (fun _ _ _ h => h) (Or.inr ⟨by rfl, rfl⟩) hHeld.out ?_
            try simp only [Act.put, List.setIfInBounds_toArray, List.set_cons_zero, List.set_cons_succ]
            refine wpAnyH_takeD (i := 31) (d := 69) (v := undef) rfl rfl (by kernel_rfl) (by kernel_rfl) (by kernel_rfl) (fun _ _ _ h => h) (Or.inr ⟨by rfl, rfl⟩) hHeld.out ?_
            try simp only [Act.put, List.setIfInBounds_toArray, List.set_cons_zero, List.set_cons_succ]
            refine wpAnyH_takeD (i := 32) (d := 70) (v := undef) rfl rfl (by kernel_rfl) (by kernel_rfl) (by kernel_rfl) (fun _ _ _ h => h) (Or.inr ⟨by rfl, rfl⟩) hHeld.out ?_
            try simp only [Act.put, List.setIfInBounds_toArray, List.set_cons_zero, List.set_cons_succ]
            refine wpAnyH_takeD (i := 33) (d := 71) (v := undef) rfl rfl (by kernel_rfl) (by kernel_rfl) (by kernel_rfl) (fun _ _ _ h => h) (Or.inr ⟨by rfl, rfl⟩) hHeld.out ?_
            try simp only [Act.put, List.setIfInBounds_toArray, List.set_cons_zero, List.set_cons_succ]
            refine wpAnyH_takeD (i := 34) (d := 72) (v := undef) rfl rfl (by kernel_rfl) (by kernel_rfl) (by kernel_rfl) (fun _ _ _ h => h) (Or.inr ⟨by rfl, rfl⟩) hHeld.out ?_
            try simp only [Act.put, List.setIfInBounds_toArray, List.set_cons_zero, List.set_cons_succ]
            refine wpAnyH_takeD (i := 35) (d := 73) (v := undef) rfl rfl (by kernel_rfl) (by kernel_rfl) (by kernel_rfl) (fun _ _ _ h => h) (Or.inr ⟨by rfl, rfl⟩) hHeld.out ?_
            try simp only [Act.put, List.setIfInBounds_toArray, List.set_cons_zero, List.set_cons_succ]
            refine wpAnyH_takeD (i := 36) (d := 74) (v := undef) rfl rfl (by kernel_rfl) (by kernel_rfl) (by kernel_rfl) (fun _ _ _ h => h) (Or.inr ⟨by rfl, rfl⟩) hHeld.out ?_
            try simp only [Act.put, List.setIfInBounds_toArray, List.set_cons_zero, List.set_cons_succ]
            refine wpAnyH_takeD (i := 37) (d := 75) (v := undef) rfl rfl (by kernel_rfl) (by kernel_rfl) (by kernel_rfl) (fun _ _ _ h => h) (Or.inr ⟨by rfl, rfl⟩) hHeld.out ?_
            try simp only [Act.put, List.setIfInBounds_toArray, List.set_cons_zero, List.set_cons_succ]
            refine wpAnyH_takeD (i := 38) (d := 76) (v := undef) rfl rfl (by kernel_rfl) (by kernel_rfl) (by kernel_rfl) (fun _ _ _ h => h) (Or.inr ⟨by rfl, rfl⟩) hHeld.out ?_
            try simp only [Act.put, List.setIfInBounds_toArray, List.set_cons_zero, List.set_cons_succ]
            refine wpAnyH_takeD (i := 39) (d := 77) (v := undef) rfl rfl (by kernel_rfl) (by kernel_rfl) (by kernel_rfl) (fun _ _ _ h => h) (Or.inr ⟨by rfl, rfl⟩) hHeld.out ?_
            try simp only [Act.put, List.setIfInBounds_toArray, List.set_cons_zero, List.set_cons_succ]
            refine wpAnyH_takeD (i := 40) (d := 78) (v := ?_) rfl rfl (by kernel_rfl) (by kernel_rfl) (by kernel_rfl) (fun _ _ _ h => h) (Or.inl ⟨by rfl, ?_⟩) hHeld.out ?_
            rotate_left
            · intro wv hSw
              replace hSw : Hid (Grew wr wv) := Lib.hid hSw
              go_simp
              try with_reducible rfl
            try simp only [Act.put, List.setIfInBounds_toArray, List.set_cons_zero, List.set_cons_succ]
            refine wpAnyH_done (by kernel_rfl) ?_ _
            go_wp2_with fail
            go_roundg (gk - 1)
            case rel => exact ⟨m + 1, by omega, by go_num, hI'.out.trans hHeld.out⟩
            case measure => omega
          · by_cases hpa : p = x.1
            · have hsa := Lib.hid (show (spotCmp p.1 p.2 x.1.1 x.1.2 == 0) = true by rw [spotCmp_zero.2 hpa]; rfl)
              refine wp_region_held_drew (S := fun wv => Grew wr wv) (by kernel_rfl) ((Grew.refl wr).drew) (fun hHeld => ?_)
              replace hHeld := Lib.hid hHeld
              try simp only [Act.put, List.setIfInBounds_toArray, List.set_cons_zero, List.set_cons_succ]
              refine wpAnyH_takeD (i := 0) (d := 38) (v := ?_) rfl rfl (by kernel_rfl) (by kernel_rfl) (by kernel_rfl) (fun _ _ _ h => h) (Or.inl ⟨by rfl, ?_⟩) hHeld.out ?_
              rotate_left
              · intro wv hSw
                replace hSw : Hid (Grew wr wv) := Lib.hid hSw
                go_simp
                try with_reducible rfl
              try simp only [Act.put, List.setIfInBounds_toArray, List.set_cons_zero, List.set_cons_succ]
              refine wpAnyH_takeD (i := 1) (d := 39) (v := ?_) rfl rfl (by kernel_rfl) (by kernel_rfl) (by kernel_rfl) (fun _ _ _ h => h) (Or.inl ⟨by rfl, ?_⟩) hHeld.out ?_
              rotate_left
              · intro wv hSw
                replace hSw : Hid (Grew wr wv) := Lib.hid hSw
                go_simp
                try with_reducible rfl
              try simp only [Act.put, List.setIfInBounds_toArray, List.set_cons_zero, List.set_cons_succ]
              refine wpAnyH_takeD (i := 2) (d := 40) (v := ?_) rfl rfl (by kernel_rfl) (by kernel_rfl) (by kernel_rfl) (fun _ _ _ h => h) (Or.inl ⟨by rfl, ?_⟩) hHeld.out ?_
              rotate_left
              · intro wv hSw
                replace hSw : Hid (Grew wr wv) := Lib.hid hSw
                go_simp
                try with_reducible rfl
              try simp only [Act.put, List.setIfInBounds_toArray, List.set_cons_zero, List.set_cons_succ]
              refine wpAnyH_takeD (i := 3) (d := 41) (v := ?_) rfl rfl (by kernel_rfl) (by kernel_rfl) (by kernel_rfl) (fun _ _ _ h => h) (Or.inl ⟨by rfl, ?_⟩) hHeld.out ?_
              rotate_left
              · intro wv hSw
                replace hSw : Hid (Grew wr wv) := Lib.hid hSw
                go_simp
                try with_reducible rfl
              try simp only [Act.put, List.setIfInBounds_toArray, List.set_cons_zero, List.set_cons_succ]
              refine wpAnyH_takeD (i := 4) (d := 42) (v := ?_) rfl rfl (by kernel_rfl) (by kernel_rfl) (by kernel_rfl) (fun _ _ _ h => h) (Or.inl ⟨by rfl, ?_⟩) hHeld.out ?_
              rotate_left
              · intro wv hSw
                replace hSw : Hid (Grew wr wv) := Lib.hid hSw
                have t0 := hSw.out.cell f0.out
                have t1 := hSw.out.cell f1.out
                have t2 := hSw.out.cell f2.out
                have t3 := hSw.out.cell f3.out
                have t4 := hSw.out.cell f4.out
                have t5 := hSw.out.cell f5.out
                go_simp
                try with_reducible rfl
              try simp only [Act.put, List.setIfInBounds_toArray, List.set_cons_zero, List.set_cons_succ]
              refine wpAnyH_takeD (i := 5) (d := 43) (v := ?_) rfl rfl (by kernel_rfl) (by kernel_rfl) (by kernel_rfl) (fun _ _ _ h => h) (Or.inl ⟨by rfl, ?_⟩) hHeld.out ?_
              rotate_left
              · intro wv hSw
                replace hSw : Hid (Grew wr wv) := Lib.hid hSw
                go_simp
                try with_reducible rfl
              try simp only [Act.put, List.setIfInBounds_toArray, List.set_cons_zero, List.set_cons_succ]
              refine wpAnyH_takeD (i := 6) (d := 44) (v := ?_) rfl rfl (by kernel_rfl) (by kernel_rfl) (by kernel_rfl) (fun _ _ _ h => h) (Or.inl ⟨by rfl, ?_⟩) hHeld.out ?_
              rotate_left
              · intro wv hSw
                replace hSw : Hid (Grew wr wv) := Lib.hid hSw
                go_simp
                try with_reducible rfl
              try simp only [Act.put, List.setIfInBounds_toArray, List.set_cons_zero, List.set_cons_succ]
              refine wpAnyH_takeD (i := 7) (d := 45) (v := ?_) rfl rfl (by kernel_rfl) (by kernel_rfl) (by kernel_rfl) (fun _ _ _ h => h) (Or.inl ⟨by rfl, ?_⟩) hHeld.out ?_
              rotate_left
              · intro wv hSw
                replace hSw : Hid (Grew wr wv) := Lib.hid hSw
                go_simp
                try with_reducible rfl
              try simp only [Act.put, List.setIfInBounds_toArray, List.set_cons_zero, List.set_cons_succ]
              refine wpAnyH_takeD (i := 8) (d := 46) (v := ?_) rfl rfl (by kernel_rfl) (by kernel_rfl) (by kernel_rfl) (fun _ _ _ h => h) (Or.inl ⟨by rfl, ?_⟩) hHeld.out ?_
              rotate_left
              · intro wv hSw
                replace hSw : Hid (Grew wr wv) := Lib.hid hSw
                go_simp
                try with_reducible rfl
              try simp only [Act.put, List.setIfInBounds_toArray, List.set_cons_zero, List.set_cons_succ]
              refine wpAnyH_takeD (i := 9) (d := 47) (v := ?_) rfl rfl (by kernel_rfl) (by kernel_rfl) (by kernel_rfl) (fun _ _ _ h => h) (Or.inl ⟨by rfl, ?_⟩) hHeld.out ?_
              rotate_left
              · intro wv hSw
                replace hSw : Hid (Grew wr wv) := Lib.hid hSw
                have t0 := hSw.out.cell f6.out
                have t1 := hSw.out.cell f7.out
                have t2 := hSw.out.cell f8.out
                have t3 := hSw.out.cell f9.out
                have t4 := hSw.out.cell f10.out
                have t5 := hSw.out.cell f11.out
                go_simp
                try with_reducible rfl
              try simp only [Act.put, List.setIfInBounds_toArray, List.set_cons_zero, List.set_cons_succ]
              refine wpAnyH_takeD (i := 10) (d := 48) (v := ?_) rfl rfl (by kernel_rfl) (by kernel_rfl) (by kernel_rfl) (fun _ _ _ h => h) (Or.inl ⟨by rfl, ?_⟩) hHeld.out ?_
              rotate_left
              · intro wv hSw
                replace hSw : Hid (Grew wr wv) := Lib.hid hSw
                go_simp
                try with_reducible rfl
              try simp only [Act.put, List.setIfInBounds_toArray, List.set_cons_zero, List.set_cons_succ]
              refine wpAnyH_takeD (i := 11) (d := 49) (v := ?_) rfl rfl (by kernel_rfl) (by kernel_rfl) (by kernel_rfl) (fun _ _ _ h => h) (Or.inl ⟨by rfl, ?_⟩) hHeld.out ?_
              rotate_left
              · intro wv hSw
                replace hSw : Hid (Grew wr wv) := Lib.hid hSw
                go_simp
                try with_reducible rfl
              try simp only [Act.put, List.setIfInBounds_toArray, List.set_cons_zero, List.set_cons_succ]
              refine wpAnyH_takeD (i := 12) (d := 50) (v := ?_) rfl rfl (by kernel_rfl) (by kernel_rfl) (by kernel_rfl) (fun _ _ _ h => h) (Or.inl ⟨by rfl, ?_⟩) hHeld.out ?_
              rotate_left
              · intro wv hSw
                replace hSw : Hid (Grew wr wv) := Lib.hid hSw
                go_simp
                try with_reducible rfl
              try simp only [Act.put, List.setIfInBounds_toArray, List.set_cons_zero, List.set_cons_succ]
              refine wpAnyH_takeD (i := 13) (d := 51) (v := ?_) rfl rfl (by kernel_rfl) (by kernel_rfl) (by kernel_rfl) (fun _ _ _ h => h) (Or.inl ⟨by rfl, ?_⟩) hHeld.out ?_
              rotate_left
              · intro wv hSw
                replace hSw : Hid (Grew wr wv) := Lib.hid hSw
                have t0 := hSw.out.cell z0.out
                have t1 := hSw.out.cell z1.out
                have t2 := hSw.out.cell z2.out
                have t3 := hSw.out.cell z3.out
                have t4 := hSw.out.cell z4.out
                have t5 := hSw.out.cell z5.out
                go_simp
                try with_reducible rfl
              try simp only [Act.put, List.setIfInBounds_toArray, List.set_cons_zero, List.set_cons_succ]
              refine wpAnyH_ready (rs := [14]) (by kernel_rfl) (by simp) ?_
              refine AllReadyH.cons rfl (fun KK hKK => ?_) AllReadyH.nil
              go_simp
              refine (on_any _ _ _ x.1.1 x.1.2 x.2.1 x.2.2 p.1 p.2 7 _ (SpotC.v (SpotC.kept SA.out hHeld.out.keeps) hqx.out.1.1 hqx.out.1.2) (SpotC.v (SpotC.kept SB.out hHeld.out.keeps) hqx.out.2.1 hqx.out.2.2) (SpotC.v (SpotC.kept SP.out hHeld.out.keeps) hqp.out.1 hqp.out.2) (by omega) (by omega)).mono ?_
              rintro e wk1 ⟨rfl, g⟩
              have gk := hHeld.out.trans g
              rw [hon.out]
              clear hHeld
              try dsimp only
              refine hKK.out _ _ gk (fun hHeld => ?_)
              clear gk hKK KK
              replace hHeld := Lib.hid (show Grew wr wk1 from hHeld)
              try simp only [Act.put, List.setIfInBounds_toArray, List.set_cons_zero, List.set_cons_succ]
              refine wpAnyH_takeD (i := 15) (d := 53) (v := ?_) rfl rfl (by kernel_rfl) (by kernel_rfl) (by kernel_rfl) (fun _ _ _ h => h) (Or.inl ⟨by rfl, ?_⟩) hHeld.out ?_
              rotate_left
              · intro wv hSw
                replace hSw : Hid (Grew wr wv) := Lib.hid hSw
                go_simp
                try with_reducible rfl
              try simp only [Act.put, List.setIfInBounds_toArray, List.set_cons_zero, List.set_cons_succ]
              refine wpAnyH_takeD (i := 16) (d := 54) (v := ?_) rfl rfl (by kernel_rfl) (by kernel_rfl) (by kernel_rfl) (fun _ _ _ h => h) (Or.inl ⟨by rfl, ?_⟩) hHeld.out ?_
              rotate_left
              · intro wv hSw
                replace hSw : Hid (Grew wr wv) := Lib.hid hSw
                go_simp
                try with_reducible rfl
              try simp only [Act.put, List.setIfInBounds_toArray, List.set_cons_zero, List.set_cons_succ]
              refine wpAnyH_takeD (i := 17) (d := 55) (v := ?_) rfl rfl (by kernel_rfl) (by kernel_rfl) (by kernel_rfl) (fun _ _ _ h => h) (Or.inl ⟨by rfl, ?_⟩) hHeld.out ?_
              rotate_left
              · intro wv hSw
                replace hSw : Hid (Grew wr wv) := Lib.hid hSw
                go_simp
                try with_reducible rfl
              try simp only [Act.put, List.setIfInBounds_toArray, List.set_cons_zero, List.set_cons_succ]
              refine wpAnyH_takeD (i := 18) (d := 56) (v := ?_) rfl rfl (by kernel_rfl) (by kernel_rfl) (by kernel_rfl) (fun _ _ _ h => h) (Or.inl ⟨by rfl, ?_⟩) hHeld.out ?_
              rotate_left
              · intro wv hSw
                replace hSw : Hid (Grew wr wv) := Lib.hid hSw
                go_simp
                try with_reducible rfl
              try simp only [Act.put, List.setIfInBounds_toArray, List.set_cons_zero, List.set_cons_succ]
              refine wpAnyH_takeD (i := 19) (d := 57) (v := ?_) rfl rfl (by kernel_rfl) (by kernel_rfl) (by kernel_rfl) (fun _ _ _ h => h) (Or.inl ⟨by rfl, ?_⟩) hHeld.out ?_
              rotate_left
              · intro wv hSw
                replace hSw : Hid (Grew wr wv) := Lib.hid hSw
                have t0 := hSw.out.cell z0.out
                have t1 := hSw.out.cell z1.out
                have t2 := hSw.out.cell z2.out
                have t3 := hSw.out.cell z3.out
                have t4 := hSw.out.cell z4.out
                have t5 := hSw.out.cell z5.out
                go_simp
                try with_reducible rfl
              try simp only [Act.put, List.setIfInBounds_toArray, List.set_cons_zero, List.set_cons_succ]
              refine wpAnyH_takeD (i := 20) (d := 58) (v := ?_) rfl rfl (by kernel_rfl) (by kernel_rfl) (by kernel_rfl) (fun _ _ _ h => h) (Or.inl ⟨by rfl, ?_⟩) hHeld.out ?_
              rotate_left
              · intro wv hSw
                replace hSw : Hid (Grew wr wv) := Lib.hid hSw
                go_simp
                try with_reducible rfl
              try simp only [Act.put, List.setIfInBounds_toArray, List.set_cons_zero, List.set_cons_succ]
              refine wpAnyH_takeD (i := 21) (d := 59) (v := ?_) rfl rfl (by kernel_rfl) (by kernel_rfl) (by kernel_rfl) (fun _ _ _ h => h) (Or.inl ⟨by rfl, ?_⟩) hHeld.out ?_
              rotate_left
              · intro wv hSw
                replace hSw : Hid (Grew wr wv) := Lib.hid hSw
                go_simp
                try with_reducible rfl
              try simp only [Act.put, List.setIfInBounds_toArray, List.set_cons_zero, List.set_cons_succ]
              refine wpAnyH_takeD (i := 22) (d := 60) (v := ?_) rfl rfl (by kernel_rfl) (by kernel_rfl) (by kernel_rfl) (fun _ _ _ h => h) (Or.inl ⟨by rfl, ?_⟩) hHeld.out ?_
              rotate_left
              · intro wv hSw
                replace hSw : Hid (Grew wr wv) := Lib.hid hSw
                go_simp
                try with_reducible rfl
              try simp only [Act.put, List.setIfInBounds_toArray, List.set_cons_zero, List.set_cons_succ]
              refine wpAnyH_takeD (i := 23) (d := 61) (v := ?_) rfl rfl (by kernel_rfl) (by kernel_rfl) (by kernel_rfl) (fun _ _ _ h => h) (Or.inl ⟨by rfl, ?_⟩) hHeld.out ?_
              rotate_left
              · intro wv hSw
                replace hSw : Hid (Grew wr wv) := Lib.hid hSw
                go_simp
                try with_reducible rfl
              try simp only [Act.put, List.setIfInBounds_toArray, List.set_cons_zero, List.set_cons_succ]
              refine wpAnyH_takeD (i := 24) (d := 62) (v := ?_) rfl rfl (by kernel_rfl) (by kernel_rfl) (by kernel_rfl) (fun _ _ _ h => h) (Or.inl ⟨by rfl, ?_⟩) hHeld.out ?_
              rotate_left
              · intro wv hSw
                replace hSw : Hid (Grew wr wv) := Lib.hid hSw
                have t0 := hSw.out.cell f0.out
                have t1 := hSw.out.cell f1.out
                have t2 := hSw.out.cell f2.out
                have t3 := hSw.out.cell f3.out
                have t4 := hSw.out.cell f4.out
                have t5 := hSw.out.cell f5.out
                go_simp
                try with_reducible rfl
              try simp only [Act.put, List.setIfInBounds_toArray, List.set_cons_zero, List.set_cons_succ]
              refine wpAnyH_ready (rs := [25]) (by kernel_rfl) (by simp) ?_
              refine AllReadyH.cons rfl (fun KK hKK => ?_) AllReadyH.nil
              go_simp
              refine (ssame_any _ _ p.1 p.2 x.1.1 x.1.2 7 _ (SpotC.v (SpotC.kept SP.out hHeld.out.keeps) hqp.out.1 hqp.out.2) (SpotC.v (SpotC.kept SA.out hHeld.out.keeps) hqx.out.1.1 hqx.out.1.2) (by omega) (by omega)).mono ?_
              rintro e wk2 ⟨rfl, g⟩
              have gk := hHeld.out.trans g
              rw [hsa.out]
              clear hHeld
              try dsimp only
              refine hKK.out _ _ gk (fun hHeld => ?_)
              clear gk hKK KK
              replace hHeld := Lib.hid (show Grew wr wk2 from hHeld)
              try simp only [Act.put, List.setIfInBounds_toArray, List.set_cons_zero, List.set_cons_succ]
              refine wpAnyH_takeD (i := 26) (d := 64) (v := ?_) rfl rfl (by kernel_rfl) (by kernel_rfl) (by kernel_rfl) (fun _ _ _ h => h) (Or.inl ⟨by rfl, ?_⟩) hHeld.out ?_
              rotate_left
              · intro wv hSw
                replace hSw : Hid (Grew wr wv) := Lib.hid hSw
                go_simp
                try with_reducible rfl
              try simp only [Act.put, List.setIfInBounds_toArray, List.set_cons_zero, List.set_cons_succ]
              refine wpAnyH_takeD (i := 27) (d := 65) (v := ?_) rfl rfl (by kernel_rfl) (by kernel_rfl) (by kernel_rfl) (fun _ _ _ h => h) (Or.inl ⟨by rfl, ?_⟩) hHeld.out ?_
              rotate_left
              · intro wv hSw
                replace hSw : Hid (Grew wr wv) := Lib.hid hSw
                go_simp
                try with_reducible rfl
              try simp only [Act.put, List.setIfInBounds_toArray, List.set_cons_zero, List.set_cons_succ]
              refine wpAnyH_takeD (i := 28) (d := 66) (v := ?_) rfl rfl (by kernel_rfl) (by kernel_rfl) (by kernel_rfl) (fun _ _ _ h => h) (Or.inl ⟨by rfl, ?_⟩) hHeld.out ?_
              rotate_left
              · intro wv hSw
                replace hSw : Hid (Grew wr wv) := Lib.hid hSw
                go_simp
                try with_reducible rfl
              try simp only [Act.put, List.setIfInBounds_toArray, List.set_cons_zero, List.set_cons_succ]
              refine wpAnyH_takeD (i := 29) (d := 67) (v := undef) rfl rfl (by kernel_rfl) (by kernel_rfl) (by kernel_rfl) (fun _ _ _ h => h) (Or.inr ⟨by rfl, rfl⟩) hHeld.out ?_
              try simp only [Act.put, List.setIfInBounds_toArray, List.set_cons_zero, List.set_cons_succ]
              refine wpAnyH_takeD (i := 30) (d := 68) (v := undef) rfl rfl (by kernel_rfl) (by kernel_rfl) (by kernel_rfl) (fun _ _ _ h => h) (Or.inr ⟨by rfl, rfl⟩) hHeld.out ?_
              try simp only [Act.put, List.setIfInBounds_toArray, List.set_cons_zero, List.set_cons_succ]
              refine wpAnyH_takeD (i := 31) (d := 69) (v := undef) rfl rfl (by kernel_rfl) (by kernel_rfl) (by kernel_rfl) (fun _ _ _ h => h) (Or.inr ⟨by rfl, rfl⟩) hHeld.out ?_
              try simp only [Act.put, List.setIfInBounds_toArray, List.set_cons_zero, List.set_cons_succ]
              refine wpAnyH_takeD (i := 32) (d := 70) (v := undef) rfl rfl (by kernel_rfl) (by kernel_rfl) (by kernel_rfl) (fun _ _ _ h => h) (Or.inr ⟨by rfl, rfl⟩) hHeld.out ?_
              try simp only [Act.put, List.setIfInBounds_toArray, List.set_cons_zero, List.set_cons_succ]
              refine wpAnyH_takeD (i := 33) (d := 71) (v := undef) rfl rfl (by kernel_rfl) (by kernel_rfl) (by kernel_rfl) (fun _ _ _ h => h) (Or.inr ⟨by rfl, rfl⟩) hHeld.out ?_
              try simp only [Act.put, List.setIfInBounds_toArray, List.set_cons_zero, List.set_cons_succ]
              refine wpAnyH_takeD (i := 34) (d := 72) (v := undef) rfl rfl (by kernel_rfl) (by kernel_rfl) (by kernel_rfl) (fun _ _ _ h => h) (Or.inr ⟨by rfl, rfl⟩) hHeld.out ?_
              try simp only [Act.put, List.setIfInBounds_toArray, List.set_cons_zero, List.set_cons_succ]
              refine wpAnyH_takeD (i := 35) (d := 73) (v := undef) rfl rfl (by kernel_rfl) (by kernel_rfl) (by kernel_rfl) (fun _ _ _ h => h) (Or.inr ⟨by rfl, rfl⟩) hHeld.out ?_
              try simp only [Act.put, List.setIfInBounds_toArray, List.set_cons_zero, List.set_cons_succ]
              refine wpAnyH_takeD (i := 36) (d := 74) (v := undef) rfl rfl (by kernel_rfl) (by kernel_rfl) (by kernel_rfl) (fun _ _ _ h => h) (Or.inr ⟨by rfl, rfl⟩) hHeld.out ?_
              try simp only [Act.put, List.setIfInBounds_toArray, List.set_cons_zero, List.set_cons_succ]
              refine wpAnyH_takeD (i := 37) (d := 75) (v := undef) rfl rfl (by kernel_rfl) (by kernel_rfl) (by kernel_rfl) (fun _ _ _ h => h) (Or.inr ⟨by rfl, rfl⟩) hHeld.out ?_
              try simp only [Act.put, List.setIfInBounds_toArray, List.set_cons_zero, List.set_cons_succ]
              refine wpAnyH_takeD (i := 38) (d := 76) (v := undef) rfl rfl (by kernel_rfl) (by kernel_rfl) (by kernel_rfl) (fun _ _ _ h => h) (Or.inr ⟨by rfl, rfl⟩) hHeld.out ?_
              try simp only [Act.put, List.setIfInBounds_toArray, List.set_cons_zero, List.set_cons_succ]
              refine wpAnyH_takeD (i := 39) (d := 77) (v := undef) rfl rfl (by kernel_rfl) (by kernel_rfl) (by kernel_rfl) (fun _ _ _ h => h) (Or.inr ⟨by rfl, rfl⟩) hHeld.out ?_
              try simp only [Act.put, List.setIfInBounds_toArray, List.set_cons_zero, List.set_cons_succ]
              refine wpAnyH_takeD (i := 40) (d := 78) (v := ?_) rfl rfl (by kernel_rfl) (by kernel_rfl) (by kernel_rfl) (fun _ _ _ h => h) (Or.inl ⟨by rfl, ?_⟩) hHeld.out ?_
              rotate_left
              · intro wv hSw
                replace hSw : Hid (Grew wr wv) := Lib.hid hSw
                go_simp
                try with_reducible rfl
              try simp only [Act.put, List.setIfInBounds_toArray, List.set_cons_zero, List.set_cons_succ]
              refine wpAnyH_done (by kernel_rfl) ?_ _
              go_wp2_with fail
              go_roundg (gk - 1)
              case rel => exact ⟨m + 1, by omega, by go_num, hI'.out.trans hHeld.out⟩
              case measure => omega
            · have hpb := (hce.out rfl).resolve_left hpa
              have hsa := Lib.hid (show (spotCmp p.1 p.2 x.1.1 x.1.2 == 0) = false from beq_eq_false_iff_ne.2 fun h => hpa (spotCmp_zero.1 h))
              have hsb := Lib.hid (show (spotCmp p.1 p.2 x.2.1 x.2.2 == 0) = true by rw [spotCmp_zero.2 hpb]; rfl)
              clear hpa hpb
              refine wp_region_held_drew (S := fun wv => Grew wr wv) (by kernel_rfl) ((Grew.refl wr).drew) (fun hHeld => ?_)
              replace hHeld := Lib.hid hHeld
              try simp only [Act.put, List.setIfInBounds_toArray, List.set_cons_zero, List.set_cons_succ]
              refine wpAnyH_takeD (i := 0) (d := 38) (v := ?_) rfl rfl (by kernel_rfl) (by kernel_rfl) (by kernel_rfl) (fun _ _ _ h => h) (Or.inl ⟨by rfl, ?_⟩) hHeld.out ?_
              rotate_left
              · intro wv hSw
                replace hSw : Hid (Grew wr wv) := Lib.hid hSw
                go_simp
                try with_reducible rfl
              try simp only [Act.put, List.setIfInBounds_toArray, List.set_cons_zero, List.set_cons_succ]
              refine wpAnyH_takeD (i := 1) (d := 39) (v := ?_) rfl rfl (by kernel_rfl) (by kernel_rfl) (by kernel_rfl) (fun _ _ _ h => h) (Or.inl ⟨by rfl, ?_⟩) hHeld.out ?_
              rotate_left
              · intro wv hSw
                replace hSw : Hid (Grew wr wv) := Lib.hid hSw
                go_simp
                try with_reducible rfl
              try simp only [Act.put, List.setIfInBounds_toArray, List.set_cons_zero, List.set_cons_succ]
              refine wpAnyH_takeD (i := 2) (d := 40) (v := ?_) rfl rfl (by kernel_rfl) (by kernel_rfl) (by kernel_rfl) (fun _ _ _ h => h) (Or.inl ⟨by rfl, ?_⟩) hHeld.out ?_
              rotate_left
              · intro wv hSw
                replace hSw : Hid (Grew wr wv) := Lib.hid hSw
                go_simp
                try with_reducible rfl
              try simp only [Act.put, List.setIfInBounds_toArray, List.set_cons_zero, List.set_cons_succ]
              refine wpAnyH_takeD (i := 3) (d := 41) (v := ?_) rfl rfl (by kernel_rfl) (by kernel_rfl) (by kernel_rfl) (fun _ _ _ h => h) (Or.inl ⟨by rfl, ?_⟩) hHeld.out ?_
              rotate_left
              · intro wv hSw
                replace hSw : Hid (Grew wr wv) := Lib.hid hSw
                go_simp
                try with_reducible rfl
              try simp only [Act.put, List.setIfInBounds_toArray, List.set_cons_zero, List.set_cons_succ]
              refine wpAnyH_takeD (i := 4) (d := 42) (v := ?_) rfl rfl (by kernel_rfl) (by kernel_rfl) (by kernel_rfl) (fun _ _ _ h => h) (Or.inl ⟨by rfl, ?_⟩) hHeld.out ?_
              rotate_left
              · intro wv hSw
                replace hSw : Hid (Grew wr wv) := Lib.hid hSw
                have t0 := hSw.out.cell f0.out
                have t1 := hSw.out.cell f1.out
                have t2 := hSw.out.cell f2.out
                have t3 := hSw.out.cell f3.out
                have t4 := hSw.out.cell f4.out
                have t5 := hSw.out.cell f5.out
                go_simp
                try with_reducible rfl
              try simp only [Act.put, List.setIfInBounds_toArray, List.set_cons_zero, List.set_cons_succ]
              refine wpAnyH_takeD (i := 5) (d := 43) (v := ?_) rfl rfl (by kernel_rfl) (by kernel_rfl) (by kernel_rfl) (fun _ _ _ h => h) (Or.inl ⟨by rfl, ?_⟩) hHeld.out ?_
              rotate_left
              · intro wv hSw
                replace hSw : Hid (Grew wr wv) := Lib.hid hSw
                go_simp
                try with_reducible rfl
              try simp only [Act.put, List.setIfInBounds_toArray, List.set_cons_zero, List.set_cons_succ]
              refine wpAnyH_takeD (i := 6) (d := 44) (v := ?_) rfl rfl (by kernel_rfl) (by kernel_rfl) (by kernel_rfl) (fun _ _ _ h => h) (Or.inl ⟨by rfl, ?_⟩) hHeld.out ?_
              rotate_left
              · intro wv hSw
                replace hSw : Hid (Grew wr wv) := Lib.hid hSw
                go_simp
                try with_reducible rfl
              try simp only [Act.put, List.setIfInBounds_toArray, List.set_cons_zero, List.set_cons_succ]
              refine wpAnyH_takeD (i := 7) (d := 45) (v := ?_) rfl rfl (by kernel_rfl) (by kernel_rfl) (by kernel_rfl) (fun _ _ _ h => h) (Or.inl ⟨by rfl, ?_⟩) hHeld.out ?_
              rotate_left
              · intro wv hSw
                replace hSw : Hid (Grew wr wv) := Lib.hid hSw
                go_simp
                try with_reducible rfl
              try simp only [Act.put, List.setIfInBounds_toArray, List.set_cons_zero, List.set_cons_succ]
              refine wpAnyH_takeD (i := 8) (d := 46) (v := ?_) rfl rfl (by kernel_rfl) (by kernel_rfl) (by kernel_rfl) (fun _ _ _ h => h) (Or.inl ⟨by rfl, ?_⟩) hHeld.out ?_
              rotate_left
              · intro wv hSw
                replace hSw : Hid (Grew wr wv) := Lib.hid hSw
                go_simp
                try with_reducible rfl
              try simp only [Act.put, List.setIfInBounds_toArray, List.set_cons_zero, List.set_cons_succ]
              refine wpAnyH_takeD (i := 9) (d := 47) (v := ?_) rfl rfl (by kernel_rfl) (by kernel_rfl) (by kernel_rfl) (fun _ _ _ h => h) (Or.inl ⟨by rfl, ?_⟩) hHeld.out ?_
              rotate_left
              · intro wv hSw
                replace hSw : Hid (Grew wr wv) := Lib.hid hSw
                have t0 := hSw.out.cell f6.out
                have t1 := hSw.out.cell f7.out
                have t2 := hSw.out.cell f8.out
                have t3 := hSw.out.cell f9.out
                have t4 := hSw.out.cell f10.out
                have t5 := hSw.out.cell f11.out
                go_simp
                try with_reducible rfl
              try simp only [Act.put, List.setIfInBounds_toArray, List.set_cons_zero, List.set_cons_succ]
              refine wpAnyH_takeD (i := 10) (d := 48) (v := ?_) rfl rfl (by kernel_rfl) (by kernel_rfl) (by kernel_rfl) (fun _ _ _ h => h) (Or.inl ⟨by rfl, ?_⟩) hHeld.out ?_
              rotate_left
              · intro wv hSw
                replace hSw : Hid (Grew wr wv) := Lib.hid hSw
                go_simp
                try with_reducible rfl
              try simp only [Act.put, List.setIfInBounds_toArray, List.set_cons_zero, List.set_cons_succ]
              refine wpAnyH_takeD (i := 11) (d := 49) (v := ?_) rfl rfl (by kernel_rfl) (by kernel_rfl) (by kernel_rfl) (fun _ _ _ h => h) (Or.inl ⟨by rfl, ?_⟩) hHeld.out ?_
              rotate_left
              · intro wv hSw
                replace hSw : Hid (Grew wr wv) := Lib.hid hSw
                go_simp
                try with_reducible rfl
              try simp only [Act.put, List.setIfInBounds_toArray, List.set_cons_zero, List.set_cons_succ]
              refine wpAnyH_takeD (i := 12) (d := 50) (v := ?_) rfl rfl (by kernel_rfl) (by kernel_rfl) (by kernel_rfl) (fun _ _ _ h => h) (Or.inl ⟨by rfl, ?_⟩) hHeld.out ?_
              rotate_left
              · intro wv hSw
                replace hSw : Hid (Grew wr wv) := Lib.hid hSw
                go_simp
                try with_reducible rfl
              try simp only [Act.put, List.setIfInBounds_toArray, List.set_cons_zero, List.set_cons_succ]
              refine wpAnyH_takeD (i := 13) (d := 51) (v := ?_) rfl rfl (by kernel_rfl) (by kernel_rfl) (by kernel_rfl) (fun _ _ _ h => h) (Or.inl ⟨by rfl, ?_⟩) hHeld.out ?_
              rotate_left
              · intro wv hSw
                replace hSw : Hid (Grew wr wv) := Lib.hid hSw
                have t0 := hSw.out.cell z0.out
                have t1 := hSw.out.cell z1.out
                have t2 := hSw.out.cell z2.out
                have t3 := hSw.out.cell z3.out
                have t4 := hSw.out.cell z4.out
                have t5 := hSw.out.cell z5.out
                go_simp
                try with_reducible rfl
              try simp only [Act.put, List.setIfInBounds_toArray, List.set_cons_zero, List.set_cons_succ]
              refine wpAnyH_ready (rs := [14]) (by kernel_rfl) (by simp) ?_
              refine AllReadyH.cons rfl (fun KK hKK => ?_) AllReadyH.nil
              go_simp
              refine (on_any _ _ _ x.1.1 x.1.2 x.2.1 x.2.2 p.1 p.2 7 _ (SpotC.v (SpotC.kept SA.out hHeld.out.keeps) hqx.out.1.1 hqx.out.1.2) (SpotC.v (SpotC.kept SB.out hHeld.out.keeps) hqx.out.2.1 hqx.out.2.2) (SpotC.v (SpotC.kept SP.out hHeld.out.keeps) hqp.out.1 hqp.out.2) (by omega) (by omega)).mono ?_
              rintro e wk1 ⟨rfl, g⟩
              have gk := hHeld.out.trans g
              rw [hon.out]
              clear hHeld
              try dsimp only
              refine hKK.out _ _ gk (fun hHeld => ?_)
              clear gk hKK KK
              replace hHeld := Lib.hid (show Grew wr wk1 from hHeld)
              try simp only [Act.put, List.setIfInBounds_toArray, List.set_cons_zero, List.set_cons_succ]
              refine wpAnyH_takeD (i := 15) (d := 53) (v := ?_) rfl rfl (by kernel_rfl) (by kernel_rfl) (by kernel_rfl) (fun _ _ _ h => h) (Or.inl ⟨by rfl, ?_⟩) hHeld.out ?_
              rotate_left
              · intro wv hSw
                replace hSw : Hid (Grew wr wv) := Lib.hid hSw
                go_simp
                try with_reducible rfl
              try simp only [Act.put, List.setIfInBounds_toArray, List.set_cons_zero, List.set_cons_succ]
              refine wpAnyH_takeD (i := 16) (d := 54) (v := ?_) rfl rfl (by kernel_rfl) (by kernel_rfl) (by kernel_rfl) (fun _ _ _ h => h) (Or.inl ⟨by rfl, ?_⟩) hHeld.out ?_
              rotate_left
              · intro wv hSw
                replace hSw : Hid (Grew wr wv) := Lib.hid hSw
                go_simp
                try with_reducible rfl
              try simp only [Act.put, List.setIfInBounds_toArray, List.set_cons_zero, List.set_cons_succ]
              refine wpAnyH_takeD (i := 17) (d := 55) (v := ?_) rfl rfl (by kernel_rfl) (by kernel_rfl) (by kernel_rfl) (fun _ _ _ h => h) (Or.inl ⟨by rfl, ?_⟩) hHeld.out ?_
              rotate_left
              · intro wv hSw
                replace hSw : Hid (Grew wr wv) := Lib.hid hSw
                go_simp
                try with_reducible rfl
              try simp only [Act.put, List.setIfInBounds_toArray, List.set_cons_zero, List.set_cons_succ]
              refine wpAnyH_takeD (i := 18) (d := 56) (v := ?_) rfl rfl (by kernel_rfl) (by kernel_rfl) (by kernel_rfl) (fun _ _ _ h => h) (Or.inl ⟨by rfl, ?_⟩) hHeld.out ?_
              rotate_left
              · intro wv hSw
                replace hSw : Hid (Grew wr wv) := Lib.hid hSw
                go_simp
                try with_reducible rfl
              try simp only [Act.put, List.setIfInBounds_toArray, List.set_cons_zero, List.set_cons_succ]
              refine wpAnyH_takeD (i := 19) (d := 57) (v := ?_) rfl rfl (by kernel_rfl) (by kernel_rfl) (by kernel_rfl) (fun _ _ _ h => h) (Or.inl ⟨by rfl, ?_⟩) hHeld.out ?_
              rotate_left
              · intro wv hSw
                replace hSw : Hid (Grew wr wv) := Lib.hid hSw
                have t0 := hSw.out.cell z0.out
                have t1 := hSw.out.cell z1.out
                have t2 := hSw.out.cell z2.out
                have t3 := hSw.out.cell z3.out
                have t4 := hSw.out.cell z4.out
                have t5 := hSw.out.cell z5.out
                go_simp
                try with_reducible rfl
              try simp only [Act.put, List.setIfInBounds_toArray, List.set_cons_zero, List.set_cons_succ]
              refine wpAnyH_takeD (i := 20) (d := 58) (v := ?_) rfl rfl (by kernel_rfl) (by kernel_rfl) (by kernel_rfl) (fun _ _ _ h => h) (Or.inl ⟨by rfl, ?_⟩) hHeld.out ?_
              rotate_left
              · intro wv hSw
                replace hSw : Hid (Grew wr wv) := Lib.hid hSw
                go_simp
                try with_reducible rfl
              try simp only [Act.put, List.setIfInBounds_toArray, List.set_cons_zero, List.set_cons_succ]
              refine wpAnyH_takeD (i := 21) (d := 59) (v := ?_) rfl rfl (by kernel_rfl) (by kernel_rfl) (by kernel_rfl) (fun _ _ _ h => h) (Or.inl ⟨by rfl, ?_⟩) hHeld.out ?_
              rotate_left
              · intro wv hSw
                replace hSw : Hid (Grew wr wv) := Lib.hid hSw
                go_simp
                try with_reducible rfl
              try simp only [Act.put, List.setIfInBounds_toArray, List.set_cons_zero, List.set_cons_succ]
              refine wpAnyH_takeD (i := 22) (d := 60) (v := ?_) rfl rfl (by kernel_rfl) (by kernel_rfl) (by kernel_rfl) (fun _ _ _ h => h) (Or.inl ⟨by rfl, ?_⟩) hHeld.out ?_
              rotate_left
              · intro wv hSw
                replace hSw : Hid (Grew wr wv) := Lib.hid hSw
                go_simp
                try with_reducible rfl
              try simp only [Act.put, List.setIfInBounds_toArray, List.set_cons_zero, List.set_cons_succ]
              refine wpAnyH_takeD (i := 23) (d := 61) (v := ?_) rfl rfl (by kernel_rfl) (by kernel_rfl) (by kernel_rfl) (fun _ _ _ h => h) (Or.inl ⟨by rfl, ?_⟩) hHeld.out ?_
              rotate_left
              · intro wv hSw
                replace hSw : Hid (Grew wr wv) := Lib.hid hSw
                go_simp
                try with_reducible rfl
              try simp only [Act.put, List.setIfInBounds_toArray, List.set_cons_zero, List.set_cons_succ]
              refine wpAnyH_takeD (i := 24) (d := 62) (v := ?_) rfl rfl (by kernel_rfl) (by kernel_rfl) (by kernel_rfl) (fun _ _ _ h => h) (Or.inl ⟨by rfl, ?_⟩) hHeld.out ?_
              rotate_left
              · intro wv hSw
                replace hSw : Hid (Grew wr wv) := Lib.hid hSw
                have t0 := hSw.out.cell f0.out
                have t1 := hSw.out.cell f1.out
                have t2 := hSw.out.cell f2.out
                have t3 := hSw.out.cell f3.out
                have t4 := hSw.out.cell f4.out
                have t5 := hSw.out.cell f5.out
                go_simp
                try with_reducible rfl
              try simp only [Act.put, List.setIfInBounds_toArray, List.set_cons_zero, List.set_cons_succ]
              refine wpAnyH_ready (rs := [25]) (by kernel_rfl) (by simp) ?_
              refine AllReadyH.cons rfl (fun KK hKK => ?_) AllReadyH.nil
              go_simp
              refine (ssame_any _ _ p.1 p.2 x.1.1 x.1.2 7 _ (SpotC.v (SpotC.kept SP.out hHeld.out.keeps) hqp.out.1 hqp.out.2) (SpotC.v (SpotC.kept SA.out hHeld.out.keeps) hqx.out.1.1 hqx.out.1.2) (by omega) (by omega)).mono ?_
              rintro e wk2 ⟨rfl, g⟩
              have gk := hHeld.out.trans g
              rw [hsa.out]
              clear hHeld
              try dsimp only
              refine hKK.out _ _ gk (fun hHeld => ?_)
              clear gk hKK KK
              replace hHeld := Lib.hid (show Grew wr wk2 from hHeld)
              try simp only [Act.put, List.setIfInBounds_toArray, List.set_cons_zero, List.set_cons_succ]
              refine wpAnyH_takeD (i := 26) (d := 64) (v := ?_) rfl rfl (by kernel_rfl) (by kernel_rfl) (by kernel_rfl) (fun _ _ _ h => h) (Or.inl ⟨by rfl, ?_⟩) hHeld.out ?_
              rotate_left
              · intro wv hSw
                replace hSw : Hid (Grew wr wv) := Lib.hid hSw
                go_simp
                try with_reducible rfl
              try simp only [Act.put, List.setIfInBounds_toArray, List.set_cons_zero, List.set_cons_succ]
              refine wpAnyH_takeD (i := 27) (d := 65) (v := ?_) rfl rfl (by kernel_rfl) (by kernel_rfl) (by kernel_rfl) (fun _ _ _ h => h) (Or.inl ⟨by rfl, ?_⟩) hHeld.out ?_
              rotate_left
              · intro wv hSw
                replace hSw : Hid (Grew wr wv) := Lib.hid hSw
                go_simp
                try with_reducible rfl
              try simp only [Act.put, List.setIfInBounds_toArray, List.set_cons_zero, List.set_cons_succ]
              refine wpAnyH_takeD (i := 28) (d := 66) (v := ?_) rfl rfl (by kernel_rfl) (by kernel_rfl) (by kernel_rfl) (fun _ _ _ h => h) (Or.inl ⟨by rfl, ?_⟩) hHeld.out ?_
              rotate_left
              · intro wv hSw
                replace hSw : Hid (Grew wr wv) := Lib.hid hSw
                go_simp
                try with_reducible rfl
              try simp only [Act.put, List.setIfInBounds_toArray, List.set_cons_zero, List.set_cons_succ]
              refine wpAnyH_takeD (i := 29) (d := 67) (v := ?_) rfl rfl (by kernel_rfl) (by kernel_rfl) (by kernel_rfl) (fun _ _ _ h => h) (Or.inl ⟨by rfl, ?_⟩) hHeld.out ?_
              rotate_left
              · intro wv hSw
                replace hSw : Hid (Grew wr wv) := Lib.hid hSw
                go_simp
                try with_reducible rfl
              try simp only [Act.put, List.setIfInBounds_toArray, List.set_cons_zero, List.set_cons_succ]
              refine wpAnyH_takeD (i := 30) (d := 68) (v := ?_) rfl rfl (by kernel_rfl) (by kernel_rfl) (by kernel_rfl) (fun _ _ _ h => h) (Or.inl ⟨by rfl, ?_⟩) hHeld.out ?_
              rotate_left
              · intro wv hSw
                replace hSw : Hid (Grew wr wv) := Lib.hid hSw
                go_simp
                try with_reducible rfl
              try simp only [Act.put, List.setIfInBounds_toArray, List.set_cons_zero, List.set_cons_succ]
              refine wpAnyH_takeD (i := 31) (d := 69) (v := ?_) rfl rfl (by kernel_rfl) (by kernel_rfl) (by kernel_rfl) (fun _ _ _ h => h) (Or.inl ⟨by rfl, ?_⟩) hHeld.out ?_
              rotate_left
              · intro wv hSw
                replace hSw : Hid (Grew wr wv) := Lib.hid hSw
                go_simp
                try with_reducible rfl
              try simp only [Act.put, List.setIfInBounds_toArray, List.set_cons_zero, List.set_cons_succ]
              refine wpAnyH_takeD (i := 32) (d := 70) (v := ?_) rfl rfl (by kernel_rfl) (by kernel_rfl) (by kernel_rfl) (fun _ _ _ h => h) (Or.inl ⟨by rfl, ?_⟩) hHeld.out ?_
              rotate_left
              · intro wv hSw
                replace hSw : Hid (Grew wr wv) := Lib.hid hSw
                have t0 := hSw.out.cell z0.out
                have t1 := hSw.out.cell z1.out
                have t2 := hSw.out.cell z2.out
                have t3 := hSw.out.cell z3.out
                have t4 := hSw.out.cell z4.out
                have t5 := hSw.out.cell z5.out
                go_simp
                try with_reducible rfl
              try simp only [Act.put, List.setIfInBounds_toArray, List.set_cons_zero, List.set_cons_succ]
              refine wpAnyH_takeD (i := 33) (d := 71) (v := ?_) rfl rfl (by kernel_rfl) (by kernel_rfl) (by kernel_rfl) (fun _ _ _ h => h) (Or.inl ⟨by rfl, ?_⟩) hHeld.out ?_
              rotate_left
              · intro wv hSw
                replace hSw : Hid (Grew wr wv) := Lib.hid hSw
                go_simp
                try with_reducible rfl
              try simp only [Act.put, List.setIfInBounds_toArray, List.set_cons_zero, List.set_cons_succ]
              refine wpAnyH_takeD (i := 34) (d := 72) (v := ?_) rfl rfl (by kernel_rfl) (by kernel_rfl) (by kernel_rfl) (fun _ _ _ h => h) (Or.inl ⟨by rfl, ?_⟩) hHeld.out ?_
              rotate_left
              · intro wv hSw
                replace hSw : Hid (Grew wr wv) := Lib.hid hSw
                go_simp
                try with_reducible rfl
              try simp only [Act.put, List.setIfInBounds_toArray, List.set_cons_zero, List.set_cons_succ]
              refine wpAnyH_takeD (i := 35) (d := 73) (v := ?_) rfl rfl (by kernel_rfl) (by kernel_rfl) (by kernel_rfl) (fun _ _ _ h => h) (Or.inl ⟨by rfl, ?_⟩) hHeld.out ?_
              rotate_left
              · intro wv hSw
                replace hSw : Hid (Grew wr wv) := Lib.hid hSw
                go_simp
                try with_reducible rfl
              try simp only [Act.put, List.setIfInBounds_toArray, List.set_cons_zero, List.set_cons_succ]
              refine wpAnyH_takeD (i := 36) (d := 74) (v := ?_) rfl rfl (by kernel_rfl) (by kernel_rfl) (by kernel_rfl) (fun _ _ _ h => h) (Or.inl ⟨by rfl, ?_⟩) hHeld.out ?_
              rotate_left
              · intro wv hSw
                replace hSw : Hid (Grew wr wv) := Lib.hid hSw
                go_simp
                try with_reducible rfl
              try simp only [Act.put, List.setIfInBounds_toArray, List.set_cons_zero, List.set_cons_succ]
              refine wpAnyH_takeD (i := 37) (d := 75) (v := ?_) rfl rfl (by kernel_rfl) (by kernel_rfl) (by kernel_rfl) (fun _ _ _ h => h) (Or.inl ⟨by rfl, ?_⟩) hHeld.out ?_
              rotate_left
              · intro wv hSw
                replace hSw : Hid (Grew wr wv) := Lib.hid hSw
                have t0 := hSw.out.cell f6.out
                have t1 := hSw.out.cell f7.out
                have t2 := hSw.out.cell f8.out
                have t3 := hSw.out.cell f9.out
                have t4 := hSw.out.cell f10.out
                have t5 := hSw.out.cell f11.out
                go_simp
                try with_reducible rfl
              try simp only [Act.put, List.setIfInBounds_toArray, List.set_cons_zero, List.set_cons_succ]
              refine wpAnyH_ready (rs := [38]) (by kernel_rfl) (by simp) ?_
              refine AllReadyH.cons rfl (fun KK hKK => ?_) AllReadyH.nil
              go_simp
              refine (ssame_any _ _ p.1 p.2 x.2.1 x.2.2 7 _ (SpotC.v (SpotC.kept SP.out hHeld.out.keeps) hqp.out.1 hqp.out.2) (SpotC.v (SpotC.kept SB.out hHeld.out.keeps) hqx.out.2.1 hqx.out.2.2) (by omega) (by omega)).mono ?_
              rintro e wk3 ⟨rfl, g⟩
              have gk := hHeld.out.trans g
              rw [hsb.out]
              clear hHeld
              try dsimp only
              refine hKK.out _ _ gk (fun hHeld => ?_)
              clear gk hKK KK
              replace hHeld := Lib.hid (show Grew wr wk3 from hHeld)
              try simp only [Act.put, List.setIfInBounds_toArray, List.set_cons_zero, List.set_cons_succ]
              refine wpAnyH_takeD (i := 39) (d := 77) (v := ?_) rfl rfl (by kernel_rfl) (by kernel_rfl) (by kernel_rfl) (fun _ _ _ h => h) (Or.inl ⟨by rfl, ?_⟩) hHeld.out ?_
              rotate_left
              · intro wv hSw
                replace hSw : Hid (Grew wr wv) := Lib.hid hSw
                go_simp
                try with_reducible rfl
              try simp only [Act.put, List.setIfInBounds_toArray, List.set_cons_zero, List.set_cons_succ]
              refine wpAnyH_takeD (i := 40) (d := 78) (v := ?_) rfl rfl (by kernel_rfl) (by kernel_rfl) (by kernel_rfl) (fun _ _ _ h => h) (Or.inl ⟨by rfl, ?_⟩) hHeld.out ?_
              rotate_left
              · intro wv hSw
                replace hSw : Hid (Grew wr wv) := Lib.hid hSw
                go_simp
                try with_reducible rfl
              try simp only [Act.put, List.setIfInBounds_toArray, List.set_cons_zero, List.set_cons_succ]
              refine wpAnyH_done (by kernel_rfl) ?_ _
              go_wp2_with fail
              go_roundg (gk - 1)
              case rel => exact ⟨m + 1, by omega, by go_num, hI'.out.trans hHeld.out⟩
              case measure => omega
        · obtain rfl : m = M := by omega
          have hI' := Lib.hid (hG2.out.trans hI)
          clear hI
          go_wp2_with fail
          go_roundg (G - 1)
          case rel => exact ⟨j + 1, by omega, by go_num, hI'.out⟩
          case measure => omega
    · obtain rfl : j = N := by omega
      have hG' := Lib.hid ((g1.out.trans g2.out).trans hG)
      have hG1 := Lib.hid (g2.out.trans hG)
      clear hG
      by_cases hk : k < 0 ∨ (L : Int) ≤ k
      · have hk' := Lib.hid hk
        by_cases hk0 : k < 0
        · go_wp2_with fail
          refine (lives18_any _).mono ?_
          rintro e w7 ⟨rfl, g⟩
          have G7 := Lib.hid (hG'.out.trans g)
          clear g hG'
          go_wp2_with fail
          go_ret
          exact ⟨rfl, G7.out⟩
        · have hkL : (L : Int) ≤ k := by omega
          go_wp2_with fail
          refine (lives18_any _).mono ?_
          rintro e w7 ⟨rfl, g⟩
          have G7 := Lib.hid (hG'.out.trans g)
          clear g hG'
          go_wp2_with fail
          go_ret
          exact ⟨rfl, G7.out⟩
      · obtain ⟨K, rfl⟩ : ∃ K : Nat, k = (K : Int) := ⟨k.toNat, by omega⟩
        have hKl : K < L := by omega
        have hk0 : ¬ (K : Int) < 0 := by omega
        have hkL : ¬ (L : Int) ≤ (K : Int) := by omega
        have hkl : (K : Int) < (L : Int) := by omega
        clear hk
        obtain ⟨b, o, rfl, he⟩ := l3.out (by omega)
        obtain ⟨s, hs⟩ : ∃ s, l[K]? = some s := ⟨l[K]'(by rw [hL.out]; omega), List.getElem?_eq_getElem _⟩
        obtain ⟨⟨e0, e1, e2, e3⟩, ra, rb⟩ := he K s hs
        have htw := Lib.hid (clean_twice (List.mem_of_getElem? hs))
        obtain ⟨⟨ax, ay⟩, bx, b_y⟩ := s
        simp only [] at e0 e1 e2 e3 ra rb htw
        replace e0 := Lib.hid (hG'.out.cell e0)
        replace e1 := Lib.hid (hG'.out.cell e1)
        replace e2 := Lib.hid (hG'.out.cell e2)
        replace e3 := Lib.hid (hG'.out.cell e3)
        have hlr := Lib.hid (hl.out.grew hG'.out)
        have hrow := Lib.hid (RowK.grew says_edge hV1.out hG1.out)
        replace ra := Lib.hid ra
        replace rb := Lib.hid rb
        clear he hs hG1
        go_wp2_with fail
        refine wp_region_held_drew (S := fun wv => Grew wr wv) (by kernel_rfl) ((Grew.refl wr).drew) (fun hHeld => ?_)
        replace hHeld := Lib.hid hHeld
        try simp only [Act.put, List.setIfInBounds_toArray, List.set_cons_zero, List.set_cons_succ]
        refine wpAnyH_takeD (i := 0) (d := 88) (v := ?_) rfl rfl (by kernel_rfl) (by kernel_rfl) (by kernel_rfl) (fun _ _ _ h => h) (Or.inl ⟨by rfl, ?_⟩) hHeld.out ?_
        rotate_left
        · intro wv hSw
          replace hSw : Hid (Grew wr wv) := Lib.hid hSw
          go_simp
          try with_reducible rfl
        try simp only [Act.put, List.setIfInBounds_toArray, List.set_cons_zero, List.set_cons_succ]
        refine wpAnyH_takeD (i := 1) (d := 89) (v := ?_) rfl rfl (by kernel_rfl) (by kernel_rfl) (by kernel_rfl) (fun _ _ _ h => h) (Or.inl ⟨by rfl, ?_⟩) hHeld.out ?_
        rotate_left
        · intro wv hSw
          replace hSw : Hid (Grew wr wv) := Lib.hid hSw
          go_simp
          try with_reducible rfl
        try simp only [Act.put, List.setIfInBounds_toArray, List.set_cons_zero, List.set_cons_succ]
        refine wpAnyH_takeD (i := 2) (d := 90) (v := ?_) rfl rfl (by kernel_rfl) (by kernel_rfl) (by kernel_rfl) (fun _ _ _ h => h) (Or.inl ⟨by rfl, ?_⟩) hHeld.out ?_
        rotate_left
        · intro wv hSw
          replace hSw : Hid (Grew wr wv) := Lib.hid hSw
          go_simp
          try with_reducible rfl
        try simp only [Act.put, List.setIfInBounds_toArray, List.set_cons_zero, List.set_cons_succ]
        refine wpAnyH_takeD (i := 3) (d := 91) (v := ?_) rfl rfl (by kernel_rfl) (by kernel_rfl) (by kernel_rfl) (fun _ _ _ h => h) (Or.inl ⟨by rfl, ?_⟩) hHeld.out ?_
        rotate_left
        · intro wv hSw
          replace hSw : Hid (Grew wr wv) := Lib.hid hSw
          go_simp
          try with_reducible rfl
        try simp only [Act.put, List.setIfInBounds_toArray, List.set_cons_zero, List.set_cons_succ]
        refine wpAnyH_takeD (i := 4) (d := 92) (v := ?_) rfl rfl (by kernel_rfl) (by kernel_rfl) (by kernel_rfl) (fun _ _ _ h => h) (Or.inl ⟨by rfl, ?_⟩) hHeld.out ?_
        rotate_left
        · intro wv hSw
          replace hSw : Hid (Grew wr wv) := Lib.hid hSw
          have t0 := hSw.out.cell e2.out
          have t1 := hSw.out.cell e3.out
          go_simp
          try with_reducible rfl
        try simp only [Act.put, List.setIfInBounds_toArray, List.set_cons_zero, List.set_cons_succ]
        refine wpAnyH_takeD (i := 5) (d := 93) (v := ?_) rfl rfl (by kernel_rfl) (by kernel_rfl) (by kernel_rfl) (fun _ _ _ h => h) (Or.inl ⟨by rfl, ?_⟩) hHeld.out ?_
        rotate_left
        · intro wv hSw
          replace hSw : Hid (Grew wr wv) := Lib.hid hSw
          go_simp
          try with_reducible rfl
        try simp only [Act.put, List.setIfInBounds_toArray, List.set_cons_zero, List.set_cons_succ]
        refine wpAnyH_takeD (i := 6) (d := 94) (v := ?_) rfl rfl (by kernel_rfl) (by kernel_rfl) (by kernel_rfl) (fun _ _ _ h => h) (Or.inl ⟨by rfl, ?_⟩) hHeld.out ?_
        rotate_left
        · intro wv hSw
          replace hSw : Hid (Grew wr wv) := Lib.hid hSw
          go_simp
          try with_reducible rfl
        try simp only [Act.put, List.setIfInBounds_toArray, List.set_cons_zero, List.set_cons_succ]
        refine wpAnyH_takeD (i := 7) (d := 95) (v := ?_) rfl rfl (by kernel_rfl) (by kernel_rfl) (by kernel_rfl) (fun _ _ _ h => h) (Or.inl ⟨by rfl, ?_⟩) hHeld.out ?_
        rotate_left
        · intro wv hSw
          replace hSw : Hid (Grew wr wv) := Lib.hid hSw
          go_simp
          try with_reducible rfl
        try simp only [Act.put, List.setIfInBounds_toArray, List.set_cons_zero, List.set_cons_succ]
        refine wpAnyH_takeD (i := 8) (d := 96) (v := ?_) rfl rfl (by kernel_rfl) (by kernel_rfl) (by kernel_rfl) (fun _ _ _ h => h) (Or.inl ⟨by rfl, ?_⟩) hHeld.out ?_
        rotate_left
        · intro wv hSw
          replace hSw : Hid (Grew wr wv) := Lib.hid hSw
          go_simp
          try with_reducible rfl
        try simp only [Act.put, List.setIfInBounds_toArray, List.set_cons_zero, List.set_cons_succ]
        refine wpAnyH_takeD (i := 9) (d := 97) (v := ?_) rfl rfl (by kernel_rfl) (by kernel_rfl) (by kernel_rfl) (fun _ _ _ h => h) (Or.inl ⟨by rfl, ?_⟩) hHeld.out ?_
        rotate_left
        · intro wv hSw
          replace hSw : Hid (Grew wr wv) := Lib.hid hSw
          have t0 := hSw.out.cell e0.out
          have t1 := hSw.out.cell e1.out
          go_simp
          try with_reducible rfl
        try simp only [Act.put, List.setIfInBounds_toArray, List.set_cons_zero, List.set_cons_succ]
        refine wpAnyH_takeD (i := 10) (d := 98) (v := ?_) rfl rfl (by kernel_rfl) (by kernel_rfl) (by kernel_rfl) (fun _ _ _ h => h) (Or.inl ⟨by rfl, ?_⟩) hHeld.out ?_
        rotate_left
        · intro wv hSw
          replace hSw : Hid (Grew wr wv) := Lib.hid hSw
          go_simp
          try with_reducible rfl
        try simp only [Act.put, List.setIfInBounds_toArray, List.set_cons_zero, List.set_cons_succ]
        refine wpAnyH_takeD (i := 11) (d := 99) (v := ?_) rfl rfl (by kernel_rfl) (by kernel_rfl) (by kernel_rfl) (fun _ _ _ h => h) (Or.inl ⟨by rfl, ?_⟩) hHeld.out ?_
        rotate_left
        · intro wv hSw
          replace hSw : Hid (Grew wr wv) := Lib.hid hSw
          go_simp
          try with_reducible rfl
        try simp only [Act.put, List.setIfInBounds_toArray, List.set_cons_zero, List.set_cons_succ]
        refine wpAnyH_takeD (i := 12) (d := 100) (v := ?_) rfl rfl (by kernel_rfl) (by kernel_rfl) (by kernel_rfl) (fun _ _ _ h => h) (Or.inl ⟨by rfl, ?_⟩) hHeld.out ?_
        rotate_left
        · intro wv hSw
          replace hSw : Hid (Grew wr wv) := Lib.hid hSw
          go_simp
          try with_reducible rfl
        try simp only [Act.put, List.setIfInBounds_toArray, List.set_cons_zero, List.set_cons_succ]
        refine wpAnyH_takeD (i := 13) (d := 101) (v := ?_) rfl rfl (by kernel_rfl) (by kernel_rfl) (by kernel_rfl) (fun _ _ _ h => h) (Or.inl ⟨by rfl, ?_⟩) hHeld.out ?_
        rotate_left
        · intro wv hSw
          replace hSw : Hid (Grew wr wv) := Lib.hid hSw
          go_simp
          try with_reducible rfl
        try simp only [Act.put, List.setIfInBounds_toArray, List.set_cons_zero, List.set_cons_succ]
        refine wpAnyH_takeD (i := 14) (d := 102) (v := ?_) rfl rfl (by kernel_rfl) (by kernel_rfl) (by kernel_rfl) (fun _ _ _ h => h) (Or.inl ⟨by rfl, ?_⟩) hHeld.out ?_
        rotate_left
        · intro wv hSw
          replace hSw : Hid (Grew wr wv) := Lib.hid hSw
          have t0 := hSw.out.cell e0.out
          have t1 := hSw.out.cell e1.out
          have t2 := hSw.out.cell e2.out
          have t3 := hSw.out.cell e3.out
          go_simp
          try with_reducible rfl
        try simp only [Act.put, List.setIfInBounds_toArray, List.set_cons_zero, List.set_cons_succ]
        refine wpAnyH_takeD (i := 16) (d := 104) (v := ?_) rfl rfl (by kernel_rfl) (by kernel_rfl) (by kernel_rfl) (fun _ _ _ h => h) (Or.inl ⟨by rfl, ?_⟩) hHeld.out ?_
        rotate_left
        · intro wv hSw
          replace hSw : Hid (Grew wr wv) := Lib.hid hSw
          go_simp
          try with_reducible rfl
        try simp only [Act.put, List.setIfInBounds_toArray, List.set_cons_zero, List.set_cons_succ]
        refine wpAnyH_ready (rs := [15]) (by kernel_rfl) (by simp) ?_
        refine AllReadyH.cons rfl (fun KK hKK => ?_) AllReadyH.nil
        go_simp
        have gP := hHeld
        clear hHeld
        replace hlr := Lib.hid (hlr.out.grew gP.out)
        try dsimp only
        refine hKK.out _ _ (gP.out.alloc _) (fun hHeld => ?_)
        clear hKK KK
        replace hHeld := Lib.hid hHeld
        try simp only [Act.put, List.setIfInBounds_toArray, List.set_cons_zero, List.set_cons_succ]
        refine wpAnyH_ready (rs := [17]) (by kernel_rfl) (by simp) ?_
        refine AllReadyH.cons rfl (fun KK hKK => ?_) AllReadyH.nil
        refine wp_appSegs (.tmp 103) (.tmp 104) rfl rfl rfl rb.out ra.out ra.out rb.out hlr.out hin.out (by rw [hL.out]; omega) (by rw [hL.out]; omega) ?_
        intro vk1 wk1 hS9 gS9
        have gk := (gP.out).trans gS9
        replace hS9 := Lib.hid hS9
        clear hlr
        clear hHeld
        try dsimp only
        refine hKK.out _ _ gk (fun hHeld => ?_)
        clear gk hKK KK
        replace hHeld := Lib.hid (show Grew wr wk1 from hHeld)
        try simp only [Act.put, List.setIfInBounds_toArray]
        refine wpAnyH_takeD (i := 18) (d := 9) (v := ?_) rfl rfl (by kernel_rfl) (by kernel_rfl) (by kernel_rfl) (fun _ _ _ h => h) (Or.inl ⟨by rfl, ?_⟩) hHeld.out ?_
        rotate_left
        · intro wv hSw
          replace hSw : Hid (Grew wr wv) := Lib.hid hSw
          go_simp
          try with_reducible rfl
        try simp only [Act.put]
        refine wpAnyH_done (by kernel_rfl) ?_ _
        have G8 := Lib.hid (hG'.out.trans hHeld.out)
        have hrow2 := Lib.hid (RowK.grew says_edge hrow.out hHeld.out)
        clear hrow hHeld hG' e0 e1 e2 e3
        obtain ⟨A9, c9, rfl, -, -, -⟩ := id hS9.out
        go_wp2_with fail
        refine (pieces_any _ _ _ hS9.out (by rw [List.length_cons, List.length_cons, hL.out]; omega)).mono ?_
        rintro e w9 ⟨V9, rfl, hV9, g9⟩
        rw [htw.out, hX.out] at hV9
        have G9 := Lib.hid (G8.out.trans g9)
        replace hrow2 := Lib.hid (RowK.grew says_edge hrow2.out g9)
        replace hV9 := Lib.hid hV9
        clear g9 G8 hS9
        go_wp2_with fail
        refine (esame_yes _ _ X _ hV9.out hrow2.out).mono ?_
        rintro e w10 ⟨rfl, g10⟩
        have G10 := Lib.hid (G9.out.trans g10)
        clear g10 G9 hV9 hrow2
        go_wp2_with fail
        refine (lives18_any _).mono ?_
        rintro e w7 ⟨rfl, g⟩
        have G7 := Lib.hid (G10.out.trans g)
        clear g G10
        go_wp2_with fail
        go_ret
        exact ⟨rfl, G7.out⟩
end Go.Proofs.YtmommicmblfibaaGreat
namespace Go.Proofs.YtmommicmblfibaaGreat
open Go.ChangeShapes Go.WideShapes Go.ChangeAt Go.RowKit

section
variable {H : Type} {enc : TypeId × Value → H} {w : World} {base : Nat} {spare : Nat → Bool} {held : Bool}

end

/-- The row's last step where only new memory was made. -/
theorem post_grew {H : Type} {enc : TypeId × Value → H} {P : Program} {f : Func} {s : ChangeSpec} {apart fresh handsOn again : Bool} {W W' : World} {args : Array Value} {v : Value} {ds gs : List (DataW H)} {before pa pv : List MemPlace}
    (hW : DataW.Whole enc P f.params.toList s.vars apart W args.toList ds gs before)
    (hres : ∀ (b : Nat) (sp : Nat → Bool) (hd : Bool), DataW.TrodAll enc P W' b sp hd f.resultTypes.toList (v.resultList f.resultTypes.size) (s.fn H (ds ++ gs)).results [])
    (hargs : ∀ sp : Nat → Bool, (∀ p ∈ before, sp p.block = true) → DataW.TrodAll enc P W' 0 sp true f.params.toList args.toList (s.fn H (ds ++ gs)).args pa)
    (hvars : ∀ sp : Nat → Bool, (∀ p ∈ before, sp p.block = true) → DataW.TrodVars enc P W' sp s.vars (s.fn H (ds ++ gs)).vars pv)
    (hps : before = pa ++ pv) (g : Grew W W')
    (hok : ∀ (j : Nat) (t : TypeId) (r : Value), f.resultTypes[j]? = some t → (v.resultList f.resultTypes.size)[j]? = some r → Value.okWide P W' .any 0 t r) :
    s.post enc P f apart fresh handsOn again W args v W' := by
  have hb := g.below
  have hlt : ∀ p ∈ before, p.block < W.heap.size := fun p hp => hW.lt p hp
  have hold : ∀ p ∈ before, (fun b => decide (b < W.heap.size)) p.block = true := fun p hp => by simpa using hlt p hp
  refine ⟨ds, gs, before, [], pa, pv, hW, hres _ _ _, hargs _ hold, hvars _ hold, World.keptBut_mono (fun p hp => ⟨hp, ?_⟩) (hb.frame (· ∈ before)), fun _ => ?_⟩
  · rw [hps, List.mem_append] at hp
    exact Or.inr hp
  · obtain ⟨_, _, _, _, _, hz, hn⟩ := hW
    refine ⟨hok, _, _, ([] ++ pa) ++ pv, ⟨[] ++ pa, pv, trodAll_append (hargs _ (fun _ _ => rfl)) (hres _ _ _), hvars _ (fun _ _ => rfl), rfl, ?_, ?_⟩, ?_⟩
    · intro b off hp
      have hin : MemPlace.cell b off ∈ before := by rw [hps]; simpa using hp
      rw [hb.frozen (hlt _ hin)]
      exact hz b off hin
    · intro ha
      have := hn ha
      rw [hps] at this
      simpa using this
    · intro p hp _
      rw [hps]
      simpa using hp
end Go.Proofs.YtmommicmblfibaaGreat
