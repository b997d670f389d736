/- Edges as values: twelve cells, written out; one edge in a block of its own. Conditions: none. frisketlaw18.SplitRows: its walk. Condition: what comes in reads; fewer than 2^26 words, at most 2^39 edges. How spots come in: an argument of type api.Spot reads as two fractions, of no more words than its reading's bulk. Conditions: none. How a slice of spots comes in: a row of spots, each part of no more words than the reading's bulk. Conditions: none. -/
import Derived.Test.YtmommicmblfibaaGreatJRow3
import Derived.Test.YtmommicmblfibaaGreatJRowS
import Derived.Test.YtmommicmblfibaaGreatJRowP
import Derived.Test.YtmommicmblfibaaGreatRows
import Derived.WalkKit
import Derived.ProofKit
import Derived.OpenShut
import Derived.JoinedCond
import Derived.ChangeSlices
import Derived.Carry
namespace Go.Proofs.YtmommicmblfibaaGreat
open Go.RowKit

theorem edge12_laid {w : World} {us : Array Value} {x : EdgeQ} (h : Edge12R w us x) : ∃ b1 A1 n1 c1 C1 m1 d1 b2 A2 n2 c2 C2 m2 d2 b3 A3 n3 c3 C3 m3 d3 b4 A4 n4 c4 C4 m4 d4, us = #[.bool b1, .slice A1 n1 c1, .slice C1 m1 d1, .bool b2, .slice A2 n2 c2, .slice C2 m2 d2, .bool b3, .slice A3 n3 c3, .slice C3 m3 d3, .bool b4, .slice A4 n4 c4, .slice C4 m4 d4] ∧ Hid (Edge12R w #[.bool b1, .slice A1 n1 c1, .slice C1 m1 d1, .bool b2, .slice A2 n2 c2, .slice C2 m2 d2, .bool b3, .slice A3 n3 c3, .slice C3 m3 d3, .bool b4, .slice A4 n4 c4, .slice C4 m4 d4] x) := by
  have h3 := h
  obtain ⟨us1, us2, rfl, h4, h5⟩ := h3
  obtain ⟨b1, A1, n1, c1, C1, m1, d1, b2, A2, n2, c2, C2, m2, d2, e, -, -⟩ := h4
  injection e with e
  subst e
  obtain ⟨b3, A3, n3, c3, C3, m3, d3, b4, A4, n4, c4, C4, m4, d4, e, -, -⟩ := h5
  injection e with e
  subst e
  exact ⟨b1, A1, n1, c1, C1, m1, d1, b2, A2, n2, c2, C2, m2, d2, b3, A3, n3, c3, C3, m3, d3, b4, A4, n4, c4, C4, m4, d4, rfl, h⟩
/-- One edge in a block of its own. -/
theorem row_one {w : World} {us : Array Value} {x : EdgeQ} (e : TypeId) (h : Edge12R w us x) : RowK 12 Edge12R (w.alloc (.cells us e)) (.slice (some ⟨w.heap.size, 0, none⟩) 1 1) [x] ∧ Grew w (w.alloc (.cells us e)) := by
  have g : Grew w (w.alloc (.cells us e)) := (Grew.refl _).alloc _
  refine ⟨⟨_, 1, rfl, by simp, by omega, fun _ => ⟨w.heap.size, 0, rfl, fun i y hy => ?_⟩⟩, g⟩
  have hi := (List.getElem?_eq_some_iff.1 hy).1
  obtain rfl : i = 0 := by simp at hi; omega
  obtain rfl : x = y := by simpa using hy
  refine ⟨us, fun j hj => ?_, says_edge.kept h g.keeps⟩
  dsimp only
  rw [Nat.zero_mul, Nat.zero_add, Nat.zero_add, cell_of_row _ w.heap.size j us e (0, 0) (heap_alloc_new w _)]

end Go.Proofs.YtmommicmblfibaaGreat
namespace Go.Proofs.YtmommicmblfibaaGreat
open Go.RowKit

set_option maxRecDepth 100000 in
set_option maxHeartbeats 16000000 in
theorem splitrows_any (v : Value) (l : List EdgeQ) (k : Nat) (w : World) (hr : RowK 12 (EdgeR k) w v l) (hq : ∀ x ∈ l, EB k x) (hk : 1 ≤ k) (hs : k < 67108864) (hl : l.length ≤ 549755813888) :
    Calls Tryz.prog 4 #[v] w fun e w' => e = .returned (.bool true) ∧ Grew w w' := by
  obtain ⟨A, c, rfl, h1, h2, h3⟩ := id hr
  obtain ⟨L, hL⟩ : ∃ L, l.length = L := ⟨_, rfl⟩
  rw [hL] at h1 h3 hr
  rw [hL]
  have hm : L ≤ 9223372036854775807 := by omega
  replace h3 := Lib.hid h3
  replace hq := Lib.hid hq
  replace hr := Lib.hid hr
  replace hL := Lib.hid hL
  replace hl := Lib.hid hl
  go_enter Tryz.func4, Tryz.ntmps4
  go_wp2_with fail
  go_loopg [3] L (fun gk i wr => ∃ j : Nat, gk + j = L ∧ i = .int .i64 j ∧ Grew w wr)
  case atStart => exact ⟨0, rfl, rfl, Grew.refl _⟩
  case round =>
    obtain ⟨j, hj, rfl, hG⟩ := hrel
    by_cases hlt : j < L
    · obtain ⟨b, o, rfl, he⟩ := h3.out (by omega)
      obtain ⟨x, hx⟩ : ∃ x, l[j]? = some x := ⟨l[j]'(by rw [hL.out]; omega), List.getElem?_eq_getElem _⟩
      obtain ⟨x0, hx0⟩ : ∃ x, l[0]? = some x := ⟨l[0]'(by rw [hL.out]; omega), List.getElem?_eq_getElem _⟩
      obtain ⟨b1, A1, n1, c1, C1, m1, d1, b2, A2, n2, c2, C2, m2, d2, b3, A3, n3, c3, C3, m3, d3, b4, A4, n4, c4, C4, m4, d4, ⟨e0, e1, e2, e3, e4, e5, e6, e7, e8, e9, e10, e11⟩, S1⟩ := cellsE (he j x hx)
      obtain ⟨b5, A5, n5, c5, C5, m5, d5, b6, A6, n6, c6, C6, m6, d6, b7, A7, n7, c7, C7, m7, d7, b8, A8, n8, c8, C8, m8, d8, ⟨z0, z1, z2, z3, z4, z5, z6, z7, z8, z9, z10, z11⟩, S0⟩ := cellsE (he 0 x0 hx0)
      replace e0 : Hid (w.cell? ⟨b, o + j * 12, none⟩ = some (.bool b1)) := Lib.hid e0
      replace e1 : Hid (w.cell? ⟨b, o + j * 12 + 1, none⟩ = some (.slice A1 n1 c1)) := Lib.hid e1
      replace e2 : Hid (w.cell? ⟨b, o + j * 12 + 2, none⟩ = some (.slice C1 m1 d1)) := Lib.hid e2
      replace e3 : Hid (w.cell? ⟨b, o + j * 12 + 3, none⟩ = some (.bool b2)) := Lib.hid e3
      replace e4 : Hid (w.cell? ⟨b, o + j * 12 + 4, none⟩ = some (.slice A2 n2 c2)) := Lib.hid e4
      replace e5 : Hid (w.cell? ⟨b, o + j * 12 + 5, none⟩ = some (.slice C2 m2 d2)) := Lib.hid e5
      replace e6 : Hid (w.cell? ⟨b, o + j * 12 + 6, none⟩ = some (.bool b3)) := Lib.hid e6
      replace e7 : Hid (w.cell? ⟨b, o + j * 12 + 7, none⟩ = some (.slice A3 n3 c3)) := Lib.hid e7
      replace e8 : Hid (w.cell? ⟨b, o + j * 12 + 8, none⟩ = some (.slice C3 m3 d3)) := Lib.hid e8
      replace e9 : Hid (w.cell? ⟨b, o + j * 12 + 9, none⟩ = some (.bool b4)) := Lib.hid e9
      replace e10 : Hid (w.cell? ⟨b, o + j * 12 + 10, none⟩ = some (.slice A4 n4 c4)) := Lib.hid e10
      replace e11 : Hid (w.cell? ⟨b, o + j * 12 + 11, none⟩ = some (.slice C4 m4 d4)) := Lib.hid e11
      replace z0 : Hid (w.cell? ⟨b, o, none⟩ = some (.bool b5)) := Lib.hid (by have h9 := z0; rw [Nat.zero_mul, Nat.zero_add] at h9; exact h9)
      replace z1 : Hid (w.cell? ⟨b, o + 1, none⟩ = some (.slice A5 n5 c5)) := Lib.hid (by have h9 := z1; rw [Nat.zero_mul, Nat.zero_add] at h9; exact h9)
      replace z2 : Hid (w.cell? ⟨b, o + 2, none⟩ = some (.slice C5 m5 d5)) := Lib.hid (by have h9 := z2; rw [Nat.zero_mul, Nat.zero_add] at h9; exact h9)
      replace z3 : Hid (w.cell? ⟨b, o + 3, none⟩ = some (.bool b6)) := Lib.hid (by have h9 := z3; rw [Nat.zero_mul, Nat.zero_add] at h9; exact h9)
      replace z4 : Hid (w.cell? ⟨b, o + 4, none⟩ = some (.slice A6 n6 c6)) := Lib.hid (by have h9 := z4; rw [Nat.zero_mul, Nat.zero_add] at h9; exact h9)
      replace z5 : Hid (w.cell? ⟨b, o + 5, none⟩ = some (.slice C6 m6 d6)) := Lib.hid (by have h9 := z5; rw [Nat.zero_mul, Nat.zero_add] at h9; exact h9)
      replace z6 : Hid (w.cell? ⟨b, o + 6, none⟩ = some (.bool b7)) := Lib.hid (by have h9 := z6; rw [Nat.zero_mul, Nat.zero_add] at h9; exact h9)
      replace z7 : Hid (w.cell? ⟨b, o + 7, none⟩ = some (.slice A7 n7 c7)) := Lib.hid (by have h9 := z7; rw [Nat.zero_mul, Nat.zero_add] at h9; exact h9)
      replace z8 : Hid (w.cell? ⟨b, o + 8, none⟩ = some (.slice C7 m7 d7)) := Lib.hid (by have h9 := z8; rw [Nat.zero_mul, Nat.zero_add] at h9; exact h9)
      replace z9 : Hid (w.cell? ⟨b, o + 9, none⟩ = some (.bool b8)) := Lib.hid (by have h9 := z9; rw [Nat.zero_mul, Nat.zero_add] at h9; exact h9)
      replace z10 : Hid (w.cell? ⟨b, o + 10, none⟩ = some (.slice A8 n8 c8)) := Lib.hid (by have h9 := z10; rw [Nat.zero_mul, Nat.zero_add] at h9; exact h9)
      replace z11 : Hid (w.cell? ⟨b, o + 11, none⟩ = some (.slice C8 m8 d8)) := Lib.hid (by have h9 := z11; rw [Nat.zero_mul, Nat.zero_add] at h9; exact h9)
      have hG' := Lib.hid hG
      have hjl : (j : Int) < (L : Int) := by omega
      have hLp : (0 : Int) < (L : Int) := by omega
      have hLn : 0 < L := by omega
      clear he hG hx hx0
      go_wp2_with fail
      refine wp_region_held_drew (S := fun wv => Grew w wv) (by kernel_rfl) (hG'.out.drew) (fun hHeld => ?_)
      replace hHeld := Lib.hid hHeld
      try simp only [Act.put, List.setIfInBounds_toArray, List.set_cons_zero, List.set_cons_succ]
      refine wpAnyH_takeD (i := 0) (d := 10) (v := ?_) rfl rfl (by kernel_rfl) (by kernel_rfl) (by kernel_rfl) (fun _ _ _ h => h) (Or.inl ⟨by rfl, ?_⟩) hHeld.out ?_
      rotate_left
      · intro wv hSw
        replace hSw : Hid (Grew w wv) := Lib.hid hSw
        go_simp
        try with_reducible rfl
      try simp only [Act.put, List.setIfInBounds_toArray, List.set_cons_zero, List.set_cons_succ]
      refine wpAnyH_takeD (i := 1) (d := 11) (v := ?_) rfl rfl (by kernel_rfl) (by kernel_rfl) (by kernel_rfl) (fun _ _ _ h => h) (Or.inl ⟨by rfl, ?_⟩) hHeld.out ?_
      rotate_left
      · intro wv hSw
        replace hSw : Hid (Grew w wv) := Lib.hid hSw
        go_simp
        try with_reducible rfl
      try simp only [Act.put, List.setIfInBounds_toArray, List.set_cons_zero, List.set_cons_succ]
      refine wpAnyH_takeD (i := 2) (d := 12) (v := ?_) rfl rfl (by kernel_rfl) (by kernel_rfl) (by kernel_rfl) (fun _ _ _ h => h) (Or.inl ⟨by rfl, ?_⟩) hHeld.out ?_
      rotate_left
      · intro wv hSw
        replace hSw : Hid (Grew w wv) := Lib.hid hSw
        have t0 := hSw.out.cell z0.out
        have t1 := hSw.out.cell z1.out
        have t2 := hSw.out.cell z2.out
        have t3 := hSw.out.cell z3.out
        have t4 := hSw.out.cell z4.out
        have t5 := hSw.out.cell z5.out
        have t6 := hSw.out.cell z6.out
        have t7 := hSw.out.cell z7.out
        have t8 := hSw.out.cell z8.out
        have t9 := hSw.out.cell z9.out
        have t10 := hSw.out.cell z10.out
        have t11 := hSw.out.cell z11.out
        go_simp
        try with_reducible rfl
      try simp only [Act.put, List.setIfInBounds_toArray, List.set_cons_zero, List.set_cons_succ]
      refine wpAnyH_takeD (i := 3) (d := 13) (v := ?_) rfl rfl (by kernel_rfl) (by kernel_rfl) (by kernel_rfl) (fun _ _ _ h => h) (Or.inl ⟨by rfl, ?_⟩) hHeld.out ?_
      rotate_left
      · intro wv hSw
        replace hSw : Hid (Grew w wv) := Lib.hid hSw
        go_simp
        try with_reducible rfl
      try simp only [Act.put, List.setIfInBounds_toArray, List.set_cons_zero, List.set_cons_succ]
      refine wpAnyH_takeD (i := 4) (d := 14) (v := ?_) rfl rfl (by kernel_rfl) (by kernel_rfl) (by kernel_rfl) (fun _ _ _ h => h) (Or.inl ⟨by rfl, ?_⟩) hHeld.out ?_
      rotate_left
      · intro wv hSw
        replace hSw : Hid (Grew w wv) := Lib.hid hSw
        go_simp
        try with_reducible rfl
      try simp only [Act.put, List.setIfInBounds_toArray, List.set_cons_zero, List.set_cons_succ]
      refine wpAnyH_takeD (i := 5) (d := 15) (v := ?_) rfl rfl (by kernel_rfl) (by kernel_rfl) (by kernel_rfl) (fun _ _ _ h => h) (Or.inl ⟨by rfl, ?_⟩) hHeld.out ?_
      rotate_left
      · intro wv hSw
        replace hSw : Hid (Grew w wv) := Lib.hid hSw
        go_simp
        try with_reducible rfl
      try simp only [Act.put, List.setIfInBounds_toArray, List.set_cons_zero, List.set_cons_succ]
      refine wpAnyH_takeD (i := 6) (d := 16) (v := ?_) rfl rfl (by kernel_rfl) (by kernel_rfl) (by kernel_rfl) (fun _ _ _ h => h) (Or.inl ⟨by rfl, ?_⟩) hHeld.out ?_
      rotate_left
      · intro wv hSw
        replace hSw : Hid (Grew w wv) := Lib.hid hSw
        have t0 := hSw.out.cell e0.out
        have t1 := hSw.out.cell e1.out
        have t2 := hSw.out.cell e2.out
        have t3 := hSw.out.cell e3.out
        have t4 := hSw.out.cell e4.out
        have t5 := hSw.out.cell e5.out
        have t6 := hSw.out.cell e6.out
        have t7 := hSw.out.cell e7.out
        have t8 := hSw.out.cell e8.out
        have t9 := hSw.out.cell e9.out
        have t10 := hSw.out.cell e10.out
        have t11 := hSw.out.cell e11.out
        go_simp
        try with_reducible rfl
      try simp only [Act.put, List.setIfInBounds_toArray, List.set_cons_zero, List.set_cons_succ]
      refine wpAnyH_takeD (i := 8) (d := 18) (v := ?_) rfl rfl (by kernel_rfl) (by kernel_rfl) (by kernel_rfl) (fun _ _ _ h => h) (Or.inl ⟨by rfl, ?_⟩) hHeld.out ?_
      rotate_left
      · intro wv hSw
        replace hSw : Hid (Grew w wv) := Lib.hid hSw
        go_simp
        try with_reducible rfl
      try simp only [Act.put, List.setIfInBounds_toArray, List.set_cons_zero, List.set_cons_succ]
      refine wpAnyH_takeD (i := 9) (d := 19) (v := ?_) rfl rfl (by kernel_rfl) (by kernel_rfl) (by kernel_rfl) (fun _ _ _ h => h) (Or.inl ⟨by rfl, ?_⟩) hHeld.out ?_
      rotate_left
      · intro wv hSw
        replace hSw : Hid (Grew w wv) := Lib.hid hSw
        go_simp
        try with_reducible rfl
      try simp only [Act.put, List.setIfInBounds_toArray, List.set_cons_zero, List.set_cons_succ]
      refine wpAnyH_takeD (i := 10) (d := 20) (v := ?_) rfl rfl (by kernel_rfl) (by kernel_rfl) (by kernel_rfl) (fun _ _ _ h => h) (Or.inl ⟨by rfl, ?_⟩) hHeld.out ?_
      rotate_left
      · intro wv hSw
        replace hSw : Hid (Grew w wv) := Lib.hid hSw
        have t0 := hSw.out.cell z0.out
        have t1 := hSw.out.cell z1.out
        have t2 := hSw.out.cell z2.out
        have t3 := hSw.out.cell z3.out
        have t4 := hSw.out.cell z4.out
        have t5 := hSw.out.cell z5.out
        have t6 := hSw.out.cell z6.out
        have t7 := hSw.out.cell z7.out
        have t8 := hSw.out.cell z8.out
        have t9 := hSw.out.cell z9.out
        have t10 := hSw.out.cell z10.out
        have t11 := hSw.out.cell z11.out
        go_simp
        try with_reducible rfl
      try simp only [Act.put, List.setIfInBounds_toArray, List.set_cons_zero, List.set_cons_succ]
      refine wpAnyH_takeD (i := 11) (d := 21) (v := ?_) rfl rfl (by kernel_rfl) (by kernel_rfl) (by kernel_rfl) (fun _ _ _ h => h) (Or.inl ⟨by rfl, ?_⟩) hHeld.out ?_
      rotate_left
      · intro wv hSw
        replace hSw : Hid (Grew w wv) := Lib.hid hSw
        go_simp
        try with_reducible rfl
      try simp only [Act.put, List.setIfInBounds_toArray, List.set_cons_zero, List.set_cons_succ]
      refine wpAnyH_takeD (i := 12) (d := 22) (v := ?_) rfl rfl (by kernel_rfl) (by kernel_rfl) (by kernel_rfl) (fun _ _ _ h => h) (Or.inl ⟨by rfl, ?_⟩) hHeld.out ?_
      rotate_left
      · intro wv hSw
        replace hSw : Hid (Grew w wv) := Lib.hid hSw
        go_simp
        try with_reducible rfl
      try simp only [Act.put, List.setIfInBounds_toArray, List.set_cons_zero, List.set_cons_succ]
      refine wpAnyH_takeD (i := 13) (d := 23) (v := ?_) rfl rfl (by kernel_rfl) (by kernel_rfl) (by kernel_rfl) (fun _ _ _ h => h) (Or.inl ⟨by rfl, ?_⟩) hHeld.out ?_
      rotate_left
      · intro wv hSw
        replace hSw : Hid (Grew w wv) := Lib.hid hSw
        go_simp
        try with_reducible rfl
      try simp only [Act.put, List.setIfInBounds_toArray, List.set_cons_zero, List.set_cons_succ]
      refine wpAnyH_takeD (i := 14) (d := 24) (v := ?_) rfl rfl (by kernel_rfl) (by kernel_rfl) (by kernel_rfl) (fun _ _ _ h => h) (Or.inl ⟨by rfl, ?_⟩) hHeld.out ?_
      rotate_left
      · intro wv hSw
        replace hSw : Hid (Grew w wv) := Lib.hid hSw
        have t0 := hSw.out.cell e0.out
        have t1 := hSw.out.cell e1.out
        have t2 := hSw.out.cell e2.out
        have t3 := hSw.out.cell e3.out
        have t4 := hSw.out.cell e4.out
        have t5 := hSw.out.cell e5.out
        have t6 := hSw.out.cell e6.out
        have t7 := hSw.out.cell e7.out
        have t8 := hSw.out.cell e8.out
        have t9 := hSw.out.cell e9.out
        have t10 := hSw.out.cell e10.out
        have t11 := hSw.out.cell e11.out
        go_simp
        try with_reducible rfl
      try simp only [Act.put, List.setIfInBounds_toArray, List.set_cons_zero, List.set_cons_succ]
      refine wpAnyH_ready (rs := [7]) (by kernel_rfl) (by simp) ?_
      refine AllReadyH.cons rfl (fun KK hKK => ?_) AllReadyH.nil
      go_simp
      refine (ecmp_any _ _ x0 x k _ (edgeR_kept S0.out hHeld.out.keeps) (edgeR_kept S1.out hHeld.out.keeps) hk hs).mono ?_
      rintro e wk1 ⟨rfl, g⟩
      have gk := hHeld.out.trans g
      clear hHeld
      try dsimp only
      refine hKK.out _ _ gk (fun hHeld => ?_)
      clear gk hKK KK
      replace hHeld := Lib.hid (show Grew w wk1 from hHeld)
      try simp only [Act.put, List.setIfInBounds_toArray, List.set_cons_zero, List.set_cons_succ]
      refine wpAnyH_ready (rs := [15]) (by kernel_rfl) (by simp) ?_
      refine AllReadyH.cons rfl (fun KK hKK => ?_) AllReadyH.nil
      go_simp
      refine (recmp_any _ _ x0 x k _ (edgeR_kept S0.out hHeld.out.keeps) (edgeR_kept S1.out hHeld.out.keeps) hk hs).mono ?_
      rintro e wk2 ⟨rfl, g⟩
      have gk := hHeld.out.trans g
      clear hHeld
      try dsimp only
      refine hKK.out _ _ gk (fun hHeld => ?_)
      clear gk hKK KK
      replace hHeld := Lib.hid (show Grew w wk2 from hHeld)
      try simp only [Act.put, List.setIfInBounds_toArray, List.set_cons_zero, List.set_cons_succ]
      refine wpAnyH_takeD (i := 16) (d := 26) (v := ?_) rfl rfl (by kernel_rfl) (by kernel_rfl) (by kernel_rfl) (fun _ _ _ h => h) (Or.inl ⟨by rfl, ?_⟩) hHeld.out ?_
      rotate_left
      · intro wv hSw
        replace hSw : Hid (Grew w wv) := Lib.hid hSw
        go_simp
        try with_reducible rfl
      try simp only [Act.put, List.setIfInBounds_toArray, List.set_cons_zero, List.set_cons_succ]
      refine wpAnyH_takeD (i := 17) (d := 27) (v := ?_) rfl rfl (by kernel_rfl) (by kernel_rfl) (by kernel_rfl) (fun _ _ _ h => h) (Or.inl ⟨by rfl, ?_⟩) hHeld.out ?_
      rotate_left
      · intro wv hSw
        replace hSw : Hid (Grew w wv) := Lib.hid hSw
        go_simp
        try with_reducible rfl
      try simp only [Act.put, List.setIfInBounds_toArray, List.set_cons_zero, List.set_cons_succ]
      refine wpAnyH_takeD (i := 18) (d := 28) (v := ?_) rfl rfl (by kernel_rfl) (by kernel_rfl) (by kernel_rfl) (fun _ _ _ h => h) (Or.inl ⟨by rfl, ?_⟩) hHeld.out ?_
      rotate_left
      · intro wv hSw
        replace hSw : Hid (Grew w wv) := Lib.hid hSw
        go_simp
        try with_reducible rfl
      try simp only [Act.put, List.setIfInBounds_toArray, List.set_cons_zero, List.set_cons_succ]
      refine wpAnyH_takeD (i := 19) (d := 29) (v := ?_) rfl rfl (by kernel_rfl) (by kernel_rfl) (by kernel_rfl) (fun _ _ _ h => h) (Or.inl ⟨by rfl, ?_⟩) hHeld.out ?_
      rotate_left
      · intro wv hSw
        replace hSw : Hid (Grew w wv) := Lib.hid hSw
        go_simp
        try with_reducible rfl
      try simp only [Act.put, List.setIfInBounds_toArray, List.set_cons_zero, List.set_cons_succ]
      refine wpAnyH_takeD (i := 20) (d := 30) (v := ?_) rfl rfl (by kernel_rfl) (by kernel_rfl) (by kernel_rfl) (fun _ _ _ h => h) (Or.inl ⟨by rfl, ?_⟩) hHeld.out ?_
      rotate_left
      · intro wv hSw
        replace hSw : Hid (Grew w wv) := Lib.hid hSw
        go_simp
        try with_reducible rfl
      try simp only [Act.put, List.setIfInBounds_toArray, List.set_cons_zero, List.set_cons_succ]
      refine wpAnyH_takeD (i := 21) (d := 31) (v := ?_) rfl rfl (by kernel_rfl) (by kernel_rfl) (by kernel_rfl) (fun _ _ _ h => h) (Or.inl ⟨by rfl, ?_⟩) hHeld.out ?_
      rotate_left
      · intro wv hSw
        replace hSw : Hid (Grew w wv) := Lib.hid hSw
        have t0 := hSw.out.cell e0.out
        have t1 := hSw.out.cell e1.out
        have t2 := hSw.out.cell e2.out
        have t3 := hSw.out.cell e3.out
        have t4 := hSw.out.cell e4.out
        have t5 := hSw.out.cell e5.out
        have t6 := hSw.out.cell e6.out
        have t7 := hSw.out.cell e7.out
        have t8 := hSw.out.cell e8.out
        have t9 := hSw.out.cell e9.out
        have t10 := hSw.out.cell e10.out
        have t11 := hSw.out.cell e11.out
        go_simp
        try with_reducible rfl
      try simp only [Act.put, List.setIfInBounds_toArray, List.set_cons_zero, List.set_cons_succ]
      refine wpAnyH_takeD (i := 24) (d := 34) (v := ?_) rfl rfl (by kernel_rfl) (by kernel_rfl) (by kernel_rfl) (fun _ _ _ h => h) (Or.inl ⟨by rfl, ?_⟩) hHeld.out ?_
      rotate_left
      · intro wv hSw
        replace hSw : Hid (Grew w wv) := Lib.hid hSw
        go_simp
        try with_reducible rfl
      try simp only [Act.put, List.setIfInBounds_toArray, List.set_cons_zero, List.set_cons_succ]
      refine wpAnyH_takeD (i := 25) (d := 35) (v := ?_) rfl rfl (by kernel_rfl) (by kernel_rfl) (by kernel_rfl) (fun _ _ _ h => h) (Or.inl ⟨by rfl, ?_⟩) hHeld.out ?_
      rotate_left
      · intro wv hSw
        replace hSw : Hid (Grew w wv) := Lib.hid hSw
        go_simp
        try with_reducible rfl
      try simp only [Act.put, List.setIfInBounds_toArray, List.set_cons_zero, List.set_cons_succ]
      refine wpAnyH_takeD (i := 26) (d := 36) (v := ?_) rfl rfl (by kernel_rfl) (by kernel_rfl) (by kernel_rfl) (fun _ _ _ h => h) (Or.inl ⟨by rfl, ?_⟩) hHeld.out ?_
      rotate_left
      · intro wv hSw
        replace hSw : Hid (Grew w wv) := Lib.hid hSw
        go_simp
        try with_reducible rfl
      try simp only [Act.put, List.setIfInBounds_toArray, List.set_cons_zero, List.set_cons_succ]
      refine wpAnyH_takeD (i := 27) (d := 37) (v := ?_) rfl rfl (by kernel_rfl) (by kernel_rfl) (by kernel_rfl) (fun _ _ _ h => h) (Or.inl ⟨by rfl, ?_⟩) hHeld.out ?_
      rotate_left
      · intro wv hSw
        replace hSw : Hid (Grew w wv) := Lib.hid hSw
        have t0 := hSw.out.cell e0.out
        have t1 := hSw.out.cell e1.out
        have t2 := hSw.out.cell e2.out
        have t3 := hSw.out.cell e3.out
        have t4 := hSw.out.cell e4.out
        have t5 := hSw.out.cell e5.out
        have t6 := hSw.out.cell e6.out
        have t7 := hSw.out.cell e7.out
        have t8 := hSw.out.cell e8.out
        have t9 := hSw.out.cell e9.out
        have t10 := hSw.out.cell e10.out
        have t11 := hSw.out.cell e11.out
        go_simp
        try with_reducible rfl
      try simp only [Act.put, List.setIfInBounds_toArray, List.set_cons_zero, List.set_cons_succ]
      refine wpAnyH_ready (rs := [22]) (by kernel_rfl) (by simp) ?_
      refine AllReadyH.cons rfl (fun KK hKK => ?_) AllReadyH.nil
      go_simp
      refine (turned_any _ x k _ (edgeR_kept S1.out hHeld.out.keeps) hk hs).mono ?_
      rintro e wk3 ⟨vs, rfl, hV1, g⟩
      have gk := hHeld.out.trans g
      obtain ⟨b13, A13, n13, c13, C13, m13, d13, b14, A14, n14, c14, C14, m14, d14, b15, A15, n15, c15, C15, m15, d15, b16, A16, n16, c16, C16, m16, d16, rfl, X1⟩ := edge12_laid hV1
      clear hV1
      clear hHeld
      try dsimp only
      refine hKK.out _ _ gk (fun hHeld => ?_)
      clear gk hKK KK
      replace hHeld := Lib.hid (show Grew w wk3 from hHeld)
      try simp only [Act.put, List.setIfInBounds_toArray, List.set_cons_zero, List.set_cons_succ]
      refine wpAnyH_ready (rs := [23, 28]) (by kernel_rfl) (by simp) ?_
      refine AllReadyH.cons rfl (fun KK hKK => ?_) (AllReadyH.cons rfl (fun KK hKK => ?_) (AllReadyH.nil))
      · go_simp
        have gP := hHeld
        clear hHeld
        obtain ⟨R1, ga⟩ := row_one 37 X1.out
        clear X1
        replace R1 := Lib.hid R1
        try replace X2 := Lib.hid (says_edge.kept X2.out ga.keeps)
        try replace R2 := Lib.hid (RowK.grew says_edge R2.out ga)
        clear ga
        try dsimp only
        refine hKK.out _ _ (gP.out.alloc _) (fun hHeld => ?_)
        clear hKK KK
        replace hHeld := Lib.hid hHeld
        try simp only [Act.put, List.setIfInBounds_toArray, List.set_cons_zero, List.set_cons_succ]
        try generalize wk3.alloc (.cells #[.bool b13, .slice A13 n13 c13, .slice C13 m13 d13, .bool b14, .slice A14 n14 c14, .slice C14 m14 d14, .bool b15, .slice A15 n15 c15, .slice C15 m15 d15, .bool b16, .slice A16 n16 c16, .slice C16 m16 d16] 37) = wA at *
        refine wpAnyH_ready (rs := [28]) (by kernel_rfl) (by simp) ?_
        refine AllReadyH.cons rfl (fun KK hKK => ?_) AllReadyH.nil
        go_simp
        refine (rturned_any _ x k _ (edgeR_kept S1.out hHeld.out.keeps) hs).mono ?_
        rintro e wk4 ⟨vs, rfl, hV2, g⟩
        have gk := hHeld.out.trans g
        obtain ⟨b17, A17, n17, c17, C17, m17, d17, b18, A18, n18, c18, C18, m18, d18, b19, A19, n19, c19, C19, m19, d19, b20, A20, n20, c20, C20, m20, d20, rfl, X2⟩ := edge12_laid hV2
        clear hV2
        try replace X1 := Lib.hid (says_edge.kept X1.out g.keeps)
        try replace R1 := Lib.hid (RowK.grew says_edge R1.out g)
        clear hHeld
        try dsimp only
        refine hKK.out _ _ gk (fun hHeld => ?_)
        clear gk hKK KK
        replace hHeld := Lib.hid (show Grew w wk4 from hHeld)
        try simp only [Act.put, List.setIfInBounds_toArray, List.set_cons_zero, List.set_cons_succ]
        refine wpAnyH_ready (rs := [29]) (by kernel_rfl) (by simp) ?_
        refine AllReadyH.cons rfl (fun KK hKK => ?_) AllReadyH.nil
        go_simp
        have gP := hHeld
        clear hHeld
        obtain ⟨R2, ga⟩ := row_one 37 X2.out
        clear X2
        replace R2 := Lib.hid R2
        try replace X1 := Lib.hid (says_edge.kept X1.out ga.keeps)
        try replace R1 := Lib.hid (RowK.grew says_edge R1.out ga)
        clear ga
        try dsimp only
        refine hKK.out _ _ (gP.out.alloc _) (fun hHeld => ?_)
        clear hKK KK
        replace hHeld := Lib.hid hHeld
        try simp only [Act.put, List.setIfInBounds_toArray, List.set_cons_zero, List.set_cons_succ]
        try generalize wk4.alloc (.cells #[.bool b17, .slice A17 n17 c17, .slice C17 m17 d17, .bool b18, .slice A18 n18 c18, .slice C18 m18 d18, .bool b19, .slice A19 n19 c19, .slice C19 m19 d19, .bool b20, .slice A20 n20 c20, .slice C20 m20 d20] 37) = wA at *
        refine wpAnyH_ready (rs := [30]) (by kernel_rfl) (by simp) ?_
        refine AllReadyH.cons rfl (fun KK hKK => ?_) AllReadyH.nil
        go_simp
        refine (esame_yes _ _ [(x.2, x.1)] _ R1.out R2.out).mono ?_
        rintro e wk5 ⟨rfl, g⟩
        have gk := hHeld.out.trans g
        clear R1 R2
        clear hHeld
        try dsimp only
        refine hKK.out _ _ gk (fun hHeld => ?_)
        clear gk hKK KK
        replace hHeld := Lib.hid (show Grew w wk5 from hHeld)
        try simp only [Act.put, List.setIfInBounds_toArray, List.set_cons_zero, List.set_cons_succ]
        refine wpAnyH_takeD (i := 31) (d := 41) (v := ?_) rfl rfl (by kernel_rfl) (by kernel_rfl) (by kernel_rfl) (fun _ _ _ h => h) (Or.inl ⟨by rfl, ?_⟩) hHeld.out ?_
        rotate_left
        · intro wv hSw
          replace hSw : Hid (Grew w wv) := Lib.hid hSw
          go_simp
          try with_reducible rfl
        try simp only [Act.put, List.setIfInBounds_toArray, List.set_cons_zero, List.set_cons_succ]
        refine wpAnyH_takeD (i := 32) (d := 42) (v := ?_) rfl rfl (by kernel_rfl) (by kernel_rfl) (by kernel_rfl) (fun _ _ _ h => h) (Or.inl ⟨by rfl, ?_⟩) hHeld.out ?_
        rotate_left
        · intro wv hSw
          replace hSw : Hid (Grew w wv) := Lib.hid hSw
          go_simp
          try with_reducible rfl
        try simp only [Act.put, List.setIfInBounds_toArray, List.set_cons_zero, List.set_cons_succ]
        refine wpAnyH_done (by kernel_rfl) ?_ _
        go_wp2_with fail
        go_roundg (gk - 1)
        case rel => exact ⟨j + 1, by omega, by go_num, hHeld.out⟩
        case measure => omega
      · go_simp
        refine (rturned_any _ x k _ (edgeR_kept S1.out hHeld.out.keeps) hs).mono ?_
        rintro e wk4 ⟨vs, rfl, hV2, g⟩
        have gk := hHeld.out.trans g
        obtain ⟨b17, A17, n17, c17, C17, m17, d17, b18, A18, n18, c18, C18, m18, d18, b19, A19, n19, c19, C19, m19, d19, b20, A20, n20, c20, C20, m20, d20, rfl, X2⟩ := edge12_laid hV2
        clear hV2
        try replace X1 := Lib.hid (says_edge.kept X1.out g.keeps)
        try replace R1 := Lib.hid (RowK.grew says_edge R1.out g)
        clear hHeld
        try dsimp only
        refine hKK.out _ _ gk (fun hHeld => ?_)
        clear gk hKK KK
        replace hHeld := Lib.hid (show Grew w wk4 from hHeld)
        try simp only [Act.put, List.setIfInBounds_toArray, List.set_cons_zero, List.set_cons_succ]
        refine wpAnyH_ready (rs := [23, 29]) (by kernel_rfl) (by simp) ?_
        refine AllReadyH.cons rfl (fun KK hKK => ?_) (AllReadyH.cons rfl (fun KK hKK => ?_) (AllReadyH.nil))
        · go_simp
          have gP := hHeld
          clear hHeld
          obtain ⟨R1, ga⟩ := row_one 37 X1.out
          clear X1
          replace R1 := Lib.hid R1
          try replace X2 := Lib.hid (says_edge.kept X2.out ga.keeps)
          try replace R2 := Lib.hid (RowK.grew says_edge R2.out ga)
          clear ga
          try dsimp only
          refine hKK.out _ _ (gP.out.alloc _) (fun hHeld => ?_)
          clear hKK KK
          replace hHeld := Lib.hid hHeld
          try simp only [Act.put, List.setIfInBounds_toArray, List.set_cons_zero, List.set_cons_succ]
          try generalize wk4.alloc (.cells #[.bool b13, .slice A13 n13 c13, .slice C13 m13 d13, .bool b14, .slice A14 n14 c14, .slice C14 m14 d14, .bool b15, .slice A15 n15 c15, .slice C15 m15 d15, .bool b16, .slice A16 n16 c16, .slice C16 m16 d16] 37) = wA at *
          refine wpAnyH_ready (rs := [29]) (by kernel_rfl) (by simp) ?_
          refine AllReadyH.cons rfl (fun KK hKK => ?_) AllReadyH.nil
          go_simp
          have gP := hHeld
          clear hHeld
          obtain ⟨R2, ga⟩ := row_one 37 X2.out
          clear X2
          replace R2 := Lib.hid R2
          try replace X1 := Lib.hid (says_edge.kept X1.out ga.keeps)
          try replace R1 := Lib.hid (RowK.grew says_edge R1.out ga)
          clear ga
          try dsimp only
          refine hKK.out _ _ (gP.out.alloc _) (fun hHeld => ?_)
          clear hKK KK
          replace hHeld := Lib.hid hHeld
          try simp only [Act.put, List.setIfInBounds_toArray, List.set_cons_zero, List.set_cons_succ]
          try generalize wk4.alloc (.cells #[.bool b17, .slice A17 n17 c17, .slice C17 m17 d17, .bool b18, .slice A18 n18 c18, .slice C18 m18 d18, .bool b19, .slice A19 n19 c19, .slice C19 m19 d19, .bool b20, .slice A20 n20 c20, .slice C20 m20 d20] 37) = wA at *
          refine wpAnyH_ready (rs := [30]) (by kernel_rfl) (by simp) ?_
          refine AllReadyH.cons rfl (fun KK hKK => ?_) AllReadyH.nil
          go_simp
          refine (esame_yes _ _ [(x.2, x.1)] _ R1.out R2.out).mono ?_
          rintro e wk5 ⟨rfl, g⟩
          have gk := hHeld.out.trans g
          clear R1 R2
          clear hHeld
          try dsimp only
          refine hKK.out _ _ gk (fun hHeld => ?_)
          clear gk hKK KK
          replace hHeld := Lib.hid (show Grew w wk5 from hHeld)
          try simp only [Act.put, List.setIfInBounds_toArray, List.set_cons_zero, List.set_cons_succ]
          refine wpAnyH_takeD (i := 31) (d := 41) (v := ?_) rfl rfl (by kernel_rfl) (by kernel_rfl) (by kernel_rfl) (fun _ _ _ h => h) (Or.inl ⟨by rfl, ?_⟩) hHeld.out ?_
          rotate_left
          · intro wv hSw
            replace hSw : Hid (Grew w wv) := Lib.hid hSw
            go_simp
            try with_reducible rfl
          try simp only [Act.put, List.setIfInBounds_toArray, List.set_cons_zero, List.set_cons_succ]
          refine wpAnyH_takeD (i := 32) (d := 42) (v := ?_) rfl rfl (by kernel_rfl) (by kernel_rfl) (by kernel_rfl) (fun _ _ _ h => h) (Or.inl ⟨by rfl, ?_⟩) hHeld.out ?_
          rotate_left
          · intro wv hSw
            replace hSw : Hid (Grew w wv) := Lib.hid hSw
            go_simp
            try with_reducible rfl
          try simp only [Act.put, List.setIfInBounds_toArray, List.set_cons_zero, List.set_cons_succ]
          refine wpAnyH_done (by kernel_rfl) ?_ _
          go_wp2_with fail
          go_roundg (gk - 1)
          case rel => exact ⟨j + 1, by omega, by go_num, hHeld.out⟩
          case measure => omega
        · go_simp
          have gP := hHeld
          clear hHeld
          obtain ⟨R2, ga⟩ := row_one 37 X2.out
          clear X2
          replace R2 := Lib.hid R2
          try replace X1 := Lib.hid (says_edge.kept X1.out ga.keeps)
          try replace R1 := Lib.hid (RowK.grew says_edge R1.out ga)
          clear ga
          try dsimp only
          refine hKK.out _ _ (gP.out.alloc _) (fun hHeld => ?_)
          clear hKK KK
          replace hHeld := Lib.hid hHeld
          try simp only [Act.put, List.setIfInBounds_toArray, List.set_cons_zero, List.set_cons_succ]
          try generalize wk4.alloc (.cells #[.bool b17, .slice A17 n17 c17, .slice C17 m17 d17, .bool b18, .slice A18 n18 c18, .slice C18 m18 d18, .bool b19, .slice A19 n19 c19, .slice C19 m19 d19, .bool b20, .slice A20 n20 c20, .slice C20 m20 d20] 37) = wA at *
          refine wpAnyH_ready (rs := [23]) (by kernel_rfl) (by simp) ?_
          refine AllReadyH.cons rfl (fun KK hKK => ?_) AllReadyH.nil
          go_simp
          have gP := hHeld
          clear hHeld
          obtain ⟨R1, ga⟩ := row_one 37 X1.out
          clear X1
          replace R1 := Lib.hid R1
          try replace X2 := Lib.hid (says_edge.kept X2.out ga.keeps)
          try replace R2 := Lib.hid (RowK.grew says_edge R2.out ga)
          clear ga
          try dsimp only
          refine hKK.out _ _ (gP.out.alloc _) (fun hHeld => ?_)
          clear hKK KK
          replace hHeld := Lib.hid hHeld
          try simp only [Act.put, List.setIfInBounds_toArray, List.set_cons_zero, List.set_cons_succ]
          try generalize wk4.alloc (.cells #[.bool b13, .slice A13 n13 c13, .slice C13 m13 d13, .bool b14, .slice A14 n14 c14, .slice C14 m14 d14, .bool b15, .slice A15 n15 c15, .slice C15 m15 d15, .bool b16, .slice A16 n16 c16, .slice C16 m16 d16] 37) = wA at *
          refine wpAnyH_ready (rs := [30]) (by kernel_rfl) (by simp) ?_
          refine AllReadyH.cons rfl (fun KK hKK => ?_) AllReadyH.nil
          go_simp
          refine (esame_yes _ _ [(x.2, x.1)] _ R1.out R2.out).mono ?_
          rintro e wk5 ⟨rfl, g⟩
          have gk := hHeld.out.trans g
          clear R1 R2
          clear hHeld
          try dsimp only
          refine hKK.out _ _ gk (fun hHeld => ?_)
          clear gk hKK KK
          replace hHeld := Lib.hid (show Grew w wk5 from hHeld)
          try simp only [Act.put, List.setIfInBounds_toArray, List.set_cons_zero, List.set_cons_succ]
          refine wpAnyH_takeD (i := 31) (d := 41) (v := ?_) rfl rfl (by kernel_rfl) (by kernel_rfl) (by kernel_rfl) (fun _ _ _ h => h) (Or.inl ⟨by rfl, ?_⟩) hHeld.out ?_
          rotate_left
          · intro wv hSw
            replace hSw : Hid (Grew w wv) := Lib.hid hSw
            go_simp
            try with_reducible rfl
          try simp only [Act.put, List.setIfInBounds_toArray, List.set_cons_zero, List.set_cons_succ]
          refine wpAnyH_takeD (i := 32) (d := 42) (v := ?_) rfl rfl (by kernel_rfl) (by kernel_rfl) (by kernel_rfl) (fun _ _ _ h => h) (Or.inl ⟨by rfl, ?_⟩) hHeld.out ?_
          rotate_left
          · intro wv hSw
            replace hSw : Hid (Grew w wv) := Lib.hid hSw
            go_simp
            try with_reducible rfl
          try simp only [Act.put, List.setIfInBounds_toArray, List.set_cons_zero, List.set_cons_succ]
          refine wpAnyH_done (by kernel_rfl) ?_ _
          go_wp2_with fail
          go_roundg (gk - 1)
          case rel => exact ⟨j + 1, by omega, by go_num, hHeld.out⟩
          case measure => omega
    · obtain rfl : j = L := by omega
      have hG' := Lib.hid hG
      clear hG
      go_wp2_with fail
      refine (xrow_any _ l k _ (RowK.grew (says_edgeR k) hr.out hG'.out) hq.out hk hs hl.out).mono ?_
      rintro e w1 ⟨V1, rfl, hV1, g⟩
      have G1 := Lib.hid (hG'.out.trans g)
      replace hV1 := Lib.hid hV1
      clear g hG'
      go_wp2_with fail
      refine (rxrow_any _ l k _ (RowK.grew (says_edgeR k) hr.out G1.out) hq.out hk hs hl.out).mono ?_
      rintro e w2 ⟨V2, rfl, hV2, g⟩
      have G2 := Lib.hid (G1.out.trans g)
      replace hV1 := Lib.hid (RowK.grew says_edge hV1.out g)
      replace hV2 := Lib.hid hV2
      clear g G1
      go_wp2_with fail
      refine (esame_yes _ _ _ _ hV1.out hV2.out).mono ?_
      rintro e w3 ⟨rfl, g⟩
      have G3 := Lib.hid (G2.out.trans g)
      clear g G2 hV1 hV2
      go_wp2_with fail
      refine (xends_any _ l k _ (RowK.grew (says_edgeR k) hr.out G3.out) hq.out hk hs hl.out).mono ?_
      rintro e w4 ⟨V3, rfl, hV3, g⟩
      have G4 := Lib.hid (G3.out.trans g)
      replace hV3 := Lib.hid hV3
      clear g G3
      go_wp2_with fail
      refine (rxends_any _ l k _ (RowK.grew (says_edgeR k) hr.out G4.out) hq.out hk hs hl.out).mono ?_
      rintro e w5 ⟨V4, rfl, hV4, g⟩
      have G5 := Lib.hid (G4.out.trans g)
      replace hV3 := Lib.hid (hV3.out.grew g)
      replace hV4 := Lib.hid hV4
      clear g G4
      go_wp2_with fail
      refine (rowsame_yes _ _ _ _ hV3.out hV4.out).mono ?_
      rintro e w6 ⟨rfl, g⟩
      have G6 := Lib.hid (G5.out.trans g)
      clear g G5 hV3 hV4
      go_wp2_with fail
      refine (lives18_any _).mono ?_
      rintro e w7 ⟨rfl, g⟩
      have G7 := Lib.hid (G6.out.trans g)
      clear g G6
      go_wp2_with fail
      go_ret
      exact ⟨rfl, G7.out⟩
end Go.Proofs.YtmommicmblfibaaGreat
namespace Go.Proofs.YtmommicmblfibaaGreat
open Go.ChangeShapes Go.WideShapes Go.ChangeAt Go.RowKit

theorem cells_u32 : Tryz.prog.cellsOf 107 = 1 := by kernel_rfl

section
variable {H : Type} {enc : TypeId × Value → H} {w : World} {base : Nat} {spare : Nat → Bool} {held : Bool}

theorem bulk_lits (k : IntKind) : ∀ zs : List Int, Rows.uptoBulkAll (H := H) (lits k zs) = zs.length
  | [] => by simp [lits, Rows.uptoBulkAll]
  | z :: zs => by
    have h := bulk_lits k zs
    unfold lits at h ⊢
    simp only [List.map_cons, Rows.uptoBulkAll, Rows.uptoBulk, h, List.length_cons]
    omega

/-- A slice of words that comes in reads as a number. -/
theorem open_words {fuel : Nat} {cs : List Value} {x : DataW H × List MemPlace} (h : DataW.trod enc Tryz.prog w base spare held fuel 29 cs = some x) :
    ∃ A n c N, cs = [.slice A n c] ∧ Num 4294967296 .u32 w (.slice A n c) N n ∧ n ≤ Rows.uptoBulk x.1 := by
  rcases open_ints Tryz.underlying29 Tryz.underlying107 cells_u32 h with ⟨rfl, rfl⟩ | ⟨a, ln, cap, zs, rfl, _, hl, hm, hz, rfl, hcell, hwz⟩
  · exact ⟨none, 0, 0, 0, rfl, Num.nil _ _ _, by omega⟩
  · have hzl : ln ≤ zs.length := by rw [hz]; split <;> omega
    have hu : ∀ z ∈ zs, 0 ≤ z ∧ z < 4294967296 := by
      intro z hzm
      have h1 := hwz z hzm
      have h2 : IntKind.u32.min = 0 := rfl
      have h3 : IntKind.u32.max = 4294967295 := rfl
      simp only [Lit.wf, Bool.and_eq_true, decide_eq_true_eq] at h1
      omega
    let xs : List Nat := (zs.take ln).map Int.toNat
    have hxl : xs.length = ln := by simp [xs]; omega
    have hxb : ∀ y ∈ xs, y < 4294967296 := by
      intro y hy
      obtain ⟨z, hz1, rfl⟩ := List.mem_map.1 hy
      have := hu z (List.mem_of_mem_take hz1)
      omega
    have hN : val 4294967296 xs < 4294967296 ^ ln := by rw [← hxl]; exact val_lt (by omega) xs hxb
    have hnum : Num 4294967296 .u32 w (.slice (some a) ln cap) (val 4294967296 xs) ln := by
      refine ⟨some a, cap, rfl, hl, by unfold maxLen at hm; omega, hN, fun h0 => ?_⟩
      obtain ⟨b, off, sp⟩ := a
      have hsp : sp = none := by simpa [Addr.add] using World.cell?_spot (hcell 0 (by omega))
      subst hsp
      refine ⟨b, off, rfl, fun i hi => ?_⟩
      have hc := hcell i (by omega)
      rw [add_plain] at hc
      rw [hc, dig_val (by omega) xs hxb i]
      have hi' : i < zs.length := by omega
      have e : xs.getD i 0 = (zs.getD i 0).toNat := by simp [xs, hi, hi']
      have hz0 := hu (zs.getD i 0) (by simp [hi'])
      rw [e, Int.toNat_of_nonneg hz0.1]
    refine ⟨some a, ln, cap, _, rfl, hnum, ?_⟩
    have h2 : Rows.uptoBulk (DataW.slice (lits (H := H) .u32 (zs.take ln)) (lits .u32 (zs.drop ln))) ≥ ln := by
      simp only [Rows.uptoBulk, bulk_lits, List.length_take, List.length_drop]
      omega
    exact h2

set_option maxRecDepth 100000 in
theorem open_frac {fuel : Nat} {cs : List Value} {x : DataW H × List MemPlace} (h : DataW.trod enc Tryz.prog w base spare held fuel 33 cs = some x) :
    ∃ b A n c C m d q, cs = [.bool b, .slice A n c, .slice C m d] ∧ FracR w (.agg #[.bool b, .slice A n c, .slice C m d]) q (Rows.uptoBulk x.1) := by
  obtain ⟨y0, y1, n1, rfl, hl, h0, h1⟩ := trod_struct2 Tryz.underlying33 h
  obtain ⟨z0, z1, n2, rfl, hl2, g0, g1⟩ := trod_struct2 Tryz.underlying31 h0
  have e3 : Tryz.prog.cellsOf 33 = 3 := by kernel_rfl
  have e2 : Tryz.prog.cellsOf 31 = 2 := by kernel_rfl
  have e1 : Tryz.prog.cellsOf 29 = 1 := by kernel_rfl
  have e0 : Tryz.prog.cellsOf 4 = 1 := by kernel_rfl
  rw [e3] at hl
  match cs, hl with
  | [a0, a1, a2], _ =>
    simp only [e0, e1, e2, List.drop_zero, List.drop_succ_cons, List.take_succ_cons, List.take_zero] at h1 g0 g1
    obtain ⟨b, hb, -⟩ := DataW.trod_bool Tryz.underlying4 g0
    obtain ⟨A, n, c, N, hA, hN, hNl⟩ := open_words g1
    obtain ⟨C, m, d, D, hC, hD, hDl⟩ := open_words h1
    injection hb with hb
    injection hA with hA
    injection hC with hC
    subst hb; subst hA; subst hC
    refine ⟨b, A, n, c, C, m, d, _, rfl, b, N, D, n, m, _, _, rfl, hN, hD, rfl, ?_, ?_⟩
    · simp only [Rows.uptoBulk, Rows.uptoBulkAll]; omega
    · simp only [Rows.uptoBulk, Rows.uptoBulkAll]; omega

set_option maxRecDepth 100000 in
theorem open_spot {fuel : Nat} {cs : List Value} {x : DataW H × List MemPlace} (h : DataW.trod enc Tryz.prog w base spare held fuel 35 cs = some x) :
    ∃ p q, SpotR w (.agg cs.toArray) p q (Rows.uptoBulk x.1) := by
  obtain ⟨y0, y1, n1, rfl, hl, h0, h1⟩ := trod_struct2 Tryz.underlying35 h
  have e6 : Tryz.prog.cellsOf 35 = 6 := by kernel_rfl
  have e3 : Tryz.prog.cellsOf 33 = 3 := by kernel_rfl
  rw [e6] at hl
  match cs, hl with
  | [a0, a1, a2, a3, a4, a5], _ =>
    simp only [e3, List.drop_zero, List.drop_succ_cons, List.take_succ_cons, List.take_zero] at h0 h1
    obtain ⟨b, A, n, c, C, m, d, p, e, hp⟩ := open_frac h0
    obtain ⟨b', A', n', c', C', m', d', q, e', hq⟩ := open_frac h1
    injection e with i0 e; injection e with i1 e; injection e with i2 e
    injection e' with i3 e'; injection e' with i4 e'; injection e' with i5 e'
    subst i0; subst i1; subst i2; subst i3; subst i4; subst i5
    obtain ⟨neg, N, D, n1, m1, va, vd, w1, w2, w3, w4, w5, w6⟩ := hp
    obtain ⟨neg', N', D', n1', m1', va', vd', w1', w2', w3', w4', w5', w6'⟩ := hq
    refine ⟨p, q, b, A, n, c, C, m, d, b', A', n', c', C', m', d', rfl, ⟨neg, N, D, n1, m1, va, vd, w1, w2, w3, w4, ?_, ?_⟩, ⟨neg', N', D', n1', m1', va', vd', w1', w2', w3', w4', ?_, ?_⟩⟩ <;>
      (simp only [Rows.uptoBulk, Rows.uptoBulkAll]; omega)
end

/-- The row's last step where only new memory was made. -/
theorem post_grew {H : Type} {enc : TypeId × Value → H} {P : Program} {f : Func} {s : ChangeSpec} {apart fresh handsOn again : Bool} {W W' : World} {args : Array Value} {v : Value} {ds gs : List (DataW H)} {before pa pv : List MemPlace}
    (hW : DataW.Whole enc P f.params.toList s.vars apart W args.toList ds gs before)
    (hres : ∀ (b : Nat) (sp : Nat → Bool) (hd : Bool), DataW.TrodAll enc P W' b sp hd f.resultTypes.toList (v.resultList f.resultTypes.size) (s.fn H (ds ++ gs)).results [])
    (hargs : ∀ sp : Nat → Bool, (∀ p ∈ before, sp p.block = true) → DataW.TrodAll enc P W' 0 sp true f.params.toList args.toList (s.fn H (ds ++ gs)).args pa)
    (hvars : ∀ sp : Nat → Bool, (∀ p ∈ before, sp p.block = true) → DataW.TrodVars enc P W' sp s.vars (s.fn H (ds ++ gs)).vars pv)
    (hps : before = pa ++ pv) (g : Grew W W')
    (hok : ∀ (j : Nat) (t : TypeId) (r : Value), f.resultTypes[j]? = some t → (v.resultList f.resultTypes.size)[j]? = some r → Value.okWide P W' .any 0 t r) :
    s.post enc P f apart fresh handsOn again W args v W' := by
  have hb := g.below
  have hlt : ∀ p ∈ before, p.block < W.heap.size := fun p hp => hW.lt p hp
  have hold : ∀ p ∈ before, (fun b => decide (b < W.heap.size)) p.block = true := fun p hp => by simpa using hlt p hp
  refine ⟨ds, gs, before, [], pa, pv, hW, hres _ _ _, hargs _ hold, hvars _ hold, World.keptBut_mono (fun p hp => ⟨hp, ?_⟩) (hb.frame (· ∈ before)), fun _ => ?_⟩
  · rw [hps, List.mem_append] at hp
    exact Or.inr hp
  · obtain ⟨_, _, _, _, _, hz, hn⟩ := hW
    refine ⟨hok, _, _, ([] ++ pa) ++ pv, ⟨[] ++ pa, pv, trodAll_append (hargs _ (fun _ _ => rfl)) (hres _ _ _), hvars _ (fun _ _ => rfl), rfl, ?_, ?_⟩, ?_⟩
    · intro b off hp
      have hin : MemPlace.cell b off ∈ before := by rw [hps]; simpa using hp
      rw [hb.frozen (hlt _ hin)]
      exact hz b off hin
    · intro ha
      have := hn ha
      rw [hps] at this
      simpa using this
    · intro p hp _
      rw [hps]
      simpa using hp
end Go.Proofs.YtmommicmblfibaaGreat
namespace Go.Proofs.YtmommicmblfibaaGreat
open Go.ChangeShapes Go.WideShapes Go.ChangeAt Go.RowKit

section
variable {H : Type} {enc : TypeId × Value → H} {w : World} {base : Nat} {spare : Nat → Bool} {held : Bool}

theorem bulk_mem : ∀ {ds : List (DataW H)} {d : DataW H}, d ∈ ds → Rows.uptoBulk d ≤ Rows.uptoBulkAll ds
  | [], _, h => by simp at h
  | e :: ds, d, h => by
    rw [Rows.uptoBulkAll]
    rcases List.mem_cons.1 h with rfl | h
    · omega
    · have := bulk_mem h
      omega
theorem bulk_len : ∀ (ds : List (DataW H)), (∀ d ∈ ds, 1 ≤ Rows.uptoBulk d) → ds.length ≤ Rows.uptoBulkAll ds
  | [], _ => by simp
  | e :: ds, h => by
    have h1 := h e List.mem_cons_self
    have h2 := bulk_len ds fun d hd => h d (List.mem_cons_of_mem _ hd)
    rw [Rows.uptoBulkAll, List.length_cons]
    omega

set_option maxRecDepth 100000 in
/-- A spot that comes in weighs something. -/
theorem spot_bulk {fuel : Nat} {cs : List Value} {x : DataW H × List MemPlace} (h : DataW.trod enc Tryz.prog w base spare held fuel 35 cs = some x) : 1 ≤ Rows.uptoBulk x.1 := by
  obtain ⟨y0, y1, n1, rfl, hl, h0, h1⟩ := trod_struct2 Tryz.underlying35 h
  obtain ⟨z0, z1, n2, rfl, hl2, g0, g1⟩ := trod_struct2 Tryz.underlying33 h0
  obtain ⟨u0, u1, n3, rfl, hl3, k0, k1⟩ := trod_struct2 Tryz.underlying31 g0
  have e3 : Tryz.prog.cellsOf 4 = 1 := by kernel_rfl
  have e6 : Tryz.prog.cellsOf 35 = 6 := by kernel_rfl
  have e4 : Tryz.prog.cellsOf 33 = 3 := by kernel_rfl
  have e2 : Tryz.prog.cellsOf 31 = 2 := by kernel_rfl
  obtain ⟨b, hb, hx⟩ := DataW.trod_bool Tryz.underlying4 k0
  subst hx
  simp only [Rows.uptoBulk, Rows.uptoBulkAll]
  omega

end
end Go.Proofs.YtmommicmblfibaaGreat
