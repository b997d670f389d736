/- r05.At. Condition: ints of 64 bits. An operation of a region that draws is taken first, its slot written out. Conditions: none. CrossBoth, the walk. Condition: ints of 64 bits. How spots come in: an argument of type api.Spot reads as two fractions, of no more words than its reading's bulk. Conditions: none. -/
import Derived.Test.YthhgogpglocjdaaJRowP
import Derived.Test.YthhgogpglocjdaaJR4c
import Derived.Test.YthhgogpglocjdaaJKit
import Derived.Deep.RegionHeld3
import Derived.Test.YthhgogpglocjdaaJRSame
import Derived.Test.YthhgogpglocjdaaRows
import Derived.WalkKit
import Derived.ProofKit
import Derived.OpenShut
import Derived.JoinedCond
import Derived.ChangeSlices
import Derived.Carry
namespace Go.Proofs.Ythhgogpglocjdaa
open Go.RowKit

set_option maxRecDepth 100000 in
set_option maxHeartbeats 8000000 in
theorem rat5_any (x y : Int) (w : World) (x0 : -9223372036854775808 ≤ x) (x1 : x ≤ 9223372036854775807) (y0 : -9223372036854775808 ≤ y) (y1 : y ≤ 9223372036854775807) :
    Calls Try.prog 7 #[.agg #[.int .i64 x, .int .i64 y]] w fun e w' => ∃ V, e = .returned V ∧ SpotC w' V (x : Rat) (y : Rat) ∧ Grew w w' := by
  go_enter Try.func7, Try.ntmps7
  go_wp2_with fail
  refine gen_wp ?_
  intro W0 hW0
  have G0 : Grew w W0 := by rw [hW0]; exact ((Grew.refl w).alloc _).alloc _
  have P : Box2 W0 (w.heap.size) 0 (.int .i64 x) (.int .i64 y) := by rw [hW0]; exact ⟨by simp [go_sem], by simp [go_sem]⟩
  replace P := Lib.hid P
  have R : Res3 W0 (w.heap.size + 1) 0 (.bool false) (.slice none 0 0) (.slice none 0 0) := by rw [hW0]; exact ⟨by simp [go_sem], by simp [go_sem], by simp [go_sem], by simp [go_sem], by simp [go_sem], by simp [go_sem], by simp⟩
  replace R := Lib.hid R
  have R_ : Res3 W0 (w.heap.size + 1) 3 (.bool false) (.slice none 0 0) (.slice none 0 0) := by rw [hW0]; exact ⟨by simp [go_sem], by simp [go_sem], by simp [go_sem], by simp [go_sem], by simp [go_sem], by simp [go_sem], by simp⟩
  replace R_ := Lib.hid R_
  have z0 : w.heap.size < W0.heap.size := by rw [hW0]; simp <;> omega
  replace z0 := Lib.hid z0
  have z1 : w.heap.size + 1 < W0.heap.size := by rw [hW0]; simp <;> omega
  replace z1 := Lib.hid z1
  clear hW0
  replace G0 := Lib.hid G0
  have gd : Grew W0 W0.drew := (Grew.refl W0).drew
  replace R := Lib.hid (R.out.grew gd)
  replace R_ := Lib.hid (R_.out.grew gd)
  replace P := Lib.hid (P.out.grew gd)
  replace z0 := Lib.hid (lt_grew z0.out gd)
  replace z1 := Lib.hid (lt_grew z1.out gd)
  replace gd := Lib.hid gd
  have ZP := P
  go_region_held3 (fun w' => w'.cell? ⟨w.heap.size, 0, none⟩ = some (.int .i64 x) ∧ w'.cell? ⟨w.heap.size, 1, none⟩ = some (.int .i64 y))
    (first | (with_reducible exact ⟨ZP.out.p0, ZP.out.p1⟩) | (with_reducible exact ⟨g1.cell ZP.out.p0, g1.cell ZP.out.p1⟩) | (with_reducible exact ⟨(g1.trans g2).cell ZP.out.p0, (g1.trans g2).cell ZP.out.p1⟩) | (with_reducible exact ⟨other3 (o := 3) (by omega) (other3 (o := 0) (by omega) ((g1.trans g2).cell ZP.out.p0)), other3 (o := 3) (by omega) (other3 (o := 0) (by omega) ((g1.trans g2).cell ZP.out.p1))⟩))
    (first | (go_at_call 23; refine (rfint_any x _ x0 x1).mono ?_; rintro e w1 ⟨V1, rfl, hV1, g1⟩; obtain ⟨b13, A13, n13, c13, C13, m13, d13, rfl, X1⟩ := hV1.laid; clear hV1; replace R := Lib.hid (R.out.grew g1); replace R_ := Lib.hid (R_.out.grew g1); replace P := Lib.hid (P.out.grew g1); replace z0 := Lib.hid (lt_grew z0.out g1); replace z1 := Lib.hid (lt_grew z1.out g1)) | (go_at_call 23; refine (rfint_any y _ y0 y1).mono ?_; rintro e w2 ⟨V2, rfl, hV2, g2⟩; obtain ⟨b14, A14, n14, c14, C14, m14, d14, rfl, X2⟩ := hV2.laid; clear hV2; replace R := Lib.hid (R.out.grew g2); replace R_ := Lib.hid (R_.out.grew g2); replace P := Lib.hid (P.out.grew g2); replace z0 := Lib.hid (lt_grew z0.out g2); replace z1 := Lib.hid (lt_grew z1.out g2); replace X1 := Lib.hid (X1.out.kept g2.keeps); obtain ⟨R0, R1, R2, Rf0, Rf1, Rf2, Rs⟩ := R.out; obtain ⟨R_0, R_1, R_2, R_f0, R_f1, R_f2, R_s⟩ := R_.out))
  replace G0 := Lib.hid (((G0.out.trans gd.out).trans g1).trans g2)
  clear gd g1 g2 ZP
  refine gen_then ?_
  intro W9 hW9
  obtain ⟨q0, q1, q2, q3, q4, q5, qK, qG⟩ := store6 R0 R1 R2 R_0 R_1 R_2 hW9
  have GE := qG w (by omega) G0.out
  have QK := Lib.hid qK
  clear qK qG hW9 R0 R1 R2 R_0 R_1 R_2
  go_wp2_with fail
  exact bodyPost_ret (v := .agg #[.bool b13, .slice A13 n13 c13, .slice C13 m13 d13, .bool b14, .slice A14 n14 c14, .slice C14 m14 d14]) (by simp [results, Try.results7, go_sem, q0, q1, q2, q3, q4, q5]) rfl ⟨_, rfl, SpotC.mk (X1.out.kept QK.out) (X2.out.kept QK.out), GE⟩

end Go.Proofs.Ythhgogpglocjdaa
namespace Go.Proofs.Ythhgogpglocjdaa
open Go.RowKit

/-- An operation is taken first, its slot written out. -/
theorem wpAnyH_takeD {P : Program} {ops : Array Oper} {Q : Exit → Act → World → Prop} {md : Region.Mode} {S : World → Prop} {i d : Nat} {oi : Oper} {v : Value} {fuel : Nat} {listed : Array Bool} {a : Act} {w : World} (hi : ops[i]? = some oi) (hd : oi.dst = some d)
    (hs : Region.noSelect ops = true) (hf : Region.free md ops listed i = true) (hr : (Region.ready md ops listed).contains i = true)
    (hQ : ∀ c a w, Q (.panic c) (a.put (some d) v) w → Q (.panic c) a w) (hy : YieldsIf P ops S oi v a) (hS : S w)
    (h : wpAnyH P md ops Q S fuel (listed.setIfInBounds i true) (a.put (some d) v) w) : wpAnyH P md ops Q S (fuel + 1) listed a w :=
  wpAnyH_take hi hs hf hr (by rw [hd]; exact hQ) hy hS (by rw [hd]; exact h)
end Go.Proofs.Ythhgogpglocjdaa
namespace Go.Proofs.Ythhgogpglocjdaa
open Go.RowKit

set_option maxRecDepth 100000 in
set_option maxHeartbeats 16000000 in
theorem bothl_any (ax ay bx b_y cx cy dx dy : Int) (w : World) (ra : In64 ax ay) (rb : In64 bx b_y) (rc : In64 cx cy) (rd : In64 dx dy) :
    Calls Try.prog 3 #[segV ax ay bx b_y, segV cx cy dx dy] w fun e w' => e = .returned (.bool true) ∧ Grew w w' := by
  obtain ⟨L, hL⟩ : ∃ L, meetQ ax ay bx b_y cx cy dx dy = L := ⟨_, rfl⟩
  have hL2 := Lib.hid ((meetQ_swap ax ay bx b_y cx cy dx dy).trans hL)
  have hL3 := Lib.hid ((meetQ_back ax ay bx b_y cx cy dx dy).trans hL)
  have hq := Lib.hid (fun p (h : p ∈ L) => meet_qb (ax := ax) (ay := ay) (bx := bx) (b_y := b_y) (cx := cx) (cy := cy) (dx := dx) (dy := dy) (p := p) (by rw [hL]; exact h))
  have ho := Lib.hid (fun p (h : p ∈ L) => meetQ_on (ax := ax) (ay := ay) (bx := bx) (b_y := b_y) (cx := cx) (cy := cy) (dx := dx) (dy := dy) (p := p) (by rw [hL]; exact h))
  replace hL := Lib.hid hL
  have qa := Lib.hid (QB_i64 ra.1 ra.2.1)
  have qa2 := Lib.hid (QB_i64 ra.2.2.1 ra.2.2.2)
  have qb := Lib.hid (QB_i64 rb.1 rb.2.1)
  have qb2 := Lib.hid (QB_i64 rb.2.2.1 rb.2.2.2)
  have qc := Lib.hid (QB_i64 rc.1 rc.2.1)
  have qc2 := Lib.hid (QB_i64 rc.2.2.1 rc.2.2.2)
  have qd := Lib.hid (QB_i64 rd.1 rd.2.1)
  have qd2 := Lib.hid (QB_i64 rd.2.2.1 rd.2.2.2)
  replace ra := Lib.hid ra
  replace rb := Lib.hid rb
  replace rc := Lib.hid rc
  replace rd := Lib.hid rd
  go_enter Try.func3, Try.ntmps3
  go_wp2_with fail
  refine gen_calls ?_
  intro W0 hW0
  have G0 : Grew w W0 := by rw [hW0]; exact ((Grew.refl w).alloc _).alloc _
  have P : Box4 W0 (w.heap.size) 0 (.int .i64 ax) (.int .i64 ay) (.int .i64 bx) (.int .i64 b_y) := by rw [hW0]; exact ⟨by simp [go_sem], by simp [go_sem], by simp [go_sem], by simp [go_sem]⟩
  replace P := Lib.hid P
  have Q : Box4 W0 (w.heap.size + 1) 0 (.int .i64 cx) (.int .i64 cy) (.int .i64 dx) (.int .i64 dy) := by rw [hW0]; exact ⟨by simp [go_sem], by simp [go_sem], by simp [go_sem], by simp [go_sem]⟩
  replace Q := Lib.hid Q
  have z0 : w.heap.size < W0.heap.size := by rw [hW0]; simp <;> omega
  replace z0 := Lib.hid z0
  have z1 : w.heap.size + 1 < W0.heap.size := by rw [hW0]; simp <;> omega
  replace z1 := Lib.hid z1
  clear hW0
  replace G0 := Lib.hid G0
  refine (meet_any ax ay bx b_y cx cy dx dy _ ra.out rb.out rc.out rd.out).mono ?_
  rintro e w1 ⟨v, rfl, hv, g1⟩
  replace P := Lib.hid (P.out.grew g1)
  replace Q := Lib.hid (Q.out.grew g1)
  replace z0 := Lib.hid (lt_grew z0.out g1)
  replace z1 := Lib.hid (lt_grew z1.out g1)
  replace G0 := Lib.hid (G0.out.trans g1)
  clear g1
  rw [hL.out] at hv
  have hv0 := Lib.hid hv
  obtain ⟨A, c, rfl, r1, r2, r3⟩ := hv
  obtain ⟨n, hn⟩ : ∃ n, L.length = n := ⟨_, rfl⟩
  rw [hn] at r1 r3 hv0 ⊢
  have hn9 : n ≤ 9223372036854775807 := by omega
  replace r3 := Lib.hid r3
  replace hn := Lib.hid hn
  obtain ⟨P0, P1, P2, P3⟩ := P.out
  go_upto_region 3 with fail
  clear P0 P1 P2 P3
  refine gen_wp ?_
  intro W1 hW1
  have gl : Grew w1 W1 := by rw [hW1]; exact (Grew.refl _).alloc _
  replace P := Lib.hid (P.out.grew gl)
  replace Q := Lib.hid (Q.out.grew gl)
  replace z0 := Lib.hid (lt_grew z0.out gl)
  replace z1 := Lib.hid (lt_grew z1.out gl)
  have B : Box4 W1 (w1.heap.size) 0 (.int .i64 bx) (.int .i64 b_y) (.int .i64 ax) (.int .i64 ay) := by rw [hW1]; exact ⟨by simp [go_sem], by simp [go_sem], by simp [go_sem], by simp [go_sem]⟩
  replace B := Lib.hid B
  have z2 : w1.heap.size < W1.heap.size := by rw [hW1]; simp <;> omega
  replace z2 := Lib.hid z2
  have GL := Lib.hid gl
  clear hW1
  replace G0 := Lib.hid (G0.out.trans gl)
  clear gl
  replace hv0 := Lib.hid (RowC.grew hv0.out GL.out)
  go_wp2_with fail
  go_loopg [7] n (fun gk i wr => ∃ j : Nat, gk + j = n ∧ i = .int .i64 j ∧ Grew W1 wr)
  case atStart => exact ⟨0, rfl, rfl, Grew.refl _⟩
  case round =>
    obtain ⟨j, hj, rfl, hG⟩ := hrel
    replace P := Lib.hid (P.out.grew hG)
    replace Q := Lib.hid (Q.out.grew hG)
    replace B := Lib.hid (B.out.grew hG)
    replace hv0 := Lib.hid (RowC.grew hv0.out hG)
    replace G0 := Lib.hid (G0.out.trans hG)
    by_cases hlt : j < n
    · obtain ⟨b, o, rfl, he⟩ := r3.out (by omega)
      obtain ⟨⟨X, Y⟩, hp⟩ : ∃ p, L[j]? = some p := ⟨L[j]'(by rw [hn.out]; omega), List.getElem?_eq_getElem _⟩
      obtain ⟨b21, A21, n21, c21, C21, m21, d21, b22, A22, n22, c22, C22, m22, d22, ⟨e0, e1, e2, e3, e4, e5⟩, S1⟩ := he j _ hp
      have hm := List.mem_of_getElem? hp
      have hxy := hq.out _ hm
      have hon := ho.out _ hm
      have o1z := Lib.hid hon.1
      have o2z := Lib.hid hon.2
      have t1z := Lib.hid (on_turnQ hon.1)
      have t2z := Lib.hid (on_turnQ hon.2)
      have GG := GL.out.trans hG
      replace e0 : Hid (wr.cell? ⟨b, o + j * 6, none⟩ = some (.bool b21)) := Lib.hid (GG.cell e0)
      replace e1 : Hid (wr.cell? ⟨b, o + j * 6 + 1, none⟩ = some (.slice A21 n21 c21)) := Lib.hid (GG.cell e1)
      replace e2 : Hid (wr.cell? ⟨b, o + j * 6 + 2, none⟩ = some (.slice C21 m21 d21)) := Lib.hid (GG.cell e2)
      replace e3 : Hid (wr.cell? ⟨b, o + j * 6 + 3, none⟩ = some (.bool b22)) := Lib.hid (GG.cell e3)
      replace e4 : Hid (wr.cell? ⟨b, o + j * 6 + 4, none⟩ = some (.slice A22 n22 c22)) := Lib.hid (GG.cell e4)
      replace e5 : Hid (wr.cell? ⟨b, o + j * 6 + 5, none⟩ = some (.slice C22 m22 d22)) := Lib.hid (GG.cell e5)
      replace S1 := Lib.hid (SpotC.v (k := 7) (SpotC.kept S1 GG.keeps) hxy.1 hxy.2)
      have hjl : (j : Int) < (n : Int) := by omega
      have hj0 : (0 : Int) ≤ (j : Int) := by omega
      replace hG := Lib.hid hG
      clear he hp hm hxy hon GG
      go_wp2_with fail
      refine wp_region_held_drew (S := fun wv => Grew wr wv) (by kernel_rfl) ((Grew.refl wr).drew) (fun hHeld => ?_)
      replace hHeld := Lib.hid hHeld
      try simp only [Act.put, List.setIfInBounds_toArray, List.set_cons_zero, List.set_cons_succ]
      refine wpAnyH_takeD (i := 0) (d := 22) (v := ?_) rfl rfl (by kernel_rfl) (by kernel_rfl) (by kernel_rfl) (fun _ _ _ h => h) (Or.inl ⟨by rfl, ?_⟩) hHeld.out ?_
      rotate_left
      · intro wv hSw
        replace hSw : Hid (Grew wr wv) := Lib.hid hSw
        go_simp
        try with_reducible rfl
      try simp only [Act.put, List.setIfInBounds_toArray, List.set_cons_zero, List.set_cons_succ]
      refine wpAnyH_takeD (i := 1) (d := 23) (v := ?_) rfl rfl (by kernel_rfl) (by kernel_rfl) (by kernel_rfl) (fun _ _ _ h => h) (Or.inl ⟨by rfl, ?_⟩) hHeld.out ?_
      rotate_left
      · intro wv hSw
        replace hSw : Hid (Grew wr wv) := Lib.hid hSw
        have t0 := hSw.out.cell P.out.p0
        have t1 := hSw.out.cell P.out.p1
        go_simp
        try with_reducible rfl
      try simp only [Act.put, List.setIfInBounds_toArray, List.set_cons_zero, List.set_cons_succ]
      refine wpAnyH_takeD (i := 2) (d := 24) (v := ?_) rfl rfl (by kernel_rfl) (by kernel_rfl) (by kernel_rfl) (fun _ _ _ h => h) (Or.inl ⟨by rfl, ?_⟩) hHeld.out ?_
      rotate_left
      · intro wv hSw
        replace hSw : Hid (Grew wr wv) := Lib.hid hSw
        go_simp
        try with_reducible rfl
      try simp only [Act.put, List.setIfInBounds_toArray, List.set_cons_zero, List.set_cons_succ]
      refine wpAnyH_takeD (i := 3) (d := 25) (v := ?_) rfl rfl (by kernel_rfl) (by kernel_rfl) (by kernel_rfl) (fun _ _ _ h => h) (Or.inl ⟨by rfl, ?_⟩) hHeld.out ?_
      rotate_left
      · intro wv hSw
        replace hSw : Hid (Grew wr wv) := Lib.hid hSw
        have t0 := hSw.out.cell P.out.p2
        have t1 := hSw.out.cell P.out.p3
        go_simp
        try with_reducible rfl
      try simp only [Act.put, List.setIfInBounds_toArray, List.set_cons_zero, List.set_cons_succ]
      refine wpAnyH_takeD (i := 4) (d := 26) (v := ?_) rfl rfl (by kernel_rfl) (by kernel_rfl) (by kernel_rfl) (fun _ _ _ h => h) (Or.inl ⟨by rfl, ?_⟩) hHeld.out ?_
      rotate_left
      · intro wv hSw
        replace hSw : Hid (Grew wr wv) := Lib.hid hSw
        go_simp
        try with_reducible rfl
      try simp only [Act.put, List.setIfInBounds_toArray, List.set_cons_zero, List.set_cons_succ]
      refine wpAnyH_takeD (i := 5) (d := 27) (v := ?_) rfl rfl (by kernel_rfl) (by kernel_rfl) (by kernel_rfl) (fun _ _ _ h => h) (Or.inl ⟨by rfl, ?_⟩) hHeld.out ?_
      rotate_left
      · intro wv hSw
        replace hSw : Hid (Grew wr wv) := Lib.hid hSw
        go_simp
        try with_reducible rfl
      try simp only [Act.put, List.setIfInBounds_toArray, List.set_cons_zero, List.set_cons_succ]
      refine wpAnyH_takeD (i := 6) (d := 28) (v := ?_) rfl rfl (by kernel_rfl) (by kernel_rfl) (by kernel_rfl) (fun _ _ _ h => h) (Or.inl ⟨by rfl, ?_⟩) hHeld.out ?_
      rotate_left
      · intro wv hSw
        replace hSw : Hid (Grew wr wv) := Lib.hid hSw
        go_simp
        try with_reducible rfl
      try simp only [Act.put, List.setIfInBounds_toArray, List.set_cons_zero, List.set_cons_succ]
      refine wpAnyH_takeD (i := 7) (d := 29) (v := ?_) rfl rfl (by kernel_rfl) (by kernel_rfl) (by kernel_rfl) (fun _ _ _ h => h) (Or.inl ⟨by rfl, ?_⟩) hHeld.out ?_
      rotate_left
      · intro wv hSw
        replace hSw : Hid (Grew wr wv) := Lib.hid hSw
        have t0 := hSw.out.cell e0.out
        have t1 := hSw.out.cell e1.out
        have t2 := hSw.out.cell e2.out
        have t3 := hSw.out.cell e3.out
        have t4 := hSw.out.cell e4.out
        have t5 := hSw.out.cell e5.out
        go_simp
        try with_reducible rfl
      try simp only [Act.put, List.setIfInBounds_toArray, List.set_cons_zero, List.set_cons_succ]
      refine wpAnyH_ready (rs := [8]) (by kernel_rfl) (by simp) ?_
      refine AllReadyH.cons rfl (fun KK hKK => ?_) AllReadyH.nil
      go_simp
      refine (side_any _ ax ay bx b_y X Y 7 _ ra.out rb.out (SpotV.kept S1.out hHeld.out.keeps) (by omega) (by omega)).mono ?_
      rintro e wk1 ⟨rfl, g⟩
      have gk := hHeld.out.trans g
      rw [t1z.out]
      clear hHeld
      try dsimp only
      refine hKK.out _ _ gk (fun hHeld => ?_)
      clear gk hKK KK
      replace hHeld := Lib.hid (show Grew wr wk1 from hHeld)
      try simp only [Act.put, List.setIfInBounds_toArray, List.set_cons_zero, List.set_cons_succ]
      refine wpAnyH_takeD (i := 9) (d := 31) (v := ?_) rfl rfl (by kernel_rfl) (by kernel_rfl) (by kernel_rfl) (fun _ _ _ h => h) (Or.inl ⟨by rfl, ?_⟩) hHeld.out ?_
      rotate_left
      · intro wv hSw
        replace hSw : Hid (Grew wr wv) := Lib.hid hSw
        go_simp
        try with_reducible rfl
      try simp only [Act.put, List.setIfInBounds_toArray, List.set_cons_zero, List.set_cons_succ]
      refine wpAnyH_takeD (i := 10) (d := 32) (v := ?_) rfl rfl (by kernel_rfl) (by kernel_rfl) (by kernel_rfl) (fun _ _ _ h => h) (Or.inl ⟨by rfl, ?_⟩) hHeld.out ?_
      rotate_left
      · intro wv hSw
        replace hSw : Hid (Grew wr wv) := Lib.hid hSw
        go_simp
        try with_reducible rfl
      try simp only [Act.put, List.setIfInBounds_toArray, List.set_cons_zero, List.set_cons_succ]
      refine wpAnyH_takeD (i := 11) (d := 33) (v := ?_) rfl rfl (by kernel_rfl) (by kernel_rfl) (by kernel_rfl) (fun _ _ _ h => h) (Or.inl ⟨by rfl, ?_⟩) hHeld.out ?_
      rotate_left
      · intro wv hSw
        replace hSw : Hid (Grew wr wv) := Lib.hid hSw
        go_simp
        try with_reducible rfl
      try simp only [Act.put, List.setIfInBounds_toArray, List.set_cons_zero, List.set_cons_succ]
      refine wpAnyH_takeD (i := 12) (d := 34) (v := ?_) rfl rfl (by kernel_rfl) (by kernel_rfl) (by kernel_rfl) (fun _ _ _ h => h) (Or.inl ⟨by rfl, ?_⟩) hHeld.out ?_
      rotate_left
      · intro wv hSw
        replace hSw : Hid (Grew wr wv) := Lib.hid hSw
        have t0 := hSw.out.cell Q.out.p0
        have t1 := hSw.out.cell Q.out.p1
        go_simp
        try with_reducible rfl
      try simp only [Act.put, List.setIfInBounds_toArray, List.set_cons_zero, List.set_cons_succ]
      refine wpAnyH_takeD (i := 13) (d := 35) (v := ?_) rfl rfl (by kernel_rfl) (by kernel_rfl) (by kernel_rfl) (fun _ _ _ h => h) (Or.inl ⟨by rfl, ?_⟩) hHeld.out ?_
      rotate_left
      · intro wv hSw
        replace hSw : Hid (Grew wr wv) := Lib.hid hSw
        go_simp
        try with_reducible rfl
      try simp only [Act.put, List.setIfInBounds_toArray, List.set_cons_zero, List.set_cons_succ]
      refine wpAnyH_takeD (i := 14) (d := 36) (v := ?_) rfl rfl (by kernel_rfl) (by kernel_rfl) (by kernel_rfl) (fun _ _ _ h => h) (Or.inl ⟨by rfl, ?_⟩) hHeld.out ?_
      rotate_left
      · intro wv hSw
        replace hSw : Hid (Grew wr wv) := Lib.hid hSw
        have t0 := hSw.out.cell Q.out.p2
        have t1 := hSw.out.cell Q.out.p3
        go_simp
        try with_reducible rfl
      try simp only [Act.put, List.setIfInBounds_toArray, List.set_cons_zero, List.set_cons_succ]
      refine wpAnyH_takeD (i := 15) (d := 37) (v := ?_) rfl rfl (by kernel_rfl) (by kernel_rfl) (by kernel_rfl) (fun _ _ _ h => h) (Or.inl ⟨by rfl, ?_⟩) hHeld.out ?_
      rotate_left
      · intro wv hSw
        replace hSw : Hid (Grew wr wv) := Lib.hid hSw
        go_simp
        try with_reducible rfl
      try simp only [Act.put, List.setIfInBounds_toArray, List.set_cons_zero, List.set_cons_succ]
      refine wpAnyH_takeD (i := 16) (d := 38) (v := ?_) rfl rfl (by kernel_rfl) (by kernel_rfl) (by kernel_rfl) (fun _ _ _ h => h) (Or.inl ⟨by rfl, ?_⟩) hHeld.out ?_
      rotate_left
      · intro wv hSw
        replace hSw : Hid (Grew wr wv) := Lib.hid hSw
        go_simp
        try with_reducible rfl
      try simp only [Act.put, List.setIfInBounds_toArray, List.set_cons_zero, List.set_cons_succ]
      refine wpAnyH_takeD (i := 17) (d := 39) (v := ?_) rfl rfl (by kernel_rfl) (by kernel_rfl) (by kernel_rfl) (fun _ _ _ h => h) (Or.inl ⟨by rfl, ?_⟩) hHeld.out ?_
      rotate_left
      · intro wv hSw
        replace hSw : Hid (Grew wr wv) := Lib.hid hSw
        go_simp
        try with_reducible rfl
      try simp only [Act.put, List.setIfInBounds_toArray, List.set_cons_zero, List.set_cons_succ]
      refine wpAnyH_takeD (i := 18) (d := 40) (v := ?_) rfl rfl (by kernel_rfl) (by kernel_rfl) (by kernel_rfl) (fun _ _ _ h => h) (Or.inl ⟨by rfl, ?_⟩) hHeld.out ?_
      rotate_left
      · intro wv hSw
        replace hSw : Hid (Grew wr wv) := Lib.hid hSw
        have t0 := hSw.out.cell e0.out
        have t1 := hSw.out.cell e1.out
        have t2 := hSw.out.cell e2.out
        have t3 := hSw.out.cell e3.out
        have t4 := hSw.out.cell e4.out
        have t5 := hSw.out.cell e5.out
        go_simp
        try with_reducible rfl
      try simp only [Act.put, List.setIfInBounds_toArray, List.set_cons_zero, List.set_cons_succ]
      refine wpAnyH_ready (rs := [19]) (by kernel_rfl) (by simp) ?_
      refine AllReadyH.cons rfl (fun KK hKK => ?_) AllReadyH.nil
      go_simp
      refine (side_any _ cx cy dx dy X Y 7 _ rc.out rd.out (SpotV.kept S1.out hHeld.out.keeps) (by omega) (by omega)).mono ?_
      rintro e wk2 ⟨rfl, g⟩
      have gk := hHeld.out.trans g
      rw [t2z.out]
      clear hHeld
      try dsimp only
      refine hKK.out _ _ gk (fun hHeld => ?_)
      clear gk hKK KK
      replace hHeld := Lib.hid (show Grew wr wk2 from hHeld)
      try simp only [Act.put, List.setIfInBounds_toArray, List.set_cons_zero, List.set_cons_succ]
      refine wpAnyH_takeD (i := 20) (d := 42) (v := ?_) rfl rfl (by kernel_rfl) (by kernel_rfl) (by kernel_rfl) (fun _ _ _ h => h) (Or.inl ⟨by rfl, ?_⟩) hHeld.out ?_
      rotate_left
      · intro wv hSw
        replace hSw : Hid (Grew wr wv) := Lib.hid hSw
        go_simp
        try with_reducible rfl
      try simp only [Act.put, List.setIfInBounds_toArray, List.set_cons_zero, List.set_cons_succ]
      refine wpAnyH_takeD (i := 21) (d := 43) (v := ?_) rfl rfl (by kernel_rfl) (by kernel_rfl) (by kernel_rfl) (fun _ _ _ h => h) (Or.inl ⟨by rfl, ?_⟩) hHeld.out ?_
      rotate_left
      · intro wv hSw
        replace hSw : Hid (Grew wr wv) := Lib.hid hSw
        go_simp
        try with_reducible rfl
      try simp only [Act.put, List.setIfInBounds_toArray, List.set_cons_zero, List.set_cons_succ]
      refine wpAnyH_takeD (i := 22) (d := 44) (v := ?_) rfl rfl (by kernel_rfl) (by kernel_rfl) (by kernel_rfl) (fun _ _ _ h => h) (Or.inl ⟨by rfl, ?_⟩) hHeld.out ?_
      rotate_left
      · intro wv hSw
        replace hSw : Hid (Grew wr wv) := Lib.hid hSw
        go_simp
        try with_reducible rfl
      try simp only [Act.put, List.setIfInBounds_toArray, List.set_cons_zero, List.set_cons_succ]
      refine wpAnyH_takeD (i := 23) (d := 45) (v := ?_) rfl rfl (by kernel_rfl) (by kernel_rfl) (by kernel_rfl) (fun _ _ _ h => h) (Or.inl ⟨by rfl, ?_⟩) hHeld.out ?_
      rotate_left
      · intro wv hSw
        replace hSw : Hid (Grew wr wv) := Lib.hid hSw
        go_simp
        try with_reducible rfl
      try simp only [Act.put, List.setIfInBounds_toArray, List.set_cons_zero, List.set_cons_succ]
      refine wpAnyH_takeD (i := 24) (d := 46) (v := ?_) rfl rfl (by kernel_rfl) (by kernel_rfl) (by kernel_rfl) (fun _ _ _ h => h) (Or.inl ⟨by rfl, ?_⟩) hHeld.out ?_
      rotate_left
      · intro wv hSw
        replace hSw : Hid (Grew wr wv) := Lib.hid hSw
        have t0 := hSw.out.cell P.out.p0
        have t1 := hSw.out.cell P.out.p1
        go_simp
        try with_reducible rfl
      try simp only [Act.put, List.setIfInBounds_toArray, List.set_cons_zero, List.set_cons_succ]
      refine wpAnyH_takeD (i := 26) (d := 48) (v := ?_) rfl rfl (by kernel_rfl) (by kernel_rfl) (by kernel_rfl) (fun _ _ _ h => h) (Or.inl ⟨by rfl, ?_⟩) hHeld.out ?_
      rotate_left
      · intro wv hSw
        replace hSw : Hid (Grew wr wv) := Lib.hid hSw
        go_simp
        try with_reducible rfl
      try simp only [Act.put, List.setIfInBounds_toArray, List.set_cons_zero, List.set_cons_succ]
      refine wpAnyH_takeD (i := 27) (d := 49) (v := ?_) rfl rfl (by kernel_rfl) (by kernel_rfl) (by kernel_rfl) (fun _ _ _ h => h) (Or.inl ⟨by rfl, ?_⟩) hHeld.out ?_
      rotate_left
      · intro wv hSw
        replace hSw : Hid (Grew wr wv) := Lib.hid hSw
        have t0 := hSw.out.cell P.out.p2
        have t1 := hSw.out.cell P.out.p3
        go_simp
        try with_reducible rfl
      try simp only [Act.put, List.setIfInBounds_toArray, List.set_cons_zero, List.set_cons_succ]
      refine wpAnyH_takeD (i := 29) (d := 51) (v := ?_) rfl rfl (by kernel_rfl) (by kernel_rfl) (by kernel_rfl) (fun _ _ _ h => h) (Or.inl ⟨by rfl, ?_⟩) hHeld.out ?_
      rotate_left
      · intro wv hSw
        replace hSw : Hid (Grew wr wv) := Lib.hid hSw
        go_simp
        try with_reducible rfl
      try simp only [Act.put, List.setIfInBounds_toArray, List.set_cons_zero, List.set_cons_succ]
      refine wpAnyH_takeD (i := 30) (d := 52) (v := ?_) rfl rfl (by kernel_rfl) (by kernel_rfl) (by kernel_rfl) (fun _ _ _ h => h) (Or.inl ⟨by rfl, ?_⟩) hHeld.out ?_
      rotate_left
      · intro wv hSw
        replace hSw : Hid (Grew wr wv) := Lib.hid hSw
        go_simp
        try with_reducible rfl
      try simp only [Act.put, List.setIfInBounds_toArray, List.set_cons_zero, List.set_cons_succ]
      refine wpAnyH_takeD (i := 31) (d := 53) (v := ?_) rfl rfl (by kernel_rfl) (by kernel_rfl) (by kernel_rfl) (fun _ _ _ h => h) (Or.inl ⟨by rfl, ?_⟩) hHeld.out ?_
      rotate_left
      · intro wv hSw
        replace hSw : Hid (Grew wr wv) := Lib.hid hSw
        go_simp
        try with_reducible rfl
      try simp only [Act.put, List.setIfInBounds_toArray, List.set_cons_zero, List.set_cons_succ]
      refine wpAnyH_takeD (i := 32) (d := 54) (v := ?_) rfl rfl (by kernel_rfl) (by kernel_rfl) (by kernel_rfl) (fun _ _ _ h => h) (Or.inl ⟨by rfl, ?_⟩) hHeld.out ?_
      rotate_left
      · intro wv hSw
        replace hSw : Hid (Grew wr wv) := Lib.hid hSw
        have t0 := hSw.out.cell e0.out
        have t1 := hSw.out.cell e1.out
        have t2 := hSw.out.cell e2.out
        have t3 := hSw.out.cell e3.out
        have t4 := hSw.out.cell e4.out
        have t5 := hSw.out.cell e5.out
        go_simp
        try with_reducible rfl
      try simp only [Act.put, List.setIfInBounds_toArray, List.set_cons_zero, List.set_cons_succ]
      refine wpAnyH_ready (rs := [25]) (by kernel_rfl) (by simp) ?_
      refine AllReadyH.cons rfl (fun KK hKK => ?_) AllReadyH.nil
      go_simp
      refine (rat5_any ax ay _ ra.out.1 ra.out.2.1 ra.out.2.2.1 ra.out.2.2.2).mono ?_
      rintro e wk3 ⟨V1, rfl, hV1, g⟩
      have gk := hHeld.out.trans g
      replace hV1 := Lib.hid (SpotC.v (k := 7) hV1 (QB.mono qa.out (by omega)) (QB.mono qa2.out (by omega)))
      clear hHeld
      try dsimp only
      refine hKK.out _ _ gk (fun hHeld => ?_)
      clear gk hKK KK
      replace hHeld := Lib.hid (show Grew wr wk3 from hHeld)
      try simp only [Act.put, List.setIfInBounds_toArray, List.set_cons_zero, List.set_cons_succ]
      refine wpAnyH_ready (rs := [28]) (by kernel_rfl) (by simp) ?_
      refine AllReadyH.cons rfl (fun KK hKK => ?_) AllReadyH.nil
      go_simp
      refine (rat5_any bx b_y _ rb.out.1 rb.out.2.1 rb.out.2.2.1 rb.out.2.2.2).mono ?_
      rintro e wk4 ⟨V2, rfl, hV2, g⟩
      have gk := hHeld.out.trans g
      replace hV2 := Lib.hid (SpotC.v (k := 7) hV2 (QB.mono qb.out (by omega)) (QB.mono qb2.out (by omega)))
      replace hV1 := Lib.hid (SpotV.kept hV1.out g.keeps)
      clear hHeld
      try dsimp only
      refine hKK.out _ _ gk (fun hHeld => ?_)
      clear gk hKK KK
      replace hHeld := Lib.hid (show Grew wr wk4 from hHeld)
      try simp only [Act.put, List.setIfInBounds_toArray, List.set_cons_zero, List.set_cons_succ]
      refine wpAnyH_ready (rs := [33]) (by kernel_rfl) (by simp) ?_
      refine AllReadyH.cons rfl (fun KK hKK => ?_) AllReadyH.nil
      go_simp
      refine (on_any _ _ _ (ax : Rat) (ay : Rat) (bx : Rat) (b_y : Rat) X Y 7 _ hV1.out hV2.out (SpotV.kept S1.out hHeld.out.keeps) (by omega) (by omega)).mono ?_
      rintro e wk5 ⟨rfl, g⟩
      have gk := hHeld.out.trans g
      rw [o1z.out]
      clear hV1 hV2
      clear hHeld
      try dsimp only
      refine hKK.out _ _ gk (fun hHeld => ?_)
      clear gk hKK KK
      replace hHeld := Lib.hid (show Grew wr wk5 from hHeld)
      try simp only [Act.put, List.setIfInBounds_toArray, List.set_cons_zero, List.set_cons_succ]
      refine wpAnyH_takeD (i := 34) (d := 56) (v := ?_) rfl rfl (by kernel_rfl) (by kernel_rfl) (by kernel_rfl) (fun _ _ _ h => h) (Or.inl ⟨by rfl, ?_⟩) hHeld.out ?_
      rotate_left
      · intro wv hSw
        replace hSw : Hid (Grew wr wv) := Lib.hid hSw
        go_simp
        try with_reducible rfl
      try simp only [Act.put, List.setIfInBounds_toArray, List.set_cons_zero, List.set_cons_succ]
      refine wpAnyH_takeD (i := 35) (d := 57) (v := ?_) rfl rfl (by kernel_rfl) (by kernel_rfl) (by kernel_rfl) (fun _ _ _ h => h) (Or.inl ⟨by rfl, ?_⟩) hHeld.out ?_
      rotate_left
      · intro wv hSw
        replace hSw : Hid (Grew wr wv) := Lib.hid hSw
        go_simp
        try with_reducible rfl
      try simp only [Act.put, List.setIfInBounds_toArray, List.set_cons_zero, List.set_cons_succ]
      refine wpAnyH_takeD (i := 36) (d := 58) (v := ?_) rfl rfl (by kernel_rfl) (by kernel_rfl) (by kernel_rfl) (fun _ _ _ h => h) (Or.inl ⟨by rfl, ?_⟩) hHeld.out ?_
      rotate_left
      · intro wv hSw
        replace hSw : Hid (Grew wr wv) := Lib.hid hSw
        go_simp
        try with_reducible rfl
      try simp only [Act.put, List.setIfInBounds_toArray, List.set_cons_zero, List.set_cons_succ]
      refine wpAnyH_takeD (i := 37) (d := 59) (v := ?_) rfl rfl (by kernel_rfl) (by kernel_rfl) (by kernel_rfl) (fun _ _ _ h => h) (Or.inl ⟨by rfl, ?_⟩) hHeld.out ?_
      rotate_left
      · intro wv hSw
        replace hSw : Hid (Grew wr wv) := Lib.hid hSw
        go_simp
        try with_reducible rfl
      try simp only [Act.put, List.setIfInBounds_toArray, List.set_cons_zero, List.set_cons_succ]
      refine wpAnyH_takeD (i := 38) (d := 60) (v := ?_) rfl rfl (by kernel_rfl) (by kernel_rfl) (by kernel_rfl) (fun _ _ _ h => h) (Or.inl ⟨by rfl, ?_⟩) hHeld.out ?_
      rotate_left
      · intro wv hSw
        replace hSw : Hid (Grew wr wv) := Lib.hid hSw
        have t0 := hSw.out.cell Q.out.p0
        have t1 := hSw.out.cell Q.out.p1
        go_simp
        try with_reducible rfl
      try simp only [Act.put, List.setIfInBounds_toArray, List.set_cons_zero, List.set_cons_succ]
      refine wpAnyH_takeD (i := 40) (d := 62) (v := ?_) rfl rfl (by kernel_rfl) (by kernel_rfl) (by kernel_rfl) (fun _ _ _ h => h) (Or.inl ⟨by rfl, ?_⟩) hHeld.out ?_
      rotate_left
      · intro wv hSw
        replace hSw : Hid (Grew wr wv) := Lib.hid hSw
        go_simp
        try with_reducible rfl
      try simp only [Act.put, List.setIfInBounds_toArray, List.set_cons_zero, List.set_cons_succ]
      refine wpAnyH_takeD (i := 41) (d := 63) (v := ?_) rfl rfl (by kernel_rfl) (by kernel_rfl) (by kernel_rfl) (fun _ _ _ h => h) (Or.inl ⟨by rfl, ?_⟩) hHeld.out ?_
      rotate_left
      · intro wv hSw
        replace hSw : Hid (Grew wr wv) := Lib.hid hSw
        have t0 := hSw.out.cell Q.out.p2
        have t1 := hSw.out.cell Q.out.p3
        go_simp
        try with_reducible rfl
      try simp only [Act.put, List.setIfInBounds_toArray, List.set_cons_zero, List.set_cons_succ]
      refine wpAnyH_takeD (i := 43) (d := 65) (v := ?_) rfl rfl (by kernel_rfl) (by kernel_rfl) (by kernel_rfl) (fun _ _ _ h => h) (Or.inl ⟨by rfl, ?_⟩) hHeld.out ?_
      rotate_left
      · intro wv hSw
        replace hSw : Hid (Grew wr wv) := Lib.hid hSw
        go_simp
        try with_reducible rfl
      try simp only [Act.put, List.setIfInBounds_toArray, List.set_cons_zero, List.set_cons_succ]
      refine wpAnyH_takeD (i := 44) (d := 66) (v := ?_) rfl rfl (by kernel_rfl) (by kernel_rfl) (by kernel_rfl) (fun _ _ _ h => h) (Or.inl ⟨by rfl, ?_⟩) hHeld.out ?_
      rotate_left
      · intro wv hSw
        replace hSw : Hid (Grew wr wv) := Lib.hid hSw
        go_simp
        try with_reducible rfl
      try simp only [Act.put, List.setIfInBounds_toArray, List.set_cons_zero, List.set_cons_succ]
      refine wpAnyH_takeD (i := 45) (d := 67) (v := ?_) rfl rfl (by kernel_rfl) (by kernel_rfl) (by kernel_rfl) (fun _ _ _ h => h) (Or.inl ⟨by rfl, ?_⟩) hHeld.out ?_
      rotate_left
      · intro wv hSw
        replace hSw : Hid (Grew wr wv) := Lib.hid hSw
        go_simp
        try with_reducible rfl
      try simp only [Act.put, List.setIfInBounds_toArray, List.set_cons_zero, List.set_cons_succ]
      refine wpAnyH_takeD (i := 46) (d := 68) (v := ?_) rfl rfl (by kernel_rfl) (by kernel_rfl) (by kernel_rfl) (fun _ _ _ h => h) (Or.inl ⟨by rfl, ?_⟩) hHeld.out ?_
      rotate_left
      · intro wv hSw
        replace hSw : Hid (Grew wr wv) := Lib.hid hSw
        have t0 := hSw.out.cell e0.out
        have t1 := hSw.out.cell e1.out
        have t2 := hSw.out.cell e2.out
        have t3 := hSw.out.cell e3.out
        have t4 := hSw.out.cell e4.out
        have t5 := hSw.out.cell e5.out
        go_simp
        try with_reducible rfl
      try simp only [Act.put, List.setIfInBounds_toArray, List.set_cons_zero, List.set_cons_succ]
      refine wpAnyH_ready (rs := [39]) (by kernel_rfl) (by simp) ?_
      refine AllReadyH.cons rfl (fun KK hKK => ?_) AllReadyH.nil
      go_simp
      refine (rat5_any cx cy _ rc.out.1 rc.out.2.1 rc.out.2.2.1 rc.out.2.2.2).mono ?_
      rintro e wk6 ⟨V3, rfl, hV3, g⟩
      have gk := hHeld.out.trans g
      replace hV3 := Lib.hid (SpotC.v (k := 7) hV3 (QB.mono qc.out (by omega)) (QB.mono qc2.out (by omega)))
      clear hHeld
      try dsimp only
      refine hKK.out _ _ gk (fun hHeld => ?_)
      clear gk hKK KK
      replace hHeld := Lib.hid (show Grew wr wk6 from hHeld)
      try simp only [Act.put, List.setIfInBounds_toArray, List.set_cons_zero, List.set_cons_succ]
      refine wpAnyH_ready (rs := [42]) (by kernel_rfl) (by simp) ?_
      refine AllReadyH.cons rfl (fun KK hKK => ?_) AllReadyH.nil
      go_simp
      refine (rat5_any dx dy _ rd.out.1 rd.out.2.1 rd.out.2.2.1 rd.out.2.2.2).mono ?_
      rintro e wk7 ⟨V4, rfl, hV4, g⟩
      have gk := hHeld.out.trans g
      replace hV4 := Lib.hid (SpotC.v (k := 7) hV4 (QB.mono qd.out (by omega)) (QB.mono qd2.out (by omega)))
      replace hV3 := Lib.hid (SpotV.kept hV3.out g.keeps)
      clear hHeld
      try dsimp only
      refine hKK.out _ _ gk (fun hHeld => ?_)
      clear gk hKK KK
      replace hHeld := Lib.hid (show Grew wr wk7 from hHeld)
      try simp only [Act.put, List.setIfInBounds_toArray, List.set_cons_zero, List.set_cons_succ]
      refine wpAnyH_ready (rs := [47]) (by kernel_rfl) (by simp) ?_
      refine AllReadyH.cons rfl (fun KK hKK => ?_) AllReadyH.nil
      go_simp
      refine (on_any _ _ _ (cx : Rat) (cy : Rat) (dx : Rat) (dy : Rat) X Y 7 _ hV3.out hV4.out (SpotV.kept S1.out hHeld.out.keeps) (by omega) (by omega)).mono ?_
      rintro e wk8 ⟨rfl, g⟩
      have gk := hHeld.out.trans g
      rw [o2z.out]
      clear hV3 hV4
      clear hHeld
      try dsimp only
      refine hKK.out _ _ gk (fun hHeld => ?_)
      clear gk hKK KK
      replace hHeld := Lib.hid (show Grew wr wk8 from hHeld)
      try simp only [Act.put, List.setIfInBounds_toArray, List.set_cons_zero, List.set_cons_succ]
      refine wpAnyH_takeD (i := 48) (d := 70) (v := ?_) rfl rfl (by kernel_rfl) (by kernel_rfl) (by kernel_rfl) (fun _ _ _ h => h) (Or.inl ⟨by rfl, ?_⟩) hHeld.out ?_
      rotate_left
      · intro wv hSw
        replace hSw : Hid (Grew wr wv) := Lib.hid hSw
        go_simp
        try with_reducible rfl
      try simp only [Act.put, List.setIfInBounds_toArray, List.set_cons_zero, List.set_cons_succ]
      refine wpAnyH_takeD (i := 49) (d := 71) (v := ?_) rfl rfl (by kernel_rfl) (by kernel_rfl) (by kernel_rfl) (fun _ _ _ h => h) (Or.inl ⟨by rfl, ?_⟩) hHeld.out ?_
      rotate_left
      · intro wv hSw
        replace hSw : Hid (Grew wr wv) := Lib.hid hSw
        go_simp
        try with_reducible rfl
      try simp only [Act.put, List.setIfInBounds_toArray, List.set_cons_zero, List.set_cons_succ]
      refine wpAnyH_done (by kernel_rfl) ?_ _
      have gA := hG.out.trans hHeld.out
      go_wp2_with fail
      go_roundg (gk - 1)
      case rel => exact ⟨j + 1, by omega, by go_num, gA⟩
      case measure => omega
    · obtain rfl : j = n := by omega
      replace hG := Lib.hid hG
      skip
      obtain ⟨P0, P1, P2, P3⟩ := P.out
      obtain ⟨Q0, Q1, Q2, Q3⟩ := Q.out
      obtain ⟨B0, B1, B2, B3⟩ := B.out
      go_wp2_with fail
      clear P0 P1 P2 P3 Q0 Q1 Q2 Q3 B0 B1 B2 B3
      refine (meet_any cx cy dx dy ax ay bx b_y _ rc.out rd.out ra.out rb.out).mono ?_
      rintro e w2 ⟨v2, rfl, hv2, g2⟩
      rw [hL2.out] at hv2
      replace hv0 := Lib.hid (RowC.grew hv0.out g2)
      replace P := Lib.hid (P.out.grew g2)
      replace Q := Lib.hid (Q.out.grew g2)
      replace B := Lib.hid (B.out.grew g2)
      replace G0 := Lib.hid (G0.out.trans g2)
      clear g2
      go_wp2_with fail
      refine (rowsame_yes _ _ L _ hv0.out hv2).mono ?_
      rintro e w3 ⟨rfl, g3⟩
      replace hv0 := Lib.hid (RowC.grew hv0.out g3)
      replace P := Lib.hid (P.out.grew g3)
      replace Q := Lib.hid (Q.out.grew g3)
      replace B := Lib.hid (B.out.grew g3)
      replace G0 := Lib.hid (G0.out.trans g3)
      clear g3
      obtain ⟨P0, P1, P2, P3⟩ := P.out
      obtain ⟨Q0, Q1, Q2, Q3⟩ := Q.out
      obtain ⟨B0, B1, B2, B3⟩ := B.out
      go_wp2_with fail
      clear P0 P1 P2 P3 Q0 Q1 Q2 Q3 B0 B1 B2 B3
      refine (meet_any bx b_y ax ay cx cy dx dy _ rb.out ra.out rc.out rd.out).mono ?_
      rintro e w4 ⟨v4, rfl, hv4, g4⟩
      rw [hL3.out] at hv4
      replace hv0 := Lib.hid (RowC.grew hv0.out g4)
      replace P := Lib.hid (P.out.grew g4)
      replace Q := Lib.hid (Q.out.grew g4)
      replace B := Lib.hid (B.out.grew g4)
      replace G0 := Lib.hid (G0.out.trans g4)
      clear g4
      go_wp2_with fail
      refine (rowsame_yes _ _ L _ hv0.out hv4).mono ?_
      rintro e w5 ⟨rfl, g5⟩
      replace hv0 := Lib.hid (RowC.grew hv0.out g5)
      replace P := Lib.hid (P.out.grew g5)
      replace Q := Lib.hid (Q.out.grew g5)
      replace B := Lib.hid (B.out.grew g5)
      replace G0 := Lib.hid (G0.out.trans g5)
      clear g5
      go_wp2_with fail
      refine (lives17_any _).mono ?_
      rintro e w6 ⟨rfl, g6⟩
      replace P := Lib.hid (P.out.grew g6)
      replace Q := Lib.hid (Q.out.grew g6)
      replace B := Lib.hid (B.out.grew g6)
      replace G0 := Lib.hid (G0.out.trans g6)
      clear g6
      go_wp2_with fail
      go_ret
      exact ⟨by rfl, G0.out⟩
end Go.Proofs.Ythhgogpglocjdaa
namespace Go.Proofs.Ythhgogpglocjdaa
open Go.ChangeShapes Go.WideShapes Go.ChangeAt Go.RowKit

theorem cells_u32 : Try.prog.cellsOf 65 = 1 := by kernel_rfl

section
variable {H : Type} {enc : TypeId × Value → H} {w : World} {base : Nat} {spare : Nat → Bool} {held : Bool}

theorem bulk_lits (k : IntKind) : ∀ zs : List Int, Rows.uptoBulkAll (H := H) (lits k zs) = zs.length
  | [] => by simp [lits, Rows.uptoBulkAll]
  | z :: zs => by
    have h := bulk_lits k zs
    unfold lits at h ⊢
    simp only [List.map_cons, Rows.uptoBulkAll, Rows.uptoBulk, h, List.length_cons]
    omega

/-- A slice of words that comes in reads as a number. -/
theorem open_words {fuel : Nat} {cs : List Value} {x : DataW H × List MemPlace} (h : DataW.trod enc Try.prog w base spare held fuel 29 cs = some x) :
    ∃ A n c N, cs = [.slice A n c] ∧ Num 4294967296 .u32 w (.slice A n c) N n ∧ n ≤ Rows.uptoBulk x.1 := by
  rcases open_ints Try.underlying29 Try.underlying65 cells_u32 h with ⟨rfl, rfl⟩ | ⟨a, ln, cap, zs, rfl, _, hl, hm, hz, rfl, hcell, hwz⟩
  · exact ⟨none, 0, 0, 0, rfl, Num.nil _ _ _, by omega⟩
  · have hzl : ln ≤ zs.length := by rw [hz]; split <;> omega
    have hu : ∀ z ∈ zs, 0 ≤ z ∧ z < 4294967296 := by
      intro z hzm
      have h1 := hwz z hzm
      have h2 : IntKind.u32.min = 0 := rfl
      have h3 : IntKind.u32.max = 4294967295 := rfl
      simp only [Lit.wf, Bool.and_eq_true, decide_eq_true_eq] at h1
      omega
    let xs : List Nat := (zs.take ln).map Int.toNat
    have hxl : xs.length = ln := by simp [xs]; omega
    have hxb : ∀ y ∈ xs, y < 4294967296 := by
      intro y hy
      obtain ⟨z, hz1, rfl⟩ := List.mem_map.1 hy
      have := hu z (List.mem_of_mem_take hz1)
      omega
    have hN : val 4294967296 xs < 4294967296 ^ ln := by rw [← hxl]; exact val_lt (by omega) xs hxb
    have hnum : Num 4294967296 .u32 w (.slice (some a) ln cap) (val 4294967296 xs) ln := by
      refine ⟨some a, cap, rfl, hl, by unfold maxLen at hm; omega, hN, fun h0 => ?_⟩
      obtain ⟨b, off, sp⟩ := a
      have hsp : sp = none := by simpa [Addr.add] using World.cell?_spot (hcell 0 (by omega))
      subst hsp
      refine ⟨b, off, rfl, fun i hi => ?_⟩
      have hc := hcell i (by omega)
      rw [add_plain] at hc
      rw [hc, dig_val (by omega) xs hxb i]
      have hi' : i < zs.length := by omega
      have e : xs.getD i 0 = (zs.getD i 0).toNat := by simp [xs, hi, hi']
      have hz0 := hu (zs.getD i 0) (by simp [hi'])
      rw [e, Int.toNat_of_nonneg hz0.1]
    refine ⟨some a, ln, cap, _, rfl, hnum, ?_⟩
    have h2 : Rows.uptoBulk (DataW.slice (lits (H := H) .u32 (zs.take ln)) (lits .u32 (zs.drop ln))) ≥ ln := by
      simp only [Rows.uptoBulk, bulk_lits, List.length_take, List.length_drop]
      omega
    exact h2

set_option maxRecDepth 100000 in
theorem open_frac {fuel : Nat} {cs : List Value} {x : DataW H × List MemPlace} (h : DataW.trod enc Try.prog w base spare held fuel 33 cs = some x) :
    ∃ b A n c C m d q, cs = [.bool b, .slice A n c, .slice C m d] ∧ FracR w (.agg #[.bool b, .slice A n c, .slice C m d]) q (Rows.uptoBulk x.1) := by
  obtain ⟨y0, y1, n1, rfl, hl, h0, h1⟩ := trod_struct2 Try.underlying33 h
  obtain ⟨z0, z1, n2, rfl, hl2, g0, g1⟩ := trod_struct2 Try.underlying31 h0
  have e3 : Try.prog.cellsOf 33 = 3 := by kernel_rfl
  have e2 : Try.prog.cellsOf 31 = 2 := by kernel_rfl
  have e1 : Try.prog.cellsOf 29 = 1 := by kernel_rfl
  have e0 : Try.prog.cellsOf 4 = 1 := by kernel_rfl
  rw [e3] at hl
  match cs, hl with
  | [a0, a1, a2], _ =>
    simp only [e0, e1, e2, List.drop_zero, List.drop_succ_cons, List.take_succ_cons, List.take_zero] at h1 g0 g1
    obtain ⟨b, hb, -⟩ := DataW.trod_bool Try.underlying4 g0
    obtain ⟨A, n, c, N, hA, hN, hNl⟩ := open_words g1
    obtain ⟨C, m, d, D, hC, hD, hDl⟩ := open_words h1
    injection hb with hb
    injection hA with hA
    injection hC with hC
    subst hb; subst hA; subst hC
    refine ⟨b, A, n, c, C, m, d, _, rfl, b, N, D, n, m, _, _, rfl, hN, hD, rfl, ?_, ?_⟩
    · simp only [Rows.uptoBulk, Rows.uptoBulkAll]; omega
    · simp only [Rows.uptoBulk, Rows.uptoBulkAll]; omega

set_option maxRecDepth 100000 in
theorem open_spot {fuel : Nat} {cs : List Value} {x : DataW H × List MemPlace} (h : DataW.trod enc Try.prog w base spare held fuel 35 cs = some x) :
    ∃ p q, SpotR w (.agg cs.toArray) p q (Rows.uptoBulk x.1) := by
  obtain ⟨y0, y1, n1, rfl, hl, h0, h1⟩ := trod_struct2 Try.underlying35 h
  have e6 : Try.prog.cellsOf 35 = 6 := by kernel_rfl
  have e3 : Try.prog.cellsOf 33 = 3 := by kernel_rfl
  rw [e6] at hl
  match cs, hl with
  | [a0, a1, a2, a3, a4, a5], _ =>
    simp only [e3, List.drop_zero, List.drop_succ_cons, List.take_succ_cons, List.take_zero] at h0 h1
    obtain ⟨b, A, n, c, C, m, d, p, e, hp⟩ := open_frac h0
    obtain ⟨b', A', n', c', C', m', d', q, e', hq⟩ := open_frac h1
    injection e with i0 e; injection e with i1 e; injection e with i2 e
    injection e' with i3 e'; injection e' with i4 e'; injection e' with i5 e'
    subst i0; subst i1; subst i2; subst i3; subst i4; subst i5
    obtain ⟨neg, N, D, n1, m1, va, vd, w1, w2, w3, w4, w5, w6⟩ := hp
    obtain ⟨neg', N', D', n1', m1', va', vd', w1', w2', w3', w4', w5', w6'⟩ := hq
    refine ⟨p, q, b, A, n, c, C, m, d, b', A', n', c', C', m', d', rfl, ⟨neg, N, D, n1, m1, va, vd, w1, w2, w3, w4, ?_, ?_⟩, ⟨neg', N', D', n1', m1', va', vd', w1', w2', w3', w4', ?_, ?_⟩⟩ <;>
      (simp only [Rows.uptoBulk, Rows.uptoBulkAll]; omega)
end

/-- The row's last step where only new memory was made. -/
theorem post_grew {H : Type} {enc : TypeId × Value → H} {P : Program} {f : Func} {s : ChangeSpec} {apart fresh handsOn again : Bool} {W W' : World} {args : Array Value} {v : Value} {ds gs : List (DataW H)} {before pa pv : List MemPlace}
    (hW : DataW.Whole enc P f.params.toList s.vars apart W args.toList ds gs before)
    (hres : ∀ (b : Nat) (sp : Nat → Bool) (hd : Bool), DataW.TrodAll enc P W' b sp hd f.resultTypes.toList (v.resultList f.resultTypes.size) (s.fn H (ds ++ gs)).results [])
    (hargs : ∀ sp : Nat → Bool, (∀ p ∈ before, sp p.block = true) → DataW.TrodAll enc P W' 0 sp true f.params.toList args.toList (s.fn H (ds ++ gs)).args pa)
    (hvars : ∀ sp : Nat → Bool, (∀ p ∈ before, sp p.block = true) → DataW.TrodVars enc P W' sp s.vars (s.fn H (ds ++ gs)).vars pv)
    (hps : before = pa ++ pv) (g : Grew W W')
    (hok : ∀ (j : Nat) (t : TypeId) (r : Value), f.resultTypes[j]? = some t → (v.resultList f.resultTypes.size)[j]? = some r → Value.okWide P W' .any 0 t r) :
    s.post enc P f apart fresh handsOn again W args v W' := by
  have hb := g.below
  have hlt : ∀ p ∈ before, p.block < W.heap.size := fun p hp => hW.lt p hp
  have hold : ∀ p ∈ before, (fun b => decide (b < W.heap.size)) p.block = true := fun p hp => by simpa using hlt p hp
  refine ⟨ds, gs, before, [], pa, pv, hW, hres _ _ _, hargs _ hold, hvars _ hold, World.keptBut_mono (fun p hp => ⟨hp, ?_⟩) (hb.frame (· ∈ before)), fun _ => ?_⟩
  · rw [hps, List.mem_append] at hp
    exact Or.inr hp
  · obtain ⟨_, _, _, _, _, hz, hn⟩ := hW
    refine ⟨hok, _, _, ([] ++ pa) ++ pv, ⟨[] ++ pa, pv, trodAll_append (hargs _ (fun _ _ => rfl)) (hres _ _ _), hvars _ (fun _ _ => rfl), rfl, ?_, ?_⟩, ?_⟩
    · intro b off hp
      have hin : MemPlace.cell b off ∈ before := by rw [hps]; simpa using hp
      rw [hb.frozen (hlt _ hin)]
      exact hz b off hin
    · intro ha
      have := hn ha
      rw [hps] at this
      simpa using this
    · intro p hp _
      rw [hps]
      simpa using hp
end Go.Proofs.Ythhgogpglocjdaa
