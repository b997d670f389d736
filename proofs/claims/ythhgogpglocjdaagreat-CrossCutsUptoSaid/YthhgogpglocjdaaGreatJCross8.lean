/- r05.clean, spot.clean, r05.Row. Condition: what comes in reads; fewer than 2^26 words, fewer than 2^36 spots. r05.Row. Condition: what comes in reads; fewer than 2^26 words, at most 2^40 spots. r17.Same at one row. Condition: what comes in reads. r17.Same at one row; r04.Make, r04.Div. Condition: what comes in reads. -/
import Derived.Test.YthhgogpglocjdaaGreatJRowP
import Derived.Test.YthhgogpglocjdaaGreatJComp2
import Derived.Deep.LoopGhost
import Derived.Deep.RegionHeld3
import Derived.Test.YthhgogpglocjdaaGreatJR4b
import Derived.Test.YthhgogpglocjdaaGreatJCrossR
namespace Go.Proofs.YthhgogpglocjdaaGreat
open Go.RowKit

set_option maxRecDepth 100000 in
set_option maxHeartbeats 4000000 in
theorem rclean_any (Va : Value) (x y : Rat) (k : Nat) (w : World) (ha : SpotR w Va x y k) (hs : k < 67108864) :
    Calls Tryz.prog 40 #[Va] w fun e w' => ∃ V, e = .returned V ∧ SpotC w' V x y ∧ Grew w w' := by
  obtain ⟨b1, A1, n1, c1, C1, m1, d1, b2, A2, n2, c2, C2, m2, d2, rfl, Fa, Fb, -⟩ := ha.laid
  clear ha
  go_enter Tryz.func40, Tryz.ntmps40
  go_wp2_with fail
  refine gen_wp ?_
  intro W0 hW0
  have G0 : Grew w W0 := by rw [hW0]; exact ((Grew.refl w).alloc _).alloc _
  have P : Box3 W0 (w.heap.size) 0 (.bool b1) (.slice A1 n1 c1) (.slice C1 m1 d1) := by rw [hW0]; exact ⟨by simp [go_sem], by simp [go_sem], by simp [go_sem]⟩
  replace P := Lib.hid P
  have Py : Box3 W0 (w.heap.size) 3 (.bool b2) (.slice A2 n2 c2) (.slice C2 m2 d2) := by rw [hW0]; exact ⟨by simp [go_sem], by simp [go_sem], by simp [go_sem]⟩
  replace Py := Lib.hid Py
  have R : Res3 W0 (w.heap.size + 1) 0 (.bool false) (.slice none 0 0) (.slice none 0 0) := by rw [hW0]; exact ⟨by simp [go_sem], by simp [go_sem], by simp [go_sem], by simp [go_sem], by simp [go_sem], by simp [go_sem], by simp⟩
  replace R := Lib.hid R
  have R_ : Res3 W0 (w.heap.size + 1) 3 (.bool false) (.slice none 0 0) (.slice none 0 0) := by rw [hW0]; exact ⟨by simp [go_sem], by simp [go_sem], by simp [go_sem], by simp [go_sem], by simp [go_sem], by simp [go_sem], by simp⟩
  replace R_ := Lib.hid R_
  have z0 : w.heap.size < W0.heap.size := by rw [hW0]; simp <;> omega
  replace z0 := Lib.hid z0
  have z1 : w.heap.size + 1 < W0.heap.size := by rw [hW0]; simp <;> omega
  replace z1 := Lib.hid z1
  clear hW0
  replace Fa := Lib.hid (Fa.out.kept G0.keeps)
  replace Fb := Lib.hid (Fb.out.kept G0.keeps)
  replace G0 := Lib.hid G0
  have gd : Grew W0 W0.drew := (Grew.refl W0).drew
  replace R := Lib.hid (R.out.grew gd)
  replace R_ := Lib.hid (R_.out.grew gd)
  replace P := Lib.hid (P.out.grew gd)
  replace Py := Lib.hid (Py.out.grew gd)
  replace z0 := Lib.hid (lt_grew z0.out gd)
  replace z1 := Lib.hid (lt_grew z1.out gd)
  replace Fa := Lib.hid (Fa.out.kept gd.keeps)
  replace Fb := Lib.hid (Fb.out.kept gd.keeps)
  replace gd := Lib.hid gd
  have ZP := P
  have ZPy := Py
  go_region_held3 (fun w' => w'.cell? ⟨w.heap.size, 0, none⟩ = some (.bool b1) ∧ w'.cell? ⟨w.heap.size, 1, none⟩ = some (.slice A1 n1 c1) ∧ w'.cell? ⟨w.heap.size, 2, none⟩ = some (.slice C1 m1 d1) ∧ w'.cell? ⟨w.heap.size, 3, none⟩ = some (.bool b2) ∧ w'.cell? ⟨w.heap.size, 4, none⟩ = some (.slice A2 n2 c2) ∧ w'.cell? ⟨w.heap.size, 5, none⟩ = some (.slice C2 m2 d2))
    (first | (with_reducible exact ⟨ZP.out.p0, ZP.out.p1, ZP.out.p2, ZPy.out.p0, ZPy.out.p1, ZPy.out.p2⟩) | (with_reducible exact ⟨g1.cell ZP.out.p0, g1.cell ZP.out.p1, g1.cell ZP.out.p2, g1.cell ZPy.out.p0, g1.cell ZPy.out.p1, g1.cell ZPy.out.p2⟩) | (with_reducible exact ⟨(g1.trans g2).cell ZP.out.p0, (g1.trans g2).cell ZP.out.p1, (g1.trans g2).cell ZP.out.p2, (g1.trans g2).cell ZPy.out.p0, (g1.trans g2).cell ZPy.out.p1, (g1.trans g2).cell ZPy.out.p2⟩) | (with_reducible exact ⟨other3 (o := 3) (by omega) (other3 (o := 0) (by omega) ((g1.trans g2).cell ZP.out.p0)), other3 (o := 3) (by omega) (other3 (o := 0) (by omega) ((g1.trans g2).cell ZP.out.p1)), other3 (o := 3) (by omega) (other3 (o := 0) (by omega) ((g1.trans g2).cell ZP.out.p2)), other3 (o := 3) (by omega) (other3 (o := 0) (by omega) ((g1.trans g2).cell ZPy.out.p0)), other3 (o := 3) (by omega) (other3 (o := 0) (by omega) ((g1.trans g2).cell ZPy.out.p1)), other3 (o := 3) (by omega) (other3 (o := 0) (by omega) ((g1.trans g2).cell ZPy.out.p2))⟩))
    (first | (have chk := g1; clear chk; go_at_call 66; refine (rfreduce_any _ y k _ Fb.out (by omega)).mono ?_; rintro e w2 ⟨V2, rfl, hV2, g2⟩; obtain ⟨b14, A14, n14, c14, C14, m14, d14, rfl, X2⟩ := hV2.laid; clear hV2; replace R := Lib.hid (R.out.grew g2); replace R_ := Lib.hid (R_.out.grew g2); replace P := Lib.hid (P.out.grew g2); replace Py := Lib.hid (Py.out.grew g2); replace z0 := Lib.hid (lt_grew z0.out g2); replace z1 := Lib.hid (lt_grew z1.out g2); replace Fa := Lib.hid (Fa.out.kept g2.keeps); replace Fb := Lib.hid (Fb.out.kept g2.keeps); replace X1 := Lib.hid (X1.out.kept g2.keeps); obtain ⟨R0, R1, R2, Rf0, Rf1, Rf2, Rs⟩ := R.out; obtain ⟨R_0, R_1, R_2, R_f0, R_f1, R_f2, R_s⟩ := R_.out) | (go_at_call 66; refine (rfreduce_any _ x k _ Fa.out (by omega)).mono ?_; rintro e w1 ⟨V1, rfl, hV1, g1⟩; obtain ⟨b13, A13, n13, c13, C13, m13, d13, rfl, X1⟩ := hV1.laid; clear hV1; replace R := Lib.hid (R.out.grew g1); replace R_ := Lib.hid (R_.out.grew g1); replace P := Lib.hid (P.out.grew g1); replace Py := Lib.hid (Py.out.grew g1); replace z0 := Lib.hid (lt_grew z0.out g1); replace z1 := Lib.hid (lt_grew z1.out g1); replace Fa := Lib.hid (Fa.out.kept g1.keeps); replace Fb := Lib.hid (Fb.out.kept g1.keeps)))
  replace G0 := Lib.hid (((G0.out.trans gd.out).trans g1).trans g2)
  clear gd g1 g2 ZP ZPy
  refine gen_then ?_
  intro W9 hW9
  obtain ⟨q0, q1, q2, q3, q4, q5, qK, qG⟩ := store6 R0 R1 R2 R_0 R_1 R_2 hW9
  have GE := qG w (by omega) G0.out
  have QK := Lib.hid qK
  clear qK qG hW9 R0 R1 R2 R_0 R_1 R_2
  go_wp2_with fail
  exact bodyPost_ret (v := .agg #[.bool b13, .slice A13 n13 c13, .slice C13 m13 d13, .bool b14, .slice A14 n14 c14, .slice C14 m14 d14]) (by simp [results, Tryz.results40, go_sem, q0, q1, q2, q3, q4, q5]) rfl ⟨_, rfl, SpotC.mk (X1.out.kept QK.out) (X2.out.kept QK.out), GE⟩
end Go.Proofs.YthhgogpglocjdaaGreat
namespace Go.Proofs.YthhgogpglocjdaaGreat
open Go.RowKit

set_option maxRecDepth 100000 in
set_option maxHeartbeats 16000000 in
theorem rrow_any (v : Value) (l : List (Rat × Rat)) (k : Nat) (w : World) (hr : RowR k w v l) (hq : ∀ p ∈ l, QB p.1 k ∧ QB p.2 k) (hk : 1 ≤ k) (hs : k < 67108864) (hl : l.length ≤ 1099511627776) :
    Calls Tryz.prog 13 #[v] w fun e w' => ∃ v', e = .returned v' ∧ RowC w' v' (rowQ l) ∧ Grew w w' := by
  obtain ⟨A, c, rfl, h1, h2, h3⟩ := hr
  obtain ⟨L, hL⟩ : ∃ L, l.length = L := ⟨_, rfl⟩
  rw [hL] at h1 hl h3
  rw [hL]
  have hm : L ≤ 9223372036854775807 := by omega
  replace h3 := Lib.hid h3
  replace hq := Lib.hid hq
  go_enter Tryz.func13, Tryz.ntmps13
  go_wp2_with fail
  go_loopg [3, 4] L (fun gk ov i wr => ∃ j : Nat, gk + j = L ∧ i = .int .i64 j ∧ OwnC 39 wr w.heap.size ov (rowQ (l.take j)) ∧ Grew w wr)
  case atStart => exact ⟨0, rfl, rfl, OwnC.nil _ _ _, Grew.refl _⟩
  case round =>
    obtain ⟨j, hj, rfl, hO, hG⟩ := hrel
    obtain ⟨wo, rfl⟩ : ∃ wo : World, wo = wr := ⟨_, rfl⟩
    obtain ⟨G, rfl⟩ : ∃ G : Nat, G = gk := ⟨_, rfl⟩
    by_cases hlt : j < L
    · obtain ⟨b, o, rfl, he⟩ := h3.out (by omega)
      obtain ⟨p, hp⟩ : ∃ p, l[j]? = some p := ⟨l[j]'(by omega), List.getElem?_eq_getElem _⟩
      have hnext := Lib.hid (rowQ_succ l j p hp)
      have hlen := rowQ_len (l.take j)
      have hmem := Lib.hid (fun q (h : q ∈ rowQ (l.take j)) => hq.out q (List.mem_of_mem_take (rowQ_mem h)))
      obtain ⟨b1, A1, n1, c1, C1, m1, d1, b2, A2, n2, c2, C2, m2, d2, ⟨e0, e1, e2, e3, e4, e5⟩, S1⟩ := he j p hp
      have f0 : wo.cell? ⟨b, o + j * 6, none⟩ = some (.bool b1) := hG.cell e0
      have f1 : wo.cell? ⟨b, o + j * 6 + 1, none⟩ = some (.slice A1 n1 c1) := hG.cell e1
      have f2 : wo.cell? ⟨b, o + j * 6 + 2, none⟩ = some (.slice C1 m1 d1) := hG.cell e2
      have f3 : wo.cell? ⟨b, o + j * 6 + 3, none⟩ = some (.bool b2) := hG.cell e3
      have f4 : wo.cell? ⟨b, o + j * 6 + 4, none⟩ = some (.slice A2 n2 c2) := hG.cell e4
      have f5 : wo.cell? ⟨b, o + j * 6 + 5, none⟩ = some (.slice C2 m2 d2) := hG.cell e5
      replace S1 := Lib.hid (SpotR.kept S1 hG.keeps)
      have hrow := hO.row
      have hO' := Lib.hid hO
      generalize rowQ (l.take j) = out at *
      obtain ⟨A9, c9, rfl, k1, k2, k3⟩ := hrow
      replace k3 := Lib.hid k3
      have hGo := Lib.hid hG
      have hol : out.length ≤ 1099511627776 := by simp at hlen; omega
      clear e0 e1 e2 e3 e4 e5 he hlen hO hG
      obtain ⟨M, hM⟩ : ∃ M, out.length = M := ⟨_, rfl⟩
      rw [hM] at k1 k3 hol
      rw [hM]
      go_wp2_with fail
      go_loopg [5, 6, 7] M (fun gk nv inn kk wr => ∃ m : Nat, gk + m = M ∧ kk = .int .i64 m ∧ inn = .bool ((out.take m).foldl (insStep p) ([], false)).2 ∧ OwnC 39 wr wo.heap.size nv ((out.take m).foldl (insStep p) ([], false)).1 ∧ Grew wo wr)
      case atStart => exact ⟨0, rfl, rfl, rfl, OwnC.nil _ _ _, Grew.refl _⟩
      case round =>
        obtain ⟨m, hj2, rfl, rfl, hN, hGr⟩ := hrel
        by_cases hml : m < M
        · obtain ⟨g, o9, rfl, ke⟩ := k3.out (by omega)
          obtain ⟨q, hq9⟩ : ∃ q, out[m]? = some q := ⟨out[m]'(by omega), List.getElem?_eq_getElem _⟩
          obtain ⟨b3, A3, n3, c3, C3, m3, d3, b4, A4, n4, c4, C4, m4, d4, ⟨e0, e1, e2, e3, e4, e5⟩, S2⟩ := ke m q hq9
          replace e0 : wo.cell? ⟨g, o9 + m * 6, none⟩ = some (.bool b3) := e0
          replace e1 : wo.cell? ⟨g, o9 + m * 6 + 1, none⟩ = some (.slice A3 n3 c3) := e1
          replace e2 : wo.cell? ⟨g, o9 + m * 6 + 2, none⟩ = some (.slice C3 m3 d3) := e2
          replace e3 : wo.cell? ⟨g, o9 + m * 6 + 3, none⟩ = some (.bool b4) := e3
          replace e4 : wo.cell? ⟨g, o9 + m * 6 + 4, none⟩ = some (.slice A4 n4 c4) := e4
          replace e5 : wo.cell? ⟨g, o9 + m * 6 + 5, none⟩ = some (.slice C4 m4 d4) := e5
          have g0 : wr.cell? ⟨g, o9 + m * 6, none⟩ = some (.bool b3) := hGr.cell e0
          have g1 : wr.cell? ⟨g, o9 + m * 6 + 1, none⟩ = some (.slice A3 n3 c3) := hGr.cell e1
          have g2 : wr.cell? ⟨g, o9 + m * 6 + 2, none⟩ = some (.slice C3 m3 d3) := hGr.cell e2
          have g3 : wr.cell? ⟨g, o9 + m * 6 + 3, none⟩ = some (.bool b4) := hGr.cell e3
          have g4 : wr.cell? ⟨g, o9 + m * 6 + 4, none⟩ = some (.slice A4 n4 c4) := hGr.cell e4
          have g5 : wr.cell? ⟨g, o9 + m * 6 + 5, none⟩ = some (.slice C4 m4 d4) := hGr.cell e5
          have h0 : wr.cell? ⟨b, o + j * 6, none⟩ = some (.bool b1) := hGr.cell f0
          have h1 : wr.cell? ⟨b, o + j * 6 + 1, none⟩ = some (.slice A1 n1 c1) := hGr.cell f1
          have h2 : wr.cell? ⟨b, o + j * 6 + 2, none⟩ = some (.slice C1 m1 d1) := hGr.cell f2
          have h3 : wr.cell? ⟨b, o + j * 6 + 3, none⟩ = some (.bool b2) := hGr.cell f3
          have h4 : wr.cell? ⟨b, o + j * 6 + 4, none⟩ = some (.slice A2 n2 c2) := hGr.cell f4
          have h5 : wr.cell? ⟨b, o + j * 6 + 5, none⟩ = some (.slice C2 m2 d2) := hGr.cell f5
          have S2r := Lib.hid (SpotC.kept S2 hGr.keeps)
          replace S2 := Lib.hid S2
          have S3 := Lib.hid (SpotR.kept S1.out hGr.keeps)
          have q1 := Lib.hid (hmem.out q (List.mem_of_getElem? hq9))
          have hjl : (j : Int) < (L : Int) := by omega
          have hml2 : (m : Int) < (M : Int) := by omega
          go_wp2_with fail
          go_region_held3 (fun w' => w'.cell? ⟨b, o + j * 6, none⟩ = some (.bool b1) ∧ w'.cell? ⟨b, o + j * 6 + 1, none⟩ = some (.slice A1 n1 c1) ∧ w'.cell? ⟨b, o + j * 6 + 2, none⟩ = some (.slice C1 m1 d1) ∧ w'.cell? ⟨b, o + j * 6 + 3, none⟩ = some (.bool b2) ∧ w'.cell? ⟨b, o + j * 6 + 4, none⟩ = some (.slice A2 n2 c2) ∧ w'.cell? ⟨b, o + j * 6 + 5, none⟩ = some (.slice C2 m2 d2) ∧ w'.cell? ⟨g, o9 + m * 6, none⟩ = some (.bool b3) ∧ w'.cell? ⟨g, o9 + m * 6 + 1, none⟩ = some (.slice A3 n3 c3) ∧ w'.cell? ⟨g, o9 + m * 6 + 2, none⟩ = some (.slice C3 m3 d3) ∧ w'.cell? ⟨g, o9 + m * 6 + 3, none⟩ = some (.bool b4) ∧ w'.cell? ⟨g, o9 + m * 6 + 4, none⟩ = some (.slice A4 n4 c4) ∧ w'.cell? ⟨g, o9 + m * 6 + 5, none⟩ = some (.slice C4 m4 d4))
            (first | exact ⟨h0, h1, h2, h3, h4, h5, g0, g1, g2, g3, g4, g5⟩ | exact ⟨gc.cell h0, gc.cell h1, gc.cell h2, gc.cell h3, gc.cell h4, gc.cell h5, gc.cell g0, gc.cell g1, gc.cell g2, gc.cell g3, gc.cell g4, gc.cell g5⟩)
            (first | (go_at_call 32; refine (rscmp_any _ _ p.1 p.2 q.1 q.2 k _ (SpotR.kept S3.out ((Grew.refl wr).drew).keeps) ((SpotC.kept S2r.out ((Grew.refl wr).drew).keeps).r q1.out.1 q1.out.2) hk hs).mono ?_; rintro e wx ⟨rfl, gc⟩))
          have gA := (hGr.drew).trans gc
          have oA := OwnC.grew hN (((Grew.refl wr).drew).trans gc)
          have hfl := insStep_fold_len p (out.take m) ([], false) 1 (by simp)
          have hstep := fold_take_succ p out m q hq9 ([], false)
          obtain ⟨⟨a, bo⟩, hst⟩ : ∃ s, (out.take m).foldl (insStep p) ([], false) = s := ⟨_, rfl⟩
          rw [hst] at oA hstep hfl ⊢
          replace oA : OwnC 39 wx wo.heap.size _ a := oA
          have hal : a.length ≤ m + 1 := by simp only [List.length_take] at hfl; omega
          obtain ⟨cc, hcc⟩ : ∃ cc, spotCmp p.1 p.2 q.1 q.2 = cc := ⟨_, rfl⟩
          rw [hcc]
          have c1' := fun h : cc < 0 => insStep_lt (p := p) (q := q) a (by rw [hcc]; exact h)
          have c2' := fun h : cc = 0 => insStep_eq (p := p) (q := q) a bo (by rw [hcc]; exact h)
          have c3' := fun h : 0 < cc => insStep_gt (p := p) (q := q) a bo (by rw [hcc]; exact h)
          replace hstep := Lib.hid hstep
          replace c1' := Lib.hid c1'
          replace c2' := Lib.hid c2'
          replace c3' := Lib.hid c3'
          clear hst hN hGr gc hfl hcc h0 h1 h2 h3 h4 h5 g0 g1 g2 g3 g4 g5 S3 S2r q1 ke
          rcases Int.lt_trichotomy cc 0 with hc | hc | hc
          · cases bo
            ·
              have st9 := Lib.hid (hstep.out.trans (c1'.out hc))
              clear c1' c2' c3' hstep
              have t0 := gA.cell f0
              have t1 := gA.cell f1
              have t2 := gA.cell f2
              have t3 := gA.cell f3
              have t4 := gA.cell f4
              have t5 := gA.cell f5
              have SS := Lib.hid (SpotR.kept S1.out gA.keeps)
              have og := Lib.hid oA
              have gg := Lib.hid gA
              clear oA gA
              go_wp2_with fail
              refine (rclean_any _ p.1 p.2 k _ SS.out hs).mono ?_
              rintro e wy ⟨V, rfl, hV, gy⟩
              obtain ⟨b7, A7, n7, c7, C7, m7, d7, b8, A8, n8, c8, C8, m8, d8, rfl, -, -, X7⟩ := hV.laid
              obtain ⟨xs, hown, hF⟩ := OwnC.grew og.out gy
              have gwy := gg.out.trans gy
              have hsz := gwy.size
              have ho := Lib.hid hown
              replace hF := Lib.hid hF
              replace gwy := Lib.hid gwy
              clear hV gy t0 t1 t2 t3 t4 t5 SS og gg hown
              go_wp2_with (first | fail | (at_builtin; (refine wpList_appS1 _ rfl (.tmp 36) (.tmp 42) 27 rfl wo.heap.size 39 _ 6 112 Tryz.underlying27 info_spot rfl (by omega) zero_spot _ _ _ rfl ho.out _ rfl (one6 _ _ _ _ _ _ _ _ _ _ _ _ _ _) (noint6 _ _ _ _ _ _ _ _ _ _ _ _ _ _) rfl (by omega) (by omega) hsz ?_); intro vA wzA hown1 hG1 hK1; have gzA := hG1 wo (Nat.le_refl _) gwy.out; have ozA := OwnC.snoc (p := p) hown1 hF.out X7.out hK1; clear hown1 hG1 hK1 ho hF X7 gwy hsz; have hal2 : (a ++ [p]).length ≤ m + 2 := (by rw [List.length_append]; simp; omega); have t0 := gzA.cell e0; have t1 := gzA.cell e1; have t2 := gzA.cell e2; have t3 := gzA.cell e3; have t4 := gzA.cell e4; have t5 := gzA.cell e5; have X9 := Lib.hid (SpotC.kept S2.out gzA.keeps); obtain ⟨xs9, hown9, hF9⟩ := id ozA; have hsz9 := gzA.size; have ho9 := Lib.hid hown9; replace hF9 := Lib.hid hF9; have gwq := Lib.hid gzA; clear hown9 ozA gzA) | (at_builtin; (refine wpList_appS1 _ rfl (.tmp 46) (.tmp 51) 27 rfl wo.heap.size 39 _ 6 112 Tryz.underlying27 info_spot rfl (by omega) zero_spot _ _ _ rfl ho9.out _ rfl (one6 _ _ _ _ _ _ _ _ _ _ _ _ _ _) (noint6 _ _ _ _ _ _ _ _ _ _ _ _ _ _) rfl (by omega) (by omega) hsz9 ?_); intro vB wzB hown1 hG1 hK1))
              have gzB := hG1 wo (Nat.le_refl _) gwq.out
              have ozB := OwnC.snoc (p := q) hown1 hF9.out X9.out hK1
              clear hown1 hG1 hK1 ho9 hF9 X9 gwq hsz9 t0 t1 t2 t3 t4 t5
              go_wp2_with fail
              go_roundg (gk - 1)
              case rel => exact ⟨m + 1, by omega, by go_num, by rw [st9.out], by rw [st9.out]; exact ozB, gzB⟩
              case measure => omega
            ·
              have st9 := Lib.hid (hstep.out.trans (insStep_in (p := p) (q := q) a))
              clear c1' c2' c3' hstep
              have t0 := gA.cell e0
              have t1 := gA.cell e1
              have t2 := gA.cell e2
              have t3 := gA.cell e3
              have t4 := gA.cell e4
              have t5 := gA.cell e5
              have X9 := Lib.hid (SpotC.kept S2.out gA.keeps)
              obtain ⟨xs9, hown9, hF9⟩ := id oA
              have hsz9 := gA.size
              have ho9 := Lib.hid hown9
              replace hF9 := Lib.hid hF9
              have gwq := Lib.hid gA
              clear hown9 oA gA
              go_wp2_with (first | fail | (at_builtin; (refine wpList_appS1 _ rfl (.tmp 46) (.tmp 51) 27 rfl wo.heap.size 39 _ 6 112 Tryz.underlying27 info_spot rfl (by omega) zero_spot _ _ _ rfl ho9.out _ rfl (one6 _ _ _ _ _ _ _ _ _ _ _ _ _ _) (noint6 _ _ _ _ _ _ _ _ _ _ _ _ _ _) rfl (by omega) (by omega) hsz9 ?_); intro vB wzB hown1 hG1 hK1))
              have gzB := hG1 wo (Nat.le_refl _) gwq.out
              have ozB := OwnC.snoc (p := q) hown1 hF9.out X9.out hK1
              clear hown1 hG1 hK1 ho9 hF9 X9 gwq hsz9 t0 t1 t2 t3 t4 t5
              go_wp2_with fail
              go_roundg (gk - 1)
              case rel => exact ⟨m + 1, by omega, by go_num, by rw [st9.out], by rw [st9.out]; exact ozB, gzB⟩
              case measure => omega
          ·
            have st9 := Lib.hid (hstep.out.trans (c2'.out hc))
            clear c1' c2' c3' hstep
            subst hc
            have t0 := gA.cell e0
            have t1 := gA.cell e1
            have t2 := gA.cell e2
            have t3 := gA.cell e3
            have t4 := gA.cell e4
            have t5 := gA.cell e5
            have X9 := Lib.hid (SpotC.kept S2.out gA.keeps)
            obtain ⟨xs9, hown9, hF9⟩ := id oA
            have hsz9 := gA.size
            have ho9 := Lib.hid hown9
            replace hF9 := Lib.hid hF9
            have gwq := Lib.hid gA
            clear hown9 oA gA
            go_wp2_with (first | fail | (at_builtin; (refine wpList_appS1 _ rfl (.tmp 46) (.tmp 51) 27 rfl wo.heap.size 39 _ 6 112 Tryz.underlying27 info_spot rfl (by omega) zero_spot _ _ _ rfl ho9.out _ rfl (one6 _ _ _ _ _ _ _ _ _ _ _ _ _ _) (noint6 _ _ _ _ _ _ _ _ _ _ _ _ _ _) rfl (by omega) (by omega) hsz9 ?_); intro vB wzB hown1 hG1 hK1))
            have gzB := hG1 wo (Nat.le_refl _) gwq.out
            have ozB := OwnC.snoc (p := q) hown1 hF9.out X9.out hK1
            clear hown1 hG1 hK1 ho9 hF9 X9 gwq hsz9 t0 t1 t2 t3 t4 t5
            go_wp2_with fail
            go_roundg (gk - 1)
            case rel => exact ⟨m + 1, by omega, by go_num, by rw [st9.out], by rw [st9.out]; exact ozB, gzB⟩
            case measure => omega
          ·
            have st9 := Lib.hid (hstep.out.trans (c3'.out hc))
            clear c1' c2' c3' hstep
            have t0 := gA.cell e0
            have t1 := gA.cell e1
            have t2 := gA.cell e2
            have t3 := gA.cell e3
            have t4 := gA.cell e4
            have t5 := gA.cell e5
            have X9 := Lib.hid (SpotC.kept S2.out gA.keeps)
            obtain ⟨xs9, hown9, hF9⟩ := id oA
            have hsz9 := gA.size
            have ho9 := Lib.hid hown9
            replace hF9 := Lib.hid hF9
            have gwq := Lib.hid gA
            clear hown9 oA gA
            go_wp2_with (first | fail | (at_builtin; (refine wpList_appS1 _ rfl (.tmp 46) (.tmp 51) 27 rfl wo.heap.size 39 _ 6 112 Tryz.underlying27 info_spot rfl (by omega) zero_spot _ _ _ rfl ho9.out _ rfl (one6 _ _ _ _ _ _ _ _ _ _ _ _ _ _) (noint6 _ _ _ _ _ _ _ _ _ _ _ _ _ _) rfl (by omega) (by omega) hsz9 ?_); intro vB wzB hown1 hG1 hK1))
            have gzB := hG1 wo (Nat.le_refl _) gwq.out
            have ozB := OwnC.snoc (p := q) hown1 hF9.out X9.out hK1
            clear hown1 hG1 hK1 ho9 hF9 X9 gwq hsz9 t0 t1 t2 t3 t4 t5
            go_wp2_with fail
            go_roundg (gk - 1)
            case rel => exact ⟨m + 1, by omega, by go_num, by rw [st9.out], by rw [st9.out]; exact ozB, gzB⟩
            case measure => omega
        · obtain rfl : m = M := by omega
          have hall : out.take m = out := by rw [← hM]; exact List.take_length
          rw [hall] at hN ⊢
          have hia := insAll_fold p out
          have hfl := insStep_fold_len p out ([], false) 1 (by simp)
          obtain ⟨⟨a, bo⟩, hst⟩ : ∃ s, out.foldl (insStep p) ([], false) = s := ⟨_, rfl⟩
          rw [hst] at hN hfl ⊢
          replace hN : OwnC 39 wr wo.heap.size _ a := hN
          have hal : a.length ≤ m + 1 := by simp only [] at hfl; omega
          have hia2 := Lib.hid (hia a bo hst)
          clear hia hst hfl hall
          cases bo
          ·
            have t0 := hGr.cell f0
            have t1 := hGr.cell f1
            have t2 := hGr.cell f2
            have t3 := hGr.cell f3
            have t4 := hGr.cell f4
            have t5 := hGr.cell f5
            have SS := Lib.hid (SpotR.kept S1.out hGr.keeps)
            have og := Lib.hid hN
            have gg := Lib.hid hGr
            clear hN hGr
            go_wp2_with fail
            refine (rclean_any _ p.1 p.2 k _ SS.out hs).mono ?_
            rintro e wy ⟨V, rfl, hV, gy⟩
            obtain ⟨b7, A7, n7, c7, C7, m7, d7, b8, A8, n8, c8, C8, m8, d8, rfl, -, -, X7⟩ := hV.laid
            obtain ⟨xs, hown, hF⟩ := OwnC.grew og.out gy
            have gwy := gg.out.trans gy
            have hsz := gwy.size
            have ho := Lib.hid hown
            replace hF := Lib.hid hF
            replace gwy := Lib.hid gwy
            clear hV gy t0 t1 t2 t3 t4 t5 SS og gg hown
            go_wp2_with (first | fail | (at_builtin; (refine wpList_appS1 _ rfl (.tmp 55) (.tmp 61) 27 rfl wo.heap.size 39 _ 6 112 Tryz.underlying27 info_spot rfl (by omega) zero_spot _ _ _ rfl ho.out _ rfl (one6 _ _ _ _ _ _ _ _ _ _ _ _ _ _) (noint6 _ _ _ _ _ _ _ _ _ _ _ _ _ _) rfl (by omega) (by omega) hsz ?_); intro vB wzB hown1 hG1 hK1))
            have gzB := hG1 wo (Nat.le_refl _) gwy.out
            have ozB := OwnC.snoc (p := p) hown1 hF.out X7.out hK1
            clear hown1 hG1 hK1 ho hF X7 gwy hsz
            go_wp2_with fail
            go_roundg (G - 1)
            case rel => exact ⟨j + 1, by omega, by go_num, by rw [hnext.out, hia2.out]; exact OwnC.low ozB hGo.out.size, hGo.out.trans gzB⟩
            case measure => omega
          ·
            have oo := Lib.hid hN
            have gg := Lib.hid hGr
            clear hN hGr
            go_wp2_with fail
            go_roundg (G - 1)
            case rel => exact ⟨j + 1, by omega, by go_num, by rw [hnext.out, hia2.out]; exact OwnC.low oo.out hGo.out.size, hGo.out.trans gg.out⟩
            case measure => omega
    · obtain rfl : j = L := by omega
      have hall : l.take j = l := by rw [← hL]; exact List.take_length
      rw [hall] at hO
      have hrow := Lib.hid hO.row
      have hG' := Lib.hid hG
      clear hO hG
      go_wp2_with fail
      go_ret
      exact ⟨_, rfl, hrow.out, hG'.out⟩
end Go.Proofs.YthhgogpglocjdaaGreat
namespace Go.Proofs.YthhgogpglocjdaaGreat
open Go.RowKit

set_option maxRecDepth 100000 in
set_option maxHeartbeats 4000000 in
theorem rowsame_yes (v v' : Value) (l : List (Rat × Rat)) (w : World) (ha : RowC w v l) (hb : RowC w v' l) :
    Calls Tryz.prog 6 #[v, v'] w fun e w' => e = .returned (.bool true) ∧ Grew w w' := by
  obtain ⟨A, c, rfl, x1, x2, x3⟩ := ha
  obtain ⟨A', c', rfl, k1, k2, k3⟩ := hb
  obtain ⟨L, hL⟩ : ∃ L, l.length = L := ⟨_, rfl⟩
  rw [hL] at x1 x3 k1 k3 ⊢
  have hm : L ≤ 9223372036854775807 := by omega
  replace x3 := Lib.hid x3
  replace k3 := Lib.hid k3
  go_enter Tryz.func6, Tryz.ntmps6
  go_wp2_with fail
  go_loopg [5] L (fun gk i wr => ∃ j : Nat, gk + j = L ∧ i = .int .i64 j ∧ Grew w wr)
  case atStart => exact ⟨0, rfl, rfl, Grew.refl _⟩
  case round =>
    obtain ⟨j, hj, rfl, hG⟩ := hrel
    by_cases hlt : j < L
    · obtain ⟨b, o, rfl, he⟩ := x3.out (by omega)
      obtain ⟨b9, o9, rfl, ke⟩ := k3.out (by omega)
      obtain ⟨p, hp⟩ : ∃ p, l[j]? = some p := ⟨l[j]'(by omega), List.getElem?_eq_getElem _⟩
      obtain ⟨b1, A1, n1, c1, C1, m1, d1, b2, A2, n2, c2, C2, m2, d2, ⟨e0, e1, e2, e3, e4, e5⟩, S1⟩ := he j p hp
      obtain ⟨b3, A3, n3, c3, C3, m3, d3, b4, A4, n4, c4, C4, m4, d4, ⟨f0, f1, f2, f3, f4, f5⟩, S2⟩ := ke j p hp
      have g0 : wr.cell? ⟨b, o + j * 6, none⟩ = some (.bool b1) := hG.cell e0
      have g1 : wr.cell? ⟨b, o + j * 6 + 1, none⟩ = some (.slice A1 n1 c1) := hG.cell e1
      have g2 : wr.cell? ⟨b, o + j * 6 + 2, none⟩ = some (.slice C1 m1 d1) := hG.cell e2
      have g3 : wr.cell? ⟨b, o + j * 6 + 3, none⟩ = some (.bool b2) := hG.cell e3
      have g4 : wr.cell? ⟨b, o + j * 6 + 4, none⟩ = some (.slice A2 n2 c2) := hG.cell e4
      have g5 : wr.cell? ⟨b, o + j * 6 + 5, none⟩ = some (.slice C2 m2 d2) := hG.cell e5
      have h0 : wr.cell? ⟨b9, o9 + j * 6, none⟩ = some (.bool b3) := hG.cell f0
      have h1 : wr.cell? ⟨b9, o9 + j * 6 + 1, none⟩ = some (.slice A3 n3 c3) := hG.cell f1
      have h2 : wr.cell? ⟨b9, o9 + j * 6 + 2, none⟩ = some (.slice C3 m3 d3) := hG.cell f2
      have h3 : wr.cell? ⟨b9, o9 + j * 6 + 3, none⟩ = some (.bool b4) := hG.cell f3
      have h4 : wr.cell? ⟨b9, o9 + j * 6 + 4, none⟩ = some (.slice A4 n4 c4) := hG.cell f4
      have h5 : wr.cell? ⟨b9, o9 + j * 6 + 5, none⟩ = some (.slice C4 m4 d4) := hG.cell f5
      replace S1 := Lib.hid (SpotC.kept S1 hG.keeps)
      replace S2 := Lib.hid (SpotC.kept S2 hG.keeps)
      have hjl : (j : Int) < (L : Int) := by omega
      clear e0 e1 e2 e3 e4 e5 f0 f1 f2 f3 f4 f5 he ke
      go_wp2_with fail
      go_region_held3 (fun w' => w'.cell? ⟨b, o + j * 6, none⟩ = some (.bool b1) ∧ w'.cell? ⟨b, o + j * 6 + 1, none⟩ = some (.slice A1 n1 c1) ∧ w'.cell? ⟨b, o + j * 6 + 2, none⟩ = some (.slice C1 m1 d1) ∧ w'.cell? ⟨b, o + j * 6 + 3, none⟩ = some (.bool b2) ∧ w'.cell? ⟨b, o + j * 6 + 4, none⟩ = some (.slice A2 n2 c2) ∧ w'.cell? ⟨b, o + j * 6 + 5, none⟩ = some (.slice C2 m2 d2) ∧ w'.cell? ⟨b9, o9 + j * 6, none⟩ = some (.bool b3) ∧ w'.cell? ⟨b9, o9 + j * 6 + 1, none⟩ = some (.slice A3 n3 c3) ∧ w'.cell? ⟨b9, o9 + j * 6 + 2, none⟩ = some (.slice C3 m3 d3) ∧ w'.cell? ⟨b9, o9 + j * 6 + 3, none⟩ = some (.bool b4) ∧ w'.cell? ⟨b9, o9 + j * 6 + 4, none⟩ = some (.slice A4 n4 c4) ∧ w'.cell? ⟨b9, o9 + j * 6 + 5, none⟩ = some (.slice C4 m4 d4))
        (first | exact ⟨g0, g1, g2, g3, g4, g5, h0, h1, h2, h3, h4, h5⟩ | exact ⟨gc.cell g0, gc.cell g1, gc.cell g2, gc.cell g3, gc.cell g4, gc.cell g5, gc.cell h0, gc.cell h1, gc.cell h2, gc.cell h3, gc.cell h4, gc.cell h5⟩)
        (first | (go_at_call 14; refine (r5same_yes _ _ p.1 p.2 _ (SpotC.kept S1.out ((Grew.refl wr).drew).keeps) (SpotC.kept S2.out ((Grew.refl wr).drew).keeps)).mono ?_; rintro e wx ⟨rfl, gc⟩))
      have gA := (hG.drew).trans gc
      clear g0 g1 g2 g3 g4 g5 h0 h1 h2 h3 h4 h5 gc
      go_wp2_with fail
      go_roundg (gk - 1)
      case rel => exact ⟨j + 1, by omega, by go_num, gA⟩
      case measure => omega
    · obtain rfl : j = L := by omega
      go_wp2_with fail
      go_ret
      exact ⟨rfl, hG⟩

end Go.Proofs.YthhgogpglocjdaaGreat
namespace Go.Proofs.YthhgogpglocjdaaGreat
open Go.RowKit

set_option maxRecDepth 100000 in
set_option maxHeartbeats 4000000 in
theorem r4make_any (b1 b2 : Bool) (A1 A2 : Option Addr) (N M n1 c1 n2 c2 k : Nat) (w : World) (ha : Num 4294967296 .u32 w (.slice A1 n1 c1) N n1) (hb : Num 4294967296 .u32 w (.slice A2 n2 c2) M n2) (hM : M ≠ 0)
    (h1 : n1 ≤ k) (h2 : n2 ≤ k) (hs : k < 1073741824) :
    Calls Tryz.prog 57 #[.agg #[.bool b1, .slice A1 n1 c1], .agg #[.bool b2, .slice A2 n2 c2]] w fun e w' => ∃ V, e = .returned (.tuple #[V, .int .i64 0]) ∧ FracC w' V (mkRat (sgn (b1 != b2) N) M) ∧ Grew w w' := by
  have Fa := Lib.hid ha
  have Fb := Lib.hid hb
  have Wb := Lib.hid (show WhlR w (.agg #[.bool b2, .slice A2 n2 c2]) (sgn b2 M) k from ⟨_, _, _, _, rfl, hb, rfl, h2⟩)
  have s1 := Lib.hid (show n1 < 137438953472 by omega)
  have s2 := Lib.hid (show k < 137438953472 by omega)
  have h1' := Lib.hid (show len 4294967296 (sgn (b1 != b2) N).natAbs ≤ k by rw [sgn_abs]; exact Nat.le_trans (ha.len_le (by omega)) h1)
  have hsg : ∃ t : Int, sg (sgn b2 M) = t ∧ t ≠ 0 := ⟨_, rfl, by cases b2 <;> simp [sgn, sg] <;> split <;> omega⟩
  obtain ⟨t, ht, ht0⟩ := hsg
  have ht1 : (t == 0) = false := by simpa using ht0
  replace ht := Lib.hid ht
  clear ha hb h1
  go_enter Tryz.func57, Tryz.ntmps57
  go_wp2_with fail
  refine gen_calls ?_
  intro W0 hW0
  have G0 : Grew w W0 := by rw [hW0]; exact (((Grew.refl w).alloc _).alloc _).alloc _
  have P : Box2 W0 (w.heap.size) 0 (.bool b1) (.slice A1 n1 c1) := by rw [hW0]; exact ⟨by simp [go_sem], by simp [go_sem]⟩
  replace P := Lib.hid P
  have Q : Box2 W0 (w.heap.size + 1) 0 (.bool b2) (.slice A2 n2 c2) := by rw [hW0]; exact ⟨by simp [go_sem], by simp [go_sem]⟩
  replace Q := Lib.hid Q
  have R : Res3 W0 (w.heap.size + 1 + 1) 0 (.bool false) (.slice none 0 0) (.slice none 0 0) := by rw [hW0]; exact ⟨by simp [go_sem], by simp [go_sem], by simp [go_sem], by simp [go_sem], by simp [go_sem], by simp [go_sem], by simp⟩
  replace R := Lib.hid R
  have z0 : w.heap.size < W0.heap.size := by rw [hW0]; simp <;> omega
  replace z0 := Lib.hid z0
  have z1 : w.heap.size + 1 < W0.heap.size := by rw [hW0]; simp <;> omega
  replace z1 := Lib.hid z1
  have z2 : w.heap.size + 1 + 1 < W0.heap.size := by rw [hW0]; simp <;> omega
  replace z2 := Lib.hid z2
  clear hW0
  replace Fa := Lib.hid (Fa.out.kept G0.keeps)
  replace Fb := Lib.hid (Fb.out.kept G0.keeps)
  replace Wb := Lib.hid (Wb.out.kept G0.keeps)
  replace G0 := Lib.hid G0
  refine (r2sign_any _ (sgn b2 M) k _ Wb.out s2.out).mono ?_
  rintro e w1 ⟨rfl, g1⟩
  replace R := Lib.hid (R.out.grew g1)
  replace P := Lib.hid (P.out.grew g1)
  replace Q := Lib.hid (Q.out.grew g1)
  replace z0 := Lib.hid (lt_grew z0.out g1)
  replace z1 := Lib.hid (lt_grew z1.out g1)
  replace z2 := Lib.hid (lt_grew z2.out g1)
  replace Fa := Lib.hid (Fa.out.kept g1.keeps)
  replace Fb := Lib.hid (Fb.out.kept g1.keeps)
  replace Wb := Lib.hid (Wb.out.kept g1.keeps)
  replace G0 := Lib.hid (G0.out.trans g1)
  clear g1
  rw [ht.out]
  go_wp2_with fail
  have gd : Grew w1 w1.drew := (Grew.refl w1).drew
  replace R := Lib.hid (R.out.grew gd)
  replace P := Lib.hid (P.out.grew gd)
  replace Q := Lib.hid (Q.out.grew gd)
  replace z0 := Lib.hid (lt_grew z0.out gd)
  replace z1 := Lib.hid (lt_grew z1.out gd)
  replace z2 := Lib.hid (lt_grew z2.out gd)
  replace Fa := Lib.hid (Fa.out.kept gd.keeps)
  replace Fb := Lib.hid (Fb.out.kept gd.keeps)
  replace Wb := Lib.hid (Wb.out.kept gd.keeps)
  replace gd := Lib.hid gd
  have ZP := P
  have ZQ := Q
  go_region_held3 (fun w' => w'.cell? ⟨w.heap.size, 0, none⟩ = some (.bool b1) ∧ w'.cell? ⟨w.heap.size, 1, none⟩ = some (.slice A1 n1 c1) ∧ w'.cell? ⟨w.heap.size + 1, 0, none⟩ = some (.bool b2) ∧ w'.cell? ⟨w.heap.size + 1, 1, none⟩ = some (.slice A2 n2 c2))
    (first | (with_reducible exact ⟨ZP.out.p0, ZP.out.p1, ZQ.out.p0, ZQ.out.p1⟩) | (with_reducible exact ⟨g2.cell ZP.out.p0, g2.cell ZP.out.p1, g2.cell ZQ.out.p0, g2.cell ZQ.out.p1⟩) | (with_reducible exact ⟨(g2.trans g3).cell ZP.out.p0, (g2.trans g3).cell ZP.out.p1, (g2.trans g3).cell ZQ.out.p0, (g2.trans g3).cell ZQ.out.p1⟩) | (with_reducible exact ⟨other3 (o := 0) (by omega) ((g2.trans g3).cell ZP.out.p0), other3 (o := 0) (by omega) ((g2.trans g3).cell ZP.out.p1), other3 (o := 0) (by omega) ((g2.trans g3).cell ZQ.out.p0), other3 (o := 0) (by omega) ((g2.trans g3).cell ZQ.out.p1)⟩))
    (first | (have chk := g2; clear chk; go_at_call 66; refine (rfreduce_any _ _ k _ (FracR.mk X2.out Fb.out rfl h1'.out h2) (by omega)).mono ?_; rintro e w3 ⟨V6, rfl, hV6, g3⟩; obtain ⟨b7, A7, n7, c7, C7, m7, d7, rfl, X6⟩ := hV6.laid; clear hV6; replace R := Lib.hid (R.out.grew g3); replace P := Lib.hid (P.out.grew g3); replace Q := Lib.hid (Q.out.grew g3); replace z0 := Lib.hid (lt_grew z0.out g3); replace z1 := Lib.hid (lt_grew z1.out g3); replace z2 := Lib.hid (lt_grew z2.out g3); replace Fa := Lib.hid (Fa.out.kept g3.keeps); replace Fb := Lib.hid (Fb.out.kept g3.keeps); replace Wb := Lib.hid (Wb.out.kept g3.keeps); replace X2 := Lib.hid (X2.out.kept g3.keeps); obtain ⟨R0, R1, R2, Rf0, Rf1, Rf2, Rs⟩ := R.out) | (go_at_call 84; refine (rmake_any _ _ N _ _ Fa.out s1.out).mono ?_; rintro e w2 ⟨V2, rfl, hV2, g2⟩; obtain ⟨b4, A4, n4, c4, rfl, X2, -⟩ := hV2.laid; clear hV2; replace R := Lib.hid (R.out.grew g2); replace P := Lib.hid (P.out.grew g2); replace Q := Lib.hid (Q.out.grew g2); replace z0 := Lib.hid (lt_grew z0.out g2); replace z1 := Lib.hid (lt_grew z1.out g2); replace z2 := Lib.hid (lt_grew z2.out g2); replace Fa := Lib.hid (Fa.out.kept g2.keeps); replace Fb := Lib.hid (Fb.out.kept g2.keeps); replace Wb := Lib.hid (Wb.out.kept g2.keeps)))
  replace G0 := Lib.hid (((G0.out.trans gd.out).trans g2).trans g3)
  clear gd g2 g3 ZP ZQ
  refine gen_then ?_
  intro W9 hW9
  obtain ⟨q0, q1, q2, qK, -, -, qs, qG⟩ := store3 (o := 0) R0 R1 R2 hW9
  have GE := qG w (.inr (by omega)) G0.out
  have QK := Lib.hid qK
  clear qK qG hW9 R0 R1 R2
  go_wp2_with fail
  exact bodyPost_ret (v := .tuple #[.agg #[.bool b7, .slice A7 n7 c7, .slice C7 m7 d7], .int .i64 0]) (by simp [results, Tryz.results57, go_sem, q0, q1, q2]) rfl ⟨_, rfl, X6.out.kept QK.out, GE⟩

theorem r4makez_any (Va Vb : Value) (z y : Int) (k : Nat) (w : World) (ha : Whl w Va z) (hb : Whl w Vb y) (hy : y ≠ 0) (h1 : len 4294967296 z.natAbs ≤ k) (h2 : len 4294967296 y.natAbs ≤ k) (hs : k < 1073741824) :
    Calls Tryz.prog 57 #[Va, Vb] w fun e w' => ∃ V, e = .returned (.tuple #[V, .int .i64 0]) ∧ FracC w' V ((z : Rat) / (y : Rat)) ∧ Grew w w' := by
  obtain ⟨b1, A1, n1, c1, rfl, -, Y1⟩ := ha.laid
  obtain ⟨b2, A2, n2, c2, rfl, -, Y2⟩ := hb.laid
  obtain ⟨e1, l1, X1⟩ := Y1.out
  obtain ⟨e2, l2, X2⟩ := Y2.out
  rw [← quot_mkRat z y hy]
  subst e1; subst e2
  exact r4make_any _ _ A1 A2 z.natAbs y.natAbs n1 c1 n2 c2 k w X1 X2 (by omega) (by omega) (by omega) hs
end Go.Proofs.YthhgogpglocjdaaGreat
