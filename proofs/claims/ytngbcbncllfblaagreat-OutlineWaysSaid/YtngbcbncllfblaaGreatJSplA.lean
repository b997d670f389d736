/- spot.Cmp, Same, Toward. Condition: what comes in reads; fewer than 2^26 words. Edges as values: as they come in; a struct of twelve cells stored anew. Conditions: none. r05.clean, spot.clean, r05.Row. Condition: what comes in reads; fewer than 2^26 words, fewer than 2^36 spots. split.clean, Cmp, Turned, and the document's own. Condition: what comes in reads; fewer than 2^26 words. -/
import Derived.Test.YtngbcbncllfblaaGreatJR5c
import Derived.Test.YtngbcbncllfblaaGreatJElE
import Derived.Test.YtngbcbncllfblaaGreatJRowP
import Derived.Deep.LoopGhost
import Derived.Deep.RegionHeld3
namespace Go.Proofs.YtngbcbncllfblaaGreat
open Go.RowKit

set_option maxRecDepth 100000 in
set_option maxHeartbeats 8000000 in
theorem scmp_any (Va Vb : Value) (ax ay bx b_y : Rat) (k : Nat) (w : World) (ha : SpotV w Va ax ay k) (hb : SpotV w Vb bx b_y k) (hk : 1 ≤ k) (hs : k < 67108864) :
    Calls Tryz.prog 118 #[Va, Vb] w fun e w' => e = .returned (.int .i64 (spotCmp ax ay bx b_y)) ∧ Grew w w' := by
  obtain ⟨b1, A1, n1, c1, C1, m1, d1, b2, A2, n2, c2, C2, m2, d2, rfl, Fa, Fb, -⟩ := ha.laid
  obtain ⟨b3, A3, n3, c3, C3, m3, d3, b4, A4, n4, c4, C4, m4, d4, rfl, Fc, Fd, -⟩ := hb.laid
  clear ha hb
  have hs2 : k + k < 549755813888 := by omega
  have eO : spotCmp ax ay bx b_y = if cmpQ ax bx = 0 then cmpQ ay b_y else cmpQ ax bx := rfl
  generalize spotCmp ax ay bx b_y = oo at *
  obtain ⟨x, hx⟩ : ∃ x, cmpQ ax bx = x := ⟨_, rfl⟩
  rw [hx] at eO
  replace hx := Lib.hid hx
  replace eO := Lib.hid eO
  go_enter Tryz.func118, Tryz.ntmps118
  go_wp2_with fail
  refine gen_calls ?_
  intro W0 hW0
  have G0 : Grew w W0 := by rw [hW0]; exact ((Grew.refl w).alloc _).alloc _
  have P : Box3 W0 (w.heap.size) 0 (.bool b1) (.slice A1 n1 c1) (.slice C1 m1 d1) := by rw [hW0]; exact ⟨by simp [go_sem], by simp [go_sem], by simp [go_sem]⟩
  replace P := Lib.hid P
  have Py : Box3 W0 (w.heap.size) 3 (.bool b2) (.slice A2 n2 c2) (.slice C2 m2 d2) := by rw [hW0]; exact ⟨by simp [go_sem], by simp [go_sem], by simp [go_sem]⟩
  replace Py := Lib.hid Py
  have Q : Box3 W0 (w.heap.size + 1) 0 (.bool b3) (.slice A3 n3 c3) (.slice C3 m3 d3) := by rw [hW0]; exact ⟨by simp [go_sem], by simp [go_sem], by simp [go_sem]⟩
  replace Q := Lib.hid Q
  have Qy : Box3 W0 (w.heap.size + 1) 3 (.bool b4) (.slice A4 n4 c4) (.slice C4 m4 d4) := by rw [hW0]; exact ⟨by simp [go_sem], by simp [go_sem], by simp [go_sem]⟩
  replace Qy := Lib.hid Qy
  have z0 : w.heap.size < W0.heap.size := by rw [hW0]; simp <;> omega
  replace z0 := Lib.hid z0
  have z1 : w.heap.size + 1 < W0.heap.size := by rw [hW0]; simp <;> omega
  replace z1 := Lib.hid z1
  clear hW0
  replace Fa := Lib.hid (Fa.out.kept G0.keeps)
  replace Fb := Lib.hid (Fb.out.kept G0.keeps)
  replace Fc := Lib.hid (Fc.out.kept G0.keeps)
  replace Fd := Lib.hid (Fd.out.kept G0.keeps)
  replace G0 := Lib.hid G0
  refine (fcmp_any _ _ ax bx k k _ Fa.out Fc.out hk hk hs2).mono ?_
  rintro e w1 ⟨rfl, g1⟩
  replace P := Lib.hid (P.out.grew g1)
  replace Py := Lib.hid (Py.out.grew g1)
  replace Q := Lib.hid (Q.out.grew g1)
  replace Qy := Lib.hid (Qy.out.grew g1)
  replace z0 := Lib.hid (lt_grew z0.out g1)
  replace z1 := Lib.hid (lt_grew z1.out g1)
  replace Fa := Lib.hid (Fa.out.kept g1.keeps)
  replace Fb := Lib.hid (Fb.out.kept g1.keeps)
  replace Fc := Lib.hid (Fc.out.kept g1.keeps)
  replace Fd := Lib.hid (Fd.out.kept g1.keeps)
  replace G0 := Lib.hid (G0.out.trans g1)
  clear g1
  rw [hx.out]

  by_cases h0 : x = 0
  · as_aux_lemma =>
    subst h0
    have eO' := Lib.hid (eO.out.trans (if_pos rfl))
    obtain ⟨P0, P1, P2⟩ := P.out
    obtain ⟨Py0, Py1, Py2⟩ := Py.out
    obtain ⟨Q0, Q1, Q2⟩ := Q.out
    obtain ⟨Qy0, Qy1, Qy2⟩ := Qy.out
    go_wp2_with fail
    clear P0 P1 P2 Py0 Py1 Py2 Q0 Q1 Q2 Qy0 Qy1 Qy2
    refine (fcmp_any _ _ ay b_y k k _ Fb.out Fd.out hk hk hs2).mono ?_
    rintro e w2 ⟨rfl, g2⟩
    replace P := Lib.hid (P.out.grew g2)
    replace Py := Lib.hid (Py.out.grew g2)
    replace Q := Lib.hid (Q.out.grew g2)
    replace Qy := Lib.hid (Qy.out.grew g2)
    replace z0 := Lib.hid (lt_grew z0.out g2)
    replace z1 := Lib.hid (lt_grew z1.out g2)
    replace Fa := Lib.hid (Fa.out.kept g2.keeps)
    replace Fb := Lib.hid (Fb.out.kept g2.keeps)
    replace Fc := Lib.hid (Fc.out.kept g2.keeps)
    replace Fd := Lib.hid (Fd.out.kept g2.keeps)
    replace G0 := Lib.hid (G0.out.trans g2)
    clear g2
    go_wp2_with fail
    go_ret
    exact ⟨by rw [eO'.out]; rfl, G0.out⟩
  · as_aux_lemma =>

    have eO' := Lib.hid (eO.out.trans (if_neg h0))
    have hxb : (x == 0) = false := by simpa using h0
    obtain ⟨P0, P1, P2⟩ := P.out
    obtain ⟨Py0, Py1, Py2⟩ := Py.out
    obtain ⟨Q0, Q1, Q2⟩ := Q.out
    obtain ⟨Qy0, Qy1, Qy2⟩ := Qy.out
    go_wp2_with fail
    clear P0 P1 P2 Py0 Py1 Py2 Q0 Q1 Q2 Qy0 Qy1 Qy2
    go_ret
    exact ⟨by rw [eO'.out]; rfl, G0.out⟩

end Go.Proofs.YtngbcbncllfblaaGreat
namespace Go.Proofs.YtngbcbncllfblaaGreat
open Go.RowKit

/-- An edge as it comes in, all parts of at most k words. -/
abbrev EdgeR (k : Nat) := EdgeP (fun w V x y => SpotR w V x y k)
theorem EdgeP.mono {P P' : World → Value → Rat → Rat → Prop} {w w' : World} {us : Array Value} {e : EdgeQ} (h : EdgeP P w us e) (hP : ∀ V x y, P w V x y → P' w' V x y) : EdgeP P' w' us e := by
  obtain ⟨u1, u2, rfl, h1, h2⟩ := h
  exact ⟨u1, u2, rfl, hP _ _ _ h1, hP _ _ _ h2⟩
/-- An edge's words. -/
def EB (k : Nat) (e : EdgeQ) : Prop := (QB e.1.1 k ∧ QB e.1.2 k) ∧ QB e.2.1 k ∧ QB e.2.2 k
theorem edge_r {k : Nat} {w : World} {us : Array Value} {e : EdgeQ} (h : Edge12R w us e) (b : EB k e) : EdgeR k w us e := by
  obtain ⟨u1, u2, rfl, h1, h2⟩ := h
  exact ⟨u1, u2, rfl, h1.r b.1.1 b.1.2, h2.r b.2.1 b.2.2⟩
theorem edgeR_kept {k : Nat} {w w' : World} {us : Array Value} {e : EdgeQ} (h : EdgeR k w us e) (g : Keeps w w') : EdgeR k w' us e := h.mono fun _ _ _ h => SpotR.kept h g
/-- The parts, written out. -/
theorem EdgeR.laid {k : Nat} {w : World} {us : Array Value} {e : EdgeQ} (h : EdgeR k w us e) :
    ∃ b1 A1 n1 c1 C1 m1 d1 b2 A2 n2 c2 C2 m2 d2 b3 A3 n3 c3 C3 m3 d3 b4 A4 n4 c4 C4 m4 d4, us = #[.bool b1, .slice A1 n1 c1, .slice C1 m1 d1, .bool b2, .slice A2 n2 c2, .slice C2 m2 d2, .bool b3, .slice A3 n3 c3, .slice C3 m3 d3, .bool b4, .slice A4 n4 c4, .slice C4 m4 d4] ∧
      Hid (SpotR w (.agg #[.bool b1, .slice A1 n1 c1, .slice C1 m1 d1, .bool b2, .slice A2 n2 c2, .slice C2 m2 d2]) e.1.1 e.1.2 k) ∧ Hid (SpotR w (.agg #[.bool b3, .slice A3 n3 c3, .slice C3 m3 d3, .bool b4, .slice A4 n4 c4, .slice C4 m4 d4]) e.2.1 e.2.2 k) := by
  obtain ⟨u1, u2, rfl, h1, h2⟩ := h
  have k1 := h1
  have k2 := h2
  obtain ⟨b1, A1, n1, c1, C1, m1, d1, b2, A2, n2, c2, C2, m2, d2, e1, -, -⟩ := k1
  obtain ⟨b3, A3, n3, c3, C3, m3, d3, b4, A4, n4, c4, C4, m4, d4, e2, -, -⟩ := k2
  injection e1 with e1
  injection e2 with e2
  subst e1
  subst e2
  exact ⟨b1, A1, n1, c1, C1, m1, d1, b2, A2, n2, c2, C2, m2, d2, b3, A3, n3, c3, C3, m3, d3, b4, A4, n4, c4, C4, m4, d4, rfl, h1, h2⟩
theorem edge_mk {w : World} {b1 b2 b3 b4 : Bool} {A1 A2 A3 A4 C1 C2 C3 C4 : Option Addr} {n1 n2 n3 n4 c1 c2 c3 c4 m1 m2 m3 m4 d1 d2 d3 d4 : Nat} {e : EdgeQ}
    (h1 : SpotC w (.agg #[.bool b1, .slice A1 n1 c1, .slice C1 m1 d1, .bool b2, .slice A2 n2 c2, .slice C2 m2 d2]) e.1.1 e.1.2) (h2 : SpotC w (.agg #[.bool b3, .slice A3 n3 c3, .slice C3 m3 d3, .bool b4, .slice A4 n4 c4, .slice C4 m4 d4]) e.2.1 e.2.2) :
    Edge12R w #[.bool b1, .slice A1 n1 c1, .slice C1 m1 d1, .bool b2, .slice A2 n2 c2, .slice C2 m2 d2, .bool b3, .slice A3 n3 c3, .slice C3 m3 d3, .bool b4, .slice A4 n4 c4, .slice C4 m4 d4] e := ⟨_, _, rfl, h1, h2⟩
end Go.Proofs.YtngbcbncllfblaaGreat
namespace Go.Proofs.YtngbcbncllfblaaGreat
open Go.RowKit

end Go.Proofs.YtngbcbncllfblaaGreat
namespace Go.Proofs.YtngbcbncllfblaaGreat
open Go.RowKit

set_option maxRecDepth 100000 in
set_option maxHeartbeats 4000000 in
theorem xclean_any (Va : Value) (x y : Rat) (k : Nat) (w : World) (ha : SpotV w Va x y k) (hk : 1 ≤ k) (hs : k < 67108864) :
    Calls Tryz.prog 98 #[Va] w fun e w' => ∃ V, e = .returned V ∧ SpotC w' V x y ∧ Grew w w' := by
  obtain ⟨b1, A1, n1, c1, C1, m1, d1, b2, A2, n2, c2, C2, m2, d2, rfl, Fa, Fb, -⟩ := ha.laid
  clear ha
  go_enter Tryz.func98, Tryz.ntmps98
  go_wp2_with fail
  refine gen_wp ?_
  intro W0 hW0
  have G0 : Grew w W0 := by rw [hW0]; exact ((Grew.refl w).alloc _).alloc _
  have P : Box3 W0 (w.heap.size) 0 (.bool b1) (.slice A1 n1 c1) (.slice C1 m1 d1) := by rw [hW0]; exact ⟨by simp [go_sem], by simp [go_sem], by simp [go_sem]⟩
  replace P := Lib.hid P
  have Py : Box3 W0 (w.heap.size) 3 (.bool b2) (.slice A2 n2 c2) (.slice C2 m2 d2) := by rw [hW0]; exact ⟨by simp [go_sem], by simp [go_sem], by simp [go_sem]⟩
  replace Py := Lib.hid Py
  have R : Res3 W0 (w.heap.size + 1) 0 (.bool false) (.slice none 0 0) (.slice none 0 0) := by rw [hW0]; exact ⟨by simp [go_sem], by simp [go_sem], by simp [go_sem], by simp [go_sem], by simp [go_sem], by simp [go_sem], by simp⟩
  replace R := Lib.hid R
  have R_ : Res3 W0 (w.heap.size + 1) 3 (.bool false) (.slice none 0 0) (.slice none 0 0) := by rw [hW0]; exact ⟨by simp [go_sem], by simp [go_sem], by simp [go_sem], by simp [go_sem], by simp [go_sem], by simp [go_sem], by simp⟩
  replace R_ := Lib.hid R_
  have z0 : w.heap.size < W0.heap.size := by rw [hW0]; simp <;> omega
  replace z0 := Lib.hid z0
  have z1 : w.heap.size + 1 < W0.heap.size := by rw [hW0]; simp <;> omega
  replace z1 := Lib.hid z1
  clear hW0
  replace Fa := Lib.hid (Fa.out.kept G0.keeps)
  replace Fb := Lib.hid (Fb.out.kept G0.keeps)
  replace G0 := Lib.hid G0
  have gd : Grew W0 W0.drew := (Grew.refl W0).drew
  replace R := Lib.hid (R.out.grew gd)
  replace R_ := Lib.hid (R_.out.grew gd)
  replace P := Lib.hid (P.out.grew gd)
  replace Py := Lib.hid (Py.out.grew gd)
  replace z0 := Lib.hid (lt_grew z0.out gd)
  replace z1 := Lib.hid (lt_grew z1.out gd)
  replace Fa := Lib.hid (Fa.out.kept gd.keeps)
  replace Fb := Lib.hid (Fb.out.kept gd.keeps)
  replace gd := Lib.hid gd
  have ZP := P
  have ZPy := Py
  go_region_held3 (fun w' => w'.cell? ⟨w.heap.size, 0, none⟩ = some (.bool b1) ∧ w'.cell? ⟨w.heap.size, 1, none⟩ = some (.slice A1 n1 c1) ∧ w'.cell? ⟨w.heap.size, 2, none⟩ = some (.slice C1 m1 d1) ∧ w'.cell? ⟨w.heap.size, 3, none⟩ = some (.bool b2) ∧ w'.cell? ⟨w.heap.size, 4, none⟩ = some (.slice A2 n2 c2) ∧ w'.cell? ⟨w.heap.size, 5, none⟩ = some (.slice C2 m2 d2))
    (first | (with_reducible exact ⟨ZP.out.p0, ZP.out.p1, ZP.out.p2, ZPy.out.p0, ZPy.out.p1, ZPy.out.p2⟩) | (with_reducible exact ⟨g1.cell ZP.out.p0, g1.cell ZP.out.p1, g1.cell ZP.out.p2, g1.cell ZPy.out.p0, g1.cell ZPy.out.p1, g1.cell ZPy.out.p2⟩) | (with_reducible exact ⟨(g1.trans g2).cell ZP.out.p0, (g1.trans g2).cell ZP.out.p1, (g1.trans g2).cell ZP.out.p2, (g1.trans g2).cell ZPy.out.p0, (g1.trans g2).cell ZPy.out.p1, (g1.trans g2).cell ZPy.out.p2⟩) | (with_reducible exact ⟨other3 (o := 3) (by omega) (other3 (o := 0) (by omega) ((g1.trans g2).cell ZP.out.p0)), other3 (o := 3) (by omega) (other3 (o := 0) (by omega) ((g1.trans g2).cell ZP.out.p1)), other3 (o := 3) (by omega) (other3 (o := 0) (by omega) ((g1.trans g2).cell ZP.out.p2)), other3 (o := 3) (by omega) (other3 (o := 0) (by omega) ((g1.trans g2).cell ZPy.out.p0)), other3 (o := 3) (by omega) (other3 (o := 0) (by omega) ((g1.trans g2).cell ZPy.out.p1)), other3 (o := 3) (by omega) (other3 (o := 0) (by omega) ((g1.trans g2).cell ZPy.out.p2))⟩))
    (first | (have chk := g1; clear chk; go_at_call 133; refine (freduce_any _ y k _ Fb.out hk (by omega)).mono ?_; rintro e w2 ⟨V2, rfl, hV2, g2⟩; obtain ⟨b14, A14, n14, c14, C14, m14, d14, rfl, X2⟩ := hV2.laid; clear hV2; replace R := Lib.hid (R.out.grew g2); replace R_ := Lib.hid (R_.out.grew g2); replace P := Lib.hid (P.out.grew g2); replace Py := Lib.hid (Py.out.grew g2); replace z0 := Lib.hid (lt_grew z0.out g2); replace z1 := Lib.hid (lt_grew z1.out g2); replace Fa := Lib.hid (Fa.out.kept g2.keeps); replace Fb := Lib.hid (Fb.out.kept g2.keeps); replace X1 := Lib.hid (X1.out.kept g2.keeps); obtain ⟨R0, R1, R2, Rf0, Rf1, Rf2, Rs⟩ := R.out; obtain ⟨R_0, R_1, R_2, R_f0, R_f1, R_f2, R_s⟩ := R_.out) | (go_at_call 133; refine (freduce_any _ x k _ Fa.out hk (by omega)).mono ?_; rintro e w1 ⟨V1, rfl, hV1, g1⟩; obtain ⟨b13, A13, n13, c13, C13, m13, d13, rfl, X1⟩ := hV1.laid; clear hV1; replace R := Lib.hid (R.out.grew g1); replace R_ := Lib.hid (R_.out.grew g1); replace P := Lib.hid (P.out.grew g1); replace Py := Lib.hid (Py.out.grew g1); replace z0 := Lib.hid (lt_grew z0.out g1); replace z1 := Lib.hid (lt_grew z1.out g1); replace Fa := Lib.hid (Fa.out.kept g1.keeps); replace Fb := Lib.hid (Fb.out.kept g1.keeps)))
  replace G0 := Lib.hid (((G0.out.trans gd.out).trans g1).trans g2)
  clear gd g1 g2 ZP ZPy
  refine gen_then ?_
  intro W9 hW9
  obtain ⟨q0, q1, q2, q3, q4, q5, qK, qG⟩ := store6 R0 R1 R2 R_0 R_1 R_2 hW9
  have GE := qG w (by omega) G0.out
  have QK := Lib.hid qK
  clear qK qG hW9 R0 R1 R2 R_0 R_1 R_2
  go_wp2_with fail
  exact bodyPost_ret (v := .agg #[.bool b13, .slice A13 n13 c13, .slice C13 m13 d13, .bool b14, .slice A14 n14 c14, .slice C14 m14 d14]) (by simp [results, Tryz.results98, go_sem, q0, q1, q2, q3, q4, q5]) rfl ⟨_, rfl, SpotC.mk (X1.out.kept QK.out) (X2.out.kept QK.out), GE⟩
set_option maxRecDepth 100000 in
set_option maxHeartbeats 4000000 in
theorem rxclean_any (Va : Value) (x y : Rat) (k : Nat) (w : World) (ha : SpotR w Va x y k) (hs : k < 67108864) :
    Calls Tryz.prog 102 #[Va] w fun e w' => ∃ V, e = .returned V ∧ SpotC w' V x y ∧ Grew w w' := by
  obtain ⟨b1, A1, n1, c1, C1, m1, d1, b2, A2, n2, c2, C2, m2, d2, rfl, Fa, Fb, -⟩ := ha.laid
  clear ha
  go_enter Tryz.func102, Tryz.ntmps102
  go_wp2_with fail
  refine gen_wp ?_
  intro W0 hW0
  have G0 : Grew w W0 := by rw [hW0]; exact ((Grew.refl w).alloc _).alloc _
  have P : Box3 W0 (w.heap.size) 0 (.bool b1) (.slice A1 n1 c1) (.slice C1 m1 d1) := by rw [hW0]; exact ⟨by simp [go_sem], by simp [go_sem], by simp [go_sem]⟩
  replace P := Lib.hid P
  have Py : Box3 W0 (w.heap.size) 3 (.bool b2) (.slice A2 n2 c2) (.slice C2 m2 d2) := by rw [hW0]; exact ⟨by simp [go_sem], by simp [go_sem], by simp [go_sem]⟩
  replace Py := Lib.hid Py
  have R : Res3 W0 (w.heap.size + 1) 0 (.bool false) (.slice none 0 0) (.slice none 0 0) := by rw [hW0]; exact ⟨by simp [go_sem], by simp [go_sem], by simp [go_sem], by simp [go_sem], by simp [go_sem], by simp [go_sem], by simp⟩
  replace R := Lib.hid R
  have R_ : Res3 W0 (w.heap.size + 1) 3 (.bool false) (.slice none 0 0) (.slice none 0 0) := by rw [hW0]; exact ⟨by simp [go_sem], by simp [go_sem], by simp [go_sem], by simp [go_sem], by simp [go_sem], by simp [go_sem], by simp⟩
  replace R_ := Lib.hid R_
  have z0 : w.heap.size < W0.heap.size := by rw [hW0]; simp <;> omega
  replace z0 := Lib.hid z0
  have z1 : w.heap.size + 1 < W0.heap.size := by rw [hW0]; simp <;> omega
  replace z1 := Lib.hid z1
  clear hW0
  replace Fa := Lib.hid (Fa.out.kept G0.keeps)
  replace Fb := Lib.hid (Fb.out.kept G0.keeps)
  replace G0 := Lib.hid G0
  have gd : Grew W0 W0.drew := (Grew.refl W0).drew
  replace R := Lib.hid (R.out.grew gd)
  replace R_ := Lib.hid (R_.out.grew gd)
  replace P := Lib.hid (P.out.grew gd)
  replace Py := Lib.hid (Py.out.grew gd)
  replace z0 := Lib.hid (lt_grew z0.out gd)
  replace z1 := Lib.hid (lt_grew z1.out gd)
  replace Fa := Lib.hid (Fa.out.kept gd.keeps)
  replace Fb := Lib.hid (Fb.out.kept gd.keeps)
  replace gd := Lib.hid gd
  have ZP := P
  have ZPy := Py
  go_region_held3 (fun w' => w'.cell? ⟨w.heap.size, 0, none⟩ = some (.bool b1) ∧ w'.cell? ⟨w.heap.size, 1, none⟩ = some (.slice A1 n1 c1) ∧ w'.cell? ⟨w.heap.size, 2, none⟩ = some (.slice C1 m1 d1) ∧ w'.cell? ⟨w.heap.size, 3, none⟩ = some (.bool b2) ∧ w'.cell? ⟨w.heap.size, 4, none⟩ = some (.slice A2 n2 c2) ∧ w'.cell? ⟨w.heap.size, 5, none⟩ = some (.slice C2 m2 d2))
    (first | (with_reducible exact ⟨ZP.out.p0, ZP.out.p1, ZP.out.p2, ZPy.out.p0, ZPy.out.p1, ZPy.out.p2⟩) | (with_reducible exact ⟨g1.cell ZP.out.p0, g1.cell ZP.out.p1, g1.cell ZP.out.p2, g1.cell ZPy.out.p0, g1.cell ZPy.out.p1, g1.cell ZPy.out.p2⟩) | (with_reducible exact ⟨(g1.trans g2).cell ZP.out.p0, (g1.trans g2).cell ZP.out.p1, (g1.trans g2).cell ZP.out.p2, (g1.trans g2).cell ZPy.out.p0, (g1.trans g2).cell ZPy.out.p1, (g1.trans g2).cell ZPy.out.p2⟩) | (with_reducible exact ⟨other3 (o := 3) (by omega) (other3 (o := 0) (by omega) ((g1.trans g2).cell ZP.out.p0)), other3 (o := 3) (by omega) (other3 (o := 0) (by omega) ((g1.trans g2).cell ZP.out.p1)), other3 (o := 3) (by omega) (other3 (o := 0) (by omega) ((g1.trans g2).cell ZP.out.p2)), other3 (o := 3) (by omega) (other3 (o := 0) (by omega) ((g1.trans g2).cell ZPy.out.p0)), other3 (o := 3) (by omega) (other3 (o := 0) (by omega) ((g1.trans g2).cell ZPy.out.p1)), other3 (o := 3) (by omega) (other3 (o := 0) (by omega) ((g1.trans g2).cell ZPy.out.p2))⟩))
    (first | (have chk := g1; clear chk; go_at_call 139; refine (rfreduce_any _ y k _ Fb.out (by omega)).mono ?_; rintro e w2 ⟨V2, rfl, hV2, g2⟩; obtain ⟨b14, A14, n14, c14, C14, m14, d14, rfl, X2⟩ := hV2.laid; clear hV2; replace R := Lib.hid (R.out.grew g2); replace R_ := Lib.hid (R_.out.grew g2); replace P := Lib.hid (P.out.grew g2); replace Py := Lib.hid (Py.out.grew g2); replace z0 := Lib.hid (lt_grew z0.out g2); replace z1 := Lib.hid (lt_grew z1.out g2); replace Fa := Lib.hid (Fa.out.kept g2.keeps); replace Fb := Lib.hid (Fb.out.kept g2.keeps); replace X1 := Lib.hid (X1.out.kept g2.keeps); obtain ⟨R0, R1, R2, Rf0, Rf1, Rf2, Rs⟩ := R.out; obtain ⟨R_0, R_1, R_2, R_f0, R_f1, R_f2, R_s⟩ := R_.out) | (go_at_call 139; refine (rfreduce_any _ x k _ Fa.out (by omega)).mono ?_; rintro e w1 ⟨V1, rfl, hV1, g1⟩; obtain ⟨b13, A13, n13, c13, C13, m13, d13, rfl, X1⟩ := hV1.laid; clear hV1; replace R := Lib.hid (R.out.grew g1); replace R_ := Lib.hid (R_.out.grew g1); replace P := Lib.hid (P.out.grew g1); replace Py := Lib.hid (Py.out.grew g1); replace z0 := Lib.hid (lt_grew z0.out g1); replace z1 := Lib.hid (lt_grew z1.out g1); replace Fa := Lib.hid (Fa.out.kept g1.keeps); replace Fb := Lib.hid (Fb.out.kept g1.keeps)))
  replace G0 := Lib.hid (((G0.out.trans gd.out).trans g1).trans g2)
  clear gd g1 g2 ZP ZPy
  refine gen_then ?_
  intro W9 hW9
  obtain ⟨q0, q1, q2, q3, q4, q5, qK, qG⟩ := store6 R0 R1 R2 R_0 R_1 R_2 hW9
  have GE := qG w (by omega) G0.out
  have QK := Lib.hid qK
  clear qK qG hW9 R0 R1 R2 R_0 R_1 R_2
  go_wp2_with fail
  exact bodyPost_ret (v := .agg #[.bool b13, .slice A13 n13 c13, .slice C13 m13 d13, .bool b14, .slice A14 n14 c14, .slice C14 m14 d14]) (by simp [results, Tryz.results102, go_sem, q0, q1, q2, q3, q4, q5]) rfl ⟨_, rfl, SpotC.mk (X1.out.kept QK.out) (X2.out.kept QK.out), GE⟩

set_option maxRecDepth 100000 in
set_option maxHeartbeats 8000000 in
theorem ecmp_any (us vs : Array Value) (x y : EdgeQ) (k : Nat) (w : World) (ha : EdgeR k w us x) (hb : EdgeR k w vs y) (hk : 1 ≤ k) (hs : k < 67108864) :
    Calls Tryz.prog 68 #[.agg us, .agg vs] w fun e w' => e = .returned (.int .i64 (edgeCmp x y)) ∧ Grew w w' := by
  obtain ⟨b1, A1, n1, c1, C1, m1, d1, b2, A2, n2, c2, C2, m2, d2, b3, A3, n3, c3, C3, m3, d3, b4, A4, n4, c4, C4, m4, d4, rfl, Fa, Fb⟩ := ha.laid
  obtain ⟨b5, A5, n5, c5, C5, m5, d5, b6, A6, n6, c6, C6, m6, d6, b7, A7, n7, c7, C7, m7, d7, b8, A8, n8, c8, C8, m8, d8, rfl, Fc, Fd⟩ := hb.laid
  clear ha hb
  have eO : edgeCmp x y = if spotCmp x.1.1 x.1.2 y.1.1 y.1.2 = 0 then spotCmp x.2.1 x.2.2 y.2.1 y.2.2 else spotCmp x.1.1 x.1.2 y.1.1 y.1.2 := rfl
  generalize edgeCmp x y = oo at *
  obtain ⟨z, hz⟩ : ∃ z, spotCmp x.1.1 x.1.2 y.1.1 y.1.2 = z := ⟨_, rfl⟩
  rw [hz] at eO
  replace hz := Lib.hid hz
  replace eO := Lib.hid eO
  go_enter Tryz.func68, Tryz.ntmps68
  go_wp2_with fail
  refine gen_calls ?_
  intro W0 hW0
  have G0 : Grew w W0 := by rw [hW0]; exact ((Grew.refl w).alloc _).alloc _
  have P : Box3 W0 (w.heap.size) 0 (.bool b1) (.slice A1 n1 c1) (.slice C1 m1 d1) := by rw [hW0]; exact ⟨by simp [go_sem], by simp [go_sem], by simp [go_sem]⟩
  replace P := Lib.hid P
  have Py : Box3 W0 (w.heap.size) 3 (.bool b2) (.slice A2 n2 c2) (.slice C2 m2 d2) := by rw [hW0]; exact ⟨by simp [go_sem], by simp [go_sem], by simp [go_sem]⟩
  replace Py := Lib.hid Py
  have S : Box3 W0 (w.heap.size) 6 (.bool b3) (.slice A3 n3 c3) (.slice C3 m3 d3) := by rw [hW0]; exact ⟨by simp [go_sem], by simp [go_sem], by simp [go_sem]⟩
  replace S := Lib.hid S
  have Sy : Box3 W0 (w.heap.size) 9 (.bool b4) (.slice A4 n4 c4) (.slice C4 m4 d4) := by rw [hW0]; exact ⟨by simp [go_sem], by simp [go_sem], by simp [go_sem]⟩
  replace Sy := Lib.hid Sy
  have Q : Box3 W0 (w.heap.size + 1) 0 (.bool b5) (.slice A5 n5 c5) (.slice C5 m5 d5) := by rw [hW0]; exact ⟨by simp [go_sem], by simp [go_sem], by simp [go_sem]⟩
  replace Q := Lib.hid Q
  have Qy : Box3 W0 (w.heap.size + 1) 3 (.bool b6) (.slice A6 n6 c6) (.slice C6 m6 d6) := by rw [hW0]; exact ⟨by simp [go_sem], by simp [go_sem], by simp [go_sem]⟩
  replace Qy := Lib.hid Qy
  have T : Box3 W0 (w.heap.size + 1) 6 (.bool b7) (.slice A7 n7 c7) (.slice C7 m7 d7) := by rw [hW0]; exact ⟨by simp [go_sem], by simp [go_sem], by simp [go_sem]⟩
  replace T := Lib.hid T
  have Ty : Box3 W0 (w.heap.size + 1) 9 (.bool b8) (.slice A8 n8 c8) (.slice C8 m8 d8) := by rw [hW0]; exact ⟨by simp [go_sem], by simp [go_sem], by simp [go_sem]⟩
  replace Ty := Lib.hid Ty
  have z0 : w.heap.size < W0.heap.size := by rw [hW0]; simp <;> omega
  replace z0 := Lib.hid z0
  have z1 : w.heap.size + 1 < W0.heap.size := by rw [hW0]; simp <;> omega
  replace z1 := Lib.hid z1
  clear hW0
  replace Fa := Lib.hid (Fa.out.kept G0.keeps)
  replace Fb := Lib.hid (Fb.out.kept G0.keeps)
  replace Fc := Lib.hid (Fc.out.kept G0.keeps)
  replace Fd := Lib.hid (Fd.out.kept G0.keeps)
  replace G0 := Lib.hid G0
  refine (scmp_any _ _ x.1.1 x.1.2 y.1.1 y.1.2 k _ Fa.out.v Fc.out.v hk hs).mono ?_
  rintro e w1 ⟨rfl, g1⟩
  replace P := Lib.hid (P.out.grew g1)
  replace Py := Lib.hid (Py.out.grew g1)
  replace S := Lib.hid (S.out.grew g1)
  replace Sy := Lib.hid (Sy.out.grew g1)
  replace Q := Lib.hid (Q.out.grew g1)
  replace Qy := Lib.hid (Qy.out.grew g1)
  replace T := Lib.hid (T.out.grew g1)
  replace Ty := Lib.hid (Ty.out.grew g1)
  replace z0 := Lib.hid (lt_grew z0.out g1)
  replace z1 := Lib.hid (lt_grew z1.out g1)
  replace Fa := Lib.hid (Fa.out.kept g1.keeps)
  replace Fb := Lib.hid (Fb.out.kept g1.keeps)
  replace Fc := Lib.hid (Fc.out.kept g1.keeps)
  replace Fd := Lib.hid (Fd.out.kept g1.keeps)
  replace G0 := Lib.hid (G0.out.trans g1)
  clear g1
  rw [hz.out]

  by_cases h0 : z = 0
  · as_aux_lemma =>
    subst h0
    have eO' := Lib.hid (eO.out.trans (if_pos rfl))
    obtain ⟨S0, S1, S2⟩ := S.out
    obtain ⟨Sy0, Sy1, Sy2⟩ := Sy.out
    obtain ⟨T0, T1, T2⟩ := T.out
    obtain ⟨Ty0, Ty1, Ty2⟩ := Ty.out
    go_wp2_with fail
    clear S0 S1 S2 Sy0 Sy1 Sy2 T0 T1 T2 Ty0 Ty1 Ty2
    refine (scmp_any _ _ x.2.1 x.2.2 y.2.1 y.2.2 k _ Fb.out.v Fd.out.v hk hs).mono ?_
    rintro e w2 ⟨rfl, g2⟩
    replace P := Lib.hid (P.out.grew g2)
    replace Py := Lib.hid (Py.out.grew g2)
    replace S := Lib.hid (S.out.grew g2)
    replace Sy := Lib.hid (Sy.out.grew g2)
    replace Q := Lib.hid (Q.out.grew g2)
    replace Qy := Lib.hid (Qy.out.grew g2)
    replace T := Lib.hid (T.out.grew g2)
    replace Ty := Lib.hid (Ty.out.grew g2)
    replace z0 := Lib.hid (lt_grew z0.out g2)
    replace z1 := Lib.hid (lt_grew z1.out g2)
    replace Fa := Lib.hid (Fa.out.kept g2.keeps)
    replace Fb := Lib.hid (Fb.out.kept g2.keeps)
    replace Fc := Lib.hid (Fc.out.kept g2.keeps)
    replace Fd := Lib.hid (Fd.out.kept g2.keeps)
    replace G0 := Lib.hid (G0.out.trans g2)
    clear g2
    go_wp2_with fail
    go_ret
    exact ⟨by rw [eO'.out]; rfl, G0.out⟩
  · as_aux_lemma =>

    have eO' := Lib.hid (eO.out.trans (if_neg h0))
    have hxb : (z == 0) = false := by simpa using h0
    go_wp2_with fail
    go_ret
    exact ⟨by rw [eO'.out]; rfl, G0.out⟩

set_option maxRecDepth 100000 in
set_option maxHeartbeats 8000000 in
theorem recmp_any (us vs : Array Value) (x y : EdgeQ) (k : Nat) (w : World) (ha : EdgeR k w us x) (hb : EdgeR k w vs y) (hk : 1 ≤ k) (hs : k < 67108864) :
    Calls Tryz.prog 138 #[.agg us, .agg vs] w fun e w' => e = .returned (.int .i64 (edgeCmp x y)) ∧ Grew w w' := by
  obtain ⟨b1, A1, n1, c1, C1, m1, d1, b2, A2, n2, c2, C2, m2, d2, b3, A3, n3, c3, C3, m3, d3, b4, A4, n4, c4, C4, m4, d4, rfl, Fa, Fb⟩ := ha.laid
  obtain ⟨b5, A5, n5, c5, C5, m5, d5, b6, A6, n6, c6, C6, m6, d6, b7, A7, n7, c7, C7, m7, d7, b8, A8, n8, c8, C8, m8, d8, rfl, Fc, Fd⟩ := hb.laid
  clear ha hb
  have eO : edgeCmp x y = if spotCmp x.1.1 x.1.2 y.1.1 y.1.2 = 0 then spotCmp x.2.1 x.2.2 y.2.1 y.2.2 else spotCmp x.1.1 x.1.2 y.1.1 y.1.2 := rfl
  generalize edgeCmp x y = oo at *
  obtain ⟨z, hz⟩ : ∃ z, spotCmp x.1.1 x.1.2 y.1.1 y.1.2 = z := ⟨_, rfl⟩
  rw [hz] at eO
  replace hz := Lib.hid hz
  replace eO := Lib.hid eO
  go_enter Tryz.func138, Tryz.ntmps138
  go_wp2_with fail
  refine gen_calls ?_
  intro W0 hW0
  have G0 : Grew w W0 := by rw [hW0]; exact ((Grew.refl w).alloc _).alloc _
  have P : Box3 W0 (w.heap.size) 0 (.bool b1) (.slice A1 n1 c1) (.slice C1 m1 d1) := by rw [hW0]; exact ⟨by simp [go_sem], by simp [go_sem], by simp [go_sem]⟩
  replace P := Lib.hid P
  have Py : Box3 W0 (w.heap.size) 3 (.bool b2) (.slice A2 n2 c2) (.slice C2 m2 d2) := by rw [hW0]; exact ⟨by simp [go_sem], by simp [go_sem], by simp [go_sem]⟩
  replace Py := Lib.hid Py
  have S : Box3 W0 (w.heap.size) 6 (.bool b3) (.slice A3 n3 c3) (.slice C3 m3 d3) := by rw [hW0]; exact ⟨by simp [go_sem], by simp [go_sem], by simp [go_sem]⟩
  replace S := Lib.hid S
  have Sy : Box3 W0 (w.heap.size) 9 (.bool b4) (.slice A4 n4 c4) (.slice C4 m4 d4) := by rw [hW0]; exact ⟨by simp [go_sem], by simp [go_sem], by simp [go_sem]⟩
  replace Sy := Lib.hid Sy
  have Q : Box3 W0 (w.heap.size + 1) 0 (.bool b5) (.slice A5 n5 c5) (.slice C5 m5 d5) := by rw [hW0]; exact ⟨by simp [go_sem], by simp [go_sem], by simp [go_sem]⟩
  replace Q := Lib.hid Q
  have Qy : Box3 W0 (w.heap.size + 1) 3 (.bool b6) (.slice A6 n6 c6) (.slice C6 m6 d6) := by rw [hW0]; exact ⟨by simp [go_sem], by simp [go_sem], by simp [go_sem]⟩
  replace Qy := Lib.hid Qy
  have T : Box3 W0 (w.heap.size + 1) 6 (.bool b7) (.slice A7 n7 c7) (.slice C7 m7 d7) := by rw [hW0]; exact ⟨by simp [go_sem], by simp [go_sem], by simp [go_sem]⟩
  replace T := Lib.hid T
  have Ty : Box3 W0 (w.heap.size + 1) 9 (.bool b8) (.slice A8 n8 c8) (.slice C8 m8 d8) := by rw [hW0]; exact ⟨by simp [go_sem], by simp [go_sem], by simp [go_sem]⟩
  replace Ty := Lib.hid Ty
  have z0 : w.heap.size < W0.heap.size := by rw [hW0]; simp <;> omega
  replace z0 := Lib.hid z0
  have z1 : w.heap.size + 1 < W0.heap.size := by rw [hW0]; simp <;> omega
  replace z1 := Lib.hid z1
  clear hW0
  replace Fa := Lib.hid (Fa.out.kept G0.keeps)
  replace Fb := Lib.hid (Fb.out.kept G0.keeps)
  replace Fc := Lib.hid (Fc.out.kept G0.keeps)
  replace Fd := Lib.hid (Fd.out.kept G0.keeps)
  replace G0 := Lib.hid G0
  refine (rscmp_any _ _ x.1.1 x.1.2 y.1.1 y.1.2 k _ Fa.out Fc.out hk hs).mono ?_
  rintro e w1 ⟨rfl, g1⟩
  replace P := Lib.hid (P.out.grew g1)
  replace Py := Lib.hid (Py.out.grew g1)
  replace S := Lib.hid (S.out.grew g1)
  replace Sy := Lib.hid (Sy.out.grew g1)
  replace Q := Lib.hid (Q.out.grew g1)
  replace Qy := Lib.hid (Qy.out.grew g1)
  replace T := Lib.hid (T.out.grew g1)
  replace Ty := Lib.hid (Ty.out.grew g1)
  replace z0 := Lib.hid (lt_grew z0.out g1)
  replace z1 := Lib.hid (lt_grew z1.out g1)
  replace Fa := Lib.hid (Fa.out.kept g1.keeps)
  replace Fb := Lib.hid (Fb.out.kept g1.keeps)
  replace Fc := Lib.hid (Fc.out.kept g1.keeps)
  replace Fd := Lib.hid (Fd.out.kept g1.keeps)
  replace G0 := Lib.hid (G0.out.trans g1)
  clear g1
  rw [hz.out]

  by_cases h0 : z = 0
  · as_aux_lemma =>
    subst h0
    have eO' := Lib.hid (eO.out.trans (if_pos rfl))
    obtain ⟨S0, S1, S2⟩ := S.out
    obtain ⟨Sy0, Sy1, Sy2⟩ := Sy.out
    obtain ⟨T0, T1, T2⟩ := T.out
    obtain ⟨Ty0, Ty1, Ty2⟩ := Ty.out
    go_wp2_with fail
    clear S0 S1 S2 Sy0 Sy1 Sy2 T0 T1 T2 Ty0 Ty1 Ty2
    refine (rscmp_any _ _ x.2.1 x.2.2 y.2.1 y.2.2 k _ Fb.out Fd.out hk hs).mono ?_
    rintro e w2 ⟨rfl, g2⟩
    replace P := Lib.hid (P.out.grew g2)
    replace Py := Lib.hid (Py.out.grew g2)
    replace S := Lib.hid (S.out.grew g2)
    replace Sy := Lib.hid (Sy.out.grew g2)
    replace Q := Lib.hid (Q.out.grew g2)
    replace Qy := Lib.hid (Qy.out.grew g2)
    replace T := Lib.hid (T.out.grew g2)
    replace Ty := Lib.hid (Ty.out.grew g2)
    replace z0 := Lib.hid (lt_grew z0.out g2)
    replace z1 := Lib.hid (lt_grew z1.out g2)
    replace Fa := Lib.hid (Fa.out.kept g2.keeps)
    replace Fb := Lib.hid (Fb.out.kept g2.keeps)
    replace Fc := Lib.hid (Fc.out.kept g2.keeps)
    replace Fd := Lib.hid (Fd.out.kept g2.keeps)
    replace G0 := Lib.hid (G0.out.trans g2)
    clear g2
    go_wp2_with fail
    go_ret
    exact ⟨by rw [eO'.out]; rfl, G0.out⟩
  · as_aux_lemma =>

    have eO' := Lib.hid (eO.out.trans (if_neg h0))
    have hxb : (z == 0) = false := by simpa using h0
    obtain ⟨P0, P1, P2⟩ := P.out
    obtain ⟨Py0, Py1, Py2⟩ := Py.out
    obtain ⟨Q0, Q1, Q2⟩ := Q.out
    obtain ⟨Qy0, Qy1, Qy2⟩ := Qy.out
    go_wp2_with fail
    clear P0 P1 P2 Py0 Py1 Py2 Q0 Q1 Q2 Qy0 Qy1 Qy2
    refine (rscmp_any _ _ x.1.1 x.1.2 y.1.1 y.1.2 k _ Fa.out Fc.out hk hs).mono ?_
    rintro e w2 ⟨rfl, g2⟩
    replace P := Lib.hid (P.out.grew g2)
    replace Py := Lib.hid (Py.out.grew g2)
    replace S := Lib.hid (S.out.grew g2)
    replace Sy := Lib.hid (Sy.out.grew g2)
    replace Q := Lib.hid (Q.out.grew g2)
    replace Qy := Lib.hid (Qy.out.grew g2)
    replace T := Lib.hid (T.out.grew g2)
    replace Ty := Lib.hid (Ty.out.grew g2)
    replace z0 := Lib.hid (lt_grew z0.out g2)
    replace z1 := Lib.hid (lt_grew z1.out g2)
    replace Fa := Lib.hid (Fa.out.kept g2.keeps)
    replace Fb := Lib.hid (Fb.out.kept g2.keeps)
    replace Fc := Lib.hid (Fc.out.kept g2.keeps)
    replace Fd := Lib.hid (Fd.out.kept g2.keeps)
    replace G0 := Lib.hid (G0.out.trans g2)
    clear g2
    rw [hz.out]
    go_wp2_with fail
    go_ret
    exact ⟨by rw [eO'.out]; rfl, G0.out⟩

end Go.Proofs.YtngbcbncllfblaaGreat
