/- nat.Text of a number of one digit. Condition: the number is from 1 to 9. whole.Text, frac.Text, spot.Text where both numbers have one digit. frac.Text of whole numbers, spot.Text of two such; what lives says. Plain: the sides of three points. Conditions: none. -/
import Derived.Test.YtmommicmblfibaaGreatJSpot3
import Derived.Laws.BytesString
set_option maxRecDepth 100000
namespace Go.Proofs.YtmommicmblfibaaGreat
open Go.RowKit
def digS (d : Nat) : ByteArray := ⟨#[UInt8.ofNat (48 + d)]⟩
theorem info_u8 : (Tryz.prog.info? 5).map (fun i => (i.zero, i.size, i.bytes)) = some (some (.int .u8 0), 1, 1) := by kernel_rfl
theorem make_u8_1 (u : World) : (Instr.makeSlice 138 (.int .i64 1) (.int .i64 1)).run Tryz.prog u = .ok (.slice (some ⟨u.heap.size, 0, none⟩) 1 1) (u.alloc (.cells #[.int .u8 0] 5)) := by
 obtain ⟨i0, hi, hz0, hz1, hz2⟩ := info_parts info_u8
 have h := run_make (P := Tryz.prog) u 138 5 i0 (.int .u8 0) Tryz.underlying138 hi hz0 .i64 .i64 1 1 (by omega) (by omega) (by rw [hz2]; omega) (by omega)
 have e : madeCells #[.int .u8 0] 1 = #[.int .u8 0] := by kernel_rfl
 simpa [hz1, Value.cells, e] using h
theorem conv1 (w : World) (b d c : Nat) (h : w.cell? ⟨b, 0, none⟩ = some (.int .u8 ((48 + d : Nat) : Int))) : (convert 138 9 (.slice (some ⟨b, 0, none⟩) 1 c)).run Tryz.prog w = .ok (.string (digS d)) w := by
 rw [run_convert_bytes_string w _ _ 5 _ _ _ Tryz.underlying138 Tryz.underlying5 Tryz.underlying9]
 rw [run_bytesToString w _ 1 c [((48 + d : Nat) : Int)] (by simp [loadCells, h, go_sem])]
 rfl
theorem len_lt_base {d : Nat} (h0 : 0 < d) (h : d < 4294967296) : len 4294967296 d = 1 := by
 have h1 : len 4294967296 d ≤ 1 := len_le (by omega) (by simpa using h)
 have h2 : len 4294967296 d ≠ 0 := fun e => by have := (len_eq_zero (by omega)).1 e; omega
 omega
set_option maxHeartbeats 8000000 in
theorem text_digit (va : Value) (d n : Nat) (w : World) (ha : Num 4294967296 .u32 w va d n) (h0 : 0 < d) (h9 : d < 10) :
  Calls Tryz.prog 91 #[va] w fun e w' => e = .returned (.string (digS d)) ∧ Grew w w' := by
 have hl1 := len_lt_base h0 (by omega)
 have hq : d / 1000000000 = 0 := by omega
 have hr : d % 1000000000 = d := by omega
 have hd10 : (d : Int) % 10 = d := by omega
 have hd0 : (d : Int) / 10 = 0 := by omega
 replace hl1 := hZ hl1
 replace hq := hZ hq
 replace hr := hZ hr
 replace hd10 := hZ hd10
 replace hd0 := hZ hd0
 go_enter Tryz.func91, Tryz.ntmps91
 go_wp2_with fail
 refine (trim_any _ _ _ _ ha (by rw [hl1.out]; omega)).mono ?_
 rintro e w1 ⟨v1, rfl, h1, hG1⟩
 obtain ⟨A1, c1, rfl, -⟩ := id h1
 rw [hl1.out] at h1 ⊢
 have H1 := hZ h1
 replace hG1 := hZ hG1
 clear h1 ha
 go_wp2_with fail
 go_loopg [0, 3] 1 (fun gk s0 s3 wr => (gk = 1 ∧ s0 = .slice A1 1 c1 ∧ s3 = .slice none 0 0 ∧ Grew w1 wr) ∨ (gk = 0 ∧ ∃ A2 c2, s0 = .slice A2 0 c2 ∧ wr.ownsRow w1.heap.size 5 1 s3 1 [.int .u8 ((48 + d : Nat) : Int)] ∧ Grew w1 wr))
 case atStart => exact .inl ⟨rfl, rfl, rfl, Grew.refl _⟩
 case round =>
  rcases hrel with ⟨rfl, rfl, rfl, hG2⟩ | ⟨rfl, A2, c2, rfl, hown, hG2⟩
  ·replace hG2 := hZ hG2
   go_wp2_with fail
   refine (small_any _ d 1 1000000000 _ (H1.out.grew hG2.out) (by omega) (by omega) (by rw [hl1.out]; omega)).mono ?_
   rintro e w2 ⟨v2, rfl, h2, hG3⟩
   rw [hq.out, len_zero] at h2
   rw [hr.out]
   obtain ⟨A2, c2, rfl, -⟩ := id h2
   replace hG2 := hZ (hG2.out.trans hG3)
   clear h2 hG3
   go_wp2_with fail
   have hp0 : (0 : Int) < (d : Int) := by omega
   have hp9 : (d : Int) < 10 := by omega
   go_loopg [3, 4, 5] 1 (fun gj s3 s4 s5 wr => (gj = 1 ∧ s3 = .slice none 0 0 ∧ s4 = .int .u32 (d : Int) ∧ s5 = .int .i64 0 ∧ Grew w1 wr) ∨
    (gj = 0 ∧ wr.ownsRow w1.heap.size 5 1 s3 1 [.int .u8 ((48 + d : Nat) : Int)] ∧ s4 = .int .u32 0 ∧ s5 = .int .i64 1 ∧ Grew w1 wr))
   case atStart => exact .inl ⟨rfl, rfl, rfl, rfl, hG2.out⟩
   case round =>
    rcases hrel with ⟨rfl, rfl, rfl, rfl, hG4⟩ | ⟨rfl, hown, rfl, rfl, hG4⟩
    ·have hsz := hG4.size
     go_wp2_with (first | fail | (at_builtin; refine wpList_app1 _ rfl (.tmp 32) (.tmp 37) 138 rfl w1.heap.size 5 (.int .u8 0) 1 1 Tryz.underlying138 info_u8 rfl (by omega) _ 0 [] rfl (World.ownsRow_nil _ _ _ _) _ rfl (by simp [Value.oneCell']) rfl (by omega) (by omega) (by exact hsz) ?_; intro v1 w3 hown1 hG5))
     go_roundg 0
     case rel => exact .inr ⟨rfl, by rw [hd10.out] at hown1; simpa using hown1, by rw [hd0.out], rfl, hG5 _ (Nat.le_refl _) hG4⟩
     case measure => omega
    ·go_wp2_with fail
     go_roundg 0
     case rel => exact .inr ⟨rfl, A2, c2, rfl, hown, hG4⟩
     case measure => omega
  ·obtain ⟨hlen, h | ⟨g, cap, cur, rfl, hg, hheap, hcap, hmax, hcs, htake⟩⟩ := hown
   ·exact absurd h.2 (by omega)
   have hcur : cur[0]? = some (.int .u8 ((48 + d : Nat) : Int)) := by
    have := congrArg (fun l : List Value => l[0]?) htake
    simpa using this
   have hcell : wr.cell? ⟨g, 0, none⟩ = some (.int .u8 ((48 + d : Nat) : Int)) := by rw [cell_of_row wr g 0 cur _ (0, 0) hheap]; exact hcur
   have hgl : g < wr.heap.size := (Array.getElem?_eq_some_iff.1 hheap).1
   have hmk := make_u8_1
   replace hcell := hZ hcell
   replace hG2 := hZ (hG1.out.trans hG2)
   clear hlen hg hheap hcap hmax hcs htake hcur H1 hl1 hq hr hd10 hd0 hG1
   have hx0 : (0 : Int) ≤ ((48 + d : Nat) : Int) := by omega
   have hx9 : ((48 + d : Nat) : Int) < 256 := by omega
   have hS : (digS d) = digS d := rfl
   have hcv := fun (u : World) (b c : Nat) (h : u.cell? ⟨b, 0, none⟩ = some (.int .u8 ((48 + d : Nat) : Int))) => conv1 u b d c h
   replace hcv := hZ hcv
   clear hS
   generalize ((48 + d : Nat) : Int) = x at *
   generalize hds : digS d = ds at *
   replace hds := hZ hds
   go_wp2_with fail
   go_loopg [49] 1 (fun gi s49 wt => (gi = 1 ∧ s49 = .int .i64 0 ∧ wt.cell? ⟨wr.heap.size, 0, none⟩ = some (.int .u8 0) ∧ wt.frozen? ⟨wr.heap.size, 0, none⟩ = false ∧ Grew wr wt) ∨
    (gi = 0 ∧ s49 = .int .i64 1 ∧ wt.cell? ⟨wr.heap.size, 0, none⟩ = some (.int .u8 x) ∧ Grew wr wt))
   case atStart => exact .inl ⟨rfl, rfl, by simp [go_sem], by simp [go_sem], (Grew.refl _).alloc _⟩
   case round =>
    rename_i wt
    rcases hrel with ⟨rfl, rfl, hc0, hf0, hG5⟩ | ⟨rfl, rfl, hc0, hG5⟩
    ·have hc1 := hG5.cell hcell.out
     replace hG5 := hZ hG5
     go_wp2_with fail
     go_roundg 0
     case rel => exact .inr ⟨rfl, rfl, cell_set hc0 _, hG5.out.setCell (Nat.le_refl _) _⟩
     case measure => omega
    ·have hcv2 := hcv.out _ _ 1 hc0
     replace hG5 := hZ hG5
     go_wp2_with fail
     go_ret
     exact ⟨by rw [hds.out]; rfl, hG2.out.trans hG5.out⟩
set_option maxHeartbeats 2000000 in
theorem wtext_pos (Va : Value) (d : Nat) (w : World) (ha : Whl w Va (d : Int)) (h0 : 0 < d) (h9 : d < 10) :
  Calls Tryz.prog 90 #[Va] w fun e w' => e = .returned (.string (digS d)) ∧ Grew w w' := by
 have hl1 := len_lt_base h0 (by omega)
 obtain ⟨b1, A1, n1, c1, rfl, Ha, EE⟩ := ha.laid
 obtain ⟨-, -, Na⟩ := EE.out
 replace Na := hZ (show Num 4294967296 .u32 w (.slice A1 n1 c1) d n1 by simpa using Na)
 have Wa := hZ (Ha.out.v (k := 1) (by simp [hl1]))
 have hsg : sg (d : Int) = 1 := by unfold sg; rw [if_neg (by omega), if_neg (by omega)]
 replace hsg := hZ hsg
 clear ha EE Ha hl1
 go_enter Tryz.func90, Tryz.ntmps90
 go_wp2_with fail
 refine gen_calls ?_
 intro W0 hW0
 have G0 : Grew w W0 := by rw [hW0]; exact (Grew.refl w).alloc _
 have P : Box2 W0 (w.heap.size) 0 (.bool b1) (.slice A1 n1 c1) := by rw [hW0]; exact ⟨by simp [go_sem], by simp [go_sem]⟩
 replace P := hZ P
 have z0 : w.heap.size < W0.heap.size := by rw [hW0]; simp <;> omega
 replace z0 := hZ z0
 clear hW0
 replace Wa := hZ (Wa.out.kept G0.keeps)
 replace Na := hZ (Na.out.kept G0.keeps)
 replace G0 := hZ G0
 refine (sign_v _ _ _ _ Wa.out (by omega)).mono ?_
 rintro e w1 ⟨rfl, g1⟩
 replace P := hZ (P.out.grew g1)
 replace z0 := hZ (lt_grew z0.out g1)
 replace Wa := hZ (Wa.out.kept g1.keeps)
 replace Na := hZ (Na.out.kept g1.keeps)
 replace G0 := hZ (G0.out.trans g1)
 clear g1
 rw [hsg.out]
 obtain ⟨P0, P1⟩ := P.out
 go_wp2_with fail
 clear P0 P1
 refine (text_digit _ d _ _ Na.out h0 h9).mono ?_
 rintro e w2 ⟨rfl, g2⟩
 replace P := hZ (P.out.grew g2)
 replace z0 := hZ (lt_grew z0.out g2)
 replace Wa := hZ (Wa.out.kept g2.keeps)
 replace Na := hZ (Na.out.kept g2.keeps)
 replace G0 := hZ (G0.out.trans g2)
 clear g2
 go_wp2_with fail
 go_ret
 exact ⟨by rfl, G0.out⟩
def WText (z : Int) (s : ByteArray) : Prop := ∀ V W, Whl W V z → Calls Tryz.prog 90 #[V] W fun e w' => e = .returned (.string s) ∧ Grew W w'
set_option maxHeartbeats 4000000 in
theorem ftext_int (z : Int) (s : ByteArray) (hT : Hid (WText z s)) (Va : Value) (k : Nat) (w : World) (ha : FracV w Va (z : Rat) k) (hk : 1 ≤ k) (hs : k < 549755813888) :
  Calls Tryz.prog 55 #[Va] w fun e w' => e = .returned (.string s) ∧ Grew w w' := by
 obtain ⟨b1, A1, n1, c1, C1, m1, d1, rfl, Fa⟩ := ha.laid
 clear ha
 go_enter Tryz.func55, Tryz.ntmps55
 go_wp2_with fail
 refine gen_calls ?_
 intro W0 hW0
 have G0 : Grew w W0 := by rw [hW0]; exact (Grew.refl w).alloc _
 have P : Box3 W0 (w.heap.size) 0 (.bool b1) (.slice A1 n1 c1) (.slice C1 m1 d1) := by rw [hW0]; exact ⟨by simp [go_sem], by simp [go_sem], by simp [go_sem]⟩
 replace P := hZ P
 have z0 : w.heap.size < W0.heap.size := by rw [hW0]; simp <;> omega
 replace z0 := hZ z0
 clear hW0
 replace Fa := hZ (Fa.out.kept G0.keeps)
 replace G0 := hZ G0
 refine (freduce_any _ (z : Rat) k _ Fa.out hk hs).mono ?_
 rintro e w1 ⟨V1, rfl, hV1, g1⟩
 obtain ⟨b2, A2, n2, c2, C2, m2, d2, rfl, X1⟩ := hV1.laid
 clear hV1
 replace P := hZ (P.out.grew g1)
 replace z0 := hZ (lt_grew z0.out g1)
 replace Fa := hZ (Fa.out.kept g1.keeps)
 replace G0 := hZ (G0.out.trans g1)
 clear g1
 have oz0 := z0.out
 go_wp2_with fail
 clear oz0
 refine gen_calls ?_
 intro W1 hW1
 have gl : Grew w1 W1 := by rw [hW1]; exact (Grew.refl _).alloc _
 replace P := hZ (P.out.grew gl)
 replace z0 := hZ (lt_grew z0.out gl)
 replace Fa := hZ (Fa.out.kept gl.keeps)
 replace X1 := hZ (X1.out.kept gl.keeps)
 have L : Box3 W1 (w1.heap.size) 0 (.bool b2) (.slice A2 n2 c2) (.slice C2 m2 d2) := by rw [hW1]; exact ⟨by simp [go_sem], by simp [go_sem], by simp [go_sem]⟩
 replace L := hZ L
 have z1 : w1.heap.size < W1.heap.size := by rw [hW1]; simp <;> omega
 replace z1 := hZ z1
 clear hW1
 replace G0 := hZ (G0.out.trans gl)
 clear gl
 obtain ⟨Wz, Nd, Md⟩ := X1.out.parts
 -- Wz Nd
 refine (isUnit_g _ _ _ _ Nd.out Md.out).mono ?_
 rintro e w2 ⟨rfl, g2⟩
 replace P := hZ (P.out.grew g2)
 replace L := hZ (L.out.grew g2)
 replace z0 := hZ (lt_grew z0.out g2)
 replace z1 := hZ (lt_grew z1.out g2)
 replace Fa := hZ (Fa.out.kept g2.keeps)
 replace X1 := hZ (X1.out.kept g2.keeps)
 replace Wz := hZ (Wz.out.kept g2.keeps)
 replace Nd := hZ (Nd.out.kept g2.keeps)
 replace G0 := hZ (G0.out.trans g2)
 clear g2
 have e1 : decide ((z : Rat).den = 1) = true := rfl
 rw [e1]
 clear e1
 obtain ⟨L0, L1, L2⟩ := L.out
 go_wp2_with fail
 clear L0 L1 L2
 refine (hT.out _ _ Wz.out).mono ?_
 rintro e w3 ⟨rfl, g3⟩
 replace P := hZ (P.out.grew g3)
 replace L := hZ (L.out.grew g3)
 replace z0 := hZ (lt_grew z0.out g3)
 replace z1 := hZ (lt_grew z1.out g3)
 replace Fa := hZ (Fa.out.kept g3.keeps)
 replace X1 := hZ (X1.out.kept g3.keeps)
 replace Wz := hZ (Wz.out.kept g3.keeps)
 replace Nd := hZ (Nd.out.kept g3.keeps)
 replace G0 := hZ (G0.out.trans g3)
 clear g3
 go_wp2_with fail
 go_ret
 exact ⟨by rfl, G0.out⟩
set_option maxHeartbeats 4000000 in
theorem stext_int (x y : Int) (s t : ByteArray) (hT : Hid (WText x s)) (hU : Hid (WText y t)) (hss : s.size = 1) (htt : t.size = 1 ∨ t.size = 2) (Va : Value) (k : Nat) (w : World) (ha : SpotV w Va (x : Rat) (y : Rat) k) (hk : 1 ≤ k) (hs : k < 549755813888) :
  Calls Tryz.prog 30 #[Va] w fun e w' => e = .returned (.string (s ++ (⟨#[32]⟩ : ByteArray) ++ t)) ∧ Grew w w' := by
 obtain ⟨b1, A1, n1, c1, C1, m1, d1, b2, A2, n2, c2, C2, m2, d2, rfl, Fa, Fb, -⟩ := ha.laid
 clear ha
 rcases htt with htt | htt
 all_goals
  go_enter Tryz.func30, Tryz.ntmps30
  go_wp2_with fail
  refine gen_wp ?_
  intro W0 hW0
  have G0 : Grew w W0 := by rw [hW0]; exact (Grew.refl w).alloc _
  have P : Box3 W0 (w.heap.size) 0 (.bool b1) (.slice A1 n1 c1) (.slice C1 m1 d1) := by rw [hW0]; exact ⟨by simp [go_sem], by simp [go_sem], by simp [go_sem]⟩
  replace P := hZ P
  have Py : Box3 W0 (w.heap.size) 3 (.bool b2) (.slice A2 n2 c2) (.slice C2 m2 d2) := by rw [hW0]; exact ⟨by simp [go_sem], by simp [go_sem], by simp [go_sem]⟩
  replace Py := hZ Py
  have z0 : w.heap.size < W0.heap.size := by rw [hW0]; simp <;> omega
  replace z0 := hZ z0
  clear hW0
  replace Fa := hZ (Fa.out.kept G0.keeps)
  replace Fb := hZ (Fb.out.kept G0.keeps)
  replace G0 := hZ G0
  have gd : Grew W0 W0.drew := (Grew.refl W0).drew
  replace P := hZ (P.out.grew gd)
  replace Py := hZ (Py.out.grew gd)
  replace z0 := hZ (lt_grew z0.out gd)
  replace Fa := hZ (Fa.out.kept gd.keeps)
  replace Fb := hZ (Fb.out.kept gd.keeps)
  replace gd := hZ gd
  have ZP := P
  have ZPy := Py
  go_region_held3 (fun w' => w'.cell? ⟨w.heap.size, 0, none⟩ = some (.bool b1) ∧ w'.cell? ⟨w.heap.size, 1, none⟩ = some (.slice A1 n1 c1) ∧ w'.cell? ⟨w.heap.size, 2, none⟩ = some (.slice C1 m1 d1) ∧ w'.cell? ⟨w.heap.size, 3, none⟩ = some (.bool b2) ∧ w'.cell? ⟨w.heap.size, 4, none⟩ = some (.slice A2 n2 c2) ∧ w'.cell? ⟨w.heap.size, 5, none⟩ = some (.slice C2 m2 d2))
   (first | (with_reducible exact ⟨ZP.out.p0, ZP.out.p1, ZP.out.p2, ZPy.out.p0, ZPy.out.p1, ZPy.out.p2⟩) | (with_reducible exact ⟨g1.cell ZP.out.p0, g1.cell ZP.out.p1, g1.cell ZP.out.p2, g1.cell ZPy.out.p0, g1.cell ZPy.out.p1, g1.cell ZPy.out.p2⟩) | (with_reducible exact ⟨(g1.trans g2).cell ZP.out.p0, (g1.trans g2).cell ZP.out.p1, (g1.trans g2).cell ZP.out.p2, (g1.trans g2).cell ZPy.out.p0, (g1.trans g2).cell ZPy.out.p1, (g1.trans g2).cell ZPy.out.p2⟩))
   (first | (go_at_call_of 55 (Value.agg #[.bool b1, .slice A1 n1 c1, .slice C1 m1 d1]); refine (ftext_int x s hT _ k _ Fa.out hk hs).mono ?_; rintro e w1 ⟨rfl, g1⟩; replace P := hZ (P.out.grew g1); replace Py := hZ (Py.out.grew g1); replace z0 := hZ (lt_grew z0.out g1); replace Fa := hZ (Fa.out.kept g1.keeps); replace Fb := hZ (Fb.out.kept g1.keeps)) | (go_at_call 55; refine (ftext_int y t hU _ k _ Fb.out hk hs).mono ?_; rintro e w2 ⟨rfl, g2⟩; replace P := hZ (P.out.grew g2); replace Py := hZ (Py.out.grew g2); replace z0 := hZ (lt_grew z0.out g2); replace Fa := hZ (Fa.out.kept g2.keeps); replace Fb := hZ (Fb.out.kept g2.keeps)))
  replace G0 := hZ (((G0.out.trans gd.out).trans g1).trans g2)
  clear gd g1 g2 ZP ZPy
  go_wp2_with fail
  go_ret
  exact ⟨by rfl, G0.out⟩
theorem wt2 : WText 2 (digS 2) := fun V W h => wtext_pos V 2 W h (by omega) (by omega)
theorem QB_int (x : Int) (k : Nat) (h : len 4294967296 x.natAbs ≤ k) (hk : 1 ≤ k) : QB (x : Rat) k := ⟨h, by rw [show ((x : Rat).den) = 1 from rfl, len1]; exact hk⟩
theorem turnQ_eq (ax ay bx b_y cx cy : Rat) : turnQ ax ay bx b_y cx cy = sgQ ((bx - ax) * (cy - ay) - (b_y - ay) * (cx - ax)) := cmpQ_sub _ _
theorem sgQ_zero : sgQ 0 = 0 := by unfold sgQ; simp
theorem turnQ_a (ax ay bx b_y : Rat) : turnQ ax ay bx b_y ax ay = 0 := by
 rw [turnQ_eq, ← sgQ_zero]; congr 1; grind
theorem turnQ_b (ax ay bx b_y : Rat) : turnQ ax ay bx b_y bx b_y = 0 := by
 rw [turnQ_eq, ← sgQ_zero]; congr 1; grind
theorem midQ_iff {a b c : Rat} (h1 : a ≤ c) (h2 : c ≤ b) : midQ a b c = true := by
 unfold midQ
 rw [decide_eq_false (Rat.not_lt.2 h1), decide_eq_false (Rat.not_lt.2 h2)]; rfl
theorem withinQ_a (a b : Rat) : withinQ a b a = true := by
 unfold withinQ
 split
 ·exact midQ_iff (by grind) (by grind)
 ·exact midQ_iff (by grind) (by grind)
theorem withinQ_b (a b : Rat) : withinQ a b b = true := by
 unfold withinQ
 split
 ·exact midQ_iff (by grind) (by grind)
 ·exact midQ_iff (by grind) (by grind)
theorem onQ_a (ax ay bx b_y : Rat) : onQ ax ay bx b_y ax ay = true := by
 unfold onQ; rw [withinQ_a, withinQ_a, turnQ_a]; rfl
theorem onQ_b (ax ay bx b_y : Rat) : onQ ax ay bx b_y bx b_y = true := by
 unfold onQ; rw [withinQ_b, withinQ_b, turnQ_b]; rfl
end Go.Proofs.YtmommicmblfibaaGreat
