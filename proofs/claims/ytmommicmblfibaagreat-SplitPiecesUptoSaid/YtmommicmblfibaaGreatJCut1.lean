/- spot.clean, the comparison of spot.Row. Condition: what comes in reads; fewer than 2^26 words. slices.SortFunc at spots, by the comparison of spot.Row, on a row that the caller owns. Condition: fewer than 2^26 words, at most 2^40 spots. spot.Row. Condition: what comes in reads; fewer than 2^26 words, at most 2^40 spots. cross.Cuts. Condition: ints of 64 bits; at most 2^20 ways. -/
import Derived.Test.YtmommicmblfibaaGreatJRow3
import Derived.Test.YtmommicmblfibaaGreatJSort1
import Derived.Test.YtmommicmblfibaaGreatSortS
import Derived.Shelf.SlSortCmp.NoneTotal
import Derived.Test.YtmommicmblfibaaGreatJElE
import Derived.Deep.LoopGhost
import Derived.Test.YtmommicmblfibaaGreatJOwnK
import Derived.Test.YtmommicmblfibaaGreatJMeetP3
import Derived.Deep.RegionHeld3
set_option maxRecDepth 100000
namespace Go.Proofs.YtmommicmblfibaaGreat
open Go.RowKit
set_option maxHeartbeats 4000000 in
theorem sclean_any (Va : Value) (x y : Rat) (k : Nat) (w : World) (ha : SpotV w Va x y k) (hk : 1 ≤ k) (hs : k < 67108864) :
  Calls Tryz.prog 75 #[Va] w fun e w' => ∃ V, e = .returned V ∧ SpotC w' V x y ∧ Grew w w' := by
 obtain ⟨b1, A1, n1, c1, C1, m1, d1, b2, A2, n2, c2, C2, m2, d2, rfl, Fa, Fb, -⟩ := ha.laid
 clear ha
 go_enter Tryz.func75, Tryz.ntmps75
 go_wp2_with fail
 refine gen_wp ?_
 intro W0 hW0
 have G0 : Grew w W0 := by rw [hW0]; exact ((Grew.refl w).alloc _).alloc _
 have P : Box3 W0 (w.heap.size) 0 (.bool b1) (.slice A1 n1 c1) (.slice C1 m1 d1) := by rw [hW0]; exact ⟨by simp [go_sem], by simp [go_sem], by simp [go_sem]⟩
 replace P := hZ P
 have Py : Box3 W0 (w.heap.size) 3 (.bool b2) (.slice A2 n2 c2) (.slice C2 m2 d2) := by rw [hW0]; exact ⟨by simp [go_sem], by simp [go_sem], by simp [go_sem]⟩
 replace Py := hZ Py
 have R : Res3 W0 (w.heap.size + 1) 0 (.bool false) (.slice none 0 0) (.slice none 0 0) := by rw [hW0]; exact ⟨by simp [go_sem], by simp [go_sem], by simp [go_sem], by simp [go_sem], by simp [go_sem], by simp [go_sem], by simp⟩
 replace R := hZ R
 have R_ : Res3 W0 (w.heap.size + 1) 3 (.bool false) (.slice none 0 0) (.slice none 0 0) := by rw [hW0]; exact ⟨by simp [go_sem], by simp [go_sem], by simp [go_sem], by simp [go_sem], by simp [go_sem], by simp [go_sem], by simp⟩
 replace R_ := hZ R_
 have z0 : w.heap.size < W0.heap.size := by rw [hW0]; simp <;> omega
 replace z0 := hZ z0
 have z1 : w.heap.size + 1 < W0.heap.size := by rw [hW0]; simp <;> omega
 replace z1 := hZ z1
 clear hW0
 replace Fa := hZ (Fa.out.kept G0.keeps)
 replace Fb := hZ (Fb.out.kept G0.keeps)
 replace G0 := hZ G0
 have gd : Grew W0 W0.drew := (Grew.refl W0).drew
 replace R := hZ (R.out.grew gd)
 replace R_ := hZ (R_.out.grew gd)
 replace P := hZ (P.out.grew gd)
 replace Py := hZ (Py.out.grew gd)
 replace z0 := hZ (lt_grew z0.out gd)
 replace z1 := hZ (lt_grew z1.out gd)
 replace Fa := hZ (Fa.out.kept gd.keeps)
 replace Fb := hZ (Fb.out.kept gd.keeps)
 replace gd := hZ gd
 have ZP := P
 have ZPy := Py
 go_region_held3 (fun w' => w'.cell? ⟨w.heap.size, 0, none⟩ = some (.bool b1) ∧ w'.cell? ⟨w.heap.size, 1, none⟩ = some (.slice A1 n1 c1) ∧ w'.cell? ⟨w.heap.size, 2, none⟩ = some (.slice C1 m1 d1) ∧ w'.cell? ⟨w.heap.size, 3, none⟩ = some (.bool b2) ∧ w'.cell? ⟨w.heap.size, 4, none⟩ = some (.slice A2 n2 c2) ∧ w'.cell? ⟨w.heap.size, 5, none⟩ = some (.slice C2 m2 d2))
  (first | (with_reducible exact ⟨ZP.out.p0, ZP.out.p1, ZP.out.p2, ZPy.out.p0, ZPy.out.p1, ZPy.out.p2⟩) | (with_reducible exact ⟨g1.cell ZP.out.p0, g1.cell ZP.out.p1, g1.cell ZP.out.p2, g1.cell ZPy.out.p0, g1.cell ZPy.out.p1, g1.cell ZPy.out.p2⟩) | (with_reducible exact ⟨(g1.trans g2).cell ZP.out.p0, (g1.trans g2).cell ZP.out.p1, (g1.trans g2).cell ZP.out.p2, (g1.trans g2).cell ZPy.out.p0, (g1.trans g2).cell ZPy.out.p1, (g1.trans g2).cell ZPy.out.p2⟩) | (with_reducible exact ⟨other3 (o := 3) (by omega) (other3 (o := 0) (by omega) ((g1.trans g2).cell ZP.out.p0)), other3 (o := 3) (by omega) (other3 (o := 0) (by omega) ((g1.trans g2).cell ZP.out.p1)), other3 (o := 3) (by omega) (other3 (o := 0) (by omega) ((g1.trans g2).cell ZP.out.p2)), other3 (o := 3) (by omega) (other3 (o := 0) (by omega) ((g1.trans g2).cell ZPy.out.p0)), other3 (o := 3) (by omega) (other3 (o := 0) (by omega) ((g1.trans g2).cell ZPy.out.p1)), other3 (o := 3) (by omega) (other3 (o := 0) (by omega) ((g1.trans g2).cell ZPy.out.p2))⟩))
  (first | (have chk := g1; clear chk; go_at_call 56; refine (freduce_any _ y k _ Fb.out hk (by omega)).mono ?_; rintro e w2 ⟨V2, rfl, hV2, g2⟩; obtain ⟨b14, A14, n14, c14, C14, m14, d14, rfl, X2⟩ := hV2.laid; clear hV2; replace R := hZ (R.out.grew g2); replace R_ := hZ (R_.out.grew g2); replace P := hZ (P.out.grew g2); replace Py := hZ (Py.out.grew g2); replace z0 := hZ (lt_grew z0.out g2); replace z1 := hZ (lt_grew z1.out g2); replace Fa := hZ (Fa.out.kept g2.keeps); replace Fb := hZ (Fb.out.kept g2.keeps); replace X1 := hZ (X1.out.kept g2.keeps); obtain ⟨R0, R1, R2, Rf0, Rf1, Rf2, Rs⟩ := R.out; obtain ⟨R_0, R_1, R_2, R_f0, R_f1, R_f2, R_s⟩ := R_.out) | (go_at_call 56; refine (freduce_any _ x k _ Fa.out hk (by omega)).mono ?_; rintro e w1 ⟨V1, rfl, hV1, g1⟩; obtain ⟨b13, A13, n13, c13, C13, m13, d13, rfl, X1⟩ := hV1.laid; clear hV1; replace R := hZ (R.out.grew g1); replace R_ := hZ (R_.out.grew g1); replace P := hZ (P.out.grew g1); replace Py := hZ (Py.out.grew g1); replace z0 := hZ (lt_grew z0.out g1); replace z1 := hZ (lt_grew z1.out g1); replace Fa := hZ (Fa.out.kept g1.keeps); replace Fb := hZ (Fb.out.kept g1.keeps)))
 replace G0 := hZ (((G0.out.trans gd.out).trans g1).trans g2)
 clear gd g1 g2 ZP ZPy
 refine gen_then ?_
 intro W9 hW9
 obtain ⟨q0, q1, q2, q3, q4, q5, qK, qG⟩ := store6 R0 R1 R2 R_0 R_1 R_2 hW9
 have GE := qG w (by omega) G0.out
 have QK := hZ qK
 clear qK qG hW9 R0 R1 R2 R_0 R_1 R_2
 go_wp2_with fail
 exact bodyPost_ret (v := .agg #[.bool b13, .slice A13 n13 c13, .slice C13 m13 d13, .bool b14, .slice A14 n14 c14, .slice C14 m14 d14]) (by simp [results, Tryz.results75, go_sem, q0, q1, q2, q3, q4, q5]) rfl ⟨_, rfl, SpotC.mk (X1.out.kept QK.out) (X2.out.kept QK.out), GE⟩
set_option maxHeartbeats 8000000 in
theorem rowcmp_any (Va Vb : Value) (ax ay bx b_y : Rat) (k : Nat) (w : World) (ha : SpotV w Va ax ay k) (hb : SpotV w Vb bx b_y k) (hk : 1 ≤ k) (hs : k < 67108864) :
  Calls Tryz.prog 76 #[Va, Vb] w fun e w' => e = .returned (.int .i64 (spotCmp ax ay bx b_y)) ∧ Grew w w' := by
 obtain ⟨b1, A1, n1, c1, C1, m1, d1, b2, A2, n2, c2, C2, m2, d2, rfl, -, -, Sa⟩ := ha.laid
 obtain ⟨b3, A3, n3, c3, C3, m3, d3, b4, A4, n4, c4, C4, m4, d4, rfl, -, -, Sb⟩ := hb.laid
 clear ha hb
 go_enter Tryz.func76, Tryz.ntmps76
 go_wp2_with fail
 refine gen_calls ?_
 intro W0 hW0
 have G0 : Grew w W0 := by rw [hW0]; exact ((Grew.refl w).alloc _).alloc _
 have P : Box3 W0 (w.heap.size) 0 (.bool b1) (.slice A1 n1 c1) (.slice C1 m1 d1) := by rw [hW0]; exact ⟨by simp [go_sem], by simp [go_sem], by simp [go_sem]⟩
 replace P := hZ P
 have Py : Box3 W0 (w.heap.size) 3 (.bool b2) (.slice A2 n2 c2) (.slice C2 m2 d2) := by rw [hW0]; exact ⟨by simp [go_sem], by simp [go_sem], by simp [go_sem]⟩
 replace Py := hZ Py
 have Q : Box3 W0 (w.heap.size + 1) 0 (.bool b3) (.slice A3 n3 c3) (.slice C3 m3 d3) := by rw [hW0]; exact ⟨by simp [go_sem], by simp [go_sem], by simp [go_sem]⟩
 replace Q := hZ Q
 have Qy : Box3 W0 (w.heap.size + 1) 3 (.bool b4) (.slice A4 n4 c4) (.slice C4 m4 d4) := by rw [hW0]; exact ⟨by simp [go_sem], by simp [go_sem], by simp [go_sem]⟩
 replace Qy := hZ Qy
 have z0 : w.heap.size < W0.heap.size := by rw [hW0]; simp <;> omega
 replace z0 := hZ z0
 have z1 : w.heap.size + 1 < W0.heap.size := by rw [hW0]; simp <;> omega
 replace z1 := hZ z1
 clear hW0
 replace Sa := hZ (Sa.out.kept G0.keeps)
 replace Sb := hZ (Sb.out.kept G0.keeps)
 replace G0 := hZ G0
 refine (scmp_any _ _ ax ay bx b_y k _ Sa.out Sb.out hk hs).mono ?_
 rintro e w1 ⟨rfl, g1⟩
 replace P := hZ (P.out.grew g1)
 replace Py := hZ (Py.out.grew g1)
 replace Q := hZ (Q.out.grew g1)
 replace Qy := hZ (Qy.out.grew g1)
 replace z0 := hZ (lt_grew z0.out g1)
 replace z1 := hZ (lt_grew z1.out g1)
 replace Sa := hZ (Sa.out.kept g1.keeps)
 replace Sb := hZ (Sb.out.kept g1.keeps)
 replace G0 := hZ (G0.out.trans g1)
 clear g1
 go_wp2_with fail
 go_ret
 exact ⟨rfl, G0.out⟩
theorem sort_any (base : Nat) (v : Value) (l : List (Rat × Rat)) (k : Nat) (w : World) (hO : OwnC 35 w base v l) (hq : ∀ p ∈ l, QB p.1 k ∧ QB p.2 k) (hk : 1 ≤ k) (hs : k < 67108864) (hl : l.length ≤ 1099511627776) :
  Calls Tryz.prog 58 #[v, .func (.func 76) #[] #[]] w fun e w' => e = .returned (.tuple #[]) ∧ ∃ m, (∀ q, q ∈ m ↔ q ∈ l) ∧ m.length = l.length ∧ m.Pairwise spotNg ∧ OwnC 35 w' base v m ∧ ∀ W, W.heap.size ≤ base → Grew W w → Grew W w' := by
 by_cases h0 : l.length = 0
 ·obtain rfl : l = [] := List.eq_nil_of_length_eq_zero h0
  obtain ⟨A, c, rfl, -, -, -⟩ := hO.row
  exact (Go.Proofs.AnyF.slices_SortFunc_none { Tryz.sortSpot with } A c _ w).mono fun e w' ⟨he, hw⟩ => by
   subst hw
   exact ⟨he, [], fun _ => Iff.rfl, rfl, List.Pairwise.nil, hO, fun _ _ h => h⟩
 obtain ⟨g, cap, cur, d, rfl, hbg, hN, hg, hnc, hcm, hcs, hds, hdl, ⟨x0⟩, hH⟩ := hO.elems (k := k) (by omega) hq
 letI : Inhabited (SpotIn w k) := ⟨x0⟩
 have hblk : g < w.heap.size := by
  rcases Nat.lt_or_ge g w.heap.size with h | h
  ·exact h
  ·rw [Array.getElem?_eq_none h] at hg; simp at hg
 have eg : ∀ args w, (callFunc 76 args).run Tryz.prog w = .ok (.enter 76 args) w := enters_of Tryz.func76 (by kernel_rfl) rfl
 have hcmp : CmpLays Tryz.prog 76 #[] (SpotIn.enc (W := w) (k := k)) 6 SpotIn.cmp g 0 d.size w := by
  intro m os dk _ x y
  have hK := sort_keeps hN m dk os
  generalize sortWorldK (SpotIn.enc (W := w) (k := k)) 6 w g 0 m dk os = W at hK ⊢
  have hx := SpotC.v (SpotC.kept x.2.2.2.2.1 hK) x.2.2.2.2.2.1 x.2.2.2.2.2.2
  have hy := SpotC.v (SpotC.kept y.2.2.2.2.1 hK) y.2.2.2.2.2.1 y.2.2.2.2.2.2
  have h := rowcmp_any _ _ x.1.2.1 x.1.2.2 y.1.2.1 y.1.2.2 k W hx hy hk hs
  have e : (#[Value.agg x.enc.toArray, .agg y.enc.toArray] ++ #[] : Array Value) = #[.agg x.1.1, .agg y.1.1] := by
   unfold SpotIn.enc; simp
  rw [e]
  exact h.mono fun e w' ⟨he, hG⟩ => ⟨he, hG.grow⟩
 have hz : ∀ w : World, (Go.sizeOf 35).run Tryz.prog w = .ok 6 w := Tryz.sizeOf35
 have ha : ∀ w : World, (isAgg 35).run Tryz.prog w = .ok true w := Tryz.isAgg35
 have h := Go.Proofs.AnyQ.slices_SortFunc Tryz.sortSpot 6 ha hz SpotIn.enc SpotIn.len SpotIn.one SpotIn.cmp SpotIn.swo 76 #[] g 0 cap d w eg hcmp hH hblk (by omega)
 rw [hds] at h
 refine h.mono fun e w' ⟨he, d', n, os, hp, hsd, hw⟩ => ⟨he, d'.toList.map SpotIn.val, ?_⟩
 obtain ⟨hsz, -, hperm⟩ := hp
 have e1 : (d'.extract 0 l.length).toList = d'.toList := by rw [← hds, ← hsz]; simp
 have e2 : (d.extract 0 l.length).toList = d.toList := by rw [← hds]; simp
 rw [e1, e2] at hperm
 have hlen : (d'.toList.map SpotIn.val).length = l.length := by rw [List.length_map, Array.length_toList]; omega
 have ho := sort_own (e := 35) hbg hg hN hcm hcs n d' os (by omega)
 rw [show d'.size = l.length by omega] at ho
 refine ⟨fun q => ?_, hlen, ?_, by rw [hw]; exact ho, fun W h1 h2 => by rw [hw]; exact h2.wrote (sort_wrote n d' os) (Nat.le_trans h1 hbg)⟩
 ·rw [← hdl]
  simp only [List.mem_map]
  constructor
  ·rintro ⟨x, hx, rfl⟩; exact ⟨x, hperm.mem_iff.1 hx, rfl⟩
  ·rintro ⟨x, hx, rfl⟩; exact ⟨x, hperm.mem_iff.2 hx, rfl⟩
 ·rw [List.pairwise_iff_getElem]
  intro i j hi hj hij
  rw [List.length_map, Array.length_toList] at hi hj
  have h1 := hsd i j (Nat.zero_le _) hij (by omega)
  rw [getElem!_pos d' j hj, getElem!_pos d' i hi, SpotIn.nlt] at h1
  simpa [spotNg] using h1
theorem made_spots (c : Nat) : ∀ u ∈ madeCells (Value.agg #[.bool false, .slice none 0 0, .slice none 0 0, .bool false, .slice none 0 0, .slice none 0 0]).cells c, NoInt u := by
 intro u hu
 simp only [madeCells, Array.mem_map, Array.mem_range] at hu
 obtain ⟨j, -, rfl⟩ := hu
 have hlt : j % (Value.agg #[.bool false, .slice none 0 0, .slice none 0 0, .bool false, .slice none 0 0, .slice none 0 0]).cells.size < 6 := Nat.mod_lt _ (by decide)
 generalize j % (Value.agg #[.bool false, .slice none 0 0, .slice none 0 0, .bool false, .slice none 0 0, .slice none 0 0]).cells.size = t at hlt ⊢
 have ht : t = 0 ∨ t = 1 ∨ t = 2 ∨ t = 3 ∨ t = 4 ∨ t = 5 := by omega
 rcases ht with rfl | rfl | rfl | rfl | rfl | rfl <;> intro k x e <;> simp [Value.cells] at e
theorem make_spots (c : Nat) (hc : c ≤ 1099511627776) (u : World) : (Instr.makeSlice 41 (.int .i64 0) (.int .i64 (c : Int))).run Tryz.prog u =
  .ok (.slice (some ⟨u.heap.size, 0, none⟩) 0 c) (u.alloc (.cells (madeCells (Value.agg #[.bool false, .slice none 0 0, .slice none 0 0, .bool false, .slice none 0 0, .slice none 0 0]).cells (c * 6)) 35)) := by
 obtain ⟨i0, hi, hz0, hz1, hz2⟩ := info_parts info_spot
 have h := run_make (P := Tryz.prog) u 41 35 i0 _ Tryz.underlying41 hi hz0 .i64 .i64 (0 : Int) (c : Int) (by omega) (by omega) (by rw [hz2]; omega) (by omega)
 rw [hz1] at h
 simpa using h
def Fresh (w : World) (v : Value) : Prop := ∀ g, v.ownBlock = some g → w.heap.size ≤ g
theorem Fresh.low {a b : World} {v : Value} (h : Fresh b v) (g : Grew a b) : Fresh a v := fun k hk => Nat.le_trans g.size (h k hk)
theorem OwnC.fresh {e : TypeId} {w a : World} {base : Nat} {A : Option Addr} {n c m d : Nat} {l : List (Rat × Rat)} (h : OwnC e w base (.slice A n c) l) (hb : a.heap.size ≤ base) : Fresh a (.slice A m d) := fun k hk => by
 obtain ⟨xs, ⟨ho, -⟩, -⟩ := h
 refine Nat.le_trans hb (ho.lt k ?_).1
 cases A <;> exact hk
set_option maxHeartbeats 16000000 in
theorem srow_fresh (v : Value) (l : List (Rat × Rat)) (k : Nat) (w : World) (hr : RowR k w v l) (hq : ∀ p ∈ l, QB p.1 k ∧ QB p.2 k) (hk : 1 ≤ k) (hs : k < 67108864) (hl : l.length ≤ 1099511627776) :
  Calls Tryz.prog 44 #[v] w fun e w' => ∃ v', e = .returned v' ∧ RowC w' v' (rowQ l) ∧ Fresh w v' ∧ Grew w w' := by
 obtain ⟨A, c, rfl, h1, h2, h3⟩ := hr
 obtain ⟨L, hL⟩ : ∃ L, l.length = L := ⟨_, rfl⟩
 rw [hL] at h1 hl h3
 rw [hL]
 have hm : L ≤ 9223372036854775807 := by omega
 replace h3 := hZ h3
 replace hq := hZ hq
 have hmk := make_spots L hl w
 have hO0 := hZ (OwnC.made 35 w w.heap.size L (Nat.le_refl _) (by unfold maxLen; omega) _ (made_spots (L * 6)) (size_madeCells _ _))
 have hG0 := hZ ((Grew.refl w).alloc (.cells (madeCells (Value.agg #[.bool false, .slice none 0 0, .slice none 0 0, .bool false, .slice none 0 0, .slice none 0 0]).cells (L * 6)) 35))
 generalize w.alloc (.cells (madeCells (Value.agg #[.bool false, .slice none 0 0, .slice none 0 0, .bool false, .slice none 0 0, .slice none 0 0]).cells (L * 6)) 35) = W1 at hmk hO0 hG0
 go_enter Tryz.func44, Tryz.ntmps44
 go_wp2_with (simp only [hmk])
 go_loopg [3, 11] L (fun gk ov ii wr => ∃ j : Nat, gk + j = L ∧ ii = .int .i64 j ∧ OwnC 35 wr w.heap.size ov (l.take j) ∧ Grew w wr)
 case atStart => exact ⟨0, rfl, rfl, by rw [List.take_zero]; exact hO0.out, hG0.out⟩
 case round =>
  obtain ⟨j, hj, rfl, hO, hG⟩ := hrel
  clear hO0 hG0 hmk
  by_cases hlt : j < L
  ·obtain ⟨b, o, rfl, he⟩ := h3.out (by omega)
   obtain ⟨p, hp⟩ : ∃ p, l[j]? = some p := ⟨l[j]'(by omega), List.getElem?_eq_getElem _⟩
   have htk := hZ (take_snoc hp)
   obtain ⟨b1, A1, n1, c1, C1, m1, d1, b2, A2, n2, c2, C2, m2, d2, ⟨e0, e1, e2, e3, e4, e5⟩, S1⟩ := he j p hp
   have f0 : wr.cell? ⟨b, o + j * 6, none⟩ = some (.bool b1) := hG.cell e0
   have f1 : wr.cell? ⟨b, o + j * 6 + 1, none⟩ = some (.slice A1 n1 c1) := hG.cell e1
   have f2 : wr.cell? ⟨b, o + j * 6 + 2, none⟩ = some (.slice C1 m1 d1) := hG.cell e2
   have f3 : wr.cell? ⟨b, o + j * 6 + 3, none⟩ = some (.bool b2) := hG.cell e3
   have f4 : wr.cell? ⟨b, o + j * 6 + 4, none⟩ = some (.slice A2 n2 c2) := hG.cell e4
   have f5 : wr.cell? ⟨b, o + j * 6 + 5, none⟩ = some (.slice C2 m2 d2) := hG.cell e5
   replace S1 := hZ (SpotR.kept S1 hG.keeps)
   have hO' := hZ hO
   have hG' := hZ hG
   have hlen : (l.take j).length = j := by rw [List.length_take]; omega
   have hjl : (j : Int) < (L : Int) := by omega
   clear e0 e1 e2 e3 e4 e5 he hO hG hp
   go_upto_region 5 with fail
   refine gen_wp ?_
   intro W9 hW9
   have t0 : W9.cell? ⟨wr.heap.size, 0, none⟩ = some (.bool b1) := by rw [hW9]; simp [go_sem]
   have t1 : W9.cell? ⟨wr.heap.size, 1, none⟩ = some (.slice A1 n1 c1) := by rw [hW9]; simp [go_sem]
   have t2 : W9.cell? ⟨wr.heap.size, 2, none⟩ = some (.slice C1 m1 d1) := by rw [hW9]; simp [go_sem]
   have t3 : W9.cell? ⟨wr.heap.size, 3, none⟩ = some (.bool b2) := by rw [hW9]; simp [go_sem]
   have t4 : W9.cell? ⟨wr.heap.size, 4, none⟩ = some (.slice A2 n2 c2) := by rw [hW9]; simp [go_sem]
   have t5 : W9.cell? ⟨wr.heap.size, 5, none⟩ = some (.slice C2 m2 d2) := by rw [hW9]; simp [go_sem]
   have gl : Grew wr W9 := by rw [hW9]; exact (Grew.refl _).alloc _
   have SS := hZ (SpotR.kept S1.out gl.keeps)
   have og := hZ (OwnC.grew hO'.out gl)
   have gg := hZ (hG'.out.trans gl)
   clear hW9 gl hO' hG' S1 f0 f1 f2 f3 f4 f5
   go_wp2_with fail
   refine (sclean_any _ p.1 p.2 k _ SS.out.v hk hs).mono ?_
   rintro e wy ⟨V, rfl, hV, gy⟩
   obtain ⟨b7, A7, n7, c7, C7, m7, d7, b8, A8, n8, c8, C8, m8, d8, rfl, -, -, X7⟩ := hV.laid
   obtain ⟨xs, hown, hF⟩ := OwnC.grew og.out gy
   have gwy := gg.out.trans gy
   have hsz := gwy.size
   have ho := hZ hown
   replace hF := hZ hF
   replace gwy := hZ gwy
   clear hV gy t0 t1 t2 t3 t4 t5 SS og gg hown
   go_wp2_with (first | fail | (at_builtin; (refine wpList_appS1 _ rfl (.tmp 15) (.tmp 18) 41 rfl w.heap.size 35 _ 6 112 Tryz.underlying41 info_spot rfl (by omega) zero_spot _ _ _ rfl ho.out _ rfl (one6 _ _ _ _ _ _ _ _ _ _ _ _ _ _) (noint6 _ _ _ _ _ _ _ _ _ _ _ _ _ _) rfl (by omega) (by omega) hsz ?_); intro vB wzB hown1 hG1 hK1))
   have gzB := hG1 w (Nat.le_refl _) gwy.out
   have ozB := OwnC.snoc (p := p) hown1 hF.out X7.out hK1
   clear hown1 hG1 hK1 ho hF X7 gwy hsz
   go_wp2_with fail
   go_roundg (gk - 1)
   case rel => exact ⟨j + 1, by omega, by go_num, by rw [htk.out]; exact ozB, gzB⟩
   case measure => omega
  ·obtain rfl : j = L := by omega
   have hall : l.take j = l := by rw [← hL]; exact List.take_length
   rw [hall] at hO
   obtain ⟨A5, c5, rfl, -, -, -⟩ := hO.row
   rw [hL] at hO ⊢
   have hO' := hZ hO
   have hG' := hZ hG
   clear hO hG
   go_wp2_with fail
   refine (sort_any w.heap.size _ l k _ hO'.out hq.out hk hs (by omega)).mono ?_
   rintro e w2 ⟨rfl, m, hm1, hm2, hm3, hO2, hG2⟩
   have hgw := hZ (hG2 w (Nat.le_refl _) hG'.out)
   replace hO2 := hZ hO2
   have hrow := hZ (comp_row hm3 hm1)
   have hq2 := hZ (fun p (hp : p ∈ m) => hq.out p ((hm1 p).1 hp))
   clear hG2 hG' hO' hm1 hm3
   go_wp2_with fail
   refine (compact_any w.heap.size _ m k _ hO2.out hq2.out hk hs (by omega)).mono ?_
   rintro e w3 ⟨V3, rfl, hO3, hG3⟩
   rw [hrow.out] at hO3
   have hgw3 := hZ (hG3 w (Nat.le_refl _) hgw.out)
   obtain ⟨A6, c6, rfl, y1, y2, y3⟩ := hO3.row
   have hres : RowC w3 (.slice A6 (rowQ l).length (rowQ l).length) (rowQ l) := ⟨A6, _, rfl, Nat.le_refl _, by omega, y3⟩
   have hfr : Fresh w (.slice A6 (rowQ l).length (rowQ l).length) := hO3.fresh (Nat.le_refl _)
   replace hfr := hZ hfr
   replace hres := hZ hres
   clear hO3 hG3 y3 hO2 hgw hq2
   go_wp2_with fail
   go_ret
   exact ⟨_, rfl, hres.out, hfr.out, hgw3.out⟩
theorem own_two {e : TypeId} {w : World} {base : Nat} (hb : base ≤ w.heap.size) {b b' : Bool} {A C A' C' : Option Addr} {n c m d n' c' m' d' : Nat} {x y : Rat} (h : SpotC w (.agg #[.bool b, .slice A n c, .slice C m d, .bool b', .slice A' n' c', .slice C' m' d']) x y)
  {b2 b2' : Bool} {A2 C2 A2' C2' : Option Addr} {n2 c2 m2 d2 n2' c2' m2' d2' : Nat} {x2 y2 : Rat} (h2 : SpotC w (.agg #[.bool b2, .slice A2 n2 c2, .slice C2 m2 d2, .bool b2', .slice A2' n2' c2', .slice C2' m2' d2']) x2 y2) :
  OwnC e (w.alloc (.cells #[.bool b, .slice A n c, .slice C m d, .bool b', .slice A' n' c', .slice C' m' d', .bool b2, .slice A2 n2 c2, .slice C2 m2 d2, .bool b2', .slice A2' n2' c2', .slice C2' m2' d2'] e)) base (.slice (some ⟨w.heap.size, 0, none⟩) 2 2) [(x, y), (x2, y2)] := by
 have hk := ((Grew.refl w).alloc (.cells #[.bool b, .slice A n c, .slice C m d, .bool b', .slice A' n' c', .slice C' m' d', .bool b2, .slice A2 n2 c2, .slice C2 m2 d2, .bool b2', .slice A2' n2' c2', .slice C2' m2' d2'] e)).keeps
 refine OwnC.of (l := [(x, y), (x2, y2)]) hb ?_ (heap_alloc_new w _) (by simp) (by unfold maxLen; omega) rfl ?_
 ·intro p u hu
  rw [cell_of_row _ w.heap.size p _ e (0, 0) (heap_alloc_new w _)] at hu
  have := Array.mem_of_getElem? hu
  simp only [List.mem_toArray, List.mem_cons, List.not_mem_nil, or_false] at this
  rcases this with rfl | rfl | rfl | rfl | rfl | rfl | rfl | rfl | rfl | rfl | rfl | rfl <;> intro k x e <;> simp at e
 ·intro i p hp
  have hi := (List.getElem?_eq_some_iff.1 hp).1
  rcases (show i = 0 ∨ i = 1 by simp at hi; omega) with rfl | rfl
  ·obtain rfl : (x, y) = p := by simpa using hp
   exact ⟨b, A, n, c, C, m, d, b', A', n', c', C', m', d', ⟨rfl, rfl, rfl, rfl, rfl, rfl⟩, SpotC.kept h hk⟩
  ·obtain rfl : (x2, y2) = p := by simpa using hp
   exact ⟨b2, A2, n2, c2, C2, m2, d2, b2', A2', n2', c2', C2', m2', d2', ⟨rfl, rfl, rfl, rfl, rfl, rfl⟩, SpotC.kept h2 hk⟩
set_option maxHeartbeats 16000000 in
theorem cuts_fresh (ax ay bx b_y : Int) (v : Value) (l : List SegZ) (w : World) (ra : In64 ax ay) (rb : In64 bx b_y) (hl : SegsR w v l) (hn : l.length ≤ 1048576) :
  Calls Tryz.prog 24 #[segV ax ay bx b_y, v] w fun e w' => ∃ v', e = .returned v' ∧ RowC w' v' (cutsQ ax ay bx b_y l) ∧ Fresh w v' ∧ Grew w w' := by
 obtain ⟨A, c, rfl, h1, h2, h3⟩ := hl
 obtain ⟨L, hL⟩ : ∃ L, l.length = L := ⟨_, rfl⟩
 rw [hL] at h1 hn h3
 rw [hL]
 have hm : L ≤ 9223372036854775807 := by omega
 replace h3 := hZ h3
 replace ra := hZ ra
 replace rb := hZ rb
 obtain ⟨f, hf⟩ : ∃ f, (fitB ax ay && fitB bx b_y) = f := ⟨_, rfl⟩
 replace hf := hZ hf
 obtain ⟨cq, hcq⟩ : ∃ cq, cutsQ ax ay bx b_y l = cq := ⟨_, rfl⟩
 rw [hcq]
 replace hcq := hZ hcq
 go_enter Tryz.func24, Tryz.ntmps24
 go_upto_region 1 with fail
 refine gen_wp ?_
 intro W1 hW1
 have p0 : W1.cell? ⟨w.heap.size, 0, none⟩ = some (.int .i64 ax) := by rw [hW1]; simp [go_sem]
 have p1 : W1.cell? ⟨w.heap.size, 1, none⟩ = some (.int .i64 ay) := by rw [hW1]; simp [go_sem]
 have p2 : W1.cell? ⟨w.heap.size, 2, none⟩ = some (.int .i64 bx) := by rw [hW1]; simp [go_sem]
 have p3 : W1.cell? ⟨w.heap.size, 3, none⟩ = some (.int .i64 b_y) := by rw [hW1]; simp [go_sem]
 have G1 : Grew w W1 := by rw [hW1]; exact (Grew.refl _).alloc _
 have zw : w.heap.size < W1.heap.size := by rw [hW1]; simp
 replace G1 := hZ G1
 clear hW1
 go_wp2_with fail
 refine (cmay_any ax ay bx b_y _).mono ?_
 rintro e W2 ⟨rfl, g2⟩
 rw [hf.out]
 replace g2 := hZ g2
 cases f
 ·have hcq' := hZ (hcq.out.symm.trans (by unfold cutsQ; rw [hf.out]; rfl) : cq = [])
  have gE := hZ (G1.out.trans g2.out)
  clear p0 p1 p2 p3
  go_wp2_with fail
  go_ret
  exact ⟨_, rfl, by rw [hcq'.out]; exact RowP.nil _ _, fun g h => by simp [Value.ownBlock] at h, gE.out⟩
 have q0 := g2.out.cell p0
 have q1 := g2.out.cell p1
 have q2 := g2.out.cell p2
 have q3 := g2.out.cell p3
 go_wp2_with fail
 go_region_held3 (fun w' => w'.cell? ⟨w.heap.size, 0, none⟩ = some (.int .i64 ax) ∧ w'.cell? ⟨w.heap.size, 1, none⟩ = some (.int .i64 ay) ∧ w'.cell? ⟨w.heap.size, 2, none⟩ = some (.int .i64 bx) ∧ w'.cell? ⟨w.heap.size, 3, none⟩ = some (.int .i64 b_y))
  (first | exact ⟨q0, q1, q2, q3⟩ | exact ⟨g5.cell q0, g5.cell q1, g5.cell q2, g5.cell q3⟩ | exact ⟨(g5.trans g6).cell q0, (g5.trans g6).cell q1, (g5.trans g6).cell q2, (g5.trans g6).cell q3⟩ | exact ⟨((g5.trans g6).alloc _).cell q0, ((g5.trans g6).alloc _).cell q1, ((g5.trans g6).alloc _).cell q2, ((g5.trans g6).alloc _).cell q3⟩)
  (first | (have chk := g5; clear chk; go_at_call 42; refine (at_any bx b_y _ rb.out.1 rb.out.2.1 rb.out.2.2.1 rb.out.2.2.2).mono ?_; rintro e w6 ⟨V6, rfl, hV6, g6⟩; obtain ⟨b9, A9, n9, c9, C9, m9, d9, b10, A10, n10, c10, C10, m10, d10, rfl, -, -, X6⟩ := hV6.laid; clear hV6) | (go_at_call 42; refine (at_any ax ay _ ra.out.1 ra.out.2.1 ra.out.2.2.1 ra.out.2.2.2).mono ?_; rintro e w5 ⟨V5, rfl, hV5, g5⟩; obtain ⟨b7, A7, n7, c7, C7, m7, d7, b8, A8, n8, c8, C8, m8, d8, rfl, -, -, X5⟩ := hV5.laid; clear hV5))
 have gS := ((g2.out.drew).trans g5).trans g6
 have oS := hZ (own_two (e := 35) (base := W1.heap.size) gS.size (SpotC.kept X5.out g6.keeps) X6.out)
 have gT := hZ (gS.alloc (.cells #[.bool b7, .slice A7 n7 c7, .slice C7 m7 d7, .bool b8, .slice A8 n8 c8, .slice C8 m8 d8, .bool b9, .slice A9 n9 c9, .slice C9 m9 d9, .bool b10, .slice A10 n10 c10, .slice C10 m10 d10] 35))
 clear gS g5 g6 X5 X6 q0 q1 q2 q3 g2
 go_wp2_with fail
 go_loopg [5, 23] L (fun gk s5 s23 wr => ∃ j : Nat, gk + j = L ∧ s23 = .int .i64 j ∧ OwnC 35 wr W1.heap.size s5 (cutAll ax ay bx b_y (l.take j)) ∧ Grew W1 wr)
 case atStart => exact ⟨0, rfl, rfl, by rw [List.take_zero]; exact oS.out, gT.out⟩
 case round =>
  obtain ⟨j, hj, rfl, hO, hG⟩ := hrel
  clear oS gT
  have q0 := hG.cell p0
  have q1 := hG.cell p1
  have q2 := hG.cell p2
  have q3 := hG.cell p3
  by_cases hlt : j < L
  ·obtain ⟨b, o, rfl, he⟩ := h3.out (by omega)
   obtain ⟨t, ht⟩ : ∃ t, l[j]? = some t := ⟨l[j]'(by omega), List.getElem?_eq_getElem _⟩
   obtain ⟨⟨e0, e1, e2, e3⟩, rc, rd⟩ := he j t ht
   have hsu : cutAll ax ay bx b_y (l.take (j + 1)) = cutAll ax ay bx b_y (l.take j) ++ meetW ax ay bx b_y t := cutRow_succ _ _ _ ht
   have hle := cutAll_len ax ay bx b_y (l.take j)
   have hml := meetW_len ax ay bx b_y t
   have htl : (l.take j).length = j := by rw [List.length_take]; omega
   obtain ⟨⟨cx, cy⟩, dx, dy⟩ := t
   simp only [] at e0 e1 e2 e3 rc rd
   have gw := G1.out.trans hG
   have f0 := gw.cell e0
   have f1 := gw.cell e1
   have f2 := gw.cell e2
   have f3 := gw.cell e3
   replace rc := hZ rc
   replace rd := hZ rd
   replace hsu := hZ hsu
   have hjl : (j : Int) < (L : Int) := by omega
   have hO' := hZ hO
   have hG' := hZ hG
   clear e0 e1 e2 e3 he gw hO hG ht
   go_upto_region 7 with fail
   refine gen_wp ?_
   intro W9 hW9
   have t0 : W9.cell? ⟨wr.heap.size, 0, none⟩ = some (.int .i64 cx) := by rw [hW9]; simp [go_sem]
   have t1 : W9.cell? ⟨wr.heap.size, 1, none⟩ = some (.int .i64 cy) := by rw [hW9]; simp [go_sem]
   have t2 : W9.cell? ⟨wr.heap.size, 2, none⟩ = some (.int .i64 dx) := by rw [hW9]; simp [go_sem]
   have t3 : W9.cell? ⟨wr.heap.size, 3, none⟩ = some (.int .i64 dy) := by rw [hW9]; simp [go_sem]
   have gl : Grew wr W9 := by rw [hW9]; exact (Grew.refl _).alloc _
   have q0 := gl.cell q0
   have q1 := gl.cell q1
   have q2 := gl.cell q2
   have q3 := gl.cell q3
   have og := hZ (OwnC.grew hO'.out gl)
   have gg := hZ (hG'.out.trans gl)
   clear hW9 gl hO' hG' f0 f1 f2 f3
   go_wp2_with fail
   refine (meet_any ax ay bx b_y cx cy dx dy _ ra.out rb.out rc.out rd.out).mono ?_
   rintro e wy ⟨V, rfl, hV, gy⟩
   have gwy := gg.out.trans gy
   have hsz := gwy.size
   have ho := hZ (OwnC.grew og.out gy)
   replace hV : RowC wy V (meetW ax ay bx b_y ((cx, cy), dx, dy)) := hV
   replace hV := hZ hV
   replace gwy := hZ gwy
   clear gy t0 t1 t2 t3 og gg
   go_wp2_with (first | fail | (at_builtin; (refine wpList_appRow rfl (.tmp 27) (.tmp 30) rfl rfl rfl ho.out hV.out (by omega) hsz ?_); intro vB wzB hO9 hG9))
   have gzB := hZ (hG9 W1 (Nat.le_refl _) gwy.out)
   rw [← hsu.out] at hO9
   replace hO9 := hZ hO9
   clear hG9 ho hV gwy hsz
   go_wp2_with fail
   go_roundg (gk - 1)
   case rel => exact ⟨j + 1, by omega, by go_num, hO9.out, gzB.out⟩
   case measure => omega
  ·obtain rfl : j = L := by omega
   have hall : l.take j = l := by rw [← hL]; exact List.take_length
   rw [hall] at hO
   have hle := cutAll_len ax ay bx b_y l
   have hqb := hZ (cutAll_qb (l := l) hf.out)
   have hcq' := hcq.out
   unfold cutsQ at hcq'
   rw [if_pos hf.out] at hcq'
   generalize cutAll ax ay bx b_y l = all at hO hle hqb hcq'
   have hR := hZ (hO.row.r hqb.out)
   have hG' := hZ hG
   obtain ⟨A5, c5, rfl, -, -, -⟩ := hO.row
   clear hO hG
   replace hcq' := hZ hcq'
   go_wp2_with fail
   refine (srow_fresh _ all 7 _ hR.out hqb.out (by omega) (by omega) (by omega)).mono ?_
   rintro e W5 ⟨V5, rfl, hV5, hF5, g5⟩
   have hrl := rowQ_len all
   obtain ⟨R, hRq⟩ : ∃ R, rowQ all = R := ⟨_, rfl⟩
   rw [hRq] at hV5 hrl
   rw [hRq] at hcq'
   obtain ⟨M, hM⟩ : ∃ M, R.length = M := ⟨_, rfl⟩
   have gV := hZ (hG'.out.trans g5)
   replace q0 := g5.cell q0
   replace q1 := g5.cell q1
   replace q2 := g5.cell q2
   replace q3 := g5.cell q3
   obtain ⟨A6, c6, rfl, x1, x2, x3⟩ := id hV5
   rw [hM] at x1 x3 hrl hV5 hF5
   have hF6 := hZ (hF5.low (G1.out.trans hG'.out))
   clear hF5
   rw [hM]
   replace x3 := hZ x3
   replace hV5 := hZ hV5
   clear g5 hR hqb hG'
   obtain ⟨tt, htt⟩ : ∃ tt, aheadB bx b_y ax ay = tt := ⟨_, rfl⟩
   replace htt := hZ htt
   go_wp2_with fail
   refine (ahead_any bx b_y ax ay _).mono ?_
   rintro e W6 ⟨rfl, g6⟩
   rw [htt.out]
   rw [htt.out] at hcq'
   have gW := hZ ((G1.out.trans gV.out).trans g6)
   cases tt
   ·have e1 := hZ (hcq'.out.symm.trans (if_neg (by simp)) : cq = R)
    have hV6 := hZ (hV5.out.grew g6)
    clear hcq' g6 q0 q1 q2 q3
    go_wp2_with fail
    go_ret
    exact ⟨_, rfl, by rw [e1.out]; exact hV6.out, hF6.out, gW.out⟩
   ·have e1 := hZ (hcq'.out.symm.trans (if_pos rfl) : cq = R.reverse)
    have hmk := make_spots M (by omega) W6
    have hO0 := hZ (OwnC.made 35 W6 W6.heap.size M (Nat.le_refl _) (by unfold maxLen; omega) _ (made_spots (M * 6)) (size_madeCells _ _))
    have hG0 := hZ ((Grew.refl W6).alloc (.cells (madeCells (Value.agg #[.bool false, .slice none 0 0, .slice none 0 0, .bool false, .slice none 0 0, .slice none 0 0]).cells (M * 6)) 35))
    generalize W6.alloc (.cells (madeCells (Value.agg #[.bool false, .slice none 0 0, .slice none 0 0, .bool false, .slice none 0 0, .slice none 0 0]).cells (M * 6)) 35) = W7 at hmk hO0 hG0
    replace g6 := hZ g6
    clear hcq' q0 q1 q2 q3 hV5
    go_wp2_with fail
    go_loopg [9, 10] M (fun gk s9 s10 wr => ∃ (i : Nat) (z : Int), gk = i ∧ i ≤ M ∧ z = (i : Int) - 1 ∧ s10 = .int .i64 z ∧ OwnC 35 wr W6.heap.size s9 (R.drop i).reverse ∧ Grew W6 wr)
    case atStart => exact ⟨M, (M : Int) - 1, rfl, Nat.le_refl _, rfl, by go_num, by rw [List.drop_eq_nil_of_le (by omega)]; exact hO0.out, hG0.out⟩
    case round =>
     obtain ⟨i, z, rfl, hiM, hz, rfl, hO, hG⟩ := hrel
     clear hO0 hG0
     by_cases hi0 : 0 < gk
     ·obtain ⟨k, hk⟩ : ∃ k, k + 1 = gk := ⟨gk - 1, by omega⟩
      obtain rfl : z = (k : Int) := by omega
      obtain ⟨g, o9, rfl, ke⟩ := x3.out (by omega)
      obtain ⟨q, hq9⟩ : ∃ q, R[k]? = some q := ⟨R[k]'(by omega), List.getElem?_eq_getElem _⟩
      have hst := rev_step hq9
      rw [hk] at hst
      replace hst := hZ hst
      obtain ⟨b3, A3, n3, c3, C3, m3, d3, b4, A4, n4, c4, C4, m4, d4, ⟨e0, e1, e2, e3, e4, e5⟩, S2⟩ := ke k q hq9
      have f0 : wr.cell? ⟨g, o9 + k * 6, none⟩ = some (.bool b3) := hG.cell (g6.out.cell e0)
      have f1 : wr.cell? ⟨g, o9 + k * 6 + 1, none⟩ = some (.slice A3 n3 c3) := hG.cell (g6.out.cell e1)
      have f2 : wr.cell? ⟨g, o9 + k * 6 + 2, none⟩ = some (.slice C3 m3 d3) := hG.cell (g6.out.cell e2)
      have f3 : wr.cell? ⟨g, o9 + k * 6 + 3, none⟩ = some (.bool b4) := hG.cell (g6.out.cell e3)
      have f4 : wr.cell? ⟨g, o9 + k * 6 + 4, none⟩ = some (.slice A4 n4 c4) := hG.cell (g6.out.cell e4)
      have f5 : wr.cell? ⟨g, o9 + k * 6 + 5, none⟩ = some (.slice C4 m4 d4) := hG.cell (g6.out.cell e5)
      have X7 := hZ (SpotC.kept S2 (g6.out.trans hG).keeps)
      obtain ⟨xs, hown, hF⟩ := hO
      have hlen : ((R.drop gk).reverse).length = M - gk := by rw [List.length_reverse, List.length_drop]; omega
      have hsz := hG.size
      have hGr := hZ hG
      have hkM : (k : Int) < (M : Int) := by omega
      have hk0 : (0 : Int) ≤ (k : Int) := by omega
      have ho := hZ hown
      replace hF := hZ hF
      replace hk := hZ hk
      clear e0 e1 e2 e3 e4 e5 S2 hown hG ke hq9 hz
      go_wp2_with (first | fail | (at_builtin; (refine wpList_appS1 _ rfl (.tmp 52) (.tmp 57) 41 rfl W6.heap.size 35 _ 6 112 Tryz.underlying41 info_spot rfl (by omega) zero_spot _ _ _ rfl ho.out _ rfl (one6 _ _ _ _ _ _ _ _ _ _ _ _ _ _) (noint6 _ _ _ _ _ _ _ _ _ _ _ _ _ _) rfl (by omega) (by omega) hsz ?_); intro vB wzB hown1 hG1 hK1))
      have gzB := hG1 W6 (Nat.le_refl _) hGr.out
      have ozB := OwnC.snoc (p := q) hown1 hF.out X7.out hK1
      clear hown1 hG1 hK1 ho hF X7 hGr f0 f1 f2 f3 f4 f5
      go_wp2_with fail
      have hk' := hk.out
      go_roundg k
      case rel => exact ⟨k, (k : Int) - 1, rfl, by omega, rfl, by go_num, by rw [hst.out]; exact ozB, gzB⟩
      case measure => omega
     ·obtain rfl : gk = 0 := by omega
      obtain rfl : z = -1 := by omega
      clear hz
      rw [List.drop_zero] at hO
      have hrow := hZ hO.row
      obtain ⟨A8, c8, rfl, -, -, -⟩ := hO.row
      have hfr := hZ (hO.fresh (a := w) (m := (R.reverse).length) (d := c8) gW.out.size)
      have hG' := hZ (gW.out.trans hG)
      clear hO hG
      go_wp2_with fail
      go_ret
      exact ⟨_, rfl, by rw [e1.out]; exact hrow.out, hfr.out, hG'.out⟩
end Go.Proofs.YtmommicmblfibaaGreat
