/- split.Row, split.Ends. Condition: what comes in reads; fewer than 2^26 words, at most 2^39 edges. append of a row of spots to a row that a call owns. Conditions: fewer than 2^40 spots. slices.CompactFunc at spots, by spot.Same, on a row that the caller owns. Condition: fewer than 2^26 words, at most 2^40 spots. Sorting a row of spots that a call owns: the worlds that the sort goes through. Conditions: none. -/
import Derived.Test.YtmommicmblfibaaGreatJAppK
import Derived.Test.YtmommicmblfibaaGreatJSplG
import Derived.Test.YtmommicmblfibaaGreatJElE
import Derived.Test.YtmommicmblfibaaGreatJRowP
import Derived.Test.YtmommicmblfibaaGreatJRow3
import Derived.BigFrame
import Derived.Deep.LoopGhost
import Derived.Deep.RegionHeld3
import Derived.Shelf.SlSortCmp.InsertionK
set_option maxRecDepth 100000
namespace Go.Proofs.YtmommicmblfibaaGreat
open Go.RowKit
theorem info_edge : (Tryz.prog.info? 37).map (fun i => (i.zero, i.size, i.bytes)) = some (some (Value.agg #[.bool false, .slice none 0 0, .slice none 0 0, .bool false, .slice none 0 0, .slice none 0 0, .bool false, .slice none 0 0, .slice none 0 0, .bool false, .slice none 0 0, .slice none 0 0]), 12, 224) := by kernel_rfl
theorem make_spotsK (c : Nat) (hc : c ≤ 1099511627776) (u : World) : (Instr.makeSlice 41 (.int .i64 0) (.int .i64 (c : Int))).run Tryz.prog u =
  .ok (.slice (some ⟨u.heap.size, 0, none⟩) 0 c) (u.alloc (.cells (madeCells (Value.agg #[.bool false, .slice none 0 0, .slice none 0 0, .bool false, .slice none 0 0, .slice none 0 0]).cells (c * 6)) 35)) := by
 obtain ⟨i0, hi, hz0, hz1, hz2⟩ := info_parts info_spot
 have h := run_make (P := Tryz.prog) u 41 35 i0 _ Tryz.underlying41 hi hz0 .i64 .i64 (0 : Int) (c : Int) (by omega) (by omega) (by rw [hz2]; omega) (by omega)
 rw [hz1] at h
 simpa using h
theorem cellsE {k : Nat} {w : World} {c : Nat → Option Value} {x : EdgeQ} (h : CellsR 12 (EdgeR k) w c x) :
  ∃ b1 A1 n1 c1 C1 m1 d1 b2 A2 n2 c2 C2 m2 d2 b3 A3 n3 c3 C3 m3 d3 b4 A4 n4 c4 C4 m4 d4, (c 0 = some (.bool b1) ∧ c 1 = some (.slice A1 n1 c1) ∧ c 2 = some (.slice C1 m1 d1) ∧ c 3 = some (.bool b2) ∧ c 4 = some (.slice A2 n2 c2) ∧ c 5 = some (.slice C2 m2 d2) ∧ c 6 = some (.bool b3) ∧ c 7 = some (.slice A3 n3 c3) ∧ c 8 = some (.slice C3 m3 d3) ∧ c 9 = some (.bool b4) ∧ c 10 = some (.slice A4 n4 c4) ∧ c 11 = some (.slice C4 m4 d4)) ∧ Hid (EdgeR k w #[.bool b1, .slice A1 n1 c1, .slice C1 m1 d1, .bool b2, .slice A2 n2 c2, .slice C2 m2 d2, .bool b3, .slice A3 n3 c3, .slice C3 m3 d3, .bool b4, .slice A4 n4 c4, .slice C4 m4 d4] x) := by
 obtain ⟨us, h1, h2⟩ := h
 obtain ⟨b1, A1, n1, c1, C1, m1, d1, b2, A2, n2, c2, C2, m2, d2, b3, A3, n3, c3, C3, m3, d3, b4, A4, n4, c4, C4, m4, d4, rfl, -, -⟩ := EdgeR.laid h2
 exact ⟨b1, A1, n1, c1, C1, m1, d1, b2, A2, n2, c2, C2, m2, d2, b3, A3, n3, c3, C3, m3, d3, b4, A4, n4, c4, C4, m4, d4, ⟨h1 0 (by omega), h1 1 (by omega), h1 2 (by omega), h1 3 (by omega), h1 4 (by omega), h1 5 (by omega), h1 6 (by omega), h1 7 (by omega), h1 8 (by omega), h1 9 (by omega), h1 10 (by omega), h1 11 (by omega)⟩, h2⟩
theorem rowG_spot (l : List (Rat × Rat)) : rowG (fun p q : Rat × Rat => spotCmp p.1 p.2 q.1 q.2) l = rowQ l :=
 extG ord_spot (rowG_sorted ord_spot l) (rowQ_sorted l) fun q => by rw [mem_rowG ord_spot, mem_rowQ]
def endsE (l : List EdgeQ) : List (Rat × Rat) := l.flatMap fun e => [e.1, e.2]
theorem endsE_succ {l : List EdgeQ} {j : Nat} {x : EdgeQ} (h : l[j]? = some x) : endsE (l.take (j + 1)) = endsE (l.take j) ++ [x.1, x.2] := by
 unfold endsE
 rw [List.take_add_one, h, Option.toList_some, List.flatMap_append]
 simp
theorem endsE_len : ∀ l : List EdgeQ, (endsE l).length = 2 * l.length
 | [] => rfl
 | x :: l => by
  have h := endsE_len l
  unfold endsE at *
  simp only [List.flatMap_cons, List.length_append, List.length_cons, List.length_nil, h]
  omega
set_option maxHeartbeats 16000000 in
theorem xends_any (v : Value) (l : List EdgeQ) (k : Nat) (w : World) (hr : RowK 12 (EdgeR k) w v l) (hq : ∀ x ∈ l, EB k x) (hk : 1 ≤ k) (hs : k < 67108864) (hl : l.length ≤ 549755813888) :
  Calls Tryz.prog 17 #[v] w fun e w' => ∃ v', e = .returned v' ∧ RowC w' v' (rowQ (endsE l)) ∧ Grew w w' := by
 obtain ⟨A, c, rfl, h1, h2, h3⟩ := hr
 obtain ⟨L, hL⟩ : ∃ L, l.length = L := ⟨_, rfl⟩
 rw [hL] at h1 hl h3
 rw [hL]
 have hm : L ≤ 9223372036854775807 := by omega
 replace h3 := hZ h3
 replace hq := hZ hq
 have hqe := hZ (fun p (hp : p ∈ endsE l) => show QB p.1 k ∧ QB p.2 k from by
  unfold endsE at hp
  obtain ⟨x, hx, h⟩ := List.mem_flatMap.1 hp
  have := hq.out x hx
  simp only [List.mem_cons, List.not_mem_nil, or_false] at h
  rcases h with rfl | rfl
  ·exact this.1
  ·exact this.2)
 have hmk := make_spotsK (2 * L) (by omega) w
 have hO0 := hZ (OwnK.made 6 Spot6R 35 w w.heap.size (2 * L) (Nat.le_refl _) (by unfold maxLen; omega) _ (madeK_mem (z := (Value.agg #[.bool false, .slice none 0 0, .slice none 0 0, .bool false, .slice none 0 0, .slice none 0 0])) (k := 6) rfl (by omega) (n := 2 * L * 6) znoS) (size_madeCells _ _))
 have hG0 := hZ ((Grew.refl w).alloc (.cells (madeCells (Value.agg #[.bool false, .slice none 0 0, .slice none 0 0, .bool false, .slice none 0 0, .slice none 0 0]).cells (2 * L * 6)) 35))
 generalize w.alloc (.cells (madeCells (Value.agg #[.bool false, .slice none 0 0, .slice none 0 0, .bool false, .slice none 0 0, .slice none 0 0]).cells (2 * L * 6)) 35) = W1 at hmk hO0 hG0
 have hw2 : IntKind.i64.wrap (2 * (L : Int)) = 2 * (L : Int) := IntWalk.i64_in _ (by omega)
 rw [show ((2 * L : Nat) : Int) = 2 * (L : Int) by omega] at hmk
 go_enter Tryz.func17, Tryz.ntmps17
 go_wp2_with fail
 go_loopg [3, 12] L (fun gk ov ii wr => ∃ j : Nat, gk + j = L ∧ ii = .int .i64 j ∧ OwnK 6 Spot6R 35 wr w.heap.size ov (endsE (l.take j)) ∧ Grew w wr)
 case atStart => exact ⟨0, rfl, rfl, by rw [List.take_zero]; exact hO0.out, hG0.out⟩
 case round =>
  obtain ⟨j, hj, rfl, hO, hG⟩ := hrel
  clear hO0 hG0 hmk
  by_cases hlt : j < L
  ·obtain ⟨b, o, rfl, he⟩ := h3.out (by omega)
   obtain ⟨x, hx⟩ : ∃ x, l[j]? = some x := ⟨l[j]'(by omega), List.getElem?_eq_getElem _⟩
   have htk := hZ (endsE_succ hx)
   obtain ⟨b1, A1, n1, c1, C1, m1, d1, b2, A2, n2, c2, C2, m2, d2, b3, A3, n3, c3, C3, m3, d3, b4, A4, n4, c4, C4, m4, d4, ⟨e0, e1, e2, e3, e4, e5, e6, e7, e8, e9, e10, e11⟩, S1⟩ := cellsE (he j x hx)
   obtain ⟨b21, A21, n21, c21, C21, m21, d21, b22, A22, n22, c22, C22, m22, d22, b23, A23, n23, c23, C23, m23, d23, b24, A24, n24, c24, C24, m24, d24, e9, Fa, Fb⟩ := EdgeR.laid S1.out
   injection e9 with e9
   simp only [List.cons.injEq, Value.bool.injEq, Value.slice.injEq, and_true] at e9
   obtain ⟨rfl, ⟨rfl, rfl, rfl⟩, ⟨rfl, rfl, rfl⟩, rfl, ⟨rfl, rfl, rfl⟩, ⟨rfl, rfl, rfl⟩, rfl, ⟨rfl, rfl, rfl⟩, ⟨rfl, rfl, rfl⟩, rfl, ⟨rfl, rfl, rfl⟩, rfl, rfl, rfl⟩ := e9
   have f0 : wr.cell? ⟨b, o + j * 12, none⟩ = some (.bool b1) := hG.cell e0
   have f1 : wr.cell? ⟨b, o + j * 12 + 1, none⟩ = some (.slice A1 n1 c1) := hG.cell e1
   have f2 : wr.cell? ⟨b, o + j * 12 + 2, none⟩ = some (.slice C1 m1 d1) := hG.cell e2
   have f3 : wr.cell? ⟨b, o + j * 12 + 3, none⟩ = some (.bool b2) := hG.cell e3
   have f4 : wr.cell? ⟨b, o + j * 12 + 4, none⟩ = some (.slice A2 n2 c2) := hG.cell e4
   have f5 : wr.cell? ⟨b, o + j * 12 + 5, none⟩ = some (.slice C2 m2 d2) := hG.cell e5
   have f6 : wr.cell? ⟨b, o + j * 12 + 6, none⟩ = some (.bool b3) := hG.cell e6
   have f7 : wr.cell? ⟨b, o + j * 12 + 7, none⟩ = some (.slice A3 n3 c3) := hG.cell e7
   have f8 : wr.cell? ⟨b, o + j * 12 + 8, none⟩ = some (.slice C3 m3 d3) := hG.cell e8
   have f9 : wr.cell? ⟨b, o + j * 12 + 9, none⟩ = some (.bool b4) := hG.cell e9
   have f10 : wr.cell? ⟨b, o + j * 12 + 10, none⟩ = some (.slice A4 n4 c4) := hG.cell e10
   have f11 : wr.cell? ⟨b, o + j * 12 + 11, none⟩ = some (.slice C4 m4 d4) := hG.cell e11
   have hO' := hZ hO
   have hG' := hZ hG
   have hne : Hid (u3.ownBlock ≠ some wr.heap.size) := hZ fun e => Nat.lt_irrefl _ (hO.lt e)
   have hlen : (l.take j).length = j := by rw [List.length_take]; omega
   have hel := endsE_len (l.take j)
   have hjl : (j : Int) < (L : Int) := by omega
   clear e0 e1 e2 e3 e4 e5 e6 e7 e8 e9 e10 e11 he hO hG hx S1
   go_upto_region 5 with fail
   refine gen_wp ?_
   intro W9 hW9
   have gl : Grew wr W9 := by rw [hW9]; exact (Grew.refl _).alloc _
   have hloc : LocN w wr.heap.size [.bool b1, .slice A1 n1 c1, .slice C1 m1 d1, .bool b2, .slice A2 n2 c2, .slice C2 m2 d2, .bool b3, .slice A3 n3 c3, .slice C3 m3 d3, .bool b4, .slice A4 n4 c4, .slice C4 m4 d4] W9 := ⟨hG'.out.trans gl, by
    intro j u hu
    rw [hW9, cell_of_row _ wr.heap.size j _ _ (0, 0) (heap_alloc_new wr _), ← Array.getElem?_toList]; exact hu⟩
   have og := hZ (OwnK.grew says_spot hO'.out gl)
   replace hloc := hZ hloc
   clear hW9 gl hO' hG' f0 f1 f2 f3 f4 f5 f6 f7 f8 f9 f10 f11
   go_wp2_with fail
   refine wp_region_held_drew (S := fun wv => LocN w wr.heap.size [.bool b1, .slice A1 n1 c1, .slice C1 m1 d1, .bool b2, .slice A2 n2 c2, .slice C2 m2 d2, .bool b3, .slice A3 n3 c3, .slice C3 m3 d3, .bool b4, .slice A4 n4 c4, .slice C4 m4 d4] wv) (by kernel_rfl) (hloc.out.drew) (fun hHeld => ?_)
   replace hHeld := hZ hHeld
   try simp only [Act.put, List.setIfInBounds_toArray, List.set_cons_zero, List.set_cons_succ]
   refine wpAnyH_takeD (i := 0) (d := 16) (v := ?_) rfl rfl (by kernel_rfl) (by kernel_rfl) (by kernel_rfl) (fun _ _ _ h => h) (Or.inl ⟨by rfl, ?_⟩) hHeld.out ?_
   rotate_left
   ·intro wv hSw
    replace hSw : Hid (LocN w wr.heap.size [.bool b1, .slice A1 n1 c1, .slice C1 m1 d1, .bool b2, .slice A2 n2 c2, .slice C2 m2 d2, .bool b3, .slice A3 n3 c3, .slice C3 m3 d3, .bool b4, .slice A4 n4 c4, .slice C4 m4 d4] wv) := hZ hSw
    go_simp
    try with_reducible rfl
   try simp only [Act.put, List.setIfInBounds_toArray, List.set_cons_zero, List.set_cons_succ]
   refine wpAnyH_takeD (i := 1) (d := 17) (v := ?_) rfl rfl (by kernel_rfl) (by kernel_rfl) (by kernel_rfl) (fun _ _ _ h => h) (Or.inl ⟨by rfl, ?_⟩) hHeld.out ?_
   rotate_left
   ·intro wv hSw
    replace hSw : Hid (LocN w wr.heap.size [.bool b1, .slice A1 n1 c1, .slice C1 m1 d1, .bool b2, .slice A2 n2 c2, .slice C2 m2 d2, .bool b3, .slice A3 n3 c3, .slice C3 m3 d3, .bool b4, .slice A4 n4 c4, .slice C4 m4 d4] wv) := hZ hSw
    go_simp
    try with_reducible rfl
   try simp only [Act.put, List.setIfInBounds_toArray, List.set_cons_zero, List.set_cons_succ]
   refine wpAnyH_takeD (i := 2) (d := 18) (v := ?_) rfl rfl (by kernel_rfl) (by kernel_rfl) (by kernel_rfl) (fun _ _ _ h => h) (Or.inl ⟨by rfl, ?_⟩) hHeld.out ?_
   rotate_left
   ·intro wv hSw
    replace hSw : Hid (LocN w wr.heap.size [.bool b1, .slice A1 n1 c1, .slice C1 m1 d1, .bool b2, .slice A2 n2 c2, .slice C2 m2 d2, .bool b3, .slice A3 n3 c3, .slice C3 m3 d3, .bool b4, .slice A4 n4 c4, .slice C4 m4 d4] wv) := hZ hSw
    have t0 := hSw.out.2 0 _ rfl
    have t1 := hSw.out.2 1 _ rfl
    have t2 := hSw.out.2 2 _ rfl
    have t3 := hSw.out.2 3 _ rfl
    have t4 := hSw.out.2 4 _ rfl
    have t5 := hSw.out.2 5 _ rfl
    go_simp
    try with_reducible rfl
   try simp only [Act.put, List.setIfInBounds_toArray, List.set_cons_zero, List.set_cons_succ]
   refine wpAnyH_takeD (i := 4) (d := 20) (v := ?_) rfl rfl (by kernel_rfl) (by kernel_rfl) (by kernel_rfl) (fun _ _ _ h => h) (Or.inl ⟨by rfl, ?_⟩) hHeld.out ?_
   rotate_left
   ·intro wv hSw
    replace hSw : Hid (LocN w wr.heap.size [.bool b1, .slice A1 n1 c1, .slice C1 m1 d1, .bool b2, .slice A2 n2 c2, .slice C2 m2 d2, .bool b3, .slice A3 n3 c3, .slice C3 m3 d3, .bool b4, .slice A4 n4 c4, .slice C4 m4 d4] wv) := hZ hSw
    go_simp
    try with_reducible rfl
   try simp only [Act.put, List.setIfInBounds_toArray, List.set_cons_zero, List.set_cons_succ]
   refine wpAnyH_takeD (i := 5) (d := 21) (v := ?_) rfl rfl (by kernel_rfl) (by kernel_rfl) (by kernel_rfl) (fun _ _ _ h => h) (Or.inl ⟨by rfl, ?_⟩) hHeld.out ?_
   rotate_left
   ·intro wv hSw
    replace hSw : Hid (LocN w wr.heap.size [.bool b1, .slice A1 n1 c1, .slice C1 m1 d1, .bool b2, .slice A2 n2 c2, .slice C2 m2 d2, .bool b3, .slice A3 n3 c3, .slice C3 m3 d3, .bool b4, .slice A4 n4 c4, .slice C4 m4 d4] wv) := hZ hSw
    have t6 := hSw.out.2 6 _ rfl
    have t7 := hSw.out.2 7 _ rfl
    have t8 := hSw.out.2 8 _ rfl
    have t9 := hSw.out.2 9 _ rfl
    have t10 := hSw.out.2 10 _ rfl
    have t11 := hSw.out.2 11 _ rfl
    go_simp
    try with_reducible rfl
   try simp only [Act.put, List.setIfInBounds_toArray, List.set_cons_zero, List.set_cons_succ]
   refine wpAnyH_ready (rs := [3]) (by kernel_rfl) (by simp) ?_
   refine AllReadyH.cons rfl (fun KK hKK => ?_) AllReadyH.nil
   go_simp
   refine (xclean_any _ x.1.1 x.1.2 k _ (SpotR.kept Fa.out hHeld.out.1.keeps).v hk hs).mono ?_
   rintro e wk1 ⟨V1, rfl, hV1, g⟩
   have gk := hHeld.out.trans g
   obtain ⟨b13, A13, n13, c13, C13, m13, d13, b14, A14, n14, c14, C14, m14, d14, rfl, -, -, X1⟩ := hV1.laid
   clear hV1
   have o1 := hZ (OwnK.grew says_spot og.out (((Grew.refl W9).drew).trans g))
   clear hHeld
   try dsimp only
   refine hKK.out _ _ gk (fun hHeld => ?_)
   clear gk hKK KK
   replace hHeld := hZ (show LocN w wr.heap.size [.bool b1, .slice A1 n1 c1, .slice C1 m1 d1, .bool b2, .slice A2 n2 c2, .slice C2 m2 d2, .bool b3, .slice A3 n3 c3, .slice C3 m3 d3, .bool b4, .slice A4 n4 c4, .slice C4 m4 d4] wk1 from hHeld)
   try simp only [Act.put, List.setIfInBounds_toArray, List.set_cons_zero, List.set_cons_succ]
   refine wpAnyH_ready (rs := [6]) (by kernel_rfl) (by simp) ?_
   refine AllReadyH.cons rfl (fun KK hKK => ?_) AllReadyH.nil
   go_simp
   refine (xclean_any _ x.2.1 x.2.2 k _ (SpotR.kept Fb.out hHeld.out.1.keeps).v hk hs).mono ?_
   rintro e wk2 ⟨V2, rfl, hV2, g⟩
   have gk := hHeld.out.trans g
   obtain ⟨b15, A15, n15, c15, C15, m15, d15, b16, A16, n16, c16, C16, m16, d16, rfl, -, -, X2⟩ := hV2.laid
   clear hV2
   replace X1 := hZ (SpotC.kept X1.out g.keeps)
   replace o1 := hZ (OwnK.grew says_spot o1.out g)
   clear hHeld
   try dsimp only
   refine hKK.out _ _ gk (fun hHeld => ?_)
   clear gk hKK KK
   replace hHeld := hZ (show LocN w wr.heap.size [.bool b1, .slice A1 n1 c1, .slice C1 m1 d1, .bool b2, .slice A2 n2 c2, .slice C2 m2 d2, .bool b3, .slice A3 n3 c3, .slice C3 m3 d3, .bool b4, .slice A4 n4 c4, .slice C4 m4 d4] wk2 from hHeld)
   try simp only [Act.put, List.setIfInBounds_toArray, List.set_cons_zero, List.set_cons_succ]
   refine wpAnyH_ready (rs := [7]) (by kernel_rfl) (by simp) ?_
   refine AllReadyH.cons rfl (fun KK hKK => ?_) AllReadyH.nil
   go_simp
   have gP := hHeld
   clear hHeld
   try dsimp only
   refine hKK.out _ _ (gP.out.alloc _) (fun hHeld => ?_)
   clear hKK KK
   replace hHeld := hZ hHeld
   try simp only [Act.put, List.setIfInBounds_toArray, List.set_cons_zero, List.set_cons_succ]
   refine wpAnyH_ready (rs := [8]) (by kernel_rfl) (by simp) ?_
   refine AllReadyH.cons rfl (fun KK hKK => ?_) AllReadyH.nil
   refine wp_appK (m := [x.1, x.2]) (.tmp 16) (.tmp 23) 41 rfl rfl says_spot o1.out _ (cells_two says_spot (x := x.1) (y := x.2) X1.out X2.out) rfl _ 112 Tryz.underlying41 info_spot rfl (by omega) znoS (by simp only [List.length_cons, List.length_nil]; omega) (by omega) gP.out.1.size ?_
   intro vk3 wk3 hO9 hK9 hC9 hB9 hG9
   have gk : LocN w wr.heap.size [.bool b1, .slice A1 n1 c1, .slice C1 m1 d1, .bool b2, .slice A2 n2 c2, .slice C2 m2 d2, .bool b3, .slice A3 n3 c3, .slice C3 m3 d3, .bool b4, .slice A4 n4 c4, .slice C4 m4 d4] wk3 := ⟨hG9 w (Nat.le_refl _) gP.out.1, fun j u hu => hC9 _ _ _ hne.out (gP.out.2 j u hu)⟩
   clear hK9 hC9 hB9 hG9 o1 X1 X2 gP
   clear hHeld
   try dsimp only
   refine hKK.out _ _ gk (fun hHeld => ?_)
   clear gk hKK KK
   replace hHeld := hZ (show LocN w wr.heap.size [.bool b1, .slice A1 n1 c1, .slice C1 m1 d1, .bool b2, .slice A2 n2 c2, .slice C2 m2 d2, .bool b3, .slice A3 n3 c3, .slice C3 m3 d3, .bool b4, .slice A4 n4 c4, .slice C4 m4 d4] wk3 from hHeld)
   try simp only [Act.put, List.setIfInBounds_toArray]
   refine wpAnyH_takeD (i := 9) (d := 3) (v := ?_) rfl rfl (by kernel_rfl) (by kernel_rfl) (by kernel_rfl) (fun _ _ _ h => h) (Or.inl ⟨by rfl, ?_⟩) hHeld.out ?_
   rotate_left
   ·intro wv hSw
    replace hSw : Hid (LocN w wr.heap.size [.bool b1, .slice A1 n1 c1, .slice C1 m1 d1, .bool b2, .slice A2 n2 c2, .slice C2 m2 d2, .bool b3, .slice A3 n3 c3, .slice C3 m3 d3, .bool b4, .slice A4 n4 c4, .slice C4 m4 d4] wv) := hZ hSw
    go_simp
    try with_reducible rfl
   try simp only [Act.put]
   refine wpAnyH_done (by kernel_rfl) ?_ _
   rw [← htk.out] at hO9
   replace hO9 := hZ hO9
   go_wp2_with fail
   go_roundg (gk - 1)
   case rel => exact ⟨j + 1, by omega, by go_num, hO9.out, hHeld.out.1⟩
   case measure => omega
  ·obtain rfl : j = L := by omega
   have hall : l.take j = l := by rw [← hL]; exact List.take_length
   rw [hall] at hO
   have hO' := hZ hO
   have hG' := hZ hG
   clear hO hG
   go_wp2_with fail
   refine (prow_any w.heap.size _ (endsE l) k _ hO'.out (hqe.out) hk hs (by rw [endsE_len]; omega)).mono ?_
   rintro e w2 ⟨V2, rfl, hO2, hG2⟩
   have hg := hZ (hG2 w (Nat.le_refl _) hG'.out)
   have hrow := hZ hO2.row
   clear hO2 hG2 hG' hO'
   go_wp2_with fail
   go_ret
   exact ⟨_, rfl, row_spot.1 (by rw [← rowG_spot]; exact hrow.out), hg.out⟩
theorem Flat.append {w : World} {xs ys : List Value} {l m : List (Rat × Rat)} (h : Flat w xs l) (k : Flat w ys m) : Flat w (xs ++ ys) (l ++ m) := by
 obtain ⟨h1, h2, h3⟩ := h
 obtain ⟨k1, k2, k3⟩ := k
 refine ⟨by simp [h1, k1]; omega, fun u hu => ?_, fun i p hp => ?_⟩
 ·rcases List.mem_append.1 hu with hu | hu
  ·exact h2 u hu
  ·exact k2 u hu
 ·by_cases hi : i < l.length
  ·rw [List.getElem?_append_left hi] at hp
   refine (h3 i p hp).mono (fun _ h => h) (fun j u hj hu => ?_)
   rw [List.getElem?_append_left (by rw [h1]; omega)]; exact hu
  ·rw [List.getElem?_append_right (by omega)] at hp
   refine (k3 _ p hp).mono (fun _ h => h) (fun j u hj hu => ?_)
   rw [List.getElem?_append_right (by rw [h1]; omega), show i * 6 + j - xs.length = (i - l.length) * 6 + j by rw [h1]; omega]; exact hu
theorem RowC.flat {w : World} {v : Value} {l : List (Rat × Rat)} (h : RowC w v l) (h0 : 0 < l.length) : ∃ a c xs, v = .slice (some a) l.length c ∧ Flat w xs l ∧ (∀ u ∈ xs, u.oneCell' = true) ∧ ∀ j u, xs[j]? = some u → w.cell? (a.add j) = some u := by
 obtain ⟨A, c, rfl, h1, h2, h3⟩ := h
 obtain ⟨b, o, rfl, he⟩ := h3 h0
 have hel : ∀ t, t < l.length * 6 → ∃ u, w.cell? ⟨b, o + t, none⟩ = some u ∧ NoInt u ∧ u.oneCell' = true := by
  intro t ht
  obtain ⟨b1, A, n, c0, C, m, d, b2, A', n', c0', C', m', d', ⟨e0, e1, e2, e3, e4, e5⟩, -⟩ := he (t / 6) _ (List.getElem?_eq_getElem (by omega))
  have e : t % 6 = 0 ∨ t % 6 = 1 ∨ t % 6 = 2 ∨ t % 6 = 3 ∨ t % 6 = 4 ∨ t % 6 = 5 := by omega
  have e6 : ∀ j, t % 6 = j → o + t = o + (t / 6 * 6 + j) := fun j h => by omega
  rcases e with e | e | e | e | e | e
  ·rw [e6 _ e]; exact ⟨_, e0, fun k x e => by simp at e, rfl⟩
  ·rw [e6 _ e]; exact ⟨_, e1, fun k x e => by simp at e, rfl⟩
  ·rw [e6 _ e]; exact ⟨_, e2, fun k x e => by simp at e, rfl⟩
  ·rw [e6 _ e]; exact ⟨_, e3, fun k x e => by simp at e, rfl⟩
  ·rw [e6 _ e]; exact ⟨_, e4, fun k x e => by simp at e, rfl⟩
  ·rw [e6 _ e]; exact ⟨_, e5, fun k x e => by simp at e, rfl⟩
 have hx : ∀ t, t < l.length * 6 → ((List.range (l.length * 6)).map fun t => (w.cell? ⟨b, o + t, none⟩).getD undef)[t]? = w.cell? ⟨b, o + t, none⟩ := by
  intro t ht
  obtain ⟨u, hu, -⟩ := hel t ht
  rw [List.getElem?_map, List.getElem?_range ht, Option.map_some, hu]; rfl
 refine ⟨⟨b, o, none⟩, c, (List.range (l.length * 6)).map fun t => (w.cell? ⟨b, o + t, none⟩).getD undef, rfl, ⟨by simp, ?_, ?_⟩, ?_, ?_⟩
 ·intro u hu
  obtain ⟨t, ht, rfl⟩ := List.mem_map.1 hu
  obtain ⟨u, hu, hn, -⟩ := hel t (List.mem_range.1 ht)
  rw [hu]; exact hn
 ·intro i p hp
  have hi := (List.getElem?_eq_some_iff.1 hp).1
  refine (he i p hp).mono (fun _ h => h) (fun j u hj hu => ?_)
  rw [hx _ (by omega)]; exact hu
 ·intro u hu
  obtain ⟨t, ht, rfl⟩ := List.mem_map.1 hu
  obtain ⟨u, hu, -, ho⟩ := hel t (List.mem_range.1 ht)
  rw [hu]; exact ho
 ·intro j u hu
  have hj : j < l.length * 6 := by simpa using (List.getElem?_eq_some_iff.1 hu).1
  have hadd : (⟨b, o, none⟩ : Addr).add j = ⟨b, o + j, none⟩ := by unfold Addr.add; split <;> simp_all
  rw [hadd, ← hx j hj]; exact hu
theorem run_appRow {w : World} {base : Nat} {v x : Value} {l m : List (Rat × Rat)} (hO : OwnC 35 w base v l) (hR : RowC w x m) (hlen : l.length + m.length ≤ 1099511627776) (hbase : base ≤ w.heap.size) (ty : TypeId) :
  ∃ v' w', (Builtin.append_ #[41, 41] ty #[v, x]).run Tryz.prog w = .ok v' w' ∧ OwnC 35 w' base v' (l ++ m) ∧ ∀ W, W.heap.size ≤ base → Grew W w → Grew W w' := by
 obtain ⟨i, hi, hz, hsize, hbyt⟩ := info_parts info_spot
 by_cases h0 : m.length = 0
 ·obtain rfl : m = [] := List.eq_nil_of_length_eq_zero h0
  obtain ⟨A, c, rfl, -, -, -⟩ := hR
  refine ⟨v, w, ?_, by rw [List.append_nil]; exact hO, fun _ _ h => h⟩
  obtain ⟨B, d, rfl, k1, -, -⟩ := hO.row
  cases A <;> cases B <;> simp [Builtin.append_, run_underlying Tryz.underlying41, sizeOf, typeInfo, hi, Builtin.lenOf, Builtin.firstCells, loadCells, loadCellsFrom, storeCells, k1]
 ·obtain ⟨a, c, ys, rfl, hF, hone, hc⟩ := hR.flat (by omega)
  obtain ⟨xs, hown, hFx⟩ := hO
  obtain ⟨v', w', hr, h2, h3, hd, h4⟩ := run_appS (P := Tryz.prog) w base 41 ty 35 i _ 6 112 Tryz.underlying41 hi hz hsize hbyt rfl (by omega) zero_spot v l.length xs hown a m.length c ys hF.1 hc hone hF.2.1 (by unfold maxLen; omega) (by omega) hbase
  refine ⟨v', w', hr, ⟨xs ++ ys, by rw [List.length_append]; exact h2, (hFx.append hF).kept h4⟩, fun W hW hG => hG.grown h3 hd fun k hk => Nat.le_trans hW (hown.1.lt k hk).1⟩
section
variable {w : World} {base : Nat} {v X : Value} {l m : List (Rat × Rat)}
theorem wpList_appRow {ops : Array Oper} {rest : List Oper} {o : Oper} {a : Act} {Q : Exit → Act → World → Prop} (hgd : o.guard = none) (s x : Operand)
  (ho : o.op = .call { callee := .builtin .append, args := #[s, x], argTypes := #[41, 41] }) (hs : a.eval s = v) (hx : a.eval x = X)
  (hO : OwnC 35 w base v l) (hR : RowC w X m) (hlen : l.length + m.length ≤ 1099511627776) (hbase : base ≤ w.heap.size)
  (h : ∀ v' w', OwnC 35 w' base v' (l ++ m) → (∀ W, W.heap.size ≤ base → Grew W w → Grew W w') → wpList Tryz.prog ops Q rest (a.put o.dst v') w') : wpList Tryz.prog ops Q (o :: rest) a w := by
 refine wpList_plain hgd fun _ hK => ?_
 obtain ⟨v', w', hr, h1, h2⟩ := run_appRow hO hR hlen hbase o.type
 unfold Oper.wp execOp
 simp only [ho, resolve, invoke, builtin, Sem.run_bind, Sem.run_pure, Result.andThen_ok, List.map_toArray, List.map_cons, List.map_nil, hs, hx, hr]
 exact hK _ _ (h v' w' h1 h2)
theorem wp_appRow {o : Oper} {a : Act} {K : Act → World → Prop} {Q : Exit → Act → World → Prop} (s x : Operand)
  (ho : o.op = .call { callee := .builtin .append, args := #[s, x], argTypes := #[41, 41] }) (hs : a.eval s = v) (hx : a.eval x = X)
  (hO : OwnC 35 w base v l) (hR : RowC w X m) (hlen : l.length + m.length ≤ 1099511627776) (hbase : base ≤ w.heap.size)
  (h : ∀ v' w', OwnC 35 w' base v' (l ++ m) → (∀ W, W.heap.size ≤ base → Grew W w → Grew W w') → K (a.put o.dst v') w') : Oper.wp Tryz.prog o a w K Q := by
 obtain ⟨v', w', hr, h1, h2⟩ := run_appRow hO hR hlen hbase o.type
 unfold Oper.wp execOp
 simp only [ho, resolve, invoke, builtin, Sem.run_bind, Sem.run_pure, Result.andThen_ok, List.map_toArray, List.map_cons, List.map_nil, hs, hx, hr]
 exact h v' w' h1 h2
end
theorem run_clear_spots (W : World) (g o s n c : Nat) (cur : Array Value) (e : TypeId) (hg : W.heap[g]? = some (.cells cur e (0, 0))) (hn : 0 < n) (ho : o = s) (hs : s + n * 6 ≤ cur.size) (ty : TypeId) :
  (Builtin.clear_ #[41] ty #[.slice (some ⟨g, o, none⟩) n c]).run Tryz.prog W = .ok (.tuple #[]) (W.setCells g s (Builtin.zeroCells (Value.agg #[.bool false, .slice none 0 0, .slice none 0 0, .bool false, .slice none 0 0, .slice none 0 0]).cells n).toList) := by
 subst ho
 have hz : ∀ k, ∀ u ∈ (Builtin.zeroCells (Value.agg #[.bool false, .slice none 0 0, .slice none 0 0, .bool false, .slice none 0 0, .slice none 0 0]).cells k).toList, u.oneCell' = true := by
  intro k u hu
  simp only [Builtin.zeroCells, Array.mem_toList_iff, Array.mem_map, Array.mem_range] at hu
  obtain ⟨j, -, rfl⟩ := hu
  have hlt : j % (Value.agg #[.bool false, .slice none 0 0, .slice none 0 0, .bool false, .slice none 0 0, .slice none 0 0]).cells.size < 6 := Nat.mod_lt _ (by decide)
  generalize j % (Value.agg #[.bool false, .slice none 0 0, .slice none 0 0, .bool false, .slice none 0 0, .slice none 0 0]).cells.size = t at hlt ⊢
  have ht : t = 0 ∨ t = 1 ∨ t = 2 ∨ t = 3 ∨ t = 4 ∨ t = 5 := by omega
  rcases ht with rfl | rfl | rfl | rfl | rfl | rfl <;> rfl
 have hl : (Builtin.zeroCells (Value.agg #[.bool false, .slice none 0 0, .slice none 0 0, .bool false, .slice none 0 0, .slice none 0 0]).cells n).toList.length = n * 6 := by simp [Builtin.zeroCells, Value.cells]
 have h := stores_of_holds Tryz.prog (holds_cur hg) o _ (by rw [hl]; exact hs) (hz n)
 rw [Nat.zero_add] at h
 obtain ⟨m, rfl⟩ : ∃ m, n = m + 1 := ⟨n - 1, by omega⟩
 simp [Builtin.clear_, run_underlying Tryz.underlying41, Tryz.zeroValue35, h]
theorem OwnC.cur {e : TypeId} {w : World} {base g o n cap : Nat} {l : List (Rat × Rat)} (h : OwnC e w base (.slice (some ⟨g, o, none⟩) n cap) l) (hl : 0 < l.length) :
  ∃ cur : Array Value, w.heap[g]? = some (.cells cur e (0, 0)) ∧ cur.size = cap * 6 := by
 obtain ⟨g', cap', cur, hv, -, -, hg, -, -, hcs, -⟩ := h.at hl
 injection hv with hv1 hv2 hv3
 injection hv1 with hv1
 injection hv1 with hv1 hv4
 subst hv1
 subst hv3
 exact ⟨cur, hg, hcs⟩
theorem zeros_noint (k : Nat) : ∀ u ∈ (Builtin.zeroCells (Value.agg #[.bool false, .slice none 0 0, .slice none 0 0, .bool false, .slice none 0 0, .slice none 0 0]).cells k).toList, NoInt u := by
 intro u hu
 simp only [Builtin.zeroCells, Array.mem_toList_iff, Array.mem_map, Array.mem_range] at hu
 obtain ⟨j, -, rfl⟩ := hu
 have hlt : j % (Value.agg #[.bool false, .slice none 0 0, .slice none 0 0, .bool false, .slice none 0 0, .slice none 0 0]).cells.size < 6 := Nat.mod_lt _ (by decide)
 generalize j % (Value.agg #[.bool false, .slice none 0 0, .slice none 0 0, .bool false, .slice none 0 0, .slice none 0 0]).cells.size = t at hlt ⊢
 have ht : t = 0 ∨ t = 1 ∨ t = 2 ∨ t = 3 ∨ t = 4 ∨ t = 5 := by omega
 rcases ht with rfl | rfl | rfl | rfl | rfl | rfl <;> intro k x e <;> simp [Value.cells] at e
theorem zeros_len (k : Nat) : (Builtin.zeroCells (Value.agg #[.bool false, .slice none 0 0, .slice none 0 0, .bool false, .slice none 0 0, .slice none 0 0]).cells k).toList.length = k * 6 := by simp [Builtin.zeroCells, Value.cells]
theorem OwnC.el {e : TypeId} {w : World} {base g o n cap : Nat} {l : List (Rat × Rat)} (h : OwnC e w base (.slice (some ⟨g, o, none⟩) n cap) l) {i : Nat} {p : Rat × Rat} (hp : l[i]? = some p) :
  ∃ b A n c0 C m d b' A' n' c0' C' m' d', (w.cell? ⟨g, o + i * 6, none⟩ = some (.bool b) ∧ w.cell? ⟨g, o + i * 6 + 1, none⟩ = some (.slice A n c0) ∧ w.cell? ⟨g, o + i * 6 + 2, none⟩ = some (.slice C m d) ∧ w.cell? ⟨g, o + i * 6 + 3, none⟩ = some (.bool b') ∧ w.cell? ⟨g, o + i * 6 + 4, none⟩ = some (.slice A' n' c0') ∧ w.cell? ⟨g, o + i * 6 + 5, none⟩ = some (.slice C' m' d')) ∧
   (∀ j, w.frozen? ⟨g, j, none⟩ = false) ∧ Hid (SpotC w (.agg #[.bool b, .slice A n c0, .slice C m d, .bool b', .slice A' n' c0', .slice C' m' d']) p.1 p.2) := by
 have hl : 0 < l.length := by
  have := (List.getElem?_eq_some_iff.1 hp).1
  omega
 obtain ⟨g', cap', cur, hv, -, -, hg, -, -, -, hel⟩ := h.at hl
 injection hv with hv1 hv2 hv3
 injection hv1 with hv1
 injection hv1 with hv1 hv4
 subst hv1
 subst hv4
 obtain ⟨b, A, n, c, C, m, d, b', A', n', c', C', m', d', ⟨h0, h1, h2, h3, h4, h5⟩, hS⟩ := hel i p hp
 have hc : ∀ j, w.cell? ⟨g, j, none⟩ = cur[j]? := fun j => cell_of_row w g j cur e (0, 0) hg
 refine ⟨b, A, n, c, C, m, d, b', A', n', c', C', m', d', ⟨?_, ?_, ?_, ?_, ?_, ?_⟩, fun j => ?_, hS⟩
 ·rw [hc, Nat.zero_add]; exact h0
 ·rw [hc, Nat.zero_add]; exact h1
 ·rw [hc, Nat.zero_add]; exact h2
 ·rw [hc, Nat.zero_add]; exact h3
 ·rw [hc, Nat.zero_add]; exact h4
 ·rw [hc, Nat.zero_add]; exact h5
 ·unfold World.frozen?
  rw [hg]; simp
theorem set_take {r : List (Rat × Rat)} {n : Nat} {q : Rat × Rat} (h : n < r.length) : (r.set n q).take (n + 1) = r.take n ++ [q] := by
 rw [take_snoc (p := q) (by rw [List.getElem?_set_self h])]
 congr 1
 apply List.ext_getElem?
 intro i
 simp only [List.getElem?_take]
 split
 ·rw [List.getElem?_set_ne (by omega)]
 ·rfl
theorem OwnC.store' {e : TypeId} {w : World} {base g o n cap k : Nat} {l : List (Rat × Rat)} {p : Rat × Rat} {b b' : Bool} {A C A' C' : Option Addr} {m c m1 d m' c' m2 d' : Nat} (ho : o = 0)
  (h : OwnC e w base (.slice (some ⟨g, o, none⟩) n cap) l) (hn : l.length = n) (hk : k < n)
  (hV : SpotC w (.agg #[.bool b, .slice A m c, .slice C m1 d, .bool b', .slice A' m' c', .slice C' m2 d']) p.1 p.2) :
  OwnC e (w.setCells g (o + k * 6) [.bool b, .slice A m c, .slice C m1 d, .bool b', .slice A' m' c', .slice C' m2 d']) base (.slice (some ⟨g, o, none⟩) n cap) (l.set k p) ∧
  Wrote g w (w.setCells g (o + k * 6) [.bool b, .slice A m c, .slice C m1 d, .bool b', .slice A' m' c', .slice C' m2 d']) ∧ base ≤ g := by
 subst ho
 rw [Nat.zero_add]
 obtain ⟨h1, -, h2, h3⟩ := h.store hn hk hV
 exact ⟨h1, h2, h3⟩
set_option maxHeartbeats 16000000 in
theorem compact_any (base : Nat) (v : Value) (l : List (Rat × Rat)) (k : Nat) (w : World) (hO : OwnC 35 w base v l) (hq : ∀ p ∈ l, QB p.1 k ∧ QB p.2 k) (hk : 1 ≤ k) (hs : k < 67108864) (hl : l.length ≤ 1099511627776) :
  Calls Tryz.prog 59 #[v, .func (.func 21) #[] #[]] w fun e w' => ∃ v', e = .returned v' ∧ OwnC 35 w' base v' (compQ l) ∧ ∀ W, W.heap.size ≤ base → Grew W w → Grew W w' := by
 obtain ⟨L, hL⟩ : ∃ L, l.length = L := ⟨_, rfl⟩
 rw [hL] at hl
 replace hq := hZ hq
 by_cases hsh : L < 2
 ·have hc := comp_short (l := l) (by omega)
  obtain ⟨A, c, rfl, -, -, -⟩ := hO.row
  rw [hL] at hO ⊢
  replace hO := hZ hO
  have h2 : (L : Int) < 2 := by omega
  have hm : L ≤ 9223372036854775807 := by omega
  go_enter Tryz.func59, Tryz.ntmps59
  go_wp2_with fail
  go_ret
  exact ⟨_, rfl, by rw [hc]; exact hO.out, fun _ _ h => h⟩
 obtain ⟨g, cap, -, rfl, hbg, -, -, hcap, hcm, -, -⟩ := hO.at (by omega)
 rw [hL] at hO hcap ⊢
 have hm : cap ≤ 9223372036854775807 := by unfold maxLen at hcm; omega
 have h2 : ¬ (L : Int) < 2 := by omega
 obtain ⟨p0, hp0⟩ : ∃ p, l[0]? = some p := ⟨l[0]'(by omega), List.getElem?_eq_getElem _⟩
 have hc1 : compQ (l.take 1) = l.take 1 := comp_short (by simp; omega)
 obtain ⟨o, ho⟩ : ∃ o, o = 0 := ⟨_, rfl⟩
 rw [← ho] at hO ⊢
 replace ho := hZ ho
 replace hO := hZ hO
 clear hp0 p0
 go_enter Tryz.func59, Tryz.ntmps59
 go_wp2_with fail
 go_loopg [5] (L - 1) (fun gk kk wr => ∃ j : Nat, gk + j = L ∧ 1 ≤ j ∧ kk = .int .i64 j ∧ compQ (l.take j) = l.take j ∧ OwnC 35 wr base (.slice (some ⟨g, o, none⟩) L cap) l ∧ Grew w wr)
 case atStart => exact ⟨1, by omega, by omega, rfl, hc1, hO.out, Grew.refl _⟩
 case round =>
  obtain ⟨j, hj, hj1, rfl, hcj, hR, hG⟩ := hrel
  by_cases hlt : j < L
  ·obtain ⟨i, hi⟩ : ∃ i, i + 1 = j := ⟨j - 1, by omega⟩
   obtain ⟨p, hp⟩ : ∃ p, l[i]? = some p := ⟨l[i]'(by omega), List.getElem?_eq_getElem _⟩
   obtain ⟨q, hq9⟩ : ∃ q, l[j]? = some q := ⟨l[j]'(by omega), List.getElem?_eq_getElem _⟩
   have hct : compQ (l.take (j + 1)) = if p = q then compQ (l.take j) else compQ (l.take j) ++ [q] := by subst hi; exact comp_take hp hq9
   have htk := take_snoc hq9
   obtain ⟨b1, A1, n1, c1, C1, m1, d1, b2, A2, n2, c2, C2, m2, d2, ⟨e0, e1, e2, e3, e4, e5⟩, -, S1⟩ := hR.el hq9
   obtain ⟨b3, A3, n3, c3, C3, m3, d3, b4, A4, n4, c4, C4, m4, d4, ⟨f0, f1, f2, f3, f4, f5⟩, -, S2⟩ := hR.el hp
   have q1 := hZ (hq.out q (List.mem_of_getElem? hq9))
   have q2 := hZ (hq.out p (List.mem_of_getElem? hp))
   have hwj : IntKind.i64.wrap ((j : Int) - 1) = (i : Int) := by rw [IntWalk.i64_in _ (by omega)]; omega
   have hjl : (j : Int) < (L : Int) := by omega
   have hil : (i : Int) < (L : Int) := by omega
   replace hct := hZ hct
   replace htk := hZ htk
   replace hcj := hZ hcj
   replace hR := hZ hR
   replace hG := hZ hG
   clear hp hq9
   go_wp2_with fail
   go_region_held3 (fun w' => w'.cell? ⟨g, o + j * 6, none⟩ = some (.bool b1) ∧ w'.cell? ⟨g, o + j * 6 + 1, none⟩ = some (.slice A1 n1 c1) ∧ w'.cell? ⟨g, o + j * 6 + 2, none⟩ = some (.slice C1 m1 d1) ∧ w'.cell? ⟨g, o + j * 6 + 3, none⟩ = some (.bool b2) ∧ w'.cell? ⟨g, o + j * 6 + 4, none⟩ = some (.slice A2 n2 c2) ∧ w'.cell? ⟨g, o + j * 6 + 5, none⟩ = some (.slice C2 m2 d2) ∧ w'.cell? ⟨g, o + i * 6, none⟩ = some (.bool b3) ∧ w'.cell? ⟨g, o + i * 6 + 1, none⟩ = some (.slice A3 n3 c3) ∧ w'.cell? ⟨g, o + i * 6 + 2, none⟩ = some (.slice C3 m3 d3) ∧ w'.cell? ⟨g, o + i * 6 + 3, none⟩ = some (.bool b4) ∧ w'.cell? ⟨g, o + i * 6 + 4, none⟩ = some (.slice A4 n4 c4) ∧ w'.cell? ⟨g, o + i * 6 + 5, none⟩ = some (.slice C4 m4 d4))
    (first | exact ⟨e0, e1, e2, e3, e4, e5, f0, f1, f2, f3, f4, f5⟩ | exact ⟨gc.cell e0, gc.cell e1, gc.cell e2, gc.cell e3, gc.cell e4, gc.cell e5, gc.cell f0, gc.cell f1, gc.cell f2, gc.cell f3, gc.cell f4, gc.cell f5⟩)
    (first | (go_at_call 21; refine (ssame_any _ _ q.1 q.2 p.1 p.2 k _ ((SpotC.kept S1.out ((Grew.refl wr).drew).keeps).v q1.out.1 q1.out.2) ((SpotC.kept S2.out ((Grew.refl wr).drew).keeps).v q2.out.1 q2.out.2) hk hs).mono ?_; rintro e wx ⟨rfl, gc⟩))
   have gA := hZ ((hG.out.drew).trans gc)
   have oA := hZ (OwnC.grew hR.out (((Grew.refl wr).drew).trans gc))
   clear hR hG gc e0 e1 e2 e3 e4 e5 f0 f1 f2 f3 f4 f5 S1 S2 q1 q2
   by_cases hpq : p = q
   ·have hb : (spotCmp q.1 q.2 p.1 p.2 == 0) = true := by rw [beq_iff_eq]; exact spotCmp_zero.2 hpq.symm
    rw [hb]
    have hj0 := hZ ((hct.out.trans (if_pos hpq)).trans hcj.out)
    clear hct hcj htk hb
    go_wp2_with fail
    obtain ⟨G, rfl⟩ : ∃ G : Nat, G = gk := ⟨_, rfl⟩
    obtain ⟨D, hD⟩ : ∃ D, L - j = D := ⟨_, rfl⟩
    obtain ⟨E, hE⟩ : ∃ E, cap - j = E := ⟨_, rfl⟩
    rw [hD, hE]
    go_loopg [5, 7] (L - 1 - j) (fun gk kk k2 wr => ∃ (m n s : Nat) (r : List (Rat × Rat)), gk + (j + s) = L ∧ kk = .int .i64 n ∧ m + 1 = s ∧ k2 = .int .i64 s ∧ 1 ≤ n ∧ n ≤ j + m ∧ r.length = L ∧ r.take n = compQ (l.take (j + s)) ∧ (∀ i, j + m ≤ i → r[i]? = l[i]?) ∧ OwnC 35 wr base (.slice (some ⟨g, o, none⟩) L cap) r ∧ ∀ W : World, W.heap.size ≤ base → Grew W w → Grew W wr)
    case atStart => exact ⟨0, j, 1, l, by omega, rfl, rfl, rfl, by omega, by omega, hL, hj0.out.symm, fun _ _ => rfl, oA.out, fun _ _ h => h.trans gA.out⟩
    case round =>
     obtain ⟨m, n, s, r, hgk, rfl, hsm, rfl, hn1, hnm, hrl, hrt, hri, hR, hGf⟩ := hrel
     by_cases hlt2 : s < D
     ·obtain ⟨p2, hp2⟩ : ∃ p, l[j + m]? = some p := ⟨l[j + m]'(by omega), List.getElem?_eq_getElem _⟩
      obtain ⟨q2, hq2⟩ : ∃ q, l[j + s]? = some q := ⟨l[j + s]'(by omega), List.getElem?_eq_getElem _⟩
      have hct : compQ (l.take (j + (s + 1))) = if p2 = q2 then compQ (l.take (j + s)) else compQ (l.take (j + s)) ++ [q2] := by subst hsm; exact comp_take hp2 hq2
      obtain ⟨b5, A5, n5, c5, C5, m5, d5, b6, A6, n6, c6, C6, m6, d6, ⟨e0, e1, e2, e3, e4, e5⟩, -, S1⟩ := hR.el ((hri _ (by omega)).trans hq2)
      obtain ⟨b7, A7, n7, c7, C7, m7, d7, b8, A8, n8, c8, C8, m8, d8, ⟨f0, f1, f2, f3, f4, f5⟩, -, S2⟩ := hR.el ((hri _ (by omega)).trans hp2)
      have ea : o + (j + s) * 6 = o + j * 6 + s * 6 := by omega
      have eb : o + (j + m) * 6 = o + j * 6 + m * 6 := by omega
      rw [ea] at e0 e1 e2 e3 e4 e5
      rw [eb] at f0 f1 f2 f3 f4 f5
      have q1 := hZ (hq.out q2 (List.mem_of_getElem? hq2))
      have q3 := hZ (hq.out p2 (List.mem_of_getElem? hp2))
      have hwj : IntKind.i64.wrap ((s : Int) - 1) = (m : Int) := by rw [IntWalk.i64_in _ (by omega)]; omega
      have hjl : (s : Int) < (D : Int) := by omega
      have hil : (m : Int) < (D : Int) := by omega
      have hnl : (n : Int) < (L : Int) := by omega
      replace hct := hZ hct
      replace hrt := hZ hrt
      replace hsm := hZ hsm
      replace hri := hZ hri
      replace hR := hZ hR
      replace hGf := hZ hGf
      clear hp2 hq2
      go_wp2_with fail
      go_region_held3 (fun w' => w'.cell? ⟨g, o + j * 6 + s * 6, none⟩ = some (.bool b5) ∧ w'.cell? ⟨g, o + j * 6 + s * 6 + 1, none⟩ = some (.slice A5 n5 c5) ∧ w'.cell? ⟨g, o + j * 6 + s * 6 + 2, none⟩ = some (.slice C5 m5 d5) ∧ w'.cell? ⟨g, o + j * 6 + s * 6 + 3, none⟩ = some (.bool b6) ∧ w'.cell? ⟨g, o + j * 6 + s * 6 + 4, none⟩ = some (.slice A6 n6 c6) ∧ w'.cell? ⟨g, o + j * 6 + s * 6 + 5, none⟩ = some (.slice C6 m6 d6) ∧ w'.cell? ⟨g, o + j * 6 + m * 6, none⟩ = some (.bool b7) ∧ w'.cell? ⟨g, o + j * 6 + m * 6 + 1, none⟩ = some (.slice A7 n7 c7) ∧ w'.cell? ⟨g, o + j * 6 + m * 6 + 2, none⟩ = some (.slice C7 m7 d7) ∧ w'.cell? ⟨g, o + j * 6 + m * 6 + 3, none⟩ = some (.bool b8) ∧ w'.cell? ⟨g, o + j * 6 + m * 6 + 4, none⟩ = some (.slice A8 n8 c8) ∧ w'.cell? ⟨g, o + j * 6 + m * 6 + 5, none⟩ = some (.slice C8 m8 d8))
       (first | exact ⟨e0, e1, e2, e3, e4, e5, f0, f1, f2, f3, f4, f5⟩ | exact ⟨gc.cell e0, gc.cell e1, gc.cell e2, gc.cell e3, gc.cell e4, gc.cell e5, gc.cell f0, gc.cell f1, gc.cell f2, gc.cell f3, gc.cell f4, gc.cell f5⟩)
       (first | (go_at_call 21; refine (ssame_any _ _ q2.1 q2.2 p2.1 p2.2 k _ ((SpotC.kept S1.out ((Grew.refl wr).drew).keeps).v q1.out.1 q1.out.2) ((SpotC.kept S2.out ((Grew.refl wr).drew).keeps).v q3.out.1 q3.out.2) hk hs).mono ?_; rintro e wy ⟨rfl, gc⟩))
      have gB := ((Grew.refl wr).drew).trans gc
      have oB := OwnC.grew hR.out gB
      have SB := hZ (SpotC.kept S1.out gB.keeps)
      have hGB := hZ (fun (W : World) (h1 : W.heap.size ≤ base) (h2 : Grew W w) => (hGf.out W h1 h2).trans gB)
      have e0' := gc.cell e0
      have e1' := gc.cell e1
      have e2' := gc.cell e2
      have e3' := gc.cell e3
      have e4' := gc.cell e4
      have e5' := gc.cell e5
      clear hR hGf gc gB e0 e1 e2 e3 e4 e5 f0 f1 f2 f3 f4 f5 S1 S2 q1 q3 hwj
      by_cases hpq2 : p2 = q2
      ·have hb : (spotCmp q2.1 q2.2 p2.1 p2.2 == 0) = true := by rw [beq_iff_eq]; exact spotCmp_zero.2 hpq2.symm
       rw [hb]
       have hj1 := hZ (hct.out.trans (if_pos hpq2))
       replace oB := hZ oB
       clear hct hb e0' e1' e2' e3' e4' e5'
       go_wp2_with fail
       go_roundg (gk - 1)
       case rel => have hsm' := hsm.out; exact ⟨m + 1, n, s + 1, r, by omega, rfl, by omega, by go_num, hn1, by omega, hrl, by rw [hj1.out]; exact hrt.out, fun i hi => hri.out i (by omega), oB.out, hGB.out⟩
       case measure => omega
      ·have hb : (spotCmp q2.1 q2.2 p2.1 p2.2 == 0) = false := by
        rw [beq_eq_false_iff_ne]
        exact fun h => hpq2 (spotCmp_zero.1 h).symm
       rw [hb]
       have hj1 := hZ (hct.out.trans (if_neg hpq2))
       obtain ⟨pn, hpn⟩ : ∃ p, r[n]? = some p := ⟨r[n]'(by omega), List.getElem?_eq_getElem _⟩
       obtain ⟨_, _, _, _, _, _, _, _, _, _, _, _, _, _, ⟨k0, k1, k2, k3, k4, k5⟩, hfz, -⟩ := oB.el hpn
       have z0 := hfz (o + n * 6)
       have z1 := hfz (o + n * 6 + 1)
       have z2 := hfz (o + n * 6 + 2)
       have z3 := hfz (o + n * 6 + 3)
       have z4 := hfz (o + n * 6 + 4)
       have z5 := hfz (o + n * 6 + 5)
       replace oB := hZ oB
       clear hct hb hfz hpn
       go_upto_region 13 with fail
       refine gen_wp ?_
       intro W9 hW9
       replace hW9 : W9 = wy.setCells g (o + n * 6) [.bool b5, .slice A5 n5 c5, .slice C5 m5 d5, .bool b6, .slice A6 n6 c6, .slice C6 m6 d6] := hW9
       obtain ⟨hS1, hS2, hS3⟩ := OwnC.store' (k := n) ho.out oB.out hrl (by omega) SB.out
       rw [← hW9] at hS1 hS2
       have hG9 := hZ (fun (W : World) (h1 : W.heap.size ≤ base) (h2 : Grew W w) => (hGB.out W h1 h2).wrote hS2 (Nat.le_trans h1 hS3))
       replace hS1 := hZ hS1
       have hsm' := hsm.out
       have htk : (r.set n q2).take (n + 1) = compQ (l.take (j + (s + 1))) := by rw [set_take (by omega), hrt.out, hj1.out]
       have hri' : ∀ i, j + (m + 1) ≤ i → (r.set n q2)[i]? = l[i]? := fun i hi => by rw [List.getElem?_set_ne (by omega)]; exact hri.out i (by omega)
       replace htk := hZ htk
       replace hri' := hZ hri'
       clear hW9 hS2 hGB oB SB e0' e1' e2' e3' e4' e5' k0 k1 k2 k3 k4 k5 z0 z1 z2 z3 z4 z5 hrt hri hj1
       go_wp2_with fail
       go_roundg (gk - 1)
       case rel => exact ⟨m + 1, n + 1, s + 1, r.set n q2, by omega, by go_num, by omega, by go_num, by omega, by omega, by rw [List.length_set]; exact hrl, htk.out, hri'.out, hS1.out, hG9.out⟩
       case measure => omega
     ·have hall : l.take (j + s) = l := by rw [show j + s = l.length by omega]; exact List.take_length
      rw [hall] at hrt
      obtain ⟨cur, hg9, hcs9⟩ := hR.cur (by omega)
      have hmul : L * 6 ≤ cap * 6 := Nat.mul_le_mul_right _ hcap
      have ho0 := ho.out
      have hcl : ∀ ty, (Builtin.clear_ #[41] ty #[.slice (some ⟨g, o + n * 6, none⟩) (L - n) (cap - n)]).run Tryz.prog wr = .ok (.tuple #[]) (wr.setCells g (n * 6) (Builtin.zeroCells (Value.agg #[.bool false, .slice none 0 0, .slice none 0 0, .bool false, .slice none 0 0, .slice none 0 0]).cells (L - n)).toList) :=
       fun ty => run_clear_spots wr g (o + n * 6) (n * 6) (L - n) (cap - n) cur _ hg9 (by omega) (by omega) (by omega) ty
      rw [ho0] at hR
      obtain ⟨hS1, -, hS2, hS3⟩ := OwnC.clear (k := n) (Builtin.zeroCells (Value.agg #[.bool false, .slice none 0 0, .slice none 0 0, .bool false, .slice none 0 0, .slice none 0 0]).cells (L - n)).toList hR hrl (by omega) (by omega) (by rw [zeros_len]; omega) (zeros_noint _)
      rw [hrt] at hS1
      generalize wr.setCells g (n * 6) (Builtin.zeroCells (Value.agg #[.bool false, .slice none 0 0, .slice none 0 0, .bool false, .slice none 0 0, .slice none 0 0]).cells (L - n)).toList = W9 at hcl hS1 hS2
      have hG9 := hZ (fun (W : World) (h1 : W.heap.size ≤ base) (h2 : Grew W w) => (hGf W h1 h2).wrote hS2 (Nat.le_trans h1 hS3))
      replace hS1 := hZ hS1
      have hnl : (n : Int) < (L : Int) := by omega
      have hsl : ¬ (s : Int) < (D : Int) := by omega
      clear hR hGf hrt hri hS2 hg9 hcs9 hall hmul ho0
      have hnL : n < L := by omega
      go_wp2_with (simp only [hcl])
      go_ret
      exact ⟨_, rfl, by rw [ho.out]; exact hS1.out, hG9.out⟩
   ·have hb : (spotCmp q.1 q.2 p.1 p.2 == 0) = false := by
     rw [beq_eq_false_iff_ne]
     exact fun h => hpq (spotCmp_zero.1 h).symm
    rw [hb]
    have hj0 := hZ (((hct.out.trans (if_neg hpq)).trans (by rw [hcj.out])).trans htk.out.symm)
    clear hct hcj htk hb
    go_wp2_with fail
    go_roundg (gk - 1)
    case rel => exact ⟨j + 1, by omega, by omega, by go_num, hj0.out, oA.out, gA.out⟩
    case measure => omega
  ·obtain rfl : j = L := by omega
   have hall : l.take j = l := by rw [← hL]; exact List.take_length
   rw [hall] at hcj
   have hcj' := hZ hcj
   have hR' := hZ hR
   have hG' := hZ hG
   clear hcj hR hG
   go_wp2_with fail
   go_ret
   exact ⟨_, rfl, by rw [hcj'.out]; simpa [ho.out] using hR'.out, fun _ _ h => h.trans hG'.out⟩
def SpotIn (W : World) (k : Nat) : Type := { x : Array Value × (Rat × Rat) // x.1.size = 6 ∧ (∀ u ∈ x.1.toList, u.oneCell' = true) ∧ (∀ u ∈ x.1.toList, NoInt u) ∧ SpotC W (.agg x.1) x.2.1 x.2.2 ∧ QB x.2.1 k ∧ QB x.2.2 k }
def SpotIn.enc {W : World} {k : Nat} (x : SpotIn W k) : List Value := x.1.1.toList
def SpotIn.val {W : World} {k : Nat} (x : SpotIn W k) : Rat × Rat := x.1.2
theorem SpotIn.len {W : World} {k : Nat} (x : SpotIn W k) : x.enc.length = 6 := by unfold SpotIn.enc; rw [Array.length_toList]; exact x.2.1
theorem SpotIn.one {W : World} {k : Nat} (x : SpotIn W k) : ∀ v ∈ x.enc, v.oneCell' = true := x.2.2.1
theorem SpotIn.noint {W : World} {k : Nat} (x : SpotIn W k) : ∀ v ∈ x.enc, NoInt v := x.2.2.2.1
def SpotIn.cmp {W : World} {k : Nat} (x y : SpotIn W k) : Int := spotCmp x.val.1 x.val.2 y.val.1 y.val.2
theorem SpotIn.lt {W : World} {k : Nat} (x y : SpotIn W k) : Go.Proofs.ltOf SpotIn.cmp x y = true ↔ spotLt x.val y.val := by
 unfold Go.Proofs.ltOf SpotIn.cmp
 rw [decide_eq_true_eq]; exact spotCmp_neg
theorem SpotIn.nlt {W : World} {k : Nat} (x y : SpotIn W k) : Go.Proofs.ltOf SpotIn.cmp x y = false ↔ ¬ spotLt x.val y.val := by
 rw [← SpotIn.lt]; simp
theorem SpotIn.swo {W : World} {k : Nat} : Go.Sort.SWO (Go.Proofs.ltOf (SpotIn.cmp (W := W) (k := k))) where
 irrefl x := (SpotIn.nlt _ _).2 fun h => spotLt_irr h h
 trans x y z h1 h2 := (SpotIn.lt _ _).2 (spotLt_trans ((SpotIn.lt _ _).1 h1) ((SpotIn.lt _ _).1 h2))
 ntrans x y z h1 h2 := (SpotIn.nlt _ _).2 fun h => by
  have k1 := (SpotIn.nlt _ _).1 h1
  have k2 := (SpotIn.nlt _ _).1 h2
  rcases spotLt_tri y.val z.val with h3 | h3 | h3
  ·exact k2 h3
  ·exact k1 (by rw [h3]; exact h)
  ·exact k1 (spotLt_trans h h3)
theorem OwnC.elems {e : TypeId} {w : World} {base k : Nat} {v : Value} {l : List (Rat × Rat)} (h : OwnC e w base v l) (hl : 0 < l.length) (hq : ∀ p ∈ l, QB p.1 k ∧ QB p.2 k) :
  ∃ g cap cur, ∃ d : Array (SpotIn w k), v = .slice (some ⟨g, 0, none⟩) l.length cap ∧ base ≤ g ∧ NoInts w g ∧ w.heap[g]? = some (.cells cur e (0, 0)) ∧ l.length ≤ cap ∧ cap ≤ maxLen ∧ cur.size = cap * 6 ∧
   d.size = l.length ∧ d.toList.map SpotIn.val = l ∧ Nonempty (SpotIn w k) ∧ ∀ [Inhabited (SpotIn w k)], Go.Sort.HoldsK SpotIn.enc 6 w g 0 d := by
 obtain ⟨g, cap, cur, rfl, hbg, hN, hg, hnc, hcm, hcs, hel⟩ := h.at hl
 have key : ∀ i : Fin l.length, ∃ x : SpotIn w k, x.val = l[i.1] ∧ ∀ j, j < 6 → cur[i.1 * 6 + j]? = x.enc[j]? := by
  rintro ⟨i, hi⟩
  have hp : l[i]? = some l[i] := List.getElem?_eq_getElem hi
  obtain ⟨b, A, n, c0, C, m, d, b', A', n', c0', C', m', d', ⟨h0, h1, h2, h3, h4, h5⟩, hP⟩ := hel i _ hp
  refine ⟨⟨(#[.bool b, .slice A n c0, .slice C m d, .bool b', .slice A' n' c0', .slice C' m' d'], l[i]), rfl, one6 _ _ _ _ _ _ _ _ _ _ _ _ _ _, noint6 _ _ _ _ _ _ _ _ _ _ _ _ _ _, hP, hq _ (List.getElem_mem hi)⟩, rfl, ?_⟩
  intro j hj
  have e : j = 0 ∨ j = 1 ∨ j = 2 ∨ j = 3 ∨ j = 4 ∨ j = 5 := by omega
  rcases e with rfl | rfl | rfl | rfl | rfl | rfl
  ·exact h0
  ·exact h1
  ·exact h2
  ·exact h3
  ·exact h4
  ·exact h5
 have hd : ∀ i (hi : i < l.length), (Array.ofFn fun i => Classical.choose (key i))[i]? = some (Classical.choose (key ⟨i, hi⟩)) := by
  intro i hi
  rw [Array.getElem?_eq_getElem (by simpa using hi)]
  simp
 refine ⟨g, cap, cur, Array.ofFn fun i => Classical.choose (key i), rfl, hbg, hN, hg, hnc, hcm, hcs, by simp, ?_, ⟨Classical.choose (key ⟨0, hl⟩)⟩, ?_⟩
 ·apply List.ext_getElem?
  intro i
  rw [List.getElem?_map, Array.getElem?_toList]
  by_cases hi : i < l.length
  ·rw [hd i hi, List.getElem?_eq_getElem hi]
   exact congrArg some (Classical.choose_spec (key ⟨i, hi⟩)).1
  ·rw [Array.getElem?_eq_none (by simpa using hi), List.getElem?_eq_none (by simpa using hi)]; rfl
 ·intro inst j hj
  rw [Go.Sort.size_flatK, Array.size_ofFn] at hj
  rw [Go.Sort.get_flatK _ _ _ _ (by rw [Array.size_ofFn]; exact hj)]
  have hi : j / 6 < l.length := by omega
  have hjm : j % 6 < 6 := by omega
  have e1 : (Array.ofFn fun i => Classical.choose (key i))[j / 6]! = Classical.choose (key ⟨j / 6, hi⟩) := by
   rw [getElem!_pos _ _ (by simpa using hi)]
   have := hd _ hi
   rw [Array.getElem?_eq_getElem (by simpa using hi)] at this
   injection this
  have e2 := (Classical.choose_spec (key ⟨j / 6, hi⟩)).2 (j % 6) hjm
  have e3 : j / 6 * 6 + j % 6 = j := by omega
  simp only [e3] at e2
  rw [e1]
  generalize Classical.choose (key ⟨j / 6, hi⟩) = x at e2 ⊢
  have hlen := x.len
  rw [List.getElem?_eq_getElem (by omega)] at e2
  refine ⟨?_, ?_⟩
  ·rw [Nat.zero_add, cell_of_row w g j cur e (0, 0) hg, e2, getElem!_pos _ _ (by omega)]
   rfl
  ·rw [Nat.zero_add]
   unfold World.frozen?
   rw [hg]
   simp
section
variable {w : World} {k : Nat} [Inhabited (SpotIn w k)] {g cap : Nat} {e : TypeId} {cur : Array Value}
theorem sort_block (hg : w.heap[g]? = some (.cells cur e (0, 0))) (m : Nat) (dk : Array (SpotIn w k)) (os : Array Obj) :
  (sortWorldK SpotIn.enc 6 w g 0 m dk os).heap[g]? = some (.cells (Go.Sort.putCells id 0 (Go.Sort.flatK SpotIn.enc 6 dk) cur) e (0, 0)) := by
 have hlt : g < w.heap.size := by
  rcases Nat.lt_or_ge g w.heap.size with h | h
  ·exact h
  ·rw [Array.getElem?_eq_none h] at hg; simp at hg
 unfold sortWorldK
 rw [Go.Sort.heap_grow_old _ _ (by rw [Go.Sort.size_putRowK]; exact hlt)]
 unfold Go.Sort.putRowK Go.Sort.putRow Go.Sort.mapBlock
 simp only [Array.getElem?_modify, if_true]
 show Option.map _ w.heap[g]? = _
 rw [hg]; rfl
theorem sort_other (m : Nat) (dk : Array (SpotIn w k)) (os : Array Obj) {b : Nat} (hb : b < w.heap.size) (hne : b ≠ g) :
  (sortWorldK SpotIn.enc 6 w g 0 m dk os).heap[b]? = w.heap[b]? := by
 unfold sortWorldK
 rw [Go.Sort.heap_grow_old _ _ (by rw [Go.Sort.size_putRowK]; exact hb)]
 unfold Go.Sort.putRowK Go.Sort.putRow Go.Sort.mapBlock
 simp only [Array.getElem?_modify, if_neg (Ne.symm hne)]
 rfl
theorem sort_wrote (m : Nat) (dk : Array (SpotIn w k)) (os : Array Obj) : Wrote g w (sortWorldK SpotIn.enc 6 w g 0 m dk os) :=
 ⟨rfl, rfl, rfl, size_sortWorldK_c _ _ _ _ _ _ _ _, Nat.le_add_right _ _, fun _ hb hne => sort_other m dk os hb hne⟩
theorem sort_keeps (hN : NoInts w g) (m : Nat) (dk : Array (SpotIn w k)) (os : Array Obj) : Keeps w (sortWorldK SpotIn.enc 6 w g 0 m dk os) := by
 intro B K v N n h
 obtain ⟨A, c, hv, h1, h2, h4, h3⟩ := h
 refine ⟨A, c, hv, h1, h2, h4, fun hk => ?_⟩
 obtain ⟨b, off, hA, hc⟩ := h3 hk
 refine ⟨b, off, hA, fun i hi => ?_⟩
 exact (sort_wrote m dk os).cell (hc i hi) fun e => by
  simp only at e
  subst e
  exact hN _ _ (hc i hi) K _ rfl
theorem sort_own {base : Nat} (hbg : base ≤ g) (hg : w.heap[g]? = some (.cells cur e (0, 0))) (hN : NoInts w g) (hcm : cap ≤ maxLen) (hcs : cur.size = cap * 6) (m : Nat) (dk : Array (SpotIn w k)) (os : Array Obj) (hn : dk.size ≤ cap) :
  OwnC e (sortWorldK SpotIn.enc 6 w g 0 m dk os) base (.slice (some ⟨g, 0, none⟩) dk.size cap) (dk.toList.map SpotIn.val) := by
 have hb := sort_block hg m dk os
 have hk := sort_keeps hN m dk os
 generalize sortWorldK SpotIn.enc 6 w g 0 m dk os = W at hb hk
 have hfs : (Go.Sort.flatK SpotIn.enc 6 dk).size = dk.size * 6 := Go.Sort.size_flatK _ _ _
 have hmul : dk.size * 6 ≤ cap * 6 := Nat.mul_le_mul_right _ hn
 have hel : ∀ t, t < dk.size * 6 → ∃ x : SpotIn w k, dk.toList[t / 6]? = some x ∧ (Go.Sort.flatK SpotIn.enc 6 dk)[t]? = x.enc[t % 6]? := by
  intro t ht
  have hi : t / 6 < dk.size := by omega
  refine ⟨dk[t / 6], by simp [hi], ?_⟩
  have e1 := Go.Sort.get_flatK SpotIn.enc 6 dk t ht
  have hlen := (dk[t / 6]).len
  rw [getElem!_pos _ _ (by omega), getElem!_pos dk _ hi, getElem!_pos _ _ (by omega)] at e1
  rw [Array.getElem?_eq_getElem (by omega), List.getElem?_eq_getElem (by omega), e1]
 have hget : ∀ t, t < cap * 6 → (Go.Sort.putCells id 0 (Go.Sort.flatK SpotIn.enc 6 dk) cur)[t]? = if t < dk.size * 6 then (Go.Sort.flatK SpotIn.enc 6 dk)[t]? else cur[t]? := by
  intro t ht
  unfold Go.Sort.putCells
  rw [Array.getElem?_mapIdx, Array.getElem?_eq_getElem (by omega)]
  simp only [Option.map_some, id]
  by_cases h : t < dk.size * 6
  ·rw [if_pos (by omega), if_pos h, Array.getElem?_eq_getElem (by omega), Nat.sub_zero, getElem!_pos _ _ (by omega)]
  ·rw [if_neg (by omega), if_neg h]
 have hN' : NoInts W g := by
  intro p u hu
  rw [cell_of_row W g p _ e (0, 0) hb] at hu
  have hp : p < cap * 6 := by
   rcases Nat.lt_or_ge p (cap * 6) with h | h
   ·exact h
   ·rw [Array.getElem?_eq_none (by simp [Go.Sort.putCells, hcs]; exact h)] at hu; simp at hu
  rw [hget p hp] at hu
  split at hu
  ·next h =>
   obtain ⟨x, -, h2⟩ := hel p h
   rw [h2] at hu
   exact x.noint u (List.mem_of_getElem? hu)
  ·exact hN p u (by rw [cell_of_row w g p cur e (0, 0) hg]; exact hu)
 have ho := OwnC.of (l := dk.toList.map SpotIn.val) hbg hN' hb (by simpa using hn) hcm (by simp [Go.Sort.putCells, hcs]) (by
  intro i p hp
  rw [List.getElem?_map] at hp
  obtain ⟨x, hx, rfl⟩ := Option.map_eq_some_iff.1 hp
  have hi : i < dk.size := by
   have := (List.getElem?_eq_some_iff.1 hx).1
   simpa using this
  have hcell : ∀ j, j < 6 → (Go.Sort.putCells id 0 (Go.Sort.flatK SpotIn.enc 6 dk) cur)[i * 6 + j]? = x.enc[j]? := by
   intro j hj
   rw [hget _ (by omega), if_pos (by omega)]
   obtain ⟨y, h3, h4⟩ := hel (i * 6 + j) (by omega)
   have e1 : (i * 6 + j) / 6 = i := by omega
   have e2 : (i * 6 + j) % 6 = j := by omega
   rw [e1, hx] at h3
   injection h3 with h3
   rw [h4, e2, ← h3]
  obtain ⟨⟨us, q⟩, h1, h2, h3, hS, hQ⟩ := x
  have hS9 := hS
  obtain ⟨b, A, n, c, C, m, d, b', A', n', c', C', m', d', eq6, -, -⟩ := hS9
  injection eq6 with eus
  simp only at eus
  subst eus
  exact ⟨b, A, n, c, C, m, d, b', A', n', c', C', m', d', ⟨hcell 0 (by omega), hcell 1 (by omega), hcell 2 (by omega), hcell 3 (by omega), hcell 4 (by omega), hcell 5 (by omega)⟩, SpotC.kept hS hk⟩)
 simpa using ho
end
end Go.Proofs.YtmommicmblfibaaGreat
