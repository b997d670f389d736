/- Plain: the pieces of ways, cut where they meet; ways that are far play no part. Conditions: none. An operation of a region that draws is taken first, its slot written out. Conditions: none. split.may, around, near, close. Condition: ints of 64 bits; at most 2^20 ways. split.close. Condition: ints of 64 bits; at most 2^20 ways. -/
import Derived.Test.YtmommicmblfibaaGreatJOwnK
import Derived.Test.YtmommicmblfibaaGreatJElE
import Derived.Test.YtmommicmblfibaaGreatJKit
import Derived.Deep.RegionHeld3
import Derived.Lib.MinMax
import Derived.Deep.LoopGhost
set_option maxRecDepth 100000
namespace Go.Proofs.YtmommicmblfibaaGreat
open Go.RowKit
def mayB (t : SegZ) : Bool := fitB t.1.1 t.1.2 && fitB t.2.1 t.2.2
def closeQ (ax ay bx b_y : Int) (l : List SegZ) : List SegZ := l.filter fun t => mayB t && !apartB ax ay bx b_y t.1.1 t.1.2 t.2.1 t.2.2
theorem meetW_far {ax ay bx b_y : Int} {t : SegZ} (h : (mayB t && !apartB ax ay bx b_y t.1.1 t.1.2 t.2.1 t.2.2) = false) : meetW ax ay bx b_y t = [] := by
 unfold meetW
 rw [meetQ_eq]
 unfold rmeetQ
 unfold mayB at h
 split
 ·next hs =>
  rw [hs.2] at h
  simp only [Bool.true_and, Bool.not_eq_eq_eq_not, Bool.not_false] at h
  rw [if_pos h]
 ·rfl
theorem cutsQ_close (ax ay bx b_y : Int) (l : List SegZ) : cutsQ ax ay bx b_y (closeQ ax ay bx b_y l) = cutsQ ax ay bx b_y l := by
 have e : rowQ (cutAll ax ay bx b_y (closeQ ax ay bx b_y l)) = rowQ (cutAll ax ay bx b_y l) := by
  refine rowQ_ext fun q => ?_
  unfold cutAll cutRow closeQ
  simp only [List.mem_append, List.mem_flatMap, List.mem_filter]
  constructor
  ·rintro (h | ⟨t, ⟨ht, -⟩, hq⟩)
   ·exact .inl h
   ·exact .inr ⟨t, ht, hq⟩
  ·rintro (h | ⟨t, ht, hq⟩)
   ·exact .inl h
   ·refine .inr ⟨t, ⟨ht, ?_⟩, hq⟩
    cases hb : (mayB t && !apartB ax ay bx b_y t.1.1 t.1.2 t.2.1 t.2.2)
    ·rw [meetW_far hb] at hq; simp at hq
    ·rfl
 unfold cutsQ
 rw [e]
def edgeOf (p q : Rat × Rat) : EdgeQ := if 0 < spotCmp p.1 p.2 q.1 q.2 then (q, p) else (p, q)
def pairsN (c : List (Rat × Rat)) (n : Nat) : List EdgeQ := (List.range n).map fun i => edgeOf (c.getD i (0, 0)) (c.getD (i + 1) (0, 0))
theorem pairsN_zero (c : List (Rat × Rat)) : pairsN c 0 = [] := rfl
theorem pairsN_succ {c : List (Rat × Rat)} {n : Nat} {p q : Rat × Rat} (hp : c[n]? = some p) (hq : c[n + 1]? = some q) : pairsN c (n + 1) = pairsN c n ++ [edgeOf p q] := by
 unfold pairsN
 rw [List.range_succ, List.map_append, List.map_singleton, List.getD_eq_getElem?_getD, List.getD_eq_getElem?_getD, hp, hq]
 rfl
theorem pairsN_len (c : List (Rat × Rat)) (n : Nat) : (pairsN c n).length = n := by simp [pairsN]
def pieceOf (l : List SegZ) (s : SegZ) : List EdgeQ :=
 if mayB s = true ∧ s.1 ≠ s.2 then pairsN (cutsQ s.1.1 s.1.2 s.2.1 s.2.2 l) ((cutsQ s.1.1 s.1.2 s.2.1 s.2.2 l).length - 1) else []
def piecesQ (l : List SegZ) : List EdgeQ := rowG edgeCmp (l.flatMap (pieceOf l))
theorem pieces_succ (l : List SegZ) {m : List SegZ} {j : Nat} {s : SegZ} (h : m[j]? = some s) : (m.take (j + 1)).flatMap (pieceOf l) = (m.take j).flatMap (pieceOf l) ++ pieceOf l s := by
 rw [List.take_add_one, h, Option.toList_some, List.flatMap_append]
 simp
theorem cutsQ_len (ax ay bx b_y : Int) (l : List SegZ) : (cutsQ ax ay bx b_y l).length ≤ 2 + 2 * l.length := by
 have h := cutAll_len ax ay bx b_y l
 have k := rowQ_len (cutAll ax ay bx b_y l)
 unfold cutsQ
 split
 ·split
  ·rw [List.length_reverse]; omega
  ·omega
 ·simp
theorem wpAnyH_takeD {P : Program} {ops : Array Oper} {Q : Exit → Act → World → Prop} {md : Region.Mode} {S : World → Prop} {i d : Nat} {oi : Oper} {v : Value} {fuel : Nat} {listed : Array Bool} {a : Act} {w : World} (hi : ops[i]? = some oi) (hd : oi.dst = some d)
  (hs : Region.noSelect ops = true) (hf : Region.free md ops listed i = true) (hr : (Region.ready md ops listed).contains i = true)
  (hQ : ∀ c a w, Q (.panic c) (a.put (some d) v) w → Q (.panic c) a w) (hy : YieldsIf P ops S oi v a) (hS : S w)
  (h : wpAnyH P md ops Q S fuel (listed.setIfInBounds i true) (a.put (some d) v) w) : wpAnyH P md ops Q S (fuel + 1) listed a w :=
 wpAnyH_take hi hs hf hr (by rw [hd]; exact hQ) hy hS (by rw [hd]; exact h)
set_option maxHeartbeats 2000000 in
theorem xmay_any (ax ay bx b_y : Int) (w : World) : Calls Tryz.prog 23 #[segV ax ay bx b_y] w fun e w' => e = .returned (.bool (fitB ax ay && fitB bx b_y)) ∧ Grew w w' := by
 obtain ⟨a, ha⟩ : ∃ a, fitB ax ay = a := ⟨_, rfl⟩
 obtain ⟨b, hb⟩ : ∃ b, fitB bx b_y = b := ⟨_, rfl⟩
 rw [ha, hb]
 replace ha := hZ ha
 replace hb := hZ hb
 go_enter Tryz.func23, Tryz.ntmps23
 go_wp2_with fail
 refine gen_calls ?_
 intro W0 hW0
 have G0 : Grew w W0 := by rw [hW0]; exact (Grew.refl w).alloc _
 have P : Box2 W0 (w.heap.size) 0 (.int .i64 ax) (.int .i64 ay) := by rw [hW0]; exact ⟨by simp [go_sem], by simp [go_sem]⟩
 replace P := hZ P
 have Q : Box2 W0 (w.heap.size) 2 (.int .i64 bx) (.int .i64 b_y) := by rw [hW0]; exact ⟨by simp [go_sem], by simp [go_sem]⟩
 replace Q := hZ Q
 have z0 : w.heap.size < W0.heap.size := by rw [hW0]; simp <;> omega
 replace z0 := hZ z0
 clear hW0
 replace G0 := hZ G0
 refine (fits_any ax ay _).mono ?_
 rintro e w1 ⟨rfl, g1⟩
 replace P := hZ (P.out.grew g1)
 replace Q := hZ (Q.out.grew g1)
 replace z0 := hZ (lt_grew z0.out g1)
 replace G0 := hZ (G0.out.trans g1)
 clear g1
 rw [ha.out]
 cases a
 ·
  go_wp2_with fail
  go_ret
  exact ⟨rfl, G0.out⟩
 ·
  obtain ⟨P0, P1⟩ := P.out
  obtain ⟨Q0, Q1⟩ := Q.out
  go_wp2_with fail
  clear P0 P1 Q0 Q1
  refine (fits_any bx b_y _).mono ?_
  rintro e w2 ⟨rfl, g2⟩
  replace P := hZ (P.out.grew g2)
  replace Q := hZ (Q.out.grew g2)
  replace z0 := hZ (lt_grew z0.out g2)
  replace G0 := hZ (G0.out.trans g2)
  clear g2
  rw [hb.out]
  go_wp2_with fail
  go_ret
  exact ⟨by cases b <;> rfl, G0.out⟩
abbrev boxV (a b c d : Int) : Value := .agg #[.int .i64 a, .int .i64 b, .int .i64 c, .int .i64 d]
set_option maxHeartbeats 4000000 in
theorem around_any (ax ay bx b_y : Int) (w : World) : Calls Tryz.prog 46 #[segV ax ay bx b_y] w fun e w' => e = .returned (boxV (min ax bx) (min ay b_y) (max ax bx) (max ay b_y)) ∧ Grew w w' := by
 go_enter Tryz.func46, Tryz.ntmps46
 go_upto_region 1 with fail
 refine gen_wp ?_
 intro W0 hW0
 have G0 : Grew w W0 := by rw [hW0]; exact ((Grew.refl w).alloc _).alloc _
 have P : Box2 W0 (w.heap.size) 0 (.int .i64 ax) (.int .i64 ay) := by rw [hW0]; exact ⟨by simp [go_sem], by simp [go_sem]⟩
 replace P := hZ P
 have Pb : Box2 W0 (w.heap.size) 2 (.int .i64 bx) (.int .i64 b_y) := by rw [hW0]; exact ⟨by simp [go_sem], by simp [go_sem]⟩
 replace Pb := hZ Pb
 have R : Res4 W0 (w.heap.size + 1) 0 (.int .i64 0) (.int .i64 0) (.int .i64 0) (.int .i64 0) := by rw [hW0]; exact ⟨by simp [go_sem], by simp [go_sem], by simp [go_sem], by simp [go_sem], by simp [go_sem], by simp [go_sem], by simp [go_sem], by simp [go_sem], by simp⟩
 replace R := hZ R
 have z0 : w.heap.size < W0.heap.size := by rw [hW0]; simp <;> omega
 replace z0 := hZ z0
 have z1 : w.heap.size + 1 < W0.heap.size := by rw [hW0]; simp <;> omega
 replace z1 := hZ z1
 clear hW0
 replace G0 := hZ G0
 obtain ⟨R0, R1, R2, R3, Rf0, Rf1, Rf2, Rf3, Rs⟩ := R.out
 obtain ⟨P0, P1⟩ := P.out
 obtain ⟨Pb0, Pb1⟩ := Pb.out
 go_wp2_with fail
 clear P0 P1 Pb0 Pb1
 refine gen_post ?_
 intro W9 hW9
 obtain ⟨q0, q1, q2, q3, qG⟩ := store4 R.out hW9
 have GE := qG w (by omega) G0.out
 clear qG hW9
 exact bodyPost_ret (v := .agg #[.int .i64 (min ax bx), .int .i64 (min ay b_y), .int .i64 (max ax bx), .int .i64 (max ay b_y)]) (by simp [results, Tryz.results46, go_sem, q0, q1, q2, q3]) rfl ⟨rfl, GE⟩
set_option maxHeartbeats 4000000 in
theorem near_any (a0 a1 a2 a3 c0 c1 c2 c3 : Int) (w : World) : Calls Tryz.prog 47 #[boxV a0 a1 a2 a3, boxV c0 c1 c2 c3] w fun e w' => e = .returned (.bool (decide (a0 ≤ c2) && decide (c0 ≤ a2) && decide (a1 ≤ c3) && decide (c1 ≤ a3))) ∧ Grew w w' := by
 by_cases h0 : a0 ≤ c2
 ·skip
  by_cases h1 : c0 ≤ a2
  ·skip
   by_cases h2 : a1 ≤ c3
   ·skip
    by_cases h3 : c1 ≤ a3
    ·skip
     go_enter Tryz.func47, Tryz.ntmps47
     go_wp2_with fail
     go_ret
     exact ⟨by simp <;> omega, ((Grew.refl _).alloc _).alloc _⟩
    ·skip
     go_enter Tryz.func47, Tryz.ntmps47
     go_wp2_with fail
     go_ret
     exact ⟨by simp <;> omega, ((Grew.refl _).alloc _).alloc _⟩
   ·skip
    go_enter Tryz.func47, Tryz.ntmps47
    go_wp2_with fail
    go_ret
    exact ⟨by simp <;> omega, ((Grew.refl _).alloc _).alloc _⟩
  ·skip
   go_enter Tryz.func47, Tryz.ntmps47
   go_wp2_with fail
   go_ret
   exact ⟨by simp <;> omega, ((Grew.refl _).alloc _).alloc _⟩
 ·skip
  go_enter Tryz.func47, Tryz.ntmps47
  go_wp2_with fail
  go_ret
  exact ⟨by simp <;> omega, ((Grew.refl _).alloc _).alloc _⟩
theorem near_apart (ax ay bx b_y cx cy dx dy : Int) : (decide (min ax bx ≤ max cx dx) && decide (min cx dx ≤ max ax bx) && decide (min ay b_y ≤ max cy dy) && decide (min cy dy ≤ max ay b_y)) = !apartB ax ay bx b_y cx cy dx dy := by
 unfold apartB
 rw [Bool.eq_iff_iff]
 simp only [Bool.and_eq_true, decide_eq_true_eq, Bool.not_eq_true', Bool.or_eq_false_iff, decide_eq_false_iff_not]
 omega
def segVals : List SegZ → List Value
 | [] => []
 | s :: r => .int .i64 s.1.1 :: .int .i64 s.1.2 :: .int .i64 s.2.1 :: .int .i64 s.2.2 :: segVals r
theorem segVals_snoc (t : SegZ) : ∀ l : List SegZ, segVals (l ++ [t]) = segVals l ++ [.int .i64 t.1.1, .int .i64 t.1.2, .int .i64 t.2.1, .int .i64 t.2.2]
 | [] => rfl
 | s :: l => by simp only [List.cons_append, segVals, segVals_snoc t l]
theorem segVals_get : ∀ (m : List SegZ) (i : Nat) (s : SegZ), m[i]? = some s → ∀ j, j < 4 → (segVals m)[i * 4 + j]? = [Value.int .i64 s.1.1, .int .i64 s.1.2, .int .i64 s.2.1, .int .i64 s.2.2][j]?
 | [], i, s, h, _, _ => by simp at h
 | a :: m, 0, s, h, j, hj => by
  obtain rfl : a = s := by simpa using h
  have e : j = 0 ∨ j = 1 ∨ j = 2 ∨ j = 3 := by omega
  rcases e with rfl | rfl | rfl | rfl <;> rfl
 | a :: m, i + 1, s, h, j, hj => by
  have h' : m[i]? = some s := by simpa using h
  rw [← segVals_get m i s h' j hj, show (i + 1) * 4 + j = i * 4 + j + 1 + 1 + 1 + 1 by omega]
  rfl
theorem segs_own {e : TypeId} {w : World} {base : Nat} {v : Value} {m : List SegZ} (h : w.ownsRow base e 4 v m.length (segVals m)) (hi : ∀ s ∈ m, In64 s.1.1 s.1.2 ∧ In64 s.2.1 s.2.2) : SegsR w v m := by
 obtain ⟨hx, ⟨rfl, h0⟩ | ⟨g, cap, cur, rfl, -, hg, hnc, hcm, hcs, htake⟩⟩ := h
 ·obtain rfl : m = [] := List.eq_nil_of_length_eq_zero h0
  exact ⟨none, 0, rfl, by simp, by omega, by simp⟩
 ·refine ⟨_, cap, rfl, hnc, by unfold maxLen at hcm; omega, fun _ => ⟨g, 0, rfl, fun i s hs => ?_⟩⟩
  have hm := (List.getElem?_eq_some_iff.1 hs).1
  have hc : ∀ j, j < 4 → w.cell? ⟨g, 0 + i * 4 + j, none⟩ = [Value.int .i64 s.1.1, .int .i64 s.1.2, .int .i64 s.2.1, .int .i64 s.2.2][j]? := fun j hj => by
   rw [← segVals_get m i s hs j hj, ← htake, List.getElem?_take, if_pos (by omega), cell_of_row w g _ cur e (0, 0) hg, Nat.zero_add, Array.getElem?_toList]
  exact ⟨⟨hc 0 (by omega), hc 1 (by omega), hc 2 (by omega), hc 3 (by omega)⟩, hi s (List.mem_of_getElem? hs)⟩
theorem ownsRow_grew {e : TypeId} {w w' : World} {base size n : Nat} {v : Value} {xs : List Value} (h : w.ownsRow base e size v n xs) (g : Grew w w') : w'.ownsRow base e size v n xs := by
 have hb : ∀ k, v.ownBlock = some k → w'.heap[k]? = w.heap[k]? := fun k hk => g.below.block k (h.lt k hk).2
 refine ⟨h.1, ?_⟩
 rcases h.2 with h | ⟨gb, cap, cur, rfl, hbg, hg, h⟩
 ·exact .inl h
 ·exact .inr ⟨gb, cap, cur, rfl, hbg, (hb gb rfl).trans hg, h⟩
theorem info_seg : (Tryz.prog.info? 50).map (fun i => (i.zero, i.size, i.bytes)) = some (some (.agg #[.int .i64 0, .int .i64 0, .int .i64 0, .int .i64 0]), 4, 32) := by kernel_rfl
theorem close_succ (ax ay bx b_y : Int) {l : List SegZ} {j : Nat} {t : SegZ} (h : l[j]? = some t) :
  closeQ ax ay bx b_y (l.take (j + 1)) = closeQ ax ay bx b_y (l.take j) ++ (if (mayB t && !apartB ax ay bx b_y t.1.1 t.1.2 t.2.1 t.2.2) = true then [t] else []) := by
 unfold closeQ
 rw [List.take_add_one, h, Option.toList_some, List.filter_append]
 congr 1
 simp only [List.filter_cons, List.filter_nil]
set_option maxHeartbeats 16000000 in
theorem close_any (ax ay bx b_y : Int) (v : Value) (l : List SegZ) (w : World) (hl : SegsR w v l) (hn : l.length ≤ 1048576) :
  Calls Tryz.prog 25 #[segV ax ay bx b_y, v] w fun e w' => ∃ v', e = .returned v' ∧ SegsR w' v' (closeQ ax ay bx b_y l) ∧ Grew w w' := by
 have hin : ∀ s ∈ l, In64 s.1.1 s.1.2 ∧ In64 s.2.1 s.2.2 := by
  obtain ⟨A, c, -, -, -, h3⟩ := id hl
  intro s hs
  obtain ⟨i, hi, rfl⟩ := List.getElem_of_mem hs
  obtain ⟨b, o, -, he⟩ := h3 (by omega)
  exact (he i _ (List.getElem?_eq_getElem hi)).2
 obtain ⟨A, c, rfl, h1, h2, h3⟩ := hl
 obtain ⟨L, hL⟩ : ∃ L, l.length = L := ⟨_, rfl⟩
 rw [hL] at h1 hn h3
 rw [hL]
 have hm : L ≤ 9223372036854775807 := by omega
 replace h3 := hZ h3
 replace hin := hZ hin
 go_enter Tryz.func25, Tryz.ntmps25
 go_upto_region 1 with fail
 refine gen_wp ?_
 intro W1 hW1
 have p0 : W1.cell? ⟨w.heap.size, 0, none⟩ = some (.int .i64 ax) := by rw [hW1]; simp [go_sem]
 have p1 : W1.cell? ⟨w.heap.size, 1, none⟩ = some (.int .i64 ay) := by rw [hW1]; simp [go_sem]
 have p2 : W1.cell? ⟨w.heap.size, 2, none⟩ = some (.int .i64 bx) := by rw [hW1]; simp [go_sem]
 have p3 : W1.cell? ⟨w.heap.size, 3, none⟩ = some (.int .i64 b_y) := by rw [hW1]; simp [go_sem]
 have G1 : Grew w W1 := by rw [hW1]; exact (Grew.refl _).alloc _
 replace G1 := hZ G1
 clear hW1
 go_wp2_with fail
 refine (around_any ax ay bx b_y _).mono ?_
 rintro e w2 ⟨rfl, g2⟩
 have G2 := hZ (G1.out.trans g2)
 clear g2 G1 p0 p1 p2 p3
 go_upto_region 3 with fail
 refine gen_wp ?_
 intro W3 hW3
 have d0 : W3.cell? ⟨w2.heap.size, 0, none⟩ = some (.int .i64 (min ax bx)) := by rw [hW3]; simp [go_sem]
 have d1 : W3.cell? ⟨w2.heap.size, 1, none⟩ = some (.int .i64 (min ay b_y)) := by rw [hW3]; simp [go_sem]
 have d2 : W3.cell? ⟨w2.heap.size, 2, none⟩ = some (.int .i64 (max ax bx)) := by rw [hW3]; simp [go_sem]
 have d3 : W3.cell? ⟨w2.heap.size, 3, none⟩ = some (.int .i64 (max ay b_y)) := by rw [hW3]; simp [go_sem]
 have G3 : Grew w W3 := by rw [hW3]; exact G2.out.alloc _
 replace d0 := hZ d0
 replace d1 := hZ d1
 replace d2 := hZ d2
 replace d3 := hZ d3
 replace G3 := hZ G3
 clear hW3 G2
 go_wp2_with fail
 go_loopg [5, 13] L (fun gk s5 s13 wr => ∃ j : Nat, gk + j = L ∧ s13 = .int .i64 j ∧ wr.ownsRow W3.heap.size 50 4 s5 (closeQ ax ay bx b_y (l.take j)).length (segVals (closeQ ax ay bx b_y (l.take j))) ∧ Grew W3 wr)
 case atStart => exact ⟨0, rfl, rfl, by rw [List.take_zero]; exact World.ownsRow_nil _ _ _ _, Grew.refl _⟩
 case round =>
  obtain ⟨j, hj, rfl, hO, hG⟩ := hrel
  by_cases hlt : j < L
  ·obtain ⟨b, o, rfl, he⟩ := h3.out (by omega)
   obtain ⟨t, ht⟩ : ∃ t, l[j]? = some t := ⟨l[j]'(by omega), List.getElem?_eq_getElem _⟩
   obtain ⟨⟨e0, e1, e2, e3⟩, -, -⟩ := he j t ht
   have hsu := close_succ ax ay bx b_y ht
   have hlen : (closeQ ax ay bx b_y (l.take j)).length ≤ j := Nat.le_trans (List.length_filter_le _ _) (by rw [List.length_take]; omega)
   obtain ⟨⟨cx, cy⟩, dx, dy⟩ := t
   obtain ⟨bm, hbm⟩ : ∃ bm, (fitB cx cy && fitB dx dy) = bm := ⟨_, rfl⟩
   obtain ⟨ba, hba⟩ : ∃ ba, apartB ax ay bx b_y cx cy dx dy = ba := ⟨_, rfl⟩
   have hmb : mayB ((cx, cy), dx, dy) = bm := hbm
   simp only [hmb, hba] at hsu
   simp only [] at e0 e1 e2 e3
   have gw := G3.out.trans hG
   have f0 := gw.cell e0
   have f1 := gw.cell e1
   have f2 := gw.cell e2
   have f3 := gw.cell e3
   replace hsu := hZ hsu
   replace hbm := hZ hbm
   replace hba := hZ hba
   have hjl : (j : Int) < (L : Int) := by omega
   have hO' := hZ hO
   have hG' := hZ hG
   clear e0 e1 e2 e3 he gw hO hG ht hmb
   go_upto_region 6 with fail
   refine gen_wp ?_
   intro W9 hW9
   have t0 : Hid (W9.cell? ⟨wr.heap.size, 0, none⟩ = some (.int .i64 cx)) := hZ (by rw [hW9]; simp [go_sem])
   have t1 : Hid (W9.cell? ⟨wr.heap.size, 1, none⟩ = some (.int .i64 cy)) := hZ (by rw [hW9]; simp [go_sem])
   have t2 : Hid (W9.cell? ⟨wr.heap.size, 2, none⟩ = some (.int .i64 dx)) := hZ (by rw [hW9]; simp [go_sem])
   have t3 : Hid (W9.cell? ⟨wr.heap.size, 3, none⟩ = some (.int .i64 dy)) := hZ (by rw [hW9]; simp [go_sem])
   have gl : Grew wr W9 := by rw [hW9]; exact (Grew.refl _).alloc _
   have og := ownsRow_grew hO'.out gl
   have gg := hG'.out.trans gl
   replace og := hZ og
   replace d0 := hZ (gg.cell d0.out)
   replace d1 := hZ (gg.cell d1.out)
   replace d2 := hZ (gg.cell d2.out)
   replace d3 := hZ (gg.cell d3.out)
   replace gg := hZ gg
   clear hW9 gl hO' hG' f0 f1 f2 f3
   go_wp2_with fail
   cases bm
   ·skip
    refine wp_region_held_drew (S := fun wv => Grew W9 wv) (by kernel_rfl) ((Grew.refl W9).drew) (fun hHeld => ?_)
    replace hHeld := hZ hHeld
    try simp only [Act.put, List.setIfInBounds_toArray, List.set_cons_zero, List.set_cons_succ]
    refine wpAnyH_takeD (i := 0) (d := 17) (v := ?_) rfl rfl (by kernel_rfl) (by kernel_rfl) (by kernel_rfl) (fun _ _ _ h => h) (Or.inl ⟨by rfl, ?_⟩) hHeld.out ?_
    rotate_left
    ·intro wv hSw
     replace hSw : Hid (Grew W9 wv) := hZ hSw
     have t0 := hSw.out.cell t0.out
     have t1 := hSw.out.cell t1.out
     have t2 := hSw.out.cell t2.out
     have t3 := hSw.out.cell t3.out
     go_simp
     try with_reducible rfl
    try simp only [Act.put, List.setIfInBounds_toArray, List.set_cons_zero, List.set_cons_succ]
    refine wpAnyH_ready (rs := [1]) (by kernel_rfl) (by simp) ?_
    refine AllReadyH.cons rfl (fun KK hKK => ?_) AllReadyH.nil
    go_simp
    refine (xmay_any cx cy dx dy _).mono ?_
    rintro e wk1 ⟨rfl, g⟩
    have gk := hHeld.out.trans g
    rw [hbm.out]
    clear hHeld
    try dsimp only
    refine hKK.out _ _ gk (fun hHeld => ?_)
    clear gk hKK KK
    replace hHeld := hZ (show Grew W9 wk1 from hHeld)
    try simp only [Act.put, List.setIfInBounds_toArray, List.set_cons_zero, List.set_cons_succ]
    refine wpAnyH_takeD (i := 2) (d := 19) (v := ?_) rfl rfl (by kernel_rfl) (by kernel_rfl) (by kernel_rfl) (fun _ _ _ h => h) (Or.inl ⟨by rfl, ?_⟩) hHeld.out ?_
    rotate_left
    ·intro wv hSw
     replace hSw : Hid (Grew W9 wv) := hZ hSw
     go_simp
     try with_reducible rfl
    try simp only [Act.put, List.setIfInBounds_toArray, List.set_cons_zero, List.set_cons_succ]
    refine wpAnyH_takeD (i := 3) (d := 20) (v := undef) rfl rfl (by kernel_rfl) (by kernel_rfl) (by kernel_rfl) (fun _ _ _ h => h) (Or.inr ⟨by rfl, rfl⟩) hHeld.out ?_
    try simp only [Act.put, List.setIfInBounds_toArray, List.set_cons_zero, List.set_cons_succ]
    refine wpAnyH_takeD (i := 4) (d := 21) (v := undef) rfl rfl (by kernel_rfl) (by kernel_rfl) (by kernel_rfl) (fun _ _ _ h => h) (Or.inr ⟨by rfl, rfl⟩) hHeld.out ?_
    try simp only [Act.put, List.setIfInBounds_toArray, List.set_cons_zero, List.set_cons_succ]
    refine wpAnyH_takeD (i := 5) (d := 22) (v := undef) rfl rfl (by kernel_rfl) (by kernel_rfl) (by kernel_rfl) (fun _ _ _ h => h) (Or.inr ⟨by rfl, rfl⟩) hHeld.out ?_
    try simp only [Act.put, List.setIfInBounds_toArray, List.set_cons_zero, List.set_cons_succ]
    refine wpAnyH_takeD (i := 6) (d := 23) (v := undef) rfl rfl (by kernel_rfl) (by kernel_rfl) (by kernel_rfl) (fun _ _ _ h => h) (Or.inr ⟨by rfl, rfl⟩) hHeld.out ?_
    try simp only [Act.put, List.setIfInBounds_toArray, List.set_cons_zero, List.set_cons_succ]
    refine wpAnyH_takeD (i := 7) (d := 24) (v := ?_) rfl rfl (by kernel_rfl) (by kernel_rfl) (by kernel_rfl) (fun _ _ _ h => h) (Or.inl ⟨by rfl, ?_⟩) hHeld.out ?_
    rotate_left
    ·intro wv hSw
     replace hSw : Hid (Grew W9 wv) := hZ hSw
     go_simp
     try with_reducible rfl
    try simp only [Act.put, List.setIfInBounds_toArray, List.set_cons_zero, List.set_cons_succ]
    refine wpAnyH_done (by kernel_rfl) ?_ _
    have gS := hZ (gg.out.trans hHeld.out)
    have hsu' := hZ (hsu.out.trans (by simp : _ = closeQ ax ay bx b_y (l.take j)))
    go_wp2_with fail
    go_roundg (gk - 1)
    case rel => exact ⟨j + 1, by omega, by go_num, by rw [hsu'.out]; exact ownsRow_grew og.out hHeld.out, gS.out⟩
    case measure => omega
   ·skip
    refine wp_region_held_drew (S := fun wv => Grew W9 wv) (by kernel_rfl) ((Grew.refl W9).drew) (fun hHeld => ?_)
    replace hHeld := hZ hHeld
    try simp only [Act.put, List.setIfInBounds_toArray, List.set_cons_zero, List.set_cons_succ]
    refine wpAnyH_takeD (i := 0) (d := 17) (v := ?_) rfl rfl (by kernel_rfl) (by kernel_rfl) (by kernel_rfl) (fun _ _ _ h => h) (Or.inl ⟨by rfl, ?_⟩) hHeld.out ?_
    rotate_left
    ·intro wv hSw
     replace hSw : Hid (Grew W9 wv) := hZ hSw
     have t0 := hSw.out.cell t0.out
     have t1 := hSw.out.cell t1.out
     have t2 := hSw.out.cell t2.out
     have t3 := hSw.out.cell t3.out
     go_simp
     try with_reducible rfl
    try simp only [Act.put, List.setIfInBounds_toArray, List.set_cons_zero, List.set_cons_succ]
    refine wpAnyH_ready (rs := [1]) (by kernel_rfl) (by simp) ?_
    refine AllReadyH.cons rfl (fun KK hKK => ?_) AllReadyH.nil
    go_simp
    refine (xmay_any cx cy dx dy _).mono ?_
    rintro e wk1 ⟨rfl, g⟩
    have gk := hHeld.out.trans g
    rw [hbm.out]
    clear hHeld
    try dsimp only
    refine hKK.out _ _ gk (fun hHeld => ?_)
    clear gk hKK KK
    replace hHeld := hZ (show Grew W9 wk1 from hHeld)
    try simp only [Act.put, List.setIfInBounds_toArray, List.set_cons_zero, List.set_cons_succ]
    refine wpAnyH_takeD (i := 2) (d := 19) (v := ?_) rfl rfl (by kernel_rfl) (by kernel_rfl) (by kernel_rfl) (fun _ _ _ h => h) (Or.inl ⟨by rfl, ?_⟩) hHeld.out ?_
    rotate_left
    ·intro wv hSw
     replace hSw : Hid (Grew W9 wv) := hZ hSw
     go_simp
     try with_reducible rfl
    try simp only [Act.put, List.setIfInBounds_toArray, List.set_cons_zero, List.set_cons_succ]
    refine wpAnyH_takeD (i := 3) (d := 20) (v := ?_) rfl rfl (by kernel_rfl) (by kernel_rfl) (by kernel_rfl) (fun _ _ _ h => h) (Or.inl ⟨by rfl, ?_⟩) hHeld.out ?_
    rotate_left
    ·intro wv hSw
     replace hSw : Hid (Grew W9 wv) := hZ hSw
     have r0 := hSw.out.cell d0.out
     have r1 := hSw.out.cell d1.out
     have r2 := hSw.out.cell d2.out
     have r3 := hSw.out.cell d3.out
     go_simp
     try with_reducible rfl
    try simp only [Act.put, List.setIfInBounds_toArray, List.set_cons_zero, List.set_cons_succ]
    refine wpAnyH_takeD (i := 4) (d := 21) (v := ?_) rfl rfl (by kernel_rfl) (by kernel_rfl) (by kernel_rfl) (fun _ _ _ h => h) (Or.inl ⟨by rfl, ?_⟩) hHeld.out ?_
    rotate_left
    ·intro wv hSw
     replace hSw : Hid (Grew W9 wv) := hZ hSw
     have t0 := hSw.out.cell t0.out
     have t1 := hSw.out.cell t1.out
     have t2 := hSw.out.cell t2.out
     have t3 := hSw.out.cell t3.out
     go_simp
     try with_reducible rfl
    try simp only [Act.put, List.setIfInBounds_toArray, List.set_cons_zero, List.set_cons_succ]
    refine wpAnyH_ready (rs := [5]) (by kernel_rfl) (by simp) ?_
    refine AllReadyH.cons rfl (fun KK hKK => ?_) AllReadyH.nil
    go_simp
    refine (around_any cx cy dx dy _).mono ?_
    rintro e wk2 ⟨rfl, g⟩
    have gk := hHeld.out.trans g
    clear hHeld
    try dsimp only
    refine hKK.out _ _ gk (fun hHeld => ?_)
    clear gk hKK KK
    replace hHeld := hZ (show Grew W9 wk2 from hHeld)
    try simp only [Act.put, List.setIfInBounds_toArray, List.set_cons_zero, List.set_cons_succ]
    refine wpAnyH_ready (rs := [6]) (by kernel_rfl) (by simp) ?_
    refine AllReadyH.cons rfl (fun KK hKK => ?_) AllReadyH.nil
    go_simp
    refine (near_any _ _ _ _ _ _ _ _ _).mono ?_
    rintro e wk3 ⟨rfl, g⟩
    have gk := hHeld.out.trans g
    rw [near_apart, hba.out]
    clear hHeld
    try dsimp only
    refine hKK.out _ _ gk (fun hHeld => ?_)
    clear gk hKK KK
    replace hHeld := hZ (show Grew W9 wk3 from hHeld)
    try simp only [Act.put, List.setIfInBounds_toArray, List.set_cons_zero, List.set_cons_succ]
    refine wpAnyH_takeD (i := 7) (d := 24) (v := ?_) rfl rfl (by kernel_rfl) (by kernel_rfl) (by kernel_rfl) (fun _ _ _ h => h) (Or.inl ⟨by rfl, ?_⟩) hHeld.out ?_
    rotate_left
    ·intro wv hSw
     replace hSw : Hid (Grew W9 wv) := hZ hSw
     go_simp
     try with_reducible rfl
    try simp only [Act.put, List.setIfInBounds_toArray, List.set_cons_zero, List.set_cons_succ]
    refine wpAnyH_done (by kernel_rfl) ?_ _
    have gS := hZ (gg.out.trans hHeld.out)
    have oS := hZ (ownsRow_grew og.out hHeld.out)
    cases ba
    ·have hsu' := hZ (hsu.out.trans (by simp : _ = closeQ ax ay bx b_y (l.take j) ++ [((cx, cy), dx, dy)]))
     have t0 := hHeld.out.cell t0.out
     have t1 := hHeld.out.cell t1.out
     have t2 := hHeld.out.cell t2.out
     have t3 := hHeld.out.cell t3.out
     have hsz := gS.out.size
     go_wp2_with (first | fail | (at_builtin; (refine wpList_app1 _ rfl (.tmp 25) (.tmp 27) 22 rfl W3.heap.size 50 _ 4 32 Tryz.underlying22 info_seg rfl (by omega) _ _ _ rfl oS.out _ rfl (by intro u hu; simp at hu; rcases hu with rfl | rfl | rfl | rfl <;> rfl) rfl (by omega) (by omega) hsz ?_); intro vB wzB hown1 hG1))
     have gzB := hZ (hG1 W3 (Nat.le_refl _) gS.out)
     have own9 : wzB.ownsRow W3.heap.size 50 4 vB (closeQ ax ay bx b_y (l.take (j + 1))).length (segVals (closeQ ax ay bx b_y (l.take (j + 1)))) := by
      rw [hsu'.out, segVals_snoc, List.length_append]
      exact hown1
     replace own9 := hZ own9
     clear hown1 hG1 oS t0 t1 t2 t3
     go_wp2_with fail
     go_roundg (gk - 1)
     case rel => exact ⟨j + 1, by omega, by go_num, own9.out, gzB.out⟩
     case measure => omega
    ·have hsu' := hZ (hsu.out.trans (by simp : _ = closeQ ax ay bx b_y (l.take j)))
     go_wp2_with fail
     go_roundg (gk - 1)
     case rel => exact ⟨j + 1, by omega, by go_num, by rw [hsu'.out]; exact oS.out, gS.out⟩
     case measure => omega
  ·obtain rfl : j = L := by omega
   have hall : l.take j = l := by rw [← hL]; exact List.take_length
   rw [hall] at hO
   have hr := hZ (segs_own hO fun s hs => hin.out s (List.mem_filter.1 hs).1)
   have hG' := hZ (G3.out.trans hG)
   clear hO hG
   go_wp2_with fail
   go_ret
   exact ⟨_, rfl, hr.out, hG'.out⟩
end Go.Proofs.YtmommicmblfibaaGreat
