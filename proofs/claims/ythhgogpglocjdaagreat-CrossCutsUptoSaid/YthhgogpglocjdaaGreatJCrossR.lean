/- cross.Cuts. Condition: ints of 64 bits; at most 2^20 ways. cross.Cross. Condition: ints of 64 bits. Plain: whether two ways go through one another: the program and the document answer alike. Conditions: none. r10.Fits, r17.May. Conditions: none. -/
import Derived.Test.YthhgogpglocjdaaGreatJCompP
import Derived.Test.YthhgogpglocjdaaGreatJRow5
import Derived.Test.YthhgogpglocjdaaGreatJMeetP3
import Derived.Deep.RegionHeld3
import Derived.Test.YthhgogpglocjdaaGreatJMeetP8
import Derived.Test.YthhgogpglocjdaaGreatJCross2
namespace Go.Proofs.YthhgogpglocjdaaGreat
open Go.RowKit

theorem own_two {e : TypeId} {w : World} {base : Nat} (hb : base ≤ w.heap.size) {b b' : Bool} {A C A' C' : Option Addr} {n c m d n' c' m' d' : Nat} {x y : Rat} (h : SpotC w (.agg #[.bool b, .slice A n c, .slice C m d, .bool b', .slice A' n' c', .slice C' m' d']) x y)
    {b2 b2' : Bool} {A2 C2 A2' C2' : Option Addr} {n2 c2 m2 d2 n2' c2' m2' d2' : Nat} {x2 y2 : Rat} (h2 : SpotC w (.agg #[.bool b2, .slice A2 n2 c2, .slice C2 m2 d2, .bool b2', .slice A2' n2' c2', .slice C2' m2' d2']) x2 y2) :
    OwnC e (w.alloc (.cells #[.bool b, .slice A n c, .slice C m d, .bool b', .slice A' n' c', .slice C' m' d', .bool b2, .slice A2 n2 c2, .slice C2 m2 d2, .bool b2', .slice A2' n2' c2', .slice C2' m2' d2'] e)) base (.slice (some ⟨w.heap.size, 0, none⟩) 2 2) [(x, y), (x2, y2)] := by
  have hk := ((Grew.refl w).alloc (.cells #[.bool b, .slice A n c, .slice C m d, .bool b', .slice A' n' c', .slice C' m' d', .bool b2, .slice A2 n2 c2, .slice C2 m2 d2, .bool b2', .slice A2' n2' c2', .slice C2' m2' d2'] e)).keeps
  refine OwnC.of (l := [(x, y), (x2, y2)]) hb ?_ (heap_alloc_new w _) (by simp) (by unfold maxLen; omega) rfl ?_
  · intro p u hu
    rw [cell_of_row _ w.heap.size p _ e (0, 0) (heap_alloc_new w _)] at hu
    have := Array.mem_of_getElem? hu
    simp only [List.mem_toArray, List.mem_cons, List.not_mem_nil, or_false] at this
    rcases this with rfl | rfl | rfl | rfl | rfl | rfl | rfl | rfl | rfl | rfl | rfl | rfl <;> intro k x e <;> simp at e
  · intro i p hp
    have hi := (List.getElem?_eq_some_iff.1 hp).1
    rcases (show i = 0 ∨ i = 1 by simp at hi; omega) with rfl | rfl
    · obtain rfl : (x, y) = p := by simpa using hp
      exact ⟨b, A, n, c, C, m, d, b', A', n', c', C', m', d', ⟨rfl, rfl, rfl, rfl, rfl, rfl⟩, SpotC.kept h hk⟩
    · obtain rfl : (x2, y2) = p := by simpa using hp
      exact ⟨b2, A2, n2, c2, C2, m2, d2, b2', A2', n2', c2', C2', m2', d2', ⟨rfl, rfl, rfl, rfl, rfl, rfl⟩, SpotC.kept h2 hk⟩

set_option maxRecDepth 100000 in
set_option maxHeartbeats 16000000 in
theorem cuts_any (ax ay bx b_y : Int) (v : Value) (l : List SegZ) (w : World) (ra : In64 ax ay) (rb : In64 bx b_y) (hl : SegsR w v l) (hn : l.length ≤ 1048576) :
    Calls Tryz.prog 16 #[segV ax ay bx b_y, v] w fun e w' => ∃ v', e = .returned v' ∧ RowC w' v' (cutsQ ax ay bx b_y l) ∧ Grew w w' := by
  obtain ⟨A, c, rfl, h1, h2, h3⟩ := hl
  obtain ⟨L, hL⟩ : ∃ L, l.length = L := ⟨_, rfl⟩
  rw [hL] at h1 hn h3
  rw [hL]
  have hm : L ≤ 9223372036854775807 := by omega
  replace h3 := Lib.hid h3
  replace ra := Lib.hid ra
  replace rb := Lib.hid rb
  obtain ⟨f, hf⟩ : ∃ f, (fitB ax ay && fitB bx b_y) = f := ⟨_, rfl⟩
  replace hf := Lib.hid hf
  obtain ⟨cq, hcq⟩ : ∃ cq, cutsQ ax ay bx b_y l = cq := ⟨_, rfl⟩
  rw [hcq]
  replace hcq := Lib.hid hcq
  go_enter Tryz.func16, Tryz.ntmps16
  go_upto_region 1 with fail
  refine gen_wp ?_
  intro W1 hW1
  have p0 : W1.cell? ⟨w.heap.size, 0, none⟩ = some (.int .i64 ax) := by rw [hW1]; simp [go_sem]
  have p1 : W1.cell? ⟨w.heap.size, 1, none⟩ = some (.int .i64 ay) := by rw [hW1]; simp [go_sem]
  have p2 : W1.cell? ⟨w.heap.size, 2, none⟩ = some (.int .i64 bx) := by rw [hW1]; simp [go_sem]
  have p3 : W1.cell? ⟨w.heap.size, 3, none⟩ = some (.int .i64 b_y) := by rw [hW1]; simp [go_sem]
  have G1 : Grew w W1 := by rw [hW1]; exact (Grew.refl _).alloc _
  have zw : w.heap.size < W1.heap.size := by rw [hW1]; simp
  replace G1 := Lib.hid G1
  clear hW1
  go_wp2_with fail
  refine (cmay_any ax ay bx b_y _).mono ?_
  rintro e W2 ⟨rfl, g2⟩
  rw [hf.out]
  replace g2 := Lib.hid g2
  cases f
  · have hcq' := Lib.hid (hcq.out.symm.trans (by unfold cutsQ; rw [hf.out]; rfl) : cq = [])
    have gE := Lib.hid (G1.out.trans g2.out)
    clear p0 p1 p2 p3
    go_wp2_with fail
    go_ret
    exact ⟨_, rfl, by rw [hcq'.out]; exact RowP.nil _ _, gE.out⟩
  have q0 := g2.out.cell p0
  have q1 := g2.out.cell p1
  have q2 := g2.out.cell p2
  have q3 := g2.out.cell p3
  go_wp2_with fail
  go_region_held3 (fun w' => w'.cell? ⟨w.heap.size, 0, none⟩ = some (.int .i64 ax) ∧ w'.cell? ⟨w.heap.size, 1, none⟩ = some (.int .i64 ay) ∧ w'.cell? ⟨w.heap.size, 2, none⟩ = some (.int .i64 bx) ∧ w'.cell? ⟨w.heap.size, 3, none⟩ = some (.int .i64 b_y))
    (first | exact ⟨q0, q1, q2, q3⟩ | exact ⟨g5.cell q0, g5.cell q1, g5.cell q2, g5.cell q3⟩ | exact ⟨(g5.trans g6).cell q0, (g5.trans g6).cell q1, (g5.trans g6).cell q2, (g5.trans g6).cell q3⟩ | exact ⟨((g5.trans g6).alloc _).cell q0, ((g5.trans g6).alloc _).cell q1, ((g5.trans g6).alloc _).cell q2, ((g5.trans g6).alloc _).cell q3⟩)
    (first | (have chk := g5; clear chk; go_at_call 43; refine (at_any bx b_y _ rb.out.1 rb.out.2.1 rb.out.2.2.1 rb.out.2.2.2).mono ?_; rintro e w6 ⟨V6, rfl, hV6, g6⟩; obtain ⟨b9, A9, n9, c9, C9, m9, d9, b10, A10, n10, c10, C10, m10, d10, rfl, -, -, X6⟩ := hV6.laid; clear hV6) | (go_at_call 43; refine (at_any ax ay _ ra.out.1 ra.out.2.1 ra.out.2.2.1 ra.out.2.2.2).mono ?_; rintro e w5 ⟨V5, rfl, hV5, g5⟩; obtain ⟨b7, A7, n7, c7, C7, m7, d7, b8, A8, n8, c8, C8, m8, d8, rfl, -, -, X5⟩ := hV5.laid; clear hV5))
  have gS := ((g2.out.drew).trans g5).trans g6
  have oS := Lib.hid (own_two (e := 39) (base := W1.heap.size) gS.size (SpotC.kept X5.out g6.keeps) X6.out)
  have gT := Lib.hid (gS.alloc (.cells #[.bool b7, .slice A7 n7 c7, .slice C7 m7 d7, .bool b8, .slice A8 n8 c8, .slice C8 m8 d8, .bool b9, .slice A9 n9 c9, .slice C9 m9 d9, .bool b10, .slice A10 n10 c10, .slice C10 m10 d10] 39))
  clear gS g5 g6 X5 X6 q0 q1 q2 q3 g2
  go_wp2_with fail
  go_loopg [5, 23] L (fun gk s5 s23 wr => ∃ j : Nat, gk + j = L ∧ s23 = .int .i64 j ∧ OwnC 39 wr W1.heap.size s5 (cutAll ax ay bx b_y (l.take j)) ∧ Grew W1 wr)
  case atStart => exact ⟨0, rfl, rfl, by rw [List.take_zero]; exact oS.out, gT.out⟩
  case round =>
    obtain ⟨j, hj, rfl, hO, hG⟩ := hrel
    clear oS gT
    have q0 := hG.cell p0
    have q1 := hG.cell p1
    have q2 := hG.cell p2
    have q3 := hG.cell p3
    by_cases hlt : j < L
    · obtain ⟨b, o, rfl, he⟩ := h3.out (by omega)
      obtain ⟨t, ht⟩ : ∃ t, l[j]? = some t := ⟨l[j]'(by omega), List.getElem?_eq_getElem _⟩
      obtain ⟨⟨e0, e1, e2, e3⟩, rc, rd⟩ := he j t ht
      have hsu : cutAll ax ay bx b_y (l.take (j + 1)) = cutAll ax ay bx b_y (l.take j) ++ meetW ax ay bx b_y t := cutRow_succ _ _ _ ht
      have hle := cutAll_len ax ay bx b_y (l.take j)
      have hml := meetW_len ax ay bx b_y t
      have htl : (l.take j).length = j := by rw [List.length_take]; omega
      obtain ⟨⟨cx, cy⟩, dx, dy⟩ := t
      simp only [] at e0 e1 e2 e3 rc rd
      have gw := G1.out.trans hG
      have f0 := gw.cell e0
      have f1 := gw.cell e1
      have f2 := gw.cell e2
      have f3 := gw.cell e3
      replace rc := Lib.hid rc
      replace rd := Lib.hid rd
      replace hsu := Lib.hid hsu
      have hjl : (j : Int) < (L : Int) := by omega
      have hO' := Lib.hid hO
      have hG' := Lib.hid hG
      clear e0 e1 e2 e3 he gw hO hG ht
      go_upto_region 7 with fail
      refine gen_wp ?_
      intro W9 hW9
      have t0 : W9.cell? ⟨wr.heap.size, 0, none⟩ = some (.int .i64 cx) := by rw [hW9]; simp [go_sem]
      have t1 : W9.cell? ⟨wr.heap.size, 1, none⟩ = some (.int .i64 cy) := by rw [hW9]; simp [go_sem]
      have t2 : W9.cell? ⟨wr.heap.size, 2, none⟩ = some (.int .i64 dx) := by rw [hW9]; simp [go_sem]
      have t3 : W9.cell? ⟨wr.heap.size, 3, none⟩ = some (.int .i64 dy) := by rw [hW9]; simp [go_sem]
      have gl : Grew wr W9 := by rw [hW9]; exact (Grew.refl _).alloc _
      have q0 := gl.cell q0
      have q1 := gl.cell q1
      have q2 := gl.cell q2
      have q3 := gl.cell q3
      have og := Lib.hid (OwnC.grew hO'.out gl)
      have gg := Lib.hid (hG'.out.trans gl)
      clear hW9 gl hO' hG' f0 f1 f2 f3
      go_wp2_with fail
      refine (meet_any ax ay bx b_y cx cy dx dy _ ra.out rb.out rc.out rd.out).mono ?_
      rintro e wy ⟨V, rfl, hV, gy⟩
      have gwy := gg.out.trans gy
      have hsz := gwy.size
      have ho := Lib.hid (OwnC.grew og.out gy)
      replace hV : RowC wy V (meetW ax ay bx b_y ((cx, cy), dx, dy)) := hV
      replace hV := Lib.hid hV
      replace gwy := Lib.hid gwy
      clear gy t0 t1 t2 t3 og gg
      go_wp2_with (first | fail | (at_builtin; (refine wpList_appRow rfl (.tmp 27) (.tmp 30) rfl rfl rfl ho.out hV.out (by omega) hsz ?_); intro vB wzB hO9 hG9))
      have gzB := Lib.hid (hG9 W1 (Nat.le_refl _) gwy.out)
      rw [← hsu.out] at hO9
      replace hO9 := Lib.hid hO9
      clear hG9 ho hV gwy hsz
      go_wp2_with fail
      go_roundg (gk - 1)
      case rel => exact ⟨j + 1, by omega, by go_num, hO9.out, gzB.out⟩
      case measure => omega
    · obtain rfl : j = L := by omega
      have hall : l.take j = l := by rw [← hL]; exact List.take_length
      rw [hall] at hO
      have hle := cutAll_len ax ay bx b_y l
      have hqb := Lib.hid (cutAll_qb (l := l) hf.out)
      have hcq' := hcq.out
      unfold cutsQ at hcq'
      rw [if_pos hf.out] at hcq'
      generalize cutAll ax ay bx b_y l = all at hO hle hqb hcq'
      have hR := Lib.hid (hO.row.r hqb.out)
      have hG' := Lib.hid hG
      obtain ⟨A5, c5, rfl, -, -, -⟩ := hO.row
      clear hO hG
      replace hcq' := Lib.hid hcq'
      go_wp2_with fail
      refine (srow_any _ all 7 _ hR.out hqb.out (by omega) (by omega) (by omega)).mono ?_
      rintro e W5 ⟨V5, rfl, hV5, g5⟩
      have hrl := rowQ_len all
      obtain ⟨R, hRq⟩ : ∃ R, rowQ all = R := ⟨_, rfl⟩
      rw [hRq] at hV5 hrl
      rw [hRq] at hcq'
      obtain ⟨M, hM⟩ : ∃ M, R.length = M := ⟨_, rfl⟩
      have gV := Lib.hid (hG'.out.trans g5)
      replace q0 := g5.cell q0
      replace q1 := g5.cell q1
      replace q2 := g5.cell q2
      replace q3 := g5.cell q3
      obtain ⟨A6, c6, rfl, x1, x2, x3⟩ := id hV5
      rw [hM] at x1 x3 hrl hV5
      rw [hM]
      replace x3 := Lib.hid x3
      replace hV5 := Lib.hid hV5
      clear g5 hR hqb hG'
      obtain ⟨tt, htt⟩ : ∃ tt, aheadB bx b_y ax ay = tt := ⟨_, rfl⟩
      replace htt := Lib.hid htt
      go_wp2_with fail
      refine (ahead_any bx b_y ax ay _).mono ?_
      rintro e W6 ⟨rfl, g6⟩
      rw [htt.out]
      rw [htt.out] at hcq'
      have gW := Lib.hid ((G1.out.trans gV.out).trans g6)
      cases tt
      · have e1 := Lib.hid (hcq'.out.symm.trans (if_neg (by simp)) : cq = R)
        have hV6 := Lib.hid (hV5.out.grew g6)
        clear hcq' g6 q0 q1 q2 q3
        go_wp2_with fail
        go_ret
        exact ⟨_, rfl, by rw [e1.out]; exact hV6.out, gW.out⟩
      · have e1 := Lib.hid (hcq'.out.symm.trans (if_pos rfl) : cq = R.reverse)
        have hmk := make_spots M (by omega) W6
        have hO0 := Lib.hid (OwnC.made 39 W6 W6.heap.size M (Nat.le_refl _) (by unfold maxLen; omega) _ (made_spots (M * 6)) (size_madeCells _ _))
        have hG0 := Lib.hid ((Grew.refl W6).alloc (.cells (madeCells (Value.agg #[.bool false, .slice none 0 0, .slice none 0 0, .bool false, .slice none 0 0, .slice none 0 0]).cells (M * 6)) 39))
        generalize W6.alloc (.cells (madeCells (Value.agg #[.bool false, .slice none 0 0, .slice none 0 0, .bool false, .slice none 0 0, .slice none 0 0]).cells (M * 6)) 39) = W7 at hmk hO0 hG0
        replace g6 := Lib.hid g6
        clear hcq' q0 q1 q2 q3 hV5
        go_wp2_with fail
        go_loopg [9, 10] M (fun gk s9 s10 wr => ∃ (i : Nat) (z : Int), gk = i ∧ i ≤ M ∧ z = (i : Int) - 1 ∧ s10 = .int .i64 z ∧ OwnC 39 wr W6.heap.size s9 (R.drop i).reverse ∧ Grew W6 wr)
        case atStart => exact ⟨M, (M : Int) - 1, rfl, Nat.le_refl _, rfl, by go_num, by rw [List.drop_eq_nil_of_le (by omega)]; exact hO0.out, hG0.out⟩
        case round =>
          obtain ⟨i, z, rfl, hiM, hz, rfl, hO, hG⟩ := hrel
          clear hO0 hG0
          by_cases hi0 : 0 < gk
          · obtain ⟨k, hk⟩ : ∃ k, k + 1 = gk := ⟨gk - 1, by omega⟩
            obtain rfl : z = (k : Int) := by omega
            obtain ⟨g, o9, rfl, ke⟩ := x3.out (by omega)
            obtain ⟨q, hq9⟩ : ∃ q, R[k]? = some q := ⟨R[k]'(by omega), List.getElem?_eq_getElem _⟩
            have hst := rev_step hq9
            rw [hk] at hst
            replace hst := Lib.hid hst
            obtain ⟨b3, A3, n3, c3, C3, m3, d3, b4, A4, n4, c4, C4, m4, d4, ⟨e0, e1, e2, e3, e4, e5⟩, S2⟩ := ke k q hq9
            have f0 : wr.cell? ⟨g, o9 + k * 6, none⟩ = some (.bool b3) := hG.cell (g6.out.cell e0)
            have f1 : wr.cell? ⟨g, o9 + k * 6 + 1, none⟩ = some (.slice A3 n3 c3) := hG.cell (g6.out.cell e1)
            have f2 : wr.cell? ⟨g, o9 + k * 6 + 2, none⟩ = some (.slice C3 m3 d3) := hG.cell (g6.out.cell e2)
            have f3 : wr.cell? ⟨g, o9 + k * 6 + 3, none⟩ = some (.bool b4) := hG.cell (g6.out.cell e3)
            have f4 : wr.cell? ⟨g, o9 + k * 6 + 4, none⟩ = some (.slice A4 n4 c4) := hG.cell (g6.out.cell e4)
            have f5 : wr.cell? ⟨g, o9 + k * 6 + 5, none⟩ = some (.slice C4 m4 d4) := hG.cell (g6.out.cell e5)
            have X7 := Lib.hid (SpotC.kept S2 (g6.out.trans hG).keeps)
            obtain ⟨xs, hown, hF⟩ := hO
            have hlen : ((R.drop gk).reverse).length = M - gk := by rw [List.length_reverse, List.length_drop]; omega
            have hsz := hG.size
            have hGr := Lib.hid hG
            have hkM : (k : Int) < (M : Int) := by omega
            have hk0 : (0 : Int) ≤ (k : Int) := by omega
            have ho := Lib.hid hown
            replace hF := Lib.hid hF
            replace hk := Lib.hid hk
            clear e0 e1 e2 e3 e4 e5 S2 hown hG ke hq9 hz
            go_wp2_with (first | fail | (at_builtin; (refine wpList_appS1 _ rfl (.tmp 52) (.tmp 57) 27 rfl W6.heap.size 39 _ 6 112 Tryz.underlying27 info_spot rfl (by omega) zero_spot _ _ _ rfl ho.out _ rfl (one6 _ _ _ _ _ _ _ _ _ _ _ _ _ _) (noint6 _ _ _ _ _ _ _ _ _ _ _ _ _ _) rfl (by omega) (by omega) hsz ?_); intro vB wzB hown1 hG1 hK1))
            have gzB := hG1 W6 (Nat.le_refl _) hGr.out
            have ozB := OwnC.snoc (p := q) hown1 hF.out X7.out hK1
            clear hown1 hG1 hK1 ho hF X7 hGr f0 f1 f2 f3 f4 f5
            go_wp2_with fail
            have hk' := hk.out
            go_roundg k
            case rel => exact ⟨k, (k : Int) - 1, rfl, by omega, rfl, by go_num, by rw [hst.out]; exact ozB, gzB⟩
            case measure => omega
          · obtain rfl : gk = 0 := by omega
            obtain rfl : z = -1 := by omega
            clear hz
            rw [List.drop_zero] at hO
            have hrow := Lib.hid hO.row
            have hG' := Lib.hid (gW.out.trans hG)
            clear hO hG
            go_wp2_with fail
            go_ret
            exact ⟨_, rfl, by rw [e1.out]; exact hrow.out, hG'.out⟩
end Go.Proofs.YthhgogpglocjdaaGreat
namespace Go.Proofs.YthhgogpglocjdaaGreat
open Go.RowKit

/-- Do two ways go through one another, as the program finds it? -/
def crossB (ax ay bx b_y cx cy dx dy : Int) : Bool :=
  if (fitB ax ay && fitB bx b_y) = true ∧ (fitB cx cy && fitB dx dy) = true then
    (if (lieZ ax ay bx b_y cx cy dx dy).1 = 1 then
      (if (lieZ ax ay bx b_y cx cy dx dy).2.1 ≠ 0 ∧ (lieZ ax ay bx b_y cx cy dx dy).2.1 ≠ (lieZ ax ay bx b_y cx cy dx dy).2.2 ∧ crossZ (cx - ax) (cy - ay) (bx - ax) (b_y - ay) ≠ 0 ∧ crossZ (cx - ax) (cy - ay) (bx - ax) (b_y - ay) ≠ (lieZ ax ay bx b_y cx cy dx dy).2.2 then true else false)
    else false)
  else false

set_option maxRecDepth 100000 in
set_option maxHeartbeats 8000000 in
theorem cross_any (ax ay bx b_y cx cy dx dy : Int) (w : World) :
    Calls Tryz.prog 9 #[segV ax ay bx b_y, segV cx cy dx dy] w fun e w' => e = .returned (.bool (crossB ax ay bx b_y cx cy dx dy)) ∧ Grew w w' := by
  obtain ⟨ML, hML⟩ : ∃ ML, crossB ax ay bx b_y cx cy dx dy = ML := ⟨_, rfl⟩
  rw [hML]
  unfold crossB at hML
  obtain ⟨s, hs⟩ : ∃ s, (fitB ax ay && fitB bx b_y) = s := ⟨_, rfl⟩
  obtain ⟨t, ht⟩ : ∃ t, (fitB cx cy && fitB dx dy) = t := ⟨_, rfl⟩
  rw [hs, ht] at hML
  have hs' := Lib.hid hs
  have ht' := Lib.hid ht
  replace hML := Lib.hid hML
  replace hs := Lib.hid hs
  replace ht := Lib.hid ht
  go_enter Tryz.func9, Tryz.ntmps9
  go_wp2_with fail
  refine gen_calls ?_
  intro W0 hW0
  have G0 : Grew w W0 := by rw [hW0]; exact ((Grew.refl w).alloc _).alloc _
  have P : Box4 W0 (w.heap.size) 0 (.int .i64 ax) (.int .i64 ay) (.int .i64 bx) (.int .i64 b_y) := by rw [hW0]; exact ⟨by simp [go_sem], by simp [go_sem], by simp [go_sem], by simp [go_sem]⟩
  replace P := Lib.hid P
  have Q : Box4 W0 (w.heap.size + 1) 0 (.int .i64 cx) (.int .i64 cy) (.int .i64 dx) (.int .i64 dy) := by rw [hW0]; exact ⟨by simp [go_sem], by simp [go_sem], by simp [go_sem], by simp [go_sem]⟩
  replace Q := Lib.hid Q
  have z0 : w.heap.size < W0.heap.size := by rw [hW0]; simp <;> omega
  replace z0 := Lib.hid z0
  have z1 : w.heap.size + 1 < W0.heap.size := by rw [hW0]; simp <;> omega
  replace z1 := Lib.hid z1
  clear hW0
  replace G0 := Lib.hid G0
  refine (cmay_any ax ay bx b_y _).mono ?_
  rintro e w1 ⟨rfl, g1⟩
  replace P := Lib.hid (P.out.grew g1)
  replace Q := Lib.hid (Q.out.grew g1)
  replace z0 := Lib.hid (lt_grew z0.out g1)
  replace z1 := Lib.hid (lt_grew z1.out g1)
  replace G0 := Lib.hid (G0.out.trans g1)
  clear g1
  rw [hs.out]

  cases s
  ·
    have e := Lib.hid (show false = ML by rw [← hML.out, if_neg (by simp)])
    go_wp2_with fail
    go_ret
    exact ⟨by rw [← e.out]; rfl, G0.out⟩
  ·

    obtain ⟨P0, P1, P2, P3⟩ := P.out
    obtain ⟨Q0, Q1, Q2, Q3⟩ := Q.out
    go_wp2_with fail
    clear P0 P1 P2 P3 Q0 Q1 Q2 Q3
    refine (cmay_any cx cy dx dy _).mono ?_
    rintro e w2 ⟨rfl, g2⟩
    replace P := Lib.hid (P.out.grew g2)
    replace Q := Lib.hid (Q.out.grew g2)
    replace z0 := Lib.hid (lt_grew z0.out g2)
    replace z1 := Lib.hid (lt_grew z1.out g2)
    replace G0 := Lib.hid (G0.out.trans g2)
    clear g2
    rw [ht.out]
    cases t
    ·
      have e := Lib.hid (show false = ML by rw [← hML.out, if_neg (by simp)])
      go_wp2_with fail
      go_ret
      exact ⟨by rw [← e.out]; rfl, G0.out⟩
    ·
      have hM := hML.out
      rw [if_pos (by simp)] at hM
      have f1 := hs'.out
      have f2 := ht'.out
      rw [Bool.and_eq_true] at f1 f2
      obtain ⟨⟨k, n, d⟩, hL⟩ : ∃ L, lieZ ax ay bx b_y cx cy dx dy = L := ⟨_, rfl⟩
      rw [hL] at hM
      simp only at hM
      have F1 := Lib.hid f1
      have F2 := Lib.hid f2
      replace hL := Lib.hid hL
      replace hM := Lib.hid hM
      clear hML hs ht hs' ht' f1 f2
      obtain ⟨P0, P1, P2, P3⟩ := P.out
      obtain ⟨Q0, Q1, Q2, Q3⟩ := Q.out
      go_wp2_with fail
      clear P0 P1 P2 P3 Q0 Q1 Q2 Q3
      refine (lie_g ax ay bx b_y cx cy dx dy k n d _ F1.out.1 F1.out.2 F2.out.1 F2.out.2 hL.out).mono ?_
      rintro e w3 ⟨rfl, g3⟩
      replace P := Lib.hid (P.out.grew g3)
      replace Q := Lib.hid (Q.out.grew g3)
      replace z0 := Lib.hid (lt_grew z0.out g3)
      replace z1 := Lib.hid (lt_grew z1.out g3)
      replace G0 := Lib.hid (G0.out.trans g3)
      clear g3

      by_cases k1 : k = 1
      ·
        subst k1
        have hM2 := hM.out
        rw [if_pos rfl] at hM2
        by_cases n1 : n = 0
        ·
          have ee := Lib.hid (hM2.symm.trans (if_neg (fun h => h.1 n1)))
          subst n1
          clear hM hM2
          go_wp2_with fail
          go_ret
          exact ⟨by rw [ee.out]; rfl, G0.out⟩
        ·
          by_cases n2 : n = d
          ·
            have ee := Lib.hid (hM2.symm.trans (if_neg (fun h => h.2.1 n2)))
            subst n2
            clear hM hM2
            have nb : (n == 0) = false := by simpa using n1
            go_wp2_with fail
            go_ret
            exact ⟨by rw [ee.out]; rfl, G0.out⟩
          ·
            have nb : (n == 0) = false := by simpa using n1
            have nb2 : (n == d) = false := by simpa using n2
            obtain ⟨m, hm⟩ : ∃ m, crossZ (cx - ax) (cy - ay) (bx - ax) (b_y - ay) = m := ⟨_, rfl⟩
            rw [hm] at hM2
            have i1 := (fitB_iff _ _).1 F1.out.1
            have i2 := (fitB_iff _ _).1 F1.out.2
            have i3 := (fitB_iff _ _).1 F2.out.1
            have r1 := Lib.hid (show In24 (bx - ax) by unfold In24; omega)
            have r2 := Lib.hid (show In24 (b_y - ay) by unfold In24; omega)
            have r5 := Lib.hid (show In24 (cx - ax) by unfold In24; omega)
            have r6 := Lib.hid (show In24 (cy - ay) by unfold In24; omega)
            replace hm := Lib.hid hm
            replace hM2 := Lib.hid hM2
            clear hM i1 i2 i3

            obtain ⟨P0, P1, P2, P3⟩ := P.out
            obtain ⟨Q0, Q1, Q2, Q3⟩ := Q.out
            go_wp2_with fail
            clear P0 P1 P2 P3 Q0 Q1 Q2 Q3
            refine (fromg_any ax ay cx cy _ r5.out r6.out).mono ?_
            rintro e w4 ⟨rfl, g4⟩
            replace P := Lib.hid (P.out.grew g4)
            replace Q := Lib.hid (Q.out.grew g4)
            replace z0 := Lib.hid (lt_grew z0.out g4)
            replace z1 := Lib.hid (lt_grew z1.out g4)
            replace G0 := Lib.hid (G0.out.trans g4)
            clear g4
            go_upto_region 7 with fail
            refine gen_wp ?_
            intro W1 hW1
            have gl : Grew w4 W1 := by rw [hW1]; exact (Grew.refl _).alloc _
            replace P := Lib.hid (P.out.grew gl)
            replace Q := Lib.hid (Q.out.grew gl)
            replace z0 := Lib.hid (lt_grew z0.out gl)
            replace z1 := Lib.hid (lt_grew z1.out gl)
            have K : Box2 W1 (w4.heap.size) 0 (.int .i64 (cx - ax)) (.int .i64 (cy - ay)) := by rw [hW1]; exact ⟨by simp [go_sem], by simp [go_sem]⟩
            replace K := Lib.hid K
            have z2 : w4.heap.size < W1.heap.size := by rw [hW1]; simp <;> omega
            replace z2 := Lib.hid z2
            clear hW1
            replace G0 := Lib.hid (G0.out.trans gl)
            clear gl
            have gd : Grew W1 W1.drew := (Grew.refl W1).drew
            replace P := Lib.hid (P.out.grew gd)
            replace Q := Lib.hid (Q.out.grew gd)
            replace K := Lib.hid (K.out.grew gd)
            replace z0 := Lib.hid (lt_grew z0.out gd)
            replace z1 := Lib.hid (lt_grew z1.out gd)
            replace z2 := Lib.hid (lt_grew z2.out gd)
            replace gd := Lib.hid gd
            have ZP := P
            have ZK := K
            go_region_held3 (fun w' => w'.cell? ⟨w.heap.size, 0, none⟩ = some (.int .i64 ax) ∧ w'.cell? ⟨w.heap.size, 1, none⟩ = some (.int .i64 ay) ∧ w'.cell? ⟨w.heap.size, 2, none⟩ = some (.int .i64 bx) ∧ w'.cell? ⟨w.heap.size, 3, none⟩ = some (.int .i64 b_y) ∧ w'.cell? ⟨w4.heap.size, 0, none⟩ = some (.int .i64 (cx - ax)) ∧ w'.cell? ⟨w4.heap.size, 1, none⟩ = some (.int .i64 (cy - ay)))
              (first | (with_reducible exact ⟨ZP.out.p0, ZP.out.p1, ZP.out.p2, ZP.out.p3, ZK.out.p0, ZK.out.p1⟩) | (with_reducible exact ⟨g5.cell ZP.out.p0, g5.cell ZP.out.p1, g5.cell ZP.out.p2, g5.cell ZP.out.p3, g5.cell ZK.out.p0, g5.cell ZK.out.p1⟩) | (with_reducible exact ⟨(g5.trans g6).cell ZP.out.p0, (g5.trans g6).cell ZP.out.p1, (g5.trans g6).cell ZP.out.p2, (g5.trans g6).cell ZP.out.p3, (g5.trans g6).cell ZK.out.p0, (g5.trans g6).cell ZK.out.p1⟩))
              (first | (have chk := g5; clear chk; go_at_call 31; refine (timesg_any (cx - ax) (cy - ay) (bx - ax) (b_y - ay) _ r5.out r6.out r1.out r2.out).mono ?_; rintro e w6 ⟨rfl, g6⟩; rw [hm.out]; replace P := Lib.hid (P.out.grew g6); replace Q := Lib.hid (Q.out.grew g6); replace K := Lib.hid (K.out.grew g6); replace z0 := Lib.hid (lt_grew z0.out g6); replace z1 := Lib.hid (lt_grew z1.out g6); replace z2 := Lib.hid (lt_grew z2.out g6)) | (go_at_call 30; refine (fromg_any ax ay bx b_y _ r1.out r2.out).mono ?_; rintro e w5 ⟨rfl, g5⟩; replace P := Lib.hid (P.out.grew g5); replace Q := Lib.hid (Q.out.grew g5); replace K := Lib.hid (K.out.grew g5); replace z0 := Lib.hid (lt_grew z0.out g5); replace z1 := Lib.hid (lt_grew z1.out g5); replace z2 := Lib.hid (lt_grew z2.out g5)))
            replace G0 := Lib.hid (((G0.out.trans gd.out).trans g5).trans g6)
            clear gd g5 g6 ZP ZK
            by_cases m1 : m = 0
            ·
              have ee := Lib.hid (hM2.out.symm.trans (if_neg (fun h => h.2.2.1 m1)))
              subst m1
              go_wp2_with fail
              go_ret
              exact ⟨by rw [ee.out]; rfl, G0.out⟩
            ·
              have mb : (m == 0) = false := by simpa using m1
              by_cases m2 : m = d
              ·
                have ee := Lib.hid (hM2.out.symm.trans (if_neg (fun h => h.2.2.2 m2)))
                subst m2
                go_wp2_with fail
                go_ret
                exact ⟨by rw [ee.out]; rfl, G0.out⟩
              ·
                have ee := Lib.hid (hM2.out.symm.trans (if_pos ⟨n1, n2, m1, m2⟩))
                have mb2 : (m == d) = false := by simpa using m2
                have mn1 : (m != 0) = true := by simpa using m1
                have mn2 : (m != d) = true := by simpa using m2
                go_wp2_with fail
                go_ret
                exact ⟨by rw [ee.out]; rfl, G0.out⟩
      ·
        have ee := Lib.hid (hM.out.symm.trans (if_neg k1))
        have kb : (k == 1) = false := by simpa using k1
        clear hM
        go_wp2_with fail
        go_ret
        exact ⟨by rw [ee.out]; rfl, G0.out⟩
end Go.Proofs.YthhgogpglocjdaaGreat
namespace Go.Proofs.YthhgogpglocjdaaGreat
open Go.RowKit

/-- One point, that is no end. -/
def rcrossP (ax ay bx b_y cx cy dx dy : Int) (l : List (Rat × Rat)) : Prop :=
  l.length = 1 ∧ ¬ (ax = bx ∧ ay = b_y) ∧ ¬ (cx = dx ∧ cy = dy) ∧ l.getD 0 (0, 0) ≠ castP (ax, ay) ∧ l.getD 0 (0, 0) ≠ castP (bx, b_y) ∧ l.getD 0 (0, 0) ≠ castP (cx, cy) ∧ l.getD 0 (0, 0) ≠ castP (dx, dy)

theorem at_share {ax ay bx b_y f : Rat} (hv : ax ≠ bx ∨ ay ≠ b_y) : ((ax + f * (bx - ax), ay + f * (b_y - ay)) : Rat × Rat) = (ax, ay) ↔ f = 0 := by
  simp only [Prod.mk.injEq]
  constructor
  · rintro ⟨h1, h2⟩
    have e1 : f * (bx - ax) = 0 := by grind
    have e2 : f * (b_y - ay) = 0 := by grind
    rcases hv with hv | hv
    · rcases Rat.mul_eq_zero.1 e1 with h | h
      · exact h
      · exact absurd (by grind : ax = bx) hv
    · rcases Rat.mul_eq_zero.1 e2 with h | h
      · exact h
      · exact absurd (by grind : ay = b_y) hv
  · rintro rfl; constructor <;> grind
theorem at_whole {ax ay bx b_y f : Rat} (hv : ax ≠ bx ∨ ay ≠ b_y) : ((ax + f * (bx - ax), ay + f * (b_y - ay)) : Rat × Rat) = (bx, b_y) ↔ f = 1 := by
  have h := at_share (ax := bx) (ay := b_y) (bx := ax) (b_y := ay) (f := 1 - f) (by grind)
  have e : ((bx + (1 - f) * (ax - bx), b_y + (1 - f) * (ay - b_y)) : Rat × Rat) = (ax + f * (bx - ax), ay + f * (b_y - ay)) := by
    simp only [Prod.mk.injEq]; constructor <;> grind
  rw [e] at h
  rw [h]; grind
theorem quot_zero {n d : Int} (hd : d ≠ 0) : (n : Rat) / (d : Rat) = 0 ↔ n = 0 := by
  have h := quot_mul (n := n) hd
  have z : ((0 : Int) : Rat) = 0 := rfl
  constructor
  · intro e; rw [e] at h; have : (n : Rat) = ((0 : Int) : Rat) := by rw [z]; grind
    exact Rat.intCast_inj.1 this
  · rintro rfl; rw [z]; grind
theorem quot_one {n d : Int} (hd : d ≠ 0) : (n : Rat) / (d : Rat) = 1 ↔ n = d := by
  have h := quot_mul (n := n) hd
  have d0 : (d : Rat) ≠ 0 := fun e => hd (by have e2 : (d : Rat) = ((0 : Int) : Rat) := e; exact Rat.intCast_inj.1 e2)
  constructor
  · intro e; rw [e] at h; have : (n : Rat) = (d : Rat) := by grind
    exact Rat.intCast_inj.1 this
  · rintro rfl; grind

theorem commonZ_one {s t : (Int × Int) × (Int × Int)} (h : (commonZ s t).length = 1) : ∃ lo, commonZ s t = [lo] ∧ (lo = s.1 ∨ lo = t.1) := by
  have f : ∀ (c : Prop) [Decidable c] (c2 : Prop) [Decidable c2] (lo hi : Int × Int), (if c then [lo] else if c2 then [] else [lo, hi]).length = 1 → (if c then [lo] else if c2 then [] else [lo, hi]) = [lo] := by
    intro c _ c2 _ lo hi h
    by_cases k : c
    · rw [if_pos k]
    · rw [if_neg k] at h
      by_cases k2 : c2
      · rw [if_pos k2] at h; simp at h
      · rw [if_neg k2] at h; simp at h
  unfold commonZ at h ⊢
  refine ⟨_, f _ _ _ _ h, ?_⟩
  split
  · exact .inr rfl
  · exact .inl rfl

theorem cross_eq (ax ay bx b_y cx cy dx dy : Int) : crossB ax ay bx b_y cx cy dx dy = true ↔ rcrossP ax ay bx b_y cx cy dx dy (meetQ ax ay bx b_y cx cy dx dy) := by
  by_cases hs : (fitB ax ay && fitB bx b_y) = true ∧ (fitB cx cy && fitB dx dy) = true
  · by_cases hD : crossZ (bx - ax) (b_y - ay) (dx - cx) (dy - cy) = 0
    · -- along or apart: no crossing
      have hk : (lieZ ax ay bx b_y cx cy dx dy).1 ≠ 1 := by
        have f : ∀ (c : Prop) [Decidable c], (if c then ((2 : Int), (0 : Int), (0 : Int)) else (0, 0, 0)).1 ≠ 1 := fun c _ => by by_cases k : c <;> simp [k]
        unfold lieZ
        simp only [hD, if_true]
        exact f _
      have h1 : crossB ax ay bx b_y cx cy dx dy = false := by
        unfold crossB
        rw [if_pos hs, if_neg hk]
      rw [h1]
      refine ⟨fun h => by simp at h, fun h => ?_⟩
      obtain ⟨e1, -, -, a1, a2, a3, a4⟩ := h
      exfalso
      have hm : meetQ ax ay bx b_y cx cy dx dy = [] ∨ meetQ ax ay bx b_y cx cy dx dy = (commonZ (sortZ ax ay bx b_y) (sortZ cx cy dx dy)).map castP := by
        unfold meetQ
        rw [if_pos hs, if_neg hk]
        split
        · split
          · exact .inl rfl
          · exact .inr rfl
        · exact .inl rfl
      rcases hm with e | e <;> rw [e] at e1 a1 a2 a3 a4
      · simp at e1
      · rw [List.length_map] at e1
        obtain ⟨lo, h5, h6⟩ := commonZ_one e1
        rw [h5] at a1 a2 a3 a4
        have g : (List.map castP [lo]).getD 0 (0, 0) = castP lo := rfl
        rw [g] at a1 a2 a3 a4
        rcases h6 with k | k <;> rw [k] at a1 a2 a3 a4
        · rcases sortZ_ends ax ay bx b_y with ⟨j, -⟩ | ⟨j, -⟩
          · exact a1 j
          · exact a2 j
        · rcases sortZ_ends cx cy dx dy with ⟨j, -⟩ | ⟨j, -⟩
          · exact a3 j
          · exact a4 j
    · obtain ⟨D, eD⟩ : ∃ D, crossZ (bx - ax) (b_y - ay) (dx - cx) (dy - cy) = D := ⟨_, rfl⟩
      obtain ⟨n, en⟩ : ∃ n, crossZ (cx - ax) (cy - ay) (dx - cx) (dy - cy) = n := ⟨_, rfl⟩
      obtain ⟨m, em⟩ : ∃ m, crossZ (cx - ax) (cy - ay) (bx - ax) (b_y - ay) = m := ⟨_, rfl⟩
      rw [eD] at hD
      have hL : lieZ ax ay bx b_y cx cy dx dy = if shareB n D = true ∧ shareB m D = true then (1, n, D) else (0, 0, 0) := by
        unfold lieZ
        simp only [eD, en, em]
        rw [if_neg hD]
      have rD : (D : Rat) = ((bx : Rat) - ax) * ((dy : Rat) - cy) - ((b_y : Rat) - ay) * ((dx : Rat) - cx) := by
        rw [← eD]; unfold crossZ; simp only [Rat.intCast_sub, Rat.intCast_mul]
      have rn : (n : Rat) = ((cx : Rat) - ax) * ((dy : Rat) - cy) - ((cy : Rat) - ay) * ((dx : Rat) - cx) := by
        rw [← en]; unfold crossZ; simp only [Rat.intCast_sub, Rat.intCast_mul]
      have rm : (m : Rat) = ((cx : Rat) - ax) * ((b_y : Rat) - ay) - ((cy : Rat) - ay) * ((bx : Rat) - ax) := by
        rw [← em]; unfold crossZ; simp only [Rat.intCast_sub, Rat.intCast_mul]
      have D0 : (D : Rat) ≠ 0 := fun e => hD (by have e2 : (D : Rat) = ((0 : Int) : Rat) := e; exact Rat.intCast_inj.1 e2)
      have f1 := quot_mul (n := n) hD
      have g1 := quot_mul (n := m) hD
      obtain ⟨c1, c2⟩ := cramer rD D0 (f1.trans rn) (g1.trans rm)
      have v0 : (ax : Rat) ≠ bx ∨ (ay : Rat) ≠ b_y := by
        refine Decidable.byContradiction fun h => D0 ?_
        rw [rD]; grind
      have w0 : (cx : Rat) ≠ dx ∨ (cy : Rat) ≠ dy := by
        refine Decidable.byContradiction fun h => D0 ?_
        rw [rD]; grind
      have x1 : (ax : Rat) + (((bx - ax) * n : Int) : Rat) / (D : Rat) = (ax : Rat) + (n : Rat) / (D : Rat) * ((bx : Rat) - ax) := by rw [Rat.intCast_mul, Rat.intCast_sub]; grind
      have x2 : (ay : Rat) + (((b_y - ay) * n : Int) : Rat) / (D : Rat) = (ay : Rat) + (n : Rat) / (D : Rat) * ((b_y : Rat) - ay) := by rw [Rat.intCast_mul, Rat.intCast_sub]; grind
      by_cases hsh : shareB n D = true ∧ shareB m D = true
      · rw [if_pos hsh] at hL
        have hm : meetQ ax ay bx b_y cx cy dx dy = [((ax : Rat) + (n : Rat) / (D : Rat) * ((bx : Rat) - ax), (ay : Rat) + (n : Rat) / (D : Rat) * ((b_y : Rat) - ay))] := by
          unfold meetQ
          rw [if_pos hs, hL, if_pos (show ((1 : Int), n, D).1 = 1 from rfl), x1, x2]
        have hc : crossB ax ay bx b_y cx cy dx dy = true ↔ n ≠ 0 ∧ n ≠ D ∧ m ≠ 0 ∧ m ≠ D := by
          unfold crossB
          rw [if_pos hs, hL, if_pos (show ((1 : Int), n, D).1 = 1 from rfl), em]
          by_cases k : n ≠ 0 ∧ n ≠ D ∧ m ≠ 0 ∧ m ≠ D
          · rw [if_pos k]; simp only [true_iff]; exact k
          · rw [if_neg k]
            constructor
            · intro h; simp at h
            · intro h; exact absurd h k
        rw [hc, hm]
        have s1 := at_share (f := (n : Rat) / (D : Rat)) v0
        have s2 := at_whole (f := (n : Rat) / (D : Rat)) v0
        have s3 := at_share (f := (m : Rat) / (D : Rat)) w0
        have s4 := at_whole (f := (m : Rat) / (D : Rat)) w0
        rw [quot_zero hD] at s1 s3
        rw [quot_one hD] at s2 s4
        rw [← c1, ← c2] at s3 s4
        have ab : ¬ (ax = bx ∧ ay = b_y) := fun h => by
          rcases v0 with v | v
          · exact v (by rw [h.1])
          · exact v (by rw [h.2])
        have cd : ¬ (cx = dx ∧ cy = dy) := fun h => by
          rcases w0 with v | v
          · exact v (by rw [h.1])
          · exact v (by rw [h.2])
        have g : ∀ P : Rat × Rat, [P].getD 0 (0, 0) = P := fun _ => rfl
        unfold rcrossP
        rw [g]
        unfold castP
        constructor
        · rintro ⟨k1, k2, k3, k4⟩
          exact ⟨rfl, ab, cd, fun h => k1 (s1.1 h), fun h => k2 (s2.1 h), fun h => k3 (s3.1 h), fun h => k4 (s4.1 h)⟩
        · rintro ⟨-, -, -, k1, k2, k3, k4⟩
          exact ⟨fun h => k1 (s1.2 h), fun h => k2 (s2.2 h), fun h => k3 (s3.2 h), fun h => k4 (s4.2 h)⟩
      · rw [if_neg hsh] at hL
        have hm : meetQ ax ay bx b_y cx cy dx dy = [] := by
          unfold meetQ
          rw [if_pos hs, hL, if_neg (show ¬ ((0 : Int), (0 : Int), (0 : Int)).1 = 1 by simp), if_neg (show ¬ ((0 : Int), (0 : Int), (0 : Int)).1 = 2 by simp)]
        have hc : crossB ax ay bx b_y cx cy dx dy = false := by
          unfold crossB
          rw [if_pos hs, hL, if_neg (show ¬ ((0 : Int), (0 : Int), (0 : Int)).1 = 1 by simp)]
        rw [hc, hm]
        unfold rcrossP
        simp
  · have h1 : crossB ax ay bx b_y cx cy dx dy = false := by unfold crossB; rw [if_neg hs]
    have h2 : meetQ ax ay bx b_y cx cy dx dy = [] := by unfold meetQ; rw [if_neg hs]
    rw [h1, h2]
    unfold rcrossP
    simp
end Go.Proofs.YthhgogpglocjdaaGreat
namespace Go.Proofs.YthhgogpglocjdaaGreat
open Go.RowKit

set_option maxRecDepth 100000 in
set_option maxHeartbeats 2000000 in
theorem rfits_any (x y : Int) (w : World) : Calls Tryz.prog 49 #[.agg #[.int .i64 x, .int .i64 y]] w fun e w' => e = .returned (.bool (fitB x y)) ∧ Grew w w' := by
  by_cases h1 : -8388607 ≤ x
  · by_cases h2 : x ≤ 8388607
    · by_cases h3 : -8388607 ≤ y
      · by_cases h4 : y ≤ 8388607
        · have e := Lib.hid ((fitB_iff x y).2 ⟨h1, h2, h3, h4⟩)
          go_enter Tryz.func49, Tryz.ntmps49
          go_wp2_with fail
          go_ret
          exact ⟨by rw [e.out]; rfl, (Grew.refl w).alloc _⟩
        · have e := Lib.hid (show fitB x y = false by unfold fitB inB; simp [h4])
          go_enter Tryz.func49, Tryz.ntmps49
          go_wp2_with fail
          go_ret
          exact ⟨by rw [e.out]; rfl, (Grew.refl w).alloc _⟩
      · have e := Lib.hid (show fitB x y = false by unfold fitB inB; simp [h3])
        go_enter Tryz.func49, Tryz.ntmps49
        go_wp2_with fail
        go_ret
        exact ⟨by rw [e.out]; rfl, (Grew.refl w).alloc _⟩
    · have e := Lib.hid (show fitB x y = false by unfold fitB inB; simp [h2])
      go_enter Tryz.func49, Tryz.ntmps49
      go_wp2_with fail
      go_ret
      exact ⟨by rw [e.out]; rfl, (Grew.refl w).alloc _⟩
  · have e := Lib.hid (show fitB x y = false by unfold fitB inB; simp [h1])
    go_enter Tryz.func49, Tryz.ntmps49
    go_wp2_with fail
    go_ret
    exact ⟨by rw [e.out]; rfl, (Grew.refl w).alloc _⟩

set_option maxRecDepth 100000 in
set_option maxHeartbeats 2000000 in
theorem rmay_any (ax ay bx b_y : Int) (w : World) : Calls Tryz.prog 22 #[segV ax ay bx b_y] w fun e w' => e = .returned (.bool (fitB ax ay && fitB bx b_y)) ∧ Grew w w' := by
  obtain ⟨a, ha⟩ : ∃ a, fitB ax ay = a := ⟨_, rfl⟩
  obtain ⟨b, hb⟩ : ∃ b, fitB bx b_y = b := ⟨_, rfl⟩
  rw [ha, hb]
  replace ha := Lib.hid ha
  replace hb := Lib.hid hb
  go_enter Tryz.func22, Tryz.ntmps22
  go_wp2_with fail
  refine gen_calls ?_
  intro W0 hW0
  have G0 : Grew w W0 := by rw [hW0]; exact (Grew.refl w).alloc _
  have P : Box2 W0 (w.heap.size) 0 (.int .i64 ax) (.int .i64 ay) := by rw [hW0]; exact ⟨by simp [go_sem], by simp [go_sem]⟩
  replace P := Lib.hid P
  have Q : Box2 W0 (w.heap.size) 2 (.int .i64 bx) (.int .i64 b_y) := by rw [hW0]; exact ⟨by simp [go_sem], by simp [go_sem]⟩
  replace Q := Lib.hid Q
  have z0 : w.heap.size < W0.heap.size := by rw [hW0]; simp <;> omega
  replace z0 := Lib.hid z0
  clear hW0
  replace G0 := Lib.hid G0
  refine (rfits_any ax ay _).mono ?_
  rintro e w1 ⟨rfl, g1⟩
  replace P := Lib.hid (P.out.grew g1)
  replace Q := Lib.hid (Q.out.grew g1)
  replace z0 := Lib.hid (lt_grew z0.out g1)
  replace G0 := Lib.hid (G0.out.trans g1)
  clear g1
  rw [ha.out]

  cases a
  ·
    go_wp2_with fail
    go_ret
    exact ⟨rfl, G0.out⟩
  ·

    obtain ⟨P0, P1⟩ := P.out
    obtain ⟨Q0, Q1⟩ := Q.out
    go_wp2_with fail
    clear P0 P1 Q0 Q1
    refine (rfits_any bx b_y _).mono ?_
    rintro e w2 ⟨rfl, g2⟩
    replace P := Lib.hid (P.out.grew g2)
    replace Q := Lib.hid (Q.out.grew g2)
    replace z0 := Lib.hid (lt_grew z0.out g2)
    replace G0 := Lib.hid (G0.out.trans g2)
    clear g2
    rw [hb.out]
    go_wp2_with fail
    go_ret
    exact ⟨by cases b <;> rfl, G0.out⟩
end Go.Proofs.YthhgogpglocjdaaGreat
