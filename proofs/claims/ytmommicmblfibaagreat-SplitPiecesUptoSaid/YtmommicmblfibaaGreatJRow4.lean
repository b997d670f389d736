/- split.Pieces. Condition: ints of 64 bits; at most 2^18 ways. r18.put: one more edge, in its place, once. Condition: what comes in reads; fewer than 2^26 words, at most 2^39 edges. r05.Row. Condition: what comes in reads; fewer than 2^26 words, at most 2^40 spots. -/
import Derived.Test.YtmommicmblfibaaGreatJSplG
import Derived.Test.YtmommicmblfibaaGreatJSort1
import Derived.Test.YtmommicmblfibaaGreatJCut1
import Derived.Deep.RegionHeld3
import Derived.Deep.LoopGhost
import Derived.Test.YtmommicmblfibaaGreatJRow3
set_option maxRecDepth 100000
namespace Go.Proofs.YtmommicmblfibaaGreat
open Go.RowKit
theorem flat_len {α β : Type} (f : α → List β) (c : Nat) (h : ∀ x, (f x).length ≤ c) : ∀ l : List α, (l.flatMap f).length ≤ l.length * c
 | [] => by simp
 | x :: l => by
  have h1 := h x
  have h2 := flat_len f c h l
  rw [List.flatMap_cons, List.length_append, List.length_cons, Nat.add_mul, Nat.one_mul]
  omega
theorem pieceOf_len (l : List SegZ) (s : SegZ) : (pieceOf l s).length ≤ 1 + 2 * l.length := by
 have h := cutsQ_len s.1.1 s.1.2 s.2.1 s.2.2 l
 unfold pieceOf
 split
 ·rw [pairsN_len]; omega
 ·simp
theorem cuts_qb {ax ay bx b_y : Int} {l : List SegZ} : ∀ p ∈ cutsQ ax ay bx b_y l, QB p.1 7 ∧ QB p.2 7 := by
 intro p hp
 unfold cutsQ at hp
 split at hp
 ·next hf =>
  have hm : p ∈ cutAll ax ay bx b_y l := by
   split at hp
   ·exact mem_rowQ.1 (List.mem_reverse.1 hp)
   ·exact mem_rowQ.1 hp
  exact cutAll_qb hf p hm
 ·simp at hp
theorem edgeOf_eb {p q : Rat × Rat} (hp : QB p.1 7 ∧ QB p.2 7) (hq : QB q.1 7 ∧ QB q.2 7) : EB 7 (edgeOf p q) := by
 unfold edgeOf
 split
 ·exact ⟨hq, hp⟩
 ·exact ⟨hp, hq⟩
theorem piece_eb {l : List SegZ} {s : SegZ} : ∀ e ∈ pieceOf l s, EB 7 e := by
 intro e he
 unfold pieceOf at he
 split at he
 ·unfold pairsN at he
  obtain ⟨i, hi, rfl⟩ := List.mem_map.1 he
  rw [List.mem_range] at hi
  refine edgeOf_eb (cuts_qb (l := l) (ax := s.1.1) (ay := s.1.2) (bx := s.2.1) (b_y := s.2.2) _ ?_) (cuts_qb (l := l) (ax := s.1.1) (ay := s.1.2) (bx := s.2.1) (b_y := s.2.2) _ ?_)
  ·rw [List.getD_eq_getElem?_getD, List.getElem?_eq_getElem (by omega)]; exact List.getElem_mem _
  ·rw [List.getD_eq_getElem?_getD, List.getElem?_eq_getElem (by omega)]; exact List.getElem_mem _
 ·simp at he
theorem pieceOf_no {l : List SegZ} {s : SegZ} (h : mayB s = false ∨ s.1 = s.2) : pieceOf l s = [] := by
 unfold pieceOf
 rw [if_neg]
 rintro ⟨h1, h2⟩
 rcases h with h | h
 ·rw [h1] at h; exact absurd h (by simp)
 ·exact h2 h
theorem row_kept {w w' : World} {b o M c : Nat} {C : List (Rat × Rat)} (h : RowC w (.slice (some ⟨b, o, none⟩) M c) C) (k : Keeps w w') (hc : ∀ j u, w.cell? ⟨b, j, none⟩ = some u → w'.cell? ⟨b, j, none⟩ = some u) : RowC w' (.slice (some ⟨b, o, none⟩) M c) C := by
 obtain ⟨A, d, hv, h1, h2, h3⟩ := h
 refine ⟨A, d, hv, h1, h2, fun hl => ?_⟩
 obtain ⟨b', o', hA, he⟩ := h3 hl
 refine ⟨b', o', hA, fun i p hp => (he i p hp).mono (fun V hV => SpotC.kept hV k) (fun j u _ hu => ?_)⟩
 have : b' = b := by rw [hA] at hv; injection hv with hv; injection hv with hv; injection hv with hv; exact hv.symm
 subst this
 exact hc _ _ hu
theorem row_lt {w : World} {A : Option Addr} {M c : Nat} {C : List (Rat × Rat)} (h : RowC w (.slice A M c) C) (h0 : 0 < C.length) : ∀ g, Value.ownBlock (.slice A M c) = some g → g < w.heap.size := by
 obtain ⟨A', d, hv, h1, h2, h3⟩ := h
 obtain ⟨b, o, hA, he⟩ := h3 h0
 injection hv with hv
 subst hv
 subst hA
 intro g hg
 simp only [Value.ownBlock, Option.some.injEq] at hg
 subst hg
 obtain ⟨_, _, _, _, _, _, _, _, _, _, _, _, _, _, ⟨e0, -⟩, -⟩ := he 0 _ (List.getElem?_eq_getElem h0)
 exact World.block_lt_of_cell? w _ e0
theorem store12d {w w' : World} {r : Nat} {x1 x2 x3 x4 : Bool} {A1 A2 A3 A4 C1 C2 C3 C4 : Option Addr} {n1 n2 n3 n4 c1 c2 c3 c4 m1 m2 m3 m4 d1 d2 d3 d4 : Nat} {u0 u1 u2 u3 u4 u5 u6 u7 u8 u9 u10 u11 : Value}
  (h0 : w.cell? ⟨r, 0, none⟩ = some (.bool x1)) (h1 : w.cell? ⟨r, 1, none⟩ = some (.slice A1 n1 c1)) (h2 : w.cell? ⟨r, 2, none⟩ = some (.slice C1 m1 d1))
  (h3 : w.cell? ⟨r, 3, none⟩ = some (.bool x2)) (h4 : w.cell? ⟨r, 4, none⟩ = some (.slice A2 n2 c2)) (h5 : w.cell? ⟨r, 5, none⟩ = some (.slice C2 m2 d2))
  (h6 : w.cell? ⟨r, 6, none⟩ = some (.bool x3)) (h7 : w.cell? ⟨r, 7, none⟩ = some (.slice A3 n3 c3)) (h8 : w.cell? ⟨r, 8, none⟩ = some (.slice C3 m3 d3))
  (h9 : w.cell? ⟨r, 9, none⟩ = some (.bool x4)) (h10 : w.cell? ⟨r, 10, none⟩ = some (.slice A4 n4 c4)) (h11 : w.cell? ⟨r, 11, none⟩ = some (.slice C4 m4 d4))
  (h : w' = ((((((((((((w.setCell ⟨r, 0, none⟩ u0).setCell ⟨r, 1, none⟩ u1).setCell ⟨r, 2, none⟩ u2).setCell ⟨r, 3, none⟩ u3).setCell ⟨r, 4, none⟩ u4).setCell ⟨r, 5, none⟩ u5).setCell ⟨r, 6, none⟩ u6).setCell ⟨r, 7, none⟩ u7).setCell ⟨r, 8, none⟩ u8).setCell ⟨r, 9, none⟩ u9).setCell ⟨r, 10, none⟩ u10).setCell ⟨r, 11, none⟩ u11).drew) :
  w'.cell? ⟨r, 0, none⟩ = some u0 ∧ w'.cell? ⟨r, 1, none⟩ = some u1 ∧ w'.cell? ⟨r, 2, none⟩ = some u2 ∧ w'.cell? ⟨r, 3, none⟩ = some u3 ∧ w'.cell? ⟨r, 4, none⟩ = some u4 ∧ w'.cell? ⟨r, 5, none⟩ = some u5 ∧
   w'.cell? ⟨r, 6, none⟩ = some u6 ∧ w'.cell? ⟨r, 7, none⟩ = some u7 ∧ w'.cell? ⟨r, 8, none⟩ = some u8 ∧ w'.cell? ⟨r, 9, none⟩ = some u9 ∧ w'.cell? ⟨r, 10, none⟩ = some u10 ∧ w'.cell? ⟨r, 11, none⟩ = some u11 ∧
   Keeps w w' ∧ (∀ a, a.heap.size ≤ r → Grew a w → Grew a w') ∧ (∀ x, w'.frozen? x = w.frozen? x) := by
 obtain ⟨q0, q1, q2, q3, q4, q5, q6, q7, q8, q9, q10, q11, qK, qG⟩ := store12 h0 h1 h2 h3 h4 h5 h6 h7 h8 h9 h10 h11 (u0 := u0) (u1 := u1) (u2 := u2) (u3 := u3) (u4 := u4) (u5 := u5) (u6 := u6) (u7 := u7) (u8 := u8) (u9 := u9) (u10 := u10) (u11 := u11) rfl
 subst h
 exact ⟨((Grew.refl _).drew).cell q0, ((Grew.refl _).drew).cell q1, ((Grew.refl _).drew).cell q2, ((Grew.refl _).drew).cell q3, ((Grew.refl _).drew).cell q4, ((Grew.refl _).drew).cell q5, ((Grew.refl _).drew).cell q6, ((Grew.refl _).drew).cell q7, ((Grew.refl _).drew).cell q8, ((Grew.refl _).drew).cell q9, ((Grew.refl _).drew).cell q10, ((Grew.refl _).drew).cell q11, qK.trans ((Grew.refl _).drew).keeps, fun a ha g => (qG a ha g).drew, fun x => by simp only [World.frozen?_drew, World.frozen?_setCell]⟩
set_option maxHeartbeats 16000000 in
theorem pieces_any (v : Value) (l : List SegZ) (w : World) (hl : SegsR w v l) (hn : l.length ≤ 262144) :
  Calls Tryz.prog 7 #[v] w fun e w' => ∃ v', e = .returned v' ∧ RowK 12 Edge12R w' v' (piecesQ l) ∧ Grew w w' := by
 obtain ⟨A, c, rfl, h1, h2, h3⟩ := id hl
 obtain ⟨L, hL⟩ : ∃ L, l.length = L := ⟨_, rfl⟩
 rw [hL] at h1 hn h3 hl
 rw [hL]
 have hm : L ≤ 9223372036854775807 := by omega
 replace h3 := hZ h3
 replace hl := hZ hl
 go_enter Tryz.func7, Tryz.ntmps7
 go_wp2_with fail
 go_loopg [3, 11] L (fun gk s3 s11 wr => ∃ j : Nat, gk + j = L ∧ s11 = .int .i64 j ∧ OwnK 12 Edge12R 37 wr w.heap.size s3 ((l.take j).flatMap (pieceOf l)) ∧ Grew w wr)
 case atStart => exact ⟨0, rfl, rfl, by rw [List.take_zero]; exact OwnK.nil _ _ _ _ _, Grew.refl _⟩
 case round =>
  obtain ⟨j, hj, rfl, hO, hG⟩ := hrel
  by_cases hlt : j < L
  ·obtain ⟨b, o, rfl, he⟩ := h3.out (by omega)
   obtain ⟨t, ht⟩ : ∃ t, l[j]? = some t := ⟨l[j]'(by omega), List.getElem?_eq_getElem _⟩
   obtain ⟨⟨e0, e1, e2, e3⟩, ra, rb⟩ := he j t ht
   have hps := pieces_succ l ht
   have hfl := flat_len (pieceOf l) (1 + 2 * L) (fun s => by rw [← hL]; exact pieceOf_len l s) (l.take j)
   have hmj : (l.take j).length * (1 + 2 * L) ≤ 262144 * 524289 := Nat.mul_le_mul (by rw [List.length_take]; omega) (by omega)
   obtain ⟨⟨ax, ay⟩, bx, b_y⟩ := t
   simp only [] at e0 e1 e2 e3 ra rb
   obtain ⟨acc, hacc⟩ : ∃ acc, (l.take j).flatMap (pieceOf l) = acc := ⟨_, rfl⟩
   rw [hacc] at hps hfl hO
   obtain ⟨f, hf⟩ : ∃ f, (fitB ax ay && fitB bx b_y) = f := ⟨_, rfl⟩
   have f0 := hG.cell e0
   have f1 := hG.cell e1
   have f2 := hG.cell e2
   have f3 := hG.cell e3
   have hown := hZ (fun g (hg : Value.ownBlock _ = some g) => OwnK.lt hO hg)
   have hal : acc.length ≤ 262144 * 524289 := Nat.le_trans hfl hmj
   replace ra := hZ ra
   replace rb := hZ rb
   replace hps := hZ hps
   replace hf := hZ hf
   have hjl : (j : Int) < (L : Int) := by omega
   have hO' := hZ hO
   have hG' := hZ hG
   clear e0 e1 e2 e3 he hO hG ht hfl hmj hacc
   go_upto_region 5 with fail
   refine gen_wp ?_
   intro W9 hW9
   have t0 : W9.cell? ⟨wr.heap.size, 0, none⟩ = some (.int .i64 ax) := by rw [hW9]; simp [go_sem]
   have t1 : W9.cell? ⟨wr.heap.size, 1, none⟩ = some (.int .i64 ay) := by rw [hW9]; simp [go_sem]
   have t2 : W9.cell? ⟨wr.heap.size, 2, none⟩ = some (.int .i64 bx) := by rw [hW9]; simp [go_sem]
   have t3 : W9.cell? ⟨wr.heap.size, 3, none⟩ = some (.int .i64 b_y) := by rw [hW9]; simp [go_sem]
   have gl : Grew wr W9 := by rw [hW9]; exact (Grew.refl _).alloc _
   have og := hZ (OwnK.grew says_edge hO'.out gl)
   have gg := hZ (hG'.out.trans gl)
   have zr : wr.heap.size < W9.heap.size := by rw [hW9]; simp
   clear hW9 gl hO' hG' f0 f1 f2 f3
   go_wp2_with fail
   refine (xmay_any ax ay bx b_y _).mono ?_
   rintro e wm ⟨rfl, gm⟩
   rw [hf.out]
   replace og := hZ (OwnK.grew says_edge og.out gm)
   replace gg := hZ (gg.out.trans gm)
   replace t0 := gm.cell t0
   replace t1 := gm.cell t1
   replace t2 := gm.cell t2
   replace t3 := gm.cell t3
   have zm := Nat.lt_of_lt_of_le zr gm.size
   clear gm zr
   cases f
   ·have hps' := hZ (hps.out.trans (show _ = acc by rw [pieceOf_no (s := ((ax, ay), bx, b_y)) (.inl hf.out), List.append_nil]))
    clear t0 t1 t2 t3 hps
    go_wp2_with fail
    go_roundg (gk - 1)
    case rel => exact ⟨j + 1, by omega, by go_num, by rw [hps'.out]; exact og.out, gg.out⟩
    case measure => omega
   ·go_upto_region 6 with fail
    ·rename ax = bx => hx9
     rename ay = b_y => hy9
     have hps' := hZ (hps.out.trans (show _ = acc by rw [pieceOf_no (s := ((ax, ay), bx, b_y)) (.inr (by rw [hx9, hy9])), List.append_nil]))
     go_roundg (gk - 1)
     case rel => exact ⟨j + 1, by omega, by go_num, by rw [hps'.out]; exact og.out, gg.out⟩
     case measure => omega
    all_goals
     have hne : ¬ (ax = bx ∧ ay = b_y) := by omega
     first | (rename ax = bx => h8; rename ¬ay = b_y => h9; clear h8 h9) | (rename ¬ax = bx => h8; clear h8)
     have hpo : pieceOf l ((ax, ay), bx, b_y) = pairsN (cutsQ ax ay bx b_y l) ((cutsQ ax ay bx b_y l).length - 1) := by
      unfold pieceOf
      rw [if_pos ⟨hf.out, fun e => hne (by simpa using e)⟩]
     have hps' := hZ (hps.out.trans (show _ = acc ++ pairsN (cutsQ ax ay bx b_y l) ((cutsQ ax ay bx b_y l).length - 1) by rw [hpo]))
     have hcl : (closeQ ax ay bx b_y l).length ≤ 1048576 := Nat.le_trans (List.length_filter_le _ _) (by omega)
     have hCl := cutsQ_len ax ay bx b_y l
     replace hcl := hZ hcl
     replace t0 := hZ t0
     replace t1 := hZ t1
     replace t2 := hZ t2
     replace t3 := hZ t3
     clear hpo hps hne
     refine wp_region_held_drew (S := fun wv => Grew wm wv) (by kernel_rfl) ((Grew.refl wm).drew) (fun hHeld => ?_)
     replace hHeld := hZ hHeld
     try simp only [Act.put, List.setIfInBounds_toArray, List.set_cons_zero, List.set_cons_succ]
     refine wpAnyH_takeD (i := 0) (d := 25) (v := ?_) rfl rfl (by kernel_rfl) (by kernel_rfl) (by kernel_rfl) (fun _ _ _ h => h) (Or.inl ⟨by rfl, ?_⟩) hHeld.out ?_
     rotate_left
     ·intro wv hSw
      replace hSw : Hid (Grew wm wv) := hZ hSw
      have r0 := hSw.out.cell t0.out
      have r1 := hSw.out.cell t1.out
      have r2 := hSw.out.cell t2.out
      have r3 := hSw.out.cell t3.out
      go_simp
      try with_reducible rfl
     try simp only [Act.put, List.setIfInBounds_toArray, List.set_cons_zero, List.set_cons_succ]
     refine wpAnyH_takeD (i := 1) (d := 26) (v := ?_) rfl rfl (by kernel_rfl) (by kernel_rfl) (by kernel_rfl) (fun _ _ _ h => h) (Or.inl ⟨by rfl, ?_⟩) hHeld.out ?_
     rotate_left
     ·intro wv hSw
      replace hSw : Hid (Grew wm wv) := hZ hSw
      have r0 := hSw.out.cell t0.out
      have r1 := hSw.out.cell t1.out
      have r2 := hSw.out.cell t2.out
      have r3 := hSw.out.cell t3.out
      go_simp
      try with_reducible rfl
     try simp only [Act.put, List.setIfInBounds_toArray, List.set_cons_zero, List.set_cons_succ]
     refine wpAnyH_takeD (i := 2) (d := 27) (v := ?_) rfl rfl (by kernel_rfl) (by kernel_rfl) (by kernel_rfl) (fun _ _ _ h => h) (Or.inl ⟨by rfl, ?_⟩) hHeld.out ?_
     rotate_left
     ·intro wv hSw
      replace hSw : Hid (Grew wm wv) := hZ hSw
      go_simp
      try with_reducible rfl
     try simp only [Act.put, List.setIfInBounds_toArray, List.set_cons_zero, List.set_cons_succ]
     refine wpAnyH_ready (rs := [3]) (by kernel_rfl) (by simp) ?_
     refine AllReadyH.cons rfl (fun KK hKK => ?_) AllReadyH.nil
     go_simp
     refine (close_any ax ay bx b_y _ l _ (hl.out.grew (gg.out.trans hHeld.out)) (by omega)).mono ?_
     rintro e wk1 ⟨V1, rfl, hV1, g⟩
     have gk := hHeld.out.trans g
     replace hV1 := hZ hV1
     clear hHeld
     try dsimp only
     refine hKK.out _ _ gk (fun hHeld => ?_)
     clear gk hKK KK
     replace hHeld := hZ (show Grew wm wk1 from hHeld)
     try simp only [Act.put, List.setIfInBounds_toArray, List.set_cons_zero, List.set_cons_succ]
     refine wpAnyH_ready (rs := [4]) (by kernel_rfl) (by simp) ?_
     refine AllReadyH.cons rfl (fun KK hKK => ?_) AllReadyH.nil
     go_simp
     refine (cuts_fresh ax ay bx b_y _ (closeQ ax ay bx b_y l) _ ra.out rb.out hV1.out hcl.out).mono ?_
     rintro e wk2 ⟨V2, rfl, hV2, hF2, g⟩
     have gk := hHeld.out.trans g
     rw [cutsQ_close] at hV2
     have zk := Nat.lt_of_lt_of_le zm hHeld.out.size
     replace hF2 := hZ hF2
     replace hV2 := hZ hV2
     clear hV1
     clear hHeld
     try dsimp only
     refine hKK.out _ _ gk (fun hHeld => ?_)
     clear gk hKK KK
     replace hHeld := hZ (show Grew wm wk2 from hHeld)
     try simp only [Act.put, List.setIfInBounds_toArray, List.set_cons_zero, List.set_cons_succ]
     refine wpAnyH_takeD (i := 5) (d := 6) (v := ?_) rfl rfl (by kernel_rfl) (by kernel_rfl) (by kernel_rfl) (fun _ _ _ h => h) (Or.inl ⟨by rfl, ?_⟩) hHeld.out ?_
     rotate_left
     ·intro wv hSw
      replace hSw : Hid (Grew wm wv) := hZ hSw
      go_simp
      try with_reducible rfl
     try simp only [Act.put, List.setIfInBounds_toArray, List.set_cons_zero, List.set_cons_succ]
     refine wpAnyH_done (by kernel_rfl) ?_ _
     have og2 := OwnK.grew says_edge og.out hHeld.out
     have gg2 := gg.out.trans hHeld.out
     obtain ⟨C, hC⟩ : ∃ C, cutsQ ax ay bx b_y l = C := ⟨_, rfl⟩
     have hCq := hZ (fun p (hp : p ∈ C) => cuts_qb (ax := ax) (ay := ay) (bx := bx) (b_y := b_y) (l := l) p (by rw [hC]; exact hp))
     rw [hC] at hV2 hps' hCl
     obtain ⟨M, hM⟩ : ∃ M, C.length = M := ⟨_, rfl⟩
     obtain ⟨AA, cc, rfl, y1, y2, -⟩ := id hV2.out
     rw [hM] at y1 hCl hV2 hps' hF2
     rw [hM]
     replace og2 := hZ og2
     replace gg2 := hZ gg2
     have hne0 := hZ (fun (g : Nat) (h : Value.ownBlock _ = some g) (h2 : Value.ownBlock (.slice AA M cc) = some g) => Nat.lt_irrefl g (Nat.lt_of_lt_of_le (Nat.lt_of_lt_of_le (hown.out g h) (Nat.le_of_lt zk)) (hF2.out g h2)))
     obtain ⟨G, rfl⟩ : ∃ G : Nat, G = gk := ⟨_, rfl⟩
     clear og gg t0 t1 t2 t3 hHeld hF2 hC hown zm zk
     go_wp2_with fail
     go_loopg [3, 7] M (fun gk s3 s7 wr => ∃ n i : Nat, gk + n = M ∧ n + 1 = i ∧ s7 = .int .i64 i ∧ n ≤ M - 1 ∧ OwnK 12 Edge12R 37 wr w.heap.size s3 (acc ++ pairsN C n) ∧ RowC wr (.slice AA M cc) C ∧ (∀ g, s3.ownBlock = some g → Value.ownBlock (.slice AA M cc) = some g → False) ∧ Grew w wr)
     case atStart => exact ⟨0, 1, rfl, rfl, rfl, by omega, by rw [pairsN_zero, List.append_nil]; exact og2.out, hV2.out, hne0.out, gg2.out⟩
     case round =>
      obtain ⟨n, i, hgn, hni, rfl, hnM, hO, hV, hnb, hG⟩ := hrel
      clear og2 hV2 hne0 gg2
      by_cases hi : i < M
      ·obtain ⟨A8, c8, e8, -, -, z3⟩ := id hV
       obtain ⟨bb, oo, e7, ke⟩ := z3 (by omega)
       obtain rfl : AA = some ⟨bb, oo, none⟩ := by rw [← e7]; injection e8
       clear e8 z3 e7
       obtain ⟨p, hp⟩ : ∃ p, C[n]? = some p := ⟨C[n]'(by omega), List.getElem?_eq_getElem _⟩
       obtain ⟨q, hq⟩ : ∃ q, C[n + 1]? = some q := ⟨C[n + 1]'(by omega), List.getElem?_eq_getElem _⟩
       obtain ⟨b1, A1, n1, c1, C1, m1, d1, b2, A2, n2, c2, C2, m2, d2, ⟨e0, e1, e2, e3, e4, e5⟩, S1⟩ := ke n p hp
       obtain ⟨b3, A3, n3, c3, C3, m3, d3, b4, A4, n4, c4, C4, m4, d4, ⟨f0, f1, f2, f3, f4, f5⟩, S2⟩ := ke (n + 1) q hq
       rw [hni] at f0 f1 f2 f3 f4 f5
       have g0 : wr.cell? ⟨bb, oo + n * 6, none⟩ = some (.bool b1) := e0
       have g1 : wr.cell? ⟨bb, oo + n * 6 + 1, none⟩ = some (.slice A1 n1 c1) := e1
       have g2 : wr.cell? ⟨bb, oo + n * 6 + 2, none⟩ = some (.slice C1 m1 d1) := e2
       have g3 : wr.cell? ⟨bb, oo + n * 6 + 3, none⟩ = some (.bool b2) := e3
       have g4 : wr.cell? ⟨bb, oo + n * 6 + 4, none⟩ = some (.slice A2 n2 c2) := e4
       have g5 : wr.cell? ⟨bb, oo + n * 6 + 5, none⟩ = some (.slice C2 m2 d2) := e5
       have h0 : wr.cell? ⟨bb, oo + i * 6, none⟩ = some (.bool b3) := f0
       have h1 : wr.cell? ⟨bb, oo + i * 6 + 1, none⟩ = some (.slice A3 n3 c3) := f1
       have h2 : wr.cell? ⟨bb, oo + i * 6 + 2, none⟩ = some (.slice C3 m3 d3) := f2
       have h3 : wr.cell? ⟨bb, oo + i * 6 + 3, none⟩ = some (.bool b4) := f3
       have h4 : wr.cell? ⟨bb, oo + i * 6 + 4, none⟩ = some (.slice A4 n4 c4) := f4
       have h5 : wr.cell? ⟨bb, oo + i * 6 + 5, none⟩ = some (.slice C4 m4 d4) := f5
       have hpq := hZ (hCq.out p (List.mem_of_getElem? hp))
       have hqq := hZ (hCq.out q (List.mem_of_getElem? hq))
       have hpl := pairsN_len C n
       have hal2 : (acc ++ pairsN C n).length ≤ 262144 * 524289 + M := by rw [List.length_append]; omega
       have hwi : IntKind.i64.wrap ((i : Int) - 1) = (n : Int) := by rw [IntWalk.i64_in _ (by omega)]; omega
       have hnl : (n : Int) < (M : Int) := by omega
       have hil : (i : Int) < (M : Int) := by omega
       have hpC := hZ hp
       have hqC := hZ hq
       have hbb := hZ (row_lt hV (by omega))
       have S1' := hZ S1
       have S2' := hZ S2
       replace hO := hZ hO
       replace hV := hZ hV
       replace hnb := hZ hnb
       replace hG := hZ hG
       replace hni := hZ hni
       clear ke hp hq S1 S2 e0 e1 e2 e3 e4 e5 f0 f1 f2 f3 f4 f5
       obtain ⟨WA, hWA⟩ : ∃ WA, wr.alloc (.cells #[.bool false, .slice none 0 0, .slice none 0 0, .bool false, .slice none 0 0, .slice none 0 0, .bool false, .slice none 0 0, .slice none 0 0, .bool false, .slice none 0 0, .slice none 0 0] 37) = WA := ⟨_, rfl⟩
       have gl : Grew wr WA := by rw [← hWA]; exact (Grew.refl _).alloc _
       have k0 := gl.cell g0
       have k1 := gl.cell g1
       have k2 := gl.cell g2
       have k3 := gl.cell g3
       have k4 := gl.cell g4
       have k5 := gl.cell g5
       have k6 := gl.cell h0
       have k7 := gl.cell h1
       have k8 := gl.cell h2
       have k9 := gl.cell h3
       have k10 := gl.cell h4
       have k11 := gl.cell h5
       have u0 : WA.cell? ⟨wr.heap.size, 0, none⟩ = some (.bool false) := by rw [← hWA]; simp [go_sem]
       have v0 : WA.frozen? ⟨wr.heap.size, 0, none⟩ = false := by rw [← hWA]; simp [go_sem]
       have u1 : WA.cell? ⟨wr.heap.size, 1, none⟩ = some (.slice none 0 0) := by rw [← hWA]; simp [go_sem]
       have v1 : WA.frozen? ⟨wr.heap.size, 1, none⟩ = false := by rw [← hWA]; simp [go_sem]
       have u2 : WA.cell? ⟨wr.heap.size, 2, none⟩ = some (.slice none 0 0) := by rw [← hWA]; simp [go_sem]
       have v2 : WA.frozen? ⟨wr.heap.size, 2, none⟩ = false := by rw [← hWA]; simp [go_sem]
       have u3 : WA.cell? ⟨wr.heap.size, 3, none⟩ = some (.bool false) := by rw [← hWA]; simp [go_sem]
       have v3 : WA.frozen? ⟨wr.heap.size, 3, none⟩ = false := by rw [← hWA]; simp [go_sem]
       have u4 : WA.cell? ⟨wr.heap.size, 4, none⟩ = some (.slice none 0 0) := by rw [← hWA]; simp [go_sem]
       have v4 : WA.frozen? ⟨wr.heap.size, 4, none⟩ = false := by rw [← hWA]; simp [go_sem]
       have u5 : WA.cell? ⟨wr.heap.size, 5, none⟩ = some (.slice none 0 0) := by rw [← hWA]; simp [go_sem]
       have v5 : WA.frozen? ⟨wr.heap.size, 5, none⟩ = false := by rw [← hWA]; simp [go_sem]
       have u6 : WA.cell? ⟨wr.heap.size, 6, none⟩ = some (.bool false) := by rw [← hWA]; simp [go_sem]
       have v6 : WA.frozen? ⟨wr.heap.size, 6, none⟩ = false := by rw [← hWA]; simp [go_sem]
       have u7 : WA.cell? ⟨wr.heap.size, 7, none⟩ = some (.slice none 0 0) := by rw [← hWA]; simp [go_sem]
       have v7 : WA.frozen? ⟨wr.heap.size, 7, none⟩ = false := by rw [← hWA]; simp [go_sem]
       have u8 : WA.cell? ⟨wr.heap.size, 8, none⟩ = some (.slice none 0 0) := by rw [← hWA]; simp [go_sem]
       have v8 : WA.frozen? ⟨wr.heap.size, 8, none⟩ = false := by rw [← hWA]; simp [go_sem]
       have u9 : WA.cell? ⟨wr.heap.size, 9, none⟩ = some (.bool false) := by rw [← hWA]; simp [go_sem]
       have v9 : WA.frozen? ⟨wr.heap.size, 9, none⟩ = false := by rw [← hWA]; simp [go_sem]
       have u10 : WA.cell? ⟨wr.heap.size, 10, none⟩ = some (.slice none 0 0) := by rw [← hWA]; simp [go_sem]
       have v10 : WA.frozen? ⟨wr.heap.size, 10, none⟩ = false := by rw [← hWA]; simp [go_sem]
       have u11 : WA.cell? ⟨wr.heap.size, 11, none⟩ = some (.slice none 0 0) := by rw [← hWA]; simp [go_sem]
       have v11 : WA.frozen? ⟨wr.heap.size, 11, none⟩ = false := by rw [← hWA]; simp [go_sem]
       go_upto_region 10 with fail
       go_region
       refine gen_then ?_
       intro W10 hW10
       obtain ⟨q0, q1, q2, q3, q4, q5, q6, q7, q8, q9, q10, q11, qK, qG, qF⟩ := store12d u0 u1 u2 u3 u4 u5 u6 u7 u8 u9 u10 u11 hW10
       have g10 := qG wr (Nat.le_refl _) gl
       clear qK qG hW10 u0 u1 u2 u3 u4 u5 u6 u7 u8 u9 u10 u11 k0 k1 k2 k3 k4 k5 k6 k7 k8 k9 k10 k11 hWA gl g0 g1 g2 g3 g4 g5 h0 h1 h2 h3 h4 h5
       replace g10 := hZ g10
       go_wp2_with fail
       refine (scmp_any _ _ p.1 p.2 q.1 q.2 7 _ (SpotC.v (SpotC.kept S1'.out g10.out.keeps) hpq.out.1 hpq.out.2) (SpotC.v (SpotC.kept S2'.out g10.out.keeps) hqq.out.1 hqq.out.2) (by omega) (by omega)).mono ?_
       rintro e w11 ⟨rfl, g11⟩
       obtain ⟨-, hfz⟩ := g11.olds
       have zlt := World.block_lt_of_cell? W10 _ q0
       replace v0 := (hfz _ 0 zlt).trans ((qF _).trans v0)
       replace v1 := (hfz _ 1 zlt).trans ((qF _).trans v1)
       replace v2 := (hfz _ 2 zlt).trans ((qF _).trans v2)
       replace v3 := (hfz _ 3 zlt).trans ((qF _).trans v3)
       replace v4 := (hfz _ 4 zlt).trans ((qF _).trans v4)
       replace v5 := (hfz _ 5 zlt).trans ((qF _).trans v5)
       replace v6 := (hfz _ 6 zlt).trans ((qF _).trans v6)
       replace v7 := (hfz _ 7 zlt).trans ((qF _).trans v7)
       replace v8 := (hfz _ 8 zlt).trans ((qF _).trans v8)
       replace v9 := (hfz _ 9 zlt).trans ((qF _).trans v9)
       replace v10 := (hfz _ 10 zlt).trans ((qF _).trans v10)
       replace v11 := (hfz _ 11 zlt).trans ((qF _).trans v11)
       clear hfz zlt qF
       replace q0 := g11.cell q0
       replace q1 := g11.cell q1
       replace q2 := g11.cell q2
       replace q3 := g11.cell q3
       replace q4 := g11.cell q4
       replace q5 := g11.cell q5
       replace q6 := g11.cell q6
       replace q7 := g11.cell q7
       replace q8 := g11.cell q8
       replace q9 := g11.cell q9
       replace q10 := g11.cell q10
       replace q11 := g11.cell q11
       have g12 := hZ (g10.out.trans g11)
       clear g10 g11
       by_cases hc : 0 < spotCmp p.1 p.2 q.1 q.2
       ·have hed := hZ (show edgeOf p q = (q, p) from if_pos hc)
        go_upto_region 13 with fail
        refine gen_wp ?_
        intro W12 hW12
        obtain ⟨p0, p1, p2, p3, p4, p5, p6, p7, p8, p9, p10, p11, pK, pG⟩ := store12 q0 q1 q2 q3 q4 q5 q6 q7 q8 q9 q10 q11 hW12
        have gZ := pG wr (Nat.le_refl _) g12.out
        have XE := hZ (show Edge12R W12 #[.bool b3, .slice A3 n3 c3, .slice C3 m3 d3, .bool b4, .slice A4 n4 c4, .slice C4 m4 d4, .bool b1, .slice A1 n1 c1, .slice C1 m1 d1, .bool b2, .slice A2 n2 c2, .slice C2 m2 d2] (edgeOf p q) from by rw [hed.out]; exact edge_mk (e := (q, p)) (SpotC.kept S2'.out gZ.keeps) (SpotC.kept S1'.out gZ.keeps))
        clear pK pG hW12 g12 hed hc q0 q1 q2 q3 q4 q5 q6 q7 q8 q9 q10 q11 v0 v1 v2 v3 v4 v5 v6 v7 v8 v9 v10 v11
        have oA := hZ (OwnK.grew says_edge hO.out gZ)
        have hVA := hZ (hV.out.grew gZ)
        have gA := hZ (hG.out.trans gZ)
        have hszA := gA.out.size
        have hbB := hZ (fun g (hg : Value.ownBlock (.slice (some ⟨bb, oo, none⟩) M cc) = some g) => Nat.lt_of_lt_of_le (hbb.out g hg) gZ.size)
        have hnA := hnb
        clear hO hV hG hnb hbb gZ S1' S2'
        go_wp2_with (first | fail | (at_builtin; (refine wpList_appK (m := [edgeOf p q]) rfl (.tmp 57) (.tmp 59) 24 rfl rfl says_edge oA.out _ (cells_one says_edge XE.out) rfl _ 224 Tryz.underlying24 info_edge rfl (by omega) znoE (by simp only [List.length_cons, List.length_nil]; omega) (by omega) hszA ?_); intro vB wzB hOB hKB hCB hWB hGB))
        have gzB := hZ (hGB w (Nat.le_refl _) gA.out)
        have ozB := hZ (show OwnK 12 Edge12R 37 wzB w.heap.size vB (acc ++ pairsN C (n + 1)) from by rw [pairsN_succ hpC.out hqC.out, ← List.append_assoc]; exact hOB)
        have hneB := hZ (fun (g : Nat) (hg : vB.ownBlock = some g) (hv : Value.ownBlock (.slice (some ⟨bb, oo, none⟩) M cc) = some g) => (hWB g hg).elim (fun h => hnA.out g h hv) (fun h => Nat.lt_irrefl _ (Nat.lt_of_lt_of_le (hbB.out g hv) h)))
        have hVB := hZ (row_kept (w' := wzB) hVA.out hKB (fun j u hu => hCB bb j u (fun h => hnA.out bb h rfl) hu))
        clear hOB hKB hCB hWB hGB oA XE gA hszA hVA hnA hbB
        go_wp2_with fail
        go_roundg (gk - 1)
        case rel => exact ⟨n + 1, i + 1, by have := hni.out; omega, by have := hni.out; omega, by go_num, by have := hni.out; omega, ozB.out, hVB.out, hneB.out, gzB.out⟩
        case measure => have := hni.out; omega
       ·have hed := hZ (show edgeOf p q = (p, q) from if_neg hc)
        go_upto_region 13 with fail
        have gZ := g12.out
        have XE := hZ (show Edge12R w11 #[.bool b1, .slice A1 n1 c1, .slice C1 m1 d1, .bool b2, .slice A2 n2 c2, .slice C2 m2 d2, .bool b3, .slice A3 n3 c3, .slice C3 m3 d3, .bool b4, .slice A4 n4 c4, .slice C4 m4 d4] (edgeOf p q) from by rw [hed.out]; exact edge_mk (e := (p, q)) (SpotC.kept S1'.out gZ.keeps) (SpotC.kept S2'.out gZ.keeps))
        clear g12 hed hc v0 v1 v2 v3 v4 v5 v6 v7 v8 v9 v10 v11
        have oA := hZ (OwnK.grew says_edge hO.out gZ)
        have hVA := hZ (hV.out.grew gZ)
        have gA := hZ (hG.out.trans gZ)
        have hszA := gA.out.size
        have hbB := hZ (fun g (hg : Value.ownBlock (.slice (some ⟨bb, oo, none⟩) M cc) = some g) => Nat.lt_of_lt_of_le (hbb.out g hg) gZ.size)
        have hnA := hnb
        clear hO hV hG hnb hbb gZ S1' S2'
        go_wp2_with (first | fail | (at_builtin; (refine wpList_appK (m := [edgeOf p q]) rfl (.tmp 57) (.tmp 59) 24 rfl rfl says_edge oA.out _ (cells_one says_edge XE.out) rfl _ 224 Tryz.underlying24 info_edge rfl (by omega) znoE (by simp only [List.length_cons, List.length_nil]; omega) (by omega) hszA ?_); intro vB wzB hOB hKB hCB hWB hGB))
        have gzB := hZ (hGB w (Nat.le_refl _) gA.out)
        have ozB := hZ (show OwnK 12 Edge12R 37 wzB w.heap.size vB (acc ++ pairsN C (n + 1)) from by rw [pairsN_succ hpC.out hqC.out, ← List.append_assoc]; exact hOB)
        have hneB := hZ (fun (g : Nat) (hg : vB.ownBlock = some g) (hv : Value.ownBlock (.slice (some ⟨bb, oo, none⟩) M cc) = some g) => (hWB g hg).elim (fun h => hnA.out g h hv) (fun h => Nat.lt_irrefl _ (Nat.lt_of_lt_of_le (hbB.out g hv) h)))
        have hVB := hZ (row_kept (w' := wzB) hVA.out hKB (fun j u hu => hCB bb j u (fun h => hnA.out bb h rfl) hu))
        clear hOB hKB hCB hWB hGB oA XE gA hszA hVA hnA hbB
        go_wp2_with fail
        go_roundg (gk - 1)
        case rel => exact ⟨n + 1, i + 1, by have := hni.out; omega, by have := hni.out; omega, by go_num, by have := hni.out; omega, ozB.out, hVB.out, hneB.out, gzB.out⟩
        case measure => have := hni.out; omega
      ·have hnn : n = M - 1 := by omega
       subst hnn
       have hO' := hZ hO
       have hG' := hZ hG
       clear hO hV hnb hG
       go_wp2_with fail
       go_roundg (G - 1)
       case rel => exact ⟨j + 1, by omega, by go_num, by rw [hps'.out]; exact hO'.out, hG'.out⟩
       case measure => omega
  ·obtain rfl : j = L := by omega
   have hall : l.take j = l := by rw [← hL]; exact List.take_length
   rw [hall] at hO
   have hfl := flat_len (pieceOf l) (1 + 2 * j) (fun s => by rw [← hL]; exact pieceOf_len l s) l
   have hmj : l.length * (1 + 2 * j) ≤ 262144 * 524289 := Nat.mul_le_mul (by omega) (by omega)
   have hO' := hZ hO
   have hG' := hZ hG
   clear hO hG
   go_wp2_with fail
   refine (erow_any w.heap.size _ (l.flatMap (pieceOf l)) 7 _ hO'.out (fun e he => by
    obtain ⟨s, -, hs⟩ := List.mem_flatMap.1 he
    exact piece_eb e hs) (by omega) (by omega) (by omega)).mono ?_
   rintro e w2 ⟨V2, rfl, hO2, hG2⟩
   have hg := hZ (hG2 w (Nat.le_refl _) hG'.out)
   have hrow := hZ hO2.row
   clear hO2 hG2 hG' hO' hfl hmj
   go_wp2_with fail
   go_ret
   exact ⟨_, rfl, hrow.out, hg.out⟩
theorem cellsC {w : World} {c : Nat → Option Value} {x : EdgeQ} (h : CellsR 12 Edge12R w c x) :
  ∃ b1 A1 n1 c1 C1 m1 d1 b2 A2 n2 c2 C2 m2 d2 b3 A3 n3 c3 C3 m3 d3 b4 A4 n4 c4 C4 m4 d4, (c 0 = some (.bool b1) ∧ c 1 = some (.slice A1 n1 c1) ∧ c 2 = some (.slice C1 m1 d1) ∧ c 3 = some (.bool b2) ∧ c 4 = some (.slice A2 n2 c2) ∧ c 5 = some (.slice C2 m2 d2) ∧ c 6 = some (.bool b3) ∧ c 7 = some (.slice A3 n3 c3) ∧ c 8 = some (.slice C3 m3 d3) ∧ c 9 = some (.bool b4) ∧ c 10 = some (.slice A4 n4 c4) ∧ c 11 = some (.slice C4 m4 d4)) ∧ Hid (Edge12R w #[.bool b1, .slice A1 n1 c1, .slice C1 m1 d1, .bool b2, .slice A2 n2 c2, .slice C2 m2 d2, .bool b3, .slice A3 n3 c3, .slice C3 m3 d3, .bool b4, .slice A4 n4 c4, .slice C4 m4 d4] x) := by
 obtain ⟨us, h1, h2⟩ := h
 have h3 := h2
 obtain ⟨us1, us2, rfl, h4, h5⟩ := h3
 obtain ⟨b1, A1, n1, c1, C1, m1, d1, b2, A2, n2, c2, C2, m2, d2, e, -, -⟩ := h4
 injection e with e
 subst e
 obtain ⟨b3, A3, n3, c3, C3, m3, d3, b4, A4, n4, c4, C4, m4, d4, e, -, -⟩ := h5
 injection e with e
 subst e
 exact ⟨b1, A1, n1, c1, C1, m1, d1, b2, A2, n2, c2, C2, m2, d2, b3, A3, n3, c3, C3, m3, d3, b4, A4, n4, c4, C4, m4, d4, ⟨h1 0 (by omega), h1 1 (by omega), h1 2 (by omega), h1 3 (by omega), h1 4 (by omega), h1 5 (by omega), h1 6 (by omega), h1 7 (by omega), h1 8 (by omega), h1 9 (by omega), h1 10 (by omega), h1 11 (by omega)⟩, h2⟩
set_option maxHeartbeats 16000000 in
theorem rput_any (v : Value) (l : List EdgeQ) (us : Array Value) (x : EdgeQ) (k : Nat) (w : World) (hr : RowK 12 Edge12R w v l) (hu : Edge12R w us x) (hq : ∀ y ∈ l, EB k y) (hx : EB k x) (hk : 1 ≤ k) (hs : k < 67108864) (hl : l.length ≤ 549755813888) :
  Calls Tryz.prog 33 #[v, .agg us] w fun e w' => ∃ v', e = .returned v' ∧ RowK 12 Edge12R w' v' (putG edgeCmp x l) ∧ Grew w w' := by
 obtain ⟨A, c, rfl, k1, k2, k3⟩ := hr
 obtain ⟨M, hM⟩ : ∃ M, l.length = M := ⟨_, rfl⟩
 rw [hM] at k1 k3 hl
 rw [hM]
 have hm : M ≤ 9223372036854775807 := by omega
 obtain ⟨b1, A1, n1, c1, C1, m1, d1, b2, A2, n2, c2, C2, m2, d2, b3, A3, n3, c3, C3, m3, d3, b4, A4, n4, c4, C4, m4, d4, ⟨e0, e1, e2, e3, e4, e5, e6, e7, e8, e9, e10, e11⟩, S0⟩ := cellsC (w := w) (c := fun j => us[j]?) (x := x) ⟨us, fun j hj => by first | (rw [Nat.zero_mul, Nat.zero_add]) | rfl, hu⟩
 have hus := says_edge.size hu
 obtain rfl : us = #[.bool b1, .slice A1 n1 c1, .slice C1 m1 d1, .bool b2, .slice A2 n2 c2, .slice C2 m2 d2, .bool b3, .slice A3 n3 c3, .slice C3 m3 d3, .bool b4, .slice A4 n4 c4, .slice C4 m4 d4] := by
  apply Array.ext_getElem?
  intro i
  by_cases hi : i < 12
  ·have h9 : i = 0 ∨ i = 1 ∨ i = 2 ∨ i = 3 ∨ i = 4 ∨ i = 5 ∨ i = 6 ∨ i = 7 ∨ i = 8 ∨ i = 9 ∨ i = 10 ∨ i = 11 := by omega
   rcases h9 with rfl | rfl | rfl | rfl | rfl | rfl | rfl | rfl | rfl | rfl | rfl | rfl
   ·exact e0
   ·exact e1
   ·exact e2
   ·exact e3
   ·exact e4
   ·exact e5
   ·exact e6
   ·exact e7
   ·exact e8
   ·exact e9
   ·exact e10
   ·exact e11
  ·rw [Array.getElem?_eq_none (by omega), Array.getElem?_eq_none (by simp; omega)]
 clear e0 e1 e2 e3 e4 e5 e6 e7 e8 e9 e10 e11 hus S0
 replace k3 := hZ k3
 replace hq := hZ hq
 replace hx := hZ hx
 go_enter Tryz.func33, Tryz.ntmps33
 go_upto_region 1 with fail
 refine gen_wp ?_
 intro W1 hW1
 have p0 : Hid (W1.cell? ⟨w.heap.size, 0, none⟩ = some (.bool b1)) := hZ (by rw [hW1]; simp [go_sem])
 have p1 : Hid (W1.cell? ⟨w.heap.size, 1, none⟩ = some (.slice A1 n1 c1)) := hZ (by rw [hW1]; simp [go_sem])
 have p2 : Hid (W1.cell? ⟨w.heap.size, 2, none⟩ = some (.slice C1 m1 d1)) := hZ (by rw [hW1]; simp [go_sem])
 have p3 : Hid (W1.cell? ⟨w.heap.size, 3, none⟩ = some (.bool b2)) := hZ (by rw [hW1]; simp [go_sem])
 have p4 : Hid (W1.cell? ⟨w.heap.size, 4, none⟩ = some (.slice A2 n2 c2)) := hZ (by rw [hW1]; simp [go_sem])
 have p5 : Hid (W1.cell? ⟨w.heap.size, 5, none⟩ = some (.slice C2 m2 d2)) := hZ (by rw [hW1]; simp [go_sem])
 have p6 : Hid (W1.cell? ⟨w.heap.size, 6, none⟩ = some (.bool b3)) := hZ (by rw [hW1]; simp [go_sem])
 have p7 : Hid (W1.cell? ⟨w.heap.size, 7, none⟩ = some (.slice A3 n3 c3)) := hZ (by rw [hW1]; simp [go_sem])
 have p8 : Hid (W1.cell? ⟨w.heap.size, 8, none⟩ = some (.slice C3 m3 d3)) := hZ (by rw [hW1]; simp [go_sem])
 have p9 : Hid (W1.cell? ⟨w.heap.size, 9, none⟩ = some (.bool b4)) := hZ (by rw [hW1]; simp [go_sem])
 have p10 : Hid (W1.cell? ⟨w.heap.size, 10, none⟩ = some (.slice A4 n4 c4)) := hZ (by rw [hW1]; simp [go_sem])
 have p11 : Hid (W1.cell? ⟨w.heap.size, 11, none⟩ = some (.slice C4 m4 d4)) := hZ (by rw [hW1]; simp [go_sem])
 have G1 : Grew w W1 := by rw [hW1]; exact (Grew.refl w).alloc _
 have S1 := hZ (says_edge.kept hu G1.keeps)
 have zw : w.heap.size < W1.heap.size := by rw [hW1]; simp
 replace G1 := hZ G1
 clear hW1 hu
 go_wp2_with fail
 go_loopg [5, 6, 7] M (fun gk nv inn kk wr => ∃ m : Nat, gk + m = M ∧ kk = .int .i64 m ∧ inn = .bool ((l.take m).foldl (stepG edgeCmp x) ([], false)).2 ∧ OwnK 12 Edge12R 37 wr W1.heap.size nv ((l.take m).foldl (stepG edgeCmp x) ([], false)).1 ∧ Grew W1 wr)
 case atStart => exact ⟨0, rfl, rfl, rfl, OwnK.nil _ _ _ _ _, Grew.refl _⟩
 case round =>
  obtain ⟨m, hj2, rfl, rfl, hN, hGr⟩ := hrel
  by_cases hml : m < M
  ·obtain ⟨g, o9, rfl, ke⟩ := k3.out (by omega)
   obtain ⟨q, hq9⟩ : ∃ q, l[m]? = some q := ⟨l[m]'(by omega), List.getElem?_eq_getElem _⟩
   obtain ⟨b5, A5, n5, c5, C5, m5, d5, b6, A6, n6, c6, C6, m6, d6, b7, A7, n7, c7, C7, m7, d7, b8, A8, n8, c8, C8, m8, d8, ⟨e0, e1, e2, e3, e4, e5, e6, e7, e8, e9, e10, e11⟩, S2⟩ := cellsC (ke m q hq9)
   replace e0 : Hid (W1.cell? ⟨g, o9 + m * 12, none⟩ = some (.bool b5)) := hZ (G1.out.cell e0)
   replace e1 : Hid (W1.cell? ⟨g, o9 + m * 12 + 1, none⟩ = some (.slice A5 n5 c5)) := hZ (G1.out.cell e1)
   replace e2 : Hid (W1.cell? ⟨g, o9 + m * 12 + 2, none⟩ = some (.slice C5 m5 d5)) := hZ (G1.out.cell e2)
   replace e3 : Hid (W1.cell? ⟨g, o9 + m * 12 + 3, none⟩ = some (.bool b6)) := hZ (G1.out.cell e3)
   replace e4 : Hid (W1.cell? ⟨g, o9 + m * 12 + 4, none⟩ = some (.slice A6 n6 c6)) := hZ (G1.out.cell e4)
   replace e5 : Hid (W1.cell? ⟨g, o9 + m * 12 + 5, none⟩ = some (.slice C6 m6 d6)) := hZ (G1.out.cell e5)
   replace e6 : Hid (W1.cell? ⟨g, o9 + m * 12 + 6, none⟩ = some (.bool b7)) := hZ (G1.out.cell e6)
   replace e7 : Hid (W1.cell? ⟨g, o9 + m * 12 + 7, none⟩ = some (.slice A7 n7 c7)) := hZ (G1.out.cell e7)
   replace e8 : Hid (W1.cell? ⟨g, o9 + m * 12 + 8, none⟩ = some (.slice C7 m7 d7)) := hZ (G1.out.cell e8)
   replace e9 : Hid (W1.cell? ⟨g, o9 + m * 12 + 9, none⟩ = some (.bool b8)) := hZ (G1.out.cell e9)
   replace e10 : Hid (W1.cell? ⟨g, o9 + m * 12 + 10, none⟩ = some (.slice A8 n8 c8)) := hZ (G1.out.cell e10)
   replace e11 : Hid (W1.cell? ⟨g, o9 + m * 12 + 11, none⟩ = some (.slice C8 m8 d8)) := hZ (G1.out.cell e11)
   replace S2 := hZ (says_edge.kept S2.out G1.out.keeps)
   have g0 := hGr.cell e0.out
   have h0 := hGr.cell p0.out
   have g1 := hGr.cell e1.out
   have h1 := hGr.cell p1.out
   have g2 := hGr.cell e2.out
   have h2 := hGr.cell p2.out
   have g3 := hGr.cell e3.out
   have h3 := hGr.cell p3.out
   have g4 := hGr.cell e4.out
   have h4 := hGr.cell p4.out
   have g5 := hGr.cell e5.out
   have h5 := hGr.cell p5.out
   have g6 := hGr.cell e6.out
   have h6 := hGr.cell p6.out
   have g7 := hGr.cell e7.out
   have h7 := hGr.cell p7.out
   have g8 := hGr.cell e8.out
   have h8 := hGr.cell p8.out
   have g9 := hGr.cell e9.out
   have h9 := hGr.cell p9.out
   have g10 := hGr.cell e10.out
   have h10 := hGr.cell p10.out
   have g11 := hGr.cell e11.out
   have h11 := hGr.cell p11.out
   have q1 := hZ (hq.out q (List.mem_of_getElem? hq9))
   have hml2 : (m : Int) < (M : Int) := by omega
   clear ke
   go_wp2_with fail
   go_region_held3 (fun w' => w'.cell? ⟨w.heap.size, 0, none⟩ = some (.bool b1) ∧ w'.cell? ⟨w.heap.size, 1, none⟩ = some (.slice A1 n1 c1) ∧ w'.cell? ⟨w.heap.size, 2, none⟩ = some (.slice C1 m1 d1) ∧ w'.cell? ⟨w.heap.size, 3, none⟩ = some (.bool b2) ∧ w'.cell? ⟨w.heap.size, 4, none⟩ = some (.slice A2 n2 c2) ∧ w'.cell? ⟨w.heap.size, 5, none⟩ = some (.slice C2 m2 d2) ∧ w'.cell? ⟨w.heap.size, 6, none⟩ = some (.bool b3) ∧ w'.cell? ⟨w.heap.size, 7, none⟩ = some (.slice A3 n3 c3) ∧ w'.cell? ⟨w.heap.size, 8, none⟩ = some (.slice C3 m3 d3) ∧ w'.cell? ⟨w.heap.size, 9, none⟩ = some (.bool b4) ∧ w'.cell? ⟨w.heap.size, 10, none⟩ = some (.slice A4 n4 c4) ∧ w'.cell? ⟨w.heap.size, 11, none⟩ = some (.slice C4 m4 d4) ∧ w'.cell? ⟨g, o9 + m * 12, none⟩ = some (.bool b5) ∧ w'.cell? ⟨g, o9 + m * 12 + 1, none⟩ = some (.slice A5 n5 c5) ∧ w'.cell? ⟨g, o9 + m * 12 + 2, none⟩ = some (.slice C5 m5 d5) ∧ w'.cell? ⟨g, o9 + m * 12 + 3, none⟩ = some (.bool b6) ∧ w'.cell? ⟨g, o9 + m * 12 + 4, none⟩ = some (.slice A6 n6 c6) ∧ w'.cell? ⟨g, o9 + m * 12 + 5, none⟩ = some (.slice C6 m6 d6) ∧ w'.cell? ⟨g, o9 + m * 12 + 6, none⟩ = some (.bool b7) ∧ w'.cell? ⟨g, o9 + m * 12 + 7, none⟩ = some (.slice A7 n7 c7) ∧ w'.cell? ⟨g, o9 + m * 12 + 8, none⟩ = some (.slice C7 m7 d7) ∧ w'.cell? ⟨g, o9 + m * 12 + 9, none⟩ = some (.bool b8) ∧ w'.cell? ⟨g, o9 + m * 12 + 10, none⟩ = some (.slice A8 n8 c8) ∧ w'.cell? ⟨g, o9 + m * 12 + 11, none⟩ = some (.slice C8 m8 d8))
    (first | exact ⟨h0, h1, h2, h3, h4, h5, h6, h7, h8, h9, h10, h11, g0, g1, g2, g3, g4, g5, g6, g7, g8, g9, g10, g11⟩ | exact ⟨gc.cell h0, gc.cell h1, gc.cell h2, gc.cell h3, gc.cell h4, gc.cell h5, gc.cell h6, gc.cell h7, gc.cell h8, gc.cell h9, gc.cell h10, gc.cell h11, gc.cell g0, gc.cell g1, gc.cell g2, gc.cell g3, gc.cell g4, gc.cell g5, gc.cell g6, gc.cell g7, gc.cell g8, gc.cell g9, gc.cell g10, gc.cell g11⟩)
    (first | (go_at_call 11; refine (recmp_any _ _ x q k _ (edge_r (says_edge.kept S1.out ((hGr.drew).keeps)) hx.out) (edge_r (says_edge.kept S2.out ((hGr.drew).keeps)) q1.out) hk hs).mono ?_; rintro e wx ⟨rfl, gc⟩))
   have gA := (hGr.drew).trans gc
   have oA := OwnK.grew says_edge hN (((Grew.refl wr).drew).trans gc)
   have hfl := stepG_fold_len (cf := edgeCmp) x (l.take m) ([], false)
   have hstep := foldG_succ (cf := edgeCmp) x l m q hq9 ([], false)
   obtain ⟨⟨a, bo⟩, hst⟩ : ∃ s, (l.take m).foldl (stepG edgeCmp x) ([], false) = s := ⟨_, rfl⟩
   rw [hst] at oA hstep hfl ⊢
   replace oA : OwnK 12 Edge12R 37 wx W1.heap.size _ a := oA
   have hal : a.length ≤ m + 1 := by simp only [List.length_take, List.length_nil] at hfl; simp at hfl; omega
   obtain ⟨cc, hcc⟩ : ∃ cc, edgeCmp x q = cc := ⟨_, rfl⟩
   rw [hcc]
   have c1' := fun h : cc < 0 => stepG_lt (cf := edgeCmp) (p := x) (q := q) a (by rw [hcc]; exact h)
   have c2' := fun h : cc = 0 => stepG_eq (cf := edgeCmp) (p := x) (q := q) a bo (by rw [hcc]; exact h)
   have c3' := fun h : 0 < cc => stepG_gt (cf := edgeCmp) (p := x) (q := q) a bo (by rw [hcc]; exact h)
   replace hstep := hZ hstep
   replace c1' := hZ c1'
   replace c2' := hZ c2'
   replace c3' := hZ c3'
   clear hst hN hGr gc hfl hcc h0 h1 h2 h3 h4 h5 h6 h7 h8 h9 h10 h11 g0 g1 g2 g3 g4 g5 g6 g7 g8 g9 g10 g11 q1 hq9
   rcases Int.lt_trichotomy cc 0 with hc | hc | hc
   ·cases bo
    ·skip
     have st9 := hZ (hstep.out.trans (c1'.out hc))
     clear c1' c2' c3' hstep
     have t0 := gA.cell p0.out
     have t1 := gA.cell p1.out
     have t2 := gA.cell p2.out
     have t3 := gA.cell p3.out
     have t4 := gA.cell p4.out
     have t5 := gA.cell p5.out
     have t6 := gA.cell p6.out
     have t7 := gA.cell p7.out
     have t8 := gA.cell p8.out
     have t9 := gA.cell p9.out
     have t10 := gA.cell p10.out
     have t11 := gA.cell p11.out
     have X8 := hZ (says_edge.kept S1.out gA.keeps)
     have hsz8 := gA.size
     have ho8 := hZ oA
     have gwp := hZ gA
     clear oA gA
     go_wp2_with (first | fail | (at_builtin; (refine wpList_appK (m := [x]) rfl (.tmp 27) (.tmp 29) 24 rfl rfl says_edge ho8.out _ (cells_one says_edge X8.out) rfl _ 224 Tryz.underlying24 info_edge rfl (by omega) znoE (by simp only [List.length_cons, List.length_nil]; omega) (by omega) hsz8 ?_); intro vA wzA hOA hKA hCA hWA hGA; have gzA := hGA W1 (Nat.le_refl _) gwp.out; have hsz9 := gzA.size; have ho9 := hZ hOA; have X9 := hZ (says_edge.kept S2.out gzA.keeps); have t0 := gzA.cell e0.out; have t1 := gzA.cell e1.out; have t2 := gzA.cell e2.out; have t3 := gzA.cell e3.out; have t4 := gzA.cell e4.out; have t5 := gzA.cell e5.out; have t6 := gzA.cell e6.out; have t7 := gzA.cell e7.out; have t8 := gzA.cell e8.out; have t9 := gzA.cell e9.out; have t10 := gzA.cell e10.out; have t11 := gzA.cell e11.out; have gwq := hZ gzA; clear hOA hKA hCA hWA hGA ho8 X8 gwp hsz8 gzA; have hal2 : (a ++ [x]).length ≤ m + 2 := (by rw [List.length_append, List.length_cons, List.length_nil]; omega)) | (at_builtin; (refine wpList_appK (m := [q]) rfl (.tmp 33) (.tmp 38) 24 rfl rfl says_edge ho9.out _ (cells_one says_edge X9.out) rfl _ 224 Tryz.underlying24 info_edge rfl (by omega) znoE (by simp only [List.length_cons, List.length_nil]; omega) (by omega) hsz9 ?_); intro vB wzB hOB hKB hCB hWB hGB))
     have gzB := hGB W1 (Nat.le_refl _) gwq.out
     have ozB := hOB
     clear hOB hKB hCB hWB hGB ho9 X9 gwq hsz9 t0 t1 t2 t3 t4 t5 t6 t7 t8 t9 t10 t11
     go_wp2_with fail
     go_roundg (gk - 1)
     case rel => exact ⟨m + 1, by omega, by go_num, by rw [st9.out], by rw [st9.out]; exact ozB, gzB⟩
     case measure => omega
    ·skip
     have st9 := hZ (hstep.out.trans (stepG_in (cf := edgeCmp) (p := x) (q := q) a))
     clear c1' c2' c3' hstep
     have X9 := hZ (says_edge.kept S2.out gA.keeps)
     have t0 := gA.cell e0.out
     have t1 := gA.cell e1.out
     have t2 := gA.cell e2.out
     have t3 := gA.cell e3.out
     have t4 := gA.cell e4.out
     have t5 := gA.cell e5.out
     have t6 := gA.cell e6.out
     have t7 := gA.cell e7.out
     have t8 := gA.cell e8.out
     have t9 := gA.cell e9.out
     have t10 := gA.cell e10.out
     have t11 := gA.cell e11.out
     have hsz9 := gA.size
     have ho9 := hZ oA
     have gwq := hZ gA
     clear oA gA
     go_wp2_with (first | fail | (at_builtin; (refine wpList_appK (m := [q]) rfl (.tmp 33) (.tmp 38) 24 rfl rfl says_edge ho9.out _ (cells_one says_edge X9.out) rfl _ 224 Tryz.underlying24 info_edge rfl (by omega) znoE (by simp only [List.length_cons, List.length_nil]; omega) (by omega) hsz9 ?_); intro vB wzB hOB hKB hCB hWB hGB))
     have gzB := hGB W1 (Nat.le_refl _) gwq.out
     have ozB := hOB
     clear hOB hKB hCB hWB hGB ho9 X9 gwq hsz9 t0 t1 t2 t3 t4 t5 t6 t7 t8 t9 t10 t11
     go_wp2_with fail
     go_roundg (gk - 1)
     case rel => exact ⟨m + 1, by omega, by go_num, by rw [st9.out], by rw [st9.out]; exact ozB, gzB⟩
     case measure => omega
   ·skip
    have st9 := hZ (hstep.out.trans (c2'.out hc))
    clear c1' c2' c3' hstep
    subst hc
    have X9 := hZ (says_edge.kept S2.out gA.keeps)
    have t0 := gA.cell e0.out
    have t1 := gA.cell e1.out
    have t2 := gA.cell e2.out
    have t3 := gA.cell e3.out
    have t4 := gA.cell e4.out
    have t5 := gA.cell e5.out
    have t6 := gA.cell e6.out
    have t7 := gA.cell e7.out
    have t8 := gA.cell e8.out
    have t9 := gA.cell e9.out
    have t10 := gA.cell e10.out
    have t11 := gA.cell e11.out
    have hsz9 := gA.size
    have ho9 := hZ oA
    have gwq := hZ gA
    clear oA gA
    go_wp2_with (first | fail | (at_builtin; (refine wpList_appK (m := [q]) rfl (.tmp 33) (.tmp 38) 24 rfl rfl says_edge ho9.out _ (cells_one says_edge X9.out) rfl _ 224 Tryz.underlying24 info_edge rfl (by omega) znoE (by simp only [List.length_cons, List.length_nil]; omega) (by omega) hsz9 ?_); intro vB wzB hOB hKB hCB hWB hGB))
    have gzB := hGB W1 (Nat.le_refl _) gwq.out
    have ozB := hOB
    clear hOB hKB hCB hWB hGB ho9 X9 gwq hsz9 t0 t1 t2 t3 t4 t5 t6 t7 t8 t9 t10 t11
    go_wp2_with fail
    go_roundg (gk - 1)
    case rel => exact ⟨m + 1, by omega, by go_num, by rw [st9.out], by rw [st9.out]; exact ozB, gzB⟩
    case measure => omega
   ·skip
    have st9 := hZ (hstep.out.trans (c3'.out hc))
    clear c1' c2' c3' hstep
    have X9 := hZ (says_edge.kept S2.out gA.keeps)
    have t0 := gA.cell e0.out
    have t1 := gA.cell e1.out
    have t2 := gA.cell e2.out
    have t3 := gA.cell e3.out
    have t4 := gA.cell e4.out
    have t5 := gA.cell e5.out
    have t6 := gA.cell e6.out
    have t7 := gA.cell e7.out
    have t8 := gA.cell e8.out
    have t9 := gA.cell e9.out
    have t10 := gA.cell e10.out
    have t11 := gA.cell e11.out
    have hsz9 := gA.size
    have ho9 := hZ oA
    have gwq := hZ gA
    clear oA gA
    go_wp2_with (first | fail | (at_builtin; (refine wpList_appK (m := [q]) rfl (.tmp 33) (.tmp 38) 24 rfl rfl says_edge ho9.out _ (cells_one says_edge X9.out) rfl _ 224 Tryz.underlying24 info_edge rfl (by omega) znoE (by simp only [List.length_cons, List.length_nil]; omega) (by omega) hsz9 ?_); intro vB wzB hOB hKB hCB hWB hGB))
    have gzB := hGB W1 (Nat.le_refl _) gwq.out
    have ozB := hOB
    clear hOB hKB hCB hWB hGB ho9 X9 gwq hsz9 t0 t1 t2 t3 t4 t5 t6 t7 t8 t9 t10 t11
    go_wp2_with fail
    go_roundg (gk - 1)
    case rel => exact ⟨m + 1, by omega, by go_num, by rw [st9.out], by rw [st9.out]; exact ozB, gzB⟩
    case measure => omega
  ·obtain rfl : m = M := by omega
   have hall : l.take m = l := by rw [← hM]; exact List.take_length
   rw [hall] at hN ⊢
   have hia := putG_fold (cf := edgeCmp) x l
   have hfl := stepG_fold_len (cf := edgeCmp) x l ([], false)
   obtain ⟨⟨a, bo⟩, hst⟩ : ∃ s, l.foldl (stepG edgeCmp x) ([], false) = s := ⟨_, rfl⟩
   rw [hst] at hN hfl ⊢
   replace hN : OwnK 12 Edge12R 37 wr W1.heap.size _ a := hN
   have hal : a.length ≤ m + 1 := by simp at hfl; omega
   have hia2 := hZ (hia a bo hst)
   clear hia hst hfl hall
   cases bo
   ·skip
    have t0 := hGr.cell p0.out
    have t1 := hGr.cell p1.out
    have t2 := hGr.cell p2.out
    have t3 := hGr.cell p3.out
    have t4 := hGr.cell p4.out
    have t5 := hGr.cell p5.out
    have t6 := hGr.cell p6.out
    have t7 := hGr.cell p7.out
    have t8 := hGr.cell p8.out
    have t9 := hGr.cell p9.out
    have t10 := hGr.cell p10.out
    have t11 := hGr.cell p11.out
    have X8 := hZ (says_edge.kept S1.out hGr.keeps)
    have hsz8 := hGr.size
    have ho8 := hZ hN
    have gwp := hZ hGr
    clear hN hGr
    go_wp2_with (first | fail | (at_builtin; (refine wpList_appK (m := [x]) rfl (.tmp 42) (.tmp 44) 24 rfl rfl says_edge ho8.out _ (cells_one says_edge X8.out) rfl _ 224 Tryz.underlying24 info_edge rfl (by omega) znoE (by simp only [List.length_cons, List.length_nil]; omega) (by omega) hsz8 ?_); intro vA wzA hOA hKA hCA hWA hGA))
    have gzA := hZ (G1.out.trans (hGA W1 (Nat.le_refl _) gwp.out))
    have hrow := hZ hOA.row
    clear hOA hKA hCA hWA hGA ho8 X8 gwp hsz8 t0 t1 t2 t3 t4 t5 t6 t7 t8 t9 t10 t11
    go_wp2_with fail
    go_ret
    exact ⟨_, rfl, by rw [hia2.out]; exact hrow.out, gzA.out⟩
   ·have gzA := hZ (G1.out.trans hGr)
    have hrow := hZ hN.row
    clear hN hGr
    go_wp2_with fail
    go_ret
    exact ⟨_, rfl, by rw [hia2.out]; exact hrow.out, gzA.out⟩
set_option maxHeartbeats 16000000 in
theorem rrow_own (v : Value) (l : List (Rat × Rat)) (k : Nat) (w : World) (hr : RowR k w v l) (hq : ∀ p ∈ l, QB p.1 k ∧ QB p.2 k) (hk : 1 ≤ k) (hs : k < 67108864) (hl : l.length ≤ 1099511627776) :
  Calls Tryz.prog 35 #[v] w fun e w' => ∃ v', e = .returned v' ∧ RowC w' v' (rowQ l) ∧ (∀ g, v'.ownBlock = some g → w.heap.size ≤ g) ∧ Grew w w' := by
 obtain ⟨A, c, rfl, h1, h2, h3⟩ := hr
 obtain ⟨L, hL⟩ : ∃ L, l.length = L := ⟨_, rfl⟩
 rw [hL] at h1 hl h3
 rw [hL]
 have hm : L ≤ 9223372036854775807 := by omega
 replace h3 := hZ h3
 replace hq := hZ hq
 go_enter Tryz.func35, Tryz.ntmps35
 go_wp2_with fail
 go_loopg [3, 4] L (fun gk ov i wr => ∃ j : Nat, gk + j = L ∧ i = .int .i64 j ∧ OwnC 35 wr w.heap.size ov (rowQ (l.take j)) ∧ Grew w wr)
 case atStart => exact ⟨0, rfl, rfl, OwnC.nil _ _ _, Grew.refl _⟩
 case round =>
  obtain ⟨j, hj, rfl, hO, hG⟩ := hrel
  obtain ⟨wo, rfl⟩ : ∃ wo : World, wo = wr := ⟨_, rfl⟩
  obtain ⟨G, rfl⟩ : ∃ G : Nat, G = gk := ⟨_, rfl⟩
  by_cases hlt : j < L
  ·obtain ⟨b, o, rfl, he⟩ := h3.out (by omega)
   obtain ⟨p, hp⟩ : ∃ p, l[j]? = some p := ⟨l[j]'(by omega), List.getElem?_eq_getElem _⟩
   have hnext := hZ (rowQ_succ l j p hp)
   have hlen := rowQ_len (l.take j)
   have hmem := hZ (fun q (h : q ∈ rowQ (l.take j)) => hq.out q (List.mem_of_mem_take (rowQ_mem h)))
   obtain ⟨b1, A1, n1, c1, C1, m1, d1, b2, A2, n2, c2, C2, m2, d2, ⟨e0, e1, e2, e3, e4, e5⟩, S1⟩ := he j p hp
   have f0 : wo.cell? ⟨b, o + j * 6, none⟩ = some (.bool b1) := hG.cell e0
   have f1 : wo.cell? ⟨b, o + j * 6 + 1, none⟩ = some (.slice A1 n1 c1) := hG.cell e1
   have f2 : wo.cell? ⟨b, o + j * 6 + 2, none⟩ = some (.slice C1 m1 d1) := hG.cell e2
   have f3 : wo.cell? ⟨b, o + j * 6 + 3, none⟩ = some (.bool b2) := hG.cell e3
   have f4 : wo.cell? ⟨b, o + j * 6 + 4, none⟩ = some (.slice A2 n2 c2) := hG.cell e4
   have f5 : wo.cell? ⟨b, o + j * 6 + 5, none⟩ = some (.slice C2 m2 d2) := hG.cell e5
   replace S1 := hZ (SpotR.kept S1 hG.keeps)
   have hrow := hO.row
   have hO' := hZ hO
   generalize rowQ (l.take j) = out at *
   obtain ⟨A9, c9, rfl, k1, k2, k3⟩ := hrow
   replace k3 := hZ k3
   have hGo := hZ hG
   have hol : out.length ≤ 1099511627776 := by simp at hlen; omega
   clear e0 e1 e2 e3 e4 e5 he hlen hO hG
   obtain ⟨M, hM⟩ : ∃ M, out.length = M := ⟨_, rfl⟩
   rw [hM] at k1 k3 hol
   rw [hM]
   go_wp2_with fail
   go_loopg [5, 6, 7] M (fun gk nv inn kk wr => ∃ m : Nat, gk + m = M ∧ kk = .int .i64 m ∧ inn = .bool ((out.take m).foldl (insStep p) ([], false)).2 ∧ OwnC 35 wr wo.heap.size nv ((out.take m).foldl (insStep p) ([], false)).1 ∧ Grew wo wr)
   case atStart => exact ⟨0, rfl, rfl, rfl, OwnC.nil _ _ _, Grew.refl _⟩
   case round =>
    obtain ⟨m, hj2, rfl, rfl, hN, hGr⟩ := hrel
    by_cases hml : m < M
    ·obtain ⟨g, o9, rfl, ke⟩ := k3.out (by omega)
     obtain ⟨q, hq9⟩ : ∃ q, out[m]? = some q := ⟨out[m]'(by omega), List.getElem?_eq_getElem _⟩
     obtain ⟨b3, A3, n3, c3, C3, m3, d3, b4, A4, n4, c4, C4, m4, d4, ⟨e0, e1, e2, e3, e4, e5⟩, S2⟩ := ke m q hq9
     replace e0 : wo.cell? ⟨g, o9 + m * 6, none⟩ = some (.bool b3) := e0
     replace e1 : wo.cell? ⟨g, o9 + m * 6 + 1, none⟩ = some (.slice A3 n3 c3) := e1
     replace e2 : wo.cell? ⟨g, o9 + m * 6 + 2, none⟩ = some (.slice C3 m3 d3) := e2
     replace e3 : wo.cell? ⟨g, o9 + m * 6 + 3, none⟩ = some (.bool b4) := e3
     replace e4 : wo.cell? ⟨g, o9 + m * 6 + 4, none⟩ = some (.slice A4 n4 c4) := e4
     replace e5 : wo.cell? ⟨g, o9 + m * 6 + 5, none⟩ = some (.slice C4 m4 d4) := e5
     have g0 : wr.cell? ⟨g, o9 + m * 6, none⟩ = some (.bool b3) := hGr.cell e0
     have g1 : wr.cell? ⟨g, o9 + m * 6 + 1, none⟩ = some (.slice A3 n3 c3) := hGr.cell e1
     have g2 : wr.cell? ⟨g, o9 + m * 6 + 2, none⟩ = some (.slice C3 m3 d3) := hGr.cell e2
     have g3 : wr.cell? ⟨g, o9 + m * 6 + 3, none⟩ = some (.bool b4) := hGr.cell e3
     have g4 : wr.cell? ⟨g, o9 + m * 6 + 4, none⟩ = some (.slice A4 n4 c4) := hGr.cell e4
     have g5 : wr.cell? ⟨g, o9 + m * 6 + 5, none⟩ = some (.slice C4 m4 d4) := hGr.cell e5
     have h0 : wr.cell? ⟨b, o + j * 6, none⟩ = some (.bool b1) := hGr.cell f0
     have h1 : wr.cell? ⟨b, o + j * 6 + 1, none⟩ = some (.slice A1 n1 c1) := hGr.cell f1
     have h2 : wr.cell? ⟨b, o + j * 6 + 2, none⟩ = some (.slice C1 m1 d1) := hGr.cell f2
     have h3 : wr.cell? ⟨b, o + j * 6 + 3, none⟩ = some (.bool b2) := hGr.cell f3
     have h4 : wr.cell? ⟨b, o + j * 6 + 4, none⟩ = some (.slice A2 n2 c2) := hGr.cell f4
     have h5 : wr.cell? ⟨b, o + j * 6 + 5, none⟩ = some (.slice C2 m2 d2) := hGr.cell f5
     have S2r := hZ (SpotC.kept S2 hGr.keeps)
     replace S2 := hZ S2
     have S3 := hZ (SpotR.kept S1.out hGr.keeps)
     have q1 := hZ (hmem.out q (List.mem_of_getElem? hq9))
     have hjl : (j : Int) < (L : Int) := by omega
     have hml2 : (m : Int) < (M : Int) := by omega
     go_wp2_with fail
     go_region_held3 (fun w' => w'.cell? ⟨b, o + j * 6, none⟩ = some (.bool b1) ∧ w'.cell? ⟨b, o + j * 6 + 1, none⟩ = some (.slice A1 n1 c1) ∧ w'.cell? ⟨b, o + j * 6 + 2, none⟩ = some (.slice C1 m1 d1) ∧ w'.cell? ⟨b, o + j * 6 + 3, none⟩ = some (.bool b2) ∧ w'.cell? ⟨b, o + j * 6 + 4, none⟩ = some (.slice A2 n2 c2) ∧ w'.cell? ⟨b, o + j * 6 + 5, none⟩ = some (.slice C2 m2 d2) ∧ w'.cell? ⟨g, o9 + m * 6, none⟩ = some (.bool b3) ∧ w'.cell? ⟨g, o9 + m * 6 + 1, none⟩ = some (.slice A3 n3 c3) ∧ w'.cell? ⟨g, o9 + m * 6 + 2, none⟩ = some (.slice C3 m3 d3) ∧ w'.cell? ⟨g, o9 + m * 6 + 3, none⟩ = some (.bool b4) ∧ w'.cell? ⟨g, o9 + m * 6 + 4, none⟩ = some (.slice A4 n4 c4) ∧ w'.cell? ⟨g, o9 + m * 6 + 5, none⟩ = some (.slice C4 m4 d4))
      (first | exact ⟨h0, h1, h2, h3, h4, h5, g0, g1, g2, g3, g4, g5⟩ | exact ⟨gc.cell h0, gc.cell h1, gc.cell h2, gc.cell h3, gc.cell h4, gc.cell h5, gc.cell g0, gc.cell g1, gc.cell g2, gc.cell g3, gc.cell g4, gc.cell g5⟩)
      (first | (go_at_call 29; refine (rscmp_any _ _ p.1 p.2 q.1 q.2 k _ (SpotR.kept S3.out ((Grew.refl wr).drew).keeps) ((SpotC.kept S2r.out ((Grew.refl wr).drew).keeps).r q1.out.1 q1.out.2) hk hs).mono ?_; rintro e wx ⟨rfl, gc⟩))
     have gA := (hGr.drew).trans gc
     have oA := OwnC.grew hN (((Grew.refl wr).drew).trans gc)
     have hfl := insStep_fold_len p (out.take m) ([], false) 1 (by simp)
     have hstep := fold_take_succ p out m q hq9 ([], false)
     obtain ⟨⟨a, bo⟩, hst⟩ : ∃ s, (out.take m).foldl (insStep p) ([], false) = s := ⟨_, rfl⟩
     rw [hst] at oA hstep hfl ⊢
     replace oA : OwnC 35 wx wo.heap.size _ a := oA
     have hal : a.length ≤ m + 1 := by simp only [List.length_take] at hfl; omega
     obtain ⟨cc, hcc⟩ : ∃ cc, spotCmp p.1 p.2 q.1 q.2 = cc := ⟨_, rfl⟩
     rw [hcc]
     have c1' := fun h : cc < 0 => insStep_lt (p := p) (q := q) a (by rw [hcc]; exact h)
     have c2' := fun h : cc = 0 => insStep_eq (p := p) (q := q) a bo (by rw [hcc]; exact h)
     have c3' := fun h : 0 < cc => insStep_gt (p := p) (q := q) a bo (by rw [hcc]; exact h)
     replace hstep := hZ hstep
     replace c1' := hZ c1'
     replace c2' := hZ c2'
     replace c3' := hZ c3'
     clear hst hN hGr gc hfl hcc h0 h1 h2 h3 h4 h5 g0 g1 g2 g3 g4 g5 S3 S2r q1 ke
     rcases Int.lt_trichotomy cc 0 with hc | hc | hc
     ·cases bo
      ·
       have st9 := hZ (hstep.out.trans (c1'.out hc))
       clear c1' c2' c3' hstep
       have t0 := gA.cell f0
       have t1 := gA.cell f1
       have t2 := gA.cell f2
       have t3 := gA.cell f3
       have t4 := gA.cell f4
       have t5 := gA.cell f5
       have SS := hZ (SpotR.kept S1.out gA.keeps)
       have og := hZ oA
       have gg := hZ gA
       clear oA gA
       go_wp2_with fail
       refine (rclean_any _ p.1 p.2 k _ SS.out hs).mono ?_
       rintro e wy ⟨V, rfl, hV, gy⟩
       obtain ⟨b7, A7, n7, c7, C7, m7, d7, b8, A8, n8, c8, C8, m8, d8, rfl, -, -, X7⟩ := hV.laid
       obtain ⟨xs, hown, hF⟩ := OwnC.grew og.out gy
       have gwy := gg.out.trans gy
       have hsz := gwy.size
       have ho := hZ hown
       replace hF := hZ hF
       replace gwy := hZ gwy
       clear hV gy t0 t1 t2 t3 t4 t5 SS og gg hown
       go_wp2_with (first | fail | (at_builtin; (refine wpList_appS1 _ rfl (.tmp 36) (.tmp 42) 41 rfl wo.heap.size 35 _ 6 112 Tryz.underlying41 info_spot rfl (by omega) zero_spot _ _ _ rfl ho.out _ rfl (one6 _ _ _ _ _ _ _ _ _ _ _ _ _ _) (noint6 _ _ _ _ _ _ _ _ _ _ _ _ _ _) rfl (by omega) (by omega) hsz ?_); intro vA wzA hown1 hG1 hK1; have gzA := hG1 wo (Nat.le_refl _) gwy.out; have ozA := OwnC.snoc (p := p) hown1 hF.out X7.out hK1; clear hown1 hG1 hK1 ho hF X7 gwy hsz; have hal2 : (a ++ [p]).length ≤ m + 2 := (by rw [List.length_append]; simp; omega); have t0 := gzA.cell e0; have t1 := gzA.cell e1; have t2 := gzA.cell e2; have t3 := gzA.cell e3; have t4 := gzA.cell e4; have t5 := gzA.cell e5; have X9 := hZ (SpotC.kept S2.out gzA.keeps); obtain ⟨xs9, hown9, hF9⟩ := id ozA; have hsz9 := gzA.size; have ho9 := hZ hown9; replace hF9 := hZ hF9; have gwq := hZ gzA; clear hown9 ozA gzA) | (at_builtin; (refine wpList_appS1 _ rfl (.tmp 46) (.tmp 51) 41 rfl wo.heap.size 35 _ 6 112 Tryz.underlying41 info_spot rfl (by omega) zero_spot _ _ _ rfl ho9.out _ rfl (one6 _ _ _ _ _ _ _ _ _ _ _ _ _ _) (noint6 _ _ _ _ _ _ _ _ _ _ _ _ _ _) rfl (by omega) (by omega) hsz9 ?_); intro vB wzB hown1 hG1 hK1))
       have gzB := hG1 wo (Nat.le_refl _) gwq.out
       have ozB := OwnC.snoc (p := q) hown1 hF9.out X9.out hK1
       clear hown1 hG1 hK1 ho9 hF9 X9 gwq hsz9 t0 t1 t2 t3 t4 t5
       go_wp2_with fail
       go_roundg (gk - 1)
       case rel => exact ⟨m + 1, by omega, by go_num, by rw [st9.out], by rw [st9.out]; exact ozB, gzB⟩
       case measure => omega
      ·
       have st9 := hZ (hstep.out.trans (insStep_in (p := p) (q := q) a))
       clear c1' c2' c3' hstep
       have t0 := gA.cell e0
       have t1 := gA.cell e1
       have t2 := gA.cell e2
       have t3 := gA.cell e3
       have t4 := gA.cell e4
       have t5 := gA.cell e5
       have X9 := hZ (SpotC.kept S2.out gA.keeps)
       obtain ⟨xs9, hown9, hF9⟩ := id oA
       have hsz9 := gA.size
       have ho9 := hZ hown9
       replace hF9 := hZ hF9
       have gwq := hZ gA
       clear hown9 oA gA
       go_wp2_with (first | fail | (at_builtin; (refine wpList_appS1 _ rfl (.tmp 46) (.tmp 51) 41 rfl wo.heap.size 35 _ 6 112 Tryz.underlying41 info_spot rfl (by omega) zero_spot _ _ _ rfl ho9.out _ rfl (one6 _ _ _ _ _ _ _ _ _ _ _ _ _ _) (noint6 _ _ _ _ _ _ _ _ _ _ _ _ _ _) rfl (by omega) (by omega) hsz9 ?_); intro vB wzB hown1 hG1 hK1))
       have gzB := hG1 wo (Nat.le_refl _) gwq.out
       have ozB := OwnC.snoc (p := q) hown1 hF9.out X9.out hK1
       clear hown1 hG1 hK1 ho9 hF9 X9 gwq hsz9 t0 t1 t2 t3 t4 t5
       go_wp2_with fail
       go_roundg (gk - 1)
       case rel => exact ⟨m + 1, by omega, by go_num, by rw [st9.out], by rw [st9.out]; exact ozB, gzB⟩
       case measure => omega
     ·
      have st9 := hZ (hstep.out.trans (c2'.out hc))
      clear c1' c2' c3' hstep
      subst hc
      have t0 := gA.cell e0
      have t1 := gA.cell e1
      have t2 := gA.cell e2
      have t3 := gA.cell e3
      have t4 := gA.cell e4
      have t5 := gA.cell e5
      have X9 := hZ (SpotC.kept S2.out gA.keeps)
      obtain ⟨xs9, hown9, hF9⟩ := id oA
      have hsz9 := gA.size
      have ho9 := hZ hown9
      replace hF9 := hZ hF9
      have gwq := hZ gA
      clear hown9 oA gA
      go_wp2_with (first | fail | (at_builtin; (refine wpList_appS1 _ rfl (.tmp 46) (.tmp 51) 41 rfl wo.heap.size 35 _ 6 112 Tryz.underlying41 info_spot rfl (by omega) zero_spot _ _ _ rfl ho9.out _ rfl (one6 _ _ _ _ _ _ _ _ _ _ _ _ _ _) (noint6 _ _ _ _ _ _ _ _ _ _ _ _ _ _) rfl (by omega) (by omega) hsz9 ?_); intro vB wzB hown1 hG1 hK1))
      have gzB := hG1 wo (Nat.le_refl _) gwq.out
      have ozB := OwnC.snoc (p := q) hown1 hF9.out X9.out hK1
      clear hown1 hG1 hK1 ho9 hF9 X9 gwq hsz9 t0 t1 t2 t3 t4 t5
      go_wp2_with fail
      go_roundg (gk - 1)
      case rel => exact ⟨m + 1, by omega, by go_num, by rw [st9.out], by rw [st9.out]; exact ozB, gzB⟩
      case measure => omega
     ·
      have st9 := hZ (hstep.out.trans (c3'.out hc))
      clear c1' c2' c3' hstep
      have t0 := gA.cell e0
      have t1 := gA.cell e1
      have t2 := gA.cell e2
      have t3 := gA.cell e3
      have t4 := gA.cell e4
      have t5 := gA.cell e5
      have X9 := hZ (SpotC.kept S2.out gA.keeps)
      obtain ⟨xs9, hown9, hF9⟩ := id oA
      have hsz9 := gA.size
      have ho9 := hZ hown9
      replace hF9 := hZ hF9
      have gwq := hZ gA
      clear hown9 oA gA
      go_wp2_with (first | fail | (at_builtin; (refine wpList_appS1 _ rfl (.tmp 46) (.tmp 51) 41 rfl wo.heap.size 35 _ 6 112 Tryz.underlying41 info_spot rfl (by omega) zero_spot _ _ _ rfl ho9.out _ rfl (one6 _ _ _ _ _ _ _ _ _ _ _ _ _ _) (noint6 _ _ _ _ _ _ _ _ _ _ _ _ _ _) rfl (by omega) (by omega) hsz9 ?_); intro vB wzB hown1 hG1 hK1))
      have gzB := hG1 wo (Nat.le_refl _) gwq.out
      have ozB := OwnC.snoc (p := q) hown1 hF9.out X9.out hK1
      clear hown1 hG1 hK1 ho9 hF9 X9 gwq hsz9 t0 t1 t2 t3 t4 t5
      go_wp2_with fail
      go_roundg (gk - 1)
      case rel => exact ⟨m + 1, by omega, by go_num, by rw [st9.out], by rw [st9.out]; exact ozB, gzB⟩
      case measure => omega
    ·obtain rfl : m = M := by omega
     have hall : out.take m = out := by rw [← hM]; exact List.take_length
     rw [hall] at hN ⊢
     have hia := insAll_fold p out
     have hfl := insStep_fold_len p out ([], false) 1 (by simp)
     obtain ⟨⟨a, bo⟩, hst⟩ : ∃ s, out.foldl (insStep p) ([], false) = s := ⟨_, rfl⟩
     rw [hst] at hN hfl ⊢
     replace hN : OwnC 35 wr wo.heap.size _ a := hN
     have hal : a.length ≤ m + 1 := by simp only [] at hfl; omega
     have hia2 := hZ (hia a bo hst)
     clear hia hst hfl hall
     cases bo
     ·
      have t0 := hGr.cell f0
      have t1 := hGr.cell f1
      have t2 := hGr.cell f2
      have t3 := hGr.cell f3
      have t4 := hGr.cell f4
      have t5 := hGr.cell f5
      have SS := hZ (SpotR.kept S1.out hGr.keeps)
      have og := hZ hN
      have gg := hZ hGr
      clear hN hGr
      go_wp2_with fail
      refine (rclean_any _ p.1 p.2 k _ SS.out hs).mono ?_
      rintro e wy ⟨V, rfl, hV, gy⟩
      obtain ⟨b7, A7, n7, c7, C7, m7, d7, b8, A8, n8, c8, C8, m8, d8, rfl, -, -, X7⟩ := hV.laid
      obtain ⟨xs, hown, hF⟩ := OwnC.grew og.out gy
      have gwy := gg.out.trans gy
      have hsz := gwy.size
      have ho := hZ hown
      replace hF := hZ hF
      replace gwy := hZ gwy
      clear hV gy t0 t1 t2 t3 t4 t5 SS og gg hown
      go_wp2_with (first | fail | (at_builtin; (refine wpList_appS1 _ rfl (.tmp 55) (.tmp 61) 41 rfl wo.heap.size 35 _ 6 112 Tryz.underlying41 info_spot rfl (by omega) zero_spot _ _ _ rfl ho.out _ rfl (one6 _ _ _ _ _ _ _ _ _ _ _ _ _ _) (noint6 _ _ _ _ _ _ _ _ _ _ _ _ _ _) rfl (by omega) (by omega) hsz ?_); intro vB wzB hown1 hG1 hK1))
      have gzB := hG1 wo (Nat.le_refl _) gwy.out
      have ozB := OwnC.snoc (p := p) hown1 hF.out X7.out hK1
      clear hown1 hG1 hK1 ho hF X7 gwy hsz
      go_wp2_with fail
      go_roundg (G - 1)
      case rel => exact ⟨j + 1, by omega, by go_num, by rw [hnext.out, hia2.out]; exact OwnC.low ozB hGo.out.size, hGo.out.trans gzB⟩
      case measure => omega
     ·
      have oo := hZ hN
      have gg := hZ hGr
      clear hN hGr
      go_wp2_with fail
      go_roundg (G - 1)
      case rel => exact ⟨j + 1, by omega, by go_num, by rw [hnext.out, hia2.out]; exact OwnC.low oo.out hGo.out.size, hGo.out.trans gg.out⟩
      case measure => omega
  ·obtain rfl : j = L := by omega
   have hall : l.take j = l := by rw [← hL]; exact List.take_length
   rw [hall] at hO
   have hrow := hZ hO.row
   have hG' := hZ hG
   obtain ⟨xs, hown, -⟩ := hO
   have hlo := hZ (fun (g : Nat) (hg : Value.ownBlock _ = some g) => (hown.1.lt g hg).1)
   clear hown hG
   go_wp2_with fail
   go_ret
   exact ⟨_, rfl, hrow.out, hlo.out, hG'.out⟩
theorem rrow_any (v : Value) (l : List (Rat × Rat)) (k : Nat) (w : World) (hr : RowR k w v l) (hq : ∀ p ∈ l, QB p.1 k ∧ QB p.2 k) (hk : 1 ≤ k) (hs : k < 67108864) (hl : l.length ≤ 1099511627776) :
  Calls Tryz.prog 35 #[v] w fun e w' => ∃ v', e = .returned v' ∧ RowC w' v' (rowQ l) ∧ Grew w w' :=
 (rrow_own v l k w hr hq hk hs hl).mono fun _ _ ⟨v', he, h1, _, h2⟩ => ⟨v', he, h1, h2⟩
end Go.Proofs.YtmommicmblfibaaGreat
