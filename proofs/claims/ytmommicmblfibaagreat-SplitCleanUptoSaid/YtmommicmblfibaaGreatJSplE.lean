/- split.Pieces. Condition: ints of 64 bits; at most 2^18 ways. r18.put: one more edge, in its place, once. Condition: what comes in reads; fewer than 2^26 words, at most 2^39 edges. r05.Row. Condition: what comes in reads; fewer than 2^26 words, at most 2^40 spots. r18.Row, r18.Ends, r18.Same. Condition: what comes in reads; fewer than 2^26 words, at most 2^39 edges. -/
import Derived.Test.YtmommicmblfibaaGreatJSplG
import Derived.Test.YtmommicmblfibaaGreatJSort1
import Derived.Test.YtmommicmblfibaaGreatJCut1
import Derived.Deep.RegionHeld3
import Derived.Deep.LoopGhost
import Derived.Test.YtmommicmblfibaaGreatJRow3
import Derived.Test.YtmommicmblfibaaGreatJR4c
namespace Go.Proofs.YtmommicmblfibaaGreat
open Go.RowKit

theorem flat_len {α β : Type} (f : α → List β) (c : Nat) (h : ∀ x, (f x).length ≤ c) : ∀ l : List α, (l.flatMap f).length ≤ l.length * c
  | [] => by simp
  | x :: l => by
    have h1 := h x
    have h2 := flat_len f c h l
    rw [List.flatMap_cons, List.length_append, List.length_cons, Nat.add_mul, Nat.one_mul]
    omega
theorem pieceOf_len (l : List SegZ) (s : SegZ) : (pieceOf l s).length ≤ 1 + 2 * l.length := by
  have h := cutsQ_len s.1.1 s.1.2 s.2.1 s.2.2 l
  unfold pieceOf
  split
  · rw [pairsN_len]; omega
  · simp
theorem cuts_qb {ax ay bx b_y : Int} {l : List SegZ} : ∀ p ∈ cutsQ ax ay bx b_y l, QB p.1 7 ∧ QB p.2 7 := by
  intro p hp
  unfold cutsQ at hp
  split at hp
  · next hf =>
    have hm : p ∈ cutAll ax ay bx b_y l := by
      split at hp
      · exact mem_rowQ.1 (List.mem_reverse.1 hp)
      · exact mem_rowQ.1 hp
    exact cutAll_qb hf p hm
  · simp at hp
theorem edgeOf_eb {p q : Rat × Rat} (hp : QB p.1 7 ∧ QB p.2 7) (hq : QB q.1 7 ∧ QB q.2 7) : EB 7 (edgeOf p q) := by
  unfold edgeOf
  split
  · exact ⟨hq, hp⟩
  · exact ⟨hp, hq⟩
theorem piece_eb {l : List SegZ} {s : SegZ} : ∀ e ∈ pieceOf l s, EB 7 e := by
  intro e he
  unfold pieceOf at he
  split at he
  · unfold pairsN at he
    obtain ⟨i, hi, rfl⟩ := List.mem_map.1 he
    rw [List.mem_range] at hi
    refine edgeOf_eb (cuts_qb (l := l) (ax := s.1.1) (ay := s.1.2) (bx := s.2.1) (b_y := s.2.2) _ ?_) (cuts_qb (l := l) (ax := s.1.1) (ay := s.1.2) (bx := s.2.1) (b_y := s.2.2) _ ?_)
    · rw [List.getD_eq_getElem?_getD, List.getElem?_eq_getElem (by omega)]; exact List.getElem_mem _
    · rw [List.getD_eq_getElem?_getD, List.getElem?_eq_getElem (by omega)]; exact List.getElem_mem _
  · simp at he
theorem pieceOf_no {l : List SegZ} {s : SegZ} (h : mayB s = false ∨ s.1 = s.2) : pieceOf l s = [] := by
  unfold pieceOf
  rw [if_neg]
  rintro ⟨h1, h2⟩
  rcases h with h | h
  · rw [h1] at h; exact absurd h (by simp)
  · exact h2 h

theorem row_kept {w w' : World} {b o M c : Nat} {C : List (Rat × Rat)} (h : RowC w (.slice (some ⟨b, o, none⟩) M c) C) (k : Keeps w w') (hc : ∀ j u, w.cell? ⟨b, j, none⟩ = some u → w'.cell? ⟨b, j, none⟩ = some u) : RowC w' (.slice (some ⟨b, o, none⟩) M c) C := by
  obtain ⟨A, d, hv, h1, h2, h3⟩ := h
  refine ⟨A, d, hv, h1, h2, fun hl => ?_⟩
  obtain ⟨b', o', hA, he⟩ := h3 hl
  refine ⟨b', o', hA, fun i p hp => (he i p hp).mono (fun V hV => SpotC.kept hV k) (fun j u _ hu => ?_)⟩
  have : b' = b := by rw [hA] at hv; injection hv with hv; injection hv with hv; injection hv with hv; exact hv.symm
  subst this
  exact hc _ _ hu
theorem row_lt {w : World} {A : Option Addr} {M c : Nat} {C : List (Rat × Rat)} (h : RowC w (.slice A M c) C) (h0 : 0 < C.length) : ∀ g, Value.ownBlock (.slice A M c) = some g → g < w.heap.size := by
  obtain ⟨A', d, hv, h1, h2, h3⟩ := h
  obtain ⟨b, o, hA, he⟩ := h3 h0
  injection hv with hv
  subst hv
  subst hA
  intro g hg
  simp only [Value.ownBlock, Option.some.injEq] at hg
  subst hg
  obtain ⟨_, _, _, _, _, _, _, _, _, _, _, _, _, _, ⟨e0, -⟩, -⟩ := he 0 _ (List.getElem?_eq_getElem h0)
  exact World.block_lt_of_cell? w _ e0

theorem store12d {w w' : World} {r : Nat} {x1 x2 x3 x4 : Bool} {A1 A2 A3 A4 C1 C2 C3 C4 : Option Addr} {n1 n2 n3 n4 c1 c2 c3 c4 m1 m2 m3 m4 d1 d2 d3 d4 : Nat} {u0 u1 u2 u3 u4 u5 u6 u7 u8 u9 u10 u11 : Value}
    (h0 : w.cell? ⟨r, 0, none⟩ = some (.bool x1)) (h1 : w.cell? ⟨r, 1, none⟩ = some (.slice A1 n1 c1)) (h2 : w.cell? ⟨r, 2, none⟩ = some (.slice C1 m1 d1))
    (h3 : w.cell? ⟨r, 3, none⟩ = some (.bool x2)) (h4 : w.cell? ⟨r, 4, none⟩ = some (.slice A2 n2 c2)) (h5 : w.cell? ⟨r, 5, none⟩ = some (.slice C2 m2 d2))
    (h6 : w.cell? ⟨r, 6, none⟩ = some (.bool x3)) (h7 : w.cell? ⟨r, 7, none⟩ = some (.slice A3 n3 c3)) (h8 : w.cell? ⟨r, 8, none⟩ = some (.slice C3 m3 d3))
    (h9 : w.cell? ⟨r, 9, none⟩ = some (.bool x4)) (h10 : w.cell? ⟨r, 10, none⟩ = some (.slice A4 n4 c4)) (h11 : w.cell? ⟨r, 11, none⟩ = some (.slice C4 m4 d4))
    (h : w' = ((((((((((((w.setCell ⟨r, 0, none⟩ u0).setCell ⟨r, 1, none⟩ u1).setCell ⟨r, 2, none⟩ u2).setCell ⟨r, 3, none⟩ u3).setCell ⟨r, 4, none⟩ u4).setCell ⟨r, 5, none⟩ u5).setCell ⟨r, 6, none⟩ u6).setCell ⟨r, 7, none⟩ u7).setCell ⟨r, 8, none⟩ u8).setCell ⟨r, 9, none⟩ u9).setCell ⟨r, 10, none⟩ u10).setCell ⟨r, 11, none⟩ u11).drew) :
    w'.cell? ⟨r, 0, none⟩ = some u0 ∧ w'.cell? ⟨r, 1, none⟩ = some u1 ∧ w'.cell? ⟨r, 2, none⟩ = some u2 ∧ w'.cell? ⟨r, 3, none⟩ = some u3 ∧ w'.cell? ⟨r, 4, none⟩ = some u4 ∧ w'.cell? ⟨r, 5, none⟩ = some u5 ∧
      w'.cell? ⟨r, 6, none⟩ = some u6 ∧ w'.cell? ⟨r, 7, none⟩ = some u7 ∧ w'.cell? ⟨r, 8, none⟩ = some u8 ∧ w'.cell? ⟨r, 9, none⟩ = some u9 ∧ w'.cell? ⟨r, 10, none⟩ = some u10 ∧ w'.cell? ⟨r, 11, none⟩ = some u11 ∧
      Keeps w w' ∧ (∀ a, a.heap.size ≤ r → Grew a w → Grew a w') ∧ (∀ x, w'.frozen? x = w.frozen? x) := by
  obtain ⟨q0, q1, q2, q3, q4, q5, q6, q7, q8, q9, q10, q11, qK, qG⟩ := store12 h0 h1 h2 h3 h4 h5 h6 h7 h8 h9 h10 h11 (u0 := u0) (u1 := u1) (u2 := u2) (u3 := u3) (u4 := u4) (u5 := u5) (u6 := u6) (u7 := u7) (u8 := u8) (u9 := u9) (u10 := u10) (u11 := u11) rfl
  subst h
  exact ⟨((Grew.refl _).drew).cell q0, ((Grew.refl _).drew).cell q1, ((Grew.refl _).drew).cell q2, ((Grew.refl _).drew).cell q3, ((Grew.refl _).drew).cell q4, ((Grew.refl _).drew).cell q5, ((Grew.refl _).drew).cell q6, ((Grew.refl _).drew).cell q7, ((Grew.refl _).drew).cell q8, ((Grew.refl _).drew).cell q9, ((Grew.refl _).drew).cell q10, ((Grew.refl _).drew).cell q11, qK.trans ((Grew.refl _).drew).keeps, fun a ha g => (qG a ha g).drew, fun x => by simp only [World.frozen?_drew, World.frozen?_setCell]⟩
set_option maxRecDepth 100000 in
set_option maxHeartbeats 16000000 in
theorem pieces_any (v : Value) (l : List SegZ) (w : World) (hl : SegsR w v l) (hn : l.length ≤ 262144) :
    Calls Tryz.prog 7 #[v] w fun e w' => ∃ v', e = .returned v' ∧ RowK 12 Edge12R w' v' (piecesQ l) ∧ Grew w w' := by
  obtain ⟨A, c, rfl, h1, h2, h3⟩ := id hl
  obtain ⟨L, hL⟩ : ∃ L, l.length = L := ⟨_, rfl⟩
  rw [hL] at h1 hn h3 hl
  rw [hL]
  have hm : L ≤ 9223372036854775807 := by omega
  replace h3 := Lib.hid h3
  replace hl := Lib.hid hl
  go_enter Tryz.func7, Tryz.ntmps7
  go_wp2_with fail
  go_loopg [3, 11] L (fun gk s3 s11 wr => ∃ j : Nat, gk + j = L ∧ s11 = .int .i64 j ∧ OwnK 12 Edge12R 37 wr w.heap.size s3 ((l.take j).flatMap (pieceOf l)) ∧ Grew w wr)
  case atStart => exact ⟨0, rfl, rfl, by rw [List.take_zero]; exact OwnK.nil _ _ _ _ _, Grew.refl _⟩
  case round =>
    obtain ⟨j, hj, rfl, hO, hG⟩ := hrel
    by_cases hlt : j < L
    · obtain ⟨b, o, rfl, he⟩ := h3.out (by omega)
      obtain ⟨t, ht⟩ : ∃ t, l[j]? = some t := ⟨l[j]'(by omega), List.getElem?_eq_getElem _⟩
      obtain ⟨⟨e0, e1, e2, e3⟩, ra, rb⟩ := he j t ht
      have hps := pieces_succ l ht
      have hfl := flat_len (pieceOf l) (1 + 2 * L) (fun s => by rw [← hL]; exact pieceOf_len l s) (l.take j)
      have hmj : (l.take j).length * (1 + 2 * L) ≤ 262144 * 524289 := Nat.mul_le_mul (by rw [List.length_take]; omega) (by omega)
      obtain ⟨⟨ax, ay⟩, bx, b_y⟩ := t
      simp only [] at e0 e1 e2 e3 ra rb
      obtain ⟨acc, hacc⟩ : ∃ acc, (l.take j).flatMap (pieceOf l) = acc := ⟨_, rfl⟩
      rw [hacc] at hps hfl hO
      obtain ⟨f, hf⟩ : ∃ f, (fitB ax ay && fitB bx b_y) = f := ⟨_, rfl⟩
      have f0 := hG.cell e0
      have f1 := hG.cell e1
      have f2 := hG.cell e2
      have f3 := hG.cell e3
      have hown := Lib.hid (fun g (hg : Value.ownBlock _ = some g) => OwnK.lt hO hg)
      have hal : acc.length ≤ 262144 * 524289 := Nat.le_trans hfl hmj
      replace ra := Lib.hid ra
      replace rb := Lib.hid rb
      replace hps := Lib.hid hps
      replace hf := Lib.hid hf
      have hjl : (j : Int) < (L : Int) := by omega
      have hO' := Lib.hid hO
      have hG' := Lib.hid hG
      clear e0 e1 e2 e3 he hO hG ht hfl hmj hacc
      go_upto_region 5 with fail
      refine gen_wp ?_
      intro W9 hW9
      have t0 : W9.cell? ⟨wr.heap.size, 0, none⟩ = some (.int .i64 ax) := by rw [hW9]; simp [go_sem]
      have t1 : W9.cell? ⟨wr.heap.size, 1, none⟩ = some (.int .i64 ay) := by rw [hW9]; simp [go_sem]
      have t2 : W9.cell? ⟨wr.heap.size, 2, none⟩ = some (.int .i64 bx) := by rw [hW9]; simp [go_sem]
      have t3 : W9.cell? ⟨wr.heap.size, 3, none⟩ = some (.int .i64 b_y) := by rw [hW9]; simp [go_sem]
      have gl : Grew wr W9 := by rw [hW9]; exact (Grew.refl _).alloc _
      have og := Lib.hid (OwnK.grew says_edge hO'.out gl)
      have gg := Lib.hid (hG'.out.trans gl)
      have zr : wr.heap.size < W9.heap.size := by rw [hW9]; simp
      clear hW9 gl hO' hG' f0 f1 f2 f3
      go_wp2_with fail
      refine (xmay_any ax ay bx b_y _).mono ?_
      rintro e wm ⟨rfl, gm⟩
      rw [hf.out]
      replace og := Lib.hid (OwnK.grew says_edge og.out gm)
      replace gg := Lib.hid (gg.out.trans gm)
      replace t0 := gm.cell t0
      replace t1 := gm.cell t1
      replace t2 := gm.cell t2
      replace t3 := gm.cell t3
      have zm := Nat.lt_of_lt_of_le zr gm.size
      clear gm zr
      cases f
      · have hps' := Lib.hid (hps.out.trans (show _ = acc by rw [pieceOf_no (s := ((ax, ay), bx, b_y)) (.inl hf.out), List.append_nil]))
        clear t0 t1 t2 t3 hps
        go_wp2_with fail
        go_roundg (gk - 1)
        case rel => exact ⟨j + 1, by omega, by go_num, by rw [hps'.out]; exact og.out, gg.out⟩
        case measure => omega
      · go_upto_region 6 with fail
        · rename ax = bx => hx9
          rename ay = b_y => hy9
          have hps' := Lib.hid (hps.out.trans (show _ = acc by rw [pieceOf_no (s := ((ax, ay), bx, b_y)) (.inr (by rw [hx9, hy9])), List.append_nil]))
          go_roundg (gk - 1)
          case rel => exact ⟨j + 1, by omega, by go_num, by rw [hps'.out]; exact og.out, gg.out⟩
          case measure => omega
        all_goals
          have hne : ¬ (ax = bx ∧ ay = b_y) := by omega
          first | (rename ax = bx => h8; rename ¬ay = b_y => h9; clear h8 h9) | (rename ¬ax = bx => h8; clear h8)
          have hpo : pieceOf l ((ax, ay), bx, b_y) = pairsN (cutsQ ax ay bx b_y l) ((cutsQ ax ay bx b_y l).length - 1) := by
            unfold pieceOf
            rw [if_pos ⟨hf.out, fun e => hne (by simpa using e)⟩]
          have hps' := Lib.hid (hps.out.trans (show _ = acc ++ pairsN (cutsQ ax ay bx b_y l) ((cutsQ ax ay bx b_y l).length - 1) by rw [hpo]))
          have hcl : (closeQ ax ay bx b_y l).length ≤ 1048576 := Nat.le_trans (List.length_filter_le _ _) (by omega)
          have hCl := cutsQ_len ax ay bx b_y l
          replace hcl := Lib.hid hcl
          replace t0 := Lib.hid t0
          replace t1 := Lib.hid t1
          replace t2 := Lib.hid t2
          replace t3 := Lib.hid t3
          clear hpo hps hne
          refine wp_region_held_drew (S := fun wv => Grew wm wv) (by kernel_rfl) ((Grew.refl wm).drew) (fun hHeld => ?_)
          replace hHeld := Lib.hid hHeld
          try simp only [Act.put, List.setIfInBounds_toArray, List.set_cons_zero, List.set_cons_succ]
          refine wpAnyH_takeD (i := 0) (d := 25) (v := ?_) rfl rfl (by kernel_rfl) (by kernel_rfl) (by kernel_rfl) (fun _ _ _ h => h) (Or.inl ⟨by rfl, ?_⟩) hHeld.out ?_
          rotate_left
          · intro wv hSw
            replace hSw : Hid (Grew wm wv) := Lib.hid hSw
            have r0 := hSw.out.cell t0.out
            have r1 := hSw.out.cell t1.out
            have r2 := hSw.out.cell t2.out
            have r3 := hSw.out.cell t3.out
            go_simp
            try with_reducible rfl
          try simp only [Act.put, List.setIfInBounds_toArray, List.set_cons_zero, List.set_cons_succ]
          refine wpAnyH_takeD (i := 1) (d := 26) (v := ?_) rfl rfl (by kernel_rfl) (by kernel_rfl) (by kernel_rfl) (fun _ _ _ h => h) (Or.inl ⟨by rfl, ?_⟩) hHeld.out ?_
          rotate_left
          · intro wv hSw
            replace hSw : Hid (Grew wm wv) := Lib.hid hSw
            have r0 := hSw.out.cell t0.out
            have r1 := hSw.out.cell t1.out
            have r2 := hSw.out.cell t2.out
            have r3 := hSw.out.cell t3.out
            go_simp
            try with_reducible rfl
          try simp only [Act.put, List.setIfInBounds_toArray, List.set_cons_zero, List.set_cons_succ]
          refine wpAnyH_takeD (i := 2) (d := 27) (v := ?_) rfl rfl (by kernel_rfl) (by kernel_rfl) (by kernel_rfl) (fun _ _ _ h => h) (Or.inl ⟨by rfl, ?_⟩) hHeld.out ?_
          rotate_left
          · intro wv hSw
            replace hSw : Hid (Grew wm wv) := Lib.hid hSw
            go_simp
            try with_reducible rfl
          try simp only [Act.put, List.setIfInBounds_toArray, List.set_cons_zero, List.set_cons_succ]
          refine wpAnyH_ready (rs := [3]) (by kernel_rfl) (by simp) ?_
          refine AllReadyH.cons rfl (fun KK hKK => ?_) AllReadyH.nil
          go_simp
          refine (close_any ax ay bx b_y _ l _ (hl.out.grew (gg.out.trans hHeld.out)) (by omega)).mono ?_
          rintro e wk1 ⟨V1, rfl, hV1, g⟩
          have gk := hHeld.out.trans g
          replace hV1 := Lib.hid hV1
          clear hHeld
          try dsimp only
          refine hKK.out _ _ gk (fun hHeld => ?_)
          clear gk hKK KK
          replace hHeld := Lib.hid (show Grew wm wk1 from hHeld)
          try simp only [Act.put, List.setIfInBounds_toArray, List.set_cons_zero, List.set_cons_succ]
          refine wpAnyH_ready (rs := [4]) (by kernel_rfl) (by simp) ?_
          refine AllReadyH.cons rfl (fun KK hKK => ?_) AllReadyH.nil
          go_simp
          refine (cuts_fresh ax ay bx b_y _ (closeQ ax ay bx b_y l) _ ra.out rb.out hV1.out hcl.out).mono ?_
          rintro e wk2 ⟨V2, rfl, hV2, hF2, g⟩
          have gk := hHeld.out.trans g
          rw [cutsQ_close] at hV2
          have zk := Nat.lt_of_lt_of_le zm hHeld.out.size
          replace hF2 := Lib.hid hF2
          replace hV2 := Lib.hid hV2
          clear hV1
          clear hHeld
          try dsimp only
          refine hKK.out _ _ gk (fun hHeld => ?_)
          clear gk hKK KK
          replace hHeld := Lib.hid (show Grew wm wk2 from hHeld)
          try simp only [Act.put, List.setIfInBounds_toArray, List.set_cons_zero, List.set_cons_succ]
          refine wpAnyH_takeD (i := 5) (d := 6) (v := ?_) rfl rfl (by kernel_rfl) (by kernel_rfl) (by kernel_rfl) (fun _ _ _ h => h) (Or.inl ⟨by rfl, ?_⟩) hHeld.out ?_
          rotate_left
          · intro wv hSw
            replace hSw : Hid (Grew wm wv) := Lib.hid hSw
            go_simp
            try with_reducible rfl
          try simp only [Act.put, List.setIfInBounds_toArray, List.set_cons_zero, List.set_cons_succ]
          refine wpAnyH_done (by kernel_rfl) ?_ _
          have og2 := OwnK.grew says_edge og.out hHeld.out
          have gg2 := gg.out.trans hHeld.out
          obtain ⟨C, hC⟩ : ∃ C, cutsQ ax ay bx b_y l = C := ⟨_, rfl⟩
          have hCq := Lib.hid (fun p (hp : p ∈ C) => cuts_qb (ax := ax) (ay := ay) (bx := bx) (b_y := b_y) (l := l) p (by rw [hC]; exact hp))
          rw [hC] at hV2 hps' hCl
          obtain ⟨M, hM⟩ : ∃ M, C.length = M := ⟨_, rfl⟩
          obtain ⟨AA, cc, rfl, y1, y2, -⟩ := id hV2.out
          rw [hM] at y1 hCl hV2 hps' hF2
          rw [hM]
          replace og2 := Lib.hid og2
          replace gg2 := Lib.hid gg2
          have hne0 := Lib.hid (fun (g : Nat) (h : Value.ownBlock _ = some g) (h2 : Value.ownBlock (.slice AA M cc) = some g) => Nat.lt_irrefl g (Nat.lt_of_lt_of_le (Nat.lt_of_lt_of_le (hown.out g h) (Nat.le_of_lt zk)) (hF2.out g h2)))
          obtain ⟨G, rfl⟩ : ∃ G : Nat, G = gk := ⟨_, rfl⟩
          clear og gg t0 t1 t2 t3 hHeld hF2 hC hown zm zk
          go_wp2_with fail
          go_loopg [3, 7] M (fun gk s3 s7 wr => ∃ n i : Nat, gk + n = M ∧ n + 1 = i ∧ s7 = .int .i64 i ∧ n ≤ M - 1 ∧ OwnK 12 Edge12R 37 wr w.heap.size s3 (acc ++ pairsN C n) ∧ RowC wr (.slice AA M cc) C ∧ (∀ g, s3.ownBlock = some g → Value.ownBlock (.slice AA M cc) = some g → False) ∧ Grew w wr)
          case atStart => exact ⟨0, 1, rfl, rfl, rfl, by omega, by rw [pairsN_zero, List.append_nil]; exact og2.out, hV2.out, hne0.out, gg2.out⟩
          case round =>
            obtain ⟨n, i, hgn, hni, rfl, hnM, hO, hV, hnb, hG⟩ := hrel
            clear og2 hV2 hne0 gg2
            by_cases hi : i < M
            · obtain ⟨A8, c8, e8, -, -, z3⟩ := id hV
              obtain ⟨bb, oo, e7, ke⟩ := z3 (by omega)
              obtain rfl : AA = some ⟨bb, oo, none⟩ := by rw [← e7]; injection e8
              clear e8 z3 e7
              obtain ⟨p, hp⟩ : ∃ p, C[n]? = some p := ⟨C[n]'(by omega), List.getElem?_eq_getElem _⟩
              obtain ⟨q, hq⟩ : ∃ q, C[n + 1]? = some q := ⟨C[n + 1]'(by omega), List.getElem?_eq_getElem _⟩
              obtain ⟨b1, A1, n1, c1, C1, m1, d1, b2, A2, n2, c2, C2, m2, d2, ⟨e0, e1, e2, e3, e4, e5⟩, S1⟩ := ke n p hp
              obtain ⟨b3, A3, n3, c3, C3, m3, d3, b4, A4, n4, c4, C4, m4, d4, ⟨f0, f1, f2, f3, f4, f5⟩, S2⟩ := ke (n + 1) q hq
              rw [hni] at f0 f1 f2 f3 f4 f5
              have g0 : wr.cell? ⟨bb, oo + n * 6, none⟩ = some (.bool b1) := e0
              have g1 : wr.cell? ⟨bb, oo + n * 6 + 1, none⟩ = some (.slice A1 n1 c1) := e1
              have g2 : wr.cell? ⟨bb, oo + n * 6 + 2, none⟩ = some (.slice C1 m1 d1) := e2
              have g3 : wr.cell? ⟨bb, oo + n * 6 + 3, none⟩ = some (.bool b2) := e3
              have g4 : wr.cell? ⟨bb, oo + n * 6 + 4, none⟩ = some (.slice A2 n2 c2) := e4
              have g5 : wr.cell? ⟨bb, oo + n * 6 + 5, none⟩ = some (.slice C2 m2 d2) := e5
              have h0 : wr.cell? ⟨bb, oo + i * 6, none⟩ = some (.bool b3) := f0
              have h1 : wr.cell? ⟨bb, oo + i * 6 + 1, none⟩ = some (.slice A3 n3 c3) := f1
              have h2 : wr.cell? ⟨bb, oo + i * 6 + 2, none⟩ = some (.slice C3 m3 d3) := f2
              have h3 : wr.cell? ⟨bb, oo + i * 6 + 3, none⟩ = some (.bool b4) := f3
              have h4 : wr.cell? ⟨bb, oo + i * 6 + 4, none⟩ = some (.slice A4 n4 c4) := f4
              have h5 : wr.cell? ⟨bb, oo + i * 6 + 5, none⟩ = some (.slice C4 m4 d4) := f5
              have hpq := Lib.hid (hCq.out p (List.mem_of_getElem? hp))
              have hqq := Lib.hid (hCq.out q (List.mem_of_getElem? hq))
              have hpl := pairsN_len C n
              have hal2 : (acc ++ pairsN C n).length ≤ 262144 * 524289 + M := by rw [List.length_append]; omega
              have hwi : IntKind.i64.wrap ((i : Int) - 1) = (n : Int) := by rw [IntWalk.i64_in _ (by omega)]; omega
              have hnl : (n : Int) < (M : Int) := by omega
              have hil : (i : Int) < (M : Int) := by omega
              have hpC := Lib.hid hp
              have hqC := Lib.hid hq
              have hbb := Lib.hid (row_lt hV (by omega))
              have S1' := Lib.hid S1
              have S2' := Lib.hid S2
              replace hO := Lib.hid hO
              replace hV := Lib.hid hV
              replace hnb := Lib.hid hnb
              replace hG := Lib.hid hG
              replace hni := Lib.hid hni
              clear ke hp hq S1 S2 e0 e1 e2 e3 e4 e5 f0 f1 f2 f3 f4 f5
              obtain ⟨WA, hWA⟩ : ∃ WA, wr.alloc (.cells #[.bool false, .slice none 0 0, .slice none 0 0, .bool false, .slice none 0 0, .slice none 0 0, .bool false, .slice none 0 0, .slice none 0 0, .bool false, .slice none 0 0, .slice none 0 0] 37) = WA := ⟨_, rfl⟩
              have gl : Grew wr WA := by rw [← hWA]; exact (Grew.refl _).alloc _
              have k0 := gl.cell g0
              have k1 := gl.cell g1
              have k2 := gl.cell g2
              have k3 := gl.cell g3
              have k4 := gl.cell g4
              have k5 := gl.cell g5
              have k6 := gl.cell h0
              have k7 := gl.cell h1
              have k8 := gl.cell h2
              have k9 := gl.cell h3
              have k10 := gl.cell h4
              have k11 := gl.cell h5
              have u0 : WA.cell? ⟨wr.heap.size, 0, none⟩ = some (.bool false) := by rw [← hWA]; simp [go_sem]
              have v0 : WA.frozen? ⟨wr.heap.size, 0, none⟩ = false := by rw [← hWA]; simp [go_sem]
              have u1 : WA.cell? ⟨wr.heap.size, 1, none⟩ = some (.slice none 0 0) := by rw [← hWA]; simp [go_sem]
              have v1 : WA.frozen? ⟨wr.heap.size, 1, none⟩ = false := by rw [← hWA]; simp [go_sem]
              have u2 : WA.cell? ⟨wr.heap.size, 2, none⟩ = some (.slice none 0 0) := by rw [← hWA]; simp [go_sem]
              have v2 : WA.frozen? ⟨wr.heap.size, 2, none⟩ = false := by rw [← hWA]; simp [go_sem]
              have u3 : WA.cell? ⟨wr.heap.size, 3, none⟩ = some (.bool false) := by rw [← hWA]; simp [go_sem]
              have v3 : WA.frozen? ⟨wr.heap.size, 3, none⟩ = false := by rw [← hWA]; simp [go_sem]
              have u4 : WA.cell? ⟨wr.heap.size, 4, none⟩ = some (.slice none 0 0) := by rw [← hWA]; simp [go_sem]
              have v4 : WA.frozen? ⟨wr.heap.size, 4, none⟩ = false := by rw [← hWA]; simp [go_sem]
              have u5 : WA.cell? ⟨wr.heap.size, 5, none⟩ = some (.slice none 0 0) := by rw [← hWA]; simp [go_sem]
              have v5 : WA.frozen? ⟨wr.heap.size, 5, none⟩ = false := by rw [← hWA]; simp [go_sem]
              have u6 : WA.cell? ⟨wr.heap.size, 6, none⟩ = some (.bool false) := by rw [← hWA]; simp [go_sem]
              have v6 : WA.frozen? ⟨wr.heap.size, 6, none⟩ = false := by rw [← hWA]; simp [go_sem]
              have u7 : WA.cell? ⟨wr.heap.size, 7, none⟩ = some (.slice none 0 0) := by rw [← hWA]; simp [go_sem]
              have v7 : WA.frozen? ⟨wr.heap.size, 7, none⟩ = false := by rw [← hWA]; simp [go_sem]
              have u8 : WA.cell? ⟨wr.heap.size, 8, none⟩ = some (.slice none 0 0) := by rw [← hWA]; simp [go_sem]
              have v8 : WA.frozen? ⟨wr.heap.size, 8, none⟩ = false := by rw [← hWA]; simp [go_sem]
              have u9 : WA.cell? ⟨wr.heap.size, 9, none⟩ = some (.bool false) := by rw [← hWA]; simp [go_sem]
              have v9 : WA.frozen? ⟨wr.heap.size, 9, none⟩ = false := by rw [← hWA]; simp [go_sem]
              have u10 : WA.cell? ⟨wr.heap.size, 10, none⟩ = some (.slice none 0 0) := by rw [← hWA]; simp [go_sem]
              have v10 : WA.frozen? ⟨wr.heap.size, 10, none⟩ = false := by rw [← hWA]; simp [go_sem]
              have u11 : WA.cell? ⟨wr.heap.size, 11, none⟩ = some (.slice none 0 0) := by rw [← hWA]; simp [go_sem]
              have v11 : WA.frozen? ⟨wr.heap.size, 11, none⟩ = false := by rw [← hWA]; simp [go_sem]
              go_upto_region 10 with fail
              go_region
              refine gen_then ?_
              intro W10 hW10
              obtain ⟨q0, q1, q2, q3, q4, q5, q6, q7, q8, q9, q10, q11, qK, qG, qF⟩ := store12d u0 u1 u2 u3 u4 u5 u6 u7 u8 u9 u10 u11 hW10
              have g10 := qG wr (Nat.le_refl _) gl
              clear qK qG hW10 u0 u1 u2 u3 u4 u5 u6 u7 u8 u9 u10 u11 k0 k1 k2 k3 k4 k5 k6 k7 k8 k9 k10 k11 hWA gl g0 g1 g2 g3 g4 g5 h0 h1 h2 h3 h4 h5
              replace g10 := Lib.hid g10
              go_wp2_with fail
              refine (scmp_any _ _ p.1 p.2 q.1 q.2 7 _ (SpotC.v (SpotC.kept S1'.out g10.out.keeps) hpq.out.1 hpq.out.2) (SpotC.v (SpotC.kept S2'.out g10.out.keeps) hqq.out.1 hqq.out.2) (by omega) (by omega)).mono ?_
              rintro e w11 ⟨rfl, g11⟩
              obtain ⟨-, hfz⟩ := g11.olds
              have zlt := World.block_lt_of_cell? W10 _ q0
              replace v0 := (hfz _ 0 zlt).trans ((qF _).trans v0)
              replace v1 := (hfz _ 1 zlt).trans ((qF _).trans v1)
              replace v2 := (hfz _ 2 zlt).trans ((qF _).trans v2)
              replace v3 := (hfz _ 3 zlt).trans ((qF _).trans v3)
              replace v4 := (hfz _ 4 zlt).trans ((qF _).trans v4)
              replace v5 := (hfz _ 5 zlt).trans ((qF _).trans v5)
              replace v6 := (hfz _ 6 zlt).trans ((qF _).trans v6)
              replace v7 := (hfz _ 7 zlt).trans ((qF _).trans v7)
              replace v8 := (hfz _ 8 zlt).trans ((qF _).trans v8)
              replace v9 := (hfz _ 9 zlt).trans ((qF _).trans v9)
              replace v10 := (hfz _ 10 zlt).trans ((qF _).trans v10)
              replace v11 := (hfz _ 11 zlt).trans ((qF _).trans v11)
              clear hfz zlt qF
              replace q0 := g11.cell q0
              replace q1 := g11.cell q1
              replace q2 := g11.cell q2
              replace q3 := g11.cell q3
              replace q4 := g11.cell q4
              replace q5 := g11.cell q5
              replace q6 := g11.cell q6
              replace q7 := g11.cell q7
              replace q8 := g11.cell q8
              replace q9 := g11.cell q9
              replace q10 := g11.cell q10
              replace q11 := g11.cell q11
              have g12 := Lib.hid (g10.out.trans g11)
              clear g10 g11
              by_cases hc : 0 < spotCmp p.1 p.2 q.1 q.2
              · have hed := Lib.hid (show edgeOf p q = (q, p) from if_pos hc)
                go_upto_region 13 with fail
                refine gen_wp ?_
                intro W12 hW12
                obtain ⟨p0, p1, p2, p3, p4, p5, p6, p7, p8, p9, p10, p11, pK, pG⟩ := store12 q0 q1 q2 q3 q4 q5 q6 q7 q8 q9 q10 q11 hW12
                have gZ := pG wr (Nat.le_refl _) g12.out
                have XE := Lib.hid (show Edge12R W12 #[.bool b3, .slice A3 n3 c3, .slice C3 m3 d3, .bool b4, .slice A4 n4 c4, .slice C4 m4 d4, .bool b1, .slice A1 n1 c1, .slice C1 m1 d1, .bool b2, .slice A2 n2 c2, .slice C2 m2 d2] (edgeOf p q) from by rw [hed.out]; exact edge_mk (e := (q, p)) (SpotC.kept S2'.out gZ.keeps) (SpotC.kept S1'.out gZ.keeps))
                clear pK pG hW12 g12 hed hc q0 q1 q2 q3 q4 q5 q6 q7 q8 q9 q10 q11 v0 v1 v2 v3 v4 v5 v6 v7 v8 v9 v10 v11
                have oA := Lib.hid (OwnK.grew says_edge hO.out gZ)
                have hVA := Lib.hid (hV.out.grew gZ)
                have gA := Lib.hid (hG.out.trans gZ)
                have hszA := gA.out.size
                have hbB := Lib.hid (fun g (hg : Value.ownBlock (.slice (some ⟨bb, oo, none⟩) M cc) = some g) => Nat.lt_of_lt_of_le (hbb.out g hg) gZ.size)
                have hnA := hnb
                clear hO hV hG hnb hbb gZ S1' S2'
                go_wp2_with (first | fail | (at_builtin; (refine wpList_appK (m := [edgeOf p q]) rfl (.tmp 57) (.tmp 59) 24 rfl rfl says_edge oA.out _ (cells_one says_edge XE.out) rfl _ 224 Tryz.underlying24 info_edge rfl (by omega) znoE (by simp only [List.length_cons, List.length_nil]; omega) (by omega) hszA ?_); intro vB wzB hOB hKB hCB hWB hGB))
                have gzB := Lib.hid (hGB w (Nat.le_refl _) gA.out)
                have ozB := Lib.hid (show OwnK 12 Edge12R 37 wzB w.heap.size vB (acc ++ pairsN C (n + 1)) from by rw [pairsN_succ hpC.out hqC.out, ← List.append_assoc]; exact hOB)
                have hneB := Lib.hid (fun (g : Nat) (hg : vB.ownBlock = some g) (hv : Value.ownBlock (.slice (some ⟨bb, oo, none⟩) M cc) = some g) => (hWB g hg).elim (fun h => hnA.out g h hv) (fun h => Nat.lt_irrefl _ (Nat.lt_of_lt_of_le (hbB.out g hv) h)))
                have hVB := Lib.hid (row_kept (w' := wzB) hVA.out hKB (fun j u hu => hCB bb j u (fun h => hnA.out bb h rfl) hu))
                clear hOB hKB hCB hWB hGB oA XE gA hszA hVA hnA hbB
                go_wp2_with fail
                go_roundg (gk - 1)
                case rel => exact ⟨n + 1, i + 1, by have := hni.out; omega, by have := hni.out; omega, by go_num, by have := hni.out; omega, ozB.out, hVB.out, hneB.out, gzB.out⟩
                case measure => have := hni.out; omega
              · have hed := Lib.hid (show edgeOf p q = (p, q) from if_neg hc)
                go_upto_region 13 with fail
                have gZ := g12.out
                have XE := Lib.hid (show Edge12R w11 #[.bool b1, .slice A1 n1 c1, .slice C1 m1 d1, .bool b2, .slice A2 n2 c2, .slice C2 m2 d2, .bool b3, .slice A3 n3 c3, .slice C3 m3 d3, .bool b4, .slice A4 n4 c4, .slice C4 m4 d4] (edgeOf p q) from by rw [hed.out]; exact edge_mk (e := (p, q)) (SpotC.kept S1'.out gZ.keeps) (SpotC.kept S2'.out gZ.keeps))
                clear g12 hed hc v0 v1 v2 v3 v4 v5 v6 v7 v8 v9 v10 v11
                have oA := Lib.hid (OwnK.grew says_edge hO.out gZ)
                have hVA := Lib.hid (hV.out.grew gZ)
                have gA := Lib.hid (hG.out.trans gZ)
                have hszA := gA.out.size
                have hbB := Lib.hid (fun g (hg : Value.ownBlock (.slice (some ⟨bb, oo, none⟩) M cc) = some g) => Nat.lt_of_lt_of_le (hbb.out g hg) gZ.size)
                have hnA := hnb
                clear hO hV hG hnb hbb gZ S1' S2'
                go_wp2_with (first | fail | (at_builtin; (refine wpList_appK (m := [edgeOf p q]) rfl (.tmp 57) (.tmp 59) 24 rfl rfl says_edge oA.out _ (cells_one says_edge XE.out) rfl _ 224 Tryz.underlying24 info_edge rfl (by omega) znoE (by simp only [List.length_cons, List.length_nil]; omega) (by omega) hszA ?_); intro vB wzB hOB hKB hCB hWB hGB))
                have gzB := Lib.hid (hGB w (Nat.le_refl _) gA.out)
                have ozB := Lib.hid (show OwnK 12 Edge12R 37 wzB w.heap.size vB (acc ++ pairsN C (n + 1)) from by rw [pairsN_succ hpC.out hqC.out, ← List.append_assoc]; exact hOB)
                have hneB := Lib.hid (fun (g : Nat) (hg : vB.ownBlock = some g) (hv : Value.ownBlock (.slice (some ⟨bb, oo, none⟩) M cc) = some g) => (hWB g hg).elim (fun h => hnA.out g h hv) (fun h => Nat.lt_irrefl _ (Nat.lt_of_lt_of_le (hbB.out g hv) h)))
                have hVB := Lib.hid (row_kept (w' := wzB) hVA.out hKB (fun j u hu => hCB bb j u (fun h => hnA.out bb h rfl) hu))
                clear hOB hKB hCB hWB hGB oA XE gA hszA hVA hnA hbB
                go_wp2_with fail
                go_roundg (gk - 1)
                case rel => exact ⟨n + 1, i + 1, by have := hni.out; omega, by have := hni.out; omega, by go_num, by have := hni.out; omega, ozB.out, hVB.out, hneB.out, gzB.out⟩
                case measure => have := hni.out; omega
            · have hnn : n = M - 1 := by omega
              subst hnn
              have hO' := Lib.hid hO
              have hG' := Lib.hid hG
              clear hO hV hnb hG
              go_wp2_with fail
              go_roundg (G - 1)
              case rel => exact ⟨j + 1, by omega, by go_num, by rw [hps'.out]; exact hO'.out, hG'.out⟩
              case measure => omega
    · obtain rfl : j = L := by omega
      have hall : l.take j = l := by rw [← hL]; exact List.take_length
      rw [hall] at hO
      have hfl := flat_len (pieceOf l) (1 + 2 * j) (fun s => by rw [← hL]; exact pieceOf_len l s) l
      have hmj : l.length * (1 + 2 * j) ≤ 262144 * 524289 := Nat.mul_le_mul (by omega) (by omega)
      have hO' := Lib.hid hO
      have hG' := Lib.hid hG
      clear hO hG
      go_wp2_with fail
      refine (erow_any w.heap.size _ (l.flatMap (pieceOf l)) 7 _ hO'.out (fun e he => by
        obtain ⟨s, -, hs⟩ := List.mem_flatMap.1 he
        exact piece_eb e hs) (by omega) (by omega) (by omega)).mono ?_
      rintro e w2 ⟨V2, rfl, hO2, hG2⟩
      have hg := Lib.hid (hG2 w (Nat.le_refl _) hG'.out)
      have hrow := Lib.hid hO2.row
      clear hO2 hG2 hG' hO' hfl hmj
      go_wp2_with fail
      go_ret
      exact ⟨_, rfl, hrow.out, hg.out⟩
end Go.Proofs.YtmommicmblfibaaGreat
namespace Go.Proofs.YtmommicmblfibaaGreat
open Go.RowKit

/-- The cells of a reduced edge, written out. -/
theorem cellsC {w : World} {c : Nat → Option Value} {x : EdgeQ} (h : CellsR 12 Edge12R w c x) :
    ∃ b1 A1 n1 c1 C1 m1 d1 b2 A2 n2 c2 C2 m2 d2 b3 A3 n3 c3 C3 m3 d3 b4 A4 n4 c4 C4 m4 d4, (c 0 = some (.bool b1) ∧ c 1 = some (.slice A1 n1 c1) ∧ c 2 = some (.slice C1 m1 d1) ∧ c 3 = some (.bool b2) ∧ c 4 = some (.slice A2 n2 c2) ∧ c 5 = some (.slice C2 m2 d2) ∧ c 6 = some (.bool b3) ∧ c 7 = some (.slice A3 n3 c3) ∧ c 8 = some (.slice C3 m3 d3) ∧ c 9 = some (.bool b4) ∧ c 10 = some (.slice A4 n4 c4) ∧ c 11 = some (.slice C4 m4 d4)) ∧ Hid (Edge12R w #[.bool b1, .slice A1 n1 c1, .slice C1 m1 d1, .bool b2, .slice A2 n2 c2, .slice C2 m2 d2, .bool b3, .slice A3 n3 c3, .slice C3 m3 d3, .bool b4, .slice A4 n4 c4, .slice C4 m4 d4] x) := by
  obtain ⟨us, h1, h2⟩ := h
  have h3 := h2
  obtain ⟨us1, us2, rfl, h4, h5⟩ := h3
  obtain ⟨b1, A1, n1, c1, C1, m1, d1, b2, A2, n2, c2, C2, m2, d2, e, -, -⟩ := h4
  injection e with e
  subst e
  obtain ⟨b3, A3, n3, c3, C3, m3, d3, b4, A4, n4, c4, C4, m4, d4, e, -, -⟩ := h5
  injection e with e
  subst e
  exact ⟨b1, A1, n1, c1, C1, m1, d1, b2, A2, n2, c2, C2, m2, d2, b3, A3, n3, c3, C3, m3, d3, b4, A4, n4, c4, C4, m4, d4, ⟨h1 0 (by omega), h1 1 (by omega), h1 2 (by omega), h1 3 (by omega), h1 4 (by omega), h1 5 (by omega), h1 6 (by omega), h1 7 (by omega), h1 8 (by omega), h1 9 (by omega), h1 10 (by omega), h1 11 (by omega)⟩, h2⟩

end Go.Proofs.YtmommicmblfibaaGreat
namespace Go.Proofs.YtmommicmblfibaaGreat
open Go.RowKit

end Go.Proofs.YtmommicmblfibaaGreat
namespace Go.Proofs.YtmommicmblfibaaGreat
open Go.RowKit

theorem edge_parts {w : World} {b1 b2 b3 b4 : Bool} {A1 A2 A3 A4 C1 C2 C3 C4 : Option Addr} {n1 n2 n3 n4 c1 c2 c3 c4 m1 m2 m3 m4 d1 d2 d3 d4 : Nat} {x : EdgeQ} (h : Edge12R w #[.bool b1, .slice A1 n1 c1, .slice C1 m1 d1, .bool b2, .slice A2 n2 c2, .slice C2 m2 d2, .bool b3, .slice A3 n3 c3, .slice C3 m3 d3, .bool b4, .slice A4 n4 c4, .slice C4 m4 d4] x) :
    Hid (SpotC w (.agg #[.bool b1, .slice A1 n1 c1, .slice C1 m1 d1, .bool b2, .slice A2 n2 c2, .slice C2 m2 d2]) x.1.1 x.1.2) ∧ Hid (SpotC w (.agg #[.bool b3, .slice A3 n3 c3, .slice C3 m3 d3, .bool b4, .slice A4 n4 c4, .slice C4 m4 d4]) x.2.1 x.2.2) := by
  obtain ⟨us1, us2, e, h1, h2⟩ := h
  have k1 := h1
  have k2 := h2
  obtain ⟨b5, A5, n5, c5, C5, m5, d5, b6, A6, n6, c6, C6, m6, d6, e1, -, -⟩ := k1
  obtain ⟨b7, A7, n7, c7, C7, m7, d7, b8, A8, n8, c8, C8, m8, d8, e2, -, -⟩ := k2
  injection e1 with e1
  injection e2 with e2
  subst e1
  subst e2
  injection e with e
  simp only [] at e
  obtain ⟨rfl, ⟨rfl, rfl, rfl⟩, ⟨rfl, rfl, rfl⟩, rfl, ⟨rfl, rfl, rfl⟩, ⟨rfl, rfl, rfl⟩, rfl, ⟨rfl, rfl, rfl⟩, ⟨rfl, rfl, rfl⟩, rfl, ⟨rfl, rfl, rfl⟩, rfl, rfl, rfl⟩ := e
  exact ⟨h1, h2⟩

set_option maxRecDepth 100000 in
set_option maxHeartbeats 16000000 in
theorem esame_yes (v v' : Value) (l : List EdgeQ) (w : World) (ha : RowK 12 Edge12R w v l) (hb : RowK 12 Edge12R w v' l) :
    Calls Tryz.prog 6 #[v, v'] w fun e w' => e = .returned (.bool true) ∧ Grew w w' := by
  obtain ⟨A, c, rfl, x1, x2, x3⟩ := ha
  obtain ⟨A', c', rfl, k1, k2, k3⟩ := hb
  obtain ⟨L, hL⟩ : ∃ L, l.length = L := ⟨_, rfl⟩
  rw [hL] at x1 x3 k1 k3 ⊢
  have hm : L ≤ 9223372036854775807 := by omega
  replace x3 := Lib.hid x3
  replace k3 := Lib.hid k3
  go_enter Tryz.func6, Tryz.ntmps6
  go_wp2_with fail
  go_loopg [5] L (fun gk i wr => ∃ j : Nat, gk + j = L ∧ i = .int .i64 j ∧ Grew w wr)
  case atStart => exact ⟨0, rfl, rfl, Grew.refl _⟩
  case round =>
    obtain ⟨j, hj, rfl, hG⟩ := hrel
    by_cases hlt : j < L
    · obtain ⟨b, o, rfl, he⟩ := x3.out (by omega)
      obtain ⟨b9, o9, rfl, ke⟩ := k3.out (by omega)
      obtain ⟨x, hx⟩ : ∃ x, l[j]? = some x := ⟨l[j]'(by omega), List.getElem?_eq_getElem _⟩
      obtain ⟨b1, A1, n1, c1, C1, m1, d1, b2, A2, n2, c2, C2, m2, d2, b3, A3, n3, c3, C3, m3, d3, b4, A4, n4, c4, C4, m4, d4, ⟨e0, e1, e2, e3, e4, e5, e6, e7, e8, e9, e10, e11⟩, S1⟩ := cellsC (he j x hx)
      obtain ⟨b5, A5, n5, c5, C5, m5, d5, b6, A6, n6, c6, C6, m6, d6, b7, A7, n7, c7, C7, m7, d7, b8, A8, n8, c8, C8, m8, d8, ⟨f0, f1, f2, f3, f4, f5, f6, f7, f8, f9, f10, f11⟩, S2⟩ := cellsC (ke j x hx)
      obtain ⟨A1x, A2x⟩ := edge_parts S1.out
      obtain ⟨B1x, B2x⟩ := edge_parts S2.out
      replace e0 : Hid (w.cell? ⟨b, o + j * 12, none⟩ = some (.bool b1)) := Lib.hid e0
      replace e1 : Hid (w.cell? ⟨b, o + j * 12 + 1, none⟩ = some (.slice A1 n1 c1)) := Lib.hid e1
      replace e2 : Hid (w.cell? ⟨b, o + j * 12 + 2, none⟩ = some (.slice C1 m1 d1)) := Lib.hid e2
      replace e3 : Hid (w.cell? ⟨b, o + j * 12 + 3, none⟩ = some (.bool b2)) := Lib.hid e3
      replace e4 : Hid (w.cell? ⟨b, o + j * 12 + 4, none⟩ = some (.slice A2 n2 c2)) := Lib.hid e4
      replace e5 : Hid (w.cell? ⟨b, o + j * 12 + 5, none⟩ = some (.slice C2 m2 d2)) := Lib.hid e5
      replace e6 : Hid (w.cell? ⟨b, o + j * 12 + 6, none⟩ = some (.bool b3)) := Lib.hid e6
      replace e7 : Hid (w.cell? ⟨b, o + j * 12 + 7, none⟩ = some (.slice A3 n3 c3)) := Lib.hid e7
      replace e8 : Hid (w.cell? ⟨b, o + j * 12 + 8, none⟩ = some (.slice C3 m3 d3)) := Lib.hid e8
      replace e9 : Hid (w.cell? ⟨b, o + j * 12 + 9, none⟩ = some (.bool b4)) := Lib.hid e9
      replace e10 : Hid (w.cell? ⟨b, o + j * 12 + 10, none⟩ = some (.slice A4 n4 c4)) := Lib.hid e10
      replace e11 : Hid (w.cell? ⟨b, o + j * 12 + 11, none⟩ = some (.slice C4 m4 d4)) := Lib.hid e11
      replace f0 : Hid (w.cell? ⟨b9, o9 + j * 12, none⟩ = some (.bool b5)) := Lib.hid f0
      replace f1 : Hid (w.cell? ⟨b9, o9 + j * 12 + 1, none⟩ = some (.slice A5 n5 c5)) := Lib.hid f1
      replace f2 : Hid (w.cell? ⟨b9, o9 + j * 12 + 2, none⟩ = some (.slice C5 m5 d5)) := Lib.hid f2
      replace f3 : Hid (w.cell? ⟨b9, o9 + j * 12 + 3, none⟩ = some (.bool b6)) := Lib.hid f3
      replace f4 : Hid (w.cell? ⟨b9, o9 + j * 12 + 4, none⟩ = some (.slice A6 n6 c6)) := Lib.hid f4
      replace f5 : Hid (w.cell? ⟨b9, o9 + j * 12 + 5, none⟩ = some (.slice C6 m6 d6)) := Lib.hid f5
      replace f6 : Hid (w.cell? ⟨b9, o9 + j * 12 + 6, none⟩ = some (.bool b7)) := Lib.hid f6
      replace f7 : Hid (w.cell? ⟨b9, o9 + j * 12 + 7, none⟩ = some (.slice A7 n7 c7)) := Lib.hid f7
      replace f8 : Hid (w.cell? ⟨b9, o9 + j * 12 + 8, none⟩ = some (.slice C7 m7 d7)) := Lib.hid f8
      replace f9 : Hid (w.cell? ⟨b9, o9 + j * 12 + 9, none⟩ = some (.bool b8)) := Lib.hid f9
      replace f10 : Hid (w.cell? ⟨b9, o9 + j * 12 + 10, none⟩ = some (.slice A8 n8 c8)) := Lib.hid f10
      replace f11 : Hid (w.cell? ⟨b9, o9 + j * 12 + 11, none⟩ = some (.slice C8 m8 d8)) := Lib.hid f11
      have hG' := Lib.hid hG
      have hjl : (j : Int) < (L : Int) := by omega
      clear he ke hG hx S1 S2
      go_wp2_with fail
      refine wp_region_held_drew (S := fun wv => Grew w wv) (by kernel_rfl) (hG'.out.drew) (fun hHeld => ?_)
      replace hHeld := Lib.hid hHeld
      try simp only [Act.put, List.setIfInBounds_toArray, List.set_cons_zero, List.set_cons_succ]
      refine wpAnyH_takeD (i := 0) (d := 17) (v := ?_) rfl rfl (by kernel_rfl) (by kernel_rfl) (by kernel_rfl) (fun _ _ _ h => h) (Or.inl ⟨by rfl, ?_⟩) hHeld.out ?_
      rotate_left
      · intro wv hSw
        replace hSw : Hid (Grew w wv) := Lib.hid hSw
        go_simp
        try with_reducible rfl
      try simp only [Act.put, List.setIfInBounds_toArray, List.set_cons_zero, List.set_cons_succ]
      refine wpAnyH_takeD (i := 1) (d := 18) (v := ?_) rfl rfl (by kernel_rfl) (by kernel_rfl) (by kernel_rfl) (fun _ _ _ h => h) (Or.inl ⟨by rfl, ?_⟩) hHeld.out ?_
      rotate_left
      · intro wv hSw
        replace hSw : Hid (Grew w wv) := Lib.hid hSw
        go_simp
        try with_reducible rfl
      try simp only [Act.put, List.setIfInBounds_toArray, List.set_cons_zero, List.set_cons_succ]
      refine wpAnyH_takeD (i := 2) (d := 19) (v := ?_) rfl rfl (by kernel_rfl) (by kernel_rfl) (by kernel_rfl) (fun _ _ _ h => h) (Or.inl ⟨by rfl, ?_⟩) hHeld.out ?_
      rotate_left
      · intro wv hSw
        replace hSw : Hid (Grew w wv) := Lib.hid hSw
        go_simp
        try with_reducible rfl
      try simp only [Act.put, List.setIfInBounds_toArray, List.set_cons_zero, List.set_cons_succ]
      refine wpAnyH_takeD (i := 3) (d := 20) (v := ?_) rfl rfl (by kernel_rfl) (by kernel_rfl) (by kernel_rfl) (fun _ _ _ h => h) (Or.inl ⟨by rfl, ?_⟩) hHeld.out ?_
      rotate_left
      · intro wv hSw
        replace hSw : Hid (Grew w wv) := Lib.hid hSw
        go_simp
        try with_reducible rfl
      try simp only [Act.put, List.setIfInBounds_toArray, List.set_cons_zero, List.set_cons_succ]
      refine wpAnyH_takeD (i := 4) (d := 21) (v := ?_) rfl rfl (by kernel_rfl) (by kernel_rfl) (by kernel_rfl) (fun _ _ _ h => h) (Or.inl ⟨by rfl, ?_⟩) hHeld.out ?_
      rotate_left
      · intro wv hSw
        replace hSw : Hid (Grew w wv) := Lib.hid hSw
        have t0 := hSw.out.cell e0.out
        have t1 := hSw.out.cell e1.out
        have t2 := hSw.out.cell e2.out
        have t3 := hSw.out.cell e3.out
        have t4 := hSw.out.cell e4.out
        have t5 := hSw.out.cell e5.out
        go_simp
        try with_reducible rfl
      try simp only [Act.put, List.setIfInBounds_toArray, List.set_cons_zero, List.set_cons_succ]
      refine wpAnyH_takeD (i := 5) (d := 22) (v := ?_) rfl rfl (by kernel_rfl) (by kernel_rfl) (by kernel_rfl) (fun _ _ _ h => h) (Or.inl ⟨by rfl, ?_⟩) hHeld.out ?_
      rotate_left
      · intro wv hSw
        replace hSw : Hid (Grew w wv) := Lib.hid hSw
        go_simp
        try with_reducible rfl
      try simp only [Act.put, List.setIfInBounds_toArray, List.set_cons_zero, List.set_cons_succ]
      refine wpAnyH_takeD (i := 6) (d := 23) (v := ?_) rfl rfl (by kernel_rfl) (by kernel_rfl) (by kernel_rfl) (fun _ _ _ h => h) (Or.inl ⟨by rfl, ?_⟩) hHeld.out ?_
      rotate_left
      · intro wv hSw
        replace hSw : Hid (Grew w wv) := Lib.hid hSw
        go_simp
        try with_reducible rfl
      try simp only [Act.put, List.setIfInBounds_toArray, List.set_cons_zero, List.set_cons_succ]
      refine wpAnyH_takeD (i := 7) (d := 24) (v := ?_) rfl rfl (by kernel_rfl) (by kernel_rfl) (by kernel_rfl) (fun _ _ _ h => h) (Or.inl ⟨by rfl, ?_⟩) hHeld.out ?_
      rotate_left
      · intro wv hSw
        replace hSw : Hid (Grew w wv) := Lib.hid hSw
        go_simp
        try with_reducible rfl
      try simp only [Act.put, List.setIfInBounds_toArray, List.set_cons_zero, List.set_cons_succ]
      refine wpAnyH_takeD (i := 8) (d := 25) (v := ?_) rfl rfl (by kernel_rfl) (by kernel_rfl) (by kernel_rfl) (fun _ _ _ h => h) (Or.inl ⟨by rfl, ?_⟩) hHeld.out ?_
      rotate_left
      · intro wv hSw
        replace hSw : Hid (Grew w wv) := Lib.hid hSw
        go_simp
        try with_reducible rfl
      try simp only [Act.put, List.setIfInBounds_toArray, List.set_cons_zero, List.set_cons_succ]
      refine wpAnyH_takeD (i := 9) (d := 26) (v := ?_) rfl rfl (by kernel_rfl) (by kernel_rfl) (by kernel_rfl) (fun _ _ _ h => h) (Or.inl ⟨by rfl, ?_⟩) hHeld.out ?_
      rotate_left
      · intro wv hSw
        replace hSw : Hid (Grew w wv) := Lib.hid hSw
        have t20 := hSw.out.cell f0.out
        have t21 := hSw.out.cell f1.out
        have t22 := hSw.out.cell f2.out
        have t23 := hSw.out.cell f3.out
        have t24 := hSw.out.cell f4.out
        have t25 := hSw.out.cell f5.out
        go_simp
        try with_reducible rfl
      try simp only [Act.put, List.setIfInBounds_toArray, List.set_cons_zero, List.set_cons_succ]
      refine wpAnyH_ready (rs := [10]) (by kernel_rfl) (by simp) ?_
      refine AllReadyH.cons rfl (fun KK hKK => ?_) AllReadyH.nil
      go_simp
      refine (r5same_yes _ _ x.1.1 x.1.2 _ (SpotC.kept A1x.out hHeld.out.keeps) (SpotC.kept B1x.out hHeld.out.keeps)).mono ?_
      rintro e wk1 ⟨rfl, g⟩
      have gk := hHeld.out.trans g
      clear hHeld
      try dsimp only
      refine hKK.out _ _ gk (fun hHeld => ?_)
      clear gk hKK KK
      replace hHeld := Lib.hid (show Grew w wk1 from hHeld)
      try simp only [Act.put, List.setIfInBounds_toArray, List.set_cons_zero, List.set_cons_succ]
      refine wpAnyH_takeD (i := 11) (d := 28) (v := ?_) rfl rfl (by kernel_rfl) (by kernel_rfl) (by kernel_rfl) (fun _ _ _ h => h) (Or.inl ⟨by rfl, ?_⟩) hHeld.out ?_
      rotate_left
      · intro wv hSw
        replace hSw : Hid (Grew w wv) := Lib.hid hSw
        go_simp
        try with_reducible rfl
      try simp only [Act.put, List.setIfInBounds_toArray, List.set_cons_zero, List.set_cons_succ]
      refine wpAnyH_takeD (i := 12) (d := 29) (v := ?_) rfl rfl (by kernel_rfl) (by kernel_rfl) (by kernel_rfl) (fun _ _ _ h => h) (Or.inl ⟨by rfl, ?_⟩) hHeld.out ?_
      rotate_left
      · intro wv hSw
        replace hSw : Hid (Grew w wv) := Lib.hid hSw
        go_simp
        try with_reducible rfl
      try simp only [Act.put, List.setIfInBounds_toArray, List.set_cons_zero, List.set_cons_succ]
      refine wpAnyH_takeD (i := 13) (d := 30) (v := ?_) rfl rfl (by kernel_rfl) (by kernel_rfl) (by kernel_rfl) (fun _ _ _ h => h) (Or.inl ⟨by rfl, ?_⟩) hHeld.out ?_
      rotate_left
      · intro wv hSw
        replace hSw : Hid (Grew w wv) := Lib.hid hSw
        go_simp
        try with_reducible rfl
      try simp only [Act.put, List.setIfInBounds_toArray, List.set_cons_zero, List.set_cons_succ]
      refine wpAnyH_takeD (i := 14) (d := 31) (v := ?_) rfl rfl (by kernel_rfl) (by kernel_rfl) (by kernel_rfl) (fun _ _ _ h => h) (Or.inl ⟨by rfl, ?_⟩) hHeld.out ?_
      rotate_left
      · intro wv hSw
        replace hSw : Hid (Grew w wv) := Lib.hid hSw
        go_simp
        try with_reducible rfl
      try simp only [Act.put, List.setIfInBounds_toArray, List.set_cons_zero, List.set_cons_succ]
      refine wpAnyH_takeD (i := 15) (d := 32) (v := ?_) rfl rfl (by kernel_rfl) (by kernel_rfl) (by kernel_rfl) (fun _ _ _ h => h) (Or.inl ⟨by rfl, ?_⟩) hHeld.out ?_
      rotate_left
      · intro wv hSw
        replace hSw : Hid (Grew w wv) := Lib.hid hSw
        go_simp
        try with_reducible rfl
      try simp only [Act.put, List.setIfInBounds_toArray, List.set_cons_zero, List.set_cons_succ]
      refine wpAnyH_takeD (i := 16) (d := 33) (v := ?_) rfl rfl (by kernel_rfl) (by kernel_rfl) (by kernel_rfl) (fun _ _ _ h => h) (Or.inl ⟨by rfl, ?_⟩) hHeld.out ?_
      rotate_left
      · intro wv hSw
        replace hSw : Hid (Grew w wv) := Lib.hid hSw
        go_simp
        try with_reducible rfl
      try simp only [Act.put, List.setIfInBounds_toArray, List.set_cons_zero, List.set_cons_succ]
      refine wpAnyH_takeD (i := 17) (d := 34) (v := ?_) rfl rfl (by kernel_rfl) (by kernel_rfl) (by kernel_rfl) (fun _ _ _ h => h) (Or.inl ⟨by rfl, ?_⟩) hHeld.out ?_
      rotate_left
      · intro wv hSw
        replace hSw : Hid (Grew w wv) := Lib.hid hSw
        have t6 := hSw.out.cell e6.out
        have t7 := hSw.out.cell e7.out
        have t8 := hSw.out.cell e8.out
        have t9 := hSw.out.cell e9.out
        have t10 := hSw.out.cell e10.out
        have t11 := hSw.out.cell e11.out
        go_simp
        try with_reducible rfl
      try simp only [Act.put, List.setIfInBounds_toArray, List.set_cons_zero, List.set_cons_succ]
      refine wpAnyH_takeD (i := 18) (d := 35) (v := ?_) rfl rfl (by kernel_rfl) (by kernel_rfl) (by kernel_rfl) (fun _ _ _ h => h) (Or.inl ⟨by rfl, ?_⟩) hHeld.out ?_
      rotate_left
      · intro wv hSw
        replace hSw : Hid (Grew w wv) := Lib.hid hSw
        go_simp
        try with_reducible rfl
      try simp only [Act.put, List.setIfInBounds_toArray, List.set_cons_zero, List.set_cons_succ]
      refine wpAnyH_takeD (i := 19) (d := 36) (v := ?_) rfl rfl (by kernel_rfl) (by kernel_rfl) (by kernel_rfl) (fun _ _ _ h => h) (Or.inl ⟨by rfl, ?_⟩) hHeld.out ?_
      rotate_left
      · intro wv hSw
        replace hSw : Hid (Grew w wv) := Lib.hid hSw
        go_simp
        try with_reducible rfl
      try simp only [Act.put, List.setIfInBounds_toArray, List.set_cons_zero, List.set_cons_succ]
      refine wpAnyH_takeD (i := 20) (d := 37) (v := ?_) rfl rfl (by kernel_rfl) (by kernel_rfl) (by kernel_rfl) (fun _ _ _ h => h) (Or.inl ⟨by rfl, ?_⟩) hHeld.out ?_
      rotate_left
      · intro wv hSw
        replace hSw : Hid (Grew w wv) := Lib.hid hSw
        go_simp
        try with_reducible rfl
      try simp only [Act.put, List.setIfInBounds_toArray, List.set_cons_zero, List.set_cons_succ]
      refine wpAnyH_takeD (i := 21) (d := 38) (v := ?_) rfl rfl (by kernel_rfl) (by kernel_rfl) (by kernel_rfl) (fun _ _ _ h => h) (Or.inl ⟨by rfl, ?_⟩) hHeld.out ?_
      rotate_left
      · intro wv hSw
        replace hSw : Hid (Grew w wv) := Lib.hid hSw
        go_simp
        try with_reducible rfl
      try simp only [Act.put, List.setIfInBounds_toArray, List.set_cons_zero, List.set_cons_succ]
      refine wpAnyH_takeD (i := 22) (d := 39) (v := ?_) rfl rfl (by kernel_rfl) (by kernel_rfl) (by kernel_rfl) (fun _ _ _ h => h) (Or.inl ⟨by rfl, ?_⟩) hHeld.out ?_
      rotate_left
      · intro wv hSw
        replace hSw : Hid (Grew w wv) := Lib.hid hSw
        have t26 := hSw.out.cell f6.out
        have t27 := hSw.out.cell f7.out
        have t28 := hSw.out.cell f8.out
        have t29 := hSw.out.cell f9.out
        have t30 := hSw.out.cell f10.out
        have t31 := hSw.out.cell f11.out
        go_simp
        try with_reducible rfl
      try simp only [Act.put, List.setIfInBounds_toArray, List.set_cons_zero, List.set_cons_succ]
      refine wpAnyH_ready (rs := [23]) (by kernel_rfl) (by simp) ?_
      refine AllReadyH.cons rfl (fun KK hKK => ?_) AllReadyH.nil
      go_simp
      refine (r5same_yes _ _ x.2.1 x.2.2 _ (SpotC.kept A2x.out hHeld.out.keeps) (SpotC.kept B2x.out hHeld.out.keeps)).mono ?_
      rintro e wk2 ⟨rfl, g⟩
      have gk := hHeld.out.trans g
      clear hHeld
      try dsimp only
      refine hKK.out _ _ gk (fun hHeld => ?_)
      clear gk hKK KK
      replace hHeld := Lib.hid (show Grew w wk2 from hHeld)
      try simp only [Act.put, List.setIfInBounds_toArray, List.set_cons_zero, List.set_cons_succ]
      refine wpAnyH_takeD (i := 24) (d := 41) (v := ?_) rfl rfl (by kernel_rfl) (by kernel_rfl) (by kernel_rfl) (fun _ _ _ h => h) (Or.inl ⟨by rfl, ?_⟩) hHeld.out ?_
      rotate_left
      · intro wv hSw
        replace hSw : Hid (Grew w wv) := Lib.hid hSw
        go_simp
        try with_reducible rfl
      try simp only [Act.put, List.setIfInBounds_toArray, List.set_cons_zero, List.set_cons_succ]
      refine wpAnyH_takeD (i := 25) (d := 42) (v := ?_) rfl rfl (by kernel_rfl) (by kernel_rfl) (by kernel_rfl) (fun _ _ _ h => h) (Or.inl ⟨by rfl, ?_⟩) hHeld.out ?_
      rotate_left
      · intro wv hSw
        replace hSw : Hid (Grew w wv) := Lib.hid hSw
        go_simp
        try with_reducible rfl
      try simp only [Act.put, List.setIfInBounds_toArray, List.set_cons_zero, List.set_cons_succ]
      refine wpAnyH_done (by kernel_rfl) ?_ _
      go_wp2_with fail
      go_roundg (gk - 1)
      case rel => exact ⟨j + 1, by omega, by go_num, hHeld.out⟩
      case measure => omega
    · obtain rfl : j = L := by omega
      have hG' := Lib.hid hG
      clear hG
      go_wp2_with fail
      go_ret
      exact ⟨rfl, hG'.out⟩
end Go.Proofs.YtmommicmblfibaaGreat
