/- frisketlaw25.lives, frisketlaw25.OutlineWays: the walks. Condition: the cells read. How spots come in: an argument of type api.Spot reads as two fractions, of no more words than its reading's bulk. Conditions: none. How points of the grid come in. Conditions: none. Sets of cells: how they come in. Conditions: none. -/
import Derived.Test.YtngbcbncllfblaaGreatJOutT
import Derived.Test.YtngbcbncllfblaaGreatJRowP
import Derived.Test.YtngbcbncllfblaaGreatRows
import Derived.WalkKit
import Derived.ProofKit
import Derived.OpenShut
import Derived.JoinedCond
import Derived.ChangeSlices
import Derived.Carry
import Derived.Test.YtngbcbncllfblaaGreatJOutQ
namespace Go.Proofs.YtngbcbncllfblaaGreat
open Go.RowKit

theorem one_ways {l : List Rn} (h : IsWays (hasC 1 1 [true]) l) : l = [⟨1, 0, 0, 1⟩, ⟨2, 1, 0, 1⟩, ⟨4, 0, 0, 1⟩, ⟨3, 1, 0, 1⟩] := by
  have hL : sidesY (hasC 1 1 [true]) 1 1 = [⟨1, 0, 0, 1⟩, ⟨3, 1, 0, 1⟩, ⟨2, 1, 0, 1⟩, ⟨4, 0, 0, 1⟩] := by kernel_rfl
  have hcv := sides_cov (has := hasC 1 1 [true]) (W := 1) (H := 1) fun x y h => hasC_in h
  rw [hL] at hcv
  have hno : ∀ r ∈ ([⟨1, 0, 0, 1⟩, ⟨3, 1, 0, 1⟩, ⟨2, 1, 0, 1⟩, ⟨4, 0, 0, 1⟩] : List Rn), ∀ s ∈ ([⟨1, 0, 0, 1⟩, ⟨3, 1, 0, 1⟩, ⟨2, 1, 0, 1⟩, ⟨4, 0, 0, 1⟩] : List Rn), ¬ goesOn r s := by
    intro r hr s hs hg
    simp only [List.mem_cons, List.not_mem_nil, or_false] at hr hs
    obtain ⟨g1, g2, g3⟩ := hg
    rcases hr with rfl | rfl | rfl | rfl <;> rcases hs with rfl | rfl | rfl | rfl <;> simp [Rn.a, Rn.b] at g1 g2 g3
  have hw := hcv.ways ltR_spec hno
  have e : ordR ltR [⟨1, 0, 0, 1⟩, ⟨3, 1, 0, 1⟩, ⟨2, 1, 0, 1⟩, ⟨4, 0, 0, 1⟩] = [⟨1, 0, 0, 1⟩, ⟨2, 1, 0, 1⟩, ⟨4, 0, 0, 1⟩, ⟨3, 1, 0, 1⟩] := by kernel_rfl
  exact (h.one hw).trans e

set_option maxRecDepth 100000 in
set_option maxHeartbeats 4000000 in
theorem lives25_any (w : World) : Calls Tryz.prog 20 #[] w fun e w' => e = .returned (.bool true) ∧ Grew w w' := by
  go_enter Tryz.func20, Tryz.ntmps20
  obtain ⟨W1, hW1⟩ : ∃ W1, w.alloc (.cells #[.bool true] 4) = W1 := ⟨_, rfl⟩
  have c0 : W1.cell? ⟨w.heap.size, 0, none⟩ = some (.bool true) := by rw [← hW1]; simp [go_sem]
  have G1 := Lib.hid (show Grew w W1 by rw [← hW1]; exact (Grew.refl _).alloc _)
  have hb := Lib.hid (show BoolsR W1 (.slice (some ⟨w.heap.size, 0, none⟩) ([true] : List Bool).length 1) [true] from by
    refine ⟨_, _, rfl, by simp, by omega, fun _ => ⟨_, _, rfl, fun i b h => ?_⟩⟩
    have hi := (List.getElem?_eq_some_iff.1 h).1
    obtain rfl : i = 0 := by simp at hi; omega
    obtain rfl : true = b := by simpa using h
    exact c0)
  clear c0
  go_wp2_with fail
  refine (oways_any 1 1 _ 1 [true] _ hb.out).mono ?_
  rintro e w2 ⟨v9, rfl, l, hI, -, hS, g⟩
  obtain rfl := one_ways hI
  obtain ⟨A, c, rfl, h1, h2, h3⟩ := hS
  obtain ⟨b, o, rfl, he⟩ := h3 (by simp)
  obtain ⟨⟨r0, r1, r2, r3⟩, -⟩ := he 1 ((256, 256), (0, 256)) rfl
  dsimp only at r0 r1 r2 r3
  have G2 := Lib.hid (G1.out.trans g)
  simp only [List.map_cons, List.map_nil, List.length_cons, List.length_nil] at h1 ⊢
  clear he h3 hI g G1 hW1
  go_wp2_with fail
  refine (ocentre_any 1 0 _).mono ?_
  rintro e w3 ⟨rfl, g⟩
  rw [show sqC 1 0 = (384, 128) from rfl]
  have G3 := Lib.hid (G2.out.trans g)
  clear g G2
  go_wp2_with fail
  go_ret
  exact ⟨rfl, G3.out⟩

theorem oterm_n (W H : Int) (A : Option Addr) (n c : Nat) (bs : List Bool) (w : World) (hb : BoolsR w (.slice A n c) bs) (hn : bs.length = n) :
    Calls Tryz.prog 11 #[cellV W H A n c] w fun e w' => ∃ A' n' c', e = .returned (.agg #[.slice A' n' c', .int .i64 0, .bool false]) ∧ ∃ l : List Rn, IsWays (hasC W H bs) l ∧ l.length ≤ 8320 ∧ SegsR w' (.slice A' n' c') (l.map segOf) ∧ Grew w w' := by
  subst hn; exact oterm_any W H A c bs w hb
theorem oways_n (W H : Int) (A : Option Addr) (n c : Nat) (bs : List Bool) (w : World) (hb : BoolsR w (.slice A n c) bs) (hn : bs.length = n) :
    Calls Tryz.prog 13 #[cellV W H A n c] w fun e w' => ∃ v', e = .returned v' ∧ ∃ l : List Rn, IsWays (hasC W H bs) l ∧ l.length ≤ 8320 ∧ SegsR w' v' (l.map segOf) ∧ Grew w w' := by
  subst hn; exact oways_any W H A c bs w hb
theorem rways_n (W H : Int) (A : Option Addr) (n c : Nat) (bs : List Bool) (w : World) (hb : BoolsR w (.slice A n c) bs) (hn : bs.length = n) :
    Calls Tryz.prog 14 #[cellV W H A n c] w fun e w' => ∃ v', e = .returned v' ∧ ∃ l : List Rn, IsWays (hasC W H bs) l ∧ l.length ≤ 16384 ∧ SegsR w' v' (l.map segOf) ∧ Grew w w' := by
  subst hn; exact rways_any W H A c bs w hb
theorem obord_n (W H : Int) (A : Option Addr) (n c : Nat) (bs : List Bool) (w : World) (hb : BoolsR w (.slice A n c) bs) (hn : bs.length = n) :
    Calls Tryz.prog 16 #[cellV W H A n c] w fun e w' => ∃ v', e = .returned v' ∧ ∃ l : List Rn, IsWays (hasC W H bs) l ∧ RowK 12 Edge12R w' v' (rowG edgeCmp ((l.map segOf).map edgeZ)) ∧ Grew w w' := by
  subst hn; exact obord_any W H A c bs w hb
theorem rbord_n (W H : Int) (A : Option Addr) (n c : Nat) (bs : List Bool) (w : World) (hb : BoolsR w (.slice A n c) bs) (hn : bs.length = n) :
    Calls Tryz.prog 17 #[cellV W H A n c] w fun e w' => ∃ v', e = .returned v' ∧ ∃ l : List Rn, IsWays (hasC W H bs) l ∧ RowK 12 Edge12R w' v' (rowG edgeCmp ((l.map segOf).map edgeZ)) ∧ Grew w w' := by
  subst hn; exact rbord_any W H A c bs w hb

set_option maxRecDepth 100000 in
set_option maxHeartbeats 16000000 in
theorem olaw_any (W H : Int) (A : Option Addr) (n c : Nat) (bs : List Bool) (x y : Int) (w : World) (hb0 : BoolsR w (.slice A n c) bs) (hn0 : bs.length = n) :
    Calls Tryz.prog 3 #[cellV W H A n c, .int .i64 x, .int .i64 y] w fun e w' => e = .returned (.bool true) ∧ Grew w w' := by
  have hb := Lib.hid hb0
  have hn := Lib.hid hn0
  obtain ⟨⟨⟨p0, p1⟩, ea⟩⟩ : Nonempty { z : Int × Int // sqA x y = z } := ⟨⟨_, rfl⟩⟩
  obtain ⟨⟨⟨q0, q1⟩, eb⟩⟩ : Nonempty { z : Int × Int // sqB x y = z } := ⟨⟨_, rfl⟩⟩
  obtain ⟨⟨⟨k0, k1⟩, ec⟩⟩ : Nonempty { z : Int × Int // sqC x y = z } := ⟨⟨_, rfl⟩⟩
  replace ea := Lib.hid ea
  replace eb := Lib.hid eb
  replace ec := Lib.hid ec
  clear hb0 hn0
  go_enter Tryz.func3, Tryz.ntmps3
  go_upto_region 1 with fail
  refine gen_wp ?_
  intro W1 hW1
  have B0 : W1.cell? ⟨w.heap.size, 0, none⟩ = some (.int .i64 W) := by rw [hW1]; simp [go_sem]
  have B1 : W1.cell? ⟨w.heap.size, 1, none⟩ = some (.int .i64 H) := by rw [hW1]; simp [go_sem]
  have B2 : W1.cell? ⟨w.heap.size, 2, none⟩ = some (.slice A n c) := by rw [hW1]; simp [go_sem]
  have G1 := Lib.hid (show Grew w W1 by rw [hW1]; exact (Grew.refl _).alloc _)
  replace B0 := Lib.hid B0
  replace B1 := Lib.hid B1
  replace B2 := Lib.hid B2
  clear hW1
  go_wp2_with fail
  refine (osquare_any x y _).mono ?_
  rintro e w2 ⟨rfl, g2⟩
  rw [ea.out, eb.out]
  dsimp only
  obtain ⟨WAu, hWAu⟩ : ∃ W, w2.alloc (.cells #[.int .i64 p0, .int .i64 p1] 26) = W := ⟨_, rfl⟩
  have hSA : WAu.heap.size = w2.heap.size + 1 := by rw [← hWAu]; simp
  have gA : Grew w2 WAu := by rw [← hWAu]; exact (Grew.refl _).alloc _
  obtain ⟨WZu, hWZu⟩ : ∃ W, WAu.alloc (.cells #[.int .i64 0, .int .i64 0] 26) = W := ⟨_, rfl⟩
  have z0u : WZu.cell? ⟨w2.heap.size + 1, 0, none⟩ = some (.int .i64 0) := by rw [← hSA, ← hWZu]; simp [go_sem]
  have z1u : WZu.cell? ⟨w2.heap.size + 1, 1, none⟩ = some (.int .i64 0) := by rw [← hSA, ← hWZu]; simp [go_sem]
  have zf0u : WZu.frozen? ⟨w2.heap.size + 1, 0, none⟩ = false := by rw [← hSA, ← hWZu]; simp [go_sem]
  have zf1u : WZu.frozen? ⟨w2.heap.size + 1, 1, none⟩ = false := by rw [← hSA, ← hWZu]; simp [go_sem]
  have gZ : Grew w2 WZu := by rw [← hWZu]; exact gA.alloc _
  have y0 : WZu.cell? ⟨w2.heap.size, 0, none⟩ = some (.int .i64 p0) := by rw [← hWZu]; refine (show Grew WAu (WAu.alloc _) from (Grew.refl _).alloc _).cell ?_; rw [← hWAu]; simp [go_sem]
  have y1 : WZu.cell? ⟨w2.heap.size, 1, none⟩ = some (.int .i64 p1) := by rw [← hWZu]; refine (show Grew WAu (WAu.alloc _) from (Grew.refl _).alloc _).cell ?_; rw [← hWAu]; simp [go_sem]
  obtain ⟨WBu, hWBu⟩ : ∃ W, (WZu.setCell ⟨w2.heap.size + 1, 0, none⟩ (.int .i64 q0)).setCell ⟨w2.heap.size + 1, 1, none⟩ (.int .i64 q1) = W := ⟨_, rfl⟩
  have au0 : WBu.cell? ⟨w2.heap.size, 0, none⟩ = some (.int .i64 p0) := by rw [← hWBu]; simp [go_sem, y0]
  have au1 : WBu.cell? ⟨w2.heap.size, 1, none⟩ = some (.int .i64 p1) := by rw [← hWBu]; simp [go_sem, y1]
  have bu0 : WBu.cell? ⟨w2.heap.size + 1, 0, none⟩ = some (.int .i64 q0) := by rw [← hWBu]; simp [go_sem, z0u]
  have bu1 : WBu.cell? ⟨w2.heap.size + 1, 1, none⟩ = some (.int .i64 q1) := by rw [← hWBu]; simp [go_sem, z1u]
  have gBu : Grew w2 WBu := by rw [← hWBu]; exact (gZ.setCell (by simp) _).setCell (by simp) _
  clear hSA gA gZ y0 y1
  have G2 := Lib.hid (G1.out.trans (g2.trans gBu))
  replace B0 := Lib.hid ((g2.trans gBu).cell B0.out)
  replace B1 := Lib.hid ((g2.trans gBu).cell B1.out)
  replace B2 := Lib.hid ((g2.trans gBu).cell B2.out)
  replace au0 := Lib.hid au0
  replace au1 := Lib.hid au1
  replace bu0 := Lib.hid bu0
  replace bu1 := Lib.hid bu1
  clear g2 gBu G1
  go_upto_region 2 with fail
  clear hWAu hWZu hWBu z0u z1u zf0u zf1u
  go_wp2_with fail
  refine (rsquare_any x y _).mono ?_
  rintro e w3 ⟨rfl, g3⟩
  rw [ea.out, eb.out]
  dsimp only
  obtain ⟨WAv, hWAv⟩ : ∃ W, w3.alloc (.cells #[.int .i64 p0, .int .i64 p1] 26) = W := ⟨_, rfl⟩
  have hSA : WAv.heap.size = w3.heap.size + 1 := by rw [← hWAv]; simp
  have gA : Grew w3 WAv := by rw [← hWAv]; exact (Grew.refl _).alloc _
  obtain ⟨WZv, hWZv⟩ : ∃ W, WAv.alloc (.cells #[.int .i64 0, .int .i64 0] 26) = W := ⟨_, rfl⟩
  have z0v : WZv.cell? ⟨w3.heap.size + 1, 0, none⟩ = some (.int .i64 0) := by rw [← hSA, ← hWZv]; simp [go_sem]
  have z1v : WZv.cell? ⟨w3.heap.size + 1, 1, none⟩ = some (.int .i64 0) := by rw [← hSA, ← hWZv]; simp [go_sem]
  have zf0v : WZv.frozen? ⟨w3.heap.size + 1, 0, none⟩ = false := by rw [← hSA, ← hWZv]; simp [go_sem]
  have zf1v : WZv.frozen? ⟨w3.heap.size + 1, 1, none⟩ = false := by rw [← hSA, ← hWZv]; simp [go_sem]
  have gZ : Grew w3 WZv := by rw [← hWZv]; exact gA.alloc _
  have y0 : WZv.cell? ⟨w3.heap.size, 0, none⟩ = some (.int .i64 p0) := by rw [← hWZv]; refine (show Grew WAv (WAv.alloc _) from (Grew.refl _).alloc _).cell ?_; rw [← hWAv]; simp [go_sem]
  have y1 : WZv.cell? ⟨w3.heap.size, 1, none⟩ = some (.int .i64 p1) := by rw [← hWZv]; refine (show Grew WAv (WAv.alloc _) from (Grew.refl _).alloc _).cell ?_; rw [← hWAv]; simp [go_sem]
  obtain ⟨WBv, hWBv⟩ : ∃ W, (WZv.setCell ⟨w3.heap.size + 1, 0, none⟩ (.int .i64 q0)).setCell ⟨w3.heap.size + 1, 1, none⟩ (.int .i64 q1) = W := ⟨_, rfl⟩
  have av0 : WBv.cell? ⟨w3.heap.size, 0, none⟩ = some (.int .i64 p0) := by rw [← hWBv]; simp [go_sem, y0]
  have av1 : WBv.cell? ⟨w3.heap.size, 1, none⟩ = some (.int .i64 p1) := by rw [← hWBv]; simp [go_sem, y1]
  have bv0 : WBv.cell? ⟨w3.heap.size + 1, 0, none⟩ = some (.int .i64 q0) := by rw [← hWBv]; simp [go_sem, z0v]
  have bv1 : WBv.cell? ⟨w3.heap.size + 1, 1, none⟩ = some (.int .i64 q1) := by rw [← hWBv]; simp [go_sem, z1v]
  have gBv : Grew w3 WBv := by rw [← hWBv]; exact (gZ.setCell (by simp) _).setCell (by simp) _
  clear hSA gA gZ y0 y1
  have G3 := Lib.hid (G2.out.trans (g3.trans gBv))
  replace B0 := Lib.hid ((g3.trans gBv).cell B0.out)
  replace B1 := Lib.hid ((g3.trans gBv).cell B1.out)
  replace B2 := Lib.hid ((g3.trans gBv).cell B2.out)
  replace au0 := Lib.hid ((g3.trans gBv).cell au0.out)
  replace au1 := Lib.hid ((g3.trans gBv).cell au1.out)
  replace bu0 := Lib.hid ((g3.trans gBv).cell bu0.out)
  replace bu1 := Lib.hid ((g3.trans gBv).cell bu1.out)
  replace av0 := Lib.hid av0
  replace av1 := Lib.hid av1
  replace bv0 := Lib.hid bv0
  replace bv1 := Lib.hid bv1
  clear g3 gBv G2
  go_upto_region 3 with fail
  clear hWAv hWZv hWBv z0v z1v zf0v zf1v
  have q0 := B0.out
  have q1 := B1.out
  have q2 := B2.out
  go_wp2_with fail
  refine (oterm_n W H A n c bs _ (hb.out.grew G3.out) hn.out).mono ?_
  rintro e w4 ⟨A0, n0, c0, rfl, l0, hI0, hl0, hS0, g4⟩
  go_upto_region 4 with fail
  obtain ⟨WT, hWT⟩ : ∃ WT, w4.alloc (.cells #[.slice A0 n0 c0, .int .i64 0, .bool false] 31) = WT := ⟨_, rfl⟩
  rw [hWT]
  have gT : Grew w4 WT := by rw [← hWT]; exact (Grew.refl _).alloc _
  have T0 : WT.cell? ⟨w4.heap.size, 0, none⟩ = some (.slice A0 n0 c0) := by rw [← hWT]; simp [go_sem]
  have T1 : WT.cell? ⟨w4.heap.size, 1, none⟩ = some (.int .i64 0) := by rw [← hWT]; simp [go_sem]
  have T2 : WT.cell? ⟨w4.heap.size, 2, none⟩ = some (.bool false) := by rw [← hWT]; simp [go_sem]
  replace B0 := Lib.hid ((g4.trans gT).cell B0.out)
  replace B1 := Lib.hid ((g4.trans gT).cell B1.out)
  replace B2 := Lib.hid ((g4.trans gT).cell B2.out)
  replace au0 := Lib.hid ((g4.trans gT).cell au0.out)
  replace au1 := Lib.hid ((g4.trans gT).cell au1.out)
  replace bu0 := Lib.hid ((g4.trans gT).cell bu0.out)
  replace bu1 := Lib.hid ((g4.trans gT).cell bu1.out)
  replace av0 := Lib.hid ((g4.trans gT).cell av0.out)
  replace av1 := Lib.hid ((g4.trans gT).cell av1.out)
  replace bv0 := Lib.hid ((g4.trans gT).cell bv0.out)
  replace bv1 := Lib.hid ((g4.trans gT).cell bv1.out)
  replace T0 := Lib.hid T0
  replace T1 := Lib.hid T1
  replace T2 := Lib.hid T2
  have G4 := Lib.hid (G3.out.trans (g4.trans gT))
  replace hS0 := Lib.hid (SegsR.grew hS0 gT)
  replace hI0 := Lib.hid hI0
  clear g4 gT G3 q0 q1 q2 hWT
  refine wp_region_held_drew (S := fun wv => Grew WT wv) (by kernel_rfl) ((Grew.refl WT).drew) (fun hHeld => ?_)
  replace hHeld := Lib.hid hHeld
  try simp only [Act.put, List.setIfInBounds_toArray, List.set_cons_zero, List.set_cons_succ]
  refine wpAnyH_takeD (i := 0) (d := 26) (v := ?_) rfl rfl (by kernel_rfl) (by kernel_rfl) (by kernel_rfl) (fun _ _ _ h => h) (Or.inl ⟨by rfl, ?_⟩) hHeld.out ?_
  rotate_left
  · intro wv hSw
    replace hSw : Hid (Grew WT wv) := Lib.hid hSw
    have t0 := hSw.out.cell B0.out
    have t1 := hSw.out.cell B1.out
    have t2 := hSw.out.cell B2.out
    go_simp
    try with_reducible rfl
  try simp only [Act.put, List.setIfInBounds_toArray, List.set_cons_zero, List.set_cons_succ]
  refine wpAnyH_takeD (i := 2) (d := 28) (v := ?_) rfl rfl (by kernel_rfl) (by kernel_rfl) (by kernel_rfl) (fun _ _ _ h => h) (Or.inl ⟨by rfl, ?_⟩) hHeld.out ?_
  rotate_left
  · intro wv hSw
    replace hSw : Hid (Grew WT wv) := Lib.hid hSw
    have t0 := hSw.out.cell B0.out
    have t1 := hSw.out.cell B1.out
    have t2 := hSw.out.cell B2.out
    go_simp
    try with_reducible rfl
  try simp only [Act.put, List.setIfInBounds_toArray, List.set_cons_zero, List.set_cons_succ]
  refine wpAnyH_ready (rs := [1]) (by kernel_rfl) (by simp) ?_
  refine AllReadyH.cons rfl (fun KK hKK => ?_) AllReadyH.nil
  go_simp
  refine (oways_n W H A n c bs _ (hb.out.grew (G4.out.trans hHeld.out)) hn.out).mono ?_
  rintro e wk1 ⟨v1, rfl, l1, hI1, hl1, hS1, g⟩
  have gk := hHeld.out.trans g
  obtain rfl := hI0.out.one hI1
  clear hI1
  replace hS1 := Lib.hid hS1
  clear hHeld
  try dsimp only
  refine hKK.out _ _ gk (fun hHeld => ?_)
  clear gk hKK KK
  replace hHeld := Lib.hid (show Grew WT wk1 from hHeld)
  try simp only [Act.put, List.setIfInBounds_toArray, List.set_cons_zero, List.set_cons_succ]
  refine wpAnyH_ready (rs := [3]) (by kernel_rfl) (by simp) ?_
  refine AllReadyH.cons rfl (fun KK hKK => ?_) AllReadyH.nil
  go_simp
  refine (rways_n W H A n c bs _ (hb.out.grew (G4.out.trans hHeld.out)) hn.out).mono ?_
  rintro e wk2 ⟨v2, rfl, l2, hI2, hl2, hS2, g⟩
  have gk := hHeld.out.trans g
  obtain rfl := hI0.out.one hI2
  clear hI2
  replace hS1 := Lib.hid (hS1.out.grew g)
  replace hS2 := Lib.hid hS2
  clear hHeld
  try dsimp only
  refine hKK.out _ _ gk (fun hHeld => ?_)
  clear gk hKK KK
  replace hHeld := Lib.hid (show Grew WT wk2 from hHeld)
  try simp only [Act.put, List.setIfInBounds_toArray, List.set_cons_zero, List.set_cons_succ]
  refine wpAnyH_ready (rs := [4]) (by kernel_rfl) (by simp) ?_
  refine AllReadyH.cons rfl (fun KK hKK => ?_) AllReadyH.nil
  go_simp
  refine (sames_yes v1 v2 (l0.map segOf) _ hS1.out hS2.out (by rw [List.length_map]; omega)).mono ?_
  rintro e wk3 ⟨rfl, g⟩
  have gk := hHeld.out.trans g
  clear hS1 hS2
  clear hHeld
  try dsimp only
  refine hKK.out _ _ gk (fun hHeld => ?_)
  clear gk hKK KK
  replace hHeld := Lib.hid (show Grew WT wk3 from hHeld)
  try simp only [Act.put, List.setIfInBounds_toArray, List.set_cons_zero, List.set_cons_succ]
  refine wpAnyH_takeD (i := 5) (d := 31) (v := ?_) rfl rfl (by kernel_rfl) (by kernel_rfl) (by kernel_rfl) (fun _ _ _ h => h) (Or.inl ⟨by rfl, ?_⟩) hHeld.out ?_
  rotate_left
  · intro wv hSw
    replace hSw : Hid (Grew WT wv) := Lib.hid hSw
    go_simp
    try with_reducible rfl
  try simp only [Act.put, List.setIfInBounds_toArray, List.set_cons_zero, List.set_cons_succ]
  refine wpAnyH_takeD (i := 6) (d := 32) (v := ?_) rfl rfl (by kernel_rfl) (by kernel_rfl) (by kernel_rfl) (fun _ _ _ h => h) (Or.inl ⟨by rfl, ?_⟩) hHeld.out ?_
  rotate_left
  · intro wv hSw
    replace hSw : Hid (Grew WT wv) := Lib.hid hSw
    have t0 := hSw.out.cell B0.out
    have t1 := hSw.out.cell B1.out
    have t2 := hSw.out.cell B2.out
    go_simp
    try with_reducible rfl
  try simp only [Act.put, List.setIfInBounds_toArray, List.set_cons_zero, List.set_cons_succ]
  refine wpAnyH_takeD (i := 8) (d := 34) (v := ?_) rfl rfl (by kernel_rfl) (by kernel_rfl) (by kernel_rfl) (fun _ _ _ h => h) (Or.inl ⟨by rfl, ?_⟩) hHeld.out ?_
  rotate_left
  · intro wv hSw
    replace hSw : Hid (Grew WT wv) := Lib.hid hSw
    have t0 := hSw.out.cell B0.out
    have t1 := hSw.out.cell B1.out
    have t2 := hSw.out.cell B2.out
    go_simp
    try with_reducible rfl
  try simp only [Act.put, List.setIfInBounds_toArray, List.set_cons_zero, List.set_cons_succ]
  refine wpAnyH_ready (rs := [7]) (by kernel_rfl) (by simp) ?_
  refine AllReadyH.cons rfl (fun KK hKK => ?_) AllReadyH.nil
  go_simp
  refine (obord_n W H A n c bs _ (hb.out.grew (G4.out.trans hHeld.out)) hn.out).mono ?_
  rintro e wk4 ⟨v3, rfl, l3, hI3, hR3, g⟩
  have gk := hHeld.out.trans g
  obtain rfl := hI0.out.one hI3
  clear hI3
  replace hR3 := Lib.hid hR3
  clear hHeld
  try dsimp only
  refine hKK.out _ _ gk (fun hHeld => ?_)
  clear gk hKK KK
  replace hHeld := Lib.hid (show Grew WT wk4 from hHeld)
  try simp only [Act.put, List.setIfInBounds_toArray, List.set_cons_zero, List.set_cons_succ]
  refine wpAnyH_ready (rs := [9]) (by kernel_rfl) (by simp) ?_
  refine AllReadyH.cons rfl (fun KK hKK => ?_) AllReadyH.nil
  go_simp
  refine (rbord_n W H A n c bs _ (hb.out.grew (G4.out.trans hHeld.out)) hn.out).mono ?_
  rintro e wk5 ⟨v4, rfl, l4, hI4, hR4, g⟩
  have gk := hHeld.out.trans g
  obtain rfl := hI0.out.one hI4
  clear hI4
  replace hR3 := Lib.hid (RowK.grew says_edge hR3.out g)
  replace hR4 := Lib.hid hR4
  clear hHeld
  try dsimp only
  refine hKK.out _ _ gk (fun hHeld => ?_)
  clear gk hKK KK
  replace hHeld := Lib.hid (show Grew WT wk5 from hHeld)
  try simp only [Act.put, List.setIfInBounds_toArray, List.set_cons_zero, List.set_cons_succ]
  refine wpAnyH_ready (rs := [10]) (by kernel_rfl) (by simp) ?_
  refine AllReadyH.cons rfl (fun KK hKK => ?_) AllReadyH.nil
  go_simp
  refine (esame_yes v3 v4 _ _ hR3.out hR4.out).mono ?_
  rintro e wk6 ⟨rfl, g⟩
  have gk := hHeld.out.trans g
  clear hR3 hR4
  clear hHeld
  try dsimp only
  refine hKK.out _ _ gk (fun hHeld => ?_)
  clear gk hKK KK
  replace hHeld := Lib.hid (show Grew WT wk6 from hHeld)
  try simp only [Act.put, List.setIfInBounds_toArray, List.set_cons_zero, List.set_cons_succ]
  refine wpAnyH_takeD (i := 11) (d := 37) (v := ?_) rfl rfl (by kernel_rfl) (by kernel_rfl) (by kernel_rfl) (fun _ _ _ h => h) (Or.inl ⟨by rfl, ?_⟩) hHeld.out ?_
  rotate_left
  · intro wv hSw
    replace hSw : Hid (Grew WT wv) := Lib.hid hSw
    go_simp
    try with_reducible rfl
  try simp only [Act.put, List.setIfInBounds_toArray, List.set_cons_zero, List.set_cons_succ]
  refine wpAnyH_takeD (i := 12) (d := 38) (v := ?_) rfl rfl (by kernel_rfl) (by kernel_rfl) (by kernel_rfl) (fun _ _ _ h => h) (Or.inl ⟨by rfl, ?_⟩) hHeld.out ?_
  rotate_left
  · intro wv hSw
    replace hSw : Hid (Grew WT wv) := Lib.hid hSw
    go_simp
    try with_reducible rfl
  try simp only [Act.put, List.setIfInBounds_toArray, List.set_cons_zero, List.set_cons_succ]
  refine wpAnyH_takeD (i := 13) (d := 39) (v := ?_) rfl rfl (by kernel_rfl) (by kernel_rfl) (by kernel_rfl) (fun _ _ _ h => h) (Or.inl ⟨by rfl, ?_⟩) hHeld.out ?_
  rotate_left
  · intro wv hSw
    replace hSw : Hid (Grew WT wv) := Lib.hid hSw
    go_simp
    try with_reducible rfl
  try simp only [Act.put, List.setIfInBounds_toArray, List.set_cons_zero, List.set_cons_succ]
  refine wpAnyH_takeD (i := 14) (d := 40) (v := ?_) rfl rfl (by kernel_rfl) (by kernel_rfl) (by kernel_rfl) (fun _ _ _ h => h) (Or.inl ⟨by rfl, ?_⟩) hHeld.out ?_
  rotate_left
  · intro wv hSw
    replace hSw : Hid (Grew WT wv) := Lib.hid hSw
    have t0 := hSw.out.cell T0.out
    go_simp
    try with_reducible rfl
  try simp only [Act.put, List.setIfInBounds_toArray, List.set_cons_zero, List.set_cons_succ]
  refine wpAnyH_takeD (i := 15) (d := 41) (v := ?_) rfl rfl (by kernel_rfl) (by kernel_rfl) (by kernel_rfl) (fun _ _ _ h => h) (Or.inl ⟨by rfl, ?_⟩) hHeld.out ?_
  rotate_left
  · intro wv hSw
    replace hSw : Hid (Grew WT wv) := Lib.hid hSw
    have t0 := hSw.out.cell B0.out
    have t1 := hSw.out.cell B1.out
    have t2 := hSw.out.cell B2.out
    go_simp
    try with_reducible rfl
  try simp only [Act.put, List.setIfInBounds_toArray, List.set_cons_zero, List.set_cons_succ]
  refine wpAnyH_ready (rs := [16]) (by kernel_rfl) (by simp) ?_
  refine AllReadyH.cons rfl (fun KK hKK => ?_) AllReadyH.nil
  go_simp
  refine (rways_n W H A n c bs _ (hb.out.grew (G4.out.trans hHeld.out)) hn.out).mono ?_
  rintro e wk7 ⟨v5, rfl, l5, hI5, hl5, hS5, g⟩
  have gk := hHeld.out.trans g
  obtain rfl := hI0.out.one hI5
  clear hI5
  replace hS5 := Lib.hid hS5
  clear hHeld
  try dsimp only
  refine hKK.out _ _ gk (fun hHeld => ?_)
  clear gk hKK KK
  replace hHeld := Lib.hid (show Grew WT wk7 from hHeld)
  try simp only [Act.put, List.setIfInBounds_toArray, List.set_cons_zero, List.set_cons_succ]
  refine wpAnyH_ready (rs := [17]) (by kernel_rfl) (by simp) ?_
  refine AllReadyH.cons rfl (fun KK hKK => ?_) AllReadyH.nil
  go_simp
  refine (sames_yes _ v5 (l0.map segOf) _ (hS0.out.grew hHeld.out) hS5.out (by rw [List.length_map]; omega)).mono ?_
  rintro e wk8 ⟨rfl, g⟩
  have gk := hHeld.out.trans g
  clear hS5
  clear hHeld
  try dsimp only
  refine hKK.out _ _ gk (fun hHeld => ?_)
  clear gk hKK KK
  replace hHeld := Lib.hid (show Grew WT wk8 from hHeld)
  try simp only [Act.put, List.setIfInBounds_toArray, List.set_cons_zero, List.set_cons_succ]
  refine wpAnyH_takeD (i := 18) (d := 44) (v := ?_) rfl rfl (by kernel_rfl) (by kernel_rfl) (by kernel_rfl) (fun _ _ _ h => h) (Or.inl ⟨by rfl, ?_⟩) hHeld.out ?_
  rotate_left
  · intro wv hSw
    replace hSw : Hid (Grew WT wv) := Lib.hid hSw
    go_simp
    try with_reducible rfl
  try simp only [Act.put, List.setIfInBounds_toArray, List.set_cons_zero, List.set_cons_succ]
  refine wpAnyH_takeD (i := 19) (d := 45) (v := ?_) rfl rfl (by kernel_rfl) (by kernel_rfl) (by kernel_rfl) (fun _ _ _ h => h) (Or.inl ⟨by rfl, ?_⟩) hHeld.out ?_
  rotate_left
  · intro wv hSw
    replace hSw : Hid (Grew WT wv) := Lib.hid hSw
    go_simp
    try with_reducible rfl
  try simp only [Act.put, List.setIfInBounds_toArray, List.set_cons_zero, List.set_cons_succ]
  refine wpAnyH_takeD (i := 20) (d := 46) (v := ?_) rfl rfl (by kernel_rfl) (by kernel_rfl) (by kernel_rfl) (fun _ _ _ h => h) (Or.inl ⟨by rfl, ?_⟩) hHeld.out ?_
  rotate_left
  · intro wv hSw
    replace hSw : Hid (Grew WT wv) := Lib.hid hSw
    go_simp
    try with_reducible rfl
  try simp only [Act.put, List.setIfInBounds_toArray, List.set_cons_zero, List.set_cons_succ]
  refine wpAnyH_takeD (i := 21) (d := 47) (v := ?_) rfl rfl (by kernel_rfl) (by kernel_rfl) (by kernel_rfl) (fun _ _ _ h => h) (Or.inl ⟨by rfl, ?_⟩) hHeld.out ?_
  rotate_left
  · intro wv hSw
    replace hSw : Hid (Grew WT wv) := Lib.hid hSw
    have t0 := hSw.out.cell T1.out
    go_simp
    try with_reducible rfl
  try simp only [Act.put, List.setIfInBounds_toArray, List.set_cons_zero, List.set_cons_succ]
  refine wpAnyH_takeD (i := 22) (d := 48) (v := ?_) rfl rfl (by kernel_rfl) (by kernel_rfl) (by kernel_rfl) (fun _ _ _ h => h) (Or.inl ⟨by rfl, ?_⟩) hHeld.out ?_
  rotate_left
  · intro wv hSw
    replace hSw : Hid (Grew WT wv) := Lib.hid hSw
    go_simp
    try with_reducible rfl
  try simp only [Act.put, List.setIfInBounds_toArray, List.set_cons_zero, List.set_cons_succ]
  refine wpAnyH_takeD (i := 23) (d := 49) (v := ?_) rfl rfl (by kernel_rfl) (by kernel_rfl) (by kernel_rfl) (fun _ _ _ h => h) (Or.inl ⟨by rfl, ?_⟩) hHeld.out ?_
  rotate_left
  · intro wv hSw
    replace hSw : Hid (Grew WT wv) := Lib.hid hSw
    go_simp
    try with_reducible rfl
  try simp only [Act.put, List.setIfInBounds_toArray, List.set_cons_zero, List.set_cons_succ]
  refine wpAnyH_takeD (i := 24) (d := 50) (v := ?_) rfl rfl (by kernel_rfl) (by kernel_rfl) (by kernel_rfl) (fun _ _ _ h => h) (Or.inl ⟨by rfl, ?_⟩) hHeld.out ?_
  rotate_left
  · intro wv hSw
    replace hSw : Hid (Grew WT wv) := Lib.hid hSw
    go_simp
    try with_reducible rfl
  try simp only [Act.put, List.setIfInBounds_toArray, List.set_cons_zero, List.set_cons_succ]
  refine wpAnyH_takeD (i := 25) (d := 51) (v := ?_) rfl rfl (by kernel_rfl) (by kernel_rfl) (by kernel_rfl) (fun _ _ _ h => h) (Or.inl ⟨by rfl, ?_⟩) hHeld.out ?_
  rotate_left
  · intro wv hSw
    replace hSw : Hid (Grew WT wv) := Lib.hid hSw
    go_simp
    try with_reducible rfl
  try simp only [Act.put, List.setIfInBounds_toArray, List.set_cons_zero, List.set_cons_succ]
  refine wpAnyH_takeD (i := 26) (d := 52) (v := ?_) rfl rfl (by kernel_rfl) (by kernel_rfl) (by kernel_rfl) (fun _ _ _ h => h) (Or.inl ⟨by rfl, ?_⟩) hHeld.out ?_
  rotate_left
  · intro wv hSw
    replace hSw : Hid (Grew WT wv) := Lib.hid hSw
    have t0 := hSw.out.cell T2.out
    go_simp
    try with_reducible rfl
  try simp only [Act.put, List.setIfInBounds_toArray, List.set_cons_zero, List.set_cons_succ]
  refine wpAnyH_takeD (i := 27) (d := 53) (v := ?_) rfl rfl (by kernel_rfl) (by kernel_rfl) (by kernel_rfl) (fun _ _ _ h => h) (Or.inl ⟨by rfl, ?_⟩) hHeld.out ?_
  rotate_left
  · intro wv hSw
    replace hSw : Hid (Grew WT wv) := Lib.hid hSw
    go_simp
    try with_reducible rfl
  try simp only [Act.put, List.setIfInBounds_toArray, List.set_cons_zero, List.set_cons_succ]
  refine wpAnyH_takeD (i := 28) (d := 54) (v := ?_) rfl rfl (by kernel_rfl) (by kernel_rfl) (by kernel_rfl) (fun _ _ _ h => h) (Or.inl ⟨by rfl, ?_⟩) hHeld.out ?_
  rotate_left
  · intro wv hSw
    replace hSw : Hid (Grew WT wv) := Lib.hid hSw
    go_simp
    try with_reducible rfl
  try simp only [Act.put, List.setIfInBounds_toArray, List.set_cons_zero, List.set_cons_succ]
  refine wpAnyH_takeD (i := 29) (d := 55) (v := ?_) rfl rfl (by kernel_rfl) (by kernel_rfl) (by kernel_rfl) (fun _ _ _ h => h) (Or.inl ⟨by rfl, ?_⟩) hHeld.out ?_
  rotate_left
  · intro wv hSw
    replace hSw : Hid (Grew WT wv) := Lib.hid hSw
    go_simp
    try with_reducible rfl
  try simp only [Act.put, List.setIfInBounds_toArray, List.set_cons_zero, List.set_cons_succ]
  refine wpAnyH_takeD (i := 30) (d := 56) (v := ?_) rfl rfl (by kernel_rfl) (by kernel_rfl) (by kernel_rfl) (fun _ _ _ h => h) (Or.inl ⟨by rfl, ?_⟩) hHeld.out ?_
  rotate_left
  · intro wv hSw
    replace hSw : Hid (Grew WT wv) := Lib.hid hSw
    have t0 := hSw.out.cell au0.out
    have t1 := hSw.out.cell au1.out
    go_simp
    try with_reducible rfl
  try simp only [Act.put, List.setIfInBounds_toArray, List.set_cons_zero, List.set_cons_succ]
  refine wpAnyH_takeD (i := 31) (d := 57) (v := ?_) rfl rfl (by kernel_rfl) (by kernel_rfl) (by kernel_rfl) (fun _ _ _ h => h) (Or.inl ⟨by rfl, ?_⟩) hHeld.out ?_
  rotate_left
  · intro wv hSw
    replace hSw : Hid (Grew WT wv) := Lib.hid hSw
    have t0 := hSw.out.cell av0.out
    have t1 := hSw.out.cell av1.out
    go_simp
    try with_reducible rfl
  try simp only [Act.put, List.setIfInBounds_toArray, List.set_cons_zero, List.set_cons_succ]
  refine wpAnyH_takeD (i := 32) (d := 58) (v := ?_) rfl rfl (by kernel_rfl) (by kernel_rfl) (by kernel_rfl) (fun _ _ _ h => h) (Or.inl ⟨by rfl, ?_⟩) hHeld.out ?_
  rotate_left
  · intro wv hSw
    replace hSw : Hid (Grew WT wv) := Lib.hid hSw
    go_simp
    try with_reducible rfl
  try simp only [Act.put, List.setIfInBounds_toArray, List.set_cons_zero, List.set_cons_succ]
  refine wpAnyH_takeD (i := 33) (d := 59) (v := ?_) rfl rfl (by kernel_rfl) (by kernel_rfl) (by kernel_rfl) (fun _ _ _ h => h) (Or.inl ⟨by rfl, ?_⟩) hHeld.out ?_
  rotate_left
  · intro wv hSw
    replace hSw : Hid (Grew WT wv) := Lib.hid hSw
    go_simp
    try with_reducible rfl
  try simp only [Act.put, List.setIfInBounds_toArray, List.set_cons_zero, List.set_cons_succ]
  refine wpAnyH_takeD (i := 34) (d := 60) (v := ?_) rfl rfl (by kernel_rfl) (by kernel_rfl) (by kernel_rfl) (fun _ _ _ h => h) (Or.inl ⟨by rfl, ?_⟩) hHeld.out ?_
  rotate_left
  · intro wv hSw
    replace hSw : Hid (Grew WT wv) := Lib.hid hSw
    go_simp
    try with_reducible rfl
  try simp only [Act.put, List.setIfInBounds_toArray, List.set_cons_zero, List.set_cons_succ]
  refine wpAnyH_takeD (i := 35) (d := 61) (v := ?_) rfl rfl (by kernel_rfl) (by kernel_rfl) (by kernel_rfl) (fun _ _ _ h => h) (Or.inl ⟨by rfl, ?_⟩) hHeld.out ?_
  rotate_left
  · intro wv hSw
    replace hSw : Hid (Grew WT wv) := Lib.hid hSw
    have t0 := hSw.out.cell bu0.out
    have t1 := hSw.out.cell bu1.out
    go_simp
    try with_reducible rfl
  try simp only [Act.put, List.setIfInBounds_toArray, List.set_cons_zero, List.set_cons_succ]
  refine wpAnyH_takeD (i := 36) (d := 62) (v := ?_) rfl rfl (by kernel_rfl) (by kernel_rfl) (by kernel_rfl) (fun _ _ _ h => h) (Or.inl ⟨by rfl, ?_⟩) hHeld.out ?_
  rotate_left
  · intro wv hSw
    replace hSw : Hid (Grew WT wv) := Lib.hid hSw
    have t0 := hSw.out.cell bv0.out
    have t1 := hSw.out.cell bv1.out
    go_simp
    try with_reducible rfl
  try simp only [Act.put, List.setIfInBounds_toArray, List.set_cons_zero, List.set_cons_succ]
  refine wpAnyH_takeD (i := 37) (d := 63) (v := ?_) rfl rfl (by kernel_rfl) (by kernel_rfl) (by kernel_rfl) (fun _ _ _ h => h) (Or.inl ⟨by rfl, ?_⟩) hHeld.out ?_
  rotate_left
  · intro wv hSw
    replace hSw : Hid (Grew WT wv) := Lib.hid hSw
    go_simp
    try with_reducible rfl
  try simp only [Act.put, List.setIfInBounds_toArray, List.set_cons_zero, List.set_cons_succ]
  refine wpAnyH_takeD (i := 38) (d := 64) (v := ?_) rfl rfl (by kernel_rfl) (by kernel_rfl) (by kernel_rfl) (fun _ _ _ h => h) (Or.inl ⟨by rfl, ?_⟩) hHeld.out ?_
  rotate_left
  · intro wv hSw
    replace hSw : Hid (Grew WT wv) := Lib.hid hSw
    go_simp
    try with_reducible rfl
  try simp only [Act.put, List.setIfInBounds_toArray, List.set_cons_zero, List.set_cons_succ]
  refine wpAnyH_takeD (i := 39) (d := 65) (v := ?_) rfl rfl (by kernel_rfl) (by kernel_rfl) (by kernel_rfl) (fun _ _ _ h => h) (Or.inl ⟨by rfl, ?_⟩) hHeld.out ?_
  rotate_left
  · intro wv hSw
    replace hSw : Hid (Grew WT wv) := Lib.hid hSw
    go_simp
    try with_reducible rfl
  try simp only [Act.put, List.setIfInBounds_toArray, List.set_cons_zero, List.set_cons_succ]
  refine wpAnyH_takeD (i := 40) (d := 66) (v := ?_) rfl rfl (by kernel_rfl) (by kernel_rfl) (by kernel_rfl) (fun _ _ _ h => h) (Or.inl ⟨by rfl, ?_⟩) hHeld.out ?_
  rotate_left
  · intro wv hSw
    replace hSw : Hid (Grew WT wv) := Lib.hid hSw
    go_simp
    try with_reducible rfl
  try simp only [Act.put, List.setIfInBounds_toArray, List.set_cons_zero, List.set_cons_succ]
  refine wpAnyH_takeD (i := 41) (d := 67) (v := ?_) rfl rfl (by kernel_rfl) (by kernel_rfl) (by kernel_rfl) (fun _ _ _ h => h) (Or.inl ⟨by rfl, ?_⟩) hHeld.out ?_
  rotate_left
  · intro wv hSw
    replace hSw : Hid (Grew WT wv) := Lib.hid hSw
    go_simp
    try with_reducible rfl
  try simp only [Act.put, List.setIfInBounds_toArray, List.set_cons_zero, List.set_cons_succ]
  refine wpAnyH_takeD (i := 43) (d := 69) (v := ?_) rfl rfl (by kernel_rfl) (by kernel_rfl) (by kernel_rfl) (fun _ _ _ h => h) (Or.inl ⟨by rfl, ?_⟩) hHeld.out ?_
  rotate_left
  · intro wv hSw
    replace hSw : Hid (Grew WT wv) := Lib.hid hSw
    go_simp
    try with_reducible rfl
  try simp only [Act.put, List.setIfInBounds_toArray, List.set_cons_zero, List.set_cons_succ]
  refine wpAnyH_takeD (i := 44) (d := 70) (v := ?_) rfl rfl (by kernel_rfl) (by kernel_rfl) (by kernel_rfl) (fun _ _ _ h => h) (Or.inl ⟨by rfl, ?_⟩) hHeld.out ?_
  rotate_left
  · intro wv hSw
    replace hSw : Hid (Grew WT wv) := Lib.hid hSw
    go_simp
    try with_reducible rfl
  try simp only [Act.put, List.setIfInBounds_toArray, List.set_cons_zero, List.set_cons_succ]
  refine wpAnyH_ready (rs := [42]) (by kernel_rfl) (by simp) ?_
  refine AllReadyH.cons rfl (fun KK hKK => ?_) AllReadyH.nil
  go_simp
  refine (ocentre_any x y _).mono ?_
  rintro e wk9 ⟨rfl, g⟩
  have gk := hHeld.out.trans g
  rw [ec.out]
  clear hHeld
  try dsimp only
  refine hKK.out _ _ gk (fun hHeld => ?_)
  clear gk hKK KK
  replace hHeld := Lib.hid (show Grew WT wk9 from hHeld)
  try simp only [Act.put, List.setIfInBounds_toArray, List.set_cons_zero, List.set_cons_succ]
  refine wpAnyH_ready (rs := [45]) (by kernel_rfl) (by simp) ?_
  refine AllReadyH.cons rfl (fun KK hKK => ?_) AllReadyH.nil
  go_simp
  refine (rcentre_any x y _).mono ?_
  rintro e wk10 ⟨rfl, g⟩
  have gk := hHeld.out.trans g
  rw [ec.out]
  clear hHeld
  try dsimp only
  refine hKK.out _ _ gk (fun hHeld => ?_)
  clear gk hKK KK
  replace hHeld := Lib.hid (show Grew WT wk10 from hHeld)
  try simp only [Act.put, List.setIfInBounds_toArray, List.set_cons_zero, List.set_cons_succ]
  refine wpAnyH_takeD (i := 46) (d := 72) (v := ?_) rfl rfl (by kernel_rfl) (by kernel_rfl) (by kernel_rfl) (fun _ _ _ h => h) (Or.inl ⟨by rfl, ?_⟩) hHeld.out ?_
  rotate_left
  · intro wv hSw
    replace hSw : Hid (Grew WT wv) := Lib.hid hSw
    go_simp
    try with_reducible rfl
  try simp only [Act.put, List.setIfInBounds_toArray, List.set_cons_zero, List.set_cons_succ]
  refine wpAnyH_takeD (i := 47) (d := 73) (v := ?_) rfl rfl (by kernel_rfl) (by kernel_rfl) (by kernel_rfl) (fun _ _ _ h => h) (Or.inl ⟨by rfl, ?_⟩) hHeld.out ?_
  rotate_left
  · intro wv hSw
    replace hSw : Hid (Grew WT wv) := Lib.hid hSw
    go_simp
    try with_reducible rfl
  try simp only [Act.put, List.setIfInBounds_toArray, List.set_cons_zero, List.set_cons_succ]
  refine wpAnyH_takeD (i := 48) (d := 74) (v := ?_) rfl rfl (by kernel_rfl) (by kernel_rfl) (by kernel_rfl) (fun _ _ _ h => h) (Or.inl ⟨by rfl, ?_⟩) hHeld.out ?_
  rotate_left
  · intro wv hSw
    replace hSw : Hid (Grew WT wv) := Lib.hid hSw
    go_simp
    try with_reducible rfl
  try simp only [Act.put, List.setIfInBounds_toArray, List.set_cons_zero, List.set_cons_succ]
  refine wpAnyH_ready (rs := [49]) (by kernel_rfl) (by simp) ?_
  refine AllReadyH.cons rfl (fun KK hKK => ?_) AllReadyH.nil
  go_simp
  refine (lives25_any _).mono ?_
  rintro e wk11 ⟨rfl, g⟩
  have gk := hHeld.out.trans g
  clear hHeld
  try dsimp only
  refine hKK.out _ _ gk (fun hHeld => ?_)
  clear gk hKK KK
  replace hHeld := Lib.hid (show Grew WT wk11 from hHeld)
  try simp only [Act.put, List.setIfInBounds_toArray, List.set_cons_zero, List.set_cons_succ]
  refine wpAnyH_takeD (i := 50) (d := 76) (v := ?_) rfl rfl (by kernel_rfl) (by kernel_rfl) (by kernel_rfl) (fun _ _ _ h => h) (Or.inl ⟨by rfl, ?_⟩) hHeld.out ?_
  rotate_left
  · intro wv hSw
    replace hSw : Hid (Grew WT wv) := Lib.hid hSw
    go_simp
    try with_reducible rfl
  try simp only [Act.put, List.setIfInBounds_toArray, List.set_cons_zero, List.set_cons_succ]
  refine wpAnyH_takeD (i := 51) (d := 6) (v := ?_) rfl rfl (by kernel_rfl) (by kernel_rfl) (by kernel_rfl) (fun _ _ _ h => h) (Or.inl ⟨by rfl, ?_⟩) hHeld.out ?_
  rotate_left
  · intro wv hSw
    replace hSw : Hid (Grew WT wv) := Lib.hid hSw
    go_simp
    try with_reducible rfl
  try simp only [Act.put, List.setIfInBounds_toArray, List.set_cons_zero, List.set_cons_succ]
  refine wpAnyH_done (by kernel_rfl) ?_ _
  have G5 := Lib.hid (G4.out.trans hHeld.out)
  clear hHeld G4
  go_wp2_with fail
  go_ret
  exact ⟨rfl, G5.out⟩
end Go.Proofs.YtngbcbncllfblaaGreat
namespace Go.Proofs.YtngbcbncllfblaaGreat
open Go.ChangeShapes Go.WideShapes Go.ChangeAt Go.RowKit

section
variable {H : Type} {enc : TypeId × Value → H} {w : World} {base : Nat} {spare : Nat → Bool} {held : Bool}

end

/-- The row's last step where only new memory was made. -/
theorem post_grew {H : Type} {enc : TypeId × Value → H} {P : Program} {f : Func} {s : ChangeSpec} {apart fresh handsOn again : Bool} {W W' : World} {args : Array Value} {v : Value} {ds gs : List (DataW H)} {before pa pv : List MemPlace}
    (hW : DataW.Whole enc P f.params.toList s.vars apart W args.toList ds gs before)
    (hres : ∀ (b : Nat) (sp : Nat → Bool) (hd : Bool), DataW.TrodAll enc P W' b sp hd f.resultTypes.toList (v.resultList f.resultTypes.size) (s.fn H (ds ++ gs)).results [])
    (hargs : ∀ sp : Nat → Bool, (∀ p ∈ before, sp p.block = true) → DataW.TrodAll enc P W' 0 sp true f.params.toList args.toList (s.fn H (ds ++ gs)).args pa)
    (hvars : ∀ sp : Nat → Bool, (∀ p ∈ before, sp p.block = true) → DataW.TrodVars enc P W' sp s.vars (s.fn H (ds ++ gs)).vars pv)
    (hps : before = pa ++ pv) (g : Grew W W')
    (hok : ∀ (j : Nat) (t : TypeId) (r : Value), f.resultTypes[j]? = some t → (v.resultList f.resultTypes.size)[j]? = some r → Value.okWide P W' .any 0 t r) :
    s.post enc P f apart fresh handsOn again W args v W' := by
  have hb := g.below
  have hlt : ∀ p ∈ before, p.block < W.heap.size := fun p hp => hW.lt p hp
  have hold : ∀ p ∈ before, (fun b => decide (b < W.heap.size)) p.block = true := fun p hp => by simpa using hlt p hp
  refine ⟨ds, gs, before, [], pa, pv, hW, hres _ _ _, hargs _ hold, hvars _ hold, World.keptBut_mono (fun p hp => ⟨hp, ?_⟩) (hb.frame (· ∈ before)), fun _ => ?_⟩
  · rw [hps, List.mem_append] at hp
    exact Or.inr hp
  · obtain ⟨_, _, _, _, _, hz, hn⟩ := hW
    refine ⟨hok, _, _, ([] ++ pa) ++ pv, ⟨[] ++ pa, pv, trodAll_append (hargs _ (fun _ _ => rfl)) (hres _ _ _), hvars _ (fun _ _ => rfl), rfl, ?_, ?_⟩, ?_⟩
    · intro b off hp
      have hin : MemPlace.cell b off ∈ before := by rw [hps]; simpa using hp
      rw [hb.frozen (hlt _ hin)]
      exact hz b off hin
    · intro ha
      have := hn ha
      rw [hps] at this
      simpa using this
    · intro p hp _
      rw [hps]
      simpa using hp
end Go.Proofs.YtngbcbncllfblaaGreat
namespace Go.Proofs.YtngbcbncllfblaaGreat
open Go.ChangeShapes Go.WideShapes Go.ChangeAt Go.RowKit

section
variable {H : Type} {enc : TypeId × Value → H} {w : World} {base : Nat} {spare : Nat → Bool} {held : Bool}

theorem cells_int : Tryz.prog.cellsOf 3 = 1 := by kernel_rfl
theorem open_num {fuel : Nat} {cs : List Value} {x : DataW H × List MemPlace} (h : DataW.trod enc Tryz.prog w base spare held fuel 3 cs = some x) :
    ∃ n : Int, cs = [.int .i64 n] ∧ -9223372036854775808 ≤ n ∧ n ≤ 9223372036854775807 := by
  obtain ⟨n, rfl, -, hw⟩ := DataW.trod_int Tryz.underlying3 h
  have := bounds_i64 hw
  exact ⟨n, rfl, this⟩
end
end Go.Proofs.YtngbcbncllfblaaGreat
namespace Go.Proofs.YtngbcbncllfblaaGreat
open Go.ChangeShapes Go.WideShapes Go.ChangeAt Go.RowKit

section
variable {H : Type} {enc : TypeId × Value → H} {w : World} {base : Nat} {spare : Nat → Bool} {held : Bool}
theorem trod_struct3 {P : Program} {t : TypeId} {f0 f1 f2 : Field} {fuel : Nat} {cs : List Value} {x : DataW H × List MemPlace} (ht : P.underlying t = some (.struct #[f0, f1, f2])) (h : DataW.trod enc P w base spare held fuel t cs = some x) :
    ∃ y0 y1 y2 n, x = (.agg [y0.1, y1.1, y2.1], y0.2 ++ (y1.2 ++ y2.2)) ∧ cs.length = P.cellsOf t ∧ DataW.trod enc P w base spare held n f0.type ((cs.drop f0.offset).take (P.cellsOf f0.type)) = some y0 ∧
      DataW.trod enc P w base spare held n f1.type ((cs.drop f1.offset).take (P.cellsOf f1.type)) = some y1 ∧ DataW.trod enc P w base spare held n f2.type ((cs.drop f2.offset).take (P.cellsOf f2.type)) = some y2 := by
  obtain ⟨xs, n, _, rfl, hl, hlen, hf⟩ := DataW.trod_struct ht h
  match xs, hlen with
  | [y0, y1, y2], _ => exact ⟨y0, y1, y2, n, by simp, hl, by simpa using hf 0 f0 rfl, by simpa using hf 1 f1 rfl, by simpa using hf 2 f2 rfl⟩
set_option maxRecDepth 100000 in
theorem open_bools {fuel : Nat} {cs : List Value} {x : DataW H × List MemPlace} (h : DataW.trod enc Tryz.prog w base spare held fuel 22 cs = some x) :
    ∃ A n c bs, cs = [.slice A n c] ∧ BoolsR w (.slice A n c) bs := by
  have e1 : Tryz.prog.cellsOf 4 = 1 := by kernel_rfl
  rcases DataW.trod_slice Tryz.underlying22 h with ⟨rfl, rfl⟩ | ⟨a, len, cap, elems, rest, n, -, rfl, rfl, -, hl, hc, he, hel, -, -⟩
  · exact ⟨none, 0, 0, [], rfl, none, 0, rfl, by simp, by omega, by simp⟩
  · rw [e1] at hel
    have key : ∀ i : Fin len, ∃ p : Bool, w.cell? (a.add i) = some (.bool p) := by
      rintro ⟨i, hi⟩
      have h1 := hel i hi
      rw [List.getElem?_eq_getElem (by omega), Option.bind_eq_some_iff] at h1
      obtain ⟨cs', h2, h3⟩ := h1
      obtain ⟨-, h4, h5⟩ := World.cells?_some h2
      obtain ⟨b, hb, -⟩ := DataW.trod_bool Tryz.underlying4 h3
      have := h5 0 (by omega)
      rw [hb] at this
      simp only [Nat.mul_one] at this
      refine ⟨b, ?_⟩
      simpa [Addr.add] using this
    refine ⟨some a, len, cap, List.ofFn fun i => Classical.choose (key i), rfl, some a, cap, by simp, by simpa using hl, by unfold maxLen at hc; omega, fun h0 => ?_⟩
    obtain ⟨b, off, sp⟩ := a
    have hsp : sp = none := by
      simp only [List.length_ofFn] at h0
      obtain ⟨p, k1⟩ := key ⟨0, h0⟩
      simpa [Addr.add] using World.cell?_spot k1
    subst hsp
    refine ⟨b, off, rfl, fun i p hp => ?_⟩
    have hi : i < len := by
      have := (List.getElem?_eq_some_iff.1 hp).1
      simpa using this
    have hp2 : p = Classical.choose (key ⟨i, hi⟩) := by
      rw [List.getElem?_eq_getElem (by simpa using hi)] at hp
      injection hp with hp
      rw [← hp]; simp
    have := Classical.choose_spec (key ⟨i, hi⟩)
    rw [← hp2, add_plain] at this
    exact this
set_option maxRecDepth 100000 in
theorem open_cells {fuel : Nat} {cs : List Value} {x : DataW H × List MemPlace} (h : DataW.trod enc Tryz.prog w base spare held fuel 24 cs = some x) :
    ∃ (W h : Int) (A : Option Addr) (n c : Nat) (bs : List Bool), cs = [.int .i64 W, .int .i64 h, .slice A n c] ∧ In64 W h ∧ BoolsR w (.slice A n c) bs := by
  obtain ⟨y0, y1, y2, n1, rfl, hl, h0, h1, h2⟩ := trod_struct3 Tryz.underlying24 h
  have e3 : Tryz.prog.cellsOf 24 = 3 := by kernel_rfl
  have eb : Tryz.prog.cellsOf 22 = 1 := by kernel_rfl
  rw [e3] at hl
  match cs, hl with
  | [a0, a1, a2], _ =>
    simp only [cells_int, eb, List.drop_zero, List.drop_succ_cons, List.take_succ_cons, List.take_zero] at h0 h1 h2
    obtain ⟨a, ha, r0⟩ := open_num h0
    obtain ⟨b, hb, r1⟩ := open_num h1
    obtain ⟨A, n, c, bs, hc, hr⟩ := open_bools h2
    injection ha with ha
    injection hb with hb
    injection hc with hc
    subst ha; subst hb; subst hc
    exact ⟨a, b, A, n, c, bs, rfl, ⟨r0.1, r0.2, r1.1, r1.2⟩, hr⟩
end
end Go.Proofs.YtngbcbncllfblaaGreat
