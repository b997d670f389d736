/- outline.level, upright: their closures; outline.rows. Conditions: at most 64 steps; what comes in reads. Plain: rows in order, each once, whatever the order; alike neighbours once. Conditions: none. Rows of structs of k cells each that hold no ints: as they read, and as a call owns them, whatever is said of an element. Conditions: none. Growth of a world, as an equation. Conditions: none. -/
import Derived.Test.YtngbcbncllfblaaGreatJRow1
import Derived.Deep.LoopGhost
import Derived.Test.YtngbcbncllfblaaGreatJBits
import Derived.Shelf.SlSortCmp.InsertionK
import Derived.Test.YtngbcbncllfblaaGreatJKit
import Derived.Sort.Grow
namespace Go.Proofs.YtngbcbncllfblaaGreat
open Go.RowKit

theorem okind_g (a b : Bool) (w : World) : Calls Tryz.prog 83 #[.bool a, .bool b] w fun e w' => e = .returned (.int .i64 (kindZ a b)) ∧ Grew w w' :=
  (okind_any a b w).mono fun _ _ ⟨h, e⟩ => ⟨h, by rw [e]; exact Grew.refl w⟩
set_option maxRecDepth 100000 in
set_option maxHeartbeats 4000000 in
theorem lev1_any (W H : Int) (A : Option Addr) (c : Nat) (bs : List Bool) (x y : Int) (B Y : Nat) (w : World) (hb : BoolsR w (.slice A bs.length c) bs) (b0 : w.cell? ⟨B, 0, none⟩ = some (.int .i64 W)) (b1 : w.cell? ⟨B, 1, none⟩ = some (.int .i64 H)) (b2 : w.cell? ⟨B, 2, none⟩ = some (.slice A bs.length c)) (y0 : w.cell? ⟨Y, 0, none⟩ = some (.int .i64 y)) (h0 : -64 ≤ y) (h1 : y ≤ 64) :
    Calls Tryz.prog 82 (#[.int .i64 x] ++ #[.pointer (some ⟨B, 0, none⟩), .pointer (some ⟨Y, 0, none⟩)]) w fun e w' => e = .returned (.int .i64 (kindZ (hasC W H bs x y) (hasC W H bs x (y - 1)))) ∧ Grew w w' := by
  show Calls Tryz.prog 82 #[.int .i64 x, .pointer (some ⟨B, 0, none⟩), .pointer (some ⟨Y, 0, none⟩)] w _
  have hy1 := Lib.hid (show IntKind.i64.wrap (y - 1) = y - 1 from IntWalk.i64_in _ (by omega))
  replace hb := Lib.hid hb
  replace b0 := Lib.hid b0
  replace b1 := Lib.hid b1
  replace b2 := Lib.hid b2
  replace y0 := Lib.hid y0
  go_enter Tryz.func82, Tryz.ntmps82
  go_wp2_with fail
  refine wp_region_held_drew (S := fun wv => Grew w wv) (by kernel_rfl) ((Grew.refl w).drew) (fun hHeld => ?_)
  replace hHeld := Lib.hid hHeld
  try simp only [Act.put, List.setIfInBounds_toArray, List.set_cons_zero, List.set_cons_succ]
  refine wpAnyH_takeD (i := 0) (d := 5) (v := ?_) rfl rfl (by kernel_rfl) (by kernel_rfl) (by kernel_rfl) (fun _ _ _ h => h) (Or.inl ⟨by rfl, ?_⟩) hHeld.out ?_
  rotate_left
  · intro wv hSw
    replace hSw : Hid (Grew w wv) := Lib.hid hSw
    have t0 := hSw.out.cell b0.out
    have t1 := hSw.out.cell b1.out
    have t2 := hSw.out.cell b2.out
    go_simp
    try with_reducible rfl
  try simp only [Act.put, List.setIfInBounds_toArray, List.set_cons_zero, List.set_cons_succ]
  refine wpAnyH_takeD (i := 1) (d := 6) (v := ?_) rfl rfl (by kernel_rfl) (by kernel_rfl) (by kernel_rfl) (fun _ _ _ h => h) (Or.inl ⟨by rfl, ?_⟩) hHeld.out ?_
  rotate_left
  · intro wv hSw
    replace hSw : Hid (Grew w wv) := Lib.hid hSw
    go_simp
    try with_reducible rfl
  try simp only [Act.put, List.setIfInBounds_toArray, List.set_cons_zero, List.set_cons_succ]
  refine wpAnyH_takeD (i := 2) (d := 7) (v := ?_) rfl rfl (by kernel_rfl) (by kernel_rfl) (by kernel_rfl) (fun _ _ _ h => h) (Or.inl ⟨by rfl, ?_⟩) hHeld.out ?_
  rotate_left
  · intro wv hSw
    replace hSw : Hid (Grew w wv) := Lib.hid hSw
    have t0 := hSw.out.cell y0.out
    go_simp
    try with_reducible rfl
  try simp only [Act.put, List.setIfInBounds_toArray, List.set_cons_zero, List.set_cons_succ]
  refine wpAnyH_takeD (i := 4) (d := 9) (v := ?_) rfl rfl (by kernel_rfl) (by kernel_rfl) (by kernel_rfl) (fun _ _ _ h => h) (Or.inl ⟨by rfl, ?_⟩) hHeld.out ?_
  rotate_left
  · intro wv hSw
    replace hSw : Hid (Grew w wv) := Lib.hid hSw
    have t0 := hSw.out.cell b0.out
    have t1 := hSw.out.cell b1.out
    have t2 := hSw.out.cell b2.out
    go_simp
    try with_reducible rfl
  try simp only [Act.put, List.setIfInBounds_toArray, List.set_cons_zero, List.set_cons_succ]
  refine wpAnyH_takeD (i := 5) (d := 10) (v := ?_) rfl rfl (by kernel_rfl) (by kernel_rfl) (by kernel_rfl) (fun _ _ _ h => h) (Or.inl ⟨by rfl, ?_⟩) hHeld.out ?_
  rotate_left
  · intro wv hSw
    replace hSw : Hid (Grew w wv) := Lib.hid hSw
    go_simp
    try with_reducible rfl
  try simp only [Act.put, List.setIfInBounds_toArray, List.set_cons_zero, List.set_cons_succ]
  refine wpAnyH_takeD (i := 6) (d := 11) (v := ?_) rfl rfl (by kernel_rfl) (by kernel_rfl) (by kernel_rfl) (fun _ _ _ h => h) (Or.inl ⟨by rfl, ?_⟩) hHeld.out ?_
  rotate_left
  · intro wv hSw
    replace hSw : Hid (Grew w wv) := Lib.hid hSw
    have t0 := hSw.out.cell y0.out
    go_simp
    try with_reducible rfl
  try simp only [Act.put, List.setIfInBounds_toArray, List.set_cons_zero, List.set_cons_succ]
  refine wpAnyH_takeD (i := 7) (d := 12) (v := ?_) rfl rfl (by kernel_rfl) (by kernel_rfl) (by kernel_rfl) (fun _ _ _ h => h) (Or.inl ⟨by rfl, ?_⟩) hHeld.out ?_
  rotate_left
  · intro wv hSw
    replace hSw : Hid (Grew w wv) := Lib.hid hSw
    have t0 := hy1.out
    go_simp
    try with_reducible rfl
  try simp only [Act.put, List.setIfInBounds_toArray, List.set_cons_zero, List.set_cons_succ]
  refine wpAnyH_ready (rs := [3]) (by kernel_rfl) (by simp) ?_
  refine AllReadyH.cons rfl (fun KK hKK => ?_) AllReadyH.nil
  go_simp
  refine (khas_any W H A c bs x y _ (hb.out.grew hHeld.out)).mono ?_
  rintro e wk1 ⟨rfl, g⟩
  have gk := hHeld.out.trans g
  clear hHeld
  try dsimp only
  refine hKK.out _ _ gk (fun hHeld => ?_)
  clear gk hKK KK
  replace hHeld := Lib.hid (show Grew w wk1 from hHeld)
  try simp only [Act.put, List.setIfInBounds_toArray, List.set_cons_zero, List.set_cons_succ]
  refine wpAnyH_ready (rs := [8]) (by kernel_rfl) (by simp) ?_
  refine AllReadyH.cons rfl (fun KK hKK => ?_) AllReadyH.nil
  go_simp
  refine (khas_any W H A c bs x (y - 1) _ (hb.out.grew hHeld.out)).mono ?_
  rintro e wk2 ⟨rfl, g⟩
  have gk := hHeld.out.trans g
  clear hHeld
  try dsimp only
  refine hKK.out _ _ gk (fun hHeld => ?_)
  clear gk hKK KK
  replace hHeld := Lib.hid (show Grew w wk2 from hHeld)
  try simp only [Act.put, List.setIfInBounds_toArray, List.set_cons_zero, List.set_cons_succ]
  refine wpAnyH_ready (rs := [9]) (by kernel_rfl) (by simp) ?_
  refine AllReadyH.cons rfl (fun KK hKK => ?_) AllReadyH.nil
  go_simp
  refine (okind_g _ _ _).mono ?_
  rintro e wk3 ⟨rfl, g⟩
  have gk := hHeld.out.trans g
  clear hHeld
  try dsimp only
  refine hKK.out _ _ gk (fun hHeld => ?_)
  clear gk hKK KK
  replace hHeld := Lib.hid (show Grew w wk3 from hHeld)
  try simp only [Act.put, List.setIfInBounds_toArray, List.set_cons_zero, List.set_cons_succ]
  refine wpAnyH_takeD (i := 10) (d := 4) (v := ?_) rfl rfl (by kernel_rfl) (by kernel_rfl) (by kernel_rfl) (fun _ _ _ h => h) (Or.inl ⟨by rfl, ?_⟩) hHeld.out ?_
  rotate_left
  · intro wv hSw
    replace hSw : Hid (Grew w wv) := Lib.hid hSw
    go_simp
    try with_reducible rfl
  try simp only [Act.put, List.setIfInBounds_toArray, List.set_cons_zero, List.set_cons_succ]
  refine wpAnyH_done (by kernel_rfl) ?_ _
  go_wp2_with fail
  go_ret
  exact ⟨rfl, hHeld.out⟩
set_option maxRecDepth 100000 in
set_option maxHeartbeats 4000000 in
theorem upr1_any (W H : Int) (A : Option Addr) (c : Nat) (bs : List Bool) (x y : Int) (B Y : Nat) (w : World) (hb : BoolsR w (.slice A bs.length c) bs) (b0 : w.cell? ⟨B, 0, none⟩ = some (.int .i64 W)) (b1 : w.cell? ⟨B, 1, none⟩ = some (.int .i64 H)) (b2 : w.cell? ⟨B, 2, none⟩ = some (.slice A bs.length c)) (y0 : w.cell? ⟨Y, 0, none⟩ = some (.int .i64 y)) (h0 : -64 ≤ y) (h1 : y ≤ 64) :
    Calls Tryz.prog 92 (#[.int .i64 x] ++ #[.pointer (some ⟨B, 0, none⟩), .pointer (some ⟨Y, 0, none⟩)]) w fun e w' => e = .returned (.int .i64 (kindZ (hasC W H bs (y - 1) x) (hasC W H bs y x))) ∧ Grew w w' := by
  show Calls Tryz.prog 92 #[.int .i64 x, .pointer (some ⟨B, 0, none⟩), .pointer (some ⟨Y, 0, none⟩)] w _
  have hy1 := Lib.hid (show IntKind.i64.wrap (y - 1) = y - 1 from IntWalk.i64_in _ (by omega))
  replace hb := Lib.hid hb
  replace b0 := Lib.hid b0
  replace b1 := Lib.hid b1
  replace b2 := Lib.hid b2
  replace y0 := Lib.hid y0
  go_enter Tryz.func92, Tryz.ntmps92
  go_wp2_with fail
  refine wp_region_held_drew (S := fun wv => Grew w wv) (by kernel_rfl) ((Grew.refl w).drew) (fun hHeld => ?_)
  replace hHeld := Lib.hid hHeld
  try simp only [Act.put, List.setIfInBounds_toArray, List.set_cons_zero, List.set_cons_succ]
  refine wpAnyH_takeD (i := 0) (d := 5) (v := ?_) rfl rfl (by kernel_rfl) (by kernel_rfl) (by kernel_rfl) (fun _ _ _ h => h) (Or.inl ⟨by rfl, ?_⟩) hHeld.out ?_
  rotate_left
  · intro wv hSw
    replace hSw : Hid (Grew w wv) := Lib.hid hSw
    have t0 := hSw.out.cell b0.out
    have t1 := hSw.out.cell b1.out
    have t2 := hSw.out.cell b2.out
    go_simp
    try with_reducible rfl
  try simp only [Act.put, List.setIfInBounds_toArray, List.set_cons_zero, List.set_cons_succ]
  refine wpAnyH_takeD (i := 1) (d := 6) (v := ?_) rfl rfl (by kernel_rfl) (by kernel_rfl) (by kernel_rfl) (fun _ _ _ h => h) (Or.inl ⟨by rfl, ?_⟩) hHeld.out ?_
  rotate_left
  · intro wv hSw
    replace hSw : Hid (Grew w wv) := Lib.hid hSw
    have t0 := hSw.out.cell y0.out
    go_simp
    try with_reducible rfl
  try simp only [Act.put, List.setIfInBounds_toArray, List.set_cons_zero, List.set_cons_succ]
  refine wpAnyH_takeD (i := 2) (d := 7) (v := ?_) rfl rfl (by kernel_rfl) (by kernel_rfl) (by kernel_rfl) (fun _ _ _ h => h) (Or.inl ⟨by rfl, ?_⟩) hHeld.out ?_
  rotate_left
  · intro wv hSw
    replace hSw : Hid (Grew w wv) := Lib.hid hSw
    have t0 := hy1.out
    go_simp
    try with_reducible rfl
  try simp only [Act.put, List.setIfInBounds_toArray, List.set_cons_zero, List.set_cons_succ]
  refine wpAnyH_takeD (i := 3) (d := 8) (v := ?_) rfl rfl (by kernel_rfl) (by kernel_rfl) (by kernel_rfl) (fun _ _ _ h => h) (Or.inl ⟨by rfl, ?_⟩) hHeld.out ?_
  rotate_left
  · intro wv hSw
    replace hSw : Hid (Grew w wv) := Lib.hid hSw
    go_simp
    try with_reducible rfl
  try simp only [Act.put, List.setIfInBounds_toArray, List.set_cons_zero, List.set_cons_succ]
  refine wpAnyH_takeD (i := 5) (d := 10) (v := ?_) rfl rfl (by kernel_rfl) (by kernel_rfl) (by kernel_rfl) (fun _ _ _ h => h) (Or.inl ⟨by rfl, ?_⟩) hHeld.out ?_
  rotate_left
  · intro wv hSw
    replace hSw : Hid (Grew w wv) := Lib.hid hSw
    have t0 := hSw.out.cell b0.out
    have t1 := hSw.out.cell b1.out
    have t2 := hSw.out.cell b2.out
    go_simp
    try with_reducible rfl
  try simp only [Act.put, List.setIfInBounds_toArray, List.set_cons_zero, List.set_cons_succ]
  refine wpAnyH_takeD (i := 6) (d := 11) (v := ?_) rfl rfl (by kernel_rfl) (by kernel_rfl) (by kernel_rfl) (fun _ _ _ h => h) (Or.inl ⟨by rfl, ?_⟩) hHeld.out ?_
  rotate_left
  · intro wv hSw
    replace hSw : Hid (Grew w wv) := Lib.hid hSw
    have t0 := hSw.out.cell y0.out
    go_simp
    try with_reducible rfl
  try simp only [Act.put, List.setIfInBounds_toArray, List.set_cons_zero, List.set_cons_succ]
  refine wpAnyH_takeD (i := 7) (d := 12) (v := ?_) rfl rfl (by kernel_rfl) (by kernel_rfl) (by kernel_rfl) (fun _ _ _ h => h) (Or.inl ⟨by rfl, ?_⟩) hHeld.out ?_
  rotate_left
  · intro wv hSw
    replace hSw : Hid (Grew w wv) := Lib.hid hSw
    go_simp
    try with_reducible rfl
  try simp only [Act.put, List.setIfInBounds_toArray, List.set_cons_zero, List.set_cons_succ]
  refine wpAnyH_ready (rs := [4]) (by kernel_rfl) (by simp) ?_
  refine AllReadyH.cons rfl (fun KK hKK => ?_) AllReadyH.nil
  go_simp
  refine (khas_any W H A c bs (y - 1) x _ (hb.out.grew hHeld.out)).mono ?_
  rintro e wk1 ⟨rfl, g⟩
  have gk := hHeld.out.trans g
  clear hHeld
  try dsimp only
  refine hKK.out _ _ gk (fun hHeld => ?_)
  clear gk hKK KK
  replace hHeld := Lib.hid (show Grew w wk1 from hHeld)
  try simp only [Act.put, List.setIfInBounds_toArray, List.set_cons_zero, List.set_cons_succ]
  refine wpAnyH_ready (rs := [8]) (by kernel_rfl) (by simp) ?_
  refine AllReadyH.cons rfl (fun KK hKK => ?_) AllReadyH.nil
  go_simp
  refine (khas_any W H A c bs y x _ (hb.out.grew hHeld.out)).mono ?_
  rintro e wk2 ⟨rfl, g⟩
  have gk := hHeld.out.trans g
  clear hHeld
  try dsimp only
  refine hKK.out _ _ gk (fun hHeld => ?_)
  clear gk hKK KK
  replace hHeld := Lib.hid (show Grew w wk2 from hHeld)
  try simp only [Act.put, List.setIfInBounds_toArray, List.set_cons_zero, List.set_cons_succ]
  refine wpAnyH_ready (rs := [9]) (by kernel_rfl) (by simp) ?_
  refine AllReadyH.cons rfl (fun KK hKK => ?_) AllReadyH.nil
  go_simp
  refine (okind_g _ _ _).mono ?_
  rintro e wk3 ⟨rfl, g⟩
  have gk := hHeld.out.trans g
  clear hHeld
  try dsimp only
  refine hKK.out _ _ gk (fun hHeld => ?_)
  clear gk hKK KK
  replace hHeld := Lib.hid (show Grew w wk3 from hHeld)
  try simp only [Act.put, List.setIfInBounds_toArray, List.set_cons_zero, List.set_cons_succ]
  refine wpAnyH_takeD (i := 10) (d := 4) (v := ?_) rfl rfl (by kernel_rfl) (by kernel_rfl) (by kernel_rfl) (fun _ _ _ h => h) (Or.inl ⟨by rfl, ?_⟩) hHeld.out ?_
  rotate_left
  · intro wv hSw
    replace hSw : Hid (Grew w wv) := Lib.hid hSw
    go_simp
    try with_reducible rfl
  try simp only [Act.put, List.setIfInBounds_toArray, List.set_cons_zero, List.set_cons_succ]
  refine wpAnyH_done (by kernel_rfl) ?_ _
  go_wp2_with fail
  go_ret
  exact ⟨rfl, hHeld.out⟩
set_option maxRecDepth 100000 in
set_option maxHeartbeats 4000000 in
theorem lev2_any (x1 x2 y s : Int) (Y : Nat) (w : World) (y0 : w.cell? ⟨Y, 0, none⟩ = some (.int .i64 y)) (hs : s = 1 ∨ s = 2) (h0 : 0 ≤ x1 ∧ x1 ≤ 64) (h1 : 0 ≤ x2 ∧ x2 ≤ 64) (h2 : 0 ≤ y ∧ y ≤ 64) :
    Calls Tryz.prog 86 (#[.int .i64 x1, .int .i64 x2, .int .i64 s] ++ #[.pointer (some ⟨Y, 0, none⟩)]) w fun e w' => e = .returned (if s = 1 then segV (256 * x1) (256 * y) (256 * x2) (256 * y) else segV (256 * x2) (256 * y) (256 * x1) (256 * y)) ∧ Grew w w' := by
  show Calls Tryz.prog 86 #[.int .i64 x1, .int .i64 x2, .int .i64 s, .pointer (some ⟨Y, 0, none⟩)] w _
  have k0 := Lib.hid h0
  have k1 := Lib.hid h1
  have k2 := Lib.hid h2
  rcases hs with rfl | rfl
  · go_enter Tryz.func86, Tryz.ntmps86
    go_upto_region 1 with fail
    refine gen_wp ?_
    intro W0 hW0
    have G0 : Grew w W0 := by rw [hW0]; exact (Grew.refl w).alloc _
    have R : Res4 W0 (w.heap.size) 0 (.int .i64 0) (.int .i64 0) (.int .i64 0) (.int .i64 0) := by rw [hW0]; exact ⟨by simp [go_sem], by simp [go_sem], by simp [go_sem], by simp [go_sem], by simp [go_sem], by simp [go_sem], by simp [go_sem], by simp [go_sem], by simp⟩
    replace R := Lib.hid R
    have z0 : w.heap.size < W0.heap.size := by rw [hW0]; simp <;> omega
    replace z0 := Lib.hid z0
    clear hW0
    replace G0 := Lib.hid G0
    have y1 := G0.out.cell y0
    go_wp2_with fail
    refine (oway_any x1 y x2 y true _ (by omega) (by omega) (by omega) (by omega)).mono ?_
    rintro e w1 ⟨rfl, g1⟩
    replace R := Lib.hid (R.out.grew g1)
    replace z0 := Lib.hid (Nat.lt_of_lt_of_le z0.out g1.size)
    replace G0 := Lib.hid (G0.out.trans g1)
    clear g1 y1 h0 h1 h2
    obtain ⟨R0, R1, R2, R3, Rf0, Rf1, Rf2, Rf3, Rs⟩ := R.out
    go_wp2_with fail
    refine gen_post ?_
    intro W9 hW9
    obtain ⟨q0, q1, q2, q3, qG⟩ := store4 R.out hW9
    have GE := qG w (by omega) G0.out
    clear qG hW9
    exact bodyPost_ret (v := .agg #[.int .i64 (256 * x1), .int .i64 (256 * y), .int .i64 (256 * x2), .int .i64 (256 * y)]) (by simp [results, Tryz.results86, go_sem, q0, q1, q2, q3]) rfl ⟨rfl, GE⟩
  · go_enter Tryz.func86, Tryz.ntmps86
    go_upto_region 1 with fail
    refine gen_wp ?_
    intro W0 hW0
    have G0 : Grew w W0 := by rw [hW0]; exact (Grew.refl w).alloc _
    have R : Res4 W0 (w.heap.size) 0 (.int .i64 0) (.int .i64 0) (.int .i64 0) (.int .i64 0) := by rw [hW0]; exact ⟨by simp [go_sem], by simp [go_sem], by simp [go_sem], by simp [go_sem], by simp [go_sem], by simp [go_sem], by simp [go_sem], by simp [go_sem], by simp⟩
    replace R := Lib.hid R
    have z0 : w.heap.size < W0.heap.size := by rw [hW0]; simp <;> omega
    replace z0 := Lib.hid z0
    clear hW0
    replace G0 := Lib.hid G0
    have y1 := G0.out.cell y0
    go_wp2_with fail
    refine (oway_any x1 y x2 y false _ (by omega) (by omega) (by omega) (by omega)).mono ?_
    rintro e w1 ⟨rfl, g1⟩
    replace R := Lib.hid (R.out.grew g1)
    replace z0 := Lib.hid (Nat.lt_of_lt_of_le z0.out g1.size)
    replace G0 := Lib.hid (G0.out.trans g1)
    clear g1 y1 h0 h1 h2
    obtain ⟨R0, R1, R2, R3, Rf0, Rf1, Rf2, Rf3, Rs⟩ := R.out
    go_wp2_with fail
    refine gen_post ?_
    intro W9 hW9
    obtain ⟨q0, q1, q2, q3, qG⟩ := store4 R.out hW9
    have GE := qG w (by omega) G0.out
    clear qG hW9
    exact bodyPost_ret (v := .agg #[.int .i64 (256 * x2), .int .i64 (256 * y), .int .i64 (256 * x1), .int .i64 (256 * y)]) (by simp [results, Tryz.results86, go_sem, q0, q1, q2, q3]) rfl ⟨rfl, GE⟩
set_option maxRecDepth 100000 in
set_option maxHeartbeats 4000000 in
theorem upr2_any (x1 x2 y s : Int) (Y : Nat) (w : World) (y0 : w.cell? ⟨Y, 0, none⟩ = some (.int .i64 y)) (hs : s = 1 ∨ s = 2) (h0 : 0 ≤ x1 ∧ x1 ≤ 64) (h1 : 0 ≤ x2 ∧ x2 ≤ 64) (h2 : 0 ≤ y ∧ y ≤ 64) :
    Calls Tryz.prog 93 (#[.int .i64 x1, .int .i64 x2, .int .i64 s] ++ #[.pointer (some ⟨Y, 0, none⟩)]) w fun e w' => e = .returned (if s = 1 then segV (256 * y) (256 * x1) (256 * y) (256 * x2) else segV (256 * y) (256 * x2) (256 * y) (256 * x1)) ∧ Grew w w' := by
  show Calls Tryz.prog 93 #[.int .i64 x1, .int .i64 x2, .int .i64 s, .pointer (some ⟨Y, 0, none⟩)] w _
  have k0 := Lib.hid h0
  have k1 := Lib.hid h1
  have k2 := Lib.hid h2
  rcases hs with rfl | rfl
  · go_enter Tryz.func93, Tryz.ntmps93
    go_upto_region 1 with fail
    refine gen_wp ?_
    intro W0 hW0
    have G0 : Grew w W0 := by rw [hW0]; exact (Grew.refl w).alloc _
    have R : Res4 W0 (w.heap.size) 0 (.int .i64 0) (.int .i64 0) (.int .i64 0) (.int .i64 0) := by rw [hW0]; exact ⟨by simp [go_sem], by simp [go_sem], by simp [go_sem], by simp [go_sem], by simp [go_sem], by simp [go_sem], by simp [go_sem], by simp [go_sem], by simp⟩
    replace R := Lib.hid R
    have z0 : w.heap.size < W0.heap.size := by rw [hW0]; simp <;> omega
    replace z0 := Lib.hid z0
    clear hW0
    replace G0 := Lib.hid G0
    have y1 := G0.out.cell y0
    go_wp2_with fail
    refine (oway_any y x1 y x2 true _ (by omega) (by omega) (by omega) (by omega)).mono ?_
    rintro e w1 ⟨rfl, g1⟩
    replace R := Lib.hid (R.out.grew g1)
    replace z0 := Lib.hid (Nat.lt_of_lt_of_le z0.out g1.size)
    replace G0 := Lib.hid (G0.out.trans g1)
    clear g1 y1 h0 h1 h2
    obtain ⟨R0, R1, R2, R3, Rf0, Rf1, Rf2, Rf3, Rs⟩ := R.out
    go_wp2_with fail
    refine gen_post ?_
    intro W9 hW9
    obtain ⟨q0, q1, q2, q3, qG⟩ := store4 R.out hW9
    have GE := qG w (by omega) G0.out
    clear qG hW9
    exact bodyPost_ret (v := .agg #[.int .i64 (256 * y), .int .i64 (256 * x1), .int .i64 (256 * y), .int .i64 (256 * x2)]) (by simp [results, Tryz.results93, go_sem, q0, q1, q2, q3]) rfl ⟨rfl, GE⟩
  · go_enter Tryz.func93, Tryz.ntmps93
    go_upto_region 1 with fail
    refine gen_wp ?_
    intro W0 hW0
    have G0 : Grew w W0 := by rw [hW0]; exact (Grew.refl w).alloc _
    have R : Res4 W0 (w.heap.size) 0 (.int .i64 0) (.int .i64 0) (.int .i64 0) (.int .i64 0) := by rw [hW0]; exact ⟨by simp [go_sem], by simp [go_sem], by simp [go_sem], by simp [go_sem], by simp [go_sem], by simp [go_sem], by simp [go_sem], by simp [go_sem], by simp⟩
    replace R := Lib.hid R
    have z0 : w.heap.size < W0.heap.size := by rw [hW0]; simp <;> omega
    replace z0 := Lib.hid z0
    clear hW0
    replace G0 := Lib.hid G0
    have y1 := G0.out.cell y0
    go_wp2_with fail
    refine (oway_any y x1 y x2 false _ (by omega) (by omega) (by omega) (by omega)).mono ?_
    rintro e w1 ⟨rfl, g1⟩
    replace R := Lib.hid (R.out.grew g1)
    replace z0 := Lib.hid (Nat.lt_of_lt_of_le z0.out g1.size)
    replace G0 := Lib.hid (G0.out.trans g1)
    clear g1 y1 h0 h1 h2
    obtain ⟨R0, R1, R2, R3, Rf0, Rf1, Rf2, Rf3, Rs⟩ := R.out
    go_wp2_with fail
    refine gen_post ?_
    intro W9 hW9
    obtain ⟨q0, q1, q2, q3, qG⟩ := store4 R.out hW9
    have GE := qG w (by omega) G0.out
    clear qG hW9
    exact bodyPost_ret (v := .agg #[.int .i64 (256 * y), .int .i64 (256 * x2), .int .i64 (256 * y), .int .i64 (256 * x1)]) (by simp [results, Tryz.results93, go_sem, q0, q1, q2, q3]) rfl ⟨rfl, GE⟩

theorem segs_app1 {w : World} {base : Nat} {v : Value} {l : List SegZ} {a0 a1 a2 a3 : Int} (hO : w.ownsRow base 76 4 v l.length (segVals l)) (hl : l.length ≤ 1048576) (hbase : base ≤ w.heap.size) (ty : TypeId) :
    ∃ v' w', (Builtin.append_ #[29, 29] ty #[v, .slice (some ⟨w.heap.size, 0, none⟩) 1 1]).run Tryz.prog (w.alloc (.cells #[.int .i64 a0, .int .i64 a1, .int .i64 a2, .int .i64 a3] 76)) = .ok v' w' ∧ w'.ownsRow base 76 4 v' (l ++ [((a0, a1), a2, a3)]).length (segVals (l ++ [((a0, a1), a2, a3)])) ∧ ∀ W, W.heap.size ≤ base → Grew W w → Grew W w' := by
  obtain ⟨i, hi, hz, hsize, hbyt⟩ := info_parts info_seg
  have hown := hO.alloc (.cells #[.int .i64 a0, .int .i64 a1, .int .i64 a2, .int .i64 a3] 76)
  have hnews : ∀ j u, (segVals [((a0, a1), a2, a3)])[j]? = some u → (w.alloc (.cells #[.int .i64 a0, .int .i64 a1, .int .i64 a2, .int .i64 a3] 76)).cell? ((⟨w.heap.size, 0, none⟩ : Addr).add j) = some u := by
    intro j u hu
    have hadd : (⟨w.heap.size, 0, none⟩ : Addr).add j = ⟨w.heap.size, j, none⟩ := by unfold Addr.add; split <;> simp_all
    rw [hadd, cell_of_row _ w.heap.size j _ 76 (0, 0) (heap_alloc_new w _)]
    exact (show (segVals [((a0, a1), a2, a3)])[j]? = #[Value.int .i64 a0, .int .i64 a1, .int .i64 a2, .int .i64 a3][j]? from (List.getElem?_toArray (xs := segVals [((a0, a1), a2, a3)]) (i := j)).symm) ▸ hu
  obtain ⟨v', w', hr, h2, h3, h4⟩ := run_append_own (P := Tryz.prog) _ base 29 ty 76 i _ 4 32 Tryz.underlying29 hi hz hsize hbyt rfl (by omega) _ l.length _ hown ⟨w.heap.size, 0, none⟩ 1 1 (segVals [((a0, a1), a2, a3)]) (segVals_len _) hnews (segVals_one _) (by unfold maxLen; omega) (by omega) (by simp; omega)
  have hd := drawn_append (P := Tryz.prog) _ base 29 ty 76 i _ 4 32 Tryz.underlying29 hi hz hsize hbyt (by omega) _ l.length _ hown ⟨w.heap.size, 0, none⟩ 1 1 (segVals [((a0, a1), a2, a3)]) (segVals_len _) hnews (segVals_one _) (by unfold maxLen; omega) (by omega) v' w' hr
  refine ⟨v', w', hr, ?_, fun W hW hG => (hG.alloc _).grown h3 hd fun b hb => Nat.le_trans hW (hO.lt b hb).1⟩
  rw [segVals_snoc, List.length_append]
  exact h2
theorem wpList_appSeg {w : World} {base : Nat} {v : Value} {l : List SegZ} {a0 a1 a2 a3 : Int} {ops : Array Oper} {rest : List Oper} {o : Oper} {a : Act} {Q : Exit → Act → World → Prop} (hgd : o.guard = none) (s x : Operand)
    (ho : o.op = .call { callee := .builtin .append, args := #[s, x], argTypes := #[29, 29] }) (hs : a.eval s = v) (hx : a.eval x = .slice (some ⟨w.heap.size, 0, none⟩) 1 1)
    (hO : w.ownsRow base 76 4 v l.length (segVals l)) (hl : l.length ≤ 1048576) (hbase : base ≤ w.heap.size)
    (h : ∀ v' w', w'.ownsRow base 76 4 v' (l ++ [((a0, a1), a2, a3)]).length (segVals (l ++ [((a0, a1), a2, a3)])) → (∀ W, W.heap.size ≤ base → Grew W w → Grew W w') → wpList Tryz.prog ops Q rest (a.put o.dst v') w') : wpList Tryz.prog ops Q (o :: rest) a (w.alloc (.cells #[.int .i64 a0, .int .i64 a1, .int .i64 a2, .int .i64 a3] 76)) := by
  refine wpList_plain hgd fun _ hK => ?_
  obtain ⟨v', w', hr, h1, h2⟩ := segs_app1 (a0 := a0) (a1 := a1) (a2 := a2) (a3 := a3) hO hl hbase o.type
  unfold Oper.wp execOp
  simp only [ho, resolve, invoke, builtin, Sem.run_bind, Sem.run_pure, Result.andThen_ok, List.map_toArray, List.map_cons, List.map_nil, hs, hx, hr]
  exact hK _ _ (h v' w' h1 h2)

set_option maxRecDepth 100000 in
set_option maxHeartbeats 8000000 in
theorem rows_any (a : Nat → Int) (mk : Nat × Nat → SegZ) (n : Nat) (hn : n ≤ 64) (fA fP : Nat) (cA cP : Array Value) (w : World) (eA : ∀ args w, (callFunc fA args).run Tryz.prog w = .ok (.enter fA args) w) (eP : ∀ args w, (callFunc fP args).run Tryz.prog w = .ok (.enter fP args) w)
    (hA : ∀ (W : World) (i : Nat), i < n → Grew w W → Calls Tryz.prog fA (#[.int .i64 i] ++ cA) W fun e w' => e = .returned (.int .i64 (a i)) ∧ Grew W w')
    (hP : ∀ (W : World) (f t : Nat), f < t → t ≤ n → a f ≠ 0 → Grew w W → Calls Tryz.prog fP (#[.int .i64 f, .int .i64 t, .int .i64 (a f)] ++ cP) W fun e w' => e = .returned (segV (mk (f, t)).1.1 (mk (f, t)).1.2 (mk (f, t)).2.1 (mk (f, t)).2.2) ∧ Grew W w') :
    Calls Tryz.prog 85 #[.int .i64 n, .func (.func fA) #[] cA, .func (.func fP) #[] cP] w fun e w' => ∃ v' l, e = .returned v' ∧ Runs a n n l ∧ w'.ownsRow w.heap.size 76 4 v' (l.map mk).length (segVals (l.map mk)) ∧ Grew w w' := by
  have eA' := Lib.hid eA
  have eP' := Lib.hid eP
  replace hA := Lib.hid hA
  replace hP := Lib.hid hP
  go_enter Tryz.func85, Tryz.ntmps85
  go_wp2_with fail
  go_loopg [7, 8] n (fun gk s7 s8 wr => ∃ (i : Nat) (l : List (Nat × Nat)), gk + i = n ∧ s8 = .int .i64 i ∧ Hid (Runs a n i l) ∧ Hid (i = 0 ∨ i = n ∨ a (i - 1) ≠ a i) ∧ wr.ownsRow w.heap.size 76 4 s7 (l.map mk).length (segVals (l.map mk)) ∧ Grew w wr)
  case atStart => exact ⟨0, [], rfl, rfl, Lib.hid (Runs.nil a n), Lib.hid (.inl rfl), World.ownsRow_nil _ _ _ _, Grew.refl _⟩
  case round =>
    obtain ⟨i, l, hgi, rfl, hR, hb, hO, hG⟩ := hrel
    by_cases hi : i < n
    · have hil : (i : Int) < (n : Int) := by omega
      have hll := hR.out.len
      replace hO := Lib.hid hO
      replace hG := Lib.hid hG
      go_wp2_with fail
      refine (hA.out _ i hi hG.out).mono ?_
      rintro e w1 ⟨rfl, g1⟩
      have hO1 := Lib.hid (ownsRow_grew hO.out g1)
      have hG1 := Lib.hid (hG.out.trans g1)
      obtain ⟨G, rfl⟩ : ∃ G : Nat, G = gk := ⟨_, rfl⟩
      clear g1 hO hG
      go_wp2_with fail
      go_loopg [8] (n - i) (fun gk s8 wx => ∃ j : Nat, gk + j = n ∧ s8 = .int .i64 j ∧ i ≤ j ∧ Hid (∀ k, i ≤ k → k < j → a k = a i) ∧ Grew w1 wx)
      case atStart => exact ⟨i, by omega, rfl, Nat.le_refl _, Lib.hid (fun k h1 h2 => by omega), Grew.refl _⟩
      case round =>
        obtain ⟨j, hj, rfl, hij0, hall, hx⟩ := hrel
        have hO2 := Lib.hid (ownsRow_grew hO1.out hx)
        have hI := Lib.hid (hG1.out.trans hx)
        have hGx := Lib.hid hx
        clear hO1 hG1 hx
        by_cases hjlt : j < n
        · have hjl : (j : Int) < (n : Int) := by omega
          go_wp2_with fail
          refine (hA.out _ j hjlt hI.out).mono ?_
          rintro e w2 ⟨rfl, g2⟩
          replace hO2 := Lib.hid (ownsRow_grew hO2.out g2)
          have hI2 := Lib.hid (hI.out.trans g2)
          have gx := Lib.hid (hGx.out.trans g2)
          clear g2
          by_cases ea : a j = a i
          · have hall2 := Lib.hid (show ∀ k, i ≤ k → k < j + 1 → a k = a i from fun k h1 h2 => by
              by_cases h : k = j
              · rw [h]; exact ea
              · exact hall.out k h1 (by omega))
            clear hI hO2
            go_wp2_with fail
            go_roundg (gk - 1)
            case rel => exact ⟨j + 1, by omega, by go_num, by omega, hall2, gx.out⟩
            case measure => omega
          · replace hI := hI2
            have hij : i < j := by
              rcases Nat.lt_or_ge i j with h | h
              · exact h
              · exact absurd (by rw [show j = i by omega]) ea
            have hjn : j ≤ n := by omega
            have hend := Lib.hid (show j = n ∨ a j ≠ a i from .inr ea)
            clear hI2 gx
            have hbn := Lib.hid (show i = 0 ∨ a (i - 1) ≠ a i from hb.out.elim .inl (fun h => h.elim (fun h => by omega) .inr))
            by_cases h0 : a i = 0
            · have hR2 := Lib.hid (show Runs a n j l by have := hR.out.next hbn.out hij hjn hall.out hend.out; rw [if_pos h0, List.append_nil] at this; exact this)
              have hb2 := Lib.hid (show j = 0 ∨ j = n ∨ a (j - 1) ≠ a j from hend.out.elim (fun h => .inr (.inl h)) (fun h => .inr (.inr (by rw [hall.out (j - 1) (by omega) (by omega)]; exact fun e => h e.symm))))
              clear hall hend hbn hb hR
              go_wp2_with fail
              go_roundg (n - j)
              case rel => exact ⟨j, l, by omega, rfl, hR2, hb2, hO2.out, hI.out⟩
              case measure => omega
            · have hR2 := Lib.hid (show Runs a n j (l ++ [(i, j)]) by have := hR.out.next hbn.out hij hjn hall.out hend.out; rw [if_neg h0] at this; exact this)
              have hb2 := Lib.hid (show j = 0 ∨ j = n ∨ a (j - 1) ≠ a j from hend.out.elim (fun h => .inr (.inl h)) (fun h => .inr (.inr (by rw [hall.out (j - 1) (by omega) (by omega)]; exact fun e => h e.symm))))
              clear hall hend hbn hb hR
              go_wp2_with fail
              refine (hP.out _ i j hij hjn h0 hI.out).mono ?_
              rintro e w3 ⟨rfl, g3⟩
              have hI2 := Lib.hid (hI.out.trans g3)
              have hO3 := Lib.hid (ownsRow_grew hO2.out g3)
              have hsz := hI2.out.size
              have hml : (l.map mk).length ≤ 1048576 := by rw [List.length_map]; omega
              have hmk : l.map mk ++ [mk (i, j)] = (l ++ [(i, j)]).map mk := by rw [List.map_append]; rfl
              replace hmk := Lib.hid hmk
              obtain ⟨⟨⟨m0, m1⟩, m2, m3⟩, hms⟩ : ∃ s : SegZ, mk (i, j) = s := ⟨_, rfl⟩
              rw [hms]
              clear g3 hI hO2
              go_wp2_with (first | fail | (at_builtin; (refine wpList_appSeg rfl (.tmp 32) (.tmp 38) rfl rfl rfl hO3.out hml hsz ?_); intro vB wzB hOB hGB))
              have gzB := Lib.hid (hGB w (Nat.le_refl _) hI2.out)
              rw [← hms, hmk.out] at hOB
              replace hOB := Lib.hid hOB
              clear hGB hO3 hI2
              go_wp2_with fail
              go_roundg (n - j)
              case rel => exact ⟨j, l ++ [(i, j)], by omega, rfl, hR2, hb2, hOB.out, gzB.out⟩
              case measure => omega
        · have ej : j = n := by omega
          have hjl : ¬ (j : Int) < (n : Int) := by omega
          have hij : i < j := by omega
          have hjn : j ≤ n := by omega
          have hend := Lib.hid (show j = n ∨ a j ≠ a i from .inl ej)
          clear ej
          have hbn := Lib.hid (show i = 0 ∨ a (i - 1) ≠ a i from hb.out.elim .inl (fun h => h.elim (fun h => by omega) .inr))
          by_cases h0 : a i = 0
          · have hR2 := Lib.hid (show Runs a n j l by have := hR.out.next hbn.out hij hjn hall.out hend.out; rw [if_pos h0, List.append_nil] at this; exact this)
            have hb2 := Lib.hid (show j = 0 ∨ j = n ∨ a (j - 1) ≠ a j from hend.out.elim (fun h => .inr (.inl h)) (fun h => .inr (.inr (by rw [hall.out (j - 1) (by omega) (by omega)]; exact fun e => h e.symm))))
            clear hall hend hbn hb hR
            go_wp2_with fail
            go_roundg (n - j)
            case rel => exact ⟨j, l, by omega, rfl, hR2, hb2, hO2.out, hI.out⟩
            case measure => omega
          · have hR2 := Lib.hid (show Runs a n j (l ++ [(i, j)]) by have := hR.out.next hbn.out hij hjn hall.out hend.out; rw [if_neg h0] at this; exact this)
            have hb2 := Lib.hid (show j = 0 ∨ j = n ∨ a (j - 1) ≠ a j from hend.out.elim (fun h => .inr (.inl h)) (fun h => .inr (.inr (by rw [hall.out (j - 1) (by omega) (by omega)]; exact fun e => h e.symm))))
            clear hall hend hbn hb hR
            go_wp2_with fail
            refine (hP.out _ i j hij hjn h0 hI.out).mono ?_
            rintro e w3 ⟨rfl, g3⟩
            have hI2 := Lib.hid (hI.out.trans g3)
            have hO3 := Lib.hid (ownsRow_grew hO2.out g3)
            have hsz := hI2.out.size
            have hml : (l.map mk).length ≤ 1048576 := by rw [List.length_map]; omega
            have hmk : l.map mk ++ [mk (i, j)] = (l ++ [(i, j)]).map mk := by rw [List.map_append]; rfl
            replace hmk := Lib.hid hmk
            obtain ⟨⟨⟨m0, m1⟩, m2, m3⟩, hms⟩ : ∃ s : SegZ, mk (i, j) = s := ⟨_, rfl⟩
            rw [hms]
            clear g3 hI hO2
            go_wp2_with (first | fail | (at_builtin; (refine wpList_appSeg rfl (.tmp 32) (.tmp 38) rfl rfl rfl hO3.out hml hsz ?_); intro vB wzB hOB hGB))
            have gzB := Lib.hid (hGB w (Nat.le_refl _) hI2.out)
            rw [← hms, hmk.out] at hOB
            replace hOB := Lib.hid hOB
            clear hGB hO3 hI2
            go_wp2_with fail
            go_roundg (n - j)
            case rel => exact ⟨j, l ++ [(i, j)], by omega, rfl, hR2, hb2, hOB.out, gzB.out⟩
            case measure => omega
    · obtain rfl : i = n := by omega
      have hO' := Lib.hid hO
      have hG' := Lib.hid hG
      clear hO hG
      go_wp2_with fail
      go_ret
      exact ⟨_, rfl, l, hR.out, by have := hO'.out; rw [List.length_map] at this; exact this, hG'.out⟩
end Go.Proofs.YtngbcbncllfblaaGreat
namespace Go.Proofs.YtngbcbncllfblaaGreat
open Go.RowKit

/-- A comparison that parts whatever two that are not one. -/
structure Ordr {V : Type} (cf : V → V → Int) (lt : V → V → Prop) : Prop where
  neg : ∀ x y, cf x y < 0 ↔ lt x y
  zero : ∀ x y, cf x y = 0 ↔ x = y
  trans : ∀ x y z, lt x y → lt y z → lt x z
  tri : ∀ x y, lt x y ∨ x = y ∨ lt y x
  irr : ∀ x y, lt x y → lt y x → False

section
variable {V : Type} {cf : V → V → Int} {lt : V → V → Prop}
/-- One more in a row: how the document goes through it. -/
def stepG (cf : V → V → Int) (p : V) (s : List V × Bool) (o : V) : List V × Bool := (s.1 ++ (if cf p o < 0 ∧ s.2 = false then [p] else []) ++ [o], s.2 || decide (cf p o ≤ 0))
def putG (cf : V → V → Int) (p : V) (out : List V) : List V := let s := out.foldl (stepG cf p) ([], false); if s.2 then s.1 else s.1 ++ [p]
/-- The document's row: each in its place, once. -/
def rowG (cf : V → V → Int) (l : List V) : List V := l.foldl (fun out p => putG cf p out) []
theorem rowG_succ (l : List V) (j : Nat) (p : V) (h : l[j]? = some p) : rowG cf (l.take (j + 1)) = putG cf p (rowG cf (l.take j)) := by
  unfold rowG
  rw [List.take_add_one, h, Option.toList_some, List.foldl_append]; rfl
theorem putG_fold (p : V) (out a : List V) (b : Bool) (h : out.foldl (stepG cf p) ([], false) = (a, b)) : putG cf p out = if b = true then a else a ++ [p] := by
  unfold putG; rw [h]
theorem foldG_succ (p : V) (out : List V) (m : Nat) (q : V) (h : out[m]? = some q) (s : List V × Bool) : (out.take (m + 1)).foldl (stepG cf p) s = stepG cf p ((out.take m).foldl (stepG cf p) s) q := by
  rw [List.take_add_one, h, Option.toList_some, List.foldl_append]; rfl
theorem stepG_lt {p q : V} (a : List V) (h : cf p q < 0) : stepG cf p (a, false) q = (a ++ [p] ++ [q], true) := by
  unfold stepG
  have h1 : cf p q ≤ 0 := by omega
  simp [h, h1]
theorem stepG_in {p q : V} (a : List V) : stepG cf p (a, true) q = (a ++ [q], true) := by unfold stepG; simp
theorem stepG_eq {p q : V} (a : List V) (b : Bool) (h : cf p q = 0) : stepG cf p (a, b) q = (a ++ [q], true) := by unfold stepG; simp [h]
theorem stepG_gt {p q : V} (a : List V) (b : Bool) (h : 0 < cf p q) : stepG cf p (a, b) q = (a ++ [q], b) := by
  unfold stepG
  have h1 : ¬ cf p q < 0 := by omega
  have h2 : ¬ cf p q ≤ 0 := by omega
  simp [h1, h2]

/-- One more in a row, in its place, once. -/
def insG (cf : V → V → Int) (p : V) : List V → List V
  | [] => [p]
  | o :: os => if cf p o < 0 then p :: o :: os else if cf p o = 0 then o :: os else o :: insG cf p os
theorem foldG_in (p : V) : ∀ (os a : List V), os.foldl (stepG cf p) (a, true) = (a ++ os, true)
  | [], a => by simp
  | o :: os, a => by rw [List.foldl_cons, stepG_in, foldG_in p os]; simp
theorem foldG_out (p : V) : ∀ (os a : List V), ∃ u b, os.foldl (stepG cf p) (a, false) = (u, b) ∧ (if b = true then u else u ++ [p]) = a ++ insG cf p os
  | [], a => ⟨a, false, rfl, by simp [insG]⟩
  | o :: os, a => by
    have e : (o :: os).foldl (stepG cf p) (a, false) = os.foldl (stepG cf p) (stepG cf p (a, false) o) := rfl
    rw [e]
    rcases Int.lt_trichotomy (cf p o) 0 with h | h | h
    · rw [stepG_lt a h, foldG_in]
      exact ⟨_, _, rfl, by simp [insG, h]⟩
    · rw [stepG_eq a false h, foldG_in]
      exact ⟨_, _, rfl, by simp [insG, h]⟩
    · rw [stepG_gt a false h]
      obtain ⟨u, b, h3, h4⟩ := foldG_out p os (a ++ [o])
      have h1 : ¬ cf p o < 0 := by omega
      have h2 : ¬ cf p o = 0 := by omega
      exact ⟨u, b, h3, by rw [h4]; simp [insG, h1, h2]⟩
theorem putG_ins (p : V) (os : List V) : putG cf p os = insG cf p os := by
  obtain ⟨u, b, h3, h4⟩ := foldG_out (cf := cf) p os []
  rw [putG_fold p os u b h3, h4]; rfl
theorem insG_len (p : V) : ∀ os : List V, (insG cf p os).length ≤ os.length + 1
  | [] => by simp [insG]
  | o :: os => by
    have := insG_len p os
    unfold insG
    split
    · simp
    · split
      · simp
      · simp only [List.length_cons]; omega
theorem rowG_fold_len : ∀ (l s : List V), (l.foldl (fun out p => putG cf p out) s).length ≤ s.length + l.length
  | [], s => by simp
  | p :: l, s => by
    have h1 := rowG_fold_len l (putG cf p s)
    have h2 := insG_len (cf := cf) p s
    rw [← putG_ins] at h2
    simp only [List.foldl_cons, List.length_cons]
    omega
theorem rowG_len (l : List V) : (rowG cf l).length ≤ l.length := by
  have := rowG_fold_len (cf := cf) l []
  simpa [rowG] using this
theorem stepG_len (p : V) (s : List V × Bool) (o : V) : (stepG cf p s o).1.length + (if (stepG cf p s o).2 = true then 0 else 1) ≤ s.1.length + (if s.2 = true then 0 else 1) + 1 := by
  obtain ⟨a, b⟩ := s
  rcases Int.lt_trichotomy (cf p o) 0 with h | h | h
  · cases b
    · rw [stepG_lt a h]; simp
    · rw [stepG_in a]; simp
  · rw [stepG_eq a b h]; simp
  · rw [stepG_gt a b h]; simp; omega
theorem stepG_fold_len (p : V) : ∀ (os : List V) (s : List V × Bool), (os.foldl (stepG cf p) s).1.length + (if (os.foldl (stepG cf p) s).2 = true then 0 else 1) ≤ s.1.length + (if s.2 = true then 0 else 1) + os.length
  | [], _ => Nat.le_refl _
  | o :: os, s => by
    have h1 := stepG_fold_len p os (stepG cf p s o)
    have h2 := stepG_len (cf := cf) p s o
    rw [List.foldl_cons, List.length_cons]
    omega
theorem insG_mem (H : Ordr cf lt) {p q : V} : ∀ {os : List V}, q ∈ insG cf p os ↔ q = p ∨ q ∈ os
  | [] => by simp [insG]
  | o :: os => by
    unfold insG
    by_cases h : cf p o < 0
    · rw [if_pos h]; simp
    · rw [if_neg h]
      by_cases k : cf p o = 0
      · rw [if_pos k]
        have := (H.zero _ _).1 k
        subst this
        simp
      · rw [if_neg k, List.mem_cons, insG_mem H]
        simp only [List.mem_cons]
        constructor
        · rintro (h | h | h) <;> simp [h]
        · rintro (h | h | h) <;> simp [h]
theorem insG_sorted (H : Ordr cf lt) {p : V} : ∀ {os : List V}, os.Pairwise lt → (insG cf p os).Pairwise lt
  | [], _ => by simp [insG]
  | o :: os, hs => by
    obtain ⟨h1, h2⟩ := List.pairwise_cons.1 hs
    unfold insG
    by_cases h : cf p o < 0
    · rw [if_pos h]
      have hl := (H.neg _ _).1 h
      refine List.pairwise_cons.2 ⟨fun q hq => ?_, hs⟩
      rcases List.mem_cons.1 hq with rfl | hq
      · exact hl
      · exact H.trans _ _ _ hl (h1 q hq)
    · rw [if_neg h]
      by_cases k : cf p o = 0
      · rw [if_pos k]; exact hs
      · rw [if_neg k]
        refine List.pairwise_cons.2 ⟨fun q hq => ?_, insG_sorted H h2⟩
        rcases (insG_mem H).1 hq with rfl | hq
        · rcases H.tri o q with g | g | g
          · exact g
          · exact absurd ((H.zero _ _).2 g.symm) k
          · exact absurd ((H.neg _ _).2 g) h
        · exact h1 q hq
theorem rowG_fold (H : Ordr cf lt) (l : List V) : ∀ s : List V, s.Pairwise lt → (l.foldl (fun out p => putG cf p out) s).Pairwise lt ∧ ∀ q, q ∈ l.foldl (fun out p => putG cf p out) s ↔ q ∈ l ∨ q ∈ s := by
  induction l with
  | nil => intro s hs; exact ⟨hs, fun q => by simp⟩
  | cons p l ih =>
    intro s hs
    have h1 := ih (putG cf p s) (by rw [putG_ins]; exact insG_sorted H hs)
    refine ⟨h1.1, fun q => ?_⟩
    rw [List.foldl_cons, h1.2 q, putG_ins, insG_mem H, List.mem_cons]
    constructor
    · rintro (h | h | h) <;> simp [h]
    · rintro ((h | h) | h) <;> simp [h]
theorem rowG_sorted (H : Ordr cf lt) (l : List V) : (rowG cf l).Pairwise lt := (rowG_fold H l [] List.Pairwise.nil).1
theorem mem_rowG (H : Ordr cf lt) {l : List V} {q : V} : q ∈ rowG cf l ↔ q ∈ l := by
  have := (rowG_fold H l [] List.Pairwise.nil).2 q
  simpa [rowG] using this
theorem extG (H : Ordr cf lt) : ∀ {S T : List V}, S.Pairwise lt → T.Pairwise lt → (∀ q, q ∈ S ↔ q ∈ T) → S = T
  | [], [], _, _, _ => rfl
  | [], t :: T, _, _, h => absurd ((h t).2 List.mem_cons_self) (by simp)
  | r :: S, [], _, _, h => absurd ((h r).1 List.mem_cons_self) (by simp)
  | r :: S, t :: T, hr, ht, h => by
    have e : r = t := by
      have h1 := (h r).1 List.mem_cons_self
      have h2 := (h t).2 List.mem_cons_self
      rw [List.mem_cons] at h1 h2
      rcases h1 with h1 | h1
      · exact h1
      · rcases h2 with h2 | h2
        · exact h2.symm
        · exact (H.irr _ _ (List.rel_of_pairwise_cons ht h1) (List.rel_of_pairwise_cons hr h2)).elim
    subst e
    have n1 : r ∉ S := fun k => H.irr _ _ (List.rel_of_pairwise_cons hr k) (List.rel_of_pairwise_cons hr k)
    have n2 : r ∉ T := fun k => H.irr _ _ (List.rel_of_pairwise_cons ht k) (List.rel_of_pairwise_cons ht k)
    have hq : ∀ q, q ∈ S ↔ q ∈ T := fun q => by
      have := h q
      rw [List.mem_cons, List.mem_cons] at this
      constructor
      · intro k
        rcases this.1 (.inr k) with e | e
        · rw [e] at k; exact absurd k n1
        · exact e
      · intro k
        rcases this.2 (.inr k) with e | e
        · rw [e] at k; exact absurd k n2
        · exact e
    rw [extG H (List.Pairwise.of_cons hr) (List.Pairwise.of_cons ht) hq]
theorem takeG_snoc {l : List V} {j : Nat} {p : V} (h : l[j]? = some p) : l.take (j + 1) = l.take j ++ [p] := by rw [List.take_add_one, h]; rfl
theorem setG_take {r : List V} {n : Nat} {q : V} (h : n < r.length) : (r.set n q).take (n + 1) = r.take n ++ [q] := by
  rw [takeG_snoc (p := q) (by rw [List.getElem?_set_self h])]
  congr 1
  apply List.ext_getElem?
  intro i
  simp only [List.getElem?_take]
  split
  · rw [List.getElem?_set_ne (by omega)]
  · rfl

/-- Alike neighbours, each once. -/
def cstepG [DecidableEq V] (s : List V × Option V) (p : V) : List V × Option V := (if s.2 = some p then s.1 else s.1 ++ [p], some p)
def compG [DecidableEq V] (l : List V) : List V := (l.foldl cstepG ([], none)).1
variable [DecidableEq V]
theorem compG_snoc (l : List V) (p q : V) : compG (l ++ [p] ++ [q]) = if p = q then compG (l ++ [p]) else compG (l ++ [p]) ++ [q] := by
  have h : ∀ s, ((l ++ [p]).foldl cstepG s).2 = some p := fun s => by rw [List.foldl_append]; rfl
  have h := h ([], none)
  unfold compG
  rw [List.foldl_append (l := l ++ [p])]
  simp only [List.foldl_cons, List.foldl_nil]
  unfold cstepG at h ⊢
  rw [h]
  simp only [Option.some.injEq]
theorem compG_one (p : V) : compG [p] = [p] := by simp [compG, cstepG]
theorem compG_take {l : List V} {j : Nat} {p q : V} (hp : l[j]? = some p) (hq : l[j + 1]? = some q) : compG (l.take (j + 2)) = if p = q then compG (l.take (j + 1)) else compG (l.take (j + 1)) ++ [q] := by
  rw [takeG_snoc hq, takeG_snoc hp, compG_snoc]
theorem compG_short {l : List V} (h : l.length < 2) : compG l = l := by
  match l, h with
  | [], _ => rfl
  | [p], _ => exact compG_one p
theorem compG_fold (l : List V) : ∀ s : List V × Option V, (∀ p, s.2 = some p → p ∈ s.1) → ∀ q, q ∈ (l.foldl cstepG s).1 ↔ q ∈ l ∨ q ∈ s.1 := by
  induction l with
  | nil => intro s _ q; simp
  | cons a l ih =>
    intro s hs q
    rw [List.foldl_cons, ih (cstepG s a) (by
      intro p hp
      unfold cstepG at hp ⊢
      simp only [Option.some.injEq] at hp
      subst hp
      simp only
      split
      · next e => exact hs _ e
      · simp), List.mem_cons]
    unfold cstepG
    simp only
    split
    · next e =>
      have := hs _ e
      constructor
      · rintro (h | h) <;> simp [h]
      · rintro ((h | h) | h)
        · rw [h]; exact .inr this
        · exact .inl h
        · exact .inr h
    · rw [List.mem_append, List.mem_singleton]
      constructor
      · rintro (h | h | h) <;> simp [h]
      · rintro ((h | h) | h) <;> simp [h]
theorem mem_compG {l : List V} {q : V} : q ∈ compG l ↔ q ∈ l := by
  have := compG_fold l ([], none) (by simp) q
  simpa [compG] using this
theorem compG_sorted (H : Ordr cf lt) (l : List V) : ∀ s : List V × Option V, l.Pairwise (fun p q => ¬ lt q p) → s.1.Pairwise lt → (∀ p, s.2 = some p → (∀ q ∈ s.1, q = p ∨ lt q p) ∧ ∀ r ∈ l, ¬ lt r p) → (s.2 = none → s.1 = []) → (l.foldl cstepG s).1.Pairwise lt := by
  have hng : ∀ p q, ¬ lt q p → p ≠ q → lt p q := fun p q h n => by
    rcases H.tri p q with k | k | k
    · exact k
    · exact absurd k n
    · exact absurd k h
  induction l with
  | nil => intro s _ h _ _; exact h
  | cons a l ih =>
    intro s hl hs hp hn
    rw [List.foldl_cons]
    have ha := (List.pairwise_cons.1 hl).1
    have key : ∀ x ∈ s.1, ¬ s.2 = some a → lt x a := by
      intro x hx e
      rcases h2 : s.2 with _ | p
      · rw [hn h2] at hx; simp at hx
      · obtain ⟨k1, k2⟩ := hp p h2
        have k4 : lt p a := hng _ _ (k2 a List.mem_cons_self) (fun e2 => e (by rw [h2, e2]))
        rcases k1 x hx with rfl | k
        · exact k4
        · exact H.trans _ _ _ k k4
    refine ih _ (List.pairwise_cons.1 hl).2 ?_ ?_ ?_
    · unfold cstepG
      simp only
      split
      · exact hs
      · next e =>
        refine List.pairwise_append.2 ⟨hs, by simp, fun x hx y hy => ?_⟩
        rw [List.mem_singleton] at hy
        subst hy
        exact key x hx e
    · intro p h
      unfold cstepG at h ⊢
      simp only [Option.some.injEq] at h
      subst h
      refine ⟨fun q hq => ?_, ha⟩
      simp only at hq
      split at hq
      · next e => exact (hp _ e).1 q hq
      · next e =>
        rw [List.mem_append, List.mem_singleton] at hq
        rcases hq with hq | hq
        · exact .inr (key q hq e)
        · exact .inl hq
    · intro h; unfold cstepG at h; simp at h
/-- What is sorted, alike neighbours once, is the document's row. -/
theorem compG_row (H : Ordr cf lt) {l m : List V} (hs : m.Pairwise (fun p q => ¬ lt q p)) (hm : ∀ q, q ∈ m ↔ q ∈ l) : compG m = rowG cf l :=
  extG H (compG_sorted H m ([], none) hs List.Pairwise.nil (by simp) (by simp)) (rowG_sorted H l) fun q => by rw [mem_compG, mem_rowG H, hm]
end
end Go.Proofs.YtngbcbncllfblaaGreat
namespace Go.Proofs.YtngbcbncllfblaaGreat
open Go.RowKit

/-- What cells say: how many they are, one cell each, no int; and it stays where numbers stay. -/
structure Says {V : Type} (k : Nat) (R : World → Array Value → V → Prop) : Prop where
  size : ∀ {w : World} {us : Array Value} {x : V}, R w us x → us.size = k
  one : ∀ {w : World} {us : Array Value} {x : V}, R w us x → ∀ u ∈ us.toList, u.oneCell' = true
  noint : ∀ {w : World} {us : Array Value} {x : V}, R w us x → ∀ u ∈ us.toList, NoInt u
  kept : ∀ {w w' : World} {us : Array Value} {x : V}, R w us x → Keeps w w' → R w' us x
/-- Cells that say something. -/
def CellsR {V : Type} (k : Nat) (R : World → Array Value → V → Prop) (w : World) (c : Nat → Option Value) (x : V) : Prop := ∃ us : Array Value, (∀ j, j < k → c j = us[j]?) ∧ R w us x
/-- A slice of such elements, as it reads. -/
def RowK {V : Type} (k : Nat) (R : World → Array Value → V → Prop) (w : World) (v : Value) (l : List V) : Prop :=
  ∃ A c, v = .slice A l.length c ∧ l.length ≤ c ∧ c ≤ 9223372036854775807 ∧
    (0 < l.length → ∃ b o, A = some ⟨b, o, none⟩ ∧ ∀ i x, l[i]? = some x → CellsR k R w (fun j => w.cell? ⟨b, o + (i * k + j), none⟩) x)
/-- A row of such elements that a call owns. -/
def OwnK {V : Type} (k : Nat) (R : World → Array Value → V → Prop) (e : TypeId) (w : World) (base : Nat) (v : Value) (l : List V) : Prop :=
  (v = .slice none 0 0 ∧ l = []) ∨ ∃ g cap cur, v = .slice (some ⟨g, 0, none⟩) l.length cap ∧ base ≤ g ∧ NoInts w g ∧ w.heap[g]? = some (.cells cur e (0, 0)) ∧ l.length ≤ cap ∧ cap ≤ maxLen ∧ cur.size = cap * k ∧
    ∀ i x, l[i]? = some x → CellsR k R w (fun j => cur[i * k + j]?) x

section
variable {V : Type} {k : Nat} {R : World → Array Value → V → Prop} {e : TypeId} {w w' : World} {base : Nat} {v : Value} {l : List V}
theorem idx_lt {i n k j : Nat} (hi : i < n) (hj : j < k) : i * k + j < n * k := by
  have := Nat.mul_le_mul_right k (show i + 1 ≤ n from hi)
  rw [Nat.add_mul, Nat.one_mul] at this
  omega
theorem CellsR.mono {c c' : Nat → Option Value} {x : V} (S : Says k R) (h : CellsR k R w c x) (hk : Keeps w w') (hc : ∀ j u, j < k → c j = some u → c' j = some u) : CellsR k R w' c' x := by
  obtain ⟨us, h1, h2⟩ := h
  refine ⟨us, fun j hj => ?_, S.kept h2 hk⟩
  have hs := S.size h2
  have := h1 j hj
  rw [Array.getElem?_eq_getElem (by omega)] at this ⊢
  exact hc j _ hj this
theorem RowK.grew (S : Says k R) (h : RowK k R w v l) (g : Grew w w') : RowK k R w' v l := by
  obtain ⟨A, c, hv, h1, h2, h3⟩ := h
  refine ⟨A, c, hv, h1, h2, fun hl => ?_⟩
  obtain ⟨b, o, hA, he⟩ := h3 hl
  exact ⟨b, o, hA, fun i p hp => (he i p hp).mono S g.keeps (fun j u _ hu => g.cell hu)⟩
theorem RowK.nil (k : Nat) (R : World → Array Value → V → Prop) (w : World) : RowK k R w (.slice none 0 0) [] := ⟨none, 0, rfl, by simp, by omega, by simp⟩
theorem OwnK.nil (k : Nat) (R : World → Array Value → V → Prop) (e : TypeId) (w : World) (base : Nat) : OwnK k R e w base (.slice none 0 0) ([] : List V) := .inl ⟨rfl, rfl⟩
theorem OwnK.row (h : OwnK k R e w base v l) : RowK k R w v l := by
  rcases h with ⟨rfl, rfl⟩ | ⟨g, cap, cur, rfl, -, -, hg, hn, hcm, -, hel⟩
  · exact RowK.nil _ _ _
  · refine ⟨_, cap, rfl, hn, by unfold maxLen at hcm; omega, fun hl => ⟨g, 0, rfl, fun i p hp => ?_⟩⟩
    obtain ⟨us, h1, h2⟩ := hel i p hp
    exact ⟨us, fun j hj => by dsimp only; rw [Nat.zero_add, cell_of_row w g _ cur e (0, 0) hg]; exact h1 j hj, h2⟩
theorem OwnK.grew (S : Says k R) (h : OwnK k R e w base v l) (g : Grew w w') : OwnK k R e w' base v l := by
  rcases h with h | ⟨gb, cap, cur, rfl, hbg, hN, hg, hn, hcm, hcs, hel⟩
  · exact .inl h
  · have hlt : gb < w.heap.size := by
      rcases Nat.lt_or_ge gb w.heap.size with h | h
      · exact h
      · rw [Array.getElem?_eq_none h] at hg; simp at hg
    have hb := g.below.block gb hlt
    refine .inr ⟨gb, cap, cur, rfl, hbg, fun p u hu => ?_, hb.trans hg, hn, hcm, hcs, fun i p hp => (hel i p hp).mono S g.keeps (fun _ _ _ h => h)⟩
    rw [World.cell?_of_block (w := w) hb] at hu
    exact hN p u hu
theorem OwnK.made (k : Nat) (R : World → Array Value → V → Prop) (e : TypeId) (w : World) (base cap : Nat) (hb : base ≤ w.heap.size) (hm : cap ≤ maxLen) (z : Array Value) (hz : ∀ u ∈ z, NoInt u) (hs : z.size = cap * k) :
    OwnK k R e (w.alloc (.cells z e)) base (.slice (some ⟨w.heap.size, 0, none⟩) 0 cap) ([] : List V) := by
  refine .inr ⟨w.heap.size, cap, z, rfl, hb, fun p u hu => ?_, heap_alloc_new w _, Nat.zero_le _, hm, hs, fun i x h => by simp at h⟩
  rw [cell_of_row _ w.heap.size p z e (0, 0) (heap_alloc_new w _)] at hu
  exact hz u (Array.mem_of_getElem? hu)
/-- As append wants it. -/
theorem OwnK.ownS (h : OwnK k R e w base v l) : ∃ xs, OwnS w base e k v l.length xs ∧ ∀ i x, l[i]? = some x → CellsR k R w (fun j => xs[i * k + j]?) x := by
  rcases h with ⟨rfl, rfl⟩ | ⟨g, cap, cur, rfl, hbg, hN, hg, hn, hcm, hcs, hel⟩
  · exact ⟨[], OwnS.nil _ _ _ _, fun i x h => by simp at h⟩
  · have hmul : l.length * k ≤ cap * k := Nat.mul_le_mul_right _ hn
    refine ⟨cur.toList.take (l.length * k), ⟨⟨by rw [List.length_take, Array.length_toList (xs := cur), hcs]; exact Nat.min_eq_left hmul, .inr ⟨g, cap, cur, rfl, hbg, hg, hn, hcm, hcs, rfl⟩⟩, ?_⟩, ?_⟩
    · intro g' hg'
      simp only [Value.ownBlock, Option.some.injEq] at hg'
      subst hg'; exact hN
    · intro i x hx
      obtain ⟨us, h1, h2⟩ := hel i x hx
      refine ⟨us, fun j hj => ?_, h2⟩
      have hi := (List.getElem?_eq_some_iff.1 hx).1
      have := idx_lt hi hj
      dsimp only
      rw [List.getElem?_take, if_pos (by omega), Array.getElem?_toList]
      exact h1 j hj
theorem OwnK.of_ownS {xs : List Value} (h : OwnS w base e k v l.length xs) (hel : ∀ i x, l[i]? = some x → CellsR k R w (fun j => xs[i * k + j]?) x) : OwnK k R e w base v l := by
  obtain ⟨⟨hx, ho⟩, hN⟩ := h
  rcases ho with ⟨rfl, h0⟩ | ⟨g, cap, cur, rfl, hbg, hg, hnc, hcm, hcs, htake⟩
  · exact .inl ⟨rfl, List.eq_nil_of_length_eq_zero h0⟩
  · refine .inr ⟨g, cap, cur, rfl, hbg, hN g rfl, hg, hnc, hcm, hcs, fun i x hx => ?_⟩
    obtain ⟨us, h1, h2⟩ := hel i x hx
    refine ⟨us, fun j hj => ?_, h2⟩
    have hi := (List.getElem?_eq_some_iff.1 hx).1
    have := idx_lt hi hj
    have h9 := h1 j hj
    dsimp only at h9 ⊢
    rw [← h9, ← htake, List.getElem?_take, if_pos (by omega), Array.getElem?_toList]
/-- The cells of one element. -/
theorem OwnK.el {g o n cap : Nat} (h : OwnK k R e w base (.slice (some ⟨g, o, none⟩) n cap) l) {i : Nat} {x : V} (hx : l[i]? = some x) :
    o = 0 ∧ (∀ j, w.frozen? ⟨g, j, none⟩ = false) ∧ ∃ us, R w us x ∧ ∀ j, j < k → w.cell? ⟨g, o + i * k + j, none⟩ = us[j]? := by
  rcases h with ⟨h, -⟩ | ⟨g', cap', cur, hv, -, -, hg, -, -, -, hel⟩
  · exact absurd h (by simp)
  injection hv with hv1 hv2 hv3
  injection hv1 with hv1
  injection hv1 with hv1 hv4
  subst hv1
  subst hv4
  obtain ⟨us, h1, h2⟩ := hel i x hx
  refine ⟨rfl, fun j => ?_, us, h2, fun j hj => ?_⟩
  · unfold World.frozen?
    rw [hg]; simp
  · rw [cell_of_row w g _ cur e (0, 0) hg, Nat.zero_add]; exact h1 j hj

theorem keepsK {g : Nat} (hN : NoInts w g) (hW : Wrote g w w') : Keeps w w' := by
  intro B K v N n h
  obtain ⟨A, c, hv, h1, h2, h4, h3⟩ := h
  refine ⟨A, c, hv, h1, h2, h4, fun hk => ?_⟩
  obtain ⟨b, off, hA, hc⟩ := h3 hk
  refine ⟨b, off, hA, fun i hi => ?_⟩
  refine hW.cell (hc i hi) fun e => ?_
  simp only at e
  subst e
  exact hN _ _ (hc i hi) K _ rfl
theorem holdsK {g : Nat} {cur : Array Value} (hg : w.heap[g]? = some (.cells cur e (0, 0))) : Go.Sort.Holds id w g 0 cur := by
  intro j hj
  refine ⟨?_, ?_⟩
  · rw [Nat.zero_add, cell_of_row w g j cur e (0, 0) hg, Array.getElem?_eq_getElem hj, getElem!_pos cur _ hj]; rfl
  · unfold World.frozen?
    rw [hg]; simp
theorem setK_block {g : Nat} (vs : List Value) : ∀ (w : World) (cur : Array Value) (s : Nat), w.heap[g]? = some (.cells cur e (0, 0)) → s + vs.length ≤ cur.size →
    ∃ cur', (w.setCells g s vs).heap[g]? = some (.cells cur' e (0, 0)) ∧ cur'.size = cur.size ∧ Wrote g w (w.setCells g s vs) ∧ ∀ t, cur'[t]? = if s ≤ t ∧ t < s + vs.length then vs[t - s]? else cur[t]? := by
  induction vs with
  | nil => intro w cur s hg hs; exact ⟨cur, hg, rfl, Wrote.refl _ _, fun t => by rw [if_neg (by simp only [List.length_nil]; omega)]⟩
  | cons u us ih =>
    intro w cur s hg hs
    simp only [List.length_cons] at hs
    have h1 : (w.setCell ⟨g, s, none⟩ u).heap[g]? = some (.cells (cur.setIfInBounds s u) e (0, 0)) := by
      rw [Go.Sort.setCell_eq]
      unfold Go.Sort.mapBlock
      simp only [Array.getElem?_modify, if_true, hg]
      rfl
    obtain ⟨cur', h2, h3, h4, h5⟩ := ih (w.setCell ⟨g, s, none⟩ u) _ (s + 1) h1 (by simp; omega)
    refine ⟨cur', h2, by rw [h3]; simp, ((Wrote.refl g w).setCell s u).trans h4, fun t => ?_⟩
    rw [h5 t, Array.getElem?_setIfInBounds]
    by_cases e1 : t = s
    · subst e1
      have c1 : ¬ (t + 1 ≤ t ∧ t < t + 1 + us.length) := by omega
      have c2 : t ≤ t ∧ t < t + (u :: us).length := by simp only [List.length_cons]; omega
      have c3 : t < cur.size := by omega
      rw [if_neg c1, if_pos rfl, if_pos c3, if_pos c2, Nat.sub_self]
      rfl
    · by_cases e2 : s + 1 ≤ t ∧ t < s + 1 + us.length
      · have c2 : s ≤ t ∧ t < s + (u :: us).length := by simp only [List.length_cons]; omega
        rw [if_pos e2, if_pos c2, show t - s = (t - (s + 1)) + 1 by omega]
        rfl
      · have c2 : ¬ (s ≤ t ∧ t < s + (u :: us).length) := by simp only [List.length_cons]; omega
        rw [if_neg e2, if_neg (fun h => e1 h.symm), if_neg c2]

theorem OwnK.split {g o n cap : Nat} (h : OwnK k R e w base (.slice (some ⟨g, o, none⟩) n cap) l) : o = 0 ∧ n = l.length ∧ base ≤ g ∧ NoInts w g ∧ (∃ cur, w.heap[g]? = some (.cells cur e (0, 0)) ∧ cur.size = cap * k ∧ ∀ i x, l[i]? = some x → CellsR k R w (fun j => cur[i * k + j]?) x) ∧ l.length ≤ cap ∧ cap ≤ maxLen := by
  rcases h with ⟨h, -⟩ | ⟨g', cap', cur, hv, hbg, hN, hg, hn, hcm, hcs, hel⟩
  · exact absurd h (by simp)
  injection hv with hv1 hv2 hv3
  injection hv1 with hv1
  injection hv1 with hv1 hv4
  subst hv1
  subst hv4
  subst hv3
  exact ⟨rfl, hv2, hbg, hN, ⟨cur, hg, hcs, hel⟩, hn, hcm⟩
theorem OwnK.place (h : OwnK k R e w base v l) (hl : 0 < l.length) : ∃ g cap, v = .slice (some ⟨g, 0, none⟩) l.length cap ∧ l.length ≤ cap ∧ cap ≤ maxLen ∧ base ≤ g := by
  rcases h with ⟨-, rfl⟩ | ⟨g, cap, cur, hv, hbg, -, -, hn, hcm, -, -⟩
  · simp at hl
  · exact ⟨g, cap, hv, hn, hcm, hbg⟩
theorem OwnK.cur {g o n cap : Nat} (h : OwnK k R e w base (.slice (some ⟨g, o, none⟩) n cap) l) : ∃ cur : Array Value, w.heap[g]? = some (.cells cur e (0, 0)) ∧ cur.size = cap * k := by
  obtain ⟨-, -, -, -, ⟨cur, h1, h2, -⟩, -, -⟩ := h.split
  exact ⟨cur, h1, h2⟩
theorem OwnK.lt (h : OwnK k R e w base v l) {g : Nat} (hg : v.ownBlock = some g) : g < w.heap.size := by
  rcases h with ⟨rfl, -⟩ | ⟨g', cap, cur, rfl, -, -, hb, -⟩
  · simp [Value.ownBlock] at hg
  · simp only [Value.ownBlock, Option.some.injEq] at hg
    subst hg
    rcases Nat.lt_or_ge g' w.heap.size with h | h
    · exact h
    · rw [Array.getElem?_eq_none h] at hb; simp at hb
/-- One element of a row stored anew. -/
theorem OwnK.store {g o n cap i : Nat} {x : V} {us : Array Value} (S : Says k R) (h : OwnK k R e w base (.slice (some ⟨g, o, none⟩) n cap) l) (hi : i < n) (hR : R w us x) :
    OwnK k R e (w.setCells g (o + i * k) us.toList) base (.slice (some ⟨g, o, none⟩) n cap) (l.set i x) ∧ Keeps w (w.setCells g (o + i * k) us.toList) ∧ Wrote g w (w.setCells g (o + i * k) us.toList) ∧ base ≤ g := by
  obtain ⟨rfl, rfl, hbg, hN, ⟨cur, hg, hcs, hel⟩, hnc, hcm⟩ := h.split
  rw [Nat.zero_add]
  have hus := S.size hR
  have hmul : l.length * k ≤ cap * k := Nat.mul_le_mul_right _ hnc
  have hik : i * k + k ≤ l.length * k := by
    have := Nat.mul_le_mul_right k (show i + 1 ≤ l.length from hi)
    rwa [Nat.add_mul, Nat.one_mul] at this
  obtain ⟨cur', h1, h2, h3, h4⟩ := setK_block us.toList w cur (i * k) hg (by rw [Array.length_toList]; omega)
  have hK := keepsK hN h3
  generalize w.setCells g (i * k) us.toList = W at *
  refine ⟨.inr ⟨g, cap, cur', by rw [List.length_set], hbg, fun t u hu => ?_, h1, by rw [List.length_set]; exact hnc, hcm, h2.trans hcs, fun m y hy => ?_⟩, hK, h3, hbg⟩
  · rw [cell_of_row W g t cur' e (0, 0) h1, h4] at hu
    split at hu
    · exact S.noint hR u (List.mem_of_getElem? hu)
    · exact hN t u (by rw [cell_of_row w g t cur e (0, 0) hg]; exact hu)
  · rw [List.getElem?_set] at hy
    by_cases e1 : i = m
    · subst e1
      rw [if_pos rfl, if_pos hi] at hy
      injection hy with hy
      subst hy
      refine ⟨us, fun j hj => ?_, S.kept hR hK⟩
      dsimp only
      rw [h4, if_pos ⟨by omega, by rw [Array.length_toList]; omega⟩, show i * k + j - i * k = j by omega, Array.getElem?_toList]
    · rw [if_neg e1] at hy
      refine (hel m y hy).mono S hK fun j u hj hu => ?_
      rw [h4, if_neg (fun hc => ?_)]
      · exact hu
      · rw [Array.length_toList] at hc
        rcases Nat.lt_or_gt_of_ne e1 with hlt | hlt
        · have := Nat.mul_le_mul_right k (show i + 1 ≤ m from hlt)
          rw [Nat.add_mul, Nat.one_mul] at this
          omega
        · have := Nat.mul_le_mul_right k (show m + 1 ≤ i from hlt)
          rw [Nat.add_mul, Nat.one_mul] at this
          omega
/-- What stands at the row's end is laid anew with what is no int: its head is as it was. -/
theorem OwnK.clear {g o n cap i : Nat} (vs : List Value) (S : Says k R) (h : OwnK k R e w base (.slice (some ⟨g, o, none⟩) n cap) l) (hi : i ≤ n) (hs : i * k + vs.length ≤ n * k) (hvs : ∀ u ∈ vs, NoInt u) :
    OwnK k R e (w.setCells g (o + i * k) vs) base (.slice (some ⟨g, o, none⟩) i cap) (l.take i) ∧ Wrote g w (w.setCells g (o + i * k) vs) ∧ base ≤ g := by
  obtain ⟨rfl, rfl, hbg, hN, ⟨cur, hg, hcs, hel⟩, hnc, hcm⟩ := h.split
  rw [Nat.zero_add]
  have hmul : l.length * k ≤ cap * k := Nat.mul_le_mul_right _ hnc
  obtain ⟨cur', h1, h2, h3, h4⟩ := setK_block vs w cur (i * k) hg (by omega)
  have hK := keepsK hN h3
  generalize w.setCells g (i * k) vs = W at *
  have hlen : (l.take i).length = i := by rw [List.length_take]; omega
  refine ⟨.inr ⟨g, cap, cur', by rw [hlen], hbg, fun t u hu => ?_, h1, by omega, hcm, h2.trans hcs, fun m y hy => ?_⟩, h3, hbg⟩
  · rw [cell_of_row W g t cur' e (0, 0) h1, h4] at hu
    split at hu
    · exact hvs u (List.mem_of_getElem? hu)
    · exact hN t u (by rw [cell_of_row w g t cur e (0, 0) hg]; exact hu)
  · have hm : m < i := by
      have := (List.getElem?_eq_some_iff.1 hy).1
      omega
    rw [List.getElem?_take, if_pos hm] at hy
    refine (hel m y hy).mono S hK fun j u hj hu => ?_
    have := idx_lt hm hj
    rw [h4, if_neg (by omega)]; exact hu
end
end Go.Proofs.YtngbcbncllfblaaGreat
namespace Go.Proofs.YtngbcbncllfblaaGreat
open Go.RowKit

theorem world_eq : ∀ {a b : World}, a.heap = b.heap → a.tape = b.tape → a.drawn = b.drawn → a.os = b.os → a.output = b.output → a = b
  | ⟨_, _, _, _, _⟩, ⟨_, _, _, _, _⟩, rfl, rfl, rfl, rfl, rfl => rfl
/-- Growth, as an equation. -/
theorem Grew.grow {w w' : World} (g : Grew w w') : ∃ q os, w' = Go.Sort.grow (w.drewN q) os := by
  refine ⟨w'.drawn - w.drawn, w'.heap.extract w.heap.size w'.heap.size, world_eq ?_ g.below.tape ?_ g.below.os g.below.output⟩
  · show w'.heap = w.heap ++ w'.heap.extract w.heap.size w'.heap.size
    apply Array.ext_getElem?
    intro k
    by_cases hk : k < w.heap.size
    · rw [Array.getElem?_append_left hk]; exact g.below.block k hk
    · rw [Array.getElem?_append_right (by omega), Array.getElem?_extract]
      have hs := g.size
      by_cases h2 : k < w'.heap.size
      · rw [if_pos (by omega), show w.heap.size + (k - w.heap.size) = k by omega]
      · rw [if_neg (by omega)]; simp [Array.getElem?_eq_none (Nat.le_of_not_lt h2)]
  · show w'.drawn = w.drawn + (w'.drawn - w.drawn)
    have := g.drawn
    omega
end Go.Proofs.YtngbcbncllfblaaGreat
