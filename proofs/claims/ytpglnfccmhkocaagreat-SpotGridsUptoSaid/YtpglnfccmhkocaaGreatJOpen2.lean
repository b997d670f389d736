/- Locals of six cells. Conditions: none. SpotGrids, the walk. Condition: what comes in reads; fewer than 2^25 words. How spots come in: an argument of type api.Spot reads as two fractions, of no more words than its reading's bulk. Conditions: none. How points of the grid, and three of them, come in. Conditions: none. -/
import Derived.Test.YtpglnfccmhkocaaGreatJGrid3
import Derived.Test.YtpglnfccmhkocaaGreatJR5a
import Derived.Test.YtpglnfccmhkocaaGreatRows
import Derived.WalkKit
import Derived.ProofKit
import Derived.OpenShut
import Derived.JoinedCond
import Derived.ChangeSlices
import Derived.Carry
namespace Go.Proofs.YtpglnfccmhkocaaGreat
open Go.RowKit

/-- A new block of six cells that may be stored. -/
def Res6 (w : World) (r : Nat) : Prop := Res3 w r 0 (.bool false) (.slice none 0 0) (.slice none 0 0) ∧ Res3 w r 3 (.bool false) (.slice none 0 0) (.slice none 0 0)
theorem Res6.grew {w w' : World} {r : Nat} (h : Res6 w r) (g : Grew w w') : Res6 w' r := ⟨h.1.grew g, h.2.grew g⟩
theorem Res6.lt {w : World} {r : Nat} (h : Res6 w r) : r < w.heap.size := h.1.lt
/-- Six cells stored anew. -/
abbrev set6 (w : World) (r : Nat) (u0 u1 u2 u3 u4 u5 : Value) : World :=
  (((((w.setCell ⟨r, 0, none⟩ u0).setCell ⟨r, 1, none⟩ u1).setCell ⟨r, 2, none⟩ u2).setCell ⟨r, 3, none⟩ u3).setCell ⟨r, 4, none⟩ u4).setCell ⟨r, 5, none⟩ u5
theorem set6_all {w : World} {r : Nat} {u0 u1 u2 u3 u4 u5 : Value} (h : Res6 w r) :
    Box3 (set6 w r u0 u1 u2 u3 u4 u5) r 0 u0 u1 u2 ∧ Box3 (set6 w r u0 u1 u2 u3 u4 u5) r 3 u3 u4 u5 ∧ Keeps w (set6 w r u0 u1 u2 u3 u4 u5) ∧ (∀ b p, b ≠ r → (set6 w r u0 u1 u2 u3 u4 u5).cell? ⟨b, p, none⟩ = w.cell? ⟨b, p, none⟩) ∧
      (set6 w r u0 u1 u2 u3 u4 u5).heap.size = w.heap.size := by
  obtain ⟨⟨h0, h1, h2, -, -, -, -⟩, ⟨h3, h4, h5, -, -, -, -⟩⟩ := h
  obtain ⟨q0, q1, q2, qK, qf, qo, qs, -⟩ := store3 (o := 0) (u0 := u0) (u1 := u1) (u2 := u2) h0 h1 h2 rfl
  obtain ⟨q3, q4, q5, qK', qf', qo', qs', -⟩ := store3 (o := 3) (u0 := u3) (u1 := u4) (u2 := u5) ((qo _ (by omega)).trans h3) ((qo _ (by omega)).trans h4) ((qo _ (by omega)).trans h5) rfl
  exact ⟨⟨(qo' _ (by omega)).trans q0, (qo' _ (by omega)).trans q1, (qo' _ (by omega)).trans q2⟩, ⟨q3, q4, q5⟩, qK.trans qK', fun b p hb => (qf' b p hb).trans (qf b p hb), qs'.trans qs⟩
theorem Res6.store_far {w : World} {g h : Nat} {u0 u1 u2 u3 u4 u5 : Value} (a : Res6 w g) (r : Res6 w h) (hne : g ≠ h) : Res6 (set6 w h u0 u1 u2 u3 u4 u5) g := by
  obtain ⟨-, -, -, qf, qs⟩ := set6_all (u0 := u0) (u1 := u1) (u2 := u2) (u3 := u3) (u4 := u4) (u5 := u5) r
  obtain ⟨⟨a0, a1, a2, f0, f1, f2, s⟩, ⟨a3, a4, a5, f3, f4, f5, s'⟩⟩ := a
  exact ⟨⟨(qf _ _ hne).trans a0, (qf _ _ hne).trans a1, (qf _ _ hne).trans a2, by simp [f0], by simp [f1], by simp [f2], by rw [qs]; exact s⟩,
    ⟨(qf _ _ hne).trans a3, (qf _ _ hne).trans a4, (qf _ _ hne).trans a5, by simpa using f3, by simpa using f4, by simpa using f5, by rw [qs]; exact s⟩⟩
theorem Keeps.store6 {w X : World} {g : Nat} {u0 u1 u2 u3 u4 u5 : Value} (r : Res6 X g) (hk : Keeps w X) : Keeps w (set6 X g u0 u1 u2 u3 u4 u5) := hk.trans (set6_all r).2.2.1

/-- A block that holds six cells of which P says something, in this world. -/
def At6 (w : World) (g : Nat) (P : World → Value → Prop) : Prop := ∃ b A n c C m d b' A' n' c' C' m' d', Box3 w g 0 (.bool b) (.slice A n c) (.slice C m d) ∧ Box3 w g 3 (.bool b') (.slice A' n' c') (.slice C' m' d') ∧
  P w (.agg #[.bool b, .slice A n c, .slice C m d, .bool b', .slice A' n' c', .slice C' m' d']) ∧ g < w.heap.size
theorem At6.of_alloc {w X : World} {P : World → Value → Prop} (hP : Rd P) {b b' : Bool} {A C A' C' : Option Addr} {n c m d n' c' m' d' g : Nat} {t : TypeId} (hg : X.heap.size = g) (hk : Keeps w X)
    (h : P w (.agg #[.bool b, .slice A n c, .slice C m d, .bool b', .slice A' n' c', .slice C' m' d'])) :
    At6 (X.alloc (.cells #[.bool b, .slice A n c, .slice C m d, .bool b', .slice A' n' c', .slice C' m' d'] t)) g P := by
  subst hg
  exact ⟨b, A, n, c, C, m, d, b', A', n', c', C', m', d', ⟨by simp [go_sem], by simp [go_sem], by simp [go_sem]⟩, ⟨by simp [go_sem], by simp [go_sem], by simp [go_sem]⟩, hP _ _ _ h (hk.trans ((Grew.refl X).alloc _).keeps), by simp⟩
theorem At6.of_store {w X : World} {P : World → Value → Prop} (hP : Rd P) {b b' : Bool} {A C A' C' : Option Addr} {n c m d n' c' m' d' g : Nat} (r : Res6 X g) (hk : Keeps w X)
    (h : P w (.agg #[.bool b, .slice A n c, .slice C m d, .bool b', .slice A' n' c', .slice C' m' d'])) :
    At6 (set6 X g (.bool b) (.slice A n c) (.slice C m d) (.bool b') (.slice A' n' c') (.slice C' m' d')) g P := by
  obtain ⟨q1, q2, qK, -, qs⟩ := set6_all (u0 := .bool b) (u1 := .slice A n c) (u2 := .slice C m d) (u3 := .bool b') (u4 := .slice A' n' c') (u5 := .slice C' m' d') r
  exact ⟨b, A, n, c, C, m, d, b', A', n', c', C', m', d', q1, q2, hP _ _ _ h (hk.trans qK), by rw [qs]; exact r.lt⟩
theorem At6.store_far {w : World} {P : World → Value → Prop} (hP : Rd P) {g h : Nat} {u0 u1 u2 u3 u4 u5 : Value} (a : At6 w g P) (r : Res6 w h) (hne : g ≠ h) : At6 (set6 w h u0 u1 u2 u3 u4 u5) g P := by
  obtain ⟨-, -, qK, qf, qs⟩ := set6_all (u0 := u0) (u1 := u1) (u2 := u2) (u3 := u3) (u4 := u4) (u5 := u5) r
  obtain ⟨b, A, n, c, C, m, d, b', A', n', c', C', m', d', hB, hB', hp, hl⟩ := a
  exact ⟨b, A, n, c, C, m, d, b', A', n', c', C', m', d', hB.kept (fun p => qf g p hne), hB'.kept (fun p => qf g p hne), hP _ _ _ hp qK, by rw [qs]; exact hl⟩
theorem At6.grew {w w' : World} {P : World → Value → Prop} (hP : Rd P) {g : Nat} (a : At6 w g P) (k : Grew w w') : At6 w' g P := by
  obtain ⟨b, A, n, c, C, m, d, b', A', n', c', C', m', d', hB, hB', hp, hl⟩ := a
  exact ⟨b, A, n, c, C, m, d, b', A', n', c', C', m', d', hB.grew k, hB'.grew k, hP _ _ _ hp k.keeps, Nat.lt_of_lt_of_le hl k.size⟩
theorem Rd.spotC (x y : Rat) : Rd (fun w V => SpotC w V x y) := fun _ _ _ h k => SpotC.kept h k
theorem Rd.spotR (x y : Rat) (k : Nat) : Rd (fun w V => SpotR w V x y k) := fun _ _ _ h g => SpotR.kept h g
/-- A spot that is answered, and reads with so many words. -/
def SpotD (w : World) (V : Value) (x y : Rat) (k : Nat) : Prop := SpotC w V x y ∧ SpotR w V x y k
theorem Rd.spotD (x y : Rat) (k : Nat) : Rd (fun w V => SpotD w V x y k) := fun _ _ _ h g => ⟨SpotC.kept h.1 g, SpotR.kept h.2 g⟩
theorem SpotD.kept {w w' : World} {V : Value} {x y : Rat} {k : Nat} (h : SpotD w V x y k) (g : Keeps w w') : SpotD w' V x y k := ⟨h.1.kept g, h.2.kept g⟩
theorem SpotC.d {w : World} {V : Value} {x y : Rat} {k : Nat} (h : SpotC w V x y) (b1 : QB x k) (b2 : QB y k) : SpotD w V x y k := ⟨h, h.r b1 b2⟩

theorem res6_at (w : World) (t : TypeId) : Res6 (w.alloc (.cells #[.bool false, .slice none 0 0, .slice none 0 0, .bool false, .slice none 0 0, .slice none 0 0] t)) w.heap.size :=
  ⟨⟨by simp [go_sem], by simp [go_sem], by simp [go_sem], by simp [go_sem], by simp [go_sem], by simp [go_sem], by simp⟩, ⟨by simp [go_sem], by simp [go_sem], by simp [go_sem], by simp [go_sem], by simp [go_sem], by simp [go_sem], by simp⟩⟩
theorem res6_new {w w' : World} {t : TypeId} (g : Grew (w.alloc (.cells #[.bool false, .slice none 0 0, .slice none 0 0, .bool false, .slice none 0 0, .slice none 0 0] t)) w') : Res6 w' w.heap.size := (res6_at w t).grew g
theorem res6_newD {w w' : World} {t : TypeId} (g : Grew (w.alloc (.cells #[.bool false, .slice none 0 0, .slice none 0 0, .bool false, .slice none 0 0, .slice none 0 0] t)).drew w') : Res6 w' w.heap.size :=
  Res6.grew ((res6_at w t).grew ((Grew.refl _).drew)) g
theorem res6_two (w : World) (t s : TypeId) : Res6 ((w.alloc (.cells #[.bool false, .slice none 0 0, .slice none 0 0, .bool false, .slice none 0 0, .slice none 0 0] t)).alloc (.cells #[.bool false, .slice none 0 0, .slice none 0 0, .bool false, .slice none 0 0, .slice none 0 0] s)) w.heap.size ∧
    Res6 ((w.alloc (.cells #[.bool false, .slice none 0 0, .slice none 0 0, .bool false, .slice none 0 0, .slice none 0 0] t)).alloc (.cells #[.bool false, .slice none 0 0, .slice none 0 0, .bool false, .slice none 0 0, .slice none 0 0] s)) (w.heap.size + 1) := by
  refine ⟨(res6_at w t).grew ((Grew.refl _).alloc _), ?_⟩
  have h := res6_at (w.alloc (.cells #[.bool false, .slice none 0 0, .slice none 0 0, .bool false, .slice none 0 0, .slice none 0 0] t)) s
  rwa [show (w.alloc (.cells #[.bool false, .slice none 0 0, .slice none 0 0, .bool false, .slice none 0 0, .slice none 0 0] t)).heap.size = w.heap.size + 1 by simp] at h
theorem res6_new2 {w w' : World} {t s : TypeId} (g : Grew ((w.alloc (.cells #[.bool false, .slice none 0 0, .slice none 0 0, .bool false, .slice none 0 0, .slice none 0 0] t)).alloc (.cells #[.bool false, .slice none 0 0, .slice none 0 0, .bool false, .slice none 0 0, .slice none 0 0] s)) w') :
    Res6 w' w.heap.size ∧ Res6 w' (w.heap.size + 1) := ⟨(res6_two w t s).1.grew g, (res6_two w t s).2.grew g⟩
theorem res6_new2D {w w' : World} {t s : TypeId} (g : Grew ((w.alloc (.cells #[.bool false, .slice none 0 0, .slice none 0 0, .bool false, .slice none 0 0, .slice none 0 0] t)).alloc (.cells #[.bool false, .slice none 0 0, .slice none 0 0, .bool false, .slice none 0 0, .slice none 0 0] s)).drew w') :
    Res6 w' w.heap.size ∧ Res6 w' (w.heap.size + 1) := ⟨((res6_two w t s).1.grew ((Grew.refl _).drew)).grew g, ((res6_two w t s).2.grew ((Grew.refl _).drew)).grew g⟩
end Go.Proofs.YtpglnfccmhkocaaGreat
namespace Go.Proofs.YtpglnfccmhkocaaGreat
open Go.RowKit

set_option maxRecDepth 100000 in
set_option maxHeartbeats 16000000 in
theorem gridsl_any (Vc : Value) (ax ay bx b_y px py : Int) (cx cy : Rat) (k : Nat) (w : World) (ha : In64 ax ay) (hb : In64 bx b_y) (hp : In64 px py) (hc : SpotR w Vc cx cy k) (hk : 1 ≤ k) (hs : k < 33554432) :
    Calls Tryz.prog 4 #[.agg #[.int .i64 ax, .int .i64 ay, .int .i64 bx, .int .i64 b_y, .int .i64 px, .int .i64 py], Vc] w fun e w' => e = .returned (.bool true) ∧ Grew w w' := by
  obtain ⟨b5, A5, n5, c5, C5, m5, d5, b6, A6, n6, c6, C6, m6, d6, rfl, -, -, Sc⟩ := hc.laid
  have ra := Lib.hid ha
  have rb := Lib.hid hb
  have rp := Lib.hid hp
  have qa := Lib.hid (QB_i64 ha.1 ha.2.1)
  have qa2 := Lib.hid (QB_i64 ha.2.2.1 ha.2.2.2)
  have qb := Lib.hid (QB_i64 hb.1 hb.2.1)
  have qb2 := Lib.hid (QB_i64 hb.2.2.1 hb.2.2.2)
  have qp := Lib.hid (QB_i64 hp.1 hp.2.1)
  have qp2 := Lib.hid (QB_i64 hp.2.2.1 hp.2.2.2)
  have hk2 : 2 ≤ k + 2 := by omega
  have hk3 : k ≤ k + 2 := by omega
  have hk4 : 1 ≤ k + 2 := by omega
  have hs4 : k + 2 < 67108864 := by omega
  have hs5 : k < 67108864 := by omega
  obtain ⟨t, ht⟩ : ∃ t, turnQ (ax : Rat) (ay : Rat) (bx : Rat) (b_y : Rat) (px : Rat) (py : Rat) = t := ⟨_, rfl⟩
  obtain ⟨s, hs6⟩ : ∃ s, turnQ (ax : Rat) (ay : Rat) (bx : Rat) (b_y : Rat) cx cy = s := ⟨_, rfl⟩
  replace ht := Lib.hid ht
  replace hs6 := Lib.hid hs6
  clear ha hb hc hp hs
  go_enter Tryz.func4, Tryz.ntmps4
  go_wp2_with fail
  refine gen_wp ?_
  intro W0 hW0
  have G0 : Grew w W0 := by rw [hW0]; exact ((Grew.refl w).alloc _).alloc _
  have P : Box2 W0 (w.heap.size) 0 (.int .i64 ax) (.int .i64 ay) := by rw [hW0]; exact ⟨by simp [go_sem], by simp [go_sem]⟩
  replace P := Lib.hid P
  have P1 : Box2 W0 (w.heap.size) 2 (.int .i64 bx) (.int .i64 b_y) := by rw [hW0]; exact ⟨by simp [go_sem], by simp [go_sem]⟩
  replace P1 := Lib.hid P1
  have P2 : Box2 W0 (w.heap.size) 4 (.int .i64 px) (.int .i64 py) := by rw [hW0]; exact ⟨by simp [go_sem], by simp [go_sem]⟩
  replace P2 := Lib.hid P2
  have S : Box3 W0 (w.heap.size + 1) 0 (.bool b5) (.slice A5 n5 c5) (.slice C5 m5 d5) := by rw [hW0]; exact ⟨by simp [go_sem], by simp [go_sem], by simp [go_sem]⟩
  replace S := Lib.hid S
  have Sy : Box3 W0 (w.heap.size + 1) 3 (.bool b6) (.slice A6 n6 c6) (.slice C6 m6 d6) := by rw [hW0]; exact ⟨by simp [go_sem], by simp [go_sem], by simp [go_sem]⟩
  replace Sy := Lib.hid Sy
  have z0 : w.heap.size < W0.heap.size := by rw [hW0]; simp <;> omega
  replace z0 := Lib.hid z0
  have z1 : w.heap.size + 1 < W0.heap.size := by rw [hW0]; simp <;> omega
  replace z1 := Lib.hid z1
  clear hW0
  replace Sc := Lib.hid (Sc.out.kept G0.keeps)
  replace G0 := Lib.hid G0
  go_upto_region 1 with fail
  go_cut [5, 6] (fun s5 s6 wx => ∃ e5 e6 : Nat, s5 = .pointer (some ⟨e5, 0, none⟩) ∧ At6 wx e5 (fun w V => SpotD w V (ax : Rat) (ay : Rat) 2) ∧ W0.heap.size ≤ e5 ∧ s6 = .pointer (some ⟨e6, 0, none⟩) ∧ At6 wx e6 (fun w V => SpotD w V (bx : Rat) (b_y : Rat) 2) ∧ W0.heap.size ≤ e6 ∧ Grew W0 wx)
  · have KS : ∀ X, Grew W0 X → (fun w' => w'.cell? ⟨w.heap.size, 0, none⟩ = some (.int .i64 ax) ∧ w'.cell? ⟨w.heap.size, 1, none⟩ = some (.int .i64 ay) ∧ w'.cell? ⟨w.heap.size, 2, none⟩ = some (.int .i64 bx) ∧ w'.cell? ⟨w.heap.size, 3, none⟩ = some (.int .i64 b_y)) X := fun X g => ⟨g.cell P.out.p0, g.cell P.out.p1, g.cell P1.out.p0, g.cell P1.out.p1⟩
    replace KS := Lib.hid KS
    go_region_held3 (fun w' => w'.cell? ⟨w.heap.size, 0, none⟩ = some (.int .i64 ax) ∧ w'.cell? ⟨w.heap.size, 1, none⟩ = some (.int .i64 ay) ∧ w'.cell? ⟨w.heap.size, 2, none⟩ = some (.int .i64 bx) ∧ w'.cell? ⟨w.heap.size, 3, none⟩ = some (.int .i64 b_y))
      (first | (refine KS.out _ ?_; (repeat (first | with_reducible exact Grew.refl _ | with_reducible refine Grew.setCell ?_ (by simp <;> omega) _ | with_reducible refine Grew.alloc ?_ _ | with_reducible refine Grew.drew ?_ | with_reducible apply Grew.trans ?_ g2 | with_reducible apply Grew.trans ?_ g1 )); done))
      (first | (have chk := g1; clear chk; go_at_call 13; refine (rat5_any bx b_y _ rb.out.1 rb.out.2.1 rb.out.2.2.1 rb.out.2.2.2).mono ?_; rintro e w2 ⟨V2, rfl, hV2, g2⟩; have zn2 : w1.heap.size ≤ w2.heap.size := (by have t := g2.size; (try simp at t); omega); have Y2 := Lib.hid (hV2.d qb.out qb2.out); obtain ⟨b9, A9, n9, c9, C9, m9, d9, b10, A10, n10, c10, C10, m10, d10, rfl, -⟩ := hV2.laid; have X2 := Y2; clear hV2 Y2; (try replace h0_0 : Res6 w2 (W0.heap.size) := h0_0.grew (by (repeat (first | with_reducible exact Grew.refl _ | with_reducible refine Grew.setCell ?_ (by simp <;> omega) _ | with_reducible refine Grew.alloc ?_ _ | with_reducible refine Grew.drew ?_ | with_reducible apply Grew.trans ?_ g2 )))); (try replace h0_1 : Res6 w2 (W0.heap.size + 1) := h0_1.grew (by (repeat (first | with_reducible exact Grew.refl _ | with_reducible refine Grew.setCell ?_ (by simp <;> omega) _ | with_reducible refine Grew.alloc ?_ _ | with_reducible refine Grew.drew ?_ | with_reducible apply Grew.trans ?_ g2 )))); (first | (with_reducible have tt := res6_new2 g2; have h1_0 := tt.1; have h1_1 := tt.2; clear tt) | (with_reducible have tt := res6_new2D g2; have h1_0 := tt.1; have h1_1 := tt.2; clear tt) | (with_reducible have h1_0 := res6_new g2) | (with_reducible have h1_0 := res6_newD g2) | skip); (try (have uu := Res6.lt h0_0; have ne0_2a : ¬ (w2.heap.size = W0.heap.size) := (by omega); have ne0_2b : ¬ (W0.heap.size = w2.heap.size) := (by omega); clear uu)); (try (have uu := Res6.lt h1_0; have ne1_2a : ¬ (w2.heap.size = w1.heap.size) := (by omega); have ne1_2b : ¬ (w1.heap.size = w2.heap.size) := (by omega); clear uu)); (try (have tt := h0_0; obtain ⟨⟨h0_00, h0_01, h0_02, h0_0f0, h0_0f1, h0_0f2, h0_0s⟩, ⟨h0_03, h0_04, h0_05, h0_0f3, h0_0f4, h0_0f5, h0_0t⟩⟩ := tt)); (try (have tt := h0_1; obtain ⟨⟨h0_10, h0_11, h0_12, h0_1f0, h0_1f1, h0_1f2, h0_1s⟩, ⟨h0_13, h0_14, h0_15, h0_1f3, h0_1f4, h0_1f5, h0_1t⟩⟩ := tt)); (try (have tt := h1_0; obtain ⟨⟨h1_00, h1_01, h1_02, h1_0f0, h1_0f1, h1_0f2, h1_0s⟩, ⟨h1_03, h1_04, h1_05, h1_0f3, h1_0f4, h1_0f5, h1_0t⟩⟩ := tt)); (try (have tt := h1_1; obtain ⟨⟨h1_10, h1_11, h1_12, h1_1f0, h1_1f1, h1_1f2, h1_1s⟩, ⟨h1_13, h1_14, h1_15, h1_1f3, h1_1f4, h1_1f5, h1_1t⟩⟩ := tt))) | (go_at_call 13; refine (rat5_any ax ay _ ra.out.1 ra.out.2.1 ra.out.2.2.1 ra.out.2.2.2).mono ?_; rintro e w1 ⟨V1, rfl, hV1, g1⟩; have zn1 : W0.heap.size ≤ w1.heap.size := (by have t := g1.size; (try simp at t); omega); have Y1 := Lib.hid (hV1.d qa.out qa2.out); obtain ⟨b7, A7, n7, c7, C7, m7, d7, b8, A8, n8, c8, C8, m8, d8, rfl, -⟩ := hV1.laid; have X1 := Y1; clear hV1 Y1; (first | (with_reducible have tt := res6_new2 g1; have h0_0 := tt.1; have h0_1 := tt.2; clear tt) | (with_reducible have tt := res6_new2D g1; have h0_0 := tt.1; have h0_1 := tt.2; clear tt) | (with_reducible have h0_0 := res6_new g1) | (with_reducible have h0_0 := res6_newD g1) | skip); (try (have uu := Res6.lt h0_0; have ne0_1a : ¬ (w1.heap.size = W0.heap.size) := (by omega); have ne0_1b : ¬ (W0.heap.size = w1.heap.size) := (by omega); clear uu))))
    all_goals
      go_wp2_with fail
      go_meet
      have XX1 := Lib.hid (X1.out.kept (Grew.keeps (w := w1) (w' := w2) (by (repeat (first | with_reducible exact Grew.refl _ | with_reducible refine Grew.setCell ?_ (by simp <;> omega) _ | with_reducible refine Grew.alloc ?_ _ | with_reducible refine Grew.drew ?_ | with_reducible apply Grew.trans ?_ g2 )))))
      have XX2 := Lib.hid (X2.out.kept (Grew.keeps (w := w2) (w' := w2) (by (repeat (first | with_reducible exact Grew.refl _ | with_reducible refine Grew.setCell ?_ (by simp <;> omega) _ | with_reducible refine Grew.alloc ?_ _ | with_reducible refine Grew.drew ?_ )))))
      refine ⟨_, _, rfl, ?_, ?_, rfl, ?_, ?_, ?_⟩
      · repeat (first | with_reducible exact h0_0  | with_reducible exact h0_1  | with_reducible exact h1_0  | with_reducible exact h1_1 | with_reducible exact Keeps.refl _ | with_reducible refine At6.of_store (w := w2) (Rd.spotD _ _ _) ?_ ?_ XX1.out | with_reducible refine At6.of_alloc (w := w2) (Rd.spotD _ _ _) (by simp) ?_ XX1.out | with_reducible refine At6.store_far (Rd.spotD _ _ _) ?_ ?_ (by omega) | with_reducible refine At6.grew (Rd.spotD _ _ _) ?_ ((Grew.refl _).alloc _) | with_reducible refine Keeps.store6 ?_ ?_ | with_reducible refine Keeps.alloc ?_ | with_reducible refine Res6.store_far ?_ ?_ (by omega))
      · omega
      · repeat (first | with_reducible exact h0_0  | with_reducible exact h0_1  | with_reducible exact h1_0  | with_reducible exact h1_1 | with_reducible exact Keeps.refl _ | with_reducible refine At6.of_store (w := w2) (Rd.spotD _ _ _) ?_ ?_ XX2.out | with_reducible refine At6.of_alloc (w := w2) (Rd.spotD _ _ _) (by simp) ?_ XX2.out | with_reducible refine At6.store_far (Rd.spotD _ _ _) ?_ ?_ (by omega) | with_reducible refine At6.grew (Rd.spotD _ _ _) ?_ ((Grew.refl _).alloc _) | with_reducible refine Keeps.store6 ?_ ?_ | with_reducible refine Keeps.alloc ?_ | with_reducible refine Res6.store_far ?_ ?_ (by omega))
      · omega
      · (repeat (first | with_reducible exact Grew.refl _ | with_reducible refine Grew.setCell ?_ (by simp <;> omega) _ | with_reducible refine Grew.alloc ?_ _ | with_reducible refine Grew.drew ?_ | with_reducible apply Grew.trans ?_ g2 | with_reducible apply Grew.trans ?_ g1 ))
  obtain ⟨e5, e6, rfl, X, E5, rfl, Y, E6, GA⟩ := hcut
  replace P := Lib.hid (P.out.grew GA)
  replace P1 := Lib.hid (P1.out.grew GA)
  replace P2 := Lib.hid (P2.out.grew GA)
  replace S := Lib.hid (S.out.grew GA)
  replace Sy := Lib.hid (Sy.out.grew GA)
  replace z0 := Lib.hid (lt_grew z0.out GA)
  replace z1 := Lib.hid (lt_grew z1.out GA)
  replace Sc := Lib.hid (Sc.out.kept GA.keeps)
  replace G0 := Lib.hid (G0.out.trans GA)
  obtain ⟨b105, A105, n105, c105, C105, m105, d105, b205, A205, n205, c205, C205, m205, d205, X, Xy, RX, Z5⟩ := X
  replace X := Lib.hid X
  replace Xy := Lib.hid Xy
  replace RX := Lib.hid RX
  replace Z5 := Lib.hid Z5
  clear E5
  obtain ⟨b106, A106, n106, c106, C106, m106, d106, b206, A206, n206, c206, C206, m206, d206, Y, Yy, RY, Z6⟩ := Y
  replace Y := Lib.hid Y
  replace Yy := Lib.hid Yy
  replace RY := Lib.hid RY
  replace Z6 := Lib.hid Z6
  clear E6
  clear GA
  go_upto_region 2 with fail
  have gd : Grew wc wc.drew := (Grew.refl wc).drew
  replace P := Lib.hid (P.out.grew gd)
  replace P1 := Lib.hid (P1.out.grew gd)
  replace P2 := Lib.hid (P2.out.grew gd)
  replace S := Lib.hid (S.out.grew gd)
  replace Sy := Lib.hid (Sy.out.grew gd)
  replace X := Lib.hid (X.out.grew gd)
  replace Xy := Lib.hid (Xy.out.grew gd)
  replace Y := Lib.hid (Y.out.grew gd)
  replace Yy := Lib.hid (Yy.out.grew gd)
  replace z0 := Lib.hid (lt_grew z0.out gd)
  replace z1 := Lib.hid (lt_grew z1.out gd)
  replace Z5 := Lib.hid (lt_grew Z5.out gd)
  replace Z6 := Lib.hid (lt_grew Z6.out gd)
  replace Sc := Lib.hid (Sc.out.kept gd.keeps)
  replace RX := Lib.hid (RX.out.kept gd.keeps)
  replace RY := Lib.hid (RY.out.kept gd.keeps)
  replace gd := Lib.hid gd
  have ZP := P
  have ZP1 := P1
  have ZP2 := P2
  have ZS := S
  have ZSy := Sy
  have ZX := X
  have ZXy := Xy
  have ZY := Y
  have ZYy := Yy
  go_region_held3 (fun w' => w'.cell? ⟨w.heap.size, 0, none⟩ = some (.int .i64 ax) ∧ w'.cell? ⟨w.heap.size, 1, none⟩ = some (.int .i64 ay) ∧ w'.cell? ⟨w.heap.size, 2, none⟩ = some (.int .i64 bx) ∧ w'.cell? ⟨w.heap.size, 3, none⟩ = some (.int .i64 b_y) ∧ w'.cell? ⟨w.heap.size, 4, none⟩ = some (.int .i64 px) ∧ w'.cell? ⟨w.heap.size, 5, none⟩ = some (.int .i64 py) ∧ w'.cell? ⟨w.heap.size + 1, 0, none⟩ = some (.bool b5) ∧ w'.cell? ⟨w.heap.size + 1, 1, none⟩ = some (.slice A5 n5 c5) ∧ w'.cell? ⟨w.heap.size + 1, 2, none⟩ = some (.slice C5 m5 d5) ∧ w'.cell? ⟨w.heap.size + 1, 3, none⟩ = some (.bool b6) ∧ w'.cell? ⟨w.heap.size + 1, 4, none⟩ = some (.slice A6 n6 c6) ∧ w'.cell? ⟨w.heap.size + 1, 5, none⟩ = some (.slice C6 m6 d6) ∧ w'.cell? ⟨e5, 0, none⟩ = some (.bool b105) ∧ w'.cell? ⟨e5, 1, none⟩ = some (.slice A105 n105 c105) ∧ w'.cell? ⟨e5, 2, none⟩ = some (.slice C105 m105 d105) ∧ w'.cell? ⟨e5, 3, none⟩ = some (.bool b205) ∧ w'.cell? ⟨e5, 4, none⟩ = some (.slice A205 n205 c205) ∧ w'.cell? ⟨e5, 5, none⟩ = some (.slice C205 m205 d205) ∧ w'.cell? ⟨e6, 0, none⟩ = some (.bool b106) ∧ w'.cell? ⟨e6, 1, none⟩ = some (.slice A106 n106 c106) ∧ w'.cell? ⟨e6, 2, none⟩ = some (.slice C106 m106 d106) ∧ w'.cell? ⟨e6, 3, none⟩ = some (.bool b206) ∧ w'.cell? ⟨e6, 4, none⟩ = some (.slice A206 n206 c206) ∧ w'.cell? ⟨e6, 5, none⟩ = some (.slice C206 m206 d206))
    (first | (with_reducible exact ⟨ZP.out.p0, ZP.out.p1, ZP1.out.p0, ZP1.out.p1, ZP2.out.p0, ZP2.out.p1, ZS.out.p0, ZS.out.p1, ZS.out.p2, ZSy.out.p0, ZSy.out.p1, ZSy.out.p2, ZX.out.p0, ZX.out.p1, ZX.out.p2, ZXy.out.p0, ZXy.out.p1, ZXy.out.p2, ZY.out.p0, ZY.out.p1, ZY.out.p2, ZYy.out.p0, ZYy.out.p1, ZYy.out.p2⟩) | (with_reducible exact ⟨g3.cell ZP.out.p0, g3.cell ZP.out.p1, g3.cell ZP1.out.p0, g3.cell ZP1.out.p1, g3.cell ZP2.out.p0, g3.cell ZP2.out.p1, g3.cell ZS.out.p0, g3.cell ZS.out.p1, g3.cell ZS.out.p2, g3.cell ZSy.out.p0, g3.cell ZSy.out.p1, g3.cell ZSy.out.p2, g3.cell ZX.out.p0, g3.cell ZX.out.p1, g3.cell ZX.out.p2, g3.cell ZXy.out.p0, g3.cell ZXy.out.p1, g3.cell ZXy.out.p2, g3.cell ZY.out.p0, g3.cell ZY.out.p1, g3.cell ZY.out.p2, g3.cell ZYy.out.p0, g3.cell ZYy.out.p1, g3.cell ZYy.out.p2⟩) | (with_reducible exact ⟨(g3.trans g4).cell ZP.out.p0, (g3.trans g4).cell ZP.out.p1, (g3.trans g4).cell ZP1.out.p0, (g3.trans g4).cell ZP1.out.p1, (g3.trans g4).cell ZP2.out.p0, (g3.trans g4).cell ZP2.out.p1, (g3.trans g4).cell ZS.out.p0, (g3.trans g4).cell ZS.out.p1, (g3.trans g4).cell ZS.out.p2, (g3.trans g4).cell ZSy.out.p0, (g3.trans g4).cell ZSy.out.p1, (g3.trans g4).cell ZSy.out.p2, (g3.trans g4).cell ZX.out.p0, (g3.trans g4).cell ZX.out.p1, (g3.trans g4).cell ZX.out.p2, (g3.trans g4).cell ZXy.out.p0, (g3.trans g4).cell ZXy.out.p1, (g3.trans g4).cell ZXy.out.p2, (g3.trans g4).cell ZY.out.p0, (g3.trans g4).cell ZY.out.p1, (g3.trans g4).cell ZY.out.p2, (g3.trans g4).cell ZYy.out.p0, (g3.trans g4).cell ZYy.out.p1, (g3.trans g4).cell ZYy.out.p2⟩) | (with_reducible exact ⟨((g3.trans g4).trans g5).cell ZP.out.p0, ((g3.trans g4).trans g5).cell ZP.out.p1, ((g3.trans g4).trans g5).cell ZP1.out.p0, ((g3.trans g4).trans g5).cell ZP1.out.p1, ((g3.trans g4).trans g5).cell ZP2.out.p0, ((g3.trans g4).trans g5).cell ZP2.out.p1, ((g3.trans g4).trans g5).cell ZS.out.p0, ((g3.trans g4).trans g5).cell ZS.out.p1, ((g3.trans g4).trans g5).cell ZS.out.p2, ((g3.trans g4).trans g5).cell ZSy.out.p0, ((g3.trans g4).trans g5).cell ZSy.out.p1, ((g3.trans g4).trans g5).cell ZSy.out.p2, ((g3.trans g4).trans g5).cell ZX.out.p0, ((g3.trans g4).trans g5).cell ZX.out.p1, ((g3.trans g4).trans g5).cell ZX.out.p2, ((g3.trans g4).trans g5).cell ZXy.out.p0, ((g3.trans g4).trans g5).cell ZXy.out.p1, ((g3.trans g4).trans g5).cell ZXy.out.p2, ((g3.trans g4).trans g5).cell ZY.out.p0, ((g3.trans g4).trans g5).cell ZY.out.p1, ((g3.trans g4).trans g5).cell ZY.out.p2, ((g3.trans g4).trans g5).cell ZYy.out.p0, ((g3.trans g4).trans g5).cell ZYy.out.p1, ((g3.trans g4).trans g5).cell ZYy.out.p2⟩) | (with_reducible exact ⟨(((g3.trans g4).trans g5).trans g6).cell ZP.out.p0, (((g3.trans g4).trans g5).trans g6).cell ZP.out.p1, (((g3.trans g4).trans g5).trans g6).cell ZP1.out.p0, (((g3.trans g4).trans g5).trans g6).cell ZP1.out.p1, (((g3.trans g4).trans g5).trans g6).cell ZP2.out.p0, (((g3.trans g4).trans g5).trans g6).cell ZP2.out.p1, (((g3.trans g4).trans g5).trans g6).cell ZS.out.p0, (((g3.trans g4).trans g5).trans g6).cell ZS.out.p1, (((g3.trans g4).trans g5).trans g6).cell ZS.out.p2, (((g3.trans g4).trans g5).trans g6).cell ZSy.out.p0, (((g3.trans g4).trans g5).trans g6).cell ZSy.out.p1, (((g3.trans g4).trans g5).trans g6).cell ZSy.out.p2, (((g3.trans g4).trans g5).trans g6).cell ZX.out.p0, (((g3.trans g4).trans g5).trans g6).cell ZX.out.p1, (((g3.trans g4).trans g5).trans g6).cell ZX.out.p2, (((g3.trans g4).trans g5).trans g6).cell ZXy.out.p0, (((g3.trans g4).trans g5).trans g6).cell ZXy.out.p1, (((g3.trans g4).trans g5).trans g6).cell ZXy.out.p2, (((g3.trans g4).trans g5).trans g6).cell ZY.out.p0, (((g3.trans g4).trans g5).trans g6).cell ZY.out.p1, (((g3.trans g4).trans g5).trans g6).cell ZY.out.p2, (((g3.trans g4).trans g5).trans g6).cell ZYy.out.p0, (((g3.trans g4).trans g5).trans g6).cell ZYy.out.p1, (((g3.trans g4).trans g5).trans g6).cell ZYy.out.p2⟩) | (with_reducible exact ⟨((((g3.trans g4).trans g5).trans g6).trans g7).cell ZP.out.p0, ((((g3.trans g4).trans g5).trans g6).trans g7).cell ZP.out.p1, ((((g3.trans g4).trans g5).trans g6).trans g7).cell ZP1.out.p0, ((((g3.trans g4).trans g5).trans g6).trans g7).cell ZP1.out.p1, ((((g3.trans g4).trans g5).trans g6).trans g7).cell ZP2.out.p0, ((((g3.trans g4).trans g5).trans g6).trans g7).cell ZP2.out.p1, ((((g3.trans g4).trans g5).trans g6).trans g7).cell ZS.out.p0, ((((g3.trans g4).trans g5).trans g6).trans g7).cell ZS.out.p1, ((((g3.trans g4).trans g5).trans g6).trans g7).cell ZS.out.p2, ((((g3.trans g4).trans g5).trans g6).trans g7).cell ZSy.out.p0, ((((g3.trans g4).trans g5).trans g6).trans g7).cell ZSy.out.p1, ((((g3.trans g4).trans g5).trans g6).trans g7).cell ZSy.out.p2, ((((g3.trans g4).trans g5).trans g6).trans g7).cell ZX.out.p0, ((((g3.trans g4).trans g5).trans g6).trans g7).cell ZX.out.p1, ((((g3.trans g4).trans g5).trans g6).trans g7).cell ZX.out.p2, ((((g3.trans g4).trans g5).trans g6).trans g7).cell ZXy.out.p0, ((((g3.trans g4).trans g5).trans g6).trans g7).cell ZXy.out.p1, ((((g3.trans g4).trans g5).trans g6).trans g7).cell ZXy.out.p2, ((((g3.trans g4).trans g5).trans g6).trans g7).cell ZY.out.p0, ((((g3.trans g4).trans g5).trans g6).trans g7).cell ZY.out.p1, ((((g3.trans g4).trans g5).trans g6).trans g7).cell ZY.out.p2, ((((g3.trans g4).trans g5).trans g6).trans g7).cell ZYy.out.p0, ((((g3.trans g4).trans g5).trans g6).trans g7).cell ZYy.out.p1, ((((g3.trans g4).trans g5).trans g6).trans g7).cell ZYy.out.p2⟩) | (with_reducible exact ⟨(((((g3.trans g4).trans g5).trans g6).trans g7).trans g8).cell ZP.out.p0, (((((g3.trans g4).trans g5).trans g6).trans g7).trans g8).cell ZP.out.p1, (((((g3.trans g4).trans g5).trans g6).trans g7).trans g8).cell ZP1.out.p0, (((((g3.trans g4).trans g5).trans g6).trans g7).trans g8).cell ZP1.out.p1, (((((g3.trans g4).trans g5).trans g6).trans g7).trans g8).cell ZP2.out.p0, (((((g3.trans g4).trans g5).trans g6).trans g7).trans g8).cell ZP2.out.p1, (((((g3.trans g4).trans g5).trans g6).trans g7).trans g8).cell ZS.out.p0, (((((g3.trans g4).trans g5).trans g6).trans g7).trans g8).cell ZS.out.p1, (((((g3.trans g4).trans g5).trans g6).trans g7).trans g8).cell ZS.out.p2, (((((g3.trans g4).trans g5).trans g6).trans g7).trans g8).cell ZSy.out.p0, (((((g3.trans g4).trans g5).trans g6).trans g7).trans g8).cell ZSy.out.p1, (((((g3.trans g4).trans g5).trans g6).trans g7).trans g8).cell ZSy.out.p2, (((((g3.trans g4).trans g5).trans g6).trans g7).trans g8).cell ZX.out.p0, (((((g3.trans g4).trans g5).trans g6).trans g7).trans g8).cell ZX.out.p1, (((((g3.trans g4).trans g5).trans g6).trans g7).trans g8).cell ZX.out.p2, (((((g3.trans g4).trans g5).trans g6).trans g7).trans g8).cell ZXy.out.p0, (((((g3.trans g4).trans g5).trans g6).trans g7).trans g8).cell ZXy.out.p1, (((((g3.trans g4).trans g5).trans g6).trans g7).trans g8).cell ZXy.out.p2, (((((g3.trans g4).trans g5).trans g6).trans g7).trans g8).cell ZY.out.p0, (((((g3.trans g4).trans g5).trans g6).trans g7).trans g8).cell ZY.out.p1, (((((g3.trans g4).trans g5).trans g6).trans g7).trans g8).cell ZY.out.p2, (((((g3.trans g4).trans g5).trans g6).trans g7).trans g8).cell ZYy.out.p0, (((((g3.trans g4).trans g5).trans g6).trans g7).trans g8).cell ZYy.out.p1, (((((g3.trans g4).trans g5).trans g6).trans g7).trans g8).cell ZYy.out.p2⟩) | (with_reducible exact ⟨((((((g3.trans g4).trans g5).trans g6).trans g7).trans g8).trans g9).cell ZP.out.p0, ((((((g3.trans g4).trans g5).trans g6).trans g7).trans g8).trans g9).cell ZP.out.p1, ((((((g3.trans g4).trans g5).trans g6).trans g7).trans g8).trans g9).cell ZP1.out.p0, ((((((g3.trans g4).trans g5).trans g6).trans g7).trans g8).trans g9).cell ZP1.out.p1, ((((((g3.trans g4).trans g5).trans g6).trans g7).trans g8).trans g9).cell ZP2.out.p0, ((((((g3.trans g4).trans g5).trans g6).trans g7).trans g8).trans g9).cell ZP2.out.p1, ((((((g3.trans g4).trans g5).trans g6).trans g7).trans g8).trans g9).cell ZS.out.p0, ((((((g3.trans g4).trans g5).trans g6).trans g7).trans g8).trans g9).cell ZS.out.p1, ((((((g3.trans g4).trans g5).trans g6).trans g7).trans g8).trans g9).cell ZS.out.p2, ((((((g3.trans g4).trans g5).trans g6).trans g7).trans g8).trans g9).cell ZSy.out.p0, ((((((g3.trans g4).trans g5).trans g6).trans g7).trans g8).trans g9).cell ZSy.out.p1, ((((((g3.trans g4).trans g5).trans g6).trans g7).trans g8).trans g9).cell ZSy.out.p2, ((((((g3.trans g4).trans g5).trans g6).trans g7).trans g8).trans g9).cell ZX.out.p0, ((((((g3.trans g4).trans g5).trans g6).trans g7).trans g8).trans g9).cell ZX.out.p1, ((((((g3.trans g4).trans g5).trans g6).trans g7).trans g8).trans g9).cell ZX.out.p2, ((((((g3.trans g4).trans g5).trans g6).trans g7).trans g8).trans g9).cell ZXy.out.p0, ((((((g3.trans g4).trans g5).trans g6).trans g7).trans g8).trans g9).cell ZXy.out.p1, ((((((g3.trans g4).trans g5).trans g6).trans g7).trans g8).trans g9).cell ZXy.out.p2, ((((((g3.trans g4).trans g5).trans g6).trans g7).trans g8).trans g9).cell ZY.out.p0, ((((((g3.trans g4).trans g5).trans g6).trans g7).trans g8).trans g9).cell ZY.out.p1, ((((((g3.trans g4).trans g5).trans g6).trans g7).trans g8).trans g9).cell ZY.out.p2, ((((((g3.trans g4).trans g5).trans g6).trans g7).trans g8).trans g9).cell ZYy.out.p0, ((((((g3.trans g4).trans g5).trans g6).trans g7).trans g8).trans g9).cell ZYy.out.p1, ((((((g3.trans g4).trans g5).trans g6).trans g7).trans g8).trans g9).cell ZYy.out.p2⟩) | (with_reducible exact ⟨(((((((g3.trans g4).trans g5).trans g6).trans g7).trans g8).trans g9).trans g10).cell ZP.out.p0, (((((((g3.trans g4).trans g5).trans g6).trans g7).trans g8).trans g9).trans g10).cell ZP.out.p1, (((((((g3.trans g4).trans g5).trans g6).trans g7).trans g8).trans g9).trans g10).cell ZP1.out.p0, (((((((g3.trans g4).trans g5).trans g6).trans g7).trans g8).trans g9).trans g10).cell ZP1.out.p1, (((((((g3.trans g4).trans g5).trans g6).trans g7).trans g8).trans g9).trans g10).cell ZP2.out.p0, (((((((g3.trans g4).trans g5).trans g6).trans g7).trans g8).trans g9).trans g10).cell ZP2.out.p1, (((((((g3.trans g4).trans g5).trans g6).trans g7).trans g8).trans g9).trans g10).cell ZS.out.p0, (((((((g3.trans g4).trans g5).trans g6).trans g7).trans g8).trans g9).trans g10).cell ZS.out.p1, (((((((g3.trans g4).trans g5).trans g6).trans g7).trans g8).trans g9).trans g10).cell ZS.out.p2, (((((((g3.trans g4).trans g5).trans g6).trans g7).trans g8).trans g9).trans g10).cell ZSy.out.p0, (((((((g3.trans g4).trans g5).trans g6).trans g7).trans g8).trans g9).trans g10).cell ZSy.out.p1, (((((((g3.trans g4).trans g5).trans g6).trans g7).trans g8).trans g9).trans g10).cell ZSy.out.p2, (((((((g3.trans g4).trans g5).trans g6).trans g7).trans g8).trans g9).trans g10).cell ZX.out.p0, (((((((g3.trans g4).trans g5).trans g6).trans g7).trans g8).trans g9).trans g10).cell ZX.out.p1, (((((((g3.trans g4).trans g5).trans g6).trans g7).trans g8).trans g9).trans g10).cell ZX.out.p2, (((((((g3.trans g4).trans g5).trans g6).trans g7).trans g8).trans g9).trans g10).cell ZXy.out.p0, (((((((g3.trans g4).trans g5).trans g6).trans g7).trans g8).trans g9).trans g10).cell ZXy.out.p1, (((((((g3.trans g4).trans g5).trans g6).trans g7).trans g8).trans g9).trans g10).cell ZXy.out.p2, (((((((g3.trans g4).trans g5).trans g6).trans g7).trans g8).trans g9).trans g10).cell ZY.out.p0, (((((((g3.trans g4).trans g5).trans g6).trans g7).trans g8).trans g9).trans g10).cell ZY.out.p1, (((((((g3.trans g4).trans g5).trans g6).trans g7).trans g8).trans g9).trans g10).cell ZY.out.p2, (((((((g3.trans g4).trans g5).trans g6).trans g7).trans g8).trans g9).trans g10).cell ZYy.out.p0, (((((((g3.trans g4).trans g5).trans g6).trans g7).trans g8).trans g9).trans g10).cell ZYy.out.p1, (((((((g3.trans g4).trans g5).trans g6).trans g7).trans g8).trans g9).trans g10).cell ZYy.out.p2⟩))
    (first | (have chk := g9; clear chk; go_at_call 12; refine (lives05_any _).mono ?_; rintro e w10 ⟨rfl, g10⟩; replace P := Lib.hid (P.out.grew g10); replace P1 := Lib.hid (P1.out.grew g10); replace P2 := Lib.hid (P2.out.grew g10); replace S := Lib.hid (S.out.grew g10); replace Sy := Lib.hid (Sy.out.grew g10); replace X := Lib.hid (X.out.grew g10); replace Xy := Lib.hid (Xy.out.grew g10); replace Y := Lib.hid (Y.out.grew g10); replace Yy := Lib.hid (Yy.out.grew g10); replace z0 := Lib.hid (lt_grew z0.out g10); replace z1 := Lib.hid (lt_grew z1.out g10); replace Z5 := Lib.hid (lt_grew Z5.out g10); replace Z6 := Lib.hid (lt_grew Z6.out g10); replace Sc := Lib.hid (Sc.out.kept g10.keeps); replace RX := Lib.hid (RX.out.kept g10.keeps); replace RY := Lib.hid (RY.out.kept g10.keeps); replace X4 := Lib.hid (X4.out.kept g10.keeps); replace X8 := Lib.hid (X8.out.kept g10.keeps)) | (have chk := g8; clear chk; go_at_call 16; refine (r5same_yes _ _ _ _ _ X8.out RX.out.1).mono ?_; rintro e w9 ⟨rfl, g9⟩; replace P := Lib.hid (P.out.grew g9); replace P1 := Lib.hid (P1.out.grew g9); replace P2 := Lib.hid (P2.out.grew g9); replace S := Lib.hid (S.out.grew g9); replace Sy := Lib.hid (Sy.out.grew g9); replace X := Lib.hid (X.out.grew g9); replace Xy := Lib.hid (Xy.out.grew g9); replace Y := Lib.hid (Y.out.grew g9); replace Yy := Lib.hid (Yy.out.grew g9); replace z0 := Lib.hid (lt_grew z0.out g9); replace z1 := Lib.hid (lt_grew z1.out g9); replace Z5 := Lib.hid (lt_grew Z5.out g9); replace Z6 := Lib.hid (lt_grew Z6.out g9); replace Sc := Lib.hid (Sc.out.kept g9.keeps); replace RX := Lib.hid (RX.out.kept g9.keeps); replace RY := Lib.hid (RY.out.kept g9.keeps); replace X4 := Lib.hid (X4.out.kept g9.keeps); replace X8 := Lib.hid (X8.out.kept g9.keeps)) | (have chk := g7; clear chk; go_at_call 17; refine (at_any ax ay _ ra.out.1 ra.out.2.1 ra.out.2.2.1 ra.out.2.2.2).mono ?_; rintro e w8 ⟨V8, rfl, hV8, g8⟩; obtain ⟨b13, A13, n13, c13, C13, m13, d13, b14, A14, n14, c14, C14, m14, d14, rfl, -, -, X8⟩ := hV8.laid; clear hV8; replace P := Lib.hid (P.out.grew g8); replace P1 := Lib.hid (P1.out.grew g8); replace P2 := Lib.hid (P2.out.grew g8); replace S := Lib.hid (S.out.grew g8); replace Sy := Lib.hid (Sy.out.grew g8); replace X := Lib.hid (X.out.grew g8); replace Xy := Lib.hid (Xy.out.grew g8); replace Y := Lib.hid (Y.out.grew g8); replace Yy := Lib.hid (Yy.out.grew g8); replace z0 := Lib.hid (lt_grew z0.out g8); replace z1 := Lib.hid (lt_grew z1.out g8); replace Z5 := Lib.hid (lt_grew Z5.out g8); replace Z6 := Lib.hid (lt_grew Z6.out g8); replace Sc := Lib.hid (Sc.out.kept g8.keeps); replace RX := Lib.hid (RX.out.kept g8.keeps); replace RY := Lib.hid (RY.out.kept g8.keeps); replace X4 := Lib.hid (X4.out.kept g8.keeps)) | (have chk := g6; clear chk; go_at_call 9; refine (rturn_any _ _ _ (ax : Rat) (ay : Rat) (bx : Rat) (b_y : Rat) cx cy (k + 2) _ (RX.out.2.mono hk2) (RY.out.2.mono hk2) (Sc.out.mono hk3) hk4 hs4).mono ?_; rintro e w7 ⟨rfl, g7⟩; rw [hs6.out]; replace P := Lib.hid (P.out.grew g7); replace P1 := Lib.hid (P1.out.grew g7); replace P2 := Lib.hid (P2.out.grew g7); replace S := Lib.hid (S.out.grew g7); replace Sy := Lib.hid (Sy.out.grew g7); replace X := Lib.hid (X.out.grew g7); replace Xy := Lib.hid (Xy.out.grew g7); replace Y := Lib.hid (Y.out.grew g7); replace Yy := Lib.hid (Yy.out.grew g7); replace z0 := Lib.hid (lt_grew z0.out g7); replace z1 := Lib.hid (lt_grew z1.out g7); replace Z5 := Lib.hid (lt_grew Z5.out g7); replace Z6 := Lib.hid (lt_grew Z6.out g7); replace Sc := Lib.hid (Sc.out.kept g7.keeps); replace RX := Lib.hid (RX.out.kept g7.keeps); replace RY := Lib.hid (RY.out.kept g7.keeps); replace X4 := Lib.hid (X4.out.kept g7.keeps)) | (have chk := g5; clear chk; go_at_call 15; refine (side_any _ ax ay bx b_y cx cy k _ ra.out rb.out Sc.out.v hk hs5).mono ?_; rintro e w6 ⟨rfl, g6⟩; rw [hs6.out]; replace P := Lib.hid (P.out.grew g6); replace P1 := Lib.hid (P1.out.grew g6); replace P2 := Lib.hid (P2.out.grew g6); replace S := Lib.hid (S.out.grew g6); replace Sy := Lib.hid (Sy.out.grew g6); replace X := Lib.hid (X.out.grew g6); replace Xy := Lib.hid (Xy.out.grew g6); replace Y := Lib.hid (Y.out.grew g6); replace Yy := Lib.hid (Yy.out.grew g6); replace z0 := Lib.hid (lt_grew z0.out g6); replace z1 := Lib.hid (lt_grew z1.out g6); replace Z5 := Lib.hid (lt_grew Z5.out g6); replace Z6 := Lib.hid (lt_grew Z6.out g6); replace Sc := Lib.hid (Sc.out.kept g6.keeps); replace RX := Lib.hid (RX.out.kept g6.keeps); replace RY := Lib.hid (RY.out.kept g6.keeps); replace X4 := Lib.hid (X4.out.kept g6.keeps)) | (have chk := g4; clear chk; go_at_call 9; refine (rturn_any _ _ _ (ax : Rat) (ay : Rat) (bx : Rat) (b_y : Rat) (px : Rat) (py : Rat) 2 _ RX.out.2 RY.out.2 X4.out.2 (by omega) (by omega)).mono ?_; rintro e w5 ⟨rfl, g5⟩; rw [ht.out]; replace P := Lib.hid (P.out.grew g5); replace P1 := Lib.hid (P1.out.grew g5); replace P2 := Lib.hid (P2.out.grew g5); replace S := Lib.hid (S.out.grew g5); replace Sy := Lib.hid (Sy.out.grew g5); replace X := Lib.hid (X.out.grew g5); replace Xy := Lib.hid (Xy.out.grew g5); replace Y := Lib.hid (Y.out.grew g5); replace Yy := Lib.hid (Yy.out.grew g5); replace z0 := Lib.hid (lt_grew z0.out g5); replace z1 := Lib.hid (lt_grew z1.out g5); replace Z5 := Lib.hid (lt_grew Z5.out g5); replace Z6 := Lib.hid (lt_grew Z6.out g5); replace Sc := Lib.hid (Sc.out.kept g5.keeps); replace RX := Lib.hid (RX.out.kept g5.keeps); replace RY := Lib.hid (RY.out.kept g5.keeps); replace X4 := Lib.hid (X4.out.kept g5.keeps)) | (have chk := g3; clear chk; go_at_call 13; refine (rat5_any px py _ rp.out.1 rp.out.2.1 rp.out.2.2.1 rp.out.2.2.2).mono ?_; rintro e w4 ⟨V4, rfl, hV4, g4⟩; have Y4 := Lib.hid (hV4.d qp.out qp2.out); obtain ⟨b11, A11, n11, c11, C11, m11, d11, b12, A12, n12, c12, C12, m12, d12, rfl, -⟩ := hV4.laid; have X4 := Y4; clear hV4 Y4; replace P := Lib.hid (P.out.grew g4); replace P1 := Lib.hid (P1.out.grew g4); replace P2 := Lib.hid (P2.out.grew g4); replace S := Lib.hid (S.out.grew g4); replace Sy := Lib.hid (Sy.out.grew g4); replace X := Lib.hid (X.out.grew g4); replace Xy := Lib.hid (Xy.out.grew g4); replace Y := Lib.hid (Y.out.grew g4); replace Yy := Lib.hid (Yy.out.grew g4); replace z0 := Lib.hid (lt_grew z0.out g4); replace z1 := Lib.hid (lt_grew z1.out g4); replace Z5 := Lib.hid (lt_grew Z5.out g4); replace Z6 := Lib.hid (lt_grew Z6.out g4); replace Sc := Lib.hid (Sc.out.kept g4.keeps); replace RX := Lib.hid (RX.out.kept g4.keeps); replace RY := Lib.hid (RY.out.kept g4.keeps)) | (go_at_call 14; refine (turns_any ax ay bx b_y px py _ ra.out rb.out rp.out).mono ?_; rintro e w3 ⟨rfl, g3⟩; rw [show turnZ ax ay bx b_y px py = t from ht.out]; replace P := Lib.hid (P.out.grew g3); replace P1 := Lib.hid (P1.out.grew g3); replace P2 := Lib.hid (P2.out.grew g3); replace S := Lib.hid (S.out.grew g3); replace Sy := Lib.hid (Sy.out.grew g3); replace X := Lib.hid (X.out.grew g3); replace Xy := Lib.hid (Xy.out.grew g3); replace Y := Lib.hid (Y.out.grew g3); replace Yy := Lib.hid (Yy.out.grew g3); replace z0 := Lib.hid (lt_grew z0.out g3); replace z1 := Lib.hid (lt_grew z1.out g3); replace Z5 := Lib.hid (lt_grew Z5.out g3); replace Z6 := Lib.hid (lt_grew Z6.out g3); replace Sc := Lib.hid (Sc.out.kept g3.keeps); replace RX := Lib.hid (RX.out.kept g3.keeps); replace RY := Lib.hid (RY.out.kept g3.keeps)))
  replace G0 := Lib.hid (((((((((G0.out.trans gd.out).trans g3).trans g4).trans g5).trans g6).trans g7).trans g8).trans g9).trans g10)
  clear gd g3 g4 g5 g6 g7 g8 g9 g10 ZP ZP1 ZP2 ZS ZSy ZX ZXy ZY ZYy
  go_wp2_with fail
  go_ret
  exact ⟨by rfl, G0.out⟩
end Go.Proofs.YtpglnfccmhkocaaGreat
namespace Go.Proofs.YtpglnfccmhkocaaGreat
open Go.ChangeShapes Go.WideShapes Go.ChangeAt Go.RowKit

theorem cells_u32 : Tryz.prog.cellsOf 68 = 1 := by kernel_rfl

section
variable {H : Type} {enc : TypeId × Value → H} {w : World} {base : Nat} {spare : Nat → Bool} {held : Bool}

theorem bulk_lits (k : IntKind) : ∀ zs : List Int, Rows.uptoBulkAll (H := H) (lits k zs) = zs.length
  | [] => by simp [lits, Rows.uptoBulkAll]
  | z :: zs => by
    have h := bulk_lits k zs
    unfold lits at h ⊢
    simp only [List.map_cons, Rows.uptoBulkAll, Rows.uptoBulk, h, List.length_cons]
    omega

/-- A slice of words that comes in reads as a number. -/
theorem open_words {fuel : Nat} {cs : List Value} {x : DataW H × List MemPlace} (h : DataW.trod enc Tryz.prog w base spare held fuel 22 cs = some x) :
    ∃ A n c N, cs = [.slice A n c] ∧ Num 4294967296 .u32 w (.slice A n c) N n ∧ n ≤ Rows.uptoBulk x.1 := by
  rcases open_ints Tryz.underlying22 Tryz.underlying68 cells_u32 h with ⟨rfl, rfl⟩ | ⟨a, ln, cap, zs, rfl, _, hl, hm, hz, rfl, hcell, hwz⟩
  · exact ⟨none, 0, 0, 0, rfl, Num.nil _ _ _, by omega⟩
  · have hzl : ln ≤ zs.length := by rw [hz]; split <;> omega
    have hu : ∀ z ∈ zs, 0 ≤ z ∧ z < 4294967296 := by
      intro z hzm
      have h1 := hwz z hzm
      have h2 : IntKind.u32.min = 0 := rfl
      have h3 : IntKind.u32.max = 4294967295 := rfl
      simp only [Lit.wf, Bool.and_eq_true, decide_eq_true_eq] at h1
      omega
    let xs : List Nat := (zs.take ln).map Int.toNat
    have hxl : xs.length = ln := by simp [xs]; omega
    have hxb : ∀ y ∈ xs, y < 4294967296 := by
      intro y hy
      obtain ⟨z, hz1, rfl⟩ := List.mem_map.1 hy
      have := hu z (List.mem_of_mem_take hz1)
      omega
    have hN : val 4294967296 xs < 4294967296 ^ ln := by rw [← hxl]; exact val_lt (by omega) xs hxb
    have hnum : Num 4294967296 .u32 w (.slice (some a) ln cap) (val 4294967296 xs) ln := by
      refine ⟨some a, cap, rfl, hl, by unfold maxLen at hm; omega, hN, fun h0 => ?_⟩
      obtain ⟨b, off, sp⟩ := a
      have hsp : sp = none := by simpa [Addr.add] using World.cell?_spot (hcell 0 (by omega))
      subst hsp
      refine ⟨b, off, rfl, fun i hi => ?_⟩
      have hc := hcell i (by omega)
      rw [add_plain] at hc
      rw [hc, dig_val (by omega) xs hxb i]
      have hi' : i < zs.length := by omega
      have e : xs.getD i 0 = (zs.getD i 0).toNat := by simp [xs, hi, hi']
      have hz0 := hu (zs.getD i 0) (by simp [hi'])
      rw [e, Int.toNat_of_nonneg hz0.1]
    refine ⟨some a, ln, cap, _, rfl, hnum, ?_⟩
    have h2 : Rows.uptoBulk (DataW.slice (lits (H := H) .u32 (zs.take ln)) (lits .u32 (zs.drop ln))) ≥ ln := by
      simp only [Rows.uptoBulk, bulk_lits, List.length_take, List.length_drop]
      omega
    exact h2

set_option maxRecDepth 100000 in
theorem open_frac {fuel : Nat} {cs : List Value} {x : DataW H × List MemPlace} (h : DataW.trod enc Tryz.prog w base spare held fuel 26 cs = some x) :
    ∃ b A n c C m d q, cs = [.bool b, .slice A n c, .slice C m d] ∧ FracR w (.agg #[.bool b, .slice A n c, .slice C m d]) q (Rows.uptoBulk x.1) := by
  obtain ⟨y0, y1, n1, rfl, hl, h0, h1⟩ := trod_struct2 Tryz.underlying26 h
  obtain ⟨z0, z1, n2, rfl, hl2, g0, g1⟩ := trod_struct2 Tryz.underlying24 h0
  have e3 : Tryz.prog.cellsOf 26 = 3 := by kernel_rfl
  have e2 : Tryz.prog.cellsOf 24 = 2 := by kernel_rfl
  have e1 : Tryz.prog.cellsOf 22 = 1 := by kernel_rfl
  have e0 : Tryz.prog.cellsOf 4 = 1 := by kernel_rfl
  rw [e3] at hl
  match cs, hl with
  | [a0, a1, a2], _ =>
    simp only [e0, e1, e2, List.drop_zero, List.drop_succ_cons, List.take_succ_cons, List.take_zero] at h1 g0 g1
    obtain ⟨b, hb, -⟩ := DataW.trod_bool Tryz.underlying4 g0
    obtain ⟨A, n, c, N, hA, hN, hNl⟩ := open_words g1
    obtain ⟨C, m, d, D, hC, hD, hDl⟩ := open_words h1
    injection hb with hb
    injection hA with hA
    injection hC with hC
    subst hb; subst hA; subst hC
    refine ⟨b, A, n, c, C, m, d, _, rfl, b, N, D, n, m, _, _, rfl, hN, hD, rfl, ?_, ?_⟩
    · simp only [Rows.uptoBulk, Rows.uptoBulkAll]; omega
    · simp only [Rows.uptoBulk, Rows.uptoBulkAll]; omega

set_option maxRecDepth 100000 in
theorem open_spot {fuel : Nat} {cs : List Value} {x : DataW H × List MemPlace} (h : DataW.trod enc Tryz.prog w base spare held fuel 28 cs = some x) :
    ∃ p q, SpotR w (.agg cs.toArray) p q (Rows.uptoBulk x.1) := by
  obtain ⟨y0, y1, n1, rfl, hl, h0, h1⟩ := trod_struct2 Tryz.underlying28 h
  have e6 : Tryz.prog.cellsOf 28 = 6 := by kernel_rfl
  have e3 : Tryz.prog.cellsOf 26 = 3 := by kernel_rfl
  rw [e6] at hl
  match cs, hl with
  | [a0, a1, a2, a3, a4, a5], _ =>
    simp only [e3, List.drop_zero, List.drop_succ_cons, List.take_succ_cons, List.take_zero] at h0 h1
    obtain ⟨b, A, n, c, C, m, d, p, e, hp⟩ := open_frac h0
    obtain ⟨b', A', n', c', C', m', d', q, e', hq⟩ := open_frac h1
    injection e with i0 e; injection e with i1 e; injection e with i2 e
    injection e' with i3 e'; injection e' with i4 e'; injection e' with i5 e'
    subst i0; subst i1; subst i2; subst i3; subst i4; subst i5
    obtain ⟨neg, N, D, n1, m1, va, vd, w1, w2, w3, w4, w5, w6⟩ := hp
    obtain ⟨neg', N', D', n1', m1', va', vd', w1', w2', w3', w4', w5', w6'⟩ := hq
    refine ⟨p, q, b, A, n, c, C, m, d, b', A', n', c', C', m', d', rfl, ⟨neg, N, D, n1, m1, va, vd, w1, w2, w3, w4, ?_, ?_⟩, ⟨neg', N', D', n1', m1', va', vd', w1', w2', w3', w4', ?_, ?_⟩⟩ <;>
      (simp only [Rows.uptoBulk, Rows.uptoBulkAll]; omega)
end

/-- The row's last step where only new memory was made. -/
theorem post_grew {H : Type} {enc : TypeId × Value → H} {P : Program} {f : Func} {s : ChangeSpec} {apart fresh handsOn again : Bool} {W W' : World} {args : Array Value} {v : Value} {ds gs : List (DataW H)} {before pa pv : List MemPlace}
    (hW : DataW.Whole enc P f.params.toList s.vars apart W args.toList ds gs before)
    (hres : ∀ (b : Nat) (sp : Nat → Bool) (hd : Bool), DataW.TrodAll enc P W' b sp hd f.resultTypes.toList (v.resultList f.resultTypes.size) (s.fn H (ds ++ gs)).results [])
    (hargs : ∀ sp : Nat → Bool, (∀ p ∈ before, sp p.block = true) → DataW.TrodAll enc P W' 0 sp true f.params.toList args.toList (s.fn H (ds ++ gs)).args pa)
    (hvars : ∀ sp : Nat → Bool, (∀ p ∈ before, sp p.block = true) → DataW.TrodVars enc P W' sp s.vars (s.fn H (ds ++ gs)).vars pv)
    (hps : before = pa ++ pv) (g : Grew W W')
    (hok : ∀ (j : Nat) (t : TypeId) (r : Value), f.resultTypes[j]? = some t → (v.resultList f.resultTypes.size)[j]? = some r → Value.okWide P W' .any 0 t r) :
    s.post enc P f apart fresh handsOn again W args v W' := by
  have hb := g.below
  have hlt : ∀ p ∈ before, p.block < W.heap.size := fun p hp => hW.lt p hp
  have hold : ∀ p ∈ before, (fun b => decide (b < W.heap.size)) p.block = true := fun p hp => by simpa using hlt p hp
  refine ⟨ds, gs, before, [], pa, pv, hW, hres _ _ _, hargs _ hold, hvars _ hold, World.keptBut_mono (fun p hp => ⟨hp, ?_⟩) (hb.frame (· ∈ before)), fun _ => ?_⟩
  · rw [hps, List.mem_append] at hp
    exact Or.inr hp
  · obtain ⟨_, _, _, _, _, hz, hn⟩ := hW
    refine ⟨hok, _, _, ([] ++ pa) ++ pv, ⟨[] ++ pa, pv, trodAll_append (hargs _ (fun _ _ => rfl)) (hres _ _ _), hvars _ (fun _ _ => rfl), rfl, ?_, ?_⟩, ?_⟩
    · intro b off hp
      have hin : MemPlace.cell b off ∈ before := by rw [hps]; simpa using hp
      rw [hb.frozen (hlt _ hin)]
      exact hz b off hin
    · intro ha
      have := hn ha
      rw [hps] at this
      simpa using this
    · intro p hp _
      rw [hps]
      simpa using hp
end Go.Proofs.YtpglnfccmhkocaaGreat
namespace Go.Proofs.YtpglnfccmhkocaaGreat
open Go.ChangeShapes Go.WideShapes Go.ChangeAt Go.RowKit

section
variable {H : Type} {enc : TypeId × Value → H} {w : World} {base : Nat} {spare : Nat → Bool} {held : Bool}

theorem cells_int : Tryz.prog.cellsOf 3 = 1 := by kernel_rfl
theorem cells_point : Tryz.prog.cellsOf 33 = 2 := by kernel_rfl

theorem open_num {fuel : Nat} {cs : List Value} {x : DataW H × List MemPlace} (h : DataW.trod enc Tryz.prog w base spare held fuel 3 cs = some x) :
    ∃ n : Int, cs = [.int .i64 n] ∧ -9223372036854775808 ≤ n ∧ n ≤ 9223372036854775807 := by
  obtain ⟨n, rfl, -, hw⟩ := DataW.trod_int Tryz.underlying3 h
  have := bounds_i64 hw
  exact ⟨n, rfl, this⟩
set_option maxRecDepth 100000 in
theorem open_point {fuel : Nat} {cs : List Value} {x : DataW H × List MemPlace} (h : DataW.trod enc Tryz.prog w base spare held fuel 33 cs = some x) :
    ∃ a b : Int, cs = [.int .i64 a, .int .i64 b] ∧ In64 a b := by
  obtain ⟨y0, y1, n1, rfl, hl, h0, h1⟩ := trod_struct2 Tryz.underlying33 h
  rw [cells_point] at hl
  match cs, hl with
  | [a0, a1], _ =>
    simp only [cells_int, List.drop_zero, List.drop_succ_cons, List.take_succ_cons, List.take_zero] at h0 h1
    obtain ⟨a, ha, a1, a2⟩ := open_num h0
    obtain ⟨b, hb, b1, b2⟩ := open_num h1
    injection ha with ha
    injection hb with hb
    subst ha; subst hb
    exact ⟨a, b, rfl, a1, a2, b1, b2⟩
set_option maxRecDepth 100000 in
theorem open_points {fuel : Nat} {cs : List Value} {x : DataW H × List MemPlace} (h : DataW.trod enc Tryz.prog w base spare held fuel 34 cs = some x) :
    ∃ a b c d e f : Int, cs = [.int .i64 a, .int .i64 b, .int .i64 c, .int .i64 d, .int .i64 e, .int .i64 f] ∧ In64 a b ∧ In64 c d ∧ In64 e f := by
  obtain ⟨xs, m, -, -, hl, hx, hall⟩ := DataW.trod_array Tryz.underlying34 h
  rw [show Tryz.prog.cellsOf 34 = 6 by kernel_rfl] at hl
  match cs, hl, xs, hx with
  | [a0, a1, a2, a3, a4, a5], _, [x0, x1, x2], _ =>
    have h0 := hall 0 (by omega)
    have h1 := hall 1 (by omega)
    have h2 := hall 2 (by omega)
    simp only [cells_point, Nat.zero_mul, Nat.one_mul, Nat.reduceMul, List.drop_zero, List.drop_succ_cons, List.take_succ_cons, List.take_zero, List.getElem?_cons_zero, List.getElem?_cons_succ] at h0 h1 h2
    obtain ⟨a, b, e0, r0⟩ := open_point h0
    obtain ⟨c, d, e1, r1⟩ := open_point h1
    obtain ⟨e, f, e2, r2⟩ := open_point h2
    injection e0 with i0 e0; injection e0 with i1
    injection e1 with i2 e1; injection e1 with i3
    injection e2 with i4 e2; injection e2 with i5
    subst i0; subst i1; subst i2; subst i3; subst i4; subst i5
    exact ⟨a, b, c, d, e, f, rfl, r0, r1, r2⟩
end
theorem okWide_array {P : Program} {w : World} {r : Reach} {base : Nat} {t e : TypeId} {n : Nat} {v : Value} (ht : P.underlying t = some (.array n e)) (h : Value.okWide P w r base t v) : ∃ cs, v = .agg cs ∧ cs.size = P.cellsOf t := by
  simp only [Value.okWide, ht] at h
  obtain ⟨cs, h1, h2, _⟩ := h
  exact ⟨cs, h1, h2⟩
end Go.Proofs.YtpglnfccmhkocaaGreat
