/- Plain: how many words there are where two ways meet. Conditions: none. cross.Cross. Condition: ints of 64 bits. Plain: whether two ways go through one another: the program and the document answer alike. Conditions: none. r10.Fits, r17.May. Conditions: none. -/
import Derived.Test.YthhgogpglocjdaaGreatJMeetP8
import Derived.Test.YthhgogpglocjdaaGreatJMeetP3
import Derived.Test.YthhgogpglocjdaaGreatJCross2
namespace Go.Proofs.YthhgogpglocjdaaGreat
open Go.RowKit

theorem QB_24 {x : Int} (h0 : -8388607 ≤ x) (h1 : x ≤ 8388607) : QB (x : Rat) 1 := QB_int x 1 (len_le (by omega) (by rw [Nat.pow_one]; omega)) (by omega)

theorem area_int (ax ay cx cy dx dy : Int) : areaQ (cx : Rat) (cy : Rat) (dx : Rat) (dy : Rat) (ax : Rat) (ay : Rat) = ((crossZ (dx - cx) (dy - cy) (ax - cx) (ay - cy) : Int) : Rat) := by
  rw [areaQ_eq]; unfold crossZ; simp only [Rat.intCast_sub, Rat.intCast_mul]
/-- How many words a share on a way has. -/
theorem share_qb {ax ay bx b_y cx cy dx dy : Int} (h1 : fitB ax ay = true ∧ fitB bx b_y = true) (h2 : fitB cx cy = true ∧ fitB dx dy = true) {p q : Rat}
    (hp : areaQ (cx : Rat) (cy : Rat) (dx : Rat) (dy : Rat) (ax : Rat) (ay : Rat) = p) (hq : areaQ (cx : Rat) (cy : Rat) (dx : Rat) (dy : Rat) (bx : Rat) (b_y : Rat) = q) (ne : cmpQ p q ≠ 0) : p - q ≠ 0 ∧ QB (p / (p - q)) 2 := by
  have i1 := (fitB_iff _ _).1 h1.1
  have i2 := (fitB_iff _ _).1 h1.2
  have i3 := (fitB_iff _ _).1 h2.1
  have i4 := (fitB_iff _ _).1 h2.2
  have ne2 : p - q ≠ 0 := fun e => ne (cmpQ_zero.2 (by grind))
  refine ⟨ne2, ?_⟩
  rw [area_int] at hp hq
  have b1 := cross24 (show In24 (dx - cx) by unfold In24; omega) (show In24 (dy - cy) by unfold In24; omega) (show In24 (ax - cx) by unfold In24; omega) (show In24 (ay - cy) by unfold In24; omega)
  have b2 := cross24 (show In24 (dx - cx) by unfold In24; omega) (show In24 (dy - cy) by unfold In24; omega) (show In24 (bx - cx) by unfold In24; omega) (show In24 (b_y - cy) by unfold In24; omega)
  generalize crossZ (dx - cx) (dy - cy) (ax - cx) (ay - cy) = u at *
  generalize crossZ (dx - cx) (dy - cy) (bx - cx) (b_y - cy) = v at *
  have e : p - q = ((u - v : Int) : Rat) := by rw [← hp, ← hq, Rat.intCast_sub]
  rw [e, ← hp]
  refine QB_quot (fun h => ne2 (by rw [e, h]; rfl)) (len_word (by omega)) (len_word (by omega)) (by omega)
theorem endsQ_mem {ax ay bx b_y cx cy dx dy : Rat} {p : Rat × Rat} (h : p ∈ endsQ ax ay bx b_y cx cy dx dy) : p = (ax, ay) ∨ p = (bx, b_y) ∨ p = (cx, cy) ∨ p = (dx, dy) := by
  unfold endsQ at h
  simp only [List.mem_append] at h
  have f : ∀ (c : Prop) [Decidable c] (q : Rat × Rat), p ∈ (if c then [q] else []) → p = q := fun c _ q h => by
    split at h <;> simp at h
    exact h
  rcases h with ((h | h) | h) | h
  · exact .inl (f _ _ h)
  · exact .inr (.inl (f _ _ h))
  · exact .inr (.inr (.inl (f _ _ h)))
  · exact .inr (.inr (.inr (f _ _ h)))

theorem getD_mem {α : Type} {l : List α} {i : Nat} {d : α} (h : i < l.length) : l.getD i d ∈ l := by
  rw [List.getD_eq_getElem?_getD, List.getElem?_eq_getElem h]; exact List.getElem_mem _
theorem rmeet_qb {ax ay bx b_y cx cy dx dy : Int} {p : Rat × Rat} (h : p ∈ rmeetQ ax ay bx b_y cx cy dx dy) : QB p.1 7 ∧ QB p.2 7 := by
  unfold rmeetQ at h
  split at h
  · next hs =>
    obtain ⟨h1, h2⟩ := hs
    rw [Bool.and_eq_true] at h1 h2
    have i1 := (fitB_iff _ _).1 h1.1
    have i2 := (fitB_iff _ _).1 h1.2
    have i3 := (fitB_iff _ _).1 h2.1
    have i4 := (fitB_iff _ _).1 h2.2
    have qa := QB_24 i1.1 i1.2.1
    have qa2 := QB_24 i1.2.2.1 i1.2.2.2
    have qb := QB_24 i2.1 i2.2.1
    have qb2 := QB_24 i2.2.2.1 i2.2.2.2
    have qc := QB_24 i3.1 i3.2.1
    have qc2 := QB_24 i3.2.2.1 i3.2.2.2
    have qd := QB_24 i4.1 i4.2.1
    have qd2 := QB_24 i4.2.2.1 i4.2.2.2
    split at h
    · simp at h
    · split at h
      · next hc =>
        have qf := (share_qb h1 h2 rfl rfl hc).2
        unfold lineQ at h
        split at h
        · simp only [List.mem_singleton] at h
          subst h
          exact ⟨(qa.add (qf.mul (qb.sub qa))).mono (by omega), (qa2.add (qf.mul (qb2.sub qa2))).mono (by omega)⟩
        · simp at h
      · have hm : p ∈ endsQ (ax : Rat) (ay : Rat) (bx : Rat) (b_y : Rat) (cx : Rat) (cy : Rat) (dx : Rat) (dy : Rat) := by
          refine rowQ_mem ?_
          unfold ends2 at h
          split at h
          · next hl =>
            simp only [List.mem_cons, List.not_mem_nil, or_false] at h
            rcases h with h | h
            · rw [h]; exact getD_mem (by omega)
            · rw [h]; exact getD_mem (by omega)
          · exact h
        rcases endsQ_mem hm with rfl | rfl | rfl | rfl
        · exact ⟨qa.mono (by omega), qa2.mono (by omega)⟩
        · exact ⟨qb.mono (by omega), qb2.mono (by omega)⟩
        · exact ⟨qc.mono (by omega), qc2.mono (by omega)⟩
        · exact ⟨qd.mono (by omega), qd2.mono (by omega)⟩
  · simp at h
theorem meet_qb {ax ay bx b_y cx cy dx dy : Int} {p : Rat × Rat} (h : p ∈ meetQ ax ay bx b_y cx cy dx dy) : QB p.1 7 ∧ QB p.2 7 := rmeet_qb (by rw [← meetQ_eq]; exact h)
end Go.Proofs.YthhgogpglocjdaaGreat
namespace Go.Proofs.YthhgogpglocjdaaGreat
open Go.RowKit

/-- Do two ways go through one another, as the program finds it? -/
def crossB (ax ay bx b_y cx cy dx dy : Int) : Bool :=
  if (fitB ax ay && fitB bx b_y) = true ∧ (fitB cx cy && fitB dx dy) = true then
    (if (lieZ ax ay bx b_y cx cy dx dy).1 = 1 then
      (if (lieZ ax ay bx b_y cx cy dx dy).2.1 ≠ 0 ∧ (lieZ ax ay bx b_y cx cy dx dy).2.1 ≠ (lieZ ax ay bx b_y cx cy dx dy).2.2 ∧ crossZ (cx - ax) (cy - ay) (bx - ax) (b_y - ay) ≠ 0 ∧ crossZ (cx - ax) (cy - ay) (bx - ax) (b_y - ay) ≠ (lieZ ax ay bx b_y cx cy dx dy).2.2 then true else false)
    else false)
  else false

set_option maxRecDepth 100000 in
set_option maxHeartbeats 8000000 in
theorem cross_any (ax ay bx b_y cx cy dx dy : Int) (w : World) :
    Calls Tryz.prog 9 #[segV ax ay bx b_y, segV cx cy dx dy] w fun e w' => e = .returned (.bool (crossB ax ay bx b_y cx cy dx dy)) ∧ Grew w w' := by
  obtain ⟨ML, hML⟩ : ∃ ML, crossB ax ay bx b_y cx cy dx dy = ML := ⟨_, rfl⟩
  rw [hML]
  unfold crossB at hML
  obtain ⟨s, hs⟩ : ∃ s, (fitB ax ay && fitB bx b_y) = s := ⟨_, rfl⟩
  obtain ⟨t, ht⟩ : ∃ t, (fitB cx cy && fitB dx dy) = t := ⟨_, rfl⟩
  rw [hs, ht] at hML
  have hs' := Lib.hid hs
  have ht' := Lib.hid ht
  replace hML := Lib.hid hML
  replace hs := Lib.hid hs
  replace ht := Lib.hid ht
  go_enter Tryz.func9, Tryz.ntmps9
  go_wp2_with fail
  refine gen_calls ?_
  intro W0 hW0
  have G0 : Grew w W0 := by rw [hW0]; exact ((Grew.refl w).alloc _).alloc _
  have P : Box4 W0 (w.heap.size) 0 (.int .i64 ax) (.int .i64 ay) (.int .i64 bx) (.int .i64 b_y) := by rw [hW0]; exact ⟨by simp [go_sem], by simp [go_sem], by simp [go_sem], by simp [go_sem]⟩
  replace P := Lib.hid P
  have Q : Box4 W0 (w.heap.size + 1) 0 (.int .i64 cx) (.int .i64 cy) (.int .i64 dx) (.int .i64 dy) := by rw [hW0]; exact ⟨by simp [go_sem], by simp [go_sem], by simp [go_sem], by simp [go_sem]⟩
  replace Q := Lib.hid Q
  have z0 : w.heap.size < W0.heap.size := by rw [hW0]; simp <;> omega
  replace z0 := Lib.hid z0
  have z1 : w.heap.size + 1 < W0.heap.size := by rw [hW0]; simp <;> omega
  replace z1 := Lib.hid z1
  clear hW0
  replace G0 := Lib.hid G0
  refine (cmay_any ax ay bx b_y _).mono ?_
  rintro e w1 ⟨rfl, g1⟩
  replace P := Lib.hid (P.out.grew g1)
  replace Q := Lib.hid (Q.out.grew g1)
  replace z0 := Lib.hid (lt_grew z0.out g1)
  replace z1 := Lib.hid (lt_grew z1.out g1)
  replace G0 := Lib.hid (G0.out.trans g1)
  clear g1
  rw [hs.out]

  cases s
  ·
    have e := Lib.hid (show false = ML by rw [← hML.out, if_neg (by simp)])
    go_wp2_with fail
    go_ret
    exact ⟨by rw [← e.out]; rfl, G0.out⟩
  ·

    obtain ⟨P0, P1, P2, P3⟩ := P.out
    obtain ⟨Q0, Q1, Q2, Q3⟩ := Q.out
    go_wp2_with fail
    clear P0 P1 P2 P3 Q0 Q1 Q2 Q3
    refine (cmay_any cx cy dx dy _).mono ?_
    rintro e w2 ⟨rfl, g2⟩
    replace P := Lib.hid (P.out.grew g2)
    replace Q := Lib.hid (Q.out.grew g2)
    replace z0 := Lib.hid (lt_grew z0.out g2)
    replace z1 := Lib.hid (lt_grew z1.out g2)
    replace G0 := Lib.hid (G0.out.trans g2)
    clear g2
    rw [ht.out]
    cases t
    ·
      have e := Lib.hid (show false = ML by rw [← hML.out, if_neg (by simp)])
      go_wp2_with fail
      go_ret
      exact ⟨by rw [← e.out]; rfl, G0.out⟩
    ·
      have hM := hML.out
      rw [if_pos (by simp)] at hM
      have f1 := hs'.out
      have f2 := ht'.out
      rw [Bool.and_eq_true] at f1 f2
      obtain ⟨⟨k, n, d⟩, hL⟩ : ∃ L, lieZ ax ay bx b_y cx cy dx dy = L := ⟨_, rfl⟩
      rw [hL] at hM
      simp only at hM
      have F1 := Lib.hid f1
      have F2 := Lib.hid f2
      replace hL := Lib.hid hL
      replace hM := Lib.hid hM
      clear hML hs ht hs' ht' f1 f2
      obtain ⟨P0, P1, P2, P3⟩ := P.out
      obtain ⟨Q0, Q1, Q2, Q3⟩ := Q.out
      go_wp2_with fail
      clear P0 P1 P2 P3 Q0 Q1 Q2 Q3
      refine (lie_g ax ay bx b_y cx cy dx dy k n d _ F1.out.1 F1.out.2 F2.out.1 F2.out.2 hL.out).mono ?_
      rintro e w3 ⟨rfl, g3⟩
      replace P := Lib.hid (P.out.grew g3)
      replace Q := Lib.hid (Q.out.grew g3)
      replace z0 := Lib.hid (lt_grew z0.out g3)
      replace z1 := Lib.hid (lt_grew z1.out g3)
      replace G0 := Lib.hid (G0.out.trans g3)
      clear g3

      by_cases k1 : k = 1
      ·
        subst k1
        have hM2 := hM.out
        rw [if_pos rfl] at hM2
        by_cases n1 : n = 0
        ·
          have ee := Lib.hid (hM2.symm.trans (if_neg (fun h => h.1 n1)))
          subst n1
          clear hM hM2
          go_wp2_with fail
          go_ret
          exact ⟨by rw [ee.out]; rfl, G0.out⟩
        ·
          by_cases n2 : n = d
          ·
            have ee := Lib.hid (hM2.symm.trans (if_neg (fun h => h.2.1 n2)))
            subst n2
            clear hM hM2
            have nb : (n == 0) = false := by simpa using n1
            go_wp2_with fail
            go_ret
            exact ⟨by rw [ee.out]; rfl, G0.out⟩
          ·
            have nb : (n == 0) = false := by simpa using n1
            have nb2 : (n == d) = false := by simpa using n2
            obtain ⟨m, hm⟩ : ∃ m, crossZ (cx - ax) (cy - ay) (bx - ax) (b_y - ay) = m := ⟨_, rfl⟩
            rw [hm] at hM2
            have i1 := (fitB_iff _ _).1 F1.out.1
            have i2 := (fitB_iff _ _).1 F1.out.2
            have i3 := (fitB_iff _ _).1 F2.out.1
            have r1 := Lib.hid (show In24 (bx - ax) by unfold In24; omega)
            have r2 := Lib.hid (show In24 (b_y - ay) by unfold In24; omega)
            have r5 := Lib.hid (show In24 (cx - ax) by unfold In24; omega)
            have r6 := Lib.hid (show In24 (cy - ay) by unfold In24; omega)
            replace hm := Lib.hid hm
            replace hM2 := Lib.hid hM2
            clear hM i1 i2 i3

            obtain ⟨P0, P1, P2, P3⟩ := P.out
            obtain ⟨Q0, Q1, Q2, Q3⟩ := Q.out
            go_wp2_with fail
            clear P0 P1 P2 P3 Q0 Q1 Q2 Q3
            refine (fromg_any ax ay cx cy _ r5.out r6.out).mono ?_
            rintro e w4 ⟨rfl, g4⟩
            replace P := Lib.hid (P.out.grew g4)
            replace Q := Lib.hid (Q.out.grew g4)
            replace z0 := Lib.hid (lt_grew z0.out g4)
            replace z1 := Lib.hid (lt_grew z1.out g4)
            replace G0 := Lib.hid (G0.out.trans g4)
            clear g4
            go_upto_region 7 with fail
            refine gen_wp ?_
            intro W1 hW1
            have gl : Grew w4 W1 := by rw [hW1]; exact (Grew.refl _).alloc _
            replace P := Lib.hid (P.out.grew gl)
            replace Q := Lib.hid (Q.out.grew gl)
            replace z0 := Lib.hid (lt_grew z0.out gl)
            replace z1 := Lib.hid (lt_grew z1.out gl)
            have K : Box2 W1 (w4.heap.size) 0 (.int .i64 (cx - ax)) (.int .i64 (cy - ay)) := by rw [hW1]; exact ⟨by simp [go_sem], by simp [go_sem]⟩
            replace K := Lib.hid K
            have z2 : w4.heap.size < W1.heap.size := by rw [hW1]; simp <;> omega
            replace z2 := Lib.hid z2
            clear hW1
            replace G0 := Lib.hid (G0.out.trans gl)
            clear gl
            have gd : Grew W1 W1.drew := (Grew.refl W1).drew
            replace P := Lib.hid (P.out.grew gd)
            replace Q := Lib.hid (Q.out.grew gd)
            replace K := Lib.hid (K.out.grew gd)
            replace z0 := Lib.hid (lt_grew z0.out gd)
            replace z1 := Lib.hid (lt_grew z1.out gd)
            replace z2 := Lib.hid (lt_grew z2.out gd)
            replace gd := Lib.hid gd
            have ZP := P
            have ZK := K
            go_region_held3 (fun w' => w'.cell? ⟨w.heap.size, 0, none⟩ = some (.int .i64 ax) ∧ w'.cell? ⟨w.heap.size, 1, none⟩ = some (.int .i64 ay) ∧ w'.cell? ⟨w.heap.size, 2, none⟩ = some (.int .i64 bx) ∧ w'.cell? ⟨w.heap.size, 3, none⟩ = some (.int .i64 b_y) ∧ w'.cell? ⟨w4.heap.size, 0, none⟩ = some (.int .i64 (cx - ax)) ∧ w'.cell? ⟨w4.heap.size, 1, none⟩ = some (.int .i64 (cy - ay)))
              (first | (with_reducible exact ⟨ZP.out.p0, ZP.out.p1, ZP.out.p2, ZP.out.p3, ZK.out.p0, ZK.out.p1⟩) | (with_reducible exact ⟨g5.cell ZP.out.p0, g5.cell ZP.out.p1, g5.cell ZP.out.p2, g5.cell ZP.out.p3, g5.cell ZK.out.p0, g5.cell ZK.out.p1⟩) | (with_reducible exact ⟨(g5.trans g6).cell ZP.out.p0, (g5.trans g6).cell ZP.out.p1, (g5.trans g6).cell ZP.out.p2, (g5.trans g6).cell ZP.out.p3, (g5.trans g6).cell ZK.out.p0, (g5.trans g6).cell ZK.out.p1⟩))
              (first | (have chk := g5; clear chk; go_at_call 31; refine (timesg_any (cx - ax) (cy - ay) (bx - ax) (b_y - ay) _ r5.out r6.out r1.out r2.out).mono ?_; rintro e w6 ⟨rfl, g6⟩; rw [hm.out]; replace P := Lib.hid (P.out.grew g6); replace Q := Lib.hid (Q.out.grew g6); replace K := Lib.hid (K.out.grew g6); replace z0 := Lib.hid (lt_grew z0.out g6); replace z1 := Lib.hid (lt_grew z1.out g6); replace z2 := Lib.hid (lt_grew z2.out g6)) | (go_at_call 30; refine (fromg_any ax ay bx b_y _ r1.out r2.out).mono ?_; rintro e w5 ⟨rfl, g5⟩; replace P := Lib.hid (P.out.grew g5); replace Q := Lib.hid (Q.out.grew g5); replace K := Lib.hid (K.out.grew g5); replace z0 := Lib.hid (lt_grew z0.out g5); replace z1 := Lib.hid (lt_grew z1.out g5); replace z2 := Lib.hid (lt_grew z2.out g5)))
            replace G0 := Lib.hid (((G0.out.trans gd.out).trans g5).trans g6)
            clear gd g5 g6 ZP ZK
            by_cases m1 : m = 0
            ·
              have ee := Lib.hid (hM2.out.symm.trans (if_neg (fun h => h.2.2.1 m1)))
              subst m1
              go_wp2_with fail
              go_ret
              exact ⟨by rw [ee.out]; rfl, G0.out⟩
            ·
              have mb : (m == 0) = false := by simpa using m1
              by_cases m2 : m = d
              ·
                have ee := Lib.hid (hM2.out.symm.trans (if_neg (fun h => h.2.2.2 m2)))
                subst m2
                go_wp2_with fail
                go_ret
                exact ⟨by rw [ee.out]; rfl, G0.out⟩
              ·
                have ee := Lib.hid (hM2.out.symm.trans (if_pos ⟨n1, n2, m1, m2⟩))
                have mb2 : (m == d) = false := by simpa using m2
                have mn1 : (m != 0) = true := by simpa using m1
                have mn2 : (m != d) = true := by simpa using m2
                go_wp2_with fail
                go_ret
                exact ⟨by rw [ee.out]; rfl, G0.out⟩
      ·
        have ee := Lib.hid (hM.out.symm.trans (if_neg k1))
        have kb : (k == 1) = false := by simpa using k1
        clear hM
        go_wp2_with fail
        go_ret
        exact ⟨by rw [ee.out]; rfl, G0.out⟩
end Go.Proofs.YthhgogpglocjdaaGreat
namespace Go.Proofs.YthhgogpglocjdaaGreat
open Go.RowKit

/-- One point, that is no end. -/
def rcrossP (ax ay bx b_y cx cy dx dy : Int) (l : List (Rat × Rat)) : Prop :=
  l.length = 1 ∧ ¬ (ax = bx ∧ ay = b_y) ∧ ¬ (cx = dx ∧ cy = dy) ∧ l.getD 0 (0, 0) ≠ castP (ax, ay) ∧ l.getD 0 (0, 0) ≠ castP (bx, b_y) ∧ l.getD 0 (0, 0) ≠ castP (cx, cy) ∧ l.getD 0 (0, 0) ≠ castP (dx, dy)

theorem at_share {ax ay bx b_y f : Rat} (hv : ax ≠ bx ∨ ay ≠ b_y) : ((ax + f * (bx - ax), ay + f * (b_y - ay)) : Rat × Rat) = (ax, ay) ↔ f = 0 := by
  simp only [Prod.mk.injEq]
  constructor
  · rintro ⟨h1, h2⟩
    have e1 : f * (bx - ax) = 0 := by grind
    have e2 : f * (b_y - ay) = 0 := by grind
    rcases hv with hv | hv
    · rcases Rat.mul_eq_zero.1 e1 with h | h
      · exact h
      · exact absurd (by grind : ax = bx) hv
    · rcases Rat.mul_eq_zero.1 e2 with h | h
      · exact h
      · exact absurd (by grind : ay = b_y) hv
  · rintro rfl; constructor <;> grind
theorem at_whole {ax ay bx b_y f : Rat} (hv : ax ≠ bx ∨ ay ≠ b_y) : ((ax + f * (bx - ax), ay + f * (b_y - ay)) : Rat × Rat) = (bx, b_y) ↔ f = 1 := by
  have h := at_share (ax := bx) (ay := b_y) (bx := ax) (b_y := ay) (f := 1 - f) (by grind)
  have e : ((bx + (1 - f) * (ax - bx), b_y + (1 - f) * (ay - b_y)) : Rat × Rat) = (ax + f * (bx - ax), ay + f * (b_y - ay)) := by
    simp only [Prod.mk.injEq]; constructor <;> grind
  rw [e] at h
  rw [h]; grind
theorem quot_zero {n d : Int} (hd : d ≠ 0) : (n : Rat) / (d : Rat) = 0 ↔ n = 0 := by
  have h := quot_mul (n := n) hd
  have z : ((0 : Int) : Rat) = 0 := rfl
  constructor
  · intro e; rw [e] at h; have : (n : Rat) = ((0 : Int) : Rat) := by rw [z]; grind
    exact Rat.intCast_inj.1 this
  · rintro rfl; rw [z]; grind
theorem quot_one {n d : Int} (hd : d ≠ 0) : (n : Rat) / (d : Rat) = 1 ↔ n = d := by
  have h := quot_mul (n := n) hd
  have d0 : (d : Rat) ≠ 0 := fun e => hd (by have e2 : (d : Rat) = ((0 : Int) : Rat) := e; exact Rat.intCast_inj.1 e2)
  constructor
  · intro e; rw [e] at h; have : (n : Rat) = (d : Rat) := by grind
    exact Rat.intCast_inj.1 this
  · rintro rfl; grind

theorem commonZ_one {s t : (Int × Int) × (Int × Int)} (h : (commonZ s t).length = 1) : ∃ lo, commonZ s t = [lo] ∧ (lo = s.1 ∨ lo = t.1) := by
  have f : ∀ (c : Prop) [Decidable c] (c2 : Prop) [Decidable c2] (lo hi : Int × Int), (if c then [lo] else if c2 then [] else [lo, hi]).length = 1 → (if c then [lo] else if c2 then [] else [lo, hi]) = [lo] := by
    intro c _ c2 _ lo hi h
    by_cases k : c
    · rw [if_pos k]
    · rw [if_neg k] at h
      by_cases k2 : c2
      · rw [if_pos k2] at h; simp at h
      · rw [if_neg k2] at h; simp at h
  unfold commonZ at h ⊢
  refine ⟨_, f _ _ _ _ h, ?_⟩
  split
  · exact .inr rfl
  · exact .inl rfl

theorem cross_eq (ax ay bx b_y cx cy dx dy : Int) : crossB ax ay bx b_y cx cy dx dy = true ↔ rcrossP ax ay bx b_y cx cy dx dy (meetQ ax ay bx b_y cx cy dx dy) := by
  by_cases hs : (fitB ax ay && fitB bx b_y) = true ∧ (fitB cx cy && fitB dx dy) = true
  · by_cases hD : crossZ (bx - ax) (b_y - ay) (dx - cx) (dy - cy) = 0
    · -- along or apart: no crossing
      have hk : (lieZ ax ay bx b_y cx cy dx dy).1 ≠ 1 := by
        have f : ∀ (c : Prop) [Decidable c], (if c then ((2 : Int), (0 : Int), (0 : Int)) else (0, 0, 0)).1 ≠ 1 := fun c _ => by by_cases k : c <;> simp [k]
        unfold lieZ
        simp only [hD, if_true]
        exact f _
      have h1 : crossB ax ay bx b_y cx cy dx dy = false := by
        unfold crossB
        rw [if_pos hs, if_neg hk]
      rw [h1]
      refine ⟨fun h => by simp at h, fun h => ?_⟩
      obtain ⟨e1, -, -, a1, a2, a3, a4⟩ := h
      exfalso
      have hm : meetQ ax ay bx b_y cx cy dx dy = [] ∨ meetQ ax ay bx b_y cx cy dx dy = (commonZ (sortZ ax ay bx b_y) (sortZ cx cy dx dy)).map castP := by
        unfold meetQ
        rw [if_pos hs, if_neg hk]
        split
        · split
          · exact .inl rfl
          · exact .inr rfl
        · exact .inl rfl
      rcases hm with e | e <;> rw [e] at e1 a1 a2 a3 a4
      · simp at e1
      · rw [List.length_map] at e1
        obtain ⟨lo, h5, h6⟩ := commonZ_one e1
        rw [h5] at a1 a2 a3 a4
        have g : (List.map castP [lo]).getD 0 (0, 0) = castP lo := rfl
        rw [g] at a1 a2 a3 a4
        rcases h6 with k | k <;> rw [k] at a1 a2 a3 a4
        · rcases sortZ_ends ax ay bx b_y with ⟨j, -⟩ | ⟨j, -⟩
          · exact a1 j
          · exact a2 j
        · rcases sortZ_ends cx cy dx dy with ⟨j, -⟩ | ⟨j, -⟩
          · exact a3 j
          · exact a4 j
    · obtain ⟨D, eD⟩ : ∃ D, crossZ (bx - ax) (b_y - ay) (dx - cx) (dy - cy) = D := ⟨_, rfl⟩
      obtain ⟨n, en⟩ : ∃ n, crossZ (cx - ax) (cy - ay) (dx - cx) (dy - cy) = n := ⟨_, rfl⟩
      obtain ⟨m, em⟩ : ∃ m, crossZ (cx - ax) (cy - ay) (bx - ax) (b_y - ay) = m := ⟨_, rfl⟩
      rw [eD] at hD
      have hL : lieZ ax ay bx b_y cx cy dx dy = if shareB n D = true ∧ shareB m D = true then (1, n, D) else (0, 0, 0) := by
        unfold lieZ
        simp only [eD, en, em]
        rw [if_neg hD]
      have rD : (D : Rat) = ((bx : Rat) - ax) * ((dy : Rat) - cy) - ((b_y : Rat) - ay) * ((dx : Rat) - cx) := by
        rw [← eD]; unfold crossZ; simp only [Rat.intCast_sub, Rat.intCast_mul]
      have rn : (n : Rat) = ((cx : Rat) - ax) * ((dy : Rat) - cy) - ((cy : Rat) - ay) * ((dx : Rat) - cx) := by
        rw [← en]; unfold crossZ; simp only [Rat.intCast_sub, Rat.intCast_mul]
      have rm : (m : Rat) = ((cx : Rat) - ax) * ((b_y : Rat) - ay) - ((cy : Rat) - ay) * ((bx : Rat) - ax) := by
        rw [← em]; unfold crossZ; simp only [Rat.intCast_sub, Rat.intCast_mul]
      have D0 : (D : Rat) ≠ 0 := fun e => hD (by have e2 : (D : Rat) = ((0 : Int) : Rat) := e; exact Rat.intCast_inj.1 e2)
      have f1 := quot_mul (n := n) hD
      have g1 := quot_mul (n := m) hD
      obtain ⟨c1, c2⟩ := cramer rD D0 (f1.trans rn) (g1.trans rm)
      have v0 : (ax : Rat) ≠ bx ∨ (ay : Rat) ≠ b_y := by
        refine Decidable.byContradiction fun h => D0 ?_
        rw [rD]; grind
      have w0 : (cx : Rat) ≠ dx ∨ (cy : Rat) ≠ dy := by
        refine Decidable.byContradiction fun h => D0 ?_
        rw [rD]; grind
      have x1 : (ax : Rat) + (((bx - ax) * n : Int) : Rat) / (D : Rat) = (ax : Rat) + (n : Rat) / (D : Rat) * ((bx : Rat) - ax) := by rw [Rat.intCast_mul, Rat.intCast_sub]; grind
      have x2 : (ay : Rat) + (((b_y - ay) * n : Int) : Rat) / (D : Rat) = (ay : Rat) + (n : Rat) / (D : Rat) * ((b_y : Rat) - ay) := by rw [Rat.intCast_mul, Rat.intCast_sub]; grind
      by_cases hsh : shareB n D = true ∧ shareB m D = true
      · rw [if_pos hsh] at hL
        have hm : meetQ ax ay bx b_y cx cy dx dy = [((ax : Rat) + (n : Rat) / (D : Rat) * ((bx : Rat) - ax), (ay : Rat) + (n : Rat) / (D : Rat) * ((b_y : Rat) - ay))] := by
          unfold meetQ
          rw [if_pos hs, hL, if_pos (show ((1 : Int), n, D).1 = 1 from rfl), x1, x2]
        have hc : crossB ax ay bx b_y cx cy dx dy = true ↔ n ≠ 0 ∧ n ≠ D ∧ m ≠ 0 ∧ m ≠ D := by
          unfold crossB
          rw [if_pos hs, hL, if_pos (show ((1 : Int), n, D).1 = 1 from rfl), em]
          by_cases k : n ≠ 0 ∧ n ≠ D ∧ m ≠ 0 ∧ m ≠ D
          · rw [if_pos k]; simp only [true_iff]; exact k
          · rw [if_neg k]
            constructor
            · intro h; simp at h
            · intro h; exact absurd h k
        rw [hc, hm]
        have s1 := at_share (f := (n : Rat) / (D : Rat)) v0
        have s2 := at_whole (f := (n : Rat) / (D : Rat)) v0
        have s3 := at_share (f := (m : Rat) / (D : Rat)) w0
        have s4 := at_whole (f := (m : Rat) / (D : Rat)) w0
        rw [quot_zero hD] at s1 s3
        rw [quot_one hD] at s2 s4
        rw [← c1, ← c2] at s3 s4
        have ab : ¬ (ax = bx ∧ ay = b_y) := fun h => by
          rcases v0 with v | v
          · exact v (by rw [h.1])
          · exact v (by rw [h.2])
        have cd : ¬ (cx = dx ∧ cy = dy) := fun h => by
          rcases w0 with v | v
          · exact v (by rw [h.1])
          · exact v (by rw [h.2])
        have g : ∀ P : Rat × Rat, [P].getD 0 (0, 0) = P := fun _ => rfl
        unfold rcrossP
        rw [g]
        unfold castP
        constructor
        · rintro ⟨k1, k2, k3, k4⟩
          exact ⟨rfl, ab, cd, fun h => k1 (s1.1 h), fun h => k2 (s2.1 h), fun h => k3 (s3.1 h), fun h => k4 (s4.1 h)⟩
        · rintro ⟨-, -, -, k1, k2, k3, k4⟩
          exact ⟨fun h => k1 (s1.2 h), fun h => k2 (s2.2 h), fun h => k3 (s3.2 h), fun h => k4 (s4.2 h)⟩
      · rw [if_neg hsh] at hL
        have hm : meetQ ax ay bx b_y cx cy dx dy = [] := by
          unfold meetQ
          rw [if_pos hs, hL, if_neg (show ¬ ((0 : Int), (0 : Int), (0 : Int)).1 = 1 by simp), if_neg (show ¬ ((0 : Int), (0 : Int), (0 : Int)).1 = 2 by simp)]
        have hc : crossB ax ay bx b_y cx cy dx dy = false := by
          unfold crossB
          rw [if_pos hs, hL, if_neg (show ¬ ((0 : Int), (0 : Int), (0 : Int)).1 = 1 by simp)]
        rw [hc, hm]
        unfold rcrossP
        simp
  · have h1 : crossB ax ay bx b_y cx cy dx dy = false := by unfold crossB; rw [if_neg hs]
    have h2 : meetQ ax ay bx b_y cx cy dx dy = [] := by unfold meetQ; rw [if_neg hs]
    rw [h1, h2]
    unfold rcrossP
    simp
end Go.Proofs.YthhgogpglocjdaaGreat
namespace Go.Proofs.YthhgogpglocjdaaGreat
open Go.RowKit

set_option maxRecDepth 100000 in
set_option maxHeartbeats 2000000 in
theorem rfits_any (x y : Int) (w : World) : Calls Tryz.prog 49 #[.agg #[.int .i64 x, .int .i64 y]] w fun e w' => e = .returned (.bool (fitB x y)) ∧ Grew w w' := by
  by_cases h1 : -8388607 ≤ x
  · by_cases h2 : x ≤ 8388607
    · by_cases h3 : -8388607 ≤ y
      · by_cases h4 : y ≤ 8388607
        · have e := Lib.hid ((fitB_iff x y).2 ⟨h1, h2, h3, h4⟩)
          go_enter Tryz.func49, Tryz.ntmps49
          go_wp2_with fail
          go_ret
          exact ⟨by rw [e.out]; rfl, (Grew.refl w).alloc _⟩
        · have e := Lib.hid (show fitB x y = false by unfold fitB inB; simp [h4])
          go_enter Tryz.func49, Tryz.ntmps49
          go_wp2_with fail
          go_ret
          exact ⟨by rw [e.out]; rfl, (Grew.refl w).alloc _⟩
      · have e := Lib.hid (show fitB x y = false by unfold fitB inB; simp [h3])
        go_enter Tryz.func49, Tryz.ntmps49
        go_wp2_with fail
        go_ret
        exact ⟨by rw [e.out]; rfl, (Grew.refl w).alloc _⟩
    · have e := Lib.hid (show fitB x y = false by unfold fitB inB; simp [h2])
      go_enter Tryz.func49, Tryz.ntmps49
      go_wp2_with fail
      go_ret
      exact ⟨by rw [e.out]; rfl, (Grew.refl w).alloc _⟩
  · have e := Lib.hid (show fitB x y = false by unfold fitB inB; simp [h1])
    go_enter Tryz.func49, Tryz.ntmps49
    go_wp2_with fail
    go_ret
    exact ⟨by rw [e.out]; rfl, (Grew.refl w).alloc _⟩

set_option maxRecDepth 100000 in
set_option maxHeartbeats 2000000 in
theorem rmay_any (ax ay bx b_y : Int) (w : World) : Calls Tryz.prog 22 #[segV ax ay bx b_y] w fun e w' => e = .returned (.bool (fitB ax ay && fitB bx b_y)) ∧ Grew w w' := by
  obtain ⟨a, ha⟩ : ∃ a, fitB ax ay = a := ⟨_, rfl⟩
  obtain ⟨b, hb⟩ : ∃ b, fitB bx b_y = b := ⟨_, rfl⟩
  rw [ha, hb]
  replace ha := Lib.hid ha
  replace hb := Lib.hid hb
  go_enter Tryz.func22, Tryz.ntmps22
  go_wp2_with fail
  refine gen_calls ?_
  intro W0 hW0
  have G0 : Grew w W0 := by rw [hW0]; exact (Grew.refl w).alloc _
  have P : Box2 W0 (w.heap.size) 0 (.int .i64 ax) (.int .i64 ay) := by rw [hW0]; exact ⟨by simp [go_sem], by simp [go_sem]⟩
  replace P := Lib.hid P
  have Q : Box2 W0 (w.heap.size) 2 (.int .i64 bx) (.int .i64 b_y) := by rw [hW0]; exact ⟨by simp [go_sem], by simp [go_sem]⟩
  replace Q := Lib.hid Q
  have z0 : w.heap.size < W0.heap.size := by rw [hW0]; simp <;> omega
  replace z0 := Lib.hid z0
  clear hW0
  replace G0 := Lib.hid G0
  refine (rfits_any ax ay _).mono ?_
  rintro e w1 ⟨rfl, g1⟩
  replace P := Lib.hid (P.out.grew g1)
  replace Q := Lib.hid (Q.out.grew g1)
  replace z0 := Lib.hid (lt_grew z0.out g1)
  replace G0 := Lib.hid (G0.out.trans g1)
  clear g1
  rw [ha.out]

  cases a
  ·
    go_wp2_with fail
    go_ret
    exact ⟨rfl, G0.out⟩
  ·

    obtain ⟨P0, P1⟩ := P.out
    obtain ⟨Q0, Q1⟩ := Q.out
    go_wp2_with fail
    clear P0 P1 Q0 Q1
    refine (rfits_any bx b_y _).mono ?_
    rintro e w2 ⟨rfl, g2⟩
    replace P := Lib.hid (P.out.grew g2)
    replace Q := Lib.hid (Q.out.grew g2)
    replace z0 := Lib.hid (lt_grew z0.out g2)
    replace G0 := Lib.hid (G0.out.trans g2)
    clear g2
    rw [hb.out]
    go_wp2_with fail
    go_ret
    exact ⟨by cases b <;> rfl, G0.out⟩
end Go.Proofs.YthhgogpglocjdaaGreat
