/- Plain: how many words there are where two ways meet. Conditions: none. law17.lives: two ways meet in the middle. Condition: none. spot.Side. Condition: what comes in reads; fewer than 2^26 words. r01.Same, r02.Same, r04.Same, r05.Same at what is the same. Condition: what comes in reads. -/
import Derived.Test.YthhgogpglocjdaaJMeetP8
import Derived.Test.YthhgogpglocjdaaJMeetP3
import Derived.Test.YthhgogpglocjdaaJRoundsP
import Derived.Test.YthhgogpglocjdaaJGrid2
import Derived.Test.YthhgogpglocjdaaJRowP
namespace Go.Proofs.Ythhgogpglocjdaa
open Go.RowKit

theorem QB_24 {x : Int} (h0 : -8388607 ≤ x) (h1 : x ≤ 8388607) : QB (x : Rat) 1 := QB_int x 1 (len_le (by omega) (by rw [Nat.pow_one]; omega)) (by omega)

theorem area_int (ax ay cx cy dx dy : Int) : areaQ (cx : Rat) (cy : Rat) (dx : Rat) (dy : Rat) (ax : Rat) (ay : Rat) = ((crossZ (dx - cx) (dy - cy) (ax - cx) (ay - cy) : Int) : Rat) := by
  rw [areaQ_eq]; unfold crossZ; simp only [Rat.intCast_sub, Rat.intCast_mul]
/-- How many words a share on a way has. -/
theorem share_qb {ax ay bx b_y cx cy dx dy : Int} (h1 : fitB ax ay = true ∧ fitB bx b_y = true) (h2 : fitB cx cy = true ∧ fitB dx dy = true) {p q : Rat}
    (hp : areaQ (cx : Rat) (cy : Rat) (dx : Rat) (dy : Rat) (ax : Rat) (ay : Rat) = p) (hq : areaQ (cx : Rat) (cy : Rat) (dx : Rat) (dy : Rat) (bx : Rat) (b_y : Rat) = q) (ne : cmpQ p q ≠ 0) : p - q ≠ 0 ∧ QB (p / (p - q)) 2 := by
  have i1 := (fitB_iff _ _).1 h1.1
  have i2 := (fitB_iff _ _).1 h1.2
  have i3 := (fitB_iff _ _).1 h2.1
  have i4 := (fitB_iff _ _).1 h2.2
  have ne2 : p - q ≠ 0 := fun e => ne (cmpQ_zero.2 (by grind))
  refine ⟨ne2, ?_⟩
  rw [area_int] at hp hq
  have b1 := cross24 (show In24 (dx - cx) by unfold In24; omega) (show In24 (dy - cy) by unfold In24; omega) (show In24 (ax - cx) by unfold In24; omega) (show In24 (ay - cy) by unfold In24; omega)
  have b2 := cross24 (show In24 (dx - cx) by unfold In24; omega) (show In24 (dy - cy) by unfold In24; omega) (show In24 (bx - cx) by unfold In24; omega) (show In24 (b_y - cy) by unfold In24; omega)
  generalize crossZ (dx - cx) (dy - cy) (ax - cx) (ay - cy) = u at *
  generalize crossZ (dx - cx) (dy - cy) (bx - cx) (b_y - cy) = v at *
  have e : p - q = ((u - v : Int) : Rat) := by rw [← hp, ← hq, Rat.intCast_sub]
  rw [e, ← hp]
  refine QB_quot (fun h => ne2 (by rw [e, h]; rfl)) (len_word (by omega)) (len_word (by omega)) (by omega)
theorem endsQ_mem {ax ay bx b_y cx cy dx dy : Rat} {p : Rat × Rat} (h : p ∈ endsQ ax ay bx b_y cx cy dx dy) : p = (ax, ay) ∨ p = (bx, b_y) ∨ p = (cx, cy) ∨ p = (dx, dy) := by
  unfold endsQ at h
  simp only [List.mem_append] at h
  have f : ∀ (c : Prop) [Decidable c] (q : Rat × Rat), p ∈ (if c then [q] else []) → p = q := fun c _ q h => by
    split at h <;> simp at h
    exact h
  rcases h with ((h | h) | h) | h
  · exact .inl (f _ _ h)
  · exact .inr (.inl (f _ _ h))
  · exact .inr (.inr (.inl (f _ _ h)))
  · exact .inr (.inr (.inr (f _ _ h)))

theorem getD_mem {α : Type} {l : List α} {i : Nat} {d : α} (h : i < l.length) : l.getD i d ∈ l := by
  rw [List.getD_eq_getElem?_getD, List.getElem?_eq_getElem h]; exact List.getElem_mem _
theorem rmeet_qb {ax ay bx b_y cx cy dx dy : Int} {p : Rat × Rat} (h : p ∈ rmeetQ ax ay bx b_y cx cy dx dy) : QB p.1 7 ∧ QB p.2 7 := by
  unfold rmeetQ at h
  split at h
  · next hs =>
    obtain ⟨h1, h2⟩ := hs
    rw [Bool.and_eq_true] at h1 h2
    have i1 := (fitB_iff _ _).1 h1.1
    have i2 := (fitB_iff _ _).1 h1.2
    have i3 := (fitB_iff _ _).1 h2.1
    have i4 := (fitB_iff _ _).1 h2.2
    have qa := QB_24 i1.1 i1.2.1
    have qa2 := QB_24 i1.2.2.1 i1.2.2.2
    have qb := QB_24 i2.1 i2.2.1
    have qb2 := QB_24 i2.2.2.1 i2.2.2.2
    have qc := QB_24 i3.1 i3.2.1
    have qc2 := QB_24 i3.2.2.1 i3.2.2.2
    have qd := QB_24 i4.1 i4.2.1
    have qd2 := QB_24 i4.2.2.1 i4.2.2.2
    split at h
    · simp at h
    · split at h
      · next hc =>
        have qf := (share_qb h1 h2 rfl rfl hc).2
        unfold lineQ at h
        split at h
        · simp only [List.mem_singleton] at h
          subst h
          exact ⟨(qa.add (qf.mul (qb.sub qa))).mono (by omega), (qa2.add (qf.mul (qb2.sub qa2))).mono (by omega)⟩
        · simp at h
      · have hm : p ∈ endsQ (ax : Rat) (ay : Rat) (bx : Rat) (b_y : Rat) (cx : Rat) (cy : Rat) (dx : Rat) (dy : Rat) := by
          refine rowQ_mem ?_
          unfold ends2 at h
          split at h
          · next hl =>
            simp only [List.mem_cons, List.not_mem_nil, or_false] at h
            rcases h with h | h
            · rw [h]; exact getD_mem (by omega)
            · rw [h]; exact getD_mem (by omega)
          · exact h
        rcases endsQ_mem hm with rfl | rfl | rfl | rfl
        · exact ⟨qa.mono (by omega), qa2.mono (by omega)⟩
        · exact ⟨qb.mono (by omega), qb2.mono (by omega)⟩
        · exact ⟨qc.mono (by omega), qc2.mono (by omega)⟩
        · exact ⟨qd.mono (by omega), qd2.mono (by omega)⟩
  · simp at h
theorem meet_qb {ax ay bx b_y cx cy dx dy : Int} {p : Rat × Rat} (h : p ∈ meetQ ax ay bx b_y cx cy dx dy) : QB p.1 7 ∧ QB p.2 7 := rmeet_qb (by rw [← meetQ_eq]; exact h)
end Go.Proofs.Ythhgogpglocjdaa
namespace Go.Proofs.Ythhgogpglocjdaa
open Go.RowKit

theorem meet_lives : meetQ 0 0 4 4 0 4 4 0 = [(((2 : Int) : Rat), ((2 : Int) : Rat))] := by decide +kernel

set_option maxRecDepth 100000 in
set_option maxHeartbeats 4000000 in
theorem lives17_any (w : World) : Calls Try.prog 9 #[] w fun e w' => e = .returned (.bool true) ∧ Grew w w' := by
  go_enter Try.func9, Try.ntmps9
  go_wp2_with fail
  refine (meet_any 0 0 4 4 0 4 4 0 _ (by unfold In64; omega) (by unfold In64; omega) (by unfold In64; omega) (by unfold In64; omega)).mono ?_
  rintro e w1 ⟨v, rfl, hv, g1⟩
  rw [meet_lives] at hv
  obtain ⟨A, c, rfl, h1, h2, h3⟩ := hv
  obtain ⟨b, o, rfl, he⟩ := h3 (by simp)
  obtain ⟨b1, A1, n1, c1, C1, m1, d1, b2, A2, n2, c2, C2, m2, d2, ⟨e0, e1, e2, e3, e4, e5⟩, S1⟩ := he 0 _ rfl
  replace e0 : w1.cell? ⟨b, o, none⟩ = some (.bool b1) := e0
  replace e1 : w1.cell? ⟨b, o + 1, none⟩ = some (.slice A1 n1 c1) := e1
  replace e2 : w1.cell? ⟨b, o + 2, none⟩ = some (.slice C1 m1 d1) := e2
  replace e3 : w1.cell? ⟨b, o + 3, none⟩ = some (.bool b2) := e3
  replace e4 : w1.cell? ⟨b, o + 4, none⟩ = some (.slice A2 n2 c2) := e4
  replace e5 : w1.cell? ⟨b, o + 5, none⟩ = some (.slice C2 m2 d2) := e5
  have hv := Lib.hid (SpotC.v (k := 1) S1 (QB_int 2 1 (by rw [show (2 : Int).natAbs = 2 from rfl, len_lt_base (by omega) (by omega)]; exact Nat.le_refl _) (by omega)) (QB_int 2 1 (by rw [show (2 : Int).natAbs = 2 from rfl, len_lt_base (by omega) (by omega)]; exact Nat.le_refl _) (by omega)))
  replace g1 := Lib.hid g1
  have h4 : c ≤ 9223372036854775807 := h2
  clear S1 he h3
  simp only [List.length_cons, List.length_nil] at h1 ⊢
  go_wp2_with fail
  refine (stext_int 2 2 _ _ (Lib.hid wt2) (Lib.hid wt2) rfl (.inl rfl) _ 1 _ hv.out (by omega) (by omega)).mono ?_
  rintro e w3 ⟨rfl, g3⟩
  have es : digS 2 ++ (⟨#[32]⟩ : ByteArray) ++ digS 2 = (⟨#[50, 32, 50]⟩ : ByteArray) := rfl
  rw [es]
  have g9 := Lib.hid (g1.out.trans g3)
  clear g3 e0 e1 e2 e3 e4 e5
  go_wp2_with fail
  go_ret
  exact ⟨by rfl, g9.out⟩
end Go.Proofs.Ythhgogpglocjdaa
namespace Go.Proofs.Ythhgogpglocjdaa
open Go.RowKit


set_option maxRecDepth 100000 in
set_option maxHeartbeats 8000000 in
theorem side_any (Vc : Value) (ax ay bx b_y : Int) (cx cy : Rat) (k : Nat) (w : World) (ha : In64 ax ay) (hb : In64 bx b_y) (hc : SpotV w Vc cx cy k) (hk : 1 ≤ k) (hs : k < 67108864) :
    Calls Try.prog 5 #[.agg #[.int .i64 ax, .int .i64 ay], .agg #[.int .i64 bx, .int .i64 b_y], Vc] w fun e w' => e = .returned (.int .i64 (turnQ (ax : Rat) (ay : Rat) (bx : Rat) (b_y : Rat) cx cy)) ∧ Grew w w' := by
  obtain ⟨b5, A5, n5, c5, C5, m5, d5, b6, A6, n6, c6, C6, m6, d6, rfl, Fe, Ff, Sc⟩ := (hc.mono (l := k + 2) (by omega)).laid
  obtain ⟨Nx, Dx, Ex, Hx, Ix, Lx, Mx⟩ := Fe.out.parts
  obtain ⟨Ny, Dy, Ey, Hy, Iy, Ly, My⟩ := Ff.out.parts
  have ra := Lib.hid ha
  have rb := Lib.hid hb
  have qa := Lib.hid (QB_i64 ha.1 ha.2.1)
  have qa2 := Lib.hid (QB_i64 ha.2.2.1 ha.2.2.2)
  have qb := Lib.hid (QB_i64 hb.1 hb.2.1)
  have qb2 := Lib.hid (QB_i64 hb.2.2.1 hb.2.2.2)
  have hk2 : 2 ≤ k + 2 := by omega
  have sx := Lib.hid (show len 4294967296 Dx < 1099511627776 by omega)
  have sy := Lib.hid (show len 4294967296 Dy < 1099511627776 by omega)
  clear hc Fe Ff
  by_cases ha1 : nearB ax ay = true
  · by_cases hb1 : nearB bx b_y = true
    · by_cases hdx : Dx = 0
      · have ea := Lib.hid ha1
        have eb := Lib.hid hb1
        have ex := Lib.hid ((nbits_zero Dx).2 hdx)
        clear ha hb ha1 hb1 hdx
        go_enter Try.func5, Try.ntmps5
        go_wp2_with fail
        refine gen_calls ?_
        intro W0 hW0
        have G0 : Grew w W0 := by rw [hW0]; exact (((Grew.refl w).alloc _).alloc _).alloc _
        have P : Box2 W0 (w.heap.size) 0 (.int .i64 ax) (.int .i64 ay) := by rw [hW0]; exact ⟨by simp [go_sem], by simp [go_sem]⟩
        replace P := Lib.hid P
        have Q : Box2 W0 (w.heap.size + 1) 0 (.int .i64 bx) (.int .i64 b_y) := by rw [hW0]; exact ⟨by simp [go_sem], by simp [go_sem]⟩
        replace Q := Lib.hid Q
        have S : Box3 W0 (w.heap.size + 1 + 1) 0 (.bool b5) (.slice A5 n5 c5) (.slice C5 m5 d5) := by rw [hW0]; exact ⟨by simp [go_sem], by simp [go_sem], by simp [go_sem]⟩
        replace S := Lib.hid S
        have Sy : Box3 W0 (w.heap.size + 1 + 1) 3 (.bool b6) (.slice A6 n6 c6) (.slice C6 m6 d6) := by rw [hW0]; exact ⟨by simp [go_sem], by simp [go_sem], by simp [go_sem]⟩
        replace Sy := Lib.hid Sy
        have z0 : w.heap.size < W0.heap.size := by rw [hW0]; simp <;> omega
        replace z0 := Lib.hid z0
        have z1 : w.heap.size + 1 < W0.heap.size := by rw [hW0]; simp <;> omega
        replace z1 := Lib.hid z1
        have z2 : w.heap.size + 1 + 1 < W0.heap.size := by rw [hW0]; simp <;> omega
        replace z2 := Lib.hid z2
        clear hW0
        replace Sc := Lib.hid (Sc.out.kept G0.keeps)
        replace Ix := Lib.hid (Ix.out.kept G0.keeps)
        replace Iy := Lib.hid (Iy.out.kept G0.keeps)
        replace G0 := Lib.hid G0
        refine (near_any ax ay _).mono ?_
        rintro e w1 ⟨rfl, g1⟩
        replace P := Lib.hid (P.out.grew g1)
        replace Q := Lib.hid (Q.out.grew g1)
        replace S := Lib.hid (S.out.grew g1)
        replace Sy := Lib.hid (Sy.out.grew g1)
        replace z0 := Lib.hid (lt_grew z0.out g1)
        replace z1 := Lib.hid (lt_grew z1.out g1)
        replace z2 := Lib.hid (lt_grew z2.out g1)
        replace Sc := Lib.hid (Sc.out.kept g1.keeps)
        replace Ix := Lib.hid (Ix.out.kept g1.keeps)
        replace Iy := Lib.hid (Iy.out.kept g1.keeps)
        replace G0 := Lib.hid (G0.out.trans g1)
        clear g1
        rw [ea.out]
        obtain ⟨P0, P1⟩ := P.out
        obtain ⟨Q0, Q1⟩ := Q.out
        obtain ⟨S0, S1, S2⟩ := S.out
        obtain ⟨Sy0, Sy1, Sy2⟩ := Sy.out
        go_wp2_with fail
        clear P0 P1 Q0 Q1 S0 S1 S2 Sy0 Sy1 Sy2
        refine (near_any bx b_y _).mono ?_
        rintro e w2 ⟨rfl, g2⟩
        replace P := Lib.hid (P.out.grew g2)
        replace Q := Lib.hid (Q.out.grew g2)
        replace S := Lib.hid (S.out.grew g2)
        replace Sy := Lib.hid (Sy.out.grew g2)
        replace z0 := Lib.hid (lt_grew z0.out g2)
        replace z1 := Lib.hid (lt_grew z1.out g2)
        replace z2 := Lib.hid (lt_grew z2.out g2)
        replace Sc := Lib.hid (Sc.out.kept g2.keeps)
        replace Ix := Lib.hid (Ix.out.kept g2.keeps)
        replace Iy := Lib.hid (Iy.out.kept g2.keeps)
        replace G0 := Lib.hid (G0.out.trans g2)
        clear g2
        rw [eb.out]
        obtain ⟨P0, P1⟩ := P.out
        obtain ⟨Q0, Q1⟩ := Q.out
        obtain ⟨S0, S1, S2⟩ := S.out
        obtain ⟨Sy0, Sy1, Sy2⟩ := Sy.out
        go_wp2_with fail
        clear P0 P1 Q0 Q1 S0 S1 S2 Sy0 Sy1 Sy2
        refine (bits_g _ Dx _ _ Ix.out sx.out).mono ?_
        rintro e w3 ⟨rfl, g3⟩
        replace P := Lib.hid (P.out.grew g3)
        replace Q := Lib.hid (Q.out.grew g3)
        replace S := Lib.hid (S.out.grew g3)
        replace Sy := Lib.hid (Sy.out.grew g3)
        replace z0 := Lib.hid (lt_grew z0.out g3)
        replace z1 := Lib.hid (lt_grew z1.out g3)
        replace z2 := Lib.hid (lt_grew z2.out g3)
        replace Sc := Lib.hid (Sc.out.kept g3.keeps)
        replace Ix := Lib.hid (Ix.out.kept g3.keeps)
        replace Iy := Lib.hid (Iy.out.kept g3.keeps)
        replace G0 := Lib.hid (G0.out.trans g3)
        clear g3
        rw [ex.out]
        go_wp2_with fail
        have gd : Grew w3 w3.drew := (Grew.refl w3).drew
        replace P := Lib.hid (P.out.grew gd)
        replace Q := Lib.hid (Q.out.grew gd)
        replace S := Lib.hid (S.out.grew gd)
        replace Sy := Lib.hid (Sy.out.grew gd)
        replace z0 := Lib.hid (lt_grew z0.out gd)
        replace z1 := Lib.hid (lt_grew z1.out gd)
        replace z2 := Lib.hid (lt_grew z2.out gd)
        replace Sc := Lib.hid (Sc.out.kept gd.keeps)
        replace Ix := Lib.hid (Ix.out.kept gd.keeps)
        replace Iy := Lib.hid (Iy.out.kept gd.keeps)
        replace gd := Lib.hid gd
        have ZP := P
        have ZQ := Q
        have ZS := S
        have ZSy := Sy
        go_region_held3 (fun w' => w'.cell? ⟨w.heap.size, 0, none⟩ = some (.int .i64 ax) ∧ w'.cell? ⟨w.heap.size, 1, none⟩ = some (.int .i64 ay) ∧ w'.cell? ⟨w.heap.size + 1, 0, none⟩ = some (.int .i64 bx) ∧ w'.cell? ⟨w.heap.size + 1, 1, none⟩ = some (.int .i64 b_y) ∧ w'.cell? ⟨w.heap.size + 1 + 1, 0, none⟩ = some (.bool b5) ∧ w'.cell? ⟨w.heap.size + 1 + 1, 1, none⟩ = some (.slice A5 n5 c5) ∧ w'.cell? ⟨w.heap.size + 1 + 1, 2, none⟩ = some (.slice C5 m5 d5) ∧ w'.cell? ⟨w.heap.size + 1 + 1, 3, none⟩ = some (.bool b6) ∧ w'.cell? ⟨w.heap.size + 1 + 1, 4, none⟩ = some (.slice A6 n6 c6) ∧ w'.cell? ⟨w.heap.size + 1 + 1, 5, none⟩ = some (.slice C6 m6 d6))
          (first | (with_reducible exact ⟨ZP.out.p0, ZP.out.p1, ZQ.out.p0, ZQ.out.p1, ZS.out.p0, ZS.out.p1, ZS.out.p2, ZSy.out.p0, ZSy.out.p1, ZSy.out.p2⟩) | (with_reducible exact ⟨g4.cell ZP.out.p0, g4.cell ZP.out.p1, g4.cell ZQ.out.p0, g4.cell ZQ.out.p1, g4.cell ZS.out.p0, g4.cell ZS.out.p1, g4.cell ZS.out.p2, g4.cell ZSy.out.p0, g4.cell ZSy.out.p1, g4.cell ZSy.out.p2⟩) | (with_reducible exact ⟨(g4.trans g5).cell ZP.out.p0, (g4.trans g5).cell ZP.out.p1, (g4.trans g5).cell ZQ.out.p0, (g4.trans g5).cell ZQ.out.p1, (g4.trans g5).cell ZS.out.p0, (g4.trans g5).cell ZS.out.p1, (g4.trans g5).cell ZS.out.p2, (g4.trans g5).cell ZSy.out.p0, (g4.trans g5).cell ZSy.out.p1, (g4.trans g5).cell ZSy.out.p2⟩) | (with_reducible exact ⟨((g4.trans g5).trans g6).cell ZP.out.p0, ((g4.trans g5).trans g6).cell ZP.out.p1, ((g4.trans g5).trans g6).cell ZQ.out.p0, ((g4.trans g5).trans g6).cell ZQ.out.p1, ((g4.trans g5).trans g6).cell ZS.out.p0, ((g4.trans g5).trans g6).cell ZS.out.p1, ((g4.trans g5).trans g6).cell ZS.out.p2, ((g4.trans g5).trans g6).cell ZSy.out.p0, ((g4.trans g5).trans g6).cell ZSy.out.p1, ((g4.trans g5).trans g6).cell ZSy.out.p2⟩))
          (first | (have chk := g5; clear chk; go_at_call 16; refine (turn_any _ _ _ (ax : Rat) (ay : Rat) (bx : Rat) (b_y : Rat) cx cy (k + 2) _ (X1.out.mono hk2) (X2.out.mono hk2) Sc.out (by omega) (by omega)).mono ?_; rintro e w6 ⟨rfl, g6⟩; replace P := Lib.hid (P.out.grew g6); replace Q := Lib.hid (Q.out.grew g6); replace S := Lib.hid (S.out.grew g6); replace Sy := Lib.hid (Sy.out.grew g6); replace z0 := Lib.hid (lt_grew z0.out g6); replace z1 := Lib.hid (lt_grew z1.out g6); replace z2 := Lib.hid (lt_grew z2.out g6); replace Sc := Lib.hid (Sc.out.kept g6.keeps); replace Ix := Lib.hid (Ix.out.kept g6.keeps); replace Iy := Lib.hid (Iy.out.kept g6.keeps); replace X1 := Lib.hid (X1.out.kept g6.keeps); replace X2 := Lib.hid (X2.out.kept g6.keeps)) | (have chk := g4; clear chk; go_at_call 17; refine (at_any bx b_y _ rb.out.1 rb.out.2.1 rb.out.2.2.1 rb.out.2.2.2).mono ?_; rintro e w5 ⟨V2, rfl, hV2, g5⟩; have Y2 := Lib.hid (hV2.v qb.out qb2.out); obtain ⟨b9, A9, n9, c9, C9, m9, d9, b10, A10, n10, c10, C10, m10, d10, rfl, -⟩ := hV2.laid; have X2 := Y2; clear hV2 Y2; replace P := Lib.hid (P.out.grew g5); replace Q := Lib.hid (Q.out.grew g5); replace S := Lib.hid (S.out.grew g5); replace Sy := Lib.hid (Sy.out.grew g5); replace z0 := Lib.hid (lt_grew z0.out g5); replace z1 := Lib.hid (lt_grew z1.out g5); replace z2 := Lib.hid (lt_grew z2.out g5); replace Sc := Lib.hid (Sc.out.kept g5.keeps); replace Ix := Lib.hid (Ix.out.kept g5.keeps); replace Iy := Lib.hid (Iy.out.kept g5.keeps); replace X1 := Lib.hid (X1.out.kept g5.keeps)) | (go_at_call 17; refine (at_any ax ay _ ra.out.1 ra.out.2.1 ra.out.2.2.1 ra.out.2.2.2).mono ?_; rintro e w4 ⟨V1, rfl, hV1, g4⟩; have Y1 := Lib.hid (hV1.v qa.out qa2.out); obtain ⟨b7, A7, n7, c7, C7, m7, d7, b8, A8, n8, c8, C8, m8, d8, rfl, -⟩ := hV1.laid; have X1 := Y1; clear hV1 Y1; replace P := Lib.hid (P.out.grew g4); replace Q := Lib.hid (Q.out.grew g4); replace S := Lib.hid (S.out.grew g4); replace Sy := Lib.hid (Sy.out.grew g4); replace z0 := Lib.hid (lt_grew z0.out g4); replace z1 := Lib.hid (lt_grew z1.out g4); replace z2 := Lib.hid (lt_grew z2.out g4); replace Sc := Lib.hid (Sc.out.kept g4.keeps); replace Ix := Lib.hid (Ix.out.kept g4.keeps); replace Iy := Lib.hid (Iy.out.kept g4.keeps)))
        replace G0 := Lib.hid ((((G0.out.trans gd.out).trans g4).trans g5).trans g6)
        clear gd g4 g5 g6 ZP ZQ ZS ZSy
        go_wp2_with fail
        go_ret
        exact ⟨rfl, G0.out⟩
      · by_cases hdy : Dy = 0
        · have ea := Lib.hid ha1
          have eb := Lib.hid hb1
          have hx0 : nbits Dx ≠ 0 := fun e => hdx ((nbits_zero Dx).1 e)
          obtain ⟨nb, hnb⟩ : ∃ nb : Int, (nbits Dx : Int) = nb := ⟨_, rfl⟩
          have hx1 : nb ≠ 0 := by omega
          replace hnb := Lib.hid hnb
          have ey := Lib.hid ((nbits_zero Dy).2 hdy)
          clear ha hb ha1 hb1 hdx hdy hx0
          go_enter Try.func5, Try.ntmps5
          go_wp2_with fail
          refine gen_calls ?_
          intro W0 hW0
          have G0 : Grew w W0 := by rw [hW0]; exact (((Grew.refl w).alloc _).alloc _).alloc _
          have P : Box2 W0 (w.heap.size) 0 (.int .i64 ax) (.int .i64 ay) := by rw [hW0]; exact ⟨by simp [go_sem], by simp [go_sem]⟩
          replace P := Lib.hid P
          have Q : Box2 W0 (w.heap.size + 1) 0 (.int .i64 bx) (.int .i64 b_y) := by rw [hW0]; exact ⟨by simp [go_sem], by simp [go_sem]⟩
          replace Q := Lib.hid Q
          have S : Box3 W0 (w.heap.size + 1 + 1) 0 (.bool b5) (.slice A5 n5 c5) (.slice C5 m5 d5) := by rw [hW0]; exact ⟨by simp [go_sem], by simp [go_sem], by simp [go_sem]⟩
          replace S := Lib.hid S
          have Sy : Box3 W0 (w.heap.size + 1 + 1) 3 (.bool b6) (.slice A6 n6 c6) (.slice C6 m6 d6) := by rw [hW0]; exact ⟨by simp [go_sem], by simp [go_sem], by simp [go_sem]⟩
          replace Sy := Lib.hid Sy
          have z0 : w.heap.size < W0.heap.size := by rw [hW0]; simp <;> omega
          replace z0 := Lib.hid z0
          have z1 : w.heap.size + 1 < W0.heap.size := by rw [hW0]; simp <;> omega
          replace z1 := Lib.hid z1
          have z2 : w.heap.size + 1 + 1 < W0.heap.size := by rw [hW0]; simp <;> omega
          replace z2 := Lib.hid z2
          clear hW0
          replace Sc := Lib.hid (Sc.out.kept G0.keeps)
          replace Ix := Lib.hid (Ix.out.kept G0.keeps)
          replace Iy := Lib.hid (Iy.out.kept G0.keeps)
          replace G0 := Lib.hid G0
          refine (near_any ax ay _).mono ?_
          rintro e w1 ⟨rfl, g1⟩
          replace P := Lib.hid (P.out.grew g1)
          replace Q := Lib.hid (Q.out.grew g1)
          replace S := Lib.hid (S.out.grew g1)
          replace Sy := Lib.hid (Sy.out.grew g1)
          replace z0 := Lib.hid (lt_grew z0.out g1)
          replace z1 := Lib.hid (lt_grew z1.out g1)
          replace z2 := Lib.hid (lt_grew z2.out g1)
          replace Sc := Lib.hid (Sc.out.kept g1.keeps)
          replace Ix := Lib.hid (Ix.out.kept g1.keeps)
          replace Iy := Lib.hid (Iy.out.kept g1.keeps)
          replace G0 := Lib.hid (G0.out.trans g1)
          clear g1
          rw [ea.out]
          obtain ⟨P0, P1⟩ := P.out
          obtain ⟨Q0, Q1⟩ := Q.out
          obtain ⟨S0, S1, S2⟩ := S.out
          obtain ⟨Sy0, Sy1, Sy2⟩ := Sy.out
          go_wp2_with fail
          clear P0 P1 Q0 Q1 S0 S1 S2 Sy0 Sy1 Sy2
          refine (near_any bx b_y _).mono ?_
          rintro e w2 ⟨rfl, g2⟩
          replace P := Lib.hid (P.out.grew g2)
          replace Q := Lib.hid (Q.out.grew g2)
          replace S := Lib.hid (S.out.grew g2)
          replace Sy := Lib.hid (Sy.out.grew g2)
          replace z0 := Lib.hid (lt_grew z0.out g2)
          replace z1 := Lib.hid (lt_grew z1.out g2)
          replace z2 := Lib.hid (lt_grew z2.out g2)
          replace Sc := Lib.hid (Sc.out.kept g2.keeps)
          replace Ix := Lib.hid (Ix.out.kept g2.keeps)
          replace Iy := Lib.hid (Iy.out.kept g2.keeps)
          replace G0 := Lib.hid (G0.out.trans g2)
          clear g2
          rw [eb.out]
          obtain ⟨P0, P1⟩ := P.out
          obtain ⟨Q0, Q1⟩ := Q.out
          obtain ⟨S0, S1, S2⟩ := S.out
          obtain ⟨Sy0, Sy1, Sy2⟩ := Sy.out
          go_wp2_with fail
          clear P0 P1 Q0 Q1 S0 S1 S2 Sy0 Sy1 Sy2
          refine (bits_g _ Dx _ _ Ix.out sx.out).mono ?_
          rintro e w3 ⟨rfl, g3⟩
          replace P := Lib.hid (P.out.grew g3)
          replace Q := Lib.hid (Q.out.grew g3)
          replace S := Lib.hid (S.out.grew g3)
          replace Sy := Lib.hid (Sy.out.grew g3)
          replace z0 := Lib.hid (lt_grew z0.out g3)
          replace z1 := Lib.hid (lt_grew z1.out g3)
          replace z2 := Lib.hid (lt_grew z2.out g3)
          replace Sc := Lib.hid (Sc.out.kept g3.keeps)
          replace Ix := Lib.hid (Ix.out.kept g3.keeps)
          replace Iy := Lib.hid (Iy.out.kept g3.keeps)
          replace G0 := Lib.hid (G0.out.trans g3)
          clear g3
          rw [hnb.out]
          obtain ⟨P0, P1⟩ := P.out
          obtain ⟨Q0, Q1⟩ := Q.out
          obtain ⟨S0, S1, S2⟩ := S.out
          obtain ⟨Sy0, Sy1, Sy2⟩ := Sy.out
          go_wp2_with fail
          clear P0 P1 Q0 Q1 S0 S1 S2 Sy0 Sy1 Sy2
          refine (bits_g _ Dy _ _ Iy.out sy.out).mono ?_
          rintro e w4 ⟨rfl, g4⟩
          replace P := Lib.hid (P.out.grew g4)
          replace Q := Lib.hid (Q.out.grew g4)
          replace S := Lib.hid (S.out.grew g4)
          replace Sy := Lib.hid (Sy.out.grew g4)
          replace z0 := Lib.hid (lt_grew z0.out g4)
          replace z1 := Lib.hid (lt_grew z1.out g4)
          replace z2 := Lib.hid (lt_grew z2.out g4)
          replace Sc := Lib.hid (Sc.out.kept g4.keeps)
          replace Ix := Lib.hid (Ix.out.kept g4.keeps)
          replace Iy := Lib.hid (Iy.out.kept g4.keeps)
          replace G0 := Lib.hid (G0.out.trans g4)
          clear g4
          rw [ey.out]
          go_wp2_with fail
          have gd : Grew w4 w4.drew := (Grew.refl w4).drew
          replace P := Lib.hid (P.out.grew gd)
          replace Q := Lib.hid (Q.out.grew gd)
          replace S := Lib.hid (S.out.grew gd)
          replace Sy := Lib.hid (Sy.out.grew gd)
          replace z0 := Lib.hid (lt_grew z0.out gd)
          replace z1 := Lib.hid (lt_grew z1.out gd)
          replace z2 := Lib.hid (lt_grew z2.out gd)
          replace Sc := Lib.hid (Sc.out.kept gd.keeps)
          replace Ix := Lib.hid (Ix.out.kept gd.keeps)
          replace Iy := Lib.hid (Iy.out.kept gd.keeps)
          replace gd := Lib.hid gd
          have ZP := P
          have ZQ := Q
          have ZS := S
          have ZSy := Sy
          go_region_held3 (fun w' => w'.cell? ⟨w.heap.size, 0, none⟩ = some (.int .i64 ax) ∧ w'.cell? ⟨w.heap.size, 1, none⟩ = some (.int .i64 ay) ∧ w'.cell? ⟨w.heap.size + 1, 0, none⟩ = some (.int .i64 bx) ∧ w'.cell? ⟨w.heap.size + 1, 1, none⟩ = some (.int .i64 b_y) ∧ w'.cell? ⟨w.heap.size + 1 + 1, 0, none⟩ = some (.bool b5) ∧ w'.cell? ⟨w.heap.size + 1 + 1, 1, none⟩ = some (.slice A5 n5 c5) ∧ w'.cell? ⟨w.heap.size + 1 + 1, 2, none⟩ = some (.slice C5 m5 d5) ∧ w'.cell? ⟨w.heap.size + 1 + 1, 3, none⟩ = some (.bool b6) ∧ w'.cell? ⟨w.heap.size + 1 + 1, 4, none⟩ = some (.slice A6 n6 c6) ∧ w'.cell? ⟨w.heap.size + 1 + 1, 5, none⟩ = some (.slice C6 m6 d6))
            (first | (with_reducible exact ⟨ZP.out.p0, ZP.out.p1, ZQ.out.p0, ZQ.out.p1, ZS.out.p0, ZS.out.p1, ZS.out.p2, ZSy.out.p0, ZSy.out.p1, ZSy.out.p2⟩) | (with_reducible exact ⟨g5.cell ZP.out.p0, g5.cell ZP.out.p1, g5.cell ZQ.out.p0, g5.cell ZQ.out.p1, g5.cell ZS.out.p0, g5.cell ZS.out.p1, g5.cell ZS.out.p2, g5.cell ZSy.out.p0, g5.cell ZSy.out.p1, g5.cell ZSy.out.p2⟩) | (with_reducible exact ⟨(g5.trans g6).cell ZP.out.p0, (g5.trans g6).cell ZP.out.p1, (g5.trans g6).cell ZQ.out.p0, (g5.trans g6).cell ZQ.out.p1, (g5.trans g6).cell ZS.out.p0, (g5.trans g6).cell ZS.out.p1, (g5.trans g6).cell ZS.out.p2, (g5.trans g6).cell ZSy.out.p0, (g5.trans g6).cell ZSy.out.p1, (g5.trans g6).cell ZSy.out.p2⟩) | (with_reducible exact ⟨((g5.trans g6).trans g7).cell ZP.out.p0, ((g5.trans g6).trans g7).cell ZP.out.p1, ((g5.trans g6).trans g7).cell ZQ.out.p0, ((g5.trans g6).trans g7).cell ZQ.out.p1, ((g5.trans g6).trans g7).cell ZS.out.p0, ((g5.trans g6).trans g7).cell ZS.out.p1, ((g5.trans g6).trans g7).cell ZS.out.p2, ((g5.trans g6).trans g7).cell ZSy.out.p0, ((g5.trans g6).trans g7).cell ZSy.out.p1, ((g5.trans g6).trans g7).cell ZSy.out.p2⟩))
            (first | (have chk := g6; clear chk; go_at_call 16; refine (turn_any _ _ _ (ax : Rat) (ay : Rat) (bx : Rat) (b_y : Rat) cx cy (k + 2) _ (X1.out.mono hk2) (X2.out.mono hk2) Sc.out (by omega) (by omega)).mono ?_; rintro e w7 ⟨rfl, g7⟩; replace P := Lib.hid (P.out.grew g7); replace Q := Lib.hid (Q.out.grew g7); replace S := Lib.hid (S.out.grew g7); replace Sy := Lib.hid (Sy.out.grew g7); replace z0 := Lib.hid (lt_grew z0.out g7); replace z1 := Lib.hid (lt_grew z1.out g7); replace z2 := Lib.hid (lt_grew z2.out g7); replace Sc := Lib.hid (Sc.out.kept g7.keeps); replace Ix := Lib.hid (Ix.out.kept g7.keeps); replace Iy := Lib.hid (Iy.out.kept g7.keeps); replace X1 := Lib.hid (X1.out.kept g7.keeps); replace X2 := Lib.hid (X2.out.kept g7.keeps)) | (have chk := g5; clear chk; go_at_call 17; refine (at_any bx b_y _ rb.out.1 rb.out.2.1 rb.out.2.2.1 rb.out.2.2.2).mono ?_; rintro e w6 ⟨V2, rfl, hV2, g6⟩; have Y2 := Lib.hid (hV2.v qb.out qb2.out); obtain ⟨b9, A9, n9, c9, C9, m9, d9, b10, A10, n10, c10, C10, m10, d10, rfl, -⟩ := hV2.laid; have X2 := Y2; clear hV2 Y2; replace P := Lib.hid (P.out.grew g6); replace Q := Lib.hid (Q.out.grew g6); replace S := Lib.hid (S.out.grew g6); replace Sy := Lib.hid (Sy.out.grew g6); replace z0 := Lib.hid (lt_grew z0.out g6); replace z1 := Lib.hid (lt_grew z1.out g6); replace z2 := Lib.hid (lt_grew z2.out g6); replace Sc := Lib.hid (Sc.out.kept g6.keeps); replace Ix := Lib.hid (Ix.out.kept g6.keeps); replace Iy := Lib.hid (Iy.out.kept g6.keeps); replace X1 := Lib.hid (X1.out.kept g6.keeps)) | (go_at_call 17; refine (at_any ax ay _ ra.out.1 ra.out.2.1 ra.out.2.2.1 ra.out.2.2.2).mono ?_; rintro e w5 ⟨V1, rfl, hV1, g5⟩; have Y1 := Lib.hid (hV1.v qa.out qa2.out); obtain ⟨b7, A7, n7, c7, C7, m7, d7, b8, A8, n8, c8, C8, m8, d8, rfl, -⟩ := hV1.laid; have X1 := Y1; clear hV1 Y1; replace P := Lib.hid (P.out.grew g5); replace Q := Lib.hid (Q.out.grew g5); replace S := Lib.hid (S.out.grew g5); replace Sy := Lib.hid (Sy.out.grew g5); replace z0 := Lib.hid (lt_grew z0.out g5); replace z1 := Lib.hid (lt_grew z1.out g5); replace z2 := Lib.hid (lt_grew z2.out g5); replace Sc := Lib.hid (Sc.out.kept g5.keeps); replace Ix := Lib.hid (Ix.out.kept g5.keeps); replace Iy := Lib.hid (Iy.out.kept g5.keeps)))
          replace G0 := Lib.hid ((((G0.out.trans gd.out).trans g5).trans g6).trans g7)
          clear gd g5 g6 g7 ZP ZQ ZS ZSy
          go_wp2_with fail
          go_ret
          exact ⟨rfl, G0.out⟩
        · have ea := Lib.hid ha1
          have eb := Lib.hid hb1
          obtain ⟨a1, a2, a3, a4⟩ := (nearB_iff _ _).1 ha1
          obtain ⟨b1, b2, b3, b4⟩ := (nearB_iff _ _).1 hb1
          have hx0 : nbits Dx ≠ 0 := fun e => hdx ((nbits_zero Dx).1 e)
          have hy0 : nbits Dy ≠ 0 := fun e => hdy ((nbits_zero Dy).1 e)
          obtain ⟨nb, hnb⟩ : ∃ nb : Int, (nbits Dx : Int) = nb := ⟨_, rfl⟩
          obtain ⟨nc, hnc⟩ : ∃ nc : Int, (nbits Dy : Int) = nc := ⟨_, rfl⟩
          have hx1 : nb ≠ 0 := by omega
          have hy1 : nc ≠ 0 := by omega
          have hx2 : (nb == 0) = false := by simpa using hx1
          have hy2 : (nc == 0) = false := by simpa using hy1
          replace hnb := Lib.hid hnb
          replace hnc := Lib.hid hnc
          have hw1 : IntKind.i64.wrap (bx - ax) = bx - ax := IntWalk.i64_in _ (by omega)
          have hw2 : IntKind.i64.wrap (b_y - ay) = b_y - ay := IntWalk.i64_in _ (by omega)
          have u1 : -9223372036854775808 ≤ bx - ax ∧ bx - ax ≤ 9223372036854775807 := by omega
          have u2 : -9223372036854775808 ≤ b_y - ay ∧ b_y - ay ≤ 9223372036854775807 := by omega
          have t0 := turnQ_over ax ay bx b_y (sgn b5 Nx) (sgn b6 Ny) Dx Dy hdx hdy
          rw [Ex.out, Ey.out] at t0
          replace t0 := Lib.hid t0
          have l1 := Lib.hid (show len 4294967296 (bx - ax).natAbs ≤ 2 from len_word (by omega))
          have l2 := Lib.hid (show len 4294967296 (b_y - ay).natAbs ≤ 2 from len_word (by omega))
          have l3 := Lib.hid (show len 4294967296 (sgn b6 Ny - ay * (Dy : Int)).natAbs ≤ (2 + (k + 2)) + 1 by
            rw [Int.sub_eq_add_neg]; exact len_addz _ _ _ (by rw [sgn_abs]; omega) (by rw [Int.natAbs_neg]; exact len_mulz _ _ 2 (k + 2) (len_word (by omega)) (by simpa using My)))
          have l4 := Lib.hid (show len 4294967296 (sgn b5 Nx - ax * (Dx : Int)).natAbs ≤ (2 + (k + 2)) + 1 by
            rw [Int.sub_eq_add_neg]; exact len_addz _ _ _ (by rw [sgn_abs]; omega) (by rw [Int.natAbs_neg]; exact len_mulz _ _ 2 (k + 2) (len_word (by omega)) (by simpa using Mx)))
          have l5 := Lib.hid (len_mulz _ _ _ _ l1.out l3.out)
          have l6 := Lib.hid (len_mulz _ _ _ _ l2.out l4.out)
          have l7 := Lib.hid (len_mulz _ (Dx : Int) _ (k + 2) l5.out (by simpa using Mx))
          have l8 := Lib.hid (len_mulz _ (Dy : Int) _ (k + 2) l6.out (by simpa using My))
          have s1 := Lib.hid (show 2 + (2 + (k + 2) + 1) < 1099511627776 by omega)
          have s2 := Lib.hid (show 2 + (2 + (k + 2) + 1) + (k + 2) < 1099511627776 by omega)
          have s3 := Lib.hid (show 2 + (2 + (k + 2) + 1) + (k + 2) < 549755813888 ∧ 2 + (2 + (k + 2) + 1) + (k + 2) < 549755813888 by omega)
          have s4 := Lib.hid (show k + 2 < 1073741824 by omega)
          have Wx := Lib.hid (Ix.out.whl Mx)
          have Wy := Lib.hid (Iy.out.whl My)
          have Lx' := Lib.hid Lx
          have Ly' := Lib.hid Ly
          have Mx' := Lib.hid Mx
          have My' := Lib.hid My
          clear ha hb ha1 hb1 hdx hdy hx0 hy0 Lx Ly Mx My a1 a2 a3 a4 b1 b2 b3 b4
          go_enter Try.func5, Try.ntmps5
          go_wp2_with fail
          refine gen_calls ?_
          intro W0 hW0
          have G0 : Grew w W0 := by rw [hW0]; exact (((Grew.refl w).alloc _).alloc _).alloc _
          have P : Box2 W0 (w.heap.size) 0 (.int .i64 ax) (.int .i64 ay) := by rw [hW0]; exact ⟨by simp [go_sem], by simp [go_sem]⟩
          replace P := Lib.hid P
          have Q : Box2 W0 (w.heap.size + 1) 0 (.int .i64 bx) (.int .i64 b_y) := by rw [hW0]; exact ⟨by simp [go_sem], by simp [go_sem]⟩
          replace Q := Lib.hid Q
          have S : Box3 W0 (w.heap.size + 1 + 1) 0 (.bool b5) (.slice A5 n5 c5) (.slice C5 m5 d5) := by rw [hW0]; exact ⟨by simp [go_sem], by simp [go_sem], by simp [go_sem]⟩
          replace S := Lib.hid S
          have Sy : Box3 W0 (w.heap.size + 1 + 1) 3 (.bool b6) (.slice A6 n6 c6) (.slice C6 m6 d6) := by rw [hW0]; exact ⟨by simp [go_sem], by simp [go_sem], by simp [go_sem]⟩
          replace Sy := Lib.hid Sy
          have z0 : w.heap.size < W0.heap.size := by rw [hW0]; simp <;> omega
          replace z0 := Lib.hid z0
          have z1 : w.heap.size + 1 < W0.heap.size := by rw [hW0]; simp <;> omega
          replace z1 := Lib.hid z1
          have z2 : w.heap.size + 1 + 1 < W0.heap.size := by rw [hW0]; simp <;> omega
          replace z2 := Lib.hid z2
          clear hW0
          replace Sc := Lib.hid (Sc.out.kept G0.keeps)
          replace Hx := Lib.hid (Hx.out.kept G0.keeps)
          replace Hy := Lib.hid (Hy.out.kept G0.keeps)
          replace Ix := Lib.hid (Ix.out.kept G0.keeps)
          replace Iy := Lib.hid (Iy.out.kept G0.keeps)
          replace Wx := Lib.hid (Wx.out.kept G0.keeps)
          replace Wy := Lib.hid (Wy.out.kept G0.keeps)
          replace G0 := Lib.hid G0
          refine (near_any ax ay _).mono ?_
          rintro e w1 ⟨rfl, g1⟩
          replace P := Lib.hid (P.out.grew g1)
          replace Q := Lib.hid (Q.out.grew g1)
          replace S := Lib.hid (S.out.grew g1)
          replace Sy := Lib.hid (Sy.out.grew g1)
          replace z0 := Lib.hid (lt_grew z0.out g1)
          replace z1 := Lib.hid (lt_grew z1.out g1)
          replace z2 := Lib.hid (lt_grew z2.out g1)
          replace Sc := Lib.hid (Sc.out.kept g1.keeps)
          replace Hx := Lib.hid (Hx.out.kept g1.keeps)
          replace Hy := Lib.hid (Hy.out.kept g1.keeps)
          replace Ix := Lib.hid (Ix.out.kept g1.keeps)
          replace Iy := Lib.hid (Iy.out.kept g1.keeps)
          replace Wx := Lib.hid (Wx.out.kept g1.keeps)
          replace Wy := Lib.hid (Wy.out.kept g1.keeps)
          replace G0 := Lib.hid (G0.out.trans g1)
          clear g1
          rw [ea.out]
          obtain ⟨P0, P1⟩ := P.out
          obtain ⟨Q0, Q1⟩ := Q.out
          obtain ⟨S0, S1, S2⟩ := S.out
          obtain ⟨Sy0, Sy1, Sy2⟩ := Sy.out
          go_wp2_with fail
          clear P0 P1 Q0 Q1 S0 S1 S2 Sy0 Sy1 Sy2
          refine (near_any bx b_y _).mono ?_
          rintro e w2 ⟨rfl, g2⟩
          replace P := Lib.hid (P.out.grew g2)
          replace Q := Lib.hid (Q.out.grew g2)
          replace S := Lib.hid (S.out.grew g2)
          replace Sy := Lib.hid (Sy.out.grew g2)
          replace z0 := Lib.hid (lt_grew z0.out g2)
          replace z1 := Lib.hid (lt_grew z1.out g2)
          replace z2 := Lib.hid (lt_grew z2.out g2)
          replace Sc := Lib.hid (Sc.out.kept g2.keeps)
          replace Hx := Lib.hid (Hx.out.kept g2.keeps)
          replace Hy := Lib.hid (Hy.out.kept g2.keeps)
          replace Ix := Lib.hid (Ix.out.kept g2.keeps)
          replace Iy := Lib.hid (Iy.out.kept g2.keeps)
          replace Wx := Lib.hid (Wx.out.kept g2.keeps)
          replace Wy := Lib.hid (Wy.out.kept g2.keeps)
          replace G0 := Lib.hid (G0.out.trans g2)
          clear g2
          rw [eb.out]
          obtain ⟨P0, P1⟩ := P.out
          obtain ⟨Q0, Q1⟩ := Q.out
          obtain ⟨S0, S1, S2⟩ := S.out
          obtain ⟨Sy0, Sy1, Sy2⟩ := Sy.out
          go_wp2_with fail
          clear P0 P1 Q0 Q1 S0 S1 S2 Sy0 Sy1 Sy2
          refine (bits_g _ Dx _ _ Ix.out sx.out).mono ?_
          rintro e w3 ⟨rfl, g3⟩
          replace P := Lib.hid (P.out.grew g3)
          replace Q := Lib.hid (Q.out.grew g3)
          replace S := Lib.hid (S.out.grew g3)
          replace Sy := Lib.hid (Sy.out.grew g3)
          replace z0 := Lib.hid (lt_grew z0.out g3)
          replace z1 := Lib.hid (lt_grew z1.out g3)
          replace z2 := Lib.hid (lt_grew z2.out g3)
          replace Sc := Lib.hid (Sc.out.kept g3.keeps)
          replace Hx := Lib.hid (Hx.out.kept g3.keeps)
          replace Hy := Lib.hid (Hy.out.kept g3.keeps)
          replace Ix := Lib.hid (Ix.out.kept g3.keeps)
          replace Iy := Lib.hid (Iy.out.kept g3.keeps)
          replace Wx := Lib.hid (Wx.out.kept g3.keeps)
          replace Wy := Lib.hid (Wy.out.kept g3.keeps)
          replace G0 := Lib.hid (G0.out.trans g3)
          clear g3
          rw [hnb.out]
          obtain ⟨P0, P1⟩ := P.out
          obtain ⟨Q0, Q1⟩ := Q.out
          obtain ⟨S0, S1, S2⟩ := S.out
          obtain ⟨Sy0, Sy1, Sy2⟩ := Sy.out
          go_wp2_with fail
          clear P0 P1 Q0 Q1 S0 S1 S2 Sy0 Sy1 Sy2
          refine (bits_g _ Dy _ _ Iy.out sy.out).mono ?_
          rintro e w4 ⟨rfl, g4⟩
          replace P := Lib.hid (P.out.grew g4)
          replace Q := Lib.hid (Q.out.grew g4)
          replace S := Lib.hid (S.out.grew g4)
          replace Sy := Lib.hid (Sy.out.grew g4)
          replace z0 := Lib.hid (lt_grew z0.out g4)
          replace z1 := Lib.hid (lt_grew z1.out g4)
          replace z2 := Lib.hid (lt_grew z2.out g4)
          replace Sc := Lib.hid (Sc.out.kept g4.keeps)
          replace Hx := Lib.hid (Hx.out.kept g4.keeps)
          replace Hy := Lib.hid (Hy.out.kept g4.keeps)
          replace Ix := Lib.hid (Ix.out.kept g4.keeps)
          replace Iy := Lib.hid (Iy.out.kept g4.keeps)
          replace Wx := Lib.hid (Wx.out.kept g4.keeps)
          replace Wy := Lib.hid (Wy.out.kept g4.keeps)
          replace G0 := Lib.hid (G0.out.trans g4)
          clear g4
          rw [hnc.out]
          go_wp2_with fail
          go_upto_region 3 with fail
          go_cut [7] (fun s7 wx => ∃ e7 : Nat, s7 = .pointer (some ⟨e7, 0, none⟩) ∧ At2 wx e7 (fun w V => Whl w V ((bx - ax) * (sgn b6 Ny - ay * (Dy : Int)) * (Dx : Int))) ∧ w4.heap.size ≤ e7 ∧ Grew w4 wx)
          · have KS : ∀ X, Grew w4 X → (fun w' => w'.cell? ⟨w.heap.size, 0, none⟩ = some (.int .i64 ax) ∧ w'.cell? ⟨w.heap.size, 1, none⟩ = some (.int .i64 ay) ∧ w'.cell? ⟨w.heap.size + 1, 0, none⟩ = some (.int .i64 bx) ∧ w'.cell? ⟨w.heap.size + 1, 1, none⟩ = some (.int .i64 b_y) ∧ w'.cell? ⟨w.heap.size + 1 + 1, 0, none⟩ = some (.bool b5) ∧ w'.cell? ⟨w.heap.size + 1 + 1, 1, none⟩ = some (.slice A5 n5 c5) ∧ w'.cell? ⟨w.heap.size + 1 + 1, 2, none⟩ = some (.slice C5 m5 d5) ∧ w'.cell? ⟨w.heap.size + 1 + 1, 3, none⟩ = some (.bool b6) ∧ w'.cell? ⟨w.heap.size + 1 + 1, 4, none⟩ = some (.slice A6 n6 c6) ∧ w'.cell? ⟨w.heap.size + 1 + 1, 5, none⟩ = some (.slice C6 m6 d6)) X := fun X g => ⟨g.cell P.out.p0, g.cell P.out.p1, g.cell Q.out.p0, g.cell Q.out.p1, g.cell S.out.p0, g.cell S.out.p1, g.cell S.out.p2, g.cell Sy.out.p0, g.cell Sy.out.p1, g.cell Sy.out.p2⟩
            replace KS := Lib.hid KS
            go_region_held3 (fun w' => w'.cell? ⟨w.heap.size, 0, none⟩ = some (.int .i64 ax) ∧ w'.cell? ⟨w.heap.size, 1, none⟩ = some (.int .i64 ay) ∧ w'.cell? ⟨w.heap.size + 1, 0, none⟩ = some (.int .i64 bx) ∧ w'.cell? ⟨w.heap.size + 1, 1, none⟩ = some (.int .i64 b_y) ∧ w'.cell? ⟨w.heap.size + 1 + 1, 0, none⟩ = some (.bool b5) ∧ w'.cell? ⟨w.heap.size + 1 + 1, 1, none⟩ = some (.slice A5 n5 c5) ∧ w'.cell? ⟨w.heap.size + 1 + 1, 2, none⟩ = some (.slice C5 m5 d5) ∧ w'.cell? ⟨w.heap.size + 1 + 1, 3, none⟩ = some (.bool b6) ∧ w'.cell? ⟨w.heap.size + 1 + 1, 4, none⟩ = some (.slice A6 n6 c6) ∧ w'.cell? ⟨w.heap.size + 1 + 1, 5, none⟩ = some (.slice C6 m6 d6))
              (first | (refine KS.out _ ?_; (repeat (first | with_reducible exact Grew.refl _ | with_reducible refine Grew.setCell ?_ (by simp <;> omega) _ | with_reducible refine Grew.alloc ?_ _ | with_reducible refine Grew.drew ?_ | with_reducible apply Grew.trans ?_ g8 | with_reducible apply Grew.trans ?_ g7 | with_reducible apply Grew.trans ?_ g6 | with_reducible apply Grew.trans ?_ g5 )); done))
              (first | (have chk := g7; clear chk; go_at_call 18; refine (wmul_v _ _ ((bx - ax) * (sgn b6 Ny - ay * (Dy : Int))) (Dx : Int) (2 + (2 + (k + 2) + 1)) (k + 2) _ (Y7.out.kept (Grew.keeps (by (repeat (first | with_reducible exact Grew.refl _ | with_reducible refine Grew.setCell ?_ (by simp <;> omega) _ | with_reducible refine Grew.alloc ?_ _ | with_reducible refine Grew.drew ?_ | with_reducible apply Grew.trans ?_ g7 | with_reducible apply Grew.trans ?_ g6 | with_reducible apply Grew.trans ?_ g5 ))))) (Wx.out.kept (Grew.keeps (by (repeat (first | with_reducible exact Grew.refl _ | with_reducible refine Grew.setCell ?_ (by simp <;> omega) _ | with_reducible refine Grew.alloc ?_ _ | with_reducible refine Grew.drew ?_ | with_reducible apply Grew.trans ?_ g7 | with_reducible apply Grew.trans ?_ g6 | with_reducible apply Grew.trans ?_ g5 ))))) s2.out).mono ?_; rintro e w8 ⟨V8, rfl, hV8, g8⟩; have zn8 : w7.heap.size ≤ w8.heap.size := (by have t := g8.size; (try simp at t); omega); obtain ⟨b16, A16, n16, c16, rfl, X8, -⟩ := hV8.laid; clear hV8; (try replace h4_0 : Res2 w8 (w4.heap.size) 0 (.bool false) (.slice none 0 0) := h4_0.grew (by (repeat (first | with_reducible exact Grew.refl _ | with_reducible refine Grew.setCell ?_ (by simp <;> omega) _ | with_reducible refine Grew.alloc ?_ _ | with_reducible refine Grew.drew ?_ | with_reducible apply Grew.trans ?_ g8 )))); (try replace h5_0 : Res2 w8 (w5.heap.size) 0 (.bool false) (.slice none 0 0) := h5_0.grew (by (repeat (first | with_reducible exact Grew.refl _ | with_reducible refine Grew.setCell ?_ (by simp <;> omega) _ | with_reducible refine Grew.alloc ?_ _ | with_reducible refine Grew.drew ?_ | with_reducible apply Grew.trans ?_ g8 )))); (try replace h6_0 : Res2 w8 (w6.heap.size) 0 (.bool false) (.slice none 0 0) := h6_0.grew (by (repeat (first | with_reducible exact Grew.refl _ | with_reducible refine Grew.setCell ?_ (by simp <;> omega) _ | with_reducible refine Grew.alloc ?_ _ | with_reducible refine Grew.drew ?_ | with_reducible apply Grew.trans ?_ g8 )))); (first | (with_reducible have h7_0 := res2_new g8) | (with_reducible have h7_0 := res2_newD g8) | skip); (try (have tt := h4_0; obtain ⟨h4_00, h4_01, h4_0f0, h4_0f1, h4_0s⟩ := tt)); (try (have tt := h5_0; obtain ⟨h5_00, h5_01, h5_0f0, h5_0f1, h5_0s⟩ := tt)); (try (have tt := h6_0; obtain ⟨h6_00, h6_01, h6_0f0, h6_0f1, h6_0s⟩ := tt)); (try (have tt := h7_0; obtain ⟨h7_00, h7_01, h7_0f0, h7_0f1, h7_0s⟩ := tt))) | (have chk := g6; clear chk; go_at_call 18; refine (wmul_v _ _ (bx - ax) (sgn b6 Ny - ay * (Dy : Int)) 2 (2 + (k + 2) + 1) _ (Y5.out.kept (Grew.keeps (by (repeat (first | with_reducible exact Grew.refl _ | with_reducible refine Grew.setCell ?_ (by simp <;> omega) _ | with_reducible refine Grew.alloc ?_ _ | with_reducible refine Grew.drew ?_ | with_reducible apply Grew.trans ?_ g6 | with_reducible apply Grew.trans ?_ g5 ))))) (Y6.out.kept (Grew.keeps (by (repeat (first | with_reducible exact Grew.refl _ | with_reducible refine Grew.setCell ?_ (by simp <;> omega) _ | with_reducible refine Grew.alloc ?_ _ | with_reducible refine Grew.drew ?_ | with_reducible apply Grew.trans ?_ g6 | with_reducible apply Grew.trans ?_ g5 ))))) s1.out).mono ?_; rintro e w7 ⟨V7, rfl, hV7, g7⟩; have zn7 : w6.heap.size ≤ w7.heap.size := (by have t := g7.size; (try simp at t); omega); have Y7 := Lib.hid (hV7.v l5.out); obtain ⟨b15, A15, n15, c15, rfl, -⟩ := hV7.laid; clear hV7; (try replace h4_0 : Res2 w7 (w4.heap.size) 0 (.bool false) (.slice none 0 0) := h4_0.grew (by (repeat (first | with_reducible exact Grew.refl _ | with_reducible refine Grew.setCell ?_ (by simp <;> omega) _ | with_reducible refine Grew.alloc ?_ _ | with_reducible refine Grew.drew ?_ | with_reducible apply Grew.trans ?_ g7 )))); (try replace h5_0 : Res2 w7 (w5.heap.size) 0 (.bool false) (.slice none 0 0) := h5_0.grew (by (repeat (first | with_reducible exact Grew.refl _ | with_reducible refine Grew.setCell ?_ (by simp <;> omega) _ | with_reducible refine Grew.alloc ?_ _ | with_reducible refine Grew.drew ?_ | with_reducible apply Grew.trans ?_ g7 )))); (first | (with_reducible have h6_0 := res2_new g7) | (with_reducible have h6_0 := res2_newD g7) | skip)) | (have chk := g5; clear chk; go_at_call 20; refine (over_any b6 A6 C6 Ny Dy n6 c6 m6 d6 (k + 2) ay _ (Hy.out.kept (Grew.keeps (by (repeat (first | with_reducible exact Grew.refl _ | with_reducible refine Grew.setCell ?_ (by simp <;> omega) _ | with_reducible refine Grew.alloc ?_ _ | with_reducible refine Grew.drew ?_ | with_reducible apply Grew.trans ?_ g5 ))))) (Iy.out.kept (Grew.keeps (by (repeat (first | with_reducible exact Grew.refl _ | with_reducible refine Grew.setCell ?_ (by simp <;> omega) _ | with_reducible refine Grew.alloc ?_ _ | with_reducible refine Grew.drew ?_ | with_reducible apply Grew.trans ?_ g5 ))))) Ly'.out My'.out s4.out ra.out.2.2.1 ra.out.2.2.2).mono ?_; rintro e w6 ⟨V6, rfl, hV6, g6⟩; have zn6 : w5.heap.size ≤ w6.heap.size := (by have t := g6.size; (try simp at t); omega); have Y6 := Lib.hid (hV6.v l3.out); obtain ⟨b14, A14, n14, c14, rfl, -⟩ := hV6.laid; clear hV6; (try replace h4_0 : Res2 w6 (w4.heap.size) 0 (.bool false) (.slice none 0 0) := h4_0.grew (by (repeat (first | with_reducible exact Grew.refl _ | with_reducible refine Grew.setCell ?_ (by simp <;> omega) _ | with_reducible refine Grew.alloc ?_ _ | with_reducible refine Grew.drew ?_ | with_reducible apply Grew.trans ?_ g6 )))); (first | (with_reducible have h5_0 := res2_new g6) | (with_reducible have h5_0 := res2_newD g6) | skip)) | (go_at_call 19; refine (wof_any (bx - ax) _ u1.1 u1.2).mono ?_; rintro e w5 ⟨V5, rfl, hV5, g5⟩; have zn5 : w4.heap.size ≤ w5.heap.size := (by have t := g5.size; (try simp at t); omega); have Y5 := Lib.hid (hV5.v l1.out); obtain ⟨b13, A13, n13, c13, rfl, -⟩ := hV5.laid; clear hV5; (first | (with_reducible have h4_0 := res2_new g5) | (with_reducible have h4_0 := res2_newD g5) | skip)))
            all_goals
              go_wp2_with fail
              go_meet
              have XX8 := Lib.hid (X8.out.kept (Grew.keeps (w := w8) (w' := w8) (by (repeat (first | with_reducible exact Grew.refl _ | with_reducible refine Grew.setCell ?_ (by simp <;> omega) _ | with_reducible refine Grew.alloc ?_ _ | with_reducible refine Grew.drew ?_ )))))
              refine ⟨_, rfl, ?_, ?_, ?_⟩
              · repeat (first | with_reducible exact h4_0  | with_reducible exact h5_0  | with_reducible exact h6_0  | with_reducible exact h7_0 | with_reducible exact Keeps.refl _ | with_reducible refine At2.of_store (w := w8) (Rd.whl _) ?_ ?_ XX8.out | with_reducible refine At2.of_alloc (w := w8) (Rd.whl _) (by simp) ?_ XX8.out | with_reducible refine Keeps.store2 ?_ ?_ | with_reducible refine Keeps.alloc ?_ )
              · omega
              · (repeat (first | with_reducible exact Grew.refl _ | with_reducible refine Grew.setCell ?_ (by simp <;> omega) _ | with_reducible refine Grew.alloc ?_ _ | with_reducible refine Grew.drew ?_ | with_reducible apply Grew.trans ?_ g8 | with_reducible apply Grew.trans ?_ g7 | with_reducible apply Grew.trans ?_ g6 | with_reducible apply Grew.trans ?_ g5 ))
          obtain ⟨e7, rfl, L, E7, GA⟩ := hcut
          replace P := Lib.hid (P.out.grew GA)
          replace Q := Lib.hid (Q.out.grew GA)
          replace S := Lib.hid (S.out.grew GA)
          replace Sy := Lib.hid (Sy.out.grew GA)
          replace z0 := Lib.hid (lt_grew z0.out GA)
          replace z1 := Lib.hid (lt_grew z1.out GA)
          replace z2 := Lib.hid (lt_grew z2.out GA)
          replace Sc := Lib.hid (Sc.out.kept GA.keeps)
          replace Hx := Lib.hid (Hx.out.kept GA.keeps)
          replace Hy := Lib.hid (Hy.out.kept GA.keeps)
          replace Ix := Lib.hid (Ix.out.kept GA.keeps)
          replace Iy := Lib.hid (Iy.out.kept GA.keeps)
          replace Wx := Lib.hid (Wx.out.kept GA.keeps)
          replace Wy := Lib.hid (Wy.out.kept GA.keeps)
          replace G0 := Lib.hid (G0.out.trans GA)
          obtain ⟨b107, A107, n107, c107, L, XL, Z7⟩ := L
          replace L := Lib.hid L
          replace XL := Lib.hid XL
          replace Z7 := Lib.hid Z7
          clear E7
          clear GA
          go_upto_region 4 with fail
          go_cut [8] (fun s8 wx => ∃ e8 : Nat, s8 = .pointer (some ⟨e8, 0, none⟩) ∧ At2 wx e8 (fun w V => Whl w V ((b_y - ay) * (sgn b5 Nx - ax * (Dx : Int)) * (Dy : Int))) ∧ wc.heap.size ≤ e8 ∧ Grew wc wx)
          · have KS : ∀ X, Grew wc X → (fun w' => w'.cell? ⟨w.heap.size, 0, none⟩ = some (.int .i64 ax) ∧ w'.cell? ⟨w.heap.size, 1, none⟩ = some (.int .i64 ay) ∧ w'.cell? ⟨w.heap.size + 1, 0, none⟩ = some (.int .i64 bx) ∧ w'.cell? ⟨w.heap.size + 1, 1, none⟩ = some (.int .i64 b_y) ∧ w'.cell? ⟨w.heap.size + 1 + 1, 0, none⟩ = some (.bool b5) ∧ w'.cell? ⟨w.heap.size + 1 + 1, 1, none⟩ = some (.slice A5 n5 c5) ∧ w'.cell? ⟨w.heap.size + 1 + 1, 2, none⟩ = some (.slice C5 m5 d5) ∧ w'.cell? ⟨w.heap.size + 1 + 1, 3, none⟩ = some (.bool b6) ∧ w'.cell? ⟨w.heap.size + 1 + 1, 4, none⟩ = some (.slice A6 n6 c6) ∧ w'.cell? ⟨w.heap.size + 1 + 1, 5, none⟩ = some (.slice C6 m6 d6)) X := fun X g => ⟨g.cell P.out.p0, g.cell P.out.p1, g.cell Q.out.p0, g.cell Q.out.p1, g.cell S.out.p0, g.cell S.out.p1, g.cell S.out.p2, g.cell Sy.out.p0, g.cell Sy.out.p1, g.cell Sy.out.p2⟩
            replace KS := Lib.hid KS
            go_region_held3 (fun w' => w'.cell? ⟨w.heap.size, 0, none⟩ = some (.int .i64 ax) ∧ w'.cell? ⟨w.heap.size, 1, none⟩ = some (.int .i64 ay) ∧ w'.cell? ⟨w.heap.size + 1, 0, none⟩ = some (.int .i64 bx) ∧ w'.cell? ⟨w.heap.size + 1, 1, none⟩ = some (.int .i64 b_y) ∧ w'.cell? ⟨w.heap.size + 1 + 1, 0, none⟩ = some (.bool b5) ∧ w'.cell? ⟨w.heap.size + 1 + 1, 1, none⟩ = some (.slice A5 n5 c5) ∧ w'.cell? ⟨w.heap.size + 1 + 1, 2, none⟩ = some (.slice C5 m5 d5) ∧ w'.cell? ⟨w.heap.size + 1 + 1, 3, none⟩ = some (.bool b6) ∧ w'.cell? ⟨w.heap.size + 1 + 1, 4, none⟩ = some (.slice A6 n6 c6) ∧ w'.cell? ⟨w.heap.size + 1 + 1, 5, none⟩ = some (.slice C6 m6 d6))
              (first | (refine KS.out _ ?_; (repeat (first | with_reducible exact Grew.refl _ | with_reducible refine Grew.setCell ?_ (by simp <;> omega) _ | with_reducible refine Grew.alloc ?_ _ | with_reducible refine Grew.drew ?_ | with_reducible apply Grew.trans ?_ g12 | with_reducible apply Grew.trans ?_ g11 | with_reducible apply Grew.trans ?_ g10 | with_reducible apply Grew.trans ?_ g9 )); done))
              (first | (have chk := g11; clear chk; go_at_call 18; refine (wmul_v _ _ ((b_y - ay) * (sgn b5 Nx - ax * (Dx : Int))) (Dy : Int) (2 + (2 + (k + 2) + 1)) (k + 2) _ (Y11.out.kept (Grew.keeps (by (repeat (first | with_reducible exact Grew.refl _ | with_reducible refine Grew.setCell ?_ (by simp <;> omega) _ | with_reducible refine Grew.alloc ?_ _ | with_reducible refine Grew.drew ?_ | with_reducible apply Grew.trans ?_ g11 | with_reducible apply Grew.trans ?_ g10 | with_reducible apply Grew.trans ?_ g9 ))))) (Wy.out.kept (Grew.keeps (by (repeat (first | with_reducible exact Grew.refl _ | with_reducible refine Grew.setCell ?_ (by simp <;> omega) _ | with_reducible refine Grew.alloc ?_ _ | with_reducible refine Grew.drew ?_ | with_reducible apply Grew.trans ?_ g11 | with_reducible apply Grew.trans ?_ g10 | with_reducible apply Grew.trans ?_ g9 ))))) s2.out).mono ?_; rintro e w12 ⟨V12, rfl, hV12, g12⟩; have zn12 : w11.heap.size ≤ w12.heap.size := (by have t := g12.size; (try simp at t); omega); obtain ⟨b16, A16, n16, c16, rfl, X12, -⟩ := hV12.laid; clear hV12; (try replace h8_0 : Res2 w12 (wc.heap.size) 0 (.bool false) (.slice none 0 0) := h8_0.grew (by (repeat (first | with_reducible exact Grew.refl _ | with_reducible refine Grew.setCell ?_ (by simp <;> omega) _ | with_reducible refine Grew.alloc ?_ _ | with_reducible refine Grew.drew ?_ | with_reducible apply Grew.trans ?_ g12 )))); (try replace h9_0 : Res2 w12 (w9.heap.size) 0 (.bool false) (.slice none 0 0) := h9_0.grew (by (repeat (first | with_reducible exact Grew.refl _ | with_reducible refine Grew.setCell ?_ (by simp <;> omega) _ | with_reducible refine Grew.alloc ?_ _ | with_reducible refine Grew.drew ?_ | with_reducible apply Grew.trans ?_ g12 )))); (try replace h10_0 : Res2 w12 (w10.heap.size) 0 (.bool false) (.slice none 0 0) := h10_0.grew (by (repeat (first | with_reducible exact Grew.refl _ | with_reducible refine Grew.setCell ?_ (by simp <;> omega) _ | with_reducible refine Grew.alloc ?_ _ | with_reducible refine Grew.drew ?_ | with_reducible apply Grew.trans ?_ g12 )))); (first | (with_reducible have h11_0 := res2_new g12) | (with_reducible have h11_0 := res2_newD g12) | skip); (try (have tt := h8_0; obtain ⟨h8_00, h8_01, h8_0f0, h8_0f1, h8_0s⟩ := tt)); (try (have tt := h9_0; obtain ⟨h9_00, h9_01, h9_0f0, h9_0f1, h9_0s⟩ := tt)); (try (have tt := h10_0; obtain ⟨h10_00, h10_01, h10_0f0, h10_0f1, h10_0s⟩ := tt)); (try (have tt := h11_0; obtain ⟨h11_00, h11_01, h11_0f0, h11_0f1, h11_0s⟩ := tt))) | (have chk := g10; clear chk; go_at_call 18; refine (wmul_v _ _ (b_y - ay) (sgn b5 Nx - ax * (Dx : Int)) 2 (2 + (k + 2) + 1) _ (Y9.out.kept (Grew.keeps (by (repeat (first | with_reducible exact Grew.refl _ | with_reducible refine Grew.setCell ?_ (by simp <;> omega) _ | with_reducible refine Grew.alloc ?_ _ | with_reducible refine Grew.drew ?_ | with_reducible apply Grew.trans ?_ g10 | with_reducible apply Grew.trans ?_ g9 ))))) (Y10.out.kept (Grew.keeps (by (repeat (first | with_reducible exact Grew.refl _ | with_reducible refine Grew.setCell ?_ (by simp <;> omega) _ | with_reducible refine Grew.alloc ?_ _ | with_reducible refine Grew.drew ?_ | with_reducible apply Grew.trans ?_ g10 | with_reducible apply Grew.trans ?_ g9 ))))) s1.out).mono ?_; rintro e w11 ⟨V11, rfl, hV11, g11⟩; have zn11 : w10.heap.size ≤ w11.heap.size := (by have t := g11.size; (try simp at t); omega); have Y11 := Lib.hid (hV11.v l6.out); obtain ⟨b15, A15, n15, c15, rfl, -⟩ := hV11.laid; clear hV11; (try replace h8_0 : Res2 w11 (wc.heap.size) 0 (.bool false) (.slice none 0 0) := h8_0.grew (by (repeat (first | with_reducible exact Grew.refl _ | with_reducible refine Grew.setCell ?_ (by simp <;> omega) _ | with_reducible refine Grew.alloc ?_ _ | with_reducible refine Grew.drew ?_ | with_reducible apply Grew.trans ?_ g11 )))); (try replace h9_0 : Res2 w11 (w9.heap.size) 0 (.bool false) (.slice none 0 0) := h9_0.grew (by (repeat (first | with_reducible exact Grew.refl _ | with_reducible refine Grew.setCell ?_ (by simp <;> omega) _ | with_reducible refine Grew.alloc ?_ _ | with_reducible refine Grew.drew ?_ | with_reducible apply Grew.trans ?_ g11 )))); (first | (with_reducible have h10_0 := res2_new g11) | (with_reducible have h10_0 := res2_newD g11) | skip)) | (have chk := g9; clear chk; go_at_call 20; refine (over_any b5 A5 C5 Nx Dx n5 c5 m5 d5 (k + 2) ax _ (Hx.out.kept (Grew.keeps (by (repeat (first | with_reducible exact Grew.refl _ | with_reducible refine Grew.setCell ?_ (by simp <;> omega) _ | with_reducible refine Grew.alloc ?_ _ | with_reducible refine Grew.drew ?_ | with_reducible apply Grew.trans ?_ g9 ))))) (Ix.out.kept (Grew.keeps (by (repeat (first | with_reducible exact Grew.refl _ | with_reducible refine Grew.setCell ?_ (by simp <;> omega) _ | with_reducible refine Grew.alloc ?_ _ | with_reducible refine Grew.drew ?_ | with_reducible apply Grew.trans ?_ g9 ))))) Lx'.out Mx'.out s4.out ra.out.1 ra.out.2.1).mono ?_; rintro e w10 ⟨V10, rfl, hV10, g10⟩; have zn10 : w9.heap.size ≤ w10.heap.size := (by have t := g10.size; (try simp at t); omega); have Y10 := Lib.hid (hV10.v l4.out); obtain ⟨b14, A14, n14, c14, rfl, -⟩ := hV10.laid; clear hV10; (try replace h8_0 : Res2 w10 (wc.heap.size) 0 (.bool false) (.slice none 0 0) := h8_0.grew (by (repeat (first | with_reducible exact Grew.refl _ | with_reducible refine Grew.setCell ?_ (by simp <;> omega) _ | with_reducible refine Grew.alloc ?_ _ | with_reducible refine Grew.drew ?_ | with_reducible apply Grew.trans ?_ g10 )))); (first | (with_reducible have h9_0 := res2_new g10) | (with_reducible have h9_0 := res2_newD g10) | skip)) | (go_at_call 19; refine (wof_any (b_y - ay) _ u2.1 u2.2).mono ?_; rintro e w9 ⟨V9, rfl, hV9, g9⟩; have zn9 : wc.heap.size ≤ w9.heap.size := (by have t := g9.size; (try simp at t); omega); have Y9 := Lib.hid (hV9.v l2.out); obtain ⟨b13, A13, n13, c13, rfl, -⟩ := hV9.laid; clear hV9; (first | (with_reducible have h8_0 := res2_new g9) | (with_reducible have h8_0 := res2_newD g9) | skip)))
            all_goals
              go_wp2_with fail
              go_meet
              have XX12 := Lib.hid (X12.out.kept (Grew.keeps (w := w12) (w' := w12) (by (repeat (first | with_reducible exact Grew.refl _ | with_reducible refine Grew.setCell ?_ (by simp <;> omega) _ | with_reducible refine Grew.alloc ?_ _ | with_reducible refine Grew.drew ?_ )))))
              refine ⟨_, rfl, ?_, ?_, ?_⟩
              · repeat (first | with_reducible exact h8_0  | with_reducible exact h9_0  | with_reducible exact h10_0  | with_reducible exact h11_0 | with_reducible exact Keeps.refl _ | with_reducible refine At2.of_store (w := w12) (Rd.whl _) ?_ ?_ XX12.out | with_reducible refine At2.of_alloc (w := w12) (Rd.whl _) (by simp) ?_ XX12.out | with_reducible refine Keeps.store2 ?_ ?_ | with_reducible refine Keeps.alloc ?_ )
              · omega
              · (repeat (first | with_reducible exact Grew.refl _ | with_reducible refine Grew.setCell ?_ (by simp <;> omega) _ | with_reducible refine Grew.alloc ?_ _ | with_reducible refine Grew.drew ?_ | with_reducible apply Grew.trans ?_ g12 | with_reducible apply Grew.trans ?_ g11 | with_reducible apply Grew.trans ?_ g10 | with_reducible apply Grew.trans ?_ g9 ))
          obtain ⟨e8, rfl, M, E8, GA⟩ := hcut
          replace P := Lib.hid (P.out.grew GA)
          replace Q := Lib.hid (Q.out.grew GA)
          replace S := Lib.hid (S.out.grew GA)
          replace Sy := Lib.hid (Sy.out.grew GA)
          replace L := Lib.hid (L.out.grew GA)
          replace z0 := Lib.hid (lt_grew z0.out GA)
          replace z1 := Lib.hid (lt_grew z1.out GA)
          replace z2 := Lib.hid (lt_grew z2.out GA)
          replace Z7 := Lib.hid (lt_grew Z7.out GA)
          replace Sc := Lib.hid (Sc.out.kept GA.keeps)
          replace Hx := Lib.hid (Hx.out.kept GA.keeps)
          replace Hy := Lib.hid (Hy.out.kept GA.keeps)
          replace Ix := Lib.hid (Ix.out.kept GA.keeps)
          replace Iy := Lib.hid (Iy.out.kept GA.keeps)
          replace Wx := Lib.hid (Wx.out.kept GA.keeps)
          replace Wy := Lib.hid (Wy.out.kept GA.keeps)
          replace XL := Lib.hid (XL.out.kept GA.keeps)
          replace G0 := Lib.hid (G0.out.trans GA)
          obtain ⟨b108, A108, n108, c108, M, XM, Z8⟩ := M
          replace M := Lib.hid M
          replace XM := Lib.hid XM
          replace Z8 := Lib.hid Z8
          clear E8
          clear GA
          obtain ⟨L0, L1⟩ := L.out
          obtain ⟨M0, M1⟩ := M.out
          go_wp2_with fail
          clear L0 L1 M0 M1
          refine (wcmp_v _ _ ((bx - ax) * (sgn b6 Ny - ay * (Dy : Int)) * (Dx : Int)) ((b_y - ay) * (sgn b5 Nx - ax * (Dx : Int)) * (Dy : Int)) _ _ _ (XL.out.v l7.out) (XM.out.v l8.out) s3.out).mono ?_
          rintro e w13 ⟨rfl, g13⟩
          replace P := Lib.hid (P.out.grew g13)
          replace Q := Lib.hid (Q.out.grew g13)
          replace S := Lib.hid (S.out.grew g13)
          replace Sy := Lib.hid (Sy.out.grew g13)
          replace L := Lib.hid (L.out.grew g13)
          replace M := Lib.hid (M.out.grew g13)
          replace z0 := Lib.hid (lt_grew z0.out g13)
          replace z1 := Lib.hid (lt_grew z1.out g13)
          replace z2 := Lib.hid (lt_grew z2.out g13)
          replace Z7 := Lib.hid (lt_grew Z7.out g13)
          replace Z8 := Lib.hid (lt_grew Z8.out g13)
          replace Sc := Lib.hid (Sc.out.kept g13.keeps)
          replace Hx := Lib.hid (Hx.out.kept g13.keeps)
          replace Hy := Lib.hid (Hy.out.kept g13.keeps)
          replace Ix := Lib.hid (Ix.out.kept g13.keeps)
          replace Iy := Lib.hid (Iy.out.kept g13.keeps)
          replace Wx := Lib.hid (Wx.out.kept g13.keeps)
          replace Wy := Lib.hid (Wy.out.kept g13.keeps)
          replace XL := Lib.hid (XL.out.kept g13.keeps)
          replace XM := Lib.hid (XM.out.kept g13.keeps)
          replace G0 := Lib.hid (G0.out.trans g13)
          clear g13
          rw [t0.out]
          go_wp2_with fail
          go_ret
          exact ⟨rfl, G0.out⟩
    · have ea := Lib.hid ha1
      have eb := Lib.hid (Bool.eq_false_iff.2 hb1)
      clear ha hb ha1 hb1
      go_enter Try.func5, Try.ntmps5
      go_wp2_with fail
      refine gen_calls ?_
      intro W0 hW0
      have G0 : Grew w W0 := by rw [hW0]; exact (((Grew.refl w).alloc _).alloc _).alloc _
      have P : Box2 W0 (w.heap.size) 0 (.int .i64 ax) (.int .i64 ay) := by rw [hW0]; exact ⟨by simp [go_sem], by simp [go_sem]⟩
      replace P := Lib.hid P
      have Q : Box2 W0 (w.heap.size + 1) 0 (.int .i64 bx) (.int .i64 b_y) := by rw [hW0]; exact ⟨by simp [go_sem], by simp [go_sem]⟩
      replace Q := Lib.hid Q
      have S : Box3 W0 (w.heap.size + 1 + 1) 0 (.bool b5) (.slice A5 n5 c5) (.slice C5 m5 d5) := by rw [hW0]; exact ⟨by simp [go_sem], by simp [go_sem], by simp [go_sem]⟩
      replace S := Lib.hid S
      have Sy : Box3 W0 (w.heap.size + 1 + 1) 3 (.bool b6) (.slice A6 n6 c6) (.slice C6 m6 d6) := by rw [hW0]; exact ⟨by simp [go_sem], by simp [go_sem], by simp [go_sem]⟩
      replace Sy := Lib.hid Sy
      have z0 : w.heap.size < W0.heap.size := by rw [hW0]; simp <;> omega
      replace z0 := Lib.hid z0
      have z1 : w.heap.size + 1 < W0.heap.size := by rw [hW0]; simp <;> omega
      replace z1 := Lib.hid z1
      have z2 : w.heap.size + 1 + 1 < W0.heap.size := by rw [hW0]; simp <;> omega
      replace z2 := Lib.hid z2
      clear hW0
      replace Sc := Lib.hid (Sc.out.kept G0.keeps)
      replace G0 := Lib.hid G0
      refine (near_any ax ay _).mono ?_
      rintro e w1 ⟨rfl, g1⟩
      replace P := Lib.hid (P.out.grew g1)
      replace Q := Lib.hid (Q.out.grew g1)
      replace S := Lib.hid (S.out.grew g1)
      replace Sy := Lib.hid (Sy.out.grew g1)
      replace z0 := Lib.hid (lt_grew z0.out g1)
      replace z1 := Lib.hid (lt_grew z1.out g1)
      replace z2 := Lib.hid (lt_grew z2.out g1)
      replace Sc := Lib.hid (Sc.out.kept g1.keeps)
      replace G0 := Lib.hid (G0.out.trans g1)
      clear g1
      rw [ea.out]
      obtain ⟨P0, P1⟩ := P.out
      obtain ⟨Q0, Q1⟩ := Q.out
      obtain ⟨S0, S1, S2⟩ := S.out
      obtain ⟨Sy0, Sy1, Sy2⟩ := Sy.out
      go_wp2_with fail
      clear P0 P1 Q0 Q1 S0 S1 S2 Sy0 Sy1 Sy2
      refine (near_any bx b_y _).mono ?_
      rintro e w2 ⟨rfl, g2⟩
      replace P := Lib.hid (P.out.grew g2)
      replace Q := Lib.hid (Q.out.grew g2)
      replace S := Lib.hid (S.out.grew g2)
      replace Sy := Lib.hid (Sy.out.grew g2)
      replace z0 := Lib.hid (lt_grew z0.out g2)
      replace z1 := Lib.hid (lt_grew z1.out g2)
      replace z2 := Lib.hid (lt_grew z2.out g2)
      replace Sc := Lib.hid (Sc.out.kept g2.keeps)
      replace G0 := Lib.hid (G0.out.trans g2)
      clear g2
      rw [eb.out]
      go_wp2_with fail
      have gd : Grew w2 w2.drew := (Grew.refl w2).drew
      replace P := Lib.hid (P.out.grew gd)
      replace Q := Lib.hid (Q.out.grew gd)
      replace S := Lib.hid (S.out.grew gd)
      replace Sy := Lib.hid (Sy.out.grew gd)
      replace z0 := Lib.hid (lt_grew z0.out gd)
      replace z1 := Lib.hid (lt_grew z1.out gd)
      replace z2 := Lib.hid (lt_grew z2.out gd)
      replace Sc := Lib.hid (Sc.out.kept gd.keeps)
      replace gd := Lib.hid gd
      have ZP := P
      have ZQ := Q
      have ZS := S
      have ZSy := Sy
      go_region_held3 (fun w' => w'.cell? ⟨w.heap.size, 0, none⟩ = some (.int .i64 ax) ∧ w'.cell? ⟨w.heap.size, 1, none⟩ = some (.int .i64 ay) ∧ w'.cell? ⟨w.heap.size + 1, 0, none⟩ = some (.int .i64 bx) ∧ w'.cell? ⟨w.heap.size + 1, 1, none⟩ = some (.int .i64 b_y) ∧ w'.cell? ⟨w.heap.size + 1 + 1, 0, none⟩ = some (.bool b5) ∧ w'.cell? ⟨w.heap.size + 1 + 1, 1, none⟩ = some (.slice A5 n5 c5) ∧ w'.cell? ⟨w.heap.size + 1 + 1, 2, none⟩ = some (.slice C5 m5 d5) ∧ w'.cell? ⟨w.heap.size + 1 + 1, 3, none⟩ = some (.bool b6) ∧ w'.cell? ⟨w.heap.size + 1 + 1, 4, none⟩ = some (.slice A6 n6 c6) ∧ w'.cell? ⟨w.heap.size + 1 + 1, 5, none⟩ = some (.slice C6 m6 d6))
        (first | (with_reducible exact ⟨ZP.out.p0, ZP.out.p1, ZQ.out.p0, ZQ.out.p1, ZS.out.p0, ZS.out.p1, ZS.out.p2, ZSy.out.p0, ZSy.out.p1, ZSy.out.p2⟩) | (with_reducible exact ⟨g3.cell ZP.out.p0, g3.cell ZP.out.p1, g3.cell ZQ.out.p0, g3.cell ZQ.out.p1, g3.cell ZS.out.p0, g3.cell ZS.out.p1, g3.cell ZS.out.p2, g3.cell ZSy.out.p0, g3.cell ZSy.out.p1, g3.cell ZSy.out.p2⟩) | (with_reducible exact ⟨(g3.trans g4).cell ZP.out.p0, (g3.trans g4).cell ZP.out.p1, (g3.trans g4).cell ZQ.out.p0, (g3.trans g4).cell ZQ.out.p1, (g3.trans g4).cell ZS.out.p0, (g3.trans g4).cell ZS.out.p1, (g3.trans g4).cell ZS.out.p2, (g3.trans g4).cell ZSy.out.p0, (g3.trans g4).cell ZSy.out.p1, (g3.trans g4).cell ZSy.out.p2⟩) | (with_reducible exact ⟨((g3.trans g4).trans g5).cell ZP.out.p0, ((g3.trans g4).trans g5).cell ZP.out.p1, ((g3.trans g4).trans g5).cell ZQ.out.p0, ((g3.trans g4).trans g5).cell ZQ.out.p1, ((g3.trans g4).trans g5).cell ZS.out.p0, ((g3.trans g4).trans g5).cell ZS.out.p1, ((g3.trans g4).trans g5).cell ZS.out.p2, ((g3.trans g4).trans g5).cell ZSy.out.p0, ((g3.trans g4).trans g5).cell ZSy.out.p1, ((g3.trans g4).trans g5).cell ZSy.out.p2⟩))
        (first | (have chk := g4; clear chk; go_at_call 16; refine (turn_any _ _ _ (ax : Rat) (ay : Rat) (bx : Rat) (b_y : Rat) cx cy (k + 2) _ (X1.out.mono hk2) (X2.out.mono hk2) Sc.out (by omega) (by omega)).mono ?_; rintro e w5 ⟨rfl, g5⟩; replace P := Lib.hid (P.out.grew g5); replace Q := Lib.hid (Q.out.grew g5); replace S := Lib.hid (S.out.grew g5); replace Sy := Lib.hid (Sy.out.grew g5); replace z0 := Lib.hid (lt_grew z0.out g5); replace z1 := Lib.hid (lt_grew z1.out g5); replace z2 := Lib.hid (lt_grew z2.out g5); replace Sc := Lib.hid (Sc.out.kept g5.keeps); replace X1 := Lib.hid (X1.out.kept g5.keeps); replace X2 := Lib.hid (X2.out.kept g5.keeps)) | (have chk := g3; clear chk; go_at_call 17; refine (at_any bx b_y _ rb.out.1 rb.out.2.1 rb.out.2.2.1 rb.out.2.2.2).mono ?_; rintro e w4 ⟨V2, rfl, hV2, g4⟩; have Y2 := Lib.hid (hV2.v qb.out qb2.out); obtain ⟨b9, A9, n9, c9, C9, m9, d9, b10, A10, n10, c10, C10, m10, d10, rfl, -⟩ := hV2.laid; have X2 := Y2; clear hV2 Y2; replace P := Lib.hid (P.out.grew g4); replace Q := Lib.hid (Q.out.grew g4); replace S := Lib.hid (S.out.grew g4); replace Sy := Lib.hid (Sy.out.grew g4); replace z0 := Lib.hid (lt_grew z0.out g4); replace z1 := Lib.hid (lt_grew z1.out g4); replace z2 := Lib.hid (lt_grew z2.out g4); replace Sc := Lib.hid (Sc.out.kept g4.keeps); replace X1 := Lib.hid (X1.out.kept g4.keeps)) | (go_at_call 17; refine (at_any ax ay _ ra.out.1 ra.out.2.1 ra.out.2.2.1 ra.out.2.2.2).mono ?_; rintro e w3 ⟨V1, rfl, hV1, g3⟩; have Y1 := Lib.hid (hV1.v qa.out qa2.out); obtain ⟨b7, A7, n7, c7, C7, m7, d7, b8, A8, n8, c8, C8, m8, d8, rfl, -⟩ := hV1.laid; have X1 := Y1; clear hV1 Y1; replace P := Lib.hid (P.out.grew g3); replace Q := Lib.hid (Q.out.grew g3); replace S := Lib.hid (S.out.grew g3); replace Sy := Lib.hid (Sy.out.grew g3); replace z0 := Lib.hid (lt_grew z0.out g3); replace z1 := Lib.hid (lt_grew z1.out g3); replace z2 := Lib.hid (lt_grew z2.out g3); replace Sc := Lib.hid (Sc.out.kept g3.keeps)))
      replace G0 := Lib.hid ((((G0.out.trans gd.out).trans g3).trans g4).trans g5)
      clear gd g3 g4 g5 ZP ZQ ZS ZSy
      go_wp2_with fail
      go_ret
      exact ⟨rfl, G0.out⟩
  · have ea := Lib.hid (Bool.eq_false_iff.2 ha1)
    clear ha hb ha1
    go_enter Try.func5, Try.ntmps5
    go_wp2_with fail
    refine gen_calls ?_
    intro W0 hW0
    have G0 : Grew w W0 := by rw [hW0]; exact (((Grew.refl w).alloc _).alloc _).alloc _
    have P : Box2 W0 (w.heap.size) 0 (.int .i64 ax) (.int .i64 ay) := by rw [hW0]; exact ⟨by simp [go_sem], by simp [go_sem]⟩
    replace P := Lib.hid P
    have Q : Box2 W0 (w.heap.size + 1) 0 (.int .i64 bx) (.int .i64 b_y) := by rw [hW0]; exact ⟨by simp [go_sem], by simp [go_sem]⟩
    replace Q := Lib.hid Q
    have S : Box3 W0 (w.heap.size + 1 + 1) 0 (.bool b5) (.slice A5 n5 c5) (.slice C5 m5 d5) := by rw [hW0]; exact ⟨by simp [go_sem], by simp [go_sem], by simp [go_sem]⟩
    replace S := Lib.hid S
    have Sy : Box3 W0 (w.heap.size + 1 + 1) 3 (.bool b6) (.slice A6 n6 c6) (.slice C6 m6 d6) := by rw [hW0]; exact ⟨by simp [go_sem], by simp [go_sem], by simp [go_sem]⟩
    replace Sy := Lib.hid Sy
    have z0 : w.heap.size < W0.heap.size := by rw [hW0]; simp <;> omega
    replace z0 := Lib.hid z0
    have z1 : w.heap.size + 1 < W0.heap.size := by rw [hW0]; simp <;> omega
    replace z1 := Lib.hid z1
    have z2 : w.heap.size + 1 + 1 < W0.heap.size := by rw [hW0]; simp <;> omega
    replace z2 := Lib.hid z2
    clear hW0
    replace Sc := Lib.hid (Sc.out.kept G0.keeps)
    replace G0 := Lib.hid G0
    refine (near_any ax ay _).mono ?_
    rintro e w1 ⟨rfl, g1⟩
    replace P := Lib.hid (P.out.grew g1)
    replace Q := Lib.hid (Q.out.grew g1)
    replace S := Lib.hid (S.out.grew g1)
    replace Sy := Lib.hid (Sy.out.grew g1)
    replace z0 := Lib.hid (lt_grew z0.out g1)
    replace z1 := Lib.hid (lt_grew z1.out g1)
    replace z2 := Lib.hid (lt_grew z2.out g1)
    replace Sc := Lib.hid (Sc.out.kept g1.keeps)
    replace G0 := Lib.hid (G0.out.trans g1)
    clear g1
    rw [ea.out]
    go_wp2_with fail
    have gd : Grew w1 w1.drew := (Grew.refl w1).drew
    replace P := Lib.hid (P.out.grew gd)
    replace Q := Lib.hid (Q.out.grew gd)
    replace S := Lib.hid (S.out.grew gd)
    replace Sy := Lib.hid (Sy.out.grew gd)
    replace z0 := Lib.hid (lt_grew z0.out gd)
    replace z1 := Lib.hid (lt_grew z1.out gd)
    replace z2 := Lib.hid (lt_grew z2.out gd)
    replace Sc := Lib.hid (Sc.out.kept gd.keeps)
    replace gd := Lib.hid gd
    have ZP := P
    have ZQ := Q
    have ZS := S
    have ZSy := Sy
    go_region_held3 (fun w' => w'.cell? ⟨w.heap.size, 0, none⟩ = some (.int .i64 ax) ∧ w'.cell? ⟨w.heap.size, 1, none⟩ = some (.int .i64 ay) ∧ w'.cell? ⟨w.heap.size + 1, 0, none⟩ = some (.int .i64 bx) ∧ w'.cell? ⟨w.heap.size + 1, 1, none⟩ = some (.int .i64 b_y) ∧ w'.cell? ⟨w.heap.size + 1 + 1, 0, none⟩ = some (.bool b5) ∧ w'.cell? ⟨w.heap.size + 1 + 1, 1, none⟩ = some (.slice A5 n5 c5) ∧ w'.cell? ⟨w.heap.size + 1 + 1, 2, none⟩ = some (.slice C5 m5 d5) ∧ w'.cell? ⟨w.heap.size + 1 + 1, 3, none⟩ = some (.bool b6) ∧ w'.cell? ⟨w.heap.size + 1 + 1, 4, none⟩ = some (.slice A6 n6 c6) ∧ w'.cell? ⟨w.heap.size + 1 + 1, 5, none⟩ = some (.slice C6 m6 d6))
      (first | (with_reducible exact ⟨ZP.out.p0, ZP.out.p1, ZQ.out.p0, ZQ.out.p1, ZS.out.p0, ZS.out.p1, ZS.out.p2, ZSy.out.p0, ZSy.out.p1, ZSy.out.p2⟩) | (with_reducible exact ⟨g2.cell ZP.out.p0, g2.cell ZP.out.p1, g2.cell ZQ.out.p0, g2.cell ZQ.out.p1, g2.cell ZS.out.p0, g2.cell ZS.out.p1, g2.cell ZS.out.p2, g2.cell ZSy.out.p0, g2.cell ZSy.out.p1, g2.cell ZSy.out.p2⟩) | (with_reducible exact ⟨(g2.trans g3).cell ZP.out.p0, (g2.trans g3).cell ZP.out.p1, (g2.trans g3).cell ZQ.out.p0, (g2.trans g3).cell ZQ.out.p1, (g2.trans g3).cell ZS.out.p0, (g2.trans g3).cell ZS.out.p1, (g2.trans g3).cell ZS.out.p2, (g2.trans g3).cell ZSy.out.p0, (g2.trans g3).cell ZSy.out.p1, (g2.trans g3).cell ZSy.out.p2⟩) | (with_reducible exact ⟨((g2.trans g3).trans g4).cell ZP.out.p0, ((g2.trans g3).trans g4).cell ZP.out.p1, ((g2.trans g3).trans g4).cell ZQ.out.p0, ((g2.trans g3).trans g4).cell ZQ.out.p1, ((g2.trans g3).trans g4).cell ZS.out.p0, ((g2.trans g3).trans g4).cell ZS.out.p1, ((g2.trans g3).trans g4).cell ZS.out.p2, ((g2.trans g3).trans g4).cell ZSy.out.p0, ((g2.trans g3).trans g4).cell ZSy.out.p1, ((g2.trans g3).trans g4).cell ZSy.out.p2⟩))
      (first | (have chk := g3; clear chk; go_at_call 16; refine (turn_any _ _ _ (ax : Rat) (ay : Rat) (bx : Rat) (b_y : Rat) cx cy (k + 2) _ (X1.out.mono hk2) (X2.out.mono hk2) Sc.out (by omega) (by omega)).mono ?_; rintro e w4 ⟨rfl, g4⟩; replace P := Lib.hid (P.out.grew g4); replace Q := Lib.hid (Q.out.grew g4); replace S := Lib.hid (S.out.grew g4); replace Sy := Lib.hid (Sy.out.grew g4); replace z0 := Lib.hid (lt_grew z0.out g4); replace z1 := Lib.hid (lt_grew z1.out g4); replace z2 := Lib.hid (lt_grew z2.out g4); replace Sc := Lib.hid (Sc.out.kept g4.keeps); replace X1 := Lib.hid (X1.out.kept g4.keeps); replace X2 := Lib.hid (X2.out.kept g4.keeps)) | (have chk := g2; clear chk; go_at_call 17; refine (at_any bx b_y _ rb.out.1 rb.out.2.1 rb.out.2.2.1 rb.out.2.2.2).mono ?_; rintro e w3 ⟨V2, rfl, hV2, g3⟩; have Y2 := Lib.hid (hV2.v qb.out qb2.out); obtain ⟨b9, A9, n9, c9, C9, m9, d9, b10, A10, n10, c10, C10, m10, d10, rfl, -⟩ := hV2.laid; have X2 := Y2; clear hV2 Y2; replace P := Lib.hid (P.out.grew g3); replace Q := Lib.hid (Q.out.grew g3); replace S := Lib.hid (S.out.grew g3); replace Sy := Lib.hid (Sy.out.grew g3); replace z0 := Lib.hid (lt_grew z0.out g3); replace z1 := Lib.hid (lt_grew z1.out g3); replace z2 := Lib.hid (lt_grew z2.out g3); replace Sc := Lib.hid (Sc.out.kept g3.keeps); replace X1 := Lib.hid (X1.out.kept g3.keeps)) | (go_at_call 17; refine (at_any ax ay _ ra.out.1 ra.out.2.1 ra.out.2.2.1 ra.out.2.2.2).mono ?_; rintro e w2 ⟨V1, rfl, hV1, g2⟩; have Y1 := Lib.hid (hV1.v qa.out qa2.out); obtain ⟨b7, A7, n7, c7, C7, m7, d7, b8, A8, n8, c8, C8, m8, d8, rfl, -⟩ := hV1.laid; have X1 := Y1; clear hV1 Y1; replace P := Lib.hid (P.out.grew g2); replace Q := Lib.hid (Q.out.grew g2); replace S := Lib.hid (S.out.grew g2); replace Sy := Lib.hid (Sy.out.grew g2); replace z0 := Lib.hid (lt_grew z0.out g2); replace z1 := Lib.hid (lt_grew z1.out g2); replace z2 := Lib.hid (lt_grew z2.out g2); replace Sc := Lib.hid (Sc.out.kept g2.keeps)))
    replace G0 := Lib.hid ((((G0.out.trans gd.out).trans g2).trans g3).trans g4)
    clear gd g2 g3 g4 ZP ZQ ZS ZSy
    go_wp2_with fail
    go_ret
    exact ⟨rfl, G0.out⟩
end Go.Proofs.Ythhgogpglocjdaa
namespace Go.Proofs.Ythhgogpglocjdaa
open Go.RowKit

set_option maxRecDepth 100000 in
set_option maxHeartbeats 4000000 in
theorem r1same_yes (A C : Option Addr) (N n c d : Nat) (w : World) (ha : Num 4294967296 .u32 w (.slice A n c) N n) (hb : Num 4294967296 .u32 w (.slice C n d) N n) :
    Calls Try.prog 62 #[.slice A n c, .slice C n d] w fun e w' => e = .returned (.bool true) ∧ Grew w w' := by
  obtain ⟨A', c', e1, a1, a2, a3, a4⟩ := ha
  obtain ⟨C', d', e2, b1, b2, b3, b4⟩ := hb
  injection e1 with i1 i2 i3
  injection e2 with j1 j2 j3
  subst i1; subst i3; subst j1; subst j3
  have hm : n ≤ 9223372036854775807 := by omega
  clear i2 j2 a3 b3
  go_enter Try.func62, Try.ntmps62
  go_wp2_with fail
  go_loopg [5] n (fun gk i wr => ∃ j : Nat, gk + j = n ∧ i = .int .i64 j ∧ Grew w wr)
  case atStart => exact ⟨0, rfl, rfl, Grew.refl _⟩
  case round =>
    obtain ⟨j, hj, rfl, hG⟩ := hrel
    by_cases hlt : j < n
    · obtain ⟨ba, oa, rfl, hca⟩ := a4 (by omega)
      obtain ⟨bb, ob, rfl, hcb⟩ := b4 (by omega)
      have hcx := hG.cell (hca j hlt)
      have hcy := hG.cell (hcb j hlt)
      clear hca hcb a4 b4
      generalize dig 4294967296 N j = x at *
      go_wp2_with fail
      go_quiet (fail)
      go_wp2
      go_roundg (gk - 1)
      case rel => exact ⟨j + 1, by omega, by go_num, by first | exact hG.drewN _ | exact (hG.drewN _).drewN _⟩
      case measure => omega
    · obtain rfl : j = n := by omega
      go_wp2_with fail
      go_ret
      exact ⟨rfl, hG⟩

set_option maxRecDepth 100000 in
set_option maxHeartbeats 4000000 in
theorem r2same_yes (b : Bool) (A C : Option Addr) (N n c d : Nat) (w : World) (ha : Num 4294967296 .u32 w (.slice A n c) N n) (hb : Num 4294967296 .u32 w (.slice C n d) N n) :
    Calls Try.prog 61 #[.agg #[.bool b, .slice A n c], .agg #[.bool b, .slice C n d]] w fun e w' => e = .returned (.bool true) ∧ Grew w w' := by
  have Fa := Lib.hid ha
  have Fb := Lib.hid hb
  clear ha hb
  go_enter Try.func61, Try.ntmps61
  go_wp2_with fail
  refine gen_calls ?_
  intro W0 hW0
  have G0 : Grew w W0 := by rw [hW0]; exact ((Grew.refl w).alloc _).alloc _
  have P : Box2 W0 (w.heap.size) 0 (.bool b) (.slice A n c) := by rw [hW0]; exact ⟨by simp [go_sem], by simp [go_sem]⟩
  replace P := Lib.hid P
  have Q : Box2 W0 (w.heap.size + 1) 0 (.bool b) (.slice C n d) := by rw [hW0]; exact ⟨by simp [go_sem], by simp [go_sem]⟩
  replace Q := Lib.hid Q
  have z0 : w.heap.size < W0.heap.size := by rw [hW0]; simp <;> omega
  replace z0 := Lib.hid z0
  have z1 : w.heap.size + 1 < W0.heap.size := by rw [hW0]; simp <;> omega
  replace z1 := Lib.hid z1
  clear hW0
  replace Fa := Lib.hid (Fa.out.kept G0.keeps)
  replace Fb := Lib.hid (Fb.out.kept G0.keeps)
  replace G0 := Lib.hid G0
  refine (r1same_yes A C N n c d _ Fa.out Fb.out).mono ?_
  rintro e w1 ⟨rfl, g1⟩
  replace P := Lib.hid (P.out.grew g1)
  replace Q := Lib.hid (Q.out.grew g1)
  replace z0 := Lib.hid (lt_grew z0.out g1)
  replace z1 := Lib.hid (lt_grew z1.out g1)
  replace Fa := Lib.hid (Fa.out.kept g1.keeps)
  replace Fb := Lib.hid (Fb.out.kept g1.keeps)
  replace G0 := Lib.hid (G0.out.trans g1)
  clear g1
  go_wp2_with fail
  go_ret
  exact ⟨rfl, G0.out⟩

/-- Two answers that are one fraction: the same signs and lengths, and both read. -/
theorem FracC.both {w : World} {V V' : Value} {q : Rat} (h : FracC w V q) (h' : FracC w V' q) : ∃ b A A' n c c' C C' m d d' N D, V = .agg #[.bool b, .slice A n c, .slice C m d] ∧ V' = .agg #[.bool b, .slice A' n c', .slice C' m d'] ∧
    Hid (Num 4294967296 .u32 w (.slice A n c) N n) ∧ Hid (Num 4294967296 .u32 w (.slice A' n c') N n) ∧ Hid (Num 4294967296 .u32 w (.slice C m d) D m) ∧ Hid (Num 4294967296 .u32 w (.slice C' m d') D m) := by
  obtain ⟨va, vd, rfl, h1, h2, -⟩ := h
  obtain ⟨va', vd', rfl, h1', h2', -⟩ := h'
  obtain ⟨A, c, rfl, -⟩ := id h1
  obtain ⟨C, d, rfl, -⟩ := id h2
  obtain ⟨A', c', rfl, -⟩ := id h1'
  obtain ⟨C', d', rfl, -⟩ := id h2'
  exact ⟨_, A, A', _, c, c', C, C', _, d, d', _, _, rfl, rfl, h1, h1', h2, h2'⟩

set_option maxRecDepth 100000 in
set_option maxHeartbeats 4000000 in
theorem r4same_yes (Va Vb : Value) (q : Rat) (w : World) (ha : FracC w Va q) (hb : FracC w Vb q) :
    Calls Try.prog 46 #[Va, Vb] w fun e w' => e = .returned (.bool true) ∧ Grew w w' := by
  obtain ⟨b1, A1, A2, n1, c1, c2, C1, C2, m1, d1, d2, N, D, rfl, rfl, Fa, Fb, Fc, Fd⟩ := ha.both hb
  clear ha hb
  go_enter Try.func46, Try.ntmps46
  go_wp2_with fail
  refine gen_calls ?_
  intro W0 hW0
  have G0 : Grew w W0 := by rw [hW0]; exact ((Grew.refl w).alloc _).alloc _
  have P : Box3 W0 (w.heap.size) 0 (.bool b1) (.slice A1 n1 c1) (.slice C1 m1 d1) := by rw [hW0]; exact ⟨by simp [go_sem], by simp [go_sem], by simp [go_sem]⟩
  replace P := Lib.hid P
  have Q : Box3 W0 (w.heap.size + 1) 0 (.bool b1) (.slice A2 n1 c2) (.slice C2 m1 d2) := by rw [hW0]; exact ⟨by simp [go_sem], by simp [go_sem], by simp [go_sem]⟩
  replace Q := Lib.hid Q
  have z0 : w.heap.size < W0.heap.size := by rw [hW0]; simp <;> omega
  replace z0 := Lib.hid z0
  have z1 : w.heap.size + 1 < W0.heap.size := by rw [hW0]; simp <;> omega
  replace z1 := Lib.hid z1
  clear hW0
  replace Fa := Lib.hid (Fa.out.kept G0.keeps)
  replace Fb := Lib.hid (Fb.out.kept G0.keeps)
  replace Fc := Lib.hid (Fc.out.kept G0.keeps)
  replace Fd := Lib.hid (Fd.out.kept G0.keeps)
  replace G0 := Lib.hid G0
  refine (r2same_yes b1 A1 A2 N n1 c1 c2 _ Fa.out Fb.out).mono ?_
  rintro e w1 ⟨rfl, g1⟩
  replace P := Lib.hid (P.out.grew g1)
  replace Q := Lib.hid (Q.out.grew g1)
  replace z0 := Lib.hid (lt_grew z0.out g1)
  replace z1 := Lib.hid (lt_grew z1.out g1)
  replace Fa := Lib.hid (Fa.out.kept g1.keeps)
  replace Fb := Lib.hid (Fb.out.kept g1.keeps)
  replace Fc := Lib.hid (Fc.out.kept g1.keeps)
  replace Fd := Lib.hid (Fd.out.kept g1.keeps)
  replace G0 := Lib.hid (G0.out.trans g1)
  clear g1
  obtain ⟨P0, P1, P2⟩ := P.out
  obtain ⟨Q0, Q1, Q2⟩ := Q.out
  go_wp2_with fail
  clear P0 P1 P2 Q0 Q1 Q2
  refine (r1same_yes C1 C2 D m1 d1 d2 _ Fc.out Fd.out).mono ?_
  rintro e w2 ⟨rfl, g2⟩
  replace P := Lib.hid (P.out.grew g2)
  replace Q := Lib.hid (Q.out.grew g2)
  replace z0 := Lib.hid (lt_grew z0.out g2)
  replace z1 := Lib.hid (lt_grew z1.out g2)
  replace Fa := Lib.hid (Fa.out.kept g2.keeps)
  replace Fb := Lib.hid (Fb.out.kept g2.keeps)
  replace Fc := Lib.hid (Fc.out.kept g2.keeps)
  replace Fd := Lib.hid (Fd.out.kept g2.keeps)
  replace G0 := Lib.hid (G0.out.trans g2)
  clear g2
  go_wp2_with fail
  go_ret
  exact ⟨rfl, G0.out⟩

set_option maxRecDepth 100000 in
set_option maxHeartbeats 4000000 in
theorem r5same_yes (Va Vb : Value) (x y : Rat) (w : World) (ha : SpotC w Va x y) (hb : SpotC w Vb x y) :
    Calls Try.prog 24 #[Va, Vb] w fun e w' => e = .returned (.bool true) ∧ Grew w w' := by
  obtain ⟨b1, A1, n1, c1, C1, m1, d1, b2, A2, n2, c2, C2, m2, d2, rfl, Fa, Fb, -⟩ := ha.laid
  obtain ⟨b3, A3, n3, c3, C3, m3, d3, b4, A4, n4, c4, C4, m4, d4, rfl, Fc, Fd, -⟩ := hb.laid
  clear ha hb
  go_enter Try.func24, Try.ntmps24
  go_wp2_with fail
  refine gen_calls ?_
  intro W0 hW0
  have G0 : Grew w W0 := by rw [hW0]; exact ((Grew.refl w).alloc _).alloc _
  have P : Box3 W0 (w.heap.size) 0 (.bool b1) (.slice A1 n1 c1) (.slice C1 m1 d1) := by rw [hW0]; exact ⟨by simp [go_sem], by simp [go_sem], by simp [go_sem]⟩
  replace P := Lib.hid P
  have Py : Box3 W0 (w.heap.size) 3 (.bool b2) (.slice A2 n2 c2) (.slice C2 m2 d2) := by rw [hW0]; exact ⟨by simp [go_sem], by simp [go_sem], by simp [go_sem]⟩
  replace Py := Lib.hid Py
  have Q : Box3 W0 (w.heap.size + 1) 0 (.bool b3) (.slice A3 n3 c3) (.slice C3 m3 d3) := by rw [hW0]; exact ⟨by simp [go_sem], by simp [go_sem], by simp [go_sem]⟩
  replace Q := Lib.hid Q
  have Qy : Box3 W0 (w.heap.size + 1) 3 (.bool b4) (.slice A4 n4 c4) (.slice C4 m4 d4) := by rw [hW0]; exact ⟨by simp [go_sem], by simp [go_sem], by simp [go_sem]⟩
  replace Qy := Lib.hid Qy
  have z0 : w.heap.size < W0.heap.size := by rw [hW0]; simp <;> omega
  replace z0 := Lib.hid z0
  have z1 : w.heap.size + 1 < W0.heap.size := by rw [hW0]; simp <;> omega
  replace z1 := Lib.hid z1
  clear hW0
  replace Fa := Lib.hid (Fa.out.kept G0.keeps)
  replace Fb := Lib.hid (Fb.out.kept G0.keeps)
  replace Fc := Lib.hid (Fc.out.kept G0.keeps)
  replace Fd := Lib.hid (Fd.out.kept G0.keeps)
  replace G0 := Lib.hid G0
  refine (r4same_yes _ _ x _ Fa.out Fc.out).mono ?_
  rintro e w1 ⟨rfl, g1⟩
  replace P := Lib.hid (P.out.grew g1)
  replace Py := Lib.hid (Py.out.grew g1)
  replace Q := Lib.hid (Q.out.grew g1)
  replace Qy := Lib.hid (Qy.out.grew g1)
  replace z0 := Lib.hid (lt_grew z0.out g1)
  replace z1 := Lib.hid (lt_grew z1.out g1)
  replace Fa := Lib.hid (Fa.out.kept g1.keeps)
  replace Fb := Lib.hid (Fb.out.kept g1.keeps)
  replace Fc := Lib.hid (Fc.out.kept g1.keeps)
  replace Fd := Lib.hid (Fd.out.kept g1.keeps)
  replace G0 := Lib.hid (G0.out.trans g1)
  clear g1
  obtain ⟨P0, P1, P2⟩ := P.out
  obtain ⟨Py0, Py1, Py2⟩ := Py.out
  obtain ⟨Q0, Q1, Q2⟩ := Q.out
  obtain ⟨Qy0, Qy1, Qy2⟩ := Qy.out
  go_wp2_with fail
  clear P0 P1 P2 Py0 Py1 Py2 Q0 Q1 Q2 Qy0 Qy1 Qy2
  refine (r4same_yes _ _ y _ Fb.out Fd.out).mono ?_
  rintro e w2 ⟨rfl, g2⟩
  replace P := Lib.hid (P.out.grew g2)
  replace Py := Lib.hid (Py.out.grew g2)
  replace Q := Lib.hid (Q.out.grew g2)
  replace Qy := Lib.hid (Qy.out.grew g2)
  replace z0 := Lib.hid (lt_grew z0.out g2)
  replace z1 := Lib.hid (lt_grew z1.out g2)
  replace Fa := Lib.hid (Fa.out.kept g2.keeps)
  replace Fb := Lib.hid (Fb.out.kept g2.keeps)
  replace Fc := Lib.hid (Fc.out.kept g2.keeps)
  replace Fd := Lib.hid (Fd.out.kept g2.keeps)
  replace G0 := Lib.hid (G0.out.trans g2)
  clear g2
  go_wp2_with fail
  go_ret
  exact ⟨rfl, G0.out⟩
end Go.Proofs.Ythhgogpglocjdaa
