/- whole.Sub. Condition: what comes in reads; fewer than 2^39 words. whole.Of. Condition: an int. whole.Cmp. Condition: what comes in reads; fewer than 2^39 words. whole.Cmp, the walk. Condition: what comes in reads; fewer than 2^39 words. -/
import Derived.Test.YtngbcbncllfblaaGreatJWhole6
namespace Go.Proofs.YtngbcbncllfblaaGreat
open Go.RowKit

end Go.Proofs.YtngbcbncllfblaaGreat
namespace Go.Proofs.YtngbcbncllfblaaGreat
open Go.RowKit

set_option maxRecDepth 100000 in
set_option maxHeartbeats 2000000 in
theorem wof_pos (N : Nat) (w : World) (h : N < 9223372036854775808) :
    Calls Tryz.prog 109 #[.int .i64 (N : Int)] w fun e w' => ∃ V, e = .returned V ∧ Whl w' V (sgn false N) ∧ Grew w w' := by
  have hb : (N : Int) ≤ 9223372036854775807 := by omega
  go_enter Tryz.func109, Tryz.ntmps109
  go_wp2_with fail
  refine (of_any _ N _ rfl (by omega)).mono ?_
  rintro e w1 ⟨v1, rfl, h1, hG1⟩
  go_wp2_with fail
  refine (clean_any _ _ N _ h1).mono ?_
  rintro e w2 ⟨V, rfl, hV, hG2⟩
  have hGe := hG1.trans hG2
  obtain ⟨v2, rfl, hV2⟩ := id hV
  obtain ⟨A2, c2, rfl, -⟩ := id hV2
  obtain ⟨hc, hf⟩ := hGe.olds
  have rr0 : w2.cell? ⟨w.heap.size, 0, none⟩ = some (.bool false) := by rw [hc _ _ (by simp)]; simp [go_sem]
  have rr1 : w2.cell? ⟨w.heap.size, 1, none⟩ = some (.slice none 0 0) := by rw [hc _ _ (by simp)]; simp [go_sem]
  have zz0 : w2.frozen? ⟨w.heap.size, 0, none⟩ = false := by rw [hf _ _ (by simp)]; simp [go_sem]
  have zz1 : w2.frozen? ⟨w.heap.size, 1, none⟩ = false := by rw [hf _ _ (by simp)]; simp [go_sem]
  clear hc hf
  have hs0 : ∀ u, (w2.setCell ⟨w.heap.size, 0, none⟩ u).cell? ⟨w.heap.size, 0, none⟩ = some u := fun u => cell_set rr0 u
  have hs1 : ∀ u x, ((w2.setCell ⟨w.heap.size, 0, none⟩ u).setCell ⟨w.heap.size, 1, none⟩ x).cell? ⟨w.heap.size, 1, none⟩ = some x := fun u x => cell_set (u := .slice none 0 0) (by rw [World.cell?_setCell_other _ _ _ _ (by simp)]; exact rr1) x
  have hV3 : Whl ((w2.setCell ⟨w.heap.size, 0, none⟩ (.bool (decide (sgn false N < 0)))).setCell ⟨w.heap.size, 1, none⟩ (.slice A2 (len 4294967296 (sgn false N).natAbs) c2)) (.agg #[.bool (decide (sgn false N < 0)), .slice A2 (len 4294967296 (sgn false N).natAbs) c2]) (sgn false N) :=
    ⟨_, rfl, (hV2.setCell (by rw [rr0]; simp) _).setCell (by rw [World.cell?_setCell_other _ _ _ _ (by simp), rr1]; simp) _⟩
  have HV := Lib.hid hV3
  clear hV3 hV2 hV
  go_wp2_with fail
  exact bodyPost_ret (v := .agg #[.bool (decide (sgn false N < 0)), .slice A2 (len 4294967296 (sgn false N).natAbs) c2]) (by simp [results, Tryz.results109, go_sem, hs0, hs1]) rfl ⟨_, rfl, HV.out, ((((Grew.refl w).alloc _).trans hGe).setCell (by simp) _).setCell (by simp) _⟩

set_option maxRecDepth 100000 in
set_option maxHeartbeats 2000000 in
theorem wof_neg (x : Int) (K : Nat) (w : World) (h : K < 9223372036854775808) (hx : x = -(K : Int) - 1) :
    Calls Tryz.prog 109 #[.int .i64 x] w fun e w' => ∃ V, e = .returned V ∧ Whl w' V (sgn true (K + 1)) ∧ Grew w w' := by
  have q0 : x < 0 := by omega
  have q1 : -9223372036854775808 ≤ x := by omega
  have HX := Lib.hid hx
  clear hx
  go_enter Tryz.func109, Tryz.ntmps109
  go_wp2_with fail
  refine (of_any _ (K + 1) _ (by have := HX.out; omega) (by omega)).mono ?_
  rintro e w1 ⟨v1, rfl, h1, hG1⟩
  go_wp2_with fail
  refine (clean_any _ _ (K + 1) _ h1).mono ?_
  rintro e w2 ⟨V, rfl, hV, hG2⟩
  have hGe := hG1.trans hG2
  obtain ⟨v2, rfl, hV2⟩ := id hV
  obtain ⟨A2, c2, rfl, -⟩ := id hV2
  obtain ⟨hc, hf⟩ := hGe.olds
  have rr0 : w2.cell? ⟨w.heap.size, 0, none⟩ = some (.bool false) := by rw [hc _ _ (by simp)]; simp [go_sem]
  have rr1 : w2.cell? ⟨w.heap.size, 1, none⟩ = some (.slice none 0 0) := by rw [hc _ _ (by simp)]; simp [go_sem]
  have zz0 : w2.frozen? ⟨w.heap.size, 0, none⟩ = false := by rw [hf _ _ (by simp)]; simp [go_sem]
  have zz1 : w2.frozen? ⟨w.heap.size, 1, none⟩ = false := by rw [hf _ _ (by simp)]; simp [go_sem]
  clear hc hf
  have hs0 : ∀ u, (w2.setCell ⟨w.heap.size, 0, none⟩ u).cell? ⟨w.heap.size, 0, none⟩ = some u := fun u => cell_set rr0 u
  have hs1 : ∀ u x, ((w2.setCell ⟨w.heap.size, 0, none⟩ u).setCell ⟨w.heap.size, 1, none⟩ x).cell? ⟨w.heap.size, 1, none⟩ = some x := fun u x => cell_set (u := .slice none 0 0) (by rw [World.cell?_setCell_other _ _ _ _ (by simp)]; exact rr1) x
  have hV3 : Whl ((w2.setCell ⟨w.heap.size, 0, none⟩ (.bool (decide (sgn true (K + 1) < 0)))).setCell ⟨w.heap.size, 1, none⟩ (.slice A2 (len 4294967296 (sgn true (K + 1)).natAbs) c2)) (.agg #[.bool (decide (sgn true (K + 1) < 0)), .slice A2 (len 4294967296 (sgn true (K + 1)).natAbs) c2]) (sgn true (K + 1)) :=
    ⟨_, rfl, (hV2.setCell (by rw [rr0]; simp) _).setCell (by rw [World.cell?_setCell_other _ _ _ _ (by simp), rr1]; simp) _⟩
  have HV := Lib.hid hV3
  clear hV3 hV2 hV
  go_wp2_with fail
  exact bodyPost_ret (v := .agg #[.bool (decide (sgn true (K + 1) < 0)), .slice A2 (len 4294967296 (sgn true (K + 1)).natAbs) c2]) (by simp [results, Tryz.results109, go_sem, hs0, hs1]) rfl ⟨_, rfl, HV.out, ((((Grew.refl w).alloc _).trans hGe).setCell (by simp) _).setCell (by simp) _⟩

theorem wof_any (x : Int) (w : World) (h0 : -9223372036854775808 ≤ x) (h1 : x ≤ 9223372036854775807) :
    Calls Tryz.prog 109 #[.int .i64 x] w fun e w' => ∃ V, e = .returned V ∧ Whl w' V x ∧ Grew w w' := by
  rcases Int.lt_or_le x 0 with h | h
  · obtain ⟨K, hK⟩ : ∃ K : Nat, x = -(K : Int) - 1 := ⟨(-x - 1).toNat, by omega⟩
    have := wof_neg x K w (by omega) hK
    rw [show sgn true (K + 1) = x from by unfold sgn; simp; omega] at this
    exact this
  · obtain ⟨N, rfl⟩ := Int.eq_ofNat_of_zero_le h
    exact wof_pos N w (by omega)
end Go.Proofs.YtngbcbncllfblaaGreat
namespace Go.Proofs.YtngbcbncllfblaaGreat
open Go.RowKit

/-- How two whole numbers stand. -/
def cmpZ (a b : Int) : Int := if a < b then -1 else if b < a then 1 else 0

theorem cmpZ_sg_lt {a b : Int} (h : sg a < sg b) : cmpZ a b = -1 := by
  unfold sg at h; unfold cmpZ
  rw [if_pos]
  split at h <;> split at h <;> (try split at h) <;> (try split at h) <;> omega
theorem cmpZ_sg_gt {a b : Int} (h : sg b < sg a) : cmpZ a b = 1 := by
  unfold sg at h; unfold cmpZ
  have : b < a := by split at h <;> split at h <;> (try split at h) <;> (try split at h) <;> omega
  rw [if_neg (by omega), if_pos this]
theorem cmpZ_pos {na nb : Bool} {N M : Nat} (h : sg (sgn na N) = sg (sgn nb M)) (h0 : ¬ sg (sgn na N) < 0) : cmpZ (sgn na N) (sgn nb M) = cmpN N M := by
  unfold sg sgn at *; unfold cmpZ cmpN
  cases na <;> cases nb <;> simp at * <;> (repeat' split at h) <;> (repeat' split) <;> omega

theorem cmpZ_neg {na nb : Bool} {N M : Nat} (h : sg (sgn na N) = sg (sgn nb M)) (h0 : sg (sgn na N) < 0) : cmpZ (sgn na N) (sgn nb M) = cmpN M N := by
  unfold sg sgn at *; unfold cmpZ cmpN
  cases na <;> cases nb <;> simp at * <;> (repeat' split at h) <;> (repeat' split) <;> omega
end Go.Proofs.YtngbcbncllfblaaGreat
namespace Go.Proofs.YtngbcbncllfblaaGreat
open Go.RowKit

set_option maxRecDepth 100000 in
set_option maxHeartbeats 4000000 in
theorem wcmp_any (na nb : Bool) (va vb : Value) (N M n m : Nat) (w : World) (ha : Num 4294967296 .u32 w va N n) (hb : Num 4294967296 .u32 w vb M m) (hs : len 4294967296 N < 549755813888 ∧ len 4294967296 M < 549755813888) :
    Calls Tryz.prog 148 #[.agg #[.bool na, va], .agg #[.bool nb, vb]] w fun e w' => e = .returned (.int .i64 (cmpZ (sgn na N) (sgn nb M))) ∧ Grew w w' := by
  obtain ⟨A, ca, rfl, -⟩ := id ha
  obtain ⟨C, cb, rfl, -⟩ := id hb
  have Ha := Lib.hid ha
  have Hb := Lib.hid hb
  clear ha hb
  go_enter Tryz.func148, Tryz.ntmps148
  go_wp2_with fail
  have hG0 : Grew w ((w.alloc (.cells #[.bool na, .slice A n ca] 48)).alloc (.cells #[.bool nb, .slice C m cb] 48)) := ((Grew.refl w).alloc _).alloc _
  have f : ∀ W0, W0 = ((w.alloc (.cells #[.bool na, .slice A n ca] 48)).alloc (.cells #[.bool nb, .slice C m cb] 48)) →
      W0.cell? ⟨w.heap.size, 0, none⟩ = some (.bool na) ∧ W0.cell? ⟨w.heap.size, 1, none⟩ = some (.slice A n ca) ∧ W0.cell? ⟨w.heap.size + 1, 0, none⟩ = some (.bool nb) ∧ W0.cell? ⟨w.heap.size + 1, 1, none⟩ = some (.slice C m cb) := by
    rintro W0 rfl
    refine ⟨by simp [go_sem], by simp [go_sem], by simp [go_sem], by simp [go_sem]⟩
  generalize hW0 : ((w.alloc (.cells #[.bool na, .slice A n ca] 48)).alloc (.cells #[.bool nb, .slice C m cb] 48)) = W0 at *
  obtain ⟨b0, b1, b2, b3⟩ := f W0 rfl
  clear f hW0
  have ha0 := Lib.hid (Ha.out.grew hG0)
  have hb0 := Lib.hid (Hb.out.grew hG0)
  go_region_held3 (fun w' => w'.cell? ⟨w.heap.size, 0, none⟩ = some (.bool na) ∧ w'.cell? ⟨w.heap.size, 1, none⟩ = some (.slice A n ca) ∧ w'.cell? ⟨w.heap.size + 1, 0, none⟩ = some (.bool nb) ∧ w'.cell? ⟨w.heap.size + 1, 1, none⟩ = some (.slice C m cb))
    (first | exact ⟨b0, b1, b2, b3⟩ | exact ⟨hG1.cell b0, hG1.cell b1, hG1.cell b2, hG1.cell b3⟩ | exact ⟨(hG1.trans hG2).cell b0, (hG1.trans hG2).cell b1, (hG1.trans hG2).cell b2, (hG1.trans hG2).cell b3⟩)
    (first | (go_at_call_of 147 (Value.agg #[.bool na, .slice A n ca]); refine (sign_any _ _ N _ _ (ha0.out.grew (Grew.refl _).drew) (by omega)).mono ?_; rintro e w1 ⟨rfl, hG1⟩) | (go_at_call 147; refine (sign_any _ _ M _ _ ((hb0.out.grew (Grew.refl _).drew).grew hG1) (by omega)).mono ?_; rintro e w2 ⟨rfl, hG2⟩))
  have hG12 := (hG0.drew.trans hG1).trans hG2
  have e1 := (hG1.trans hG2).cell b1
  have e3 := (hG1.trans hG2).cell b3
  have ha2 := Lib.hid ((ha0.out.grew (Grew.refl _).drew).grew (hG1.trans hG2))
  have hb2 := Lib.hid ((hb0.out.grew (Grew.refl _).drew).grew (hG1.trans hG2))
  have k1 := Lib.hid (cmpZ_sg_lt (a := sgn na N) (b := sgn nb M))
  have k2 := Lib.hid (cmpZ_sg_gt (a := sgn na N) (b := sgn nb M))
  have k3 := Lib.hid (cmpZ_pos (na := na) (nb := nb) (N := N) (M := M))
  have k4 := Lib.hid (cmpZ_neg (na := na) (nb := nb) (N := N) (M := M))
  clear b0 b1 b2 b3 ha0 hb0
  generalize sg (sgn na N) = s1 at *
  generalize sg (sgn nb M) = s2 at *
  rcases Int.lt_trichotomy s1 s2 with h | h | h
  · have r1 := Lib.hid (k1.out h)
    go_wp2_with fail
    go_ret
    exact ⟨by rw [r1.out]; rfl, hG12⟩
  · subst h
    by_cases hneg : s1 < 0
    · have r1 := Lib.hid (k4.out rfl hneg)
      go_wp2_with fail
      refine (cmp_any _ _ _ _ _ _ _ hb2.out ha2.out).mono ?_
      rintro e w3 ⟨rfl, hG3⟩
      go_wp2_with fail
      go_ret
      exact ⟨by rw [r1.out]; rfl, hG12.trans hG3⟩
    · have r1 := Lib.hid (k3.out rfl hneg)
      go_wp2_with fail
      refine (cmp_any _ _ _ _ _ _ _ ha2.out hb2.out).mono ?_
      rintro e w3 ⟨rfl, hG3⟩
      go_wp2_with fail
      go_ret
      exact ⟨by rw [r1.out]; rfl, hG12.trans hG3⟩
  · have r1 := Lib.hid (k2.out h)
    have h' : ¬ s1 < s2 := by omega
    go_wp2_with fail
    go_ret
    exact ⟨by rw [r1.out]; rfl, hG12⟩
end Go.Proofs.YtngbcbncllfblaaGreat
