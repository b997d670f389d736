/- whole.Cmp, the walk. Condition: what comes in reads; fewer than 2^39 words. -/
import Derived.Test.YtpglnfccmhkocaaWhole9
namespace Go.Proofs.Ytpglnfccmhkocaa
open Go.RowKit

set_option maxRecDepth 100000 in
set_option maxHeartbeats 4000000 in
theorem wcmp_any (na nb : Bool) (va vb : Value) (N M n m : Nat) (w : World) (ha : Num 4294967296 .u32 w va N n) (hb : Num 4294967296 .u32 w vb M m) (hs : len 4294967296 N < 549755813888 ∧ len 4294967296 M < 549755813888) :
    Calls Try.prog 34 #[.agg #[.bool na, va], .agg #[.bool nb, vb]] w fun e w' => e = .returned (.int .i64 (cmpZ (sgn na N) (sgn nb M))) ∧ Grew w w' := by
  obtain ⟨A, ca, rfl, -⟩ := id ha
  obtain ⟨C, cb, rfl, -⟩ := id hb
  have Ha := Lib.hid ha
  have Hb := Lib.hid hb
  clear ha hb
  go_enter Try.func34, Try.ntmps34
  go_wp2_with fail
  have hG0 : Grew w ((w.alloc (.cells #[.bool na, .slice A n ca] 24)).alloc (.cells #[.bool nb, .slice C m cb] 24)) := ((Grew.refl w).alloc _).alloc _
  have f : ∀ W0, W0 = ((w.alloc (.cells #[.bool na, .slice A n ca] 24)).alloc (.cells #[.bool nb, .slice C m cb] 24)) →
      W0.cell? ⟨w.heap.size, 0, none⟩ = some (.bool na) ∧ W0.cell? ⟨w.heap.size, 1, none⟩ = some (.slice A n ca) ∧ W0.cell? ⟨w.heap.size + 1, 0, none⟩ = some (.bool nb) ∧ W0.cell? ⟨w.heap.size + 1, 1, none⟩ = some (.slice C m cb) := by
    rintro W0 rfl
    refine ⟨by simp [go_sem], by simp [go_sem], by simp [go_sem], by simp [go_sem]⟩
  generalize hW0 : ((w.alloc (.cells #[.bool na, .slice A n ca] 24)).alloc (.cells #[.bool nb, .slice C m cb] 24)) = W0 at *
  obtain ⟨b0, b1, b2, b3⟩ := f W0 rfl
  clear f hW0
  have ha0 := Lib.hid (Ha.out.grew hG0)
  have hb0 := Lib.hid (Hb.out.grew hG0)
  go_region_held3 (fun w' => w'.cell? ⟨w.heap.size, 0, none⟩ = some (.bool na) ∧ w'.cell? ⟨w.heap.size, 1, none⟩ = some (.slice A n ca) ∧ w'.cell? ⟨w.heap.size + 1, 0, none⟩ = some (.bool nb) ∧ w'.cell? ⟨w.heap.size + 1, 1, none⟩ = some (.slice C m cb))
    (first | exact ⟨b0, b1, b2, b3⟩ | exact ⟨hG1.cell b0, hG1.cell b1, hG1.cell b2, hG1.cell b3⟩ | exact ⟨(hG1.trans hG2).cell b0, (hG1.trans hG2).cell b1, (hG1.trans hG2).cell b2, (hG1.trans hG2).cell b3⟩)
    (first | (go_at_call_of 33 (Value.agg #[.bool na, .slice A n ca]); refine (sign_any _ _ N _ _ (ha0.out.grew (Grew.refl _).drew) (by omega)).mono ?_; rintro e w1 ⟨rfl, hG1⟩) | (go_at_call 33; refine (sign_any _ _ M _ _ ((hb0.out.grew (Grew.refl _).drew).grew hG1) (by omega)).mono ?_; rintro e w2 ⟨rfl, hG2⟩))
  have hG12 := (hG0.drew.trans hG1).trans hG2
  have e1 := (hG1.trans hG2).cell b1
  have e3 := (hG1.trans hG2).cell b3
  have ha2 := Lib.hid ((ha0.out.grew (Grew.refl _).drew).grew (hG1.trans hG2))
  have hb2 := Lib.hid ((hb0.out.grew (Grew.refl _).drew).grew (hG1.trans hG2))
  have k1 := Lib.hid (cmpZ_sg_lt (a := sgn na N) (b := sgn nb M))
  have k2 := Lib.hid (cmpZ_sg_gt (a := sgn na N) (b := sgn nb M))
  have k3 := Lib.hid (cmpZ_pos (na := na) (nb := nb) (N := N) (M := M))
  have k4 := Lib.hid (cmpZ_neg (na := na) (nb := nb) (N := N) (M := M))
  clear b0 b1 b2 b3 ha0 hb0
  generalize sg (sgn na N) = s1 at *
  generalize sg (sgn nb M) = s2 at *
  rcases Int.lt_trichotomy s1 s2 with h | h | h
  · have r1 := Lib.hid (k1.out h)
    go_wp2_with fail
    go_ret
    exact ⟨by rw [r1.out]; rfl, hG12⟩
  · subst h
    by_cases hneg : s1 < 0
    · have r1 := Lib.hid (k4.out rfl hneg)
      go_wp2_with fail
      refine (cmp_any _ _ _ _ _ _ _ hb2.out ha2.out).mono ?_
      rintro e w3 ⟨rfl, hG3⟩
      go_wp2_with fail
      go_ret
      exact ⟨by rw [r1.out]; rfl, hG12.trans hG3⟩
    · have r1 := Lib.hid (k3.out rfl hneg)
      go_wp2_with fail
      refine (cmp_any _ _ _ _ _ _ _ ha2.out hb2.out).mono ?_
      rintro e w3 ⟨rfl, hG3⟩
      go_wp2_with fail
      go_ret
      exact ⟨by rw [r1.out]; rfl, hG12.trans hG3⟩
  · have r1 := Lib.hid (k2.out h)
    have h' : ¬ s1 < s2 := by omega
    go_wp2_with fail
    go_ret
    exact ⟨by rw [r1.out]; rfl, hG12⟩
end Go.Proofs.Ytpglnfccmhkocaa
