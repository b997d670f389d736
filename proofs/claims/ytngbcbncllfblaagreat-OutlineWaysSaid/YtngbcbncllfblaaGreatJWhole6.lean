/- whole.Mul. Condition: what comes in reads; fewer than 2^39 words. whole.Neg, whole.Of. Condition: what comes in reads; fewer than 2^39 words. whole.Add of two numbers of one sign. Condition: what comes in reads; fewer than 2^39 words. whole.Add of two numbers of two signs. Condition: what comes in reads; fewer than 2^39 words. -/
import Derived.Test.YtngbcbncllfblaaGreatJWhole2
namespace Go.Proofs.YtngbcbncllfblaaGreat
open Go.RowKit

theorem sgn_mul (na nb : Bool) (N M : Nat) : sgn (na != nb) (N * M) = sgn na N * sgn nb M := by
  unfold sgn
  cases na <;> cases nb <;> simp [Int.mul_neg, Int.neg_mul]

set_option maxRecDepth 100000 in
set_option maxHeartbeats 4000000 in
theorem wmul_any (na nb : Bool) (va vb : Value) (N M n m : Nat) (w : World) (ha : Num 4294967296 .u32 w va N n) (hb : Num 4294967296 .u32 w vb M m) (hs : len 4294967296 N + len 4294967296 M < 1099511627776) :
    Calls Tryz.prog 149 #[.agg #[.bool na, va], .agg #[.bool nb, vb]] w fun e w' => ∃ V, e = .returned V ∧ Whl w' V (sgn na N * sgn nb M) ∧ Grew w w' := by
  obtain ⟨A, ca, rfl, -⟩ := id ha
  obtain ⟨C, cb, rfl, -⟩ := id hb
  have Ha := Lib.hid ha
  have Hb := Lib.hid hb
  clear ha hb
  go_enter Tryz.func149, Tryz.ntmps149
  go_wp2_with fail
  have hG0 : Grew w (((w.alloc (.cells #[.bool na, .slice A n ca] 48)).alloc (.cells #[.bool nb, .slice C m cb] 48)).alloc (.cells #[.bool false, .slice none 0 0] 48)) := (((Grew.refl w).alloc _).alloc _).alloc _
  have f : ∀ W0, W0 = (((w.alloc (.cells #[.bool na, .slice A n ca] 48)).alloc (.cells #[.bool nb, .slice C m cb] 48)).alloc (.cells #[.bool false, .slice none 0 0] 48)) →
      W0.cell? ⟨w.heap.size, 0, none⟩ = some (.bool na) ∧ W0.cell? ⟨w.heap.size, 1, none⟩ = some (.slice A n ca) ∧ W0.cell? ⟨w.heap.size + 1, 0, none⟩ = some (.bool nb) ∧ W0.cell? ⟨w.heap.size + 1, 1, none⟩ = some (.slice C m cb) ∧
      W0.cell? ⟨w.heap.size + 1 + 1, 0, none⟩ = some (.bool false) ∧ W0.cell? ⟨w.heap.size + 1 + 1, 1, none⟩ = some (.slice none 0 0) ∧ W0.frozen? ⟨w.heap.size + 1 + 1, 0, none⟩ = false ∧ W0.frozen? ⟨w.heap.size + 1 + 1, 1, none⟩ = false ∧ w.heap.size + 1 + 1 < W0.heap.size := by
    rintro W0 rfl
    refine ⟨by simp [go_sem], by simp [go_sem], by simp [go_sem], by simp [go_sem], by simp [go_sem], by simp [go_sem], by simp [go_sem], by simp [go_sem], by simp [go_sem]⟩
  generalize hW0 : (((w.alloc (.cells #[.bool na, .slice A n ca] 48)).alloc (.cells #[.bool nb, .slice C m cb] 48)).alloc (.cells #[.bool false, .slice none 0 0] 48)) = W0 at *
  obtain ⟨b0, b1, b2, b3, r0, r1, z0, z1, hsz⟩ := f W0 rfl
  clear f hW0
  have ha0 := Lib.hid (Ha.out.grew hG0)
  have hb0 := Lib.hid (Hb.out.grew hG0)
  go_region_held3 (fun w' => w'.cell? ⟨w.heap.size, 0, none⟩ = some (.bool na) ∧ w'.cell? ⟨w.heap.size, 1, none⟩ = some (.slice A n ca) ∧ w'.cell? ⟨w.heap.size + 1, 0, none⟩ = some (.bool nb) ∧ w'.cell? ⟨w.heap.size + 1, 1, none⟩ = some (.slice C m cb))
    (first | exact ⟨b0, b1, b2, b3⟩ | exact ⟨hG1.cell b0, hG1.cell b1, hG1.cell b2, hG1.cell b3⟩ | exact ⟨(hG1.trans hG2).cell b0, (hG1.trans hG2).cell b1, (hG1.trans hG2).cell b2, (hG1.trans hG2).cell b3⟩ | (refine ⟨?_, ?_, ?_, ?_⟩ <;> (rw [World.cell?_setCell_other _ _ _ _ (by simp), World.cell?_setCell_other _ _ _ _ (by simp)]; first | exact (hG1.trans hG2).cell b0 | exact (hG1.trans hG2).cell b1 | exact (hG1.trans hG2).cell b2 | exact (hG1.trans hG2).cell b3)))
    (first | (go_at_call 208; refine (mul_any _ _ N M _ _ _ (ha0.out.grew (Grew.refl _).drew) (hb0.out.grew (Grew.refl _).drew) hs).mono ?_; rintro e w1 ⟨v1, rfl, h1, hG1⟩) | (go_at_call 150; refine (clean_any _ _ (N * M) _ h1).mono ?_; rintro e w2 ⟨V, rfl, hV, hG2⟩; obtain ⟨v2, rfl, hV2⟩ := id hV; obtain ⟨A2, c2, rfl, -⟩ := id hV2; have rr0 := (hG1.trans hG2).cell r0; have rr1 := (hG1.trans hG2).cell r1; have zz0 : w2.frozen? ⟨w.heap.size + 1 + 1, 0, none⟩ = false := ((hG1.trans hG2).below.frozen (p := ⟨w.heap.size + 1 + 1, 0, none⟩) hsz).trans z0; have zz1 : w2.frozen? ⟨w.heap.size + 1 + 1, 1, none⟩ = false := ((hG1.trans hG2).below.frozen (p := ⟨w.heap.size + 1 + 1, 1, none⟩) hsz).trans z1))
  have hs0 : ∀ u, (w2.setCell ⟨w.heap.size + 1 + 1, 0, none⟩ u).cell? ⟨w.heap.size + 1 + 1, 0, none⟩ = some u := fun u => cell_set rr0 u
  have hs1 : ∀ u x, ((w2.setCell ⟨w.heap.size + 1 + 1, 0, none⟩ u).setCell ⟨w.heap.size + 1 + 1, 1, none⟩ x).cell? ⟨w.heap.size + 1 + 1, 1, none⟩ = some x := fun u x => cell_set (u := .slice none 0 0) (by rw [World.cell?_setCell_other _ _ _ _ (by simp)]; exact rr1) x
  have hV3 : Whl ((w2.setCell ⟨w.heap.size + 1 + 1, 0, none⟩ (.bool (decide (sgn (!na == nb) (N * M) < 0)))).setCell ⟨w.heap.size + 1 + 1, 1, none⟩ (.slice A2 (len 4294967296 (sgn (!na == nb) (N * M)).natAbs) c2)) (.agg #[.bool (decide (sgn (!na == nb) (N * M) < 0)), .slice A2 (len 4294967296 (sgn (!na == nb) (N * M)).natAbs) c2]) (sgn (!na == nb) (N * M)) :=
    ⟨_, rfl, (hV2.setCell (by rw [rr0]; simp) _).setCell (by rw [World.cell?_setCell_other _ _ _ _ (by simp), rr1]; simp) _⟩
  have HV := Lib.hid hV3
  clear hV3 hV2 hV
  go_wp2_with fail
  exact bodyPost_ret (v := .agg #[.bool (decide (sgn (!na == nb) (N * M) < 0)), .slice A2 (len 4294967296 (sgn (!na == nb) (N * M)).natAbs) c2]) (by simp [results, Tryz.results149, go_sem, hs0, hs1]) rfl ⟨_, rfl, by rw [← sgn_mul]; exact HV.out, (((hG0.drew.trans hG1).trans hG2).setCell (by simp; omega) _).setCell (by simp; omega) _⟩
end Go.Proofs.YtngbcbncllfblaaGreat
namespace Go.Proofs.YtngbcbncllfblaaGreat
open Go.RowKit

theorem sgn_not (na : Bool) (N : Nat) : sgn (!na) N = -sgn na N := by
  unfold sgn; cases na <;> simp

end Go.Proofs.YtngbcbncllfblaaGreat
namespace Go.Proofs.YtngbcbncllfblaaGreat
open Go.RowKit

theorem sgn_add (na : Bool) (N M : Nat) : sgn na (N + M) = sgn na N + sgn na M := by
  unfold sgn; cases na <;> simp <;> omega

end Go.Proofs.YtngbcbncllfblaaGreat
namespace Go.Proofs.YtngbcbncllfblaaGreat
open Go.RowKit

end Go.Proofs.YtngbcbncllfblaaGreat
