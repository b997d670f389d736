/- whole.Sub. Condition: what comes in reads; fewer than 2^39 words. -/
import Derived.Test.YtpglnfccmhkocaaWhole6
namespace Go.Proofs.Ytpglnfccmhkocaa
open Go.RowKit

set_option maxRecDepth 100000 in
set_option maxHeartbeats 2000000 in
theorem wsub_any (na nb : Bool) (va vb : Value) (N M n m : Nat) (w : World) (ha : Num 4294967296 .u32 w va N n) (hb : Num 4294967296 .u32 w vb M m) (hs : len 4294967296 N < 549755813888 ∧ len 4294967296 M < 549755813888) :
    Calls Try.prog 90 #[.agg #[.bool na, va], .agg #[.bool nb, vb]] w fun e w' => ∃ V, e = .returned V ∧ Whl w' V (sgn na N - sgn nb M) ∧ Grew w w' := by
  obtain ⟨A, ca, rfl, -⟩ := id ha
  obtain ⟨C, cb, rfl, -⟩ := id hb
  have Ha := Lib.hid ha
  have Hb := Lib.hid hb
  clear ha hb
  go_enter Try.func90, Try.ntmps90
  go_wp2_with fail
  refine (wadd_any na (!nb) _ _ N M _ _ _ (Ha.out.grew ((((Grew.refl w).alloc _).alloc _).alloc _)) (Hb.out.grew ((((Grew.refl w).alloc _).alloc _).alloc _)) hs).mono ?_
  rintro e w2 ⟨V, rfl, hV, hG2⟩
  obtain ⟨v2, rfl, hV2⟩ := id hV
  obtain ⟨A2, c2, rfl, -⟩ := id hV2
  obtain ⟨hc, hf⟩ := hG2.olds
  have rr0 : w2.cell? ⟨w.heap.size + 1 + 1, 0, none⟩ = some (.bool false) := by rw [hc _ _ (by simp)]; simp [go_sem]
  have rr1 : w2.cell? ⟨w.heap.size + 1 + 1, 1, none⟩ = some (.slice none 0 0) := by rw [hc _ _ (by simp)]; simp [go_sem]
  have zz0 : w2.frozen? ⟨w.heap.size + 1 + 1, 0, none⟩ = false := by rw [hf _ _ (by simp)]; simp [go_sem]
  have zz1 : w2.frozen? ⟨w.heap.size + 1 + 1, 1, none⟩ = false := by rw [hf _ _ (by simp)]; simp [go_sem]
  clear hc hf
  have hs0 : ∀ u, (w2.setCell ⟨w.heap.size + 1 + 1, 0, none⟩ u).cell? ⟨w.heap.size + 1 + 1, 0, none⟩ = some u := fun u => cell_set rr0 u
  have hs1 : ∀ u x, ((w2.setCell ⟨w.heap.size + 1 + 1, 0, none⟩ u).setCell ⟨w.heap.size + 1 + 1, 1, none⟩ x).cell? ⟨w.heap.size + 1 + 1, 1, none⟩ = some x := fun u x => cell_set (u := .slice none 0 0) (by rw [World.cell?_setCell_other _ _ _ _ (by simp)]; exact rr1) x
  have hV3 : Whl ((w2.setCell ⟨w.heap.size + 1 + 1, 0, none⟩ (.bool (decide ((sgn na N + sgn (!nb) M) < 0)))).setCell ⟨w.heap.size + 1 + 1, 1, none⟩ (.slice A2 (len 4294967296 ((sgn na N + sgn (!nb) M)).natAbs) c2)) (.agg #[.bool (decide ((sgn na N + sgn (!nb) M) < 0)), .slice A2 (len 4294967296 ((sgn na N + sgn (!nb) M)).natAbs) c2]) ((sgn na N + sgn (!nb) M)) :=
    ⟨_, rfl, (hV2.setCell (by rw [rr0]; simp) _).setCell (by rw [World.cell?_setCell_other _ _ _ _ (by simp), rr1]; simp) _⟩
  have HV := Lib.hid hV3
  clear hV3 hV2 hV
  go_wp2_with fail
  exact bodyPost_ret (v := .agg #[.bool (decide ((sgn na N + sgn (!nb) M) < 0)), .slice A2 (len 4294967296 ((sgn na N + sgn (!nb) M)).natAbs) c2]) (by simp [results, Try.results90, go_sem, hs0, hs1]) rfl ⟨_, rfl, by rw [Int.sub_eq_add_neg, ← sgn_not]; exact HV.out, ((((((Grew.refl w).alloc _).alloc _).alloc _).trans hG2).setCell (by simp; omega) _).setCell (by simp; omega) _⟩
end Go.Proofs.Ytpglnfccmhkocaa
