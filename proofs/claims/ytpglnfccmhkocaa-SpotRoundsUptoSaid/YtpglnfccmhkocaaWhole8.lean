/- whole.Of. Condition: an int. -/
import Derived.Test.YtpglnfccmhkocaaWhole7
namespace Go.Proofs.Ytpglnfccmhkocaa
open Go.RowKit

set_option maxRecDepth 100000 in
set_option maxHeartbeats 2000000 in
theorem wof_pos (N : Nat) (w : World) (h : N < 9223372036854775808) :
    Calls Try.prog 50 #[.int .i64 (N : Int)] w fun e w' => ∃ V, e = .returned V ∧ Whl w' V (sgn false N) ∧ Grew w w' := by
  have hb : (N : Int) ≤ 9223372036854775807 := by omega
  go_enter Try.func50, Try.ntmps50
  go_wp2_with fail
  refine (of_any _ N _ rfl (by omega)).mono ?_
  rintro e w1 ⟨v1, rfl, h1, hG1⟩
  go_wp2_with fail
  refine (clean_any _ _ N _ h1).mono ?_
  rintro e w2 ⟨V, rfl, hV, hG2⟩
  have hGe := hG1.trans hG2
  obtain ⟨v2, rfl, hV2⟩ := id hV
  obtain ⟨A2, c2, rfl, -⟩ := id hV2
  obtain ⟨hc, hf⟩ := hGe.olds
  have rr0 : w2.cell? ⟨w.heap.size, 0, none⟩ = some (.bool false) := by rw [hc _ _ (by simp)]; simp [go_sem]
  have rr1 : w2.cell? ⟨w.heap.size, 1, none⟩ = some (.slice none 0 0) := by rw [hc _ _ (by simp)]; simp [go_sem]
  have zz0 : w2.frozen? ⟨w.heap.size, 0, none⟩ = false := by rw [hf _ _ (by simp)]; simp [go_sem]
  have zz1 : w2.frozen? ⟨w.heap.size, 1, none⟩ = false := by rw [hf _ _ (by simp)]; simp [go_sem]
  clear hc hf
  have hs0 : ∀ u, (w2.setCell ⟨w.heap.size, 0, none⟩ u).cell? ⟨w.heap.size, 0, none⟩ = some u := fun u => cell_set rr0 u
  have hs1 : ∀ u x, ((w2.setCell ⟨w.heap.size, 0, none⟩ u).setCell ⟨w.heap.size, 1, none⟩ x).cell? ⟨w.heap.size, 1, none⟩ = some x := fun u x => cell_set (u := .slice none 0 0) (by rw [World.cell?_setCell_other _ _ _ _ (by simp)]; exact rr1) x
  have hV3 : Whl ((w2.setCell ⟨w.heap.size, 0, none⟩ (.bool (decide (sgn false N < 0)))).setCell ⟨w.heap.size, 1, none⟩ (.slice A2 (len 4294967296 (sgn false N).natAbs) c2)) (.agg #[.bool (decide (sgn false N < 0)), .slice A2 (len 4294967296 (sgn false N).natAbs) c2]) (sgn false N) :=
    ⟨_, rfl, (hV2.setCell (by rw [rr0]; simp) _).setCell (by rw [World.cell?_setCell_other _ _ _ _ (by simp), rr1]; simp) _⟩
  have HV := Lib.hid hV3
  clear hV3 hV2 hV
  go_wp2_with fail
  exact bodyPost_ret (v := .agg #[.bool (decide (sgn false N < 0)), .slice A2 (len 4294967296 (sgn false N).natAbs) c2]) (by simp [results, Try.results50, go_sem, hs0, hs1]) rfl ⟨_, rfl, HV.out, ((((Grew.refl w).alloc _).trans hGe).setCell (by simp) _).setCell (by simp) _⟩

set_option maxRecDepth 100000 in
set_option maxHeartbeats 2000000 in
theorem wof_neg (x : Int) (K : Nat) (w : World) (h : K < 9223372036854775808) (hx : x = -(K : Int) - 1) :
    Calls Try.prog 50 #[.int .i64 x] w fun e w' => ∃ V, e = .returned V ∧ Whl w' V (sgn true (K + 1)) ∧ Grew w w' := by
  have q0 : x < 0 := by omega
  have q1 : -9223372036854775808 ≤ x := by omega
  have HX := Lib.hid hx
  clear hx
  go_enter Try.func50, Try.ntmps50
  go_wp2_with fail
  refine (of_any _ (K + 1) _ (by have := HX.out; omega) (by omega)).mono ?_
  rintro e w1 ⟨v1, rfl, h1, hG1⟩
  go_wp2_with fail
  refine (clean_any _ _ (K + 1) _ h1).mono ?_
  rintro e w2 ⟨V, rfl, hV, hG2⟩
  have hGe := hG1.trans hG2
  obtain ⟨v2, rfl, hV2⟩ := id hV
  obtain ⟨A2, c2, rfl, -⟩ := id hV2
  obtain ⟨hc, hf⟩ := hGe.olds
  have rr0 : w2.cell? ⟨w.heap.size, 0, none⟩ = some (.bool false) := by rw [hc _ _ (by simp)]; simp [go_sem]
  have rr1 : w2.cell? ⟨w.heap.size, 1, none⟩ = some (.slice none 0 0) := by rw [hc _ _ (by simp)]; simp [go_sem]
  have zz0 : w2.frozen? ⟨w.heap.size, 0, none⟩ = false := by rw [hf _ _ (by simp)]; simp [go_sem]
  have zz1 : w2.frozen? ⟨w.heap.size, 1, none⟩ = false := by rw [hf _ _ (by simp)]; simp [go_sem]
  clear hc hf
  have hs0 : ∀ u, (w2.setCell ⟨w.heap.size, 0, none⟩ u).cell? ⟨w.heap.size, 0, none⟩ = some u := fun u => cell_set rr0 u
  have hs1 : ∀ u x, ((w2.setCell ⟨w.heap.size, 0, none⟩ u).setCell ⟨w.heap.size, 1, none⟩ x).cell? ⟨w.heap.size, 1, none⟩ = some x := fun u x => cell_set (u := .slice none 0 0) (by rw [World.cell?_setCell_other _ _ _ _ (by simp)]; exact rr1) x
  have hV3 : Whl ((w2.setCell ⟨w.heap.size, 0, none⟩ (.bool (decide (sgn true (K + 1) < 0)))).setCell ⟨w.heap.size, 1, none⟩ (.slice A2 (len 4294967296 (sgn true (K + 1)).natAbs) c2)) (.agg #[.bool (decide (sgn true (K + 1) < 0)), .slice A2 (len 4294967296 (sgn true (K + 1)).natAbs) c2]) (sgn true (K + 1)) :=
    ⟨_, rfl, (hV2.setCell (by rw [rr0]; simp) _).setCell (by rw [World.cell?_setCell_other _ _ _ _ (by simp), rr1]; simp) _⟩
  have HV := Lib.hid hV3
  clear hV3 hV2 hV
  go_wp2_with fail
  exact bodyPost_ret (v := .agg #[.bool (decide (sgn true (K + 1) < 0)), .slice A2 (len 4294967296 (sgn true (K + 1)).natAbs) c2]) (by simp [results, Try.results50, go_sem, hs0, hs1]) rfl ⟨_, rfl, HV.out, ((((Grew.refl w).alloc _).trans hGe).setCell (by simp) _).setCell (by simp) _⟩

theorem wof_any (x : Int) (w : World) (h0 : -9223372036854775808 ≤ x) (h1 : x ≤ 9223372036854775807) :
    Calls Try.prog 50 #[.int .i64 x] w fun e w' => ∃ V, e = .returned V ∧ Whl w' V x ∧ Grew w w' := by
  rcases Int.lt_or_le x 0 with h | h
  · obtain ⟨K, hK⟩ : ∃ K : Nat, x = -(K : Int) - 1 := ⟨(-x - 1).toNat, by omega⟩
    have := wof_neg x K w (by omega) hK
    rw [show sgn true (K + 1) = x from by unfold sgn; simp; omega] at this
    exact this
  · obtain ⟨N, rfl⟩ := Int.eq_ofNat_of_zero_le h
    exact wof_pos N w (by omega)
end Go.Proofs.Ytpglnfccmhkocaa
