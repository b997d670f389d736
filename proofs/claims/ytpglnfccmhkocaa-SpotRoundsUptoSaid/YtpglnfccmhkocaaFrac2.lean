/- frac.parts. Condition: what comes in reads; fewer than 2^39 words. -/
import Derived.Test.YtpglnfccmhkocaaFrac1
namespace Go.Proofs.Ytpglnfccmhkocaa
open Go.RowKit

set_option maxRecDepth 100000 in
set_option maxHeartbeats 2000000 in
theorem parts_zero (neg : Bool) (va vd : Value) (N n m : Nat) (w : World) (ha : Num 4294967296 .u32 w va N n) (hd : Num 4294967296 .u32 w vd 0 m) :
    Calls Try.prog 32 #[.agg #[.bool neg, va, vd]] w fun e w' => ∃ V, e = .returned V ∧ Rat3 w' V 0 1 ∧ Grew w w' := by
  obtain ⟨A, ca, rfl, -⟩ := id ha
  obtain ⟨C, cd, rfl, -⟩ := id hd
  have Hd := Lib.hid hd
  clear ha hd
  go_enter Try.func32, Try.ntmps32
  go_wp2_with fail
  refine (trim_any _ _ _ _ (Hd.out.grew (((Grew.refl w).alloc _).alloc _)) (by rw [len_zero]; omega)).mono ?_
  rintro e w1 ⟨v1, rfl, h1, hG1⟩
  rw [len_zero] at h1
  obtain ⟨E, ce, rfl, -⟩ := id h1
  go_wp2_with fail
  refine (unit_any _).mono ?_
  rintro e w2 ⟨v2, rfl, h2, hG2⟩
  obtain ⟨F, cf, rfl, -⟩ := id h2
  have hGe := hG1.trans hG2
  obtain ⟨hc, hf⟩ := hGe.olds
  have rr0 : w2.cell? ⟨w.heap.size + 1, 0, none⟩ = some (.bool false) := by rw [hc _ _ (by simp)]; simp [go_sem]
  have rr1 : w2.cell? ⟨w.heap.size + 1, 1, none⟩ = some (.slice none 0 0) := by rw [hc _ _ (by simp)]; simp [go_sem]
  have rr2 : w2.cell? ⟨w.heap.size + 1, 2, none⟩ = some (.slice none 0 0) := by rw [hc _ _ (by simp)]; simp [go_sem]
  have zz0 : w2.frozen? ⟨w.heap.size + 1, 0, none⟩ = false := by rw [hf _ _ (by simp)]; simp [go_sem]
  have zz1 : w2.frozen? ⟨w.heap.size + 1, 1, none⟩ = false := by rw [hf _ _ (by simp)]; simp [go_sem]
  have zz2 : w2.frozen? ⟨w.heap.size + 1, 2, none⟩ = false := by rw [hf _ _ (by simp)]; simp [go_sem]
  clear hc hf
  have hs0 : ∀ u, (w2.setCell ⟨w.heap.size + 1, 0, none⟩ u).cell? ⟨w.heap.size + 1, 0, none⟩ = some u := fun u => cell_set rr0 u
  have ht1 : ∀ u, (w2.setCell ⟨w.heap.size + 1, 0, none⟩ u).cell? ⟨w.heap.size + 1, 1, none⟩ = some (.slice none 0 0) := fun u => by rw [World.cell?_setCell_other _ _ _ _ (by simp)]; exact rr1
  have hs1 : ∀ u x, ((w2.setCell ⟨w.heap.size + 1, 0, none⟩ u).setCell ⟨w.heap.size + 1, 1, none⟩ x).cell? ⟨w.heap.size + 1, 1, none⟩ = some x := fun u x => cell_set (ht1 u) x
  have ht2 : ∀ u x, ((w2.setCell ⟨w.heap.size + 1, 0, none⟩ u).setCell ⟨w.heap.size + 1, 1, none⟩ x).cell? ⟨w.heap.size + 1, 2, none⟩ = some (.slice none 0 0) := fun u x => by rw [World.cell?_setCell_other _ _ _ _ (by simp), World.cell?_setCell_other _ _ _ _ (by simp)]; exact rr2
  have hs2 : ∀ u x y, (((w2.setCell ⟨w.heap.size + 1, 0, none⟩ u).setCell ⟨w.heap.size + 1, 1, none⟩ x).setCell ⟨w.heap.size + 1, 2, none⟩ y).cell? ⟨w.heap.size + 1, 2, none⟩ = some y := fun u x y => cell_set (ht2 u x) y
  have keep3 : ∀ v N n u x y, Num 4294967296 .u32 w2 v N n → Num 4294967296 .u32 (((w2.setCell ⟨w.heap.size + 1, 0, none⟩ u).setCell ⟨w.heap.size + 1, 1, none⟩ x).setCell ⟨w.heap.size + 1, 2, none⟩ y) v N n :=
    fun v N n u x y h => ((h.setCell (by rw [rr0]; simp) u).setCell (by rw [ht1]; simp) x).setCell (by rw [ht2]; simp) y
  have HG1 := Lib.hid hG1
  have HG2 := Lib.hid hG2
  have HE := Lib.hid hGe
  have H2 := Lib.hid h2
  have K3 := Lib.hid keep3
  clear hG1 hG2 hGe h1 h2 keep3
  go_wp2_with fail
  exact bodyPost_ret (v := .agg #[.bool false, .slice none 0 0, .slice F (len 4294967296 1) cf]) (by simp [results, Try.results32, go_sem, hs0, hs1, hs2]) rfl
    ⟨_, rfl, ⟨_, _, rfl, Num.nil _ _ _, K3.out _ _ _ _ _ _ H2.out, by omega⟩, (((((((Grew.refl w).alloc _).alloc _).trans HE.out).setCell (by simp) _).setCell (by simp) _).setCell (by simp) _)⟩

set_option maxRecDepth 100000 in
set_option maxHeartbeats 2000000 in
theorem parts_pos (neg : Bool) (va vd : Value) (N D n m : Nat) (w : World) (ha : Num 4294967296 .u32 w va N n) (hd : Num 4294967296 .u32 w vd D m) (hD : D ≠ 0) (hs : len 4294967296 N < 549755813888 ∧ len 4294967296 D < 549755813888) :
    Calls Try.prog 32 #[.agg #[.bool neg, va, vd]] w fun e w' => ∃ V, e = .returned V ∧ Rat3 w' V (sgn neg N) D ∧ Grew w w' := by
  obtain ⟨A, ca, rfl, -⟩ := id ha
  obtain ⟨C, cd, rfl, -⟩ := id hd
  have Ha := Lib.hid ha
  have Hd := Lib.hid hd
  have hl0 : len 4294967296 D ≠ 0 := fun e => hD ((len_eq_zero (by omega)).1 e)
  clear ha hd
  have hG0 : Grew w ((w.alloc (.cells #[.bool neg, .slice A n ca, .slice C m cd] 26)).alloc (.cells #[.bool false, .slice none 0 0, .slice none 0 0] 54)) := ((Grew.refl w).alloc _).alloc _
  have HG0 := Lib.hid hG0
  clear hG0
  go_enter Try.func32, Try.ntmps32
  go_wp2_with fail
  refine (trim_any _ _ _ _ (Hd.out.grew HG0.out) (by omega)).mono ?_
  rintro e w1 ⟨v1, rfl, h1, hG1⟩
  obtain ⟨E, ce, rfl, -⟩ := id h1
  generalize hL : len 4294967296 D = L at *
  have HL := Lib.hid hL
  have hlb : ((L : Int) == 0) = false := by simp; omega
  clear hL
  obtain ⟨hc, hf⟩ := hG1.olds
  have c0 : w1.cell? ⟨w.heap.size, 0, none⟩ = some (.bool neg) := by rw [hc _ _ (by simp; omega)]; simp [go_sem]
  have c1 : w1.cell? ⟨w.heap.size, 1, none⟩ = some (.slice A n ca) := by rw [hc _ _ (by simp; omega)]; simp [go_sem]
  clear hc hf
  go_wp2_with fail
  refine (make_any _ _ N _ _ ((Ha.out.grew HG0.out).grew hG1) (by omega)).mono ?_
  rintro e w2 ⟨V, rfl, hV, hG2⟩
  obtain ⟨v2, rfl, hV2⟩ := id hV
  obtain ⟨F, cf, rfl, -⟩ := id hV2
  have hGe := hG1.trans hG2
  obtain ⟨hc, hf⟩ := hGe.olds
  have rr0 : w2.cell? ⟨w.heap.size + 1, 0, none⟩ = some (.bool false) := by rw [hc _ _ (by simp)]; simp [go_sem]
  have rr1 : w2.cell? ⟨w.heap.size + 1, 1, none⟩ = some (.slice none 0 0) := by rw [hc _ _ (by simp)]; simp [go_sem]
  have rr2 : w2.cell? ⟨w.heap.size + 1, 2, none⟩ = some (.slice none 0 0) := by rw [hc _ _ (by simp)]; simp [go_sem]
  have zz0 : w2.frozen? ⟨w.heap.size + 1, 0, none⟩ = false := by rw [hf _ _ (by simp)]; simp [go_sem]
  have zz1 : w2.frozen? ⟨w.heap.size + 1, 1, none⟩ = false := by rw [hf _ _ (by simp)]; simp [go_sem]
  have zz2 : w2.frozen? ⟨w.heap.size + 1, 2, none⟩ = false := by rw [hf _ _ (by simp)]; simp [go_sem]
  clear hc hf
  have hs0 : ∀ u, (w2.setCell ⟨w.heap.size + 1, 0, none⟩ u).cell? ⟨w.heap.size + 1, 0, none⟩ = some u := fun u => cell_set rr0 u
  have ht1 : ∀ u, (w2.setCell ⟨w.heap.size + 1, 0, none⟩ u).cell? ⟨w.heap.size + 1, 1, none⟩ = some (.slice none 0 0) := fun u => by rw [World.cell?_setCell_other _ _ _ _ (by simp)]; exact rr1
  have hs1 : ∀ u x, ((w2.setCell ⟨w.heap.size + 1, 0, none⟩ u).setCell ⟨w.heap.size + 1, 1, none⟩ x).cell? ⟨w.heap.size + 1, 1, none⟩ = some x := fun u x => cell_set (ht1 u) x
  have ht2 : ∀ u x, ((w2.setCell ⟨w.heap.size + 1, 0, none⟩ u).setCell ⟨w.heap.size + 1, 1, none⟩ x).cell? ⟨w.heap.size + 1, 2, none⟩ = some (.slice none 0 0) := fun u x => by rw [World.cell?_setCell_other _ _ _ _ (by simp), World.cell?_setCell_other _ _ _ _ (by simp)]; exact rr2
  have hs2 : ∀ u x y, (((w2.setCell ⟨w.heap.size + 1, 0, none⟩ u).setCell ⟨w.heap.size + 1, 1, none⟩ x).setCell ⟨w.heap.size + 1, 2, none⟩ y).cell? ⟨w.heap.size + 1, 2, none⟩ = some y := fun u x y => cell_set (ht2 u x) y
  have keep3 : ∀ v N n u x y, Num 4294967296 .u32 w2 v N n → Num 4294967296 .u32 (((w2.setCell ⟨w.heap.size + 1, 0, none⟩ u).setCell ⟨w.heap.size + 1, 1, none⟩ x).setCell ⟨w.heap.size + 1, 2, none⟩ y) v N n :=
    fun v N n u x y h => ((h.setCell (by rw [rr0]; simp) u).setCell (by rw [ht1]; simp) x).setCell (by rw [ht2]; simp) y
  have HE := Lib.hid hGe
  have H1 := Lib.hid (h1.grew hG2)
  have H2 := Lib.hid hV2
  have K3 := Lib.hid keep3
  clear hG1 hG2 hGe h1 hV2 hV keep3
  go_wp2_with fail
  exact bodyPost_ret (v := .agg #[.bool (decide (sgn neg N < 0)), .slice F (len 4294967296 (sgn neg N).natAbs) cf, .slice E L ce]) (by simp [results, Try.results32, go_sem, hs0, hs1, hs2]) rfl
    ⟨_, rfl, ⟨_, _, rfl, K3.out _ _ _ _ _ _ H2.out, by rw [HL.out]; exact K3.out _ _ _ _ _ _ H1.out, hD⟩, (((((((Grew.refl w).alloc _).alloc _).trans HE.out).setCell (by simp) _).setCell (by simp) _).setCell (by simp) _)⟩
end Go.Proofs.Ytpglnfccmhkocaa
