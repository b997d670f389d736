/- whole: numbers with a sign. Condition: what comes in reads; fewer than 2^39 words. -/
import Derived.Test.YtpglnfccmhkocaaGcd
import Derived.Handy
namespace Go.Proofs.Ytpglnfccmhkocaa
open Go.RowKit

/-- The number of a sign and a size. -/
def sgn (neg : Bool) (N : Nat) : Int := if neg then -(N : Int) else N

theorem sgn_neg (neg : Bool) (N : Nat) : decide (sgn neg N < 0) = (neg && decide (N ≠ 0)) := by
  unfold sgn
  cases neg
  · simp
  · simp only [Bool.true_and, if_true]
    by_cases h : N = 0
    · subst h; simp
    · rw [decide_eq_true h, decide_eq_true (by omega)]
theorem sgn_abs (neg : Bool) (N : Nat) : (sgn neg N).natAbs = N := by unfold sgn; cases neg <;> simp

theorem cell_set {w : World} {p : Addr} {u : Value} (h : w.cell? p = some u) (x : Value) : (w.setCell p x).cell? p = some x := by
  unfold World.cell? at *
  simp only [World.setCell, Array.getElem?_modify, if_true]
  split at h
  · rename_i c t f hb
    split at h
    · cases h
    · rename_i hs
      have hlt : p.off < c.size := (Array.getElem?_eq_some_iff.1 h).1
      simp [hb, hs, hlt]
  · cases h

/-- A store into a cell that holds no digit turns no number. -/
theorem Num.setCell {w : World} {B : Nat} {K : IntKind} {v : Value} {N n : Nat} (h : Num B K w v N n) {p : Addr} (hp : ∀ m, w.cell? p ≠ some (.int K m)) (u : Value) : Num B K (w.setCell p u) v N n := by
  obtain ⟨A, c, hv, h1, h2, h4, h3⟩ := h
  refine ⟨A, c, hv, h1, h2, h4, fun hn => ?_⟩
  obtain ⟨b, off, hA, hc⟩ := h3 hn
  refine ⟨b, off, hA, fun i hi => ?_⟩
  rw [World.cell?_setCell_other w p _ u (fun e => hp _ (by rw [e]; exact hc i hi))]
  exact hc i hi

/-- A whole number as it is answered: its sign (none of 0), its words without noughts. -/
def Whl (w : World) (V : Value) (z : Int) : Prop := ∃ v, V = .agg #[.bool (decide (z < 0)), v] ∧ Num 4294967296 .u32 w v z.natAbs (len 4294967296 z.natAbs)
theorem Whl.grew {w w' : World} {V : Value} {z : Int} (h : Whl w V z) (g : Grew w w') : Whl w' V z := by
  obtain ⟨v, e, hn⟩ := h
  exact ⟨v, e, hn.grew g⟩
theorem Whl.of_num {w : World} {v : Value} {neg : Bool} {N : Nat} (h : Num 4294967296 .u32 w v N (len 4294967296 N)) : Whl w (.agg #[.bool (neg && decide (N ≠ 0)), v]) (sgn neg N) :=
  ⟨v, by rw [sgn_neg], by rw [sgn_abs]; exact h⟩

set_option maxRecDepth 100000 in
set_option maxHeartbeats 1000000 in
theorem clean_any (neg : Bool) (v : Value) (N : Nat) (w : World) (h : Num 4294967296 .u32 w v N (len 4294967296 N)) :
    Calls Try.prog 72 #[.bool neg, v] w fun e w' => ∃ V, e = .returned V ∧ Whl w' V (sgn neg N) ∧ Grew w w' := by
  have hW := Whl.of_num (neg := neg) h
  obtain ⟨A, c, rfl, h1, h2, h3, h4⟩ := id h
  have hz : len 4294967296 N = 0 ↔ N = 0 := len_eq_zero (by omega)
  have HW := Lib.hid hW
  have Hz := Lib.hid hz
  clear h3 h4 hz hW h
  by_cases h0 : N = 0
  · have e0 : decide (N ≠ 0) = false := by simp [h0]
    rw [e0] at HW
    have hn0 := Hz.out.2 h0
    generalize len 4294967296 N = n at *
    subst hn0
    clear e0 h0
    cases neg
    all_goals
      go_enter Try.func72, Try.ntmps72
      go_wp2
      go_returns
      exact ⟨_, rfl, HW.out.grew ((Grew.refl w).alloc _), (Grew.refl w).alloc _⟩
  · have e0 : decide (N ≠ 0) = true := by simp [h0]
    rw [e0] at HW
    have hn0 : 0 < len 4294967296 N := by
      rcases Nat.eq_zero_or_pos (len 4294967296 N) with h | h
      · exact absurd (Hz.out.1 h) h0
      · exact h
    generalize len 4294967296 N = n at *
    clear e0 h0 Hz
    have hp : (0 : Int) < (n : Int) := by omega
    cases neg
    all_goals
      go_enter Try.func72, Try.ntmps72
      go_wp2
      go_returns
      exact ⟨_, rfl, HW.out.grew ((Grew.refl w).alloc _), (Grew.refl w).alloc _⟩

set_option maxRecDepth 100000 in
set_option maxHeartbeats 1000000 in
theorem make_any (neg : Bool) (v : Value) (N n : Nat) (w : World) (h : Num 4294967296 .u32 w v N n) (hs : len 4294967296 N < 1099511627776) :
    Calls Try.prog 70 #[.bool neg, v] w fun e w' => ∃ V, e = .returned V ∧ Whl w' V (sgn neg N) ∧ Grew w w' := by
  go_enter Try.func70, Try.ntmps70
  go_wp2_with fail
  refine (trim_any _ _ _ _ (h.grew ((Grew.refl w).alloc _)) hs).mono ?_
  rintro e w1 ⟨v1, rfl, h1, hG1⟩
  go_wp2_with fail
  refine (clean_any neg v1 N w1 h1).mono ?_
  rintro e w2 ⟨V, rfl, hV, hG2⟩
  obtain ⟨v2, rfl, hV2⟩ := id hV
  obtain ⟨A2, c2, rfl, -⟩ := id hV2
  have hG12 := hG1.trans hG2
  obtain ⟨hc, hf⟩ := hG12.olds
  have hc0 : w2.cell? ⟨w.heap.size, 0, none⟩ = some (.bool false) := by rw [hc _ _ (by simp)]; simp
  have hc1 : w2.cell? ⟨w.heap.size, 1, none⟩ = some (.slice none 0 0) := by rw [hc _ _ (by simp)]; simp
  have hf0 : w2.frozen? ⟨w.heap.size, 0, none⟩ = false := by rw [hf _ _ (by simp)]; simp
  have hf1 : w2.frozen? ⟨w.heap.size, 1, none⟩ = false := by rw [hf _ _ (by simp)]; simp
  have hs0 : ∀ u, (w2.setCell ⟨w.heap.size, 0, none⟩ u).cell? ⟨w.heap.size, 0, none⟩ = some u := fun u => cell_set hc0 u
  have hs1 : ∀ u x, ((w2.setCell ⟨w.heap.size, 0, none⟩ u).setCell ⟨w.heap.size, 1, none⟩ x).cell? ⟨w.heap.size, 1, none⟩ = some x := fun u x => cell_set (u := .slice none 0 0) (by rw [World.cell?_setCell_other _ _ _ _ (by simp)]; exact hc1) x
  clear hc hf
  have hV3 : Whl ((w2.setCell ⟨w.heap.size, 0, none⟩ (.bool (decide (sgn neg N < 0)))).setCell ⟨w.heap.size, 1, none⟩ (.slice A2 (len 4294967296 (sgn neg N).natAbs) c2)) (.agg #[.bool (decide (sgn neg N < 0)), .slice A2 (len 4294967296 (sgn neg N).natAbs) c2]) (sgn neg N) :=
    ⟨_, rfl, (hV2.setCell (by rw [hc0]; simp) _).setCell (by rw [World.cell?_setCell_other _ _ _ _ (by simp), hc1]; simp) _⟩
  have HV := Lib.hid hV3
  clear hV3 hV2 hV
  generalize decide (sgn neg N < 0) = bb at *
  go_wp2_with fail
  exact bodyPost_ret (v := .agg #[.bool bb, .slice A2 (len 4294967296 (sgn neg N).natAbs) c2]) (by simp [results, Try.results70, go_sem, hs0, hs1]) rfl ⟨_, rfl, HV.out, (((Grew.refl w).alloc _).trans hG12).setCell (Nat.le_refl _) _ |>.setCell (Nat.le_refl _) _⟩
end Go.Proofs.Ytpglnfccmhkocaa
