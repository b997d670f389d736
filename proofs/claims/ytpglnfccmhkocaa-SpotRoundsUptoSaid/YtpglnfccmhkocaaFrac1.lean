/- frac.unit, frac.isUnit, frac.parts. Condition: what comes in reads; fewer than 2^39 words. -/
import Derived.Test.YtpglnfccmhkocaaWhole10
namespace Go.Proofs.Ytpglnfccmhkocaa
open Go.RowKit

/-- A whole number over another one that isn't 0, as three cells. -/
def Rat3 (w : World) (V : Value) (z : Int) (D : Nat) : Prop :=
  ∃ vn vd, V = .agg #[.bool (decide (z < 0)), vn, vd] ∧ Num 4294967296 .u32 w vn z.natAbs (len 4294967296 z.natAbs) ∧ Num 4294967296 .u32 w vd D (len 4294967296 D) ∧ D ≠ 0
theorem Rat3.grew {w w' : World} {V : Value} {z : Int} {D : Nat} (h : Rat3 w V z D) (g : Grew w w') : Rat3 w' V z D := by
  obtain ⟨vn, vd, e, h1, h2, h3⟩ := h
  exact ⟨vn, vd, e, h1.grew g, h2.grew g, h3⟩

set_option maxRecDepth 100000 in
set_option maxHeartbeats 1000000 in
theorem unit_any (w : World) : Calls Try.prog 58 #[] w fun e w' => ∃ v, e = .returned v ∧ Num 4294967296 .u32 w' v 1 (len 4294967296 1) ∧ Grew w w' := by
  have h := num_one w 80
  rw [← len_one] at h
  have H := Lib.hid h
  clear h
  go_enter Try.func58, Try.ntmps58
  go_wp2
  go_ret
  exact ⟨_, rfl, by rw [len_one] at H ⊢; exact H.out, (Grew.refl w).alloc _⟩

set_option maxRecDepth 100000 in
set_option maxHeartbeats 1000000 in
theorem isUnit_any (v : Value) (N : Nat) (w : World) (h : Num 4294967296 .u32 w v N (len 4294967296 N)) : Calls Try.prog 107 #[v] w fun e w' => e = .returned (.bool (decide (N = 1))) ∧ w = w' := by
  obtain ⟨A, c, rfl, h1, h2, h3, h4⟩ := id h
  by_cases hl : len 4294967296 N = 1
  · have hN := lt_len (B := 4294967296) (by omega) N
    rw [hl] at hN
    have hd := eq_dig1 hN
    obtain ⟨b, off, rfl, hc⟩ := h4 (by omega)
    have hc0 : w.cell? ⟨b, off, none⟩ = _ := hc 0 (by omega)
    rw [← hd] at hc0
    rw [hl] at *
    clear hc h4 hd h3 h
    have hbb : ((N : Int) == 1) = decide (N = 1) := by
      by_cases e : N = 1
      · subst e; rfl
      · rw [decide_eq_false e]; simp; omega
    generalize hB : decide (N = 1) = B at *
    have HB := Lib.hid hB
    clear hB
    go_enter Try.func107, Try.ntmps107
    go_wp2
    all_goals (go_ret; exact ⟨rfl, rfl⟩)
  · have hne : decide (N = 1) = false := by
      refine decide_eq_false fun e => hl ?_
      rw [e]; exact len_one
    have HB := Lib.hid hne
    generalize hL : len 4294967296 N = L at *
    have hlb : ((L : Int) == 1) = false := by simp; omega
    clear hne hL h4 h3 h
    go_enter Try.func107, Try.ntmps107
    go_wp2
    go_ret
    exact ⟨by rw [HB.out]; rfl, rfl⟩
end Go.Proofs.Ytpglnfccmhkocaa
