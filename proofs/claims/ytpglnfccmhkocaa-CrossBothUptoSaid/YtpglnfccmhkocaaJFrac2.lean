/- whole.Cmp. Condition: what comes in reads; fewer than 2^39 words. whole.Cmp, the walk. Condition: what comes in reads; fewer than 2^39 words. frac.unit, frac.isUnit, frac.parts. Condition: what comes in reads; fewer than 2^39 words. frac.parts. Condition: what comes in reads; fewer than 2^39 words. -/
import Derived.Test.YtpglnfccmhkocaaJWhole8
namespace Go.Proofs.Ytpglnfccmhkocaa
open Go.RowKit

/-- How two whole numbers stand. -/
def cmpZ (a b : Int) : Int := if a < b then -1 else if b < a then 1 else 0

theorem cmpZ_sg_lt {a b : Int} (h : sg a < sg b) : cmpZ a b = -1 := by
  unfold sg at h; unfold cmpZ
  rw [if_pos]
  split at h <;> split at h <;> (try split at h) <;> (try split at h) <;> omega
theorem cmpZ_sg_gt {a b : Int} (h : sg b < sg a) : cmpZ a b = 1 := by
  unfold sg at h; unfold cmpZ
  have : b < a := by split at h <;> split at h <;> (try split at h) <;> (try split at h) <;> omega
  rw [if_neg (by omega), if_pos this]
theorem cmpZ_pos {na nb : Bool} {N M : Nat} (h : sg (sgn na N) = sg (sgn nb M)) (h0 : ¬ sg (sgn na N) < 0) : cmpZ (sgn na N) (sgn nb M) = cmpN N M := by
  unfold sg sgn at *; unfold cmpZ cmpN
  cases na <;> cases nb <;> simp at * <;> (repeat' split at h) <;> (repeat' split) <;> omega

theorem cmpZ_neg {na nb : Bool} {N M : Nat} (h : sg (sgn na N) = sg (sgn nb M)) (h0 : sg (sgn na N) < 0) : cmpZ (sgn na N) (sgn nb M) = cmpN M N := by
  unfold sg sgn at *; unfold cmpZ cmpN
  cases na <;> cases nb <;> simp at * <;> (repeat' split at h) <;> (repeat' split) <;> omega
end Go.Proofs.Ytpglnfccmhkocaa
namespace Go.Proofs.Ytpglnfccmhkocaa
open Go.RowKit

set_option maxRecDepth 100000 in
set_option maxHeartbeats 4000000 in
theorem wcmp_any (na nb : Bool) (va vb : Value) (N M n m : Nat) (w : World) (ha : Num 4294967296 .u32 w va N n) (hb : Num 4294967296 .u32 w vb M m) (hs : len 4294967296 N < 549755813888 ∧ len 4294967296 M < 549755813888) :
    Calls Try.prog 34 #[.agg #[.bool na, va], .agg #[.bool nb, vb]] w fun e w' => e = .returned (.int .i64 (cmpZ (sgn na N) (sgn nb M))) ∧ Grew w w' := by
  obtain ⟨A, ca, rfl, -⟩ := id ha
  obtain ⟨C, cb, rfl, -⟩ := id hb
  have Ha := Lib.hid ha
  have Hb := Lib.hid hb
  clear ha hb
  go_enter Try.func34, Try.ntmps34
  go_wp2_with fail
  have hG0 : Grew w ((w.alloc (.cells #[.bool na, .slice A n ca] 24)).alloc (.cells #[.bool nb, .slice C m cb] 24)) := ((Grew.refl w).alloc _).alloc _
  have f : ∀ W0, W0 = ((w.alloc (.cells #[.bool na, .slice A n ca] 24)).alloc (.cells #[.bool nb, .slice C m cb] 24)) →
      W0.cell? ⟨w.heap.size, 0, none⟩ = some (.bool na) ∧ W0.cell? ⟨w.heap.size, 1, none⟩ = some (.slice A n ca) ∧ W0.cell? ⟨w.heap.size + 1, 0, none⟩ = some (.bool nb) ∧ W0.cell? ⟨w.heap.size + 1, 1, none⟩ = some (.slice C m cb) := by
    rintro W0 rfl
    refine ⟨by simp [go_sem], by simp [go_sem], by simp [go_sem], by simp [go_sem]⟩
  generalize hW0 : ((w.alloc (.cells #[.bool na, .slice A n ca] 24)).alloc (.cells #[.bool nb, .slice C m cb] 24)) = W0 at *
  obtain ⟨b0, b1, b2, b3⟩ := f W0 rfl
  clear f hW0
  have ha0 := Lib.hid (Ha.out.grew hG0)
  have hb0 := Lib.hid (Hb.out.grew hG0)
  go_region_held3 (fun w' => w'.cell? ⟨w.heap.size, 0, none⟩ = some (.bool na) ∧ w'.cell? ⟨w.heap.size, 1, none⟩ = some (.slice A n ca) ∧ w'.cell? ⟨w.heap.size + 1, 0, none⟩ = some (.bool nb) ∧ w'.cell? ⟨w.heap.size + 1, 1, none⟩ = some (.slice C m cb))
    (first | exact ⟨b0, b1, b2, b3⟩ | exact ⟨hG1.cell b0, hG1.cell b1, hG1.cell b2, hG1.cell b3⟩ | exact ⟨(hG1.trans hG2).cell b0, (hG1.trans hG2).cell b1, (hG1.trans hG2).cell b2, (hG1.trans hG2).cell b3⟩)
    (first | (go_at_call_of 33 (Value.agg #[.bool na, .slice A n ca]); refine (sign_any _ _ N _ _ (ha0.out.grew (Grew.refl _).drew) (by omega)).mono ?_; rintro e w1 ⟨rfl, hG1⟩) | (go_at_call 33; refine (sign_any _ _ M _ _ ((hb0.out.grew (Grew.refl _).drew).grew hG1) (by omega)).mono ?_; rintro e w2 ⟨rfl, hG2⟩))
  have hG12 := (hG0.drew.trans hG1).trans hG2
  have e1 := (hG1.trans hG2).cell b1
  have e3 := (hG1.trans hG2).cell b3
  have ha2 := Lib.hid ((ha0.out.grew (Grew.refl _).drew).grew (hG1.trans hG2))
  have hb2 := Lib.hid ((hb0.out.grew (Grew.refl _).drew).grew (hG1.trans hG2))
  have k1 := Lib.hid (cmpZ_sg_lt (a := sgn na N) (b := sgn nb M))
  have k2 := Lib.hid (cmpZ_sg_gt (a := sgn na N) (b := sgn nb M))
  have k3 := Lib.hid (cmpZ_pos (na := na) (nb := nb) (N := N) (M := M))
  have k4 := Lib.hid (cmpZ_neg (na := na) (nb := nb) (N := N) (M := M))
  clear b0 b1 b2 b3 ha0 hb0
  generalize sg (sgn na N) = s1 at *
  generalize sg (sgn nb M) = s2 at *
  rcases Int.lt_trichotomy s1 s2 with h | h | h
  · have r1 := Lib.hid (k1.out h)
    go_wp2_with fail
    go_ret
    exact ⟨by rw [r1.out]; rfl, hG12⟩
  · subst h
    by_cases hneg : s1 < 0
    · have r1 := Lib.hid (k4.out rfl hneg)
      go_wp2_with fail
      refine (cmp_any _ _ _ _ _ _ _ hb2.out ha2.out).mono ?_
      rintro e w3 ⟨rfl, hG3⟩
      go_wp2_with fail
      go_ret
      exact ⟨by rw [r1.out]; rfl, hG12.trans hG3⟩
    · have r1 := Lib.hid (k3.out rfl hneg)
      go_wp2_with fail
      refine (cmp_any _ _ _ _ _ _ _ ha2.out hb2.out).mono ?_
      rintro e w3 ⟨rfl, hG3⟩
      go_wp2_with fail
      go_ret
      exact ⟨by rw [r1.out]; rfl, hG12.trans hG3⟩
  · have r1 := Lib.hid (k2.out h)
    have h' : ¬ s1 < s2 := by omega
    go_wp2_with fail
    go_ret
    exact ⟨by rw [r1.out]; rfl, hG12⟩
end Go.Proofs.Ytpglnfccmhkocaa
namespace Go.Proofs.Ytpglnfccmhkocaa
open Go.RowKit

/-- A whole number over another one that isn't 0, as three cells. -/
def Rat3 (w : World) (V : Value) (z : Int) (D : Nat) : Prop :=
  ∃ vn vd, V = .agg #[.bool (decide (z < 0)), vn, vd] ∧ Num 4294967296 .u32 w vn z.natAbs (len 4294967296 z.natAbs) ∧ Num 4294967296 .u32 w vd D (len 4294967296 D) ∧ D ≠ 0
theorem Rat3.grew {w w' : World} {V : Value} {z : Int} {D : Nat} (h : Rat3 w V z D) (g : Grew w w') : Rat3 w' V z D := by
  obtain ⟨vn, vd, e, h1, h2, h3⟩ := h
  exact ⟨vn, vd, e, h1.grew g, h2.grew g, h3⟩

set_option maxRecDepth 100000 in
set_option maxHeartbeats 1000000 in
theorem unit_any (w : World) : Calls Try.prog 58 #[] w fun e w' => ∃ v, e = .returned v ∧ Num 4294967296 .u32 w' v 1 (len 4294967296 1) ∧ Grew w w' := by
  have h := num_one w 80
  rw [← len_one] at h
  have H := Lib.hid h
  clear h
  go_enter Try.func58, Try.ntmps58
  go_wp2
  go_ret
  exact ⟨_, rfl, by rw [len_one] at H ⊢; exact H.out, (Grew.refl w).alloc _⟩

set_option maxRecDepth 100000 in
set_option maxHeartbeats 1000000 in
theorem isUnit_any (v : Value) (N : Nat) (w : World) (h : Num 4294967296 .u32 w v N (len 4294967296 N)) : Calls Try.prog 107 #[v] w fun e w' => e = .returned (.bool (decide (N = 1))) ∧ w = w' := by
  obtain ⟨A, c, rfl, h1, h2, h3, h4⟩ := id h
  by_cases hl : len 4294967296 N = 1
  · have hN := lt_len (B := 4294967296) (by omega) N
    rw [hl] at hN
    have hd := eq_dig1 hN
    obtain ⟨b, off, rfl, hc⟩ := h4 (by omega)
    have hc0 : w.cell? ⟨b, off, none⟩ = _ := hc 0 (by omega)
    rw [← hd] at hc0
    rw [hl] at *
    clear hc h4 hd h3 h
    have hbb : ((N : Int) == 1) = decide (N = 1) := by
      by_cases e : N = 1
      · subst e; rfl
      · rw [decide_eq_false e]; simp; omega
    generalize hB : decide (N = 1) = B at *
    have HB := Lib.hid hB
    clear hB
    go_enter Try.func107, Try.ntmps107
    go_wp2
    all_goals (go_ret; exact ⟨rfl, rfl⟩)
  · have hne : decide (N = 1) = false := by
      refine decide_eq_false fun e => hl ?_
      rw [e]; exact len_one
    have HB := Lib.hid hne
    generalize hL : len 4294967296 N = L at *
    have hlb : ((L : Int) == 1) = false := by simp; omega
    clear hne hL h4 h3 h
    go_enter Try.func107, Try.ntmps107
    go_wp2
    go_ret
    exact ⟨by rw [HB.out]; rfl, rfl⟩
end Go.Proofs.Ytpglnfccmhkocaa
namespace Go.Proofs.Ytpglnfccmhkocaa
open Go.RowKit

set_option maxRecDepth 100000 in
set_option maxHeartbeats 2000000 in
theorem parts_zero (neg : Bool) (va vd : Value) (N n m : Nat) (w : World) (ha : Num 4294967296 .u32 w va N n) (hd : Num 4294967296 .u32 w vd 0 m) :
    Calls Try.prog 32 #[.agg #[.bool neg, va, vd]] w fun e w' => ∃ V, e = .returned V ∧ Rat3 w' V 0 1 ∧ Grew w w' := by
  obtain ⟨A, ca, rfl, -⟩ := id ha
  obtain ⟨C, cd, rfl, -⟩ := id hd
  have Hd := Lib.hid hd
  clear ha hd
  go_enter Try.func32, Try.ntmps32
  go_wp2_with fail
  refine (trim_any _ _ _ _ (Hd.out.grew (((Grew.refl w).alloc _).alloc _)) (by rw [len_zero]; omega)).mono ?_
  rintro e w1 ⟨v1, rfl, h1, hG1⟩
  rw [len_zero] at h1
  obtain ⟨E, ce, rfl, -⟩ := id h1
  go_wp2_with fail
  refine (unit_any _).mono ?_
  rintro e w2 ⟨v2, rfl, h2, hG2⟩
  obtain ⟨F, cf, rfl, -⟩ := id h2
  have hGe := hG1.trans hG2
  obtain ⟨hc, hf⟩ := hGe.olds
  have rr0 : w2.cell? ⟨w.heap.size + 1, 0, none⟩ = some (.bool false) := by rw [hc _ _ (by simp)]; simp [go_sem]
  have rr1 : w2.cell? ⟨w.heap.size + 1, 1, none⟩ = some (.slice none 0 0) := by rw [hc _ _ (by simp)]; simp [go_sem]
  have rr2 : w2.cell? ⟨w.heap.size + 1, 2, none⟩ = some (.slice none 0 0) := by rw [hc _ _ (by simp)]; simp [go_sem]
  have zz0 : w2.frozen? ⟨w.heap.size + 1, 0, none⟩ = false := by rw [hf _ _ (by simp)]; simp [go_sem]
  have zz1 : w2.frozen? ⟨w.heap.size + 1, 1, none⟩ = false := by rw [hf _ _ (by simp)]; simp [go_sem]
  have zz2 : w2.frozen? ⟨w.heap.size + 1, 2, none⟩ = false := by rw [hf _ _ (by simp)]; simp [go_sem]
  clear hc hf
  have hs0 : ∀ u, (w2.setCell ⟨w.heap.size + 1, 0, none⟩ u).cell? ⟨w.heap.size + 1, 0, none⟩ = some u := fun u => cell_set rr0 u
  have ht1 : ∀ u, (w2.setCell ⟨w.heap.size + 1, 0, none⟩ u).cell? ⟨w.heap.size + 1, 1, none⟩ = some (.slice none 0 0) := fun u => by rw [World.cell?_setCell_other _ _ _ _ (by simp)]; exact rr1
  have hs1 : ∀ u x, ((w2.setCell ⟨w.heap.size + 1, 0, none⟩ u).setCell ⟨w.heap.size + 1, 1, none⟩ x).cell? ⟨w.heap.size + 1, 1, none⟩ = some x := fun u x => cell_set (ht1 u) x
  have ht2 : ∀ u x, ((w2.setCell ⟨w.heap.size + 1, 0, none⟩ u).setCell ⟨w.heap.size + 1, 1, none⟩ x).cell? ⟨w.heap.size + 1, 2, none⟩ = some (.slice none 0 0) := fun u x => by rw [World.cell?_setCell_other _ _ _ _ (by simp), World.cell?_setCell_other _ _ _ _ (by simp)]; exact rr2
  have hs2 : ∀ u x y, (((w2.setCell ⟨w.heap.size + 1, 0, none⟩ u).setCell ⟨w.heap.size + 1, 1, none⟩ x).setCell ⟨w.heap.size + 1, 2, none⟩ y).cell? ⟨w.heap.size + 1, 2, none⟩ = some y := fun u x y => cell_set (ht2 u x) y
  have keep3 : ∀ v N n u x y, Num 4294967296 .u32 w2 v N n → Num 4294967296 .u32 (((w2.setCell ⟨w.heap.size + 1, 0, none⟩ u).setCell ⟨w.heap.size + 1, 1, none⟩ x).setCell ⟨w.heap.size + 1, 2, none⟩ y) v N n :=
    fun v N n u x y h => ((h.setCell (by rw [rr0]; simp) u).setCell (by rw [ht1]; simp) x).setCell (by rw [ht2]; simp) y
  have HG1 := Lib.hid hG1
  have HG2 := Lib.hid hG2
  have HE := Lib.hid hGe
  have H2 := Lib.hid h2
  have K3 := Lib.hid keep3
  clear hG1 hG2 hGe h1 h2 keep3
  go_wp2_with fail
  exact bodyPost_ret (v := .agg #[.bool false, .slice none 0 0, .slice F (len 4294967296 1) cf]) (by simp [results, Try.results32, go_sem, hs0, hs1, hs2]) rfl
    ⟨_, rfl, ⟨_, _, rfl, Num.nil _ _ _, K3.out _ _ _ _ _ _ H2.out, by omega⟩, (((((((Grew.refl w).alloc _).alloc _).trans HE.out).setCell (by simp) _).setCell (by simp) _).setCell (by simp) _)⟩

set_option maxRecDepth 100000 in
set_option maxHeartbeats 2000000 in
theorem parts_pos (neg : Bool) (va vd : Value) (N D n m : Nat) (w : World) (ha : Num 4294967296 .u32 w va N n) (hd : Num 4294967296 .u32 w vd D m) (hD : D ≠ 0) (hs : len 4294967296 N < 549755813888 ∧ len 4294967296 D < 549755813888) :
    Calls Try.prog 32 #[.agg #[.bool neg, va, vd]] w fun e w' => ∃ V, e = .returned V ∧ Rat3 w' V (sgn neg N) D ∧ Grew w w' := by
  obtain ⟨A, ca, rfl, -⟩ := id ha
  obtain ⟨C, cd, rfl, -⟩ := id hd
  have Ha := Lib.hid ha
  have Hd := Lib.hid hd
  have hl0 : len 4294967296 D ≠ 0 := fun e => hD ((len_eq_zero (by omega)).1 e)
  clear ha hd
  have hG0 : Grew w ((w.alloc (.cells #[.bool neg, .slice A n ca, .slice C m cd] 26)).alloc (.cells #[.bool false, .slice none 0 0, .slice none 0 0] 54)) := ((Grew.refl w).alloc _).alloc _
  have HG0 := Lib.hid hG0
  clear hG0
  go_enter Try.func32, Try.ntmps32
  go_wp2_with fail
  refine (trim_any _ _ _ _ (Hd.out.grew HG0.out) (by omega)).mono ?_
  rintro e w1 ⟨v1, rfl, h1, hG1⟩
  obtain ⟨E, ce, rfl, -⟩ := id h1
  generalize hL : len 4294967296 D = L at *
  have HL := Lib.hid hL
  have hlb : ((L : Int) == 0) = false := by simp; omega
  clear hL
  obtain ⟨hc, hf⟩ := hG1.olds
  have c0 : w1.cell? ⟨w.heap.size, 0, none⟩ = some (.bool neg) := by rw [hc _ _ (by simp; omega)]; simp [go_sem]
  have c1 : w1.cell? ⟨w.heap.size, 1, none⟩ = some (.slice A n ca) := by rw [hc _ _ (by simp; omega)]; simp [go_sem]
  clear hc hf
  go_wp2_with fail
  refine (make_any _ _ N _ _ ((Ha.out.grew HG0.out).grew hG1) (by omega)).mono ?_
  rintro e w2 ⟨V, rfl, hV, hG2⟩
  obtain ⟨v2, rfl, hV2⟩ := id hV
  obtain ⟨F, cf, rfl, -⟩ := id hV2
  have hGe := hG1.trans hG2
  obtain ⟨hc, hf⟩ := hGe.olds
  have rr0 : w2.cell? ⟨w.heap.size + 1, 0, none⟩ = some (.bool false) := by rw [hc _ _ (by simp)]; simp [go_sem]
  have rr1 : w2.cell? ⟨w.heap.size + 1, 1, none⟩ = some (.slice none 0 0) := by rw [hc _ _ (by simp)]; simp [go_sem]
  have rr2 : w2.cell? ⟨w.heap.size + 1, 2, none⟩ = some (.slice none 0 0) := by rw [hc _ _ (by simp)]; simp [go_sem]
  have zz0 : w2.frozen? ⟨w.heap.size + 1, 0, none⟩ = false := by rw [hf _ _ (by simp)]; simp [go_sem]
  have zz1 : w2.frozen? ⟨w.heap.size + 1, 1, none⟩ = false := by rw [hf _ _ (by simp)]; simp [go_sem]
  have zz2 : w2.frozen? ⟨w.heap.size + 1, 2, none⟩ = false := by rw [hf _ _ (by simp)]; simp [go_sem]
  clear hc hf
  have hs0 : ∀ u, (w2.setCell ⟨w.heap.size + 1, 0, none⟩ u).cell? ⟨w.heap.size + 1, 0, none⟩ = some u := fun u => cell_set rr0 u
  have ht1 : ∀ u, (w2.setCell ⟨w.heap.size + 1, 0, none⟩ u).cell? ⟨w.heap.size + 1, 1, none⟩ = some (.slice none 0 0) := fun u => by rw [World.cell?_setCell_other _ _ _ _ (by simp)]; exact rr1
  have hs1 : ∀ u x, ((w2.setCell ⟨w.heap.size + 1, 0, none⟩ u).setCell ⟨w.heap.size + 1, 1, none⟩ x).cell? ⟨w.heap.size + 1, 1, none⟩ = some x := fun u x => cell_set (ht1 u) x
  have ht2 : ∀ u x, ((w2.setCell ⟨w.heap.size + 1, 0, none⟩ u).setCell ⟨w.heap.size + 1, 1, none⟩ x).cell? ⟨w.heap.size + 1, 2, none⟩ = some (.slice none 0 0) := fun u x => by rw [World.cell?_setCell_other _ _ _ _ (by simp), World.cell?_setCell_other _ _ _ _ (by simp)]; exact rr2
  have hs2 : ∀ u x y, (((w2.setCell ⟨w.heap.size + 1, 0, none⟩ u).setCell ⟨w.heap.size + 1, 1, none⟩ x).setCell ⟨w.heap.size + 1, 2, none⟩ y).cell? ⟨w.heap.size + 1, 2, none⟩ = some y := fun u x y => cell_set (ht2 u x) y
  have keep3 : ∀ v N n u x y, Num 4294967296 .u32 w2 v N n → Num 4294967296 .u32 (((w2.setCell ⟨w.heap.size + 1, 0, none⟩ u).setCell ⟨w.heap.size + 1, 1, none⟩ x).setCell ⟨w.heap.size + 1, 2, none⟩ y) v N n :=
    fun v N n u x y h => ((h.setCell (by rw [rr0]; simp) u).setCell (by rw [ht1]; simp) x).setCell (by rw [ht2]; simp) y
  have HE := Lib.hid hGe
  have H1 := Lib.hid (h1.grew hG2)
  have H2 := Lib.hid hV2
  have K3 := Lib.hid keep3
  clear hG1 hG2 hGe h1 hV2 hV keep3
  go_wp2_with fail
  exact bodyPost_ret (v := .agg #[.bool (decide (sgn neg N < 0)), .slice F (len 4294967296 (sgn neg N).natAbs) cf, .slice E L ce]) (by simp [results, Try.results32, go_sem, hs0, hs1, hs2]) rfl
    ⟨_, rfl, ⟨_, _, rfl, K3.out _ _ _ _ _ _ H2.out, by rw [HL.out]; exact K3.out _ _ _ _ _ _ H1.out, hD⟩, (((((((Grew.refl w).alloc _).alloc _).trans HE.out).setCell (by simp) _).setCell (by simp) _).setCell (by simp) _)⟩
end Go.Proofs.Ytpglnfccmhkocaa
