/- frac.unit, frac.isUnit, frac.parts. Condition: what comes in reads; fewer than 2^39 words. frac.parts. Condition: what comes in reads; fewer than 2^39 words. Plain: fractions as numbers of Lean's core, and their sizes. Conditions: none (no program in sight but the reading of words). Small words for walks over structs: a world under a name, readings that stay, values laid open. Conditions: none. -/
import Derived.Test.YtngbcbncllfblaaGreatJWhole10
import Derived.Deep.DeepCutAuto
namespace Go.Proofs.YtngbcbncllfblaaGreat
open Go.RowKit

/-- A whole number over another one that isn't 0, as three cells. -/
def Rat3 (w : World) (V : Value) (z : Int) (D : Nat) : Prop :=
  ∃ vn vd, V = .agg #[.bool (decide (z < 0)), vn, vd] ∧ Num 4294967296 .u32 w vn z.natAbs (len 4294967296 z.natAbs) ∧ Num 4294967296 .u32 w vd D (len 4294967296 D) ∧ D ≠ 0
set_option maxRecDepth 100000 in
set_option maxHeartbeats 1000000 in
theorem unit_any (w : World) : Calls Tryz.prog 110 #[] w fun e w' => ∃ v, e = .returned v ∧ Num 4294967296 .u32 w' v 1 (len 4294967296 1) ∧ Grew w w' := by
  have h := num_one w 163
  rw [← len_one] at h
  have H := Lib.hid h
  clear h
  go_enter Tryz.func110, Tryz.ntmps110
  go_wp2
  go_ret
  exact ⟨_, rfl, by rw [len_one] at H ⊢; exact H.out, (Grew.refl w).alloc _⟩

set_option maxRecDepth 100000 in
set_option maxHeartbeats 1000000 in
theorem isUnit_any (v : Value) (N : Nat) (w : World) (h : Num 4294967296 .u32 w v N (len 4294967296 N)) : Calls Tryz.prog 175 #[v] w fun e w' => e = .returned (.bool (decide (N = 1))) ∧ w = w' := by
  obtain ⟨A, c, rfl, h1, h2, h3, h4⟩ := id h
  by_cases hl : len 4294967296 N = 1
  · have hN := lt_len (B := 4294967296) (by omega) N
    rw [hl] at hN
    have hd := eq_dig1 hN
    obtain ⟨b, off, rfl, hc⟩ := h4 (by omega)
    have hc0 : w.cell? ⟨b, off, none⟩ = _ := hc 0 (by omega)
    rw [← hd] at hc0
    rw [hl] at *
    clear hc h4 hd h3 h
    have hbb : ((N : Int) == 1) = decide (N = 1) := by
      by_cases e : N = 1
      · subst e; rfl
      · rw [decide_eq_false e]; simp; omega
    generalize hB : decide (N = 1) = B at *
    have HB := Lib.hid hB
    clear hB
    go_enter Tryz.func175, Tryz.ntmps175
    go_wp2
    all_goals (go_ret; exact ⟨rfl, rfl⟩)
  · have hne : decide (N = 1) = false := by
      refine decide_eq_false fun e => hl ?_
      rw [e]; exact len_one
    have HB := Lib.hid hne
    generalize hL : len 4294967296 N = L at *
    have hlb : ((L : Int) == 1) = false := by simp; omega
    clear hne hL h4 h3 h
    go_enter Tryz.func175, Tryz.ntmps175
    go_wp2
    go_ret
    exact ⟨by rw [HB.out]; rfl, rfl⟩
end Go.Proofs.YtngbcbncllfblaaGreat
namespace Go.Proofs.YtngbcbncllfblaaGreat
open Go.RowKit

set_option maxRecDepth 100000 in
set_option maxHeartbeats 2000000 in
theorem parts_zero (neg : Bool) (va vd : Value) (N n m : Nat) (w : World) (ha : Num 4294967296 .u32 w va N n) (hd : Num 4294967296 .u32 w vd 0 m) :
    Calls Tryz.prog 146 #[.agg #[.bool neg, va, vd]] w fun e w' => ∃ V, e = .returned V ∧ Rat3 w' V 0 1 ∧ Grew w w' := by
  obtain ⟨A, ca, rfl, -⟩ := id ha
  obtain ⟨C, cd, rfl, -⟩ := id hd
  have Hd := Lib.hid hd
  clear ha hd
  go_enter Tryz.func146, Tryz.ntmps146
  go_wp2_with fail
  refine (trim_any _ _ _ _ (Hd.out.grew (((Grew.refl w).alloc _).alloc _)) (by rw [len_zero]; omega)).mono ?_
  rintro e w1 ⟨v1, rfl, h1, hG1⟩
  rw [len_zero] at h1
  obtain ⟨E, ce, rfl, -⟩ := id h1
  go_wp2_with fail
  refine (unit_any _).mono ?_
  rintro e w2 ⟨v2, rfl, h2, hG2⟩
  obtain ⟨F, cf, rfl, -⟩ := id h2
  have hGe := hG1.trans hG2
  obtain ⟨hc, hf⟩ := hGe.olds
  have rr0 : w2.cell? ⟨w.heap.size + 1, 0, none⟩ = some (.bool false) := by rw [hc _ _ (by simp)]; simp [go_sem]
  have rr1 : w2.cell? ⟨w.heap.size + 1, 1, none⟩ = some (.slice none 0 0) := by rw [hc _ _ (by simp)]; simp [go_sem]
  have rr2 : w2.cell? ⟨w.heap.size + 1, 2, none⟩ = some (.slice none 0 0) := by rw [hc _ _ (by simp)]; simp [go_sem]
  have zz0 : w2.frozen? ⟨w.heap.size + 1, 0, none⟩ = false := by rw [hf _ _ (by simp)]; simp [go_sem]
  have zz1 : w2.frozen? ⟨w.heap.size + 1, 1, none⟩ = false := by rw [hf _ _ (by simp)]; simp [go_sem]
  have zz2 : w2.frozen? ⟨w.heap.size + 1, 2, none⟩ = false := by rw [hf _ _ (by simp)]; simp [go_sem]
  clear hc hf
  have hs0 : ∀ u, (w2.setCell ⟨w.heap.size + 1, 0, none⟩ u).cell? ⟨w.heap.size + 1, 0, none⟩ = some u := fun u => cell_set rr0 u
  have ht1 : ∀ u, (w2.setCell ⟨w.heap.size + 1, 0, none⟩ u).cell? ⟨w.heap.size + 1, 1, none⟩ = some (.slice none 0 0) := fun u => by rw [World.cell?_setCell_other _ _ _ _ (by simp)]; exact rr1
  have hs1 : ∀ u x, ((w2.setCell ⟨w.heap.size + 1, 0, none⟩ u).setCell ⟨w.heap.size + 1, 1, none⟩ x).cell? ⟨w.heap.size + 1, 1, none⟩ = some x := fun u x => cell_set (ht1 u) x
  have ht2 : ∀ u x, ((w2.setCell ⟨w.heap.size + 1, 0, none⟩ u).setCell ⟨w.heap.size + 1, 1, none⟩ x).cell? ⟨w.heap.size + 1, 2, none⟩ = some (.slice none 0 0) := fun u x => by rw [World.cell?_setCell_other _ _ _ _ (by simp), World.cell?_setCell_other _ _ _ _ (by simp)]; exact rr2
  have hs2 : ∀ u x y, (((w2.setCell ⟨w.heap.size + 1, 0, none⟩ u).setCell ⟨w.heap.size + 1, 1, none⟩ x).setCell ⟨w.heap.size + 1, 2, none⟩ y).cell? ⟨w.heap.size + 1, 2, none⟩ = some y := fun u x y => cell_set (ht2 u x) y
  have keep3 : ∀ v N n u x y, Num 4294967296 .u32 w2 v N n → Num 4294967296 .u32 (((w2.setCell ⟨w.heap.size + 1, 0, none⟩ u).setCell ⟨w.heap.size + 1, 1, none⟩ x).setCell ⟨w.heap.size + 1, 2, none⟩ y) v N n :=
    fun v N n u x y h => ((h.setCell (by rw [rr0]; simp) u).setCell (by rw [ht1]; simp) x).setCell (by rw [ht2]; simp) y
  have HG1 := Lib.hid hG1
  have HG2 := Lib.hid hG2
  have HE := Lib.hid hGe
  have H2 := Lib.hid h2
  have K3 := Lib.hid keep3
  clear hG1 hG2 hGe h1 h2 keep3
  go_wp2_with fail
  exact bodyPost_ret (v := .agg #[.bool false, .slice none 0 0, .slice F (len 4294967296 1) cf]) (by simp [results, Tryz.results146, go_sem, hs0, hs1, hs2]) rfl
    ⟨_, rfl, ⟨_, _, rfl, Num.nil _ _ _, K3.out _ _ _ _ _ _ H2.out, by omega⟩, (((((((Grew.refl w).alloc _).alloc _).trans HE.out).setCell (by simp) _).setCell (by simp) _).setCell (by simp) _)⟩

set_option maxRecDepth 100000 in
set_option maxHeartbeats 2000000 in
theorem parts_pos (neg : Bool) (va vd : Value) (N D n m : Nat) (w : World) (ha : Num 4294967296 .u32 w va N n) (hd : Num 4294967296 .u32 w vd D m) (hD : D ≠ 0) (hs : len 4294967296 N < 549755813888 ∧ len 4294967296 D < 549755813888) :
    Calls Tryz.prog 146 #[.agg #[.bool neg, va, vd]] w fun e w' => ∃ V, e = .returned V ∧ Rat3 w' V (sgn neg N) D ∧ Grew w w' := by
  obtain ⟨A, ca, rfl, -⟩ := id ha
  obtain ⟨C, cd, rfl, -⟩ := id hd
  have Ha := Lib.hid ha
  have Hd := Lib.hid hd
  have hl0 : len 4294967296 D ≠ 0 := fun e => hD ((len_eq_zero (by omega)).1 e)
  clear ha hd
  have hG0 : Grew w ((w.alloc (.cells #[.bool neg, .slice A n ca, .slice C m cd] 50)).alloc (.cells #[.bool false, .slice none 0 0, .slice none 0 0] 167)) := ((Grew.refl w).alloc _).alloc _
  have HG0 := Lib.hid hG0
  clear hG0
  go_enter Tryz.func146, Tryz.ntmps146
  go_wp2_with fail
  refine (trim_any _ _ _ _ (Hd.out.grew HG0.out) (by omega)).mono ?_
  rintro e w1 ⟨v1, rfl, h1, hG1⟩
  obtain ⟨E, ce, rfl, -⟩ := id h1
  generalize hL : len 4294967296 D = L at *
  have HL := Lib.hid hL
  have hlb : ((L : Int) == 0) = false := by simp; omega
  clear hL
  obtain ⟨hc, hf⟩ := hG1.olds
  have c0 : w1.cell? ⟨w.heap.size, 0, none⟩ = some (.bool neg) := by rw [hc _ _ (by simp; omega)]; simp [go_sem]
  have c1 : w1.cell? ⟨w.heap.size, 1, none⟩ = some (.slice A n ca) := by rw [hc _ _ (by simp; omega)]; simp [go_sem]
  clear hc hf
  go_wp2_with fail
  refine (make_any _ _ N _ _ ((Ha.out.grew HG0.out).grew hG1) (by omega)).mono ?_
  rintro e w2 ⟨V, rfl, hV, hG2⟩
  obtain ⟨v2, rfl, hV2⟩ := id hV
  obtain ⟨F, cf, rfl, -⟩ := id hV2
  have hGe := hG1.trans hG2
  obtain ⟨hc, hf⟩ := hGe.olds
  have rr0 : w2.cell? ⟨w.heap.size + 1, 0, none⟩ = some (.bool false) := by rw [hc _ _ (by simp)]; simp [go_sem]
  have rr1 : w2.cell? ⟨w.heap.size + 1, 1, none⟩ = some (.slice none 0 0) := by rw [hc _ _ (by simp)]; simp [go_sem]
  have rr2 : w2.cell? ⟨w.heap.size + 1, 2, none⟩ = some (.slice none 0 0) := by rw [hc _ _ (by simp)]; simp [go_sem]
  have zz0 : w2.frozen? ⟨w.heap.size + 1, 0, none⟩ = false := by rw [hf _ _ (by simp)]; simp [go_sem]
  have zz1 : w2.frozen? ⟨w.heap.size + 1, 1, none⟩ = false := by rw [hf _ _ (by simp)]; simp [go_sem]
  have zz2 : w2.frozen? ⟨w.heap.size + 1, 2, none⟩ = false := by rw [hf _ _ (by simp)]; simp [go_sem]
  clear hc hf
  have hs0 : ∀ u, (w2.setCell ⟨w.heap.size + 1, 0, none⟩ u).cell? ⟨w.heap.size + 1, 0, none⟩ = some u := fun u => cell_set rr0 u
  have ht1 : ∀ u, (w2.setCell ⟨w.heap.size + 1, 0, none⟩ u).cell? ⟨w.heap.size + 1, 1, none⟩ = some (.slice none 0 0) := fun u => by rw [World.cell?_setCell_other _ _ _ _ (by simp)]; exact rr1
  have hs1 : ∀ u x, ((w2.setCell ⟨w.heap.size + 1, 0, none⟩ u).setCell ⟨w.heap.size + 1, 1, none⟩ x).cell? ⟨w.heap.size + 1, 1, none⟩ = some x := fun u x => cell_set (ht1 u) x
  have ht2 : ∀ u x, ((w2.setCell ⟨w.heap.size + 1, 0, none⟩ u).setCell ⟨w.heap.size + 1, 1, none⟩ x).cell? ⟨w.heap.size + 1, 2, none⟩ = some (.slice none 0 0) := fun u x => by rw [World.cell?_setCell_other _ _ _ _ (by simp), World.cell?_setCell_other _ _ _ _ (by simp)]; exact rr2
  have hs2 : ∀ u x y, (((w2.setCell ⟨w.heap.size + 1, 0, none⟩ u).setCell ⟨w.heap.size + 1, 1, none⟩ x).setCell ⟨w.heap.size + 1, 2, none⟩ y).cell? ⟨w.heap.size + 1, 2, none⟩ = some y := fun u x y => cell_set (ht2 u x) y
  have keep3 : ∀ v N n u x y, Num 4294967296 .u32 w2 v N n → Num 4294967296 .u32 (((w2.setCell ⟨w.heap.size + 1, 0, none⟩ u).setCell ⟨w.heap.size + 1, 1, none⟩ x).setCell ⟨w.heap.size + 1, 2, none⟩ y) v N n :=
    fun v N n u x y h => ((h.setCell (by rw [rr0]; simp) u).setCell (by rw [ht1]; simp) x).setCell (by rw [ht2]; simp) y
  have HE := Lib.hid hGe
  have H1 := Lib.hid (h1.grew hG2)
  have H2 := Lib.hid hV2
  have K3 := Lib.hid keep3
  clear hG1 hG2 hGe h1 hV2 hV keep3
  go_wp2_with fail
  exact bodyPost_ret (v := .agg #[.bool (decide (sgn neg N < 0)), .slice F (len 4294967296 (sgn neg N).natAbs) cf, .slice E L ce]) (by simp [results, Tryz.results146, go_sem, hs0, hs1, hs2]) rfl
    ⟨_, rfl, ⟨_, _, rfl, K3.out _ _ _ _ _ _ H2.out, by rw [HL.out]; exact K3.out _ _ _ _ _ _ H1.out, hD⟩, (((((((Grew.refl w).alloc _).alloc _).trans HE.out).setCell (by simp) _).setCell (by simp) _).setCell (by simp) _)⟩
end Go.Proofs.YtngbcbncllfblaaGreat
namespace Go.Proofs.YtngbcbncllfblaaGreat
open Go.RowKit

/-- A fraction's size: both parts have at most k words. -/
def QB (q : Rat) (k : Nat) : Prop := len 4294967296 q.num.natAbs ≤ k ∧ len 4294967296 q.den ≤ k
theorem len1 : len 4294967296 1 = 1 := len_one

theorem sgn_div (z : Int) (g : Nat) (h : g ∣ z.natAbs) : sgn (decide (z < 0)) (z.natAbs / g) = z / (g : Int) := by
  obtain ⟨k, hk⟩ := h
  rcases Nat.eq_zero_or_pos g with rfl | hg
  · simp [sgn]
  · rw [hk, Nat.mul_div_cancel_left _ hg]
    unfold sgn
    by_cases h0 : z < 0
    · have e : z = (g : Int) * -(k : Int) := by rw [Int.mul_neg, ← Int.natCast_mul, ← hk]; omega
      rw [if_pos (by simpa using h0), e, Int.mul_ediv_cancel_left _ (by omega)]
    · have e : z = (g : Int) * (k : Int) := by rw [← Int.natCast_mul, ← hk]; omega
      rw [if_neg (by simpa using h0), e, Int.mul_ediv_cancel_left _ (by omega)]
theorem mkRat_num_sgn (z : Int) (D : Nat) (hD : D ≠ 0) : sgn (decide (z < 0)) (z.natAbs / Nat.gcd z.natAbs D) = (mkRat z D).num := by
  rw [Rat.num_mkRat, if_neg hD, sgn_div _ _ (Nat.gcd_dvd_left _ _), Nat.gcd_comm]
theorem mkRat_den_gcd (z : Int) (D : Nat) (hD : D ≠ 0) : D / Nat.gcd z.natAbs D = (mkRat z D).den := by
  rw [Rat.den_mkRat, if_neg hD, Nat.gcd_comm]
theorem len_addz (z y : Int) (k : Nat) (h1 : len 4294967296 z.natAbs ≤ k) (h2 : len 4294967296 y.natAbs ≤ k) : len 4294967296 (z + y).natAbs ≤ k + 1 :=
  Nat.le_trans (len_mono (by omega) (Int.natAbs_add_le z y)) (len_add (by omega) _ _ _ h1 h2)
theorem len_mulz (z y : Int) (k l : Nat) (h1 : len 4294967296 z.natAbs ≤ k) (h2 : len 4294967296 y.natAbs ≤ l) : len 4294967296 (z * y).natAbs ≤ k + l := by
  rw [Int.natAbs_mul]; exact len_mul (by omega) _ _ _ _ h1 h2

/-- How two fractions stand. -/
def cmpQ (a b : Rat) : Int := if a < b then -1 else if b < a then 1 else 0
/-- A fraction's sign. -/
def sgQ (a : Rat) : Int := if a < 0 then -1 else if 0 < a then 1 else 0

theorem cmpQ_sub (a b : Rat) : cmpQ a b = sgQ (a - b) := by
  unfold cmpQ sgQ
  have h1 : a < b ↔ a - b < 0 := by grind
  have h2 : b < a ↔ 0 < a - b := by grind
  by_cases h : a < b
  · rw [if_pos h, if_pos (h1.1 h)]
  · rw [if_neg h, if_neg (fun e => h (h1.2 e))]
    by_cases h' : b < a
    · rw [if_pos h', if_pos (h2.1 h')]
    · rw [if_neg h', if_neg (fun e => h' (h2.2 e))]
theorem sgQ_mkRat (z : Int) (D : Nat) (hD : D ≠ 0) : sgQ (mkRat z D) = sg z := by
  have h1 : mkRat z D < 0 ↔ z < 0 := by
    rw [← Rat.not_le, ← Rat.divInt_ofNat, Rat.divInt_nonneg_iff_of_pos_right (by omega)]; omega
  have h2 : (0 : Rat) < mkRat z D ↔ 0 < z := by
    rw [Rat.lt_iff_le_and_ne, ← Rat.divInt_ofNat, Rat.divInt_nonneg_iff_of_pos_right (by omega), Rat.divInt_ofNat]
    constructor
    · rintro ⟨a, b⟩
      have : z ≠ 0 := fun e => b (by rw [e, Rat.zero_mkRat])
      omega
    · intro a
      exact ⟨by omega, fun e => by have := (Rat.mkRat_eq_zero hD).1 e.symm; omega⟩
  unfold sgQ sg
  by_cases h : z < 0
  · rw [if_pos (h1.2 h), if_neg (by omega), if_pos h]
  · rw [if_neg (fun e => h (h1.1 e))]
    by_cases h' : z = 0
    · rw [if_neg (fun e => by have := h2.1 e; omega), if_pos h']
    · rw [if_pos (h2.2 (by omega)), if_neg h', if_neg h]

theorem cmpZ_sub (a b : Int) : cmpZ a b = sg (a - b) := by
  unfold cmpZ sg
  repeat' split
  all_goals omega

/-- Two fractions, over their lower parts. -/
theorem cmpQ_mkRat (z y : Int) (D E : Nat) (hD : D ≠ 0) (hE : E ≠ 0) : cmpQ (mkRat z D) (mkRat y E) = cmpZ (z * E) (y * D) := by
  have e : mkRat z D - mkRat y E = mkRat (z * E - y * D) (D * E) := by
    rw [Rat.sub_eq_add_neg, Rat.neg_mkRat, Rat.mkRat_add_mkRat _ _ hD hE, Int.neg_mul, ← Int.sub_eq_add_neg]
  rw [cmpQ_sub, cmpZ_sub, e, sgQ_mkRat _ _ (Nat.mul_ne_zero hD hE)]
theorem cmpQ_sg_ne {z y : Int} {D E : Nat} (hD : D ≠ 0) (hE : E ≠ 0) (h : sg z ≠ sg y) : cmpQ (mkRat z D) (mkRat y E) = if sg z < sg y then -1 else 1 := by
  have h1 := sgQ_mkRat z D hD
  have h2 := sgQ_mkRat y E hE
  rw [← h1, ← h2] at h ⊢
  generalize mkRat z D = a at *
  generalize mkRat y E = b at *
  clear h1 h2
  unfold cmpQ
  unfold sgQ at *
  grind

/-- A fraction as it comes in: it need not be reduced, and is 0 where the lower part is 0. -/
def FracV (w : World) (V : Value) (q : Rat) (k : Nat) : Prop :=
  ∃ neg N D n m va vd, V = .agg #[.bool neg, va, vd] ∧ Num 4294967296 .u32 w va N n ∧ Num 4294967296 .u32 w vd D m ∧ mkRat (sgn neg N) D = q ∧ len 4294967296 N ≤ k ∧ len 4294967296 D ≤ k
/-- A fraction as it is answered: reduced. -/
def FracC (w : World) (V : Value) (q : Rat) : Prop := Rat3 w V q.num q.den
/-- A ratio: a whole number over one that isn't 0. -/
def RatQ (w : World) (V : Value) (q : Rat) (k : Nat) : Prop := ∃ z D, Rat3 w V z D ∧ mkRat z D = q ∧ len 4294967296 z.natAbs ≤ k ∧ len 4294967296 D ≤ k

theorem sgn_of (z : Int) : sgn (decide (z < 0)) z.natAbs = z := by unfold sgn; split <;> simp_all <;> omega
end Go.Proofs.YtngbcbncllfblaaGreat
namespace Go.Proofs.YtngbcbncllfblaaGreat
open Go.RowKit

theorem gen_wp {P : Program} {c : Code} {Q : Exit → Act → World → Prop} {a : Act} {w : World} (h : ∀ W, W = w → Code.wp P c Q a W) : Code.wp P c Q a w := h w rfl
theorem gen_calls {P : Program} {f : FuncId} {args : Array Value} {Q : Ending → World → Prop} {w : World} (h : ∀ W, W = w → Calls P f args W Q) : Calls P f args w Q := h w rfl

theorem gen_then {K : Act → World → Prop} {Q : Exit → Act → World → Prop} {e : Exit} {a : Act} {w : World} (h : ∀ W, W = w → Exit.then K Q e a W) : Exit.then K Q e a w := h w rfl

theorem gen_post {P : Program} {fn : Func} {R : Ending → World → Prop} {e : Exit} {a : Act} {w : World} (h : ∀ W, W = w → bodyPost P fn R e a W) : bodyPost P fn R e a w := h w rfl

/-- Every number that reads in one world reads in the other. -/
def Keeps (w w' : World) : Prop := ∀ B K v N n, Num B K w v N n → Num B K w' v N n
theorem Grew.keeps {w w' : World} (g : Grew w w') : Keeps w w' := fun _ _ _ _ _ h => h.grew g
theorem Keeps.trans {a b c : World} (h : Keeps a b) (k : Keeps b c) : Keeps a c := fun B K v N n x => k B K v N n (h B K v N n x)
theorem Keeps.refl (a : World) : Keeps a a := fun _ _ _ _ _ x => x

theorem Whl.kept {w w' : World} {V : Value} {z : Int} (h : Whl w V z) (k : Keeps w w') : Whl w' V z := by
  obtain ⟨v, e, hn⟩ := h
  exact ⟨v, e, k _ _ _ _ _ hn⟩
theorem Rat3.kept {w w' : World} {V : Value} {z : Int} {D : Nat} (h : Rat3 w V z D) (k : Keeps w w') : Rat3 w' V z D := by
  obtain ⟨vn, vd, e, h1, h2, h3⟩ := h
  exact ⟨vn, vd, e, k _ _ _ _ _ h1, k _ _ _ _ _ h2, h3⟩
theorem FracV.kept {w w' : World} {V : Value} {q : Rat} {l : Nat} (h : FracV w V q l) (k : Keeps w w') : FracV w' V q l := by
  obtain ⟨neg, N, D, n, m, va, vd, e, h1, h2, h3⟩ := h
  exact ⟨neg, N, D, n, m, va, vd, e, k _ _ _ _ _ h1, k _ _ _ _ _ h2, h3⟩
theorem FracC.kept {w w' : World} {V : Value} {q : Rat} (h : FracC w V q) (k : Keeps w w') : FracC w' V q := Rat3.kept h k
theorem RatQ.kept {w w' : World} {V : Value} {q : Rat} {l : Nat} (h : RatQ w V q l) (k : Keeps w w') : RatQ w' V q l := by
  obtain ⟨z, D, h1, h2⟩ := h
  exact ⟨z, D, h1.kept k, h2⟩
theorem Num.kept {w w' : World} {B : Nat} {K : IntKind} {v : Value} {N n : Nat} (h : Num B K w v N n) (k : Keeps w w') : Num B K w' v N n := k _ _ _ _ _ h

theorem Whl.laid {w : World} {V : Value} {z : Int} (h : Whl w V z) : ∃ b A n c, V = .agg #[.bool b, .slice A n c] ∧ Hid (Whl w V z) ∧ Hid (b = decide (z < 0) ∧ n = len 4294967296 z.natAbs ∧ Num 4294967296 .u32 w (.slice A n c) z.natAbs n) := by
  have h' := h
  obtain ⟨v, rfl, hn⟩ := h'
  obtain ⟨A, c, rfl, -⟩ := id hn
  exact ⟨_, A, _, c, rfl, h, rfl, rfl, hn⟩
theorem Rat3.laid {w : World} {V : Value} {z : Int} {D : Nat} (h : Rat3 w V z D) : ∃ b A n c C m d, V = .agg #[.bool b, .slice A n c, .slice C m d] ∧ Hid (Rat3 w V z D) ∧
    Hid (b = decide (z < 0) ∧ n = len 4294967296 z.natAbs ∧ m = len 4294967296 D ∧ Num 4294967296 .u32 w (.slice A n c) z.natAbs n ∧ Num 4294967296 .u32 w (.slice C m d) D m ∧ D ≠ 0) := by
  have h' := h
  obtain ⟨vn, vd, rfl, h1, h2, h3⟩ := h'
  obtain ⟨A, c, rfl, -⟩ := id h1
  obtain ⟨C, d, rfl, -⟩ := id h2
  exact ⟨_, A, _, c, C, _, d, rfl, h, rfl, rfl, rfl, h1, h2, h3⟩
theorem FracV.laid {w : World} {V : Value} {q : Rat} {k : Nat} (h : FracV w V q k) : ∃ b A n c C m d, V = .agg #[.bool b, .slice A n c, .slice C m d] ∧ Hid (FracV w V q k) := by
  have h' := h
  obtain ⟨neg, N, D, n, m, va, vd, rfl, h1, h2, -⟩ := h'
  obtain ⟨A, c, rfl, -⟩ := id h1
  obtain ⟨C, d, rfl, -⟩ := id h2
  exact ⟨_, A, _, c, C, _, d, rfl, h⟩
theorem FracC.laid {w : World} {V : Value} {q : Rat} (h : FracC w V q) : ∃ b A n c C m d, V = .agg #[.bool b, .slice A n c, .slice C m d] ∧ Hid (FracC w V q) := by
  have h' := h
  obtain ⟨va, vd, rfl, h1, h2, -⟩ := h'
  obtain ⟨A, c, rfl, -⟩ := id h1
  obtain ⟨C, d, rfl, -⟩ := id h2
  exact ⟨_, A, _, c, C, _, d, rfl, h⟩
theorem RatQ.laid {w : World} {V : Value} {q : Rat} {k : Nat} (h : RatQ w V q k) : ∃ b A n c C m d, V = .agg #[.bool b, .slice A n c, .slice C m d] ∧ Hid (RatQ w V q k) := by
  have h' := h
  obtain ⟨z, D, ⟨va, vd, rfl, h1, h2, -⟩, -⟩ := h'
  obtain ⟨A, c, rfl, -⟩ := id h1
  obtain ⟨C, d, rfl, -⟩ := id h2
  exact ⟨_, A, _, c, C, _, d, rfl, h⟩

theorem other3 {w : World} {b r o p : Nat} {u0 u1 u2 : Value} {v : Option Value} (h : b ≠ r) (hc : w.cell? ⟨b, p, none⟩ = v) : (((w.setCell ⟨r, o, none⟩ u0).setCell ⟨r, o + 1, none⟩ u1).setCell ⟨r, o + 2, none⟩ u2).cell? ⟨b, p, none⟩ = v := by
  rw [World.cell?_setCell_other _ _ _ _ (by simp <;> omega), World.cell?_setCell_other _ _ _ _ (by simp <;> omega), World.cell?_setCell_other _ _ _ _ (by simp <;> omega)]; exact hc
/-- Three cells of one struct (a truth and two slices) are stored anew. -/
theorem store3 {w w' : World} {r o : Nat} {x : Bool} {A B : Option Addr} {n c m d : Nat} {u0 u1 u2 : Value} (h0 : w.cell? ⟨r, o, none⟩ = some (.bool x)) (h1 : w.cell? ⟨r, o + 1, none⟩ = some (.slice A n c)) (h2 : w.cell? ⟨r, o + 2, none⟩ = some (.slice B m d))
    (h : w' = ((w.setCell ⟨r, o, none⟩ u0).setCell ⟨r, o + 1, none⟩ u1).setCell ⟨r, o + 2, none⟩ u2) :
    w'.cell? ⟨r, o, none⟩ = some u0 ∧ w'.cell? ⟨r, o + 1, none⟩ = some u1 ∧ w'.cell? ⟨r, o + 2, none⟩ = some u2 ∧ Keeps w w' ∧
      (∀ b p, b ≠ r → w'.cell? ⟨b, p, none⟩ = w.cell? ⟨b, p, none⟩) ∧ (∀ p, p < o ∨ o + 2 < p → w'.cell? ⟨r, p, none⟩ = w.cell? ⟨r, p, none⟩) ∧ w'.heap.size = w.heap.size ∧ (∀ a, w.heap.size ≤ r ∨ a.heap.size ≤ r → Grew a w → Grew a w') := by
  have e1 : ∀ u, (w.setCell ⟨r, o, none⟩ u).cell? ⟨r, o + 1, none⟩ = some (.slice A n c) := fun u => by rw [World.cell?_setCell_other _ _ _ _ (by simp)]; exact h1
  have e2 : ∀ u v, ((w.setCell ⟨r, o, none⟩ u).setCell ⟨r, o + 1, none⟩ v).cell? ⟨r, o + 2, none⟩ = some (.slice B m d) := fun u v => by
    rw [World.cell?_setCell_other _ _ _ _ (by simp), World.cell?_setCell_other _ _ _ _ (by simp)]; exact h2
  subst h
  refine ⟨?_, ?_, ?_, ?_, ?_, ?_, ?_, ?_⟩
  · rw [World.cell?_setCell_other _ _ _ _ (by simp), World.cell?_setCell_other _ _ _ _ (by simp)]; exact cell_set h0 u0
  · rw [World.cell?_setCell_other _ _ _ _ (by simp)]; exact cell_set (e1 _) u1
  · exact cell_set (e2 _ _) u2
  · intro B' K v N k hh
    exact ((hh.setCell (by rw [h0]; simp) _).setCell (by rw [e1]; simp) _).setCell (by rw [e2]; simp) _
  · intro b p hb
    rw [World.cell?_setCell_other _ _ _ _ (by simp <;> omega), World.cell?_setCell_other _ _ _ _ (by simp <;> omega), World.cell?_setCell_other _ _ _ _ (by simp <;> omega)]
  · intro p hp
    rw [World.cell?_setCell_other _ _ _ _ (by simp <;> omega), World.cell?_setCell_other _ _ _ _ (by simp <;> omega), World.cell?_setCell_other _ _ _ _ (by simp <;> omega)]
  · simp [World.setCell]
  · intro a ha g
    have hr : a.heap.size ≤ r := by rcases ha with h | h; exact Nat.le_trans g.size h; exact h
    exact ((g.setCell hr _).setCell hr _).setCell hr _

/-- Three cells of a struct that may be stored. -/
def Res3 (w : World) (r o : Nat) (u0 u1 u2 : Value) : Prop :=
  w.cell? ⟨r, o, none⟩ = some u0 ∧ w.cell? ⟨r, o + 1, none⟩ = some u1 ∧ w.cell? ⟨r, o + 2, none⟩ = some u2 ∧ w.frozen? ⟨r, o, none⟩ = false ∧ w.frozen? ⟨r, o + 1, none⟩ = false ∧ w.frozen? ⟨r, o + 2, none⟩ = false ∧ r < w.heap.size
theorem Res3.grew {w w' : World} {r o : Nat} {u0 u1 u2 : Value} (h : Res3 w r o u0 u1 u2) (g : Grew w w') : Res3 w' r o u0 u1 u2 := by
  obtain ⟨h0, h1, h2, f0, f1, f2, s⟩ := h
  exact ⟨g.cell h0, g.cell h1, g.cell h2, (g.below.frozen (p := ⟨r, o, none⟩) s).trans f0, (g.below.frozen (p := ⟨r, o + 1, none⟩) s).trans f1, (g.below.frozen (p := ⟨r, o + 2, none⟩) s).trans f2, Nat.lt_of_lt_of_le s g.size⟩
/-- Three cells of a struct. -/
def Box3 (w : World) (r o : Nat) (u0 u1 u2 : Value) : Prop := w.cell? ⟨r, o, none⟩ = some u0 ∧ w.cell? ⟨r, o + 1, none⟩ = some u1 ∧ w.cell? ⟨r, o + 2, none⟩ = some u2
theorem Box3.p0 {w : World} {r o : Nat} {u0 u1 u2 : Value} (h : Box3 w r o u0 u1 u2) : w.cell? ⟨r, o, none⟩ = some u0 := h.1
theorem Box3.p1 {w : World} {r o : Nat} {u0 u1 u2 : Value} (h : Box3 w r o u0 u1 u2) : w.cell? ⟨r, o + 1, none⟩ = some u1 := h.2.1
theorem Box3.p2 {w : World} {r o : Nat} {u0 u1 u2 : Value} (h : Box3 w r o u0 u1 u2) : w.cell? ⟨r, o + 2, none⟩ = some u2 := h.2.2
theorem Box3.grew {w w' : World} {r o : Nat} {u0 u1 u2 : Value} (h : Box3 w r o u0 u1 u2) (g : Grew w w') : Box3 w' r o u0 u1 u2 := ⟨g.cell h.1, g.cell h.2.1, g.cell h.2.2⟩
theorem Box3.kept {w w' : World} {r o : Nat} {u0 u1 u2 : Value} (h : Box3 w r o u0 u1 u2) (g : ∀ p, w'.cell? ⟨r, p, none⟩ = w.cell? ⟨r, p, none⟩) : Box3 w' r o u0 u1 u2 := ⟨(g _).trans h.1, (g _).trans h.2.1, (g _).trans h.2.2⟩
/-- Two cells of a struct. -/
def Box2 (w : World) (r o : Nat) (u0 u1 : Value) : Prop := w.cell? ⟨r, o, none⟩ = some u0 ∧ w.cell? ⟨r, o + 1, none⟩ = some u1
theorem Box2.p0 {w : World} {r o : Nat} {u0 u1 : Value} (h : Box2 w r o u0 u1) : w.cell? ⟨r, o, none⟩ = some u0 := h.1
theorem Box2.p1 {w : World} {r o : Nat} {u0 u1 : Value} (h : Box2 w r o u0 u1) : w.cell? ⟨r, o + 1, none⟩ = some u1 := h.2
theorem Box2.grew {w w' : World} {r o : Nat} {u0 u1 : Value} (h : Box2 w r o u0 u1) (g : Grew w w') : Box2 w' r o u0 u1 := ⟨g.cell h.1, g.cell h.2⟩
theorem lt_grew {w w' : World} {b : Nat} (h : b < w.heap.size) (g : Grew w w') : b < w'.heap.size := Nat.lt_of_lt_of_le h g.size
theorem Res3.p0 {w : World} {r o : Nat} {u0 u1 u2 : Value} (h : Res3 w r o u0 u1 u2) : w.cell? ⟨r, o, none⟩ = some u0 := h.1
theorem Res3.p1 {w : World} {r o : Nat} {u0 u1 u2 : Value} (h : Res3 w r o u0 u1 u2) : w.cell? ⟨r, o + 1, none⟩ = some u1 := h.2.1
theorem Res3.p2 {w : World} {r o : Nat} {u0 u1 u2 : Value} (h : Res3 w r o u0 u1 u2) : w.cell? ⟨r, o + 2, none⟩ = some u2 := h.2.2.1
theorem Res3.lt {w : World} {r o : Nat} {u0 u1 u2 : Value} (h : Res3 w r o u0 u1 u2) : r < w.heap.size := h.2.2.2.2.2.2

/-- A block that holds three cells of which P says something, in this world. -/
def At3 (w : World) (g : Nat) (P : World → Value → Prop) : Prop := ∃ b A n c C m d, Box3 w g 0 (.bool b) (.slice A n c) (.slice C m d) ∧ P w (.agg #[.bool b, .slice A n c, .slice C m d]) ∧ g < w.heap.size
/-- What P says is said of what reads. -/
def Rd (P : World → Value → Prop) : Prop := ∀ w w' V, P w V → Keeps w w' → P w' V
theorem At3.of_alloc {w X : World} {P : World → Value → Prop} (hP : Rd P) {b : Bool} {A C : Option Addr} {n c m d g : Nat} {t : TypeId} (hg : X.heap.size = g) (hk : Keeps w X) (h : P w (.agg #[.bool b, .slice A n c, .slice C m d])) :
    At3 (X.alloc (.cells #[.bool b, .slice A n c, .slice C m d] t)) g P := by
  subst hg
  exact ⟨b, A, n, c, C, m, d, ⟨by simp [go_sem], by simp [go_sem], by simp [go_sem]⟩, hP _ _ _ h (hk.trans ((Grew.refl X).alloc _).keeps), by simp⟩
theorem At3.of_store {w X : World} {P : World → Value → Prop} (hP : Rd P) {b : Bool} {A C : Option Addr} {n c m d g : Nat} (r : Res3 X g 0 (.bool false) (.slice none 0 0) (.slice none 0 0)) (hk : Keeps w X) (h : P w (.agg #[.bool b, .slice A n c, .slice C m d])) :
    At3 (((X.setCell ⟨g, 0, none⟩ (.bool b)).setCell ⟨g, 1, none⟩ (.slice A n c)).setCell ⟨g, 2, none⟩ (.slice C m d)) g P := by
  obtain ⟨q0, q1, q2, qK, -, -, qs, -⟩ := store3 (o := 0) r.p0 r.p1 r.p2 rfl
  exact ⟨b, A, n, c, C, m, d, ⟨q0, q1, q2⟩, hP _ _ _ h (hk.trans qK), by rw [qs]; exact r.lt⟩
theorem Keeps.store {w X : World} {g : Nat} {u0 u1 u2 : Value} (r : Res3 X g 0 (.bool false) (.slice none 0 0) (.slice none 0 0)) (hk : Keeps w X) :
    Keeps w (((X.setCell ⟨g, 0, none⟩ u0).setCell ⟨g, 1, none⟩ u1).setCell ⟨g, 2, none⟩ u2) := by
  obtain ⟨-, -, -, qK, -⟩ := store3 (o := 0) r.p0 r.p1 r.p2 rfl
  exact hk.trans qK
theorem Keeps.alloc {w X : World} {o : Obj} (hk : Keeps w X) : Keeps w (X.alloc o) := hk.trans ((Grew.refl X).alloc _).keeps
theorem Res3.store_far {w : World} {g h : Nat} {u0 u1 u2 : Value} (a : Res3 w g 0 (.bool false) (.slice none 0 0) (.slice none 0 0)) (r : Res3 w h 0 (.bool false) (.slice none 0 0) (.slice none 0 0)) (hne : g ≠ h) :
    Res3 (((w.setCell ⟨h, 0, none⟩ u0).setCell ⟨h, 1, none⟩ u1).setCell ⟨h, 2, none⟩ u2) g 0 (.bool false) (.slice none 0 0) (.slice none 0 0) := by
  obtain ⟨q0, q1, q2, qK, qf, -, qs, -⟩ := store3 (o := 0) r.p0 r.p1 r.p2 rfl
  obtain ⟨a0, a1, a2, f0, f1, f2, s⟩ := a
  exact ⟨(qf _ _ hne).trans a0, (qf _ _ hne).trans a1, (qf _ _ hne).trans a2, by simp [f0], by simp [f1], by simp [f2], by rw [qs]; exact s⟩
theorem At3.store_far {w : World} {P : World → Value → Prop} (hP : Rd P) {g h : Nat} {u0 u1 u2 : Value} (a : At3 w g P) (r : Res3 w h 0 (.bool false) (.slice none 0 0) (.slice none 0 0)) (hne : g ≠ h) :
    At3 (((w.setCell ⟨h, 0, none⟩ u0).setCell ⟨h, 1, none⟩ u1).setCell ⟨h, 2, none⟩ u2) g P := by
  obtain ⟨q0, q1, q2, qK, qf, -, qs, -⟩ := store3 (o := 0) r.p0 r.p1 r.p2 rfl
  obtain ⟨b, A, n, c, C, m, d, hB, hp, hl⟩ := a
  exact ⟨b, A, n, c, C, m, d, hB.kept (fun p => qf g p hne), hP _ _ _ hp qK, by rw [qs]; exact hl⟩
theorem At3.grew {w w' : World} {P : World → Value → Prop} (hP : Rd P) {g : Nat} (a : At3 w g P) (k : Grew w w') : At3 w' g P := by
  obtain ⟨b, A, n, c, C, m, d, hB, hp, hl⟩ := a
  exact ⟨b, A, n, c, C, m, d, hB.grew k, hP _ _ _ hp k.keeps, Nat.lt_of_lt_of_le hl k.size⟩
theorem Rd.ratQ (q : Rat) (l : Nat) : Rd (fun w V => RatQ w V q l) := fun _ _ _ h k => RatQ.kept h k
/-- A new block of three cells behind a call. -/
theorem res_new {w w' : World} {t : TypeId} (g : Grew (w.alloc (.cells #[.bool false, .slice none 0 0, .slice none 0 0] t)) w') : Res3 w' w.heap.size 0 (.bool false) (.slice none 0 0) (.slice none 0 0) :=
  Res3.grew ⟨by simp [go_sem], by simp [go_sem], by simp [go_sem], by simp [go_sem], by simp [go_sem], by simp [go_sem], by simp⟩ g
theorem res_newD {w w' : World} {t : TypeId} (g : Grew (w.alloc (.cells #[.bool false, .slice none 0 0, .slice none 0 0] t)).drew w') : Res3 w' w.heap.size 0 (.bool false) (.slice none 0 0) (.slice none 0 0) :=
  Res3.grew ⟨by simp [go_sem], by simp [go_sem], by simp [go_sem], by simp [go_sem], by simp [go_sem], by simp [go_sem], by simp⟩ g
theorem res_new2 {w w' : World} {t s : TypeId} (g : Grew ((w.alloc (.cells #[.bool false, .slice none 0 0, .slice none 0 0] t)).alloc (.cells #[.bool false, .slice none 0 0, .slice none 0 0] s)) w') :
    Res3 w' w.heap.size 0 (.bool false) (.slice none 0 0) (.slice none 0 0) ∧ Res3 w' (w.heap.size + 1) 0 (.bool false) (.slice none 0 0) (.slice none 0 0) :=
  ⟨Res3.grew ⟨by simp [go_sem], by simp [go_sem], by simp [go_sem], by simp [go_sem], by simp [go_sem], by simp [go_sem], by simp <;> omega⟩ g,
   Res3.grew ⟨by simp [go_sem], by simp [go_sem], by simp [go_sem], by simp [go_sem], by simp [go_sem], by simp [go_sem], by simp <;> omega⟩ g⟩
theorem res_new2D {w w' : World} {t s : TypeId} (g : Grew ((w.alloc (.cells #[.bool false, .slice none 0 0, .slice none 0 0] t)).alloc (.cells #[.bool false, .slice none 0 0, .slice none 0 0] s)).drew w') :
    Res3 w' w.heap.size 0 (.bool false) (.slice none 0 0) (.slice none 0 0) ∧ Res3 w' (w.heap.size + 1) 0 (.bool false) (.slice none 0 0) (.slice none 0 0) :=
  ⟨Res3.grew ⟨by simp [go_sem], by simp [go_sem], by simp [go_sem], by simp [go_sem], by simp [go_sem], by simp [go_sem], by simp <;> omega⟩ g,
   Res3.grew ⟨by simp [go_sem], by simp [go_sem], by simp [go_sem], by simp [go_sem], by simp [go_sem], by simp [go_sem], by simp <;> omega⟩ g⟩
/-- Six cells of one struct (twice a truth and two slices) are stored anew. -/
theorem store6 {w w' : World} {r : Nat} {x y : Bool} {A B C D : Option Addr} {n c m d n' c' m' d' : Nat} {u0 u1 u2 u3 u4 u5 : Value}
    (h0 : w.cell? ⟨r, 0, none⟩ = some (.bool x)) (h1 : w.cell? ⟨r, 1, none⟩ = some (.slice A n c)) (h2 : w.cell? ⟨r, 2, none⟩ = some (.slice B m d))
    (h3 : w.cell? ⟨r, 3, none⟩ = some (.bool y)) (h4 : w.cell? ⟨r, 4, none⟩ = some (.slice C n' c')) (h5 : w.cell? ⟨r, 5, none⟩ = some (.slice D m' d'))
    (h : w' = (((((w.setCell ⟨r, 0, none⟩ u0).setCell ⟨r, 1, none⟩ u1).setCell ⟨r, 2, none⟩ u2).setCell ⟨r, 3, none⟩ u3).setCell ⟨r, 4, none⟩ u4).setCell ⟨r, 5, none⟩ u5) :
    w'.cell? ⟨r, 0, none⟩ = some u0 ∧ w'.cell? ⟨r, 1, none⟩ = some u1 ∧ w'.cell? ⟨r, 2, none⟩ = some u2 ∧ w'.cell? ⟨r, 3, none⟩ = some u3 ∧ w'.cell? ⟨r, 4, none⟩ = some u4 ∧ w'.cell? ⟨r, 5, none⟩ = some u5 ∧
      Keeps w w' ∧ (∀ a, a.heap.size ≤ r → Grew a w → Grew a w') := by
  obtain ⟨q0, q1, q2, qK, -, qf, qs, qG⟩ := store3 (o := 0) (u0 := u0) (u1 := u1) (u2 := u2) h0 h1 h2 rfl
  obtain ⟨q3, q4, q5, qK', -, qf', qs', qG'⟩ := store3 (o := 3) ((qf _ (by omega)).trans h3) ((qf _ (by omega)).trans h4) ((qf _ (by omega)).trans h5) h
  exact ⟨(qf' _ (by omega)).trans q0, (qf' _ (by omega)).trans q1, (qf' _ (by omega)).trans q2, q3, q4, q5, qK.trans qK', fun a ha g => qG' a (.inr ha) (qG a (.inr ha) g)⟩

/-- A spot as it comes in; a spot as it is answered. -/
def SpotV (w : World) (V : Value) (x y : Rat) (k : Nat) : Prop := ∃ b A n c C m d b' A' n' c' C' m' d', V = .agg #[.bool b, .slice A n c, .slice C m d, .bool b', .slice A' n' c', .slice C' m' d'] ∧
  FracV w (.agg #[.bool b, .slice A n c, .slice C m d]) x k ∧ FracV w (.agg #[.bool b', .slice A' n' c', .slice C' m' d']) y k
def SpotC (w : World) (V : Value) (x y : Rat) : Prop := ∃ b A n c C m d b' A' n' c' C' m' d', V = .agg #[.bool b, .slice A n c, .slice C m d, .bool b', .slice A' n' c', .slice C' m' d'] ∧
  FracC w (.agg #[.bool b, .slice A n c, .slice C m d]) x ∧ FracC w (.agg #[.bool b', .slice A' n' c', .slice C' m' d']) y
theorem SpotC.kept {w w' : World} {V : Value} {x y : Rat} (h : SpotC w V x y) (g : Keeps w w') : SpotC w' V x y := by
  obtain ⟨b, A, n, c, C, m, d, b', A', n', c', C', m', d', e, h1, h2⟩ := h
  exact ⟨b, A, n, c, C, m, d, b', A', n', c', C', m', d', e, h1.kept g, h2.kept g⟩
theorem SpotV.laid {w : World} {V : Value} {x y : Rat} {k : Nat} (h : SpotV w V x y k) : ∃ b A n c C m d b' A' n' c' C' m' d', V = .agg #[.bool b, .slice A n c, .slice C m d, .bool b', .slice A' n' c', .slice C' m' d'] ∧
    Hid (FracV w (.agg #[.bool b, .slice A n c, .slice C m d]) x k) ∧ Hid (FracV w (.agg #[.bool b', .slice A' n' c', .slice C' m' d']) y k) ∧
    Hid (SpotV w (.agg #[.bool b, .slice A n c, .slice C m d, .bool b', .slice A' n' c', .slice C' m' d']) x y k) := by
  have h' := h
  obtain ⟨b, A, n, c, C, m, d, b', A', n', c', C', m', d', rfl, h1, h2⟩ := h'
  exact ⟨b, A, n, c, C, m, d, b', A', n', c', C', m', d', rfl, h1, h2, h⟩
theorem SpotC.laid {w : World} {V : Value} {x y : Rat} (h : SpotC w V x y) : ∃ b A n c C m d b' A' n' c' C' m' d', V = .agg #[.bool b, .slice A n c, .slice C m d, .bool b', .slice A' n' c', .slice C' m' d'] ∧
    Hid (FracC w (.agg #[.bool b, .slice A n c, .slice C m d]) x) ∧ Hid (FracC w (.agg #[.bool b', .slice A' n' c', .slice C' m' d']) y) ∧
    Hid (SpotC w (.agg #[.bool b, .slice A n c, .slice C m d, .bool b', .slice A' n' c', .slice C' m' d']) x y) := by
  have h' := h
  obtain ⟨b, A, n, c, C, m, d, b', A', n', c', C', m', d', rfl, h1, h2⟩ := h'
  exact ⟨b, A, n, c, C, m, d, b', A', n', c', C', m', d', rfl, h1, h2, h⟩
theorem SpotC.mk {w : World} {x y : Rat} {b : Bool} {A : Option Addr} {n c : Nat} {C : Option Addr} {m d : Nat} {b' : Bool} {A' : Option Addr} {n' c' : Nat} {C' : Option Addr} {m' d' : Nat}
    (h1 : FracC w (.agg #[.bool b, .slice A n c, .slice C m d]) x) (h2 : FracC w (.agg #[.bool b', .slice A' n' c', .slice C' m' d']) y) :
    SpotC w (.agg #[.bool b, .slice A n c, .slice C m d, .bool b', .slice A' n' c', .slice C' m' d']) x y := ⟨b, A, n, c, C, m, d, b', A', n', c', C', m', d', rfl, h1, h2⟩
theorem store33 {w w' : World} {r s : Nat} {x y : Bool} {A B C D : Option Addr} {n c m d n' c' m' d' : Nat} {u0 u1 u2 v0 v1 v2 : Value} (hr : Res3 w r 0 (.bool x) (.slice A n c) (.slice B m d)) (hs : Res3 w s 0 (.bool y) (.slice C n' c') (.slice D m' d')) (hne : r ≠ s)
    (h : w' = (((((w.setCell ⟨r, 0, none⟩ u0).setCell ⟨r, 1, none⟩ u1).setCell ⟨r, 2, none⟩ u2).setCell ⟨s, 0, none⟩ v0).setCell ⟨s, 1, none⟩ v1).setCell ⟨s, 2, none⟩ v2) :
    Box3 w' r 0 u0 u1 u2 ∧ Box3 w' s 0 v0 v1 v2 ∧ Keeps w w' ∧ (∀ b p, b ≠ r → b ≠ s → w'.cell? ⟨b, p, none⟩ = w.cell? ⟨b, p, none⟩) ∧ (∀ a, a.heap.size ≤ r → a.heap.size ≤ s → Grew a w → Grew a w') ∧ w'.heap.size = w.heap.size := by
  obtain ⟨q0, q1, q2, qK, qf, -, qs, qG⟩ := store3 (o := 0) (u0 := u0) (u1 := u1) (u2 := u2) hr.p0 hr.p1 hr.p2 rfl
  obtain ⟨p0, p1, p2, pK, pf, -, ps, pG⟩ := store3 (o := 0) ((qf _ _ hne.symm).trans hs.p0) ((qf _ _ hne.symm).trans hs.p1) ((qf _ _ hne.symm).trans hs.p2) h
  exact ⟨⟨(pf _ _ hne).trans q0, (pf _ _ hne).trans q1, (pf _ _ hne).trans q2⟩, ⟨p0, p1, p2⟩, qK.trans pK, fun b p h1 h2 => (pf _ _ h2).trans (qf _ _ h1), fun a h1 h2 g => pG a (.inr h2) (qG a (.inr h1) g), ps.trans qs⟩
end Go.Proofs.YtngbcbncllfblaaGreat
