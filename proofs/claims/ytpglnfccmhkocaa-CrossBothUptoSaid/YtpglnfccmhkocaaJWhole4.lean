/- whole: numbers with a sign. Condition: what comes in reads; fewer than 2^39 words. whole.Sign and the like. Condition: what comes in reads; fewer than 2^39 words. whole.Mul. Condition: what comes in reads; fewer than 2^39 words. whole.Neg, whole.Of. Condition: what comes in reads; fewer than 2^39 words. -/
import Derived.Test.YtpglnfccmhkocaaJGcd
import Derived.Handy
namespace Go.Proofs.Ytpglnfccmhkocaa
open Go.RowKit

/-- The number of a sign and a size. -/
def sgn (neg : Bool) (N : Nat) : Int := if neg then -(N : Int) else N

theorem sgn_neg (neg : Bool) (N : Nat) : decide (sgn neg N < 0) = (neg && decide (N ≠ 0)) := by
  unfold sgn
  cases neg
  · simp
  · simp only [Bool.true_and, if_true]
    by_cases h : N = 0
    · subst h; simp
    · rw [decide_eq_true h, decide_eq_true (by omega)]
theorem sgn_abs (neg : Bool) (N : Nat) : (sgn neg N).natAbs = N := by unfold sgn; cases neg <;> simp

theorem cell_set {w : World} {p : Addr} {u : Value} (h : w.cell? p = some u) (x : Value) : (w.setCell p x).cell? p = some x := by
  unfold World.cell? at *
  simp only [World.setCell, Array.getElem?_modify, if_true]
  split at h
  · rename_i c t f hb
    split at h
    · cases h
    · rename_i hs
      have hlt : p.off < c.size := (Array.getElem?_eq_some_iff.1 h).1
      simp [hb, hs, hlt]
  · cases h

/-- A store into a cell that holds no digit turns no number. -/
theorem Num.setCell {w : World} {B : Nat} {K : IntKind} {v : Value} {N n : Nat} (h : Num B K w v N n) {p : Addr} (hp : ∀ m, w.cell? p ≠ some (.int K m)) (u : Value) : Num B K (w.setCell p u) v N n := by
  obtain ⟨A, c, hv, h1, h2, h4, h3⟩ := h
  refine ⟨A, c, hv, h1, h2, h4, fun hn => ?_⟩
  obtain ⟨b, off, hA, hc⟩ := h3 hn
  refine ⟨b, off, hA, fun i hi => ?_⟩
  rw [World.cell?_setCell_other w p _ u (fun e => hp _ (by rw [e]; exact hc i hi))]
  exact hc i hi

/-- A whole number as it is answered: its sign (none of 0), its words without noughts. -/
def Whl (w : World) (V : Value) (z : Int) : Prop := ∃ v, V = .agg #[.bool (decide (z < 0)), v] ∧ Num 4294967296 .u32 w v z.natAbs (len 4294967296 z.natAbs)
theorem Whl.grew {w w' : World} {V : Value} {z : Int} (h : Whl w V z) (g : Grew w w') : Whl w' V z := by
  obtain ⟨v, e, hn⟩ := h
  exact ⟨v, e, hn.grew g⟩
theorem Whl.of_num {w : World} {v : Value} {neg : Bool} {N : Nat} (h : Num 4294967296 .u32 w v N (len 4294967296 N)) : Whl w (.agg #[.bool (neg && decide (N ≠ 0)), v]) (sgn neg N) :=
  ⟨v, by rw [sgn_neg], by rw [sgn_abs]; exact h⟩

set_option maxRecDepth 100000 in
set_option maxHeartbeats 1000000 in
theorem clean_any (neg : Bool) (v : Value) (N : Nat) (w : World) (h : Num 4294967296 .u32 w v N (len 4294967296 N)) :
    Calls Try.prog 72 #[.bool neg, v] w fun e w' => ∃ V, e = .returned V ∧ Whl w' V (sgn neg N) ∧ Grew w w' := by
  have hW := Whl.of_num (neg := neg) h
  obtain ⟨A, c, rfl, h1, h2, h3, h4⟩ := id h
  have hz : len 4294967296 N = 0 ↔ N = 0 := len_eq_zero (by omega)
  have HW := Lib.hid hW
  have Hz := Lib.hid hz
  clear h3 h4 hz hW h
  by_cases h0 : N = 0
  · have e0 : decide (N ≠ 0) = false := by simp [h0]
    rw [e0] at HW
    have hn0 := Hz.out.2 h0
    generalize len 4294967296 N = n at *
    subst hn0
    clear e0 h0
    cases neg
    all_goals
      go_enter Try.func72, Try.ntmps72
      go_wp2
      go_returns
      exact ⟨_, rfl, HW.out.grew ((Grew.refl w).alloc _), (Grew.refl w).alloc _⟩
  · have e0 : decide (N ≠ 0) = true := by simp [h0]
    rw [e0] at HW
    have hn0 : 0 < len 4294967296 N := by
      rcases Nat.eq_zero_or_pos (len 4294967296 N) with h | h
      · exact absurd (Hz.out.1 h) h0
      · exact h
    generalize len 4294967296 N = n at *
    clear e0 h0 Hz
    have hp : (0 : Int) < (n : Int) := by omega
    cases neg
    all_goals
      go_enter Try.func72, Try.ntmps72
      go_wp2
      go_returns
      exact ⟨_, rfl, HW.out.grew ((Grew.refl w).alloc _), (Grew.refl w).alloc _⟩

set_option maxRecDepth 100000 in
set_option maxHeartbeats 1000000 in
theorem make_any (neg : Bool) (v : Value) (N n : Nat) (w : World) (h : Num 4294967296 .u32 w v N n) (hs : len 4294967296 N < 1099511627776) :
    Calls Try.prog 70 #[.bool neg, v] w fun e w' => ∃ V, e = .returned V ∧ Whl w' V (sgn neg N) ∧ Grew w w' := by
  go_enter Try.func70, Try.ntmps70
  go_wp2_with fail
  refine (trim_any _ _ _ _ (h.grew ((Grew.refl w).alloc _)) hs).mono ?_
  rintro e w1 ⟨v1, rfl, h1, hG1⟩
  go_wp2_with fail
  refine (clean_any neg v1 N w1 h1).mono ?_
  rintro e w2 ⟨V, rfl, hV, hG2⟩
  obtain ⟨v2, rfl, hV2⟩ := id hV
  obtain ⟨A2, c2, rfl, -⟩ := id hV2
  have hG12 := hG1.trans hG2
  obtain ⟨hc, hf⟩ := hG12.olds
  have hc0 : w2.cell? ⟨w.heap.size, 0, none⟩ = some (.bool false) := by rw [hc _ _ (by simp)]; simp
  have hc1 : w2.cell? ⟨w.heap.size, 1, none⟩ = some (.slice none 0 0) := by rw [hc _ _ (by simp)]; simp
  have hf0 : w2.frozen? ⟨w.heap.size, 0, none⟩ = false := by rw [hf _ _ (by simp)]; simp
  have hf1 : w2.frozen? ⟨w.heap.size, 1, none⟩ = false := by rw [hf _ _ (by simp)]; simp
  have hs0 : ∀ u, (w2.setCell ⟨w.heap.size, 0, none⟩ u).cell? ⟨w.heap.size, 0, none⟩ = some u := fun u => cell_set hc0 u
  have hs1 : ∀ u x, ((w2.setCell ⟨w.heap.size, 0, none⟩ u).setCell ⟨w.heap.size, 1, none⟩ x).cell? ⟨w.heap.size, 1, none⟩ = some x := fun u x => cell_set (u := .slice none 0 0) (by rw [World.cell?_setCell_other _ _ _ _ (by simp)]; exact hc1) x
  clear hc hf
  have hV3 : Whl ((w2.setCell ⟨w.heap.size, 0, none⟩ (.bool (decide (sgn neg N < 0)))).setCell ⟨w.heap.size, 1, none⟩ (.slice A2 (len 4294967296 (sgn neg N).natAbs) c2)) (.agg #[.bool (decide (sgn neg N < 0)), .slice A2 (len 4294967296 (sgn neg N).natAbs) c2]) (sgn neg N) :=
    ⟨_, rfl, (hV2.setCell (by rw [hc0]; simp) _).setCell (by rw [World.cell?_setCell_other _ _ _ _ (by simp), hc1]; simp) _⟩
  have HV := Lib.hid hV3
  clear hV3 hV2 hV
  generalize decide (sgn neg N < 0) = bb at *
  go_wp2_with fail
  exact bodyPost_ret (v := .agg #[.bool bb, .slice A2 (len 4294967296 (sgn neg N).natAbs) c2]) (by simp [results, Try.results70, go_sem, hs0, hs1]) rfl ⟨_, rfl, HV.out, (((Grew.refl w).alloc _).trans hG12).setCell (Nat.le_refl _) _ |>.setCell (Nat.le_refl _) _⟩
end Go.Proofs.Ytpglnfccmhkocaa
namespace Go.Proofs.Ytpglnfccmhkocaa
open Go.RowKit

/-- A number's sign. -/
def sg (z : Int) : Int := if z = 0 then 0 else if z < 0 then -1 else 1

theorem nbits_zero (N : Nat) : nbits N = 0 ↔ N = 0 := by
  unfold nbits
  constructor
  · intro h
    split at h
    · assumption
    · rename_i h0
      exfalso
      have hl : len 4294967296 N ≠ 0 := fun e => h0 ((len_eq_zero (by omega)).1 e)
      obtain ⟨k, hk⟩ : ∃ k, len 4294967296 N = k + 1 := ⟨len 4294967296 N - 1, by omega⟩
      have ht := top_ne (B := 4294967296) (by omega) hk
      have htl := dig_lt (B := 4294967296) (by omega) N k
      rw [hk, Nat.add_sub_cancel] at h
      obtain ⟨b1, b2⟩ := bitLenAux_bd 64 (dig 4294967296 N k) (by omega)
      have b3 := (b2 ht).1
      change 0 < Lib.bitLen _ at b3
      omega
  · rintro rfl; rfl

set_option maxRecDepth 100000 in
set_option maxHeartbeats 1000000 in
theorem sign_any (neg : Bool) (v : Value) (N n : Nat) (w : World) (h : Num 4294967296 .u32 w v N n) (hs : len 4294967296 N < 1099511627776) :
    Calls Try.prog 33 #[.agg #[.bool neg, v]] w fun e w' => e = .returned (.int .i64 (sg (sgn neg N))) ∧ Grew w w' := by
  obtain ⟨A, c, rfl, -⟩ := id h
  go_enter Try.func33, Try.ntmps33
  go_wp2_with fail
  refine (bits_any _ _ _ _ (h.grew ((Grew.refl w).alloc _)) hs).mono ?_
  rintro e w' ⟨rfl, rfl⟩
  by_cases h0 : N = 0
  · rw [(nbits_zero N).2 h0]
    subst h0
    have e0 : sg (sgn neg 0) = 0 := by unfold sg sgn; cases neg <;> simp
    have E0 := Lib.hid e0
    clear e0
    go_wp2_with fail
    go_ret
    exact ⟨by rw [E0.out]; rfl, (Grew.refl w).alloc _⟩
  · have hb : nbits N ≠ 0 := fun e => h0 ((nbits_zero N).1 e)
    generalize nbits N = bb at *
    have hbb : ((bb : Int) == 0) = false := by simp; omega
    cases neg
    · have e0 : sg (sgn false N) = 1 := by unfold sg sgn; simp; omega
      have E0 := Lib.hid e0
      clear e0
      go_wp2_with fail
      go_ret
      exact ⟨by rw [E0.out]; rfl, (Grew.refl w).alloc _⟩
    · have e0 : sg (sgn true N) = -1 := by unfold sg sgn; simp; omega
      have E0 := Lib.hid e0
      clear e0
      go_wp2_with fail
      go_ret
      exact ⟨by rw [E0.out]; rfl, (Grew.refl w).alloc _⟩
end Go.Proofs.Ytpglnfccmhkocaa
namespace Go.Proofs.Ytpglnfccmhkocaa
open Go.RowKit

theorem sgn_mul (na nb : Bool) (N M : Nat) : sgn (na != nb) (N * M) = sgn na N * sgn nb M := by
  unfold sgn
  cases na <;> cases nb <;> simp [Int.mul_neg, Int.neg_mul]

set_option maxRecDepth 100000 in
set_option maxHeartbeats 4000000 in
theorem wmul_any (na nb : Bool) (va vb : Value) (N M n m : Nat) (w : World) (ha : Num 4294967296 .u32 w va N n) (hb : Num 4294967296 .u32 w vb M m) (hs : len 4294967296 N + len 4294967296 M < 1099511627776) :
    Calls Try.prog 35 #[.agg #[.bool na, va], .agg #[.bool nb, vb]] w fun e w' => ∃ V, e = .returned V ∧ Whl w' V (sgn na N * sgn nb M) ∧ Grew w w' := by
  obtain ⟨A, ca, rfl, -⟩ := id ha
  obtain ⟨C, cb, rfl, -⟩ := id hb
  have Ha := Lib.hid ha
  have Hb := Lib.hid hb
  clear ha hb
  go_enter Try.func35, Try.ntmps35
  go_wp2_with fail
  have hG0 : Grew w (((w.alloc (.cells #[.bool na, .slice A n ca] 24)).alloc (.cells #[.bool nb, .slice C m cb] 24)).alloc (.cells #[.bool false, .slice none 0 0] 24)) := (((Grew.refl w).alloc _).alloc _).alloc _
  have f : ∀ W0, W0 = (((w.alloc (.cells #[.bool na, .slice A n ca] 24)).alloc (.cells #[.bool nb, .slice C m cb] 24)).alloc (.cells #[.bool false, .slice none 0 0] 24)) →
      W0.cell? ⟨w.heap.size, 0, none⟩ = some (.bool na) ∧ W0.cell? ⟨w.heap.size, 1, none⟩ = some (.slice A n ca) ∧ W0.cell? ⟨w.heap.size + 1, 0, none⟩ = some (.bool nb) ∧ W0.cell? ⟨w.heap.size + 1, 1, none⟩ = some (.slice C m cb) ∧
      W0.cell? ⟨w.heap.size + 1 + 1, 0, none⟩ = some (.bool false) ∧ W0.cell? ⟨w.heap.size + 1 + 1, 1, none⟩ = some (.slice none 0 0) ∧ W0.frozen? ⟨w.heap.size + 1 + 1, 0, none⟩ = false ∧ W0.frozen? ⟨w.heap.size + 1 + 1, 1, none⟩ = false ∧ w.heap.size + 1 + 1 < W0.heap.size := by
    rintro W0 rfl
    refine ⟨by simp [go_sem], by simp [go_sem], by simp [go_sem], by simp [go_sem], by simp [go_sem], by simp [go_sem], by simp [go_sem], by simp [go_sem], by simp [go_sem]⟩
  generalize hW0 : (((w.alloc (.cells #[.bool na, .slice A n ca] 24)).alloc (.cells #[.bool nb, .slice C m cb] 24)).alloc (.cells #[.bool false, .slice none 0 0] 24)) = W0 at *
  obtain ⟨b0, b1, b2, b3, r0, r1, z0, z1, hsz⟩ := f W0 rfl
  clear f hW0
  have ha0 := Lib.hid (Ha.out.grew hG0)
  have hb0 := Lib.hid (Hb.out.grew hG0)
  go_region_held3 (fun w' => w'.cell? ⟨w.heap.size, 0, none⟩ = some (.bool na) ∧ w'.cell? ⟨w.heap.size, 1, none⟩ = some (.slice A n ca) ∧ w'.cell? ⟨w.heap.size + 1, 0, none⟩ = some (.bool nb) ∧ w'.cell? ⟨w.heap.size + 1, 1, none⟩ = some (.slice C m cb))
    (first | exact ⟨b0, b1, b2, b3⟩ | exact ⟨hG1.cell b0, hG1.cell b1, hG1.cell b2, hG1.cell b3⟩ | exact ⟨(hG1.trans hG2).cell b0, (hG1.trans hG2).cell b1, (hG1.trans hG2).cell b2, (hG1.trans hG2).cell b3⟩ | (refine ⟨?_, ?_, ?_, ?_⟩ <;> (rw [World.cell?_setCell_other _ _ _ _ (by simp), World.cell?_setCell_other _ _ _ _ (by simp)]; first | exact (hG1.trans hG2).cell b0 | exact (hG1.trans hG2).cell b1 | exact (hG1.trans hG2).cell b2 | exact (hG1.trans hG2).cell b3)))
    (first | (go_at_call 73; refine (mul_any _ _ N M _ _ _ (ha0.out.grew (Grew.refl _).drew) (hb0.out.grew (Grew.refl _).drew) hs).mono ?_; rintro e w1 ⟨v1, rfl, h1, hG1⟩) | (go_at_call 72; refine (clean_any _ _ (N * M) _ h1).mono ?_; rintro e w2 ⟨V, rfl, hV, hG2⟩; obtain ⟨v2, rfl, hV2⟩ := id hV; obtain ⟨A2, c2, rfl, -⟩ := id hV2; have rr0 := (hG1.trans hG2).cell r0; have rr1 := (hG1.trans hG2).cell r1; have zz0 : w2.frozen? ⟨w.heap.size + 1 + 1, 0, none⟩ = false := ((hG1.trans hG2).below.frozen (p := ⟨w.heap.size + 1 + 1, 0, none⟩) hsz).trans z0; have zz1 : w2.frozen? ⟨w.heap.size + 1 + 1, 1, none⟩ = false := ((hG1.trans hG2).below.frozen (p := ⟨w.heap.size + 1 + 1, 1, none⟩) hsz).trans z1))
  have hs0 : ∀ u, (w2.setCell ⟨w.heap.size + 1 + 1, 0, none⟩ u).cell? ⟨w.heap.size + 1 + 1, 0, none⟩ = some u := fun u => cell_set rr0 u
  have hs1 : ∀ u x, ((w2.setCell ⟨w.heap.size + 1 + 1, 0, none⟩ u).setCell ⟨w.heap.size + 1 + 1, 1, none⟩ x).cell? ⟨w.heap.size + 1 + 1, 1, none⟩ = some x := fun u x => cell_set (u := .slice none 0 0) (by rw [World.cell?_setCell_other _ _ _ _ (by simp)]; exact rr1) x
  have hV3 : Whl ((w2.setCell ⟨w.heap.size + 1 + 1, 0, none⟩ (.bool (decide (sgn (!na == nb) (N * M) < 0)))).setCell ⟨w.heap.size + 1 + 1, 1, none⟩ (.slice A2 (len 4294967296 (sgn (!na == nb) (N * M)).natAbs) c2)) (.agg #[.bool (decide (sgn (!na == nb) (N * M) < 0)), .slice A2 (len 4294967296 (sgn (!na == nb) (N * M)).natAbs) c2]) (sgn (!na == nb) (N * M)) :=
    ⟨_, rfl, (hV2.setCell (by rw [rr0]; simp) _).setCell (by rw [World.cell?_setCell_other _ _ _ _ (by simp), rr1]; simp) _⟩
  have HV := Lib.hid hV3
  clear hV3 hV2 hV
  go_wp2_with fail
  exact bodyPost_ret (v := .agg #[.bool (decide (sgn (!na == nb) (N * M) < 0)), .slice A2 (len 4294967296 (sgn (!na == nb) (N * M)).natAbs) c2]) (by simp [results, Try.results35, go_sem, hs0, hs1]) rfl ⟨_, rfl, by rw [← sgn_mul]; exact HV.out, (((hG0.drew.trans hG1).trans hG2).setCell (by simp; omega) _).setCell (by simp; omega) _⟩
end Go.Proofs.Ytpglnfccmhkocaa
namespace Go.Proofs.Ytpglnfccmhkocaa
open Go.RowKit

theorem sgn_not (na : Bool) (N : Nat) : sgn (!na) N = -sgn na N := by
  unfold sgn; cases na <;> simp

set_option maxRecDepth 100000 in
set_option maxHeartbeats 2000000 in
theorem wneg_any (na : Bool) (va : Value) (N n : Nat) (w : World) (ha : Num 4294967296 .u32 w va N n) (hs : len 4294967296 N < 1099511627776) :
    Calls Try.prog 105 #[.agg #[.bool na, va]] w fun e w' => ∃ V, e = .returned V ∧ Whl w' V (-sgn na N) ∧ Grew w w' := by
  obtain ⟨A, ca, rfl, -⟩ := id ha
  have Ha := Lib.hid ha
  clear ha
  go_enter Try.func105, Try.ntmps105
  go_wp2_with fail
  refine (make_any _ _ N _ _ (Ha.out.grew (((Grew.refl w).alloc _).alloc _)) hs).mono ?_
  rintro e w2 ⟨V, rfl, hV, hG2⟩
  obtain ⟨v2, rfl, hV2⟩ := id hV
  obtain ⟨A2, c2, rfl, -⟩ := id hV2
  obtain ⟨hc, hf⟩ := hG2.olds
  have rr0 : w2.cell? ⟨w.heap.size + 1, 0, none⟩ = some (.bool false) := by rw [hc _ _ (by simp)]; simp [go_sem]
  have rr1 : w2.cell? ⟨w.heap.size + 1, 1, none⟩ = some (.slice none 0 0) := by rw [hc _ _ (by simp)]; simp [go_sem]
  have zz0 : w2.frozen? ⟨w.heap.size + 1, 0, none⟩ = false := by rw [hf _ _ (by simp)]; simp [go_sem]
  have zz1 : w2.frozen? ⟨w.heap.size + 1, 1, none⟩ = false := by rw [hf _ _ (by simp)]; simp [go_sem]
  clear hc hf
  have hs0 : ∀ u, (w2.setCell ⟨w.heap.size + 1, 0, none⟩ u).cell? ⟨w.heap.size + 1, 0, none⟩ = some u := fun u => cell_set rr0 u
  have hs1 : ∀ u x, ((w2.setCell ⟨w.heap.size + 1, 0, none⟩ u).setCell ⟨w.heap.size + 1, 1, none⟩ x).cell? ⟨w.heap.size + 1, 1, none⟩ = some x := fun u x => cell_set (u := .slice none 0 0) (by rw [World.cell?_setCell_other _ _ _ _ (by simp)]; exact rr1) x
  have hV3 : Whl ((w2.setCell ⟨w.heap.size + 1, 0, none⟩ (.bool (decide (sgn (!na) N < 0)))).setCell ⟨w.heap.size + 1, 1, none⟩ (.slice A2 (len 4294967296 (sgn (!na) N).natAbs) c2)) (.agg #[.bool (decide (sgn (!na) N < 0)), .slice A2 (len 4294967296 (sgn (!na) N).natAbs) c2]) (sgn (!na) N) :=
    ⟨_, rfl, (hV2.setCell (by rw [rr0]; simp) _).setCell (by rw [World.cell?_setCell_other _ _ _ _ (by simp), rr1]; simp) _⟩
  have HV := Lib.hid hV3
  clear hV3 hV2 hV
  go_wp2_with fail
  exact bodyPost_ret (v := .agg #[.bool (decide (sgn (!na) N < 0)), .slice A2 (len 4294967296 (sgn (!na) N).natAbs) c2]) (by simp [results, Try.results105, go_sem, hs0, hs1]) rfl ⟨_, rfl, by rw [← sgn_not]; exact HV.out, (((((Grew.refl w).alloc _).alloc _).trans hG2).setCell (by simp) _).setCell (by simp) _⟩
end Go.Proofs.Ytpglnfccmhkocaa
