/- AlphaLevels, the walk. Condition: what comes in reads; fewer than 2^24 words. How fractions come in: an argument of type api.Frac reads as a fraction of no more words than its reading's bulk. Conditions: none. -/
import Derived.Test.YtpglnfccmhkocaaJAl4
import Derived.Test.YtpglnfccmhkocaaJR2a
import Derived.Test.YtpglnfccmhkocaaRows
import Derived.WalkKit
import Derived.ProofKit
import Derived.OpenShut
import Derived.JoinedCond
import Derived.ChangeSlices
import Derived.Carry
namespace Go.Proofs.Ytpglnfccmhkocaa
open Go.RowKit

theorem lev_half : levQ (mkRat 1 2) = 128 := by decide +kernel
theorem lev_small : levQ (mkRat 1 511) = 0 := by decide +kernel
theorem QB_511 : QB (mkRat 1 511) 1 := QB_mkRat 1 511 1 (len_le (by omega) (by decide)) (len_le (by omega) (by decide)) (Nat.le_refl _)
theorem fof_half (w : World) : Calls Try.prog 36 #[.int .i64 1, .int .i64 2] w fun e w' => ∃ V, e = .returned (.tuple #[V, .int .i64 0]) ∧ FracC w' V (mkRat 1 2) ∧ Grew w w' :=
  fof_any 1 2 w (by omega) (by omega) (by omega) (by omega)
theorem fof_511 (w : World) : Calls Try.prog 36 #[.int .i64 1, .int .i64 511] w fun e w' => ∃ V, e = .returned (.tuple #[V, .int .i64 0]) ∧ FracC w' V (mkRat 1 511) ∧ Grew w w' :=
  fof_any 1 511 w (by omega) (by omega) (by omega) (by omega)

set_option maxRecDepth 100000 in
set_option maxHeartbeats 4000000 in
theorem lives27_any (w : World) : Calls Try.prog 9 #[] w fun e w' => e = .returned (.bool true) ∧ Grew w w' := by
  go_enter Try.func9, Try.ntmps9
  go_wp2_with fail
  refine gen_calls ?_
  intro W0 hW0
  have G0 : Grew w W0 := by rw [hW0]; exact Grew.refl w
  clear hW0
  replace G0 := Lib.hid G0
  refine (fof_half _).mono ?_
  rintro e w1 ⟨V1, rfl, hV1, g1⟩
  have Y1 := Lib.hid (hV1.v QB_one2)
  obtain ⟨b3, A3, n3, c3, C3, m3, d3, rfl, -⟩ := hV1.laid
  have X1 := Y1
  clear hV1 Y1
  replace G0 := Lib.hid (G0.out.trans g1)
  clear g1
  go_wp2_with fail
  refine gen_calls ?_
  intro W1 hW1
  have gl : Grew w1 W1 := by rw [hW1]; exact (Grew.refl _).alloc _
  replace X1 := Lib.hid (X1.out.kept gl.keeps)
  have L : Box3 W1 (w1.heap.size) 0 (.bool b3) (.slice A3 n3 c3) (.slice C3 m3 d3) := by rw [hW1]; exact ⟨by simp [go_sem], by simp [go_sem], by simp [go_sem]⟩
  replace L := Lib.hid L
  have z0 : w1.heap.size < W1.heap.size := by rw [hW1]; simp <;> omega
  replace z0 := Lib.hid z0
  clear hW1
  replace G0 := Lib.hid (G0.out.trans gl)
  clear gl
  refine (fof_511 _).mono ?_
  rintro e w2 ⟨V2, rfl, hV2, g2⟩
  have Y2 := Lib.hid (hV2.v QB_511)
  obtain ⟨b4, A4, n4, c4, C4, m4, d4, rfl, -⟩ := hV2.laid
  have X2 := Y2
  clear hV2 Y2
  replace L := Lib.hid (L.out.grew g2)
  replace z0 := Lib.hid (lt_grew z0.out g2)
  replace X1 := Lib.hid (X1.out.kept g2.keeps)
  replace G0 := Lib.hid (G0.out.trans g2)
  clear g2
  go_upto_region 3 with fail
  refine gen_wp ?_
  intro W2 hW2
  have gl : Grew w2 W2 := by rw [hW2]; exact (Grew.refl _).alloc _
  replace L := Lib.hid (L.out.grew gl)
  replace z0 := Lib.hid (lt_grew z0.out gl)
  replace X1 := Lib.hid (X1.out.kept gl.keeps)
  replace X2 := Lib.hid (X2.out.kept gl.keeps)
  have M : Box3 W2 (w2.heap.size) 0 (.bool b4) (.slice A4 n4 c4) (.slice C4 m4 d4) := by rw [hW2]; exact ⟨by simp [go_sem], by simp [go_sem], by simp [go_sem]⟩
  replace M := Lib.hid M
  have z1 : w2.heap.size < W2.heap.size := by rw [hW2]; simp <;> omega
  replace z1 := Lib.hid z1
  clear hW2
  replace G0 := Lib.hid (G0.out.trans gl)
  clear gl
  obtain ⟨L0, L1, L2⟩ := L.out
  obtain ⟨M0, M1, M2⟩ := M.out
  go_wp2_with fail
  clear L0 L1 L2 M0 M1 M2
  refine (alevel_any _ _ 1 _ X1.out (by omega) (by omega)).mono ?_
  rintro e w3 ⟨rfl, g3⟩
  replace L := Lib.hid (L.out.grew g3)
  replace M := Lib.hid (M.out.grew g3)
  replace z0 := Lib.hid (lt_grew z0.out g3)
  replace z1 := Lib.hid (lt_grew z1.out g3)
  replace X1 := Lib.hid (X1.out.kept g3.keeps)
  replace X2 := Lib.hid (X2.out.kept g3.keeps)
  replace G0 := Lib.hid (G0.out.trans g3)
  clear g3
  rw [lev_half]
  obtain ⟨L0, L1, L2⟩ := L.out
  obtain ⟨M0, M1, M2⟩ := M.out
  go_wp2_with fail
  clear L0 L1 L2 M0 M1 M2
  refine (alevel_any _ _ 1 _ X2.out (by omega) (by omega)).mono ?_
  rintro e w4 ⟨rfl, g4⟩
  replace L := Lib.hid (L.out.grew g4)
  replace M := Lib.hid (M.out.grew g4)
  replace z0 := Lib.hid (lt_grew z0.out g4)
  replace z1 := Lib.hid (lt_grew z1.out g4)
  replace X1 := Lib.hid (X1.out.kept g4.keeps)
  replace X2 := Lib.hid (X2.out.kept g4.keeps)
  replace G0 := Lib.hid (G0.out.trans g4)
  clear g4
  rw [lev_small]
  go_wp2_with fail
  go_ret
  exact ⟨by rfl, G0.out⟩

set_option maxRecDepth 100000 in
set_option maxHeartbeats 4000000 in
theorem alphas_any (Va Vb : Value) (f g : Rat) (k : Nat) (w : World) (ha : FracR w Va f k) (hb : FracR w Vb g k) (hk : 1 ≤ k) (hs : k < 16777216) :
    Calls Try.prog 3 #[Va, Vb] w fun e w' => e = .returned (.bool true) ∧ Grew w w' := by
  obtain ⟨b1, A1, n1, c1, C1, m1, d1, rfl, Fa⟩ := ha.laid
  obtain ⟨b2, A2, n2, c2, C2, m2, d2, rfl, Fb⟩ := hb.laid
  have s1 := Lib.hid (show k + k < 549755813888 by omega)
  obtain ⟨x, hx⟩ : ∃ x, levQ f = x := ⟨_, rfl⟩
  obtain ⟨y, hy⟩ : ∃ y, levQ g = y := ⟨_, rfl⟩
  obtain ⟨s, hs5⟩ : ∃ s, cmpQ f g = s := ⟨_, rfl⟩
  have hr : ¬ 0 < s → x ≤ y := fun h => by rw [← hx, ← hy]; exact levQ_rise (by rw [hs5]; exact h)
  replace hx := Lib.hid hx
  replace hy := Lib.hid hy
  replace hs5 := Lib.hid hs5
  replace hr := Lib.hid hr
  clear ha hb
  go_enter Try.func3, Try.ntmps3
  go_wp2_with fail
  refine gen_wp ?_
  intro W0 hW0
  have G0 : Grew w W0 := by rw [hW0]; exact ((Grew.refl w).alloc _).alloc _
  have P : Box3 W0 (w.heap.size) 0 (.bool b1) (.slice A1 n1 c1) (.slice C1 m1 d1) := by rw [hW0]; exact ⟨by simp [go_sem], by simp [go_sem], by simp [go_sem]⟩
  replace P := Lib.hid P
  have Q : Box3 W0 (w.heap.size + 1) 0 (.bool b2) (.slice A2 n2 c2) (.slice C2 m2 d2) := by rw [hW0]; exact ⟨by simp [go_sem], by simp [go_sem], by simp [go_sem]⟩
  replace Q := Lib.hid Q
  have z0 : w.heap.size < W0.heap.size := by rw [hW0]; simp <;> omega
  replace z0 := Lib.hid z0
  have z1 : w.heap.size + 1 < W0.heap.size := by rw [hW0]; simp <;> omega
  replace z1 := Lib.hid z1
  clear hW0
  replace Fa := Lib.hid (Fa.out.kept G0.keeps)
  replace Fb := Lib.hid (Fb.out.kept G0.keeps)
  replace G0 := Lib.hid G0
  have gd : Grew W0 W0.drew := (Grew.refl W0).drew
  replace P := Lib.hid (P.out.grew gd)
  replace Q := Lib.hid (Q.out.grew gd)
  replace z0 := Lib.hid (lt_grew z0.out gd)
  replace z1 := Lib.hid (lt_grew z1.out gd)
  replace Fa := Lib.hid (Fa.out.kept gd.keeps)
  replace Fb := Lib.hid (Fb.out.kept gd.keeps)
  replace gd := Lib.hid gd
  have ZP := P
  have ZQ := Q
  go_region_held3 (fun w' => w'.cell? ⟨w.heap.size, 0, none⟩ = some (.bool b1) ∧ w'.cell? ⟨w.heap.size, 1, none⟩ = some (.slice A1 n1 c1) ∧ w'.cell? ⟨w.heap.size, 2, none⟩ = some (.slice C1 m1 d1) ∧ w'.cell? ⟨w.heap.size + 1, 0, none⟩ = some (.bool b2) ∧ w'.cell? ⟨w.heap.size + 1, 1, none⟩ = some (.slice A2 n2 c2) ∧ w'.cell? ⟨w.heap.size + 1, 2, none⟩ = some (.slice C2 m2 d2))
    (first | (with_reducible exact ⟨ZP.out.p0, ZP.out.p1, ZP.out.p2, ZQ.out.p0, ZQ.out.p1, ZQ.out.p2⟩) | (with_reducible exact ⟨g1.cell ZP.out.p0, g1.cell ZP.out.p1, g1.cell ZP.out.p2, g1.cell ZQ.out.p0, g1.cell ZQ.out.p1, g1.cell ZQ.out.p2⟩) | (with_reducible exact ⟨(g1.trans g2).cell ZP.out.p0, (g1.trans g2).cell ZP.out.p1, (g1.trans g2).cell ZP.out.p2, (g1.trans g2).cell ZQ.out.p0, (g1.trans g2).cell ZQ.out.p1, (g1.trans g2).cell ZQ.out.p2⟩))
    (first | (have chk := g1; clear chk; go_at_call 6; refine (alevel_any _ g k _ Fb.out.v hk hs).mono ?_; rintro e w2 ⟨rfl, g2⟩; rw [hy.out]; replace P := Lib.hid (P.out.grew g2); replace Q := Lib.hid (Q.out.grew g2); replace z0 := Lib.hid (lt_grew z0.out g2); replace z1 := Lib.hid (lt_grew z1.out g2); replace Fa := Lib.hid (Fa.out.kept g2.keeps); replace Fb := Lib.hid (Fb.out.kept g2.keeps)) | (go_at_call 6; refine (alevel_any _ f k _ Fa.out.v hk hs).mono ?_; rintro e w1 ⟨rfl, g1⟩; rw [hx.out]; replace P := Lib.hid (P.out.grew g1); replace Q := Lib.hid (Q.out.grew g1); replace z0 := Lib.hid (lt_grew z0.out g1); replace z1 := Lib.hid (lt_grew z1.out g1); replace Fa := Lib.hid (Fa.out.kept g1.keeps); replace Fb := Lib.hid (Fb.out.kept g1.keeps)))
  replace G0 := Lib.hid (((G0.out.trans gd.out).trans g1).trans g2)
  clear gd g1 g2 ZP ZQ
  obtain ⟨P0, P1, P2⟩ := P.out
  obtain ⟨Q0, Q1, Q2⟩ := Q.out
  go_wp2_with fail
  clear P0 P1 P2 Q0 Q1 Q2
  refine (rlevel_any _ f k _ Fa.out hk hs).mono ?_
  rintro e w3 ⟨rfl, g3⟩
  replace P := Lib.hid (P.out.grew g3)
  replace Q := Lib.hid (Q.out.grew g3)
  replace z0 := Lib.hid (lt_grew z0.out g3)
  replace z1 := Lib.hid (lt_grew z1.out g3)
  replace Fa := Lib.hid (Fa.out.kept g3.keeps)
  replace Fb := Lib.hid (Fb.out.kept g3.keeps)
  replace G0 := Lib.hid (G0.out.trans g3)
  clear g3
  rw [hx.out]
  obtain ⟨P0, P1, P2⟩ := P.out
  obtain ⟨Q0, Q1, Q2⟩ := Q.out
  go_wp2_with fail
  clear P0 P1 P2 Q0 Q1 Q2
  refine (rlevel_any _ g k _ Fb.out hk hs).mono ?_
  rintro e w4 ⟨rfl, g4⟩
  replace P := Lib.hid (P.out.grew g4)
  replace Q := Lib.hid (Q.out.grew g4)
  replace z0 := Lib.hid (lt_grew z0.out g4)
  replace z1 := Lib.hid (lt_grew z1.out g4)
  replace Fa := Lib.hid (Fa.out.kept g4.keeps)
  replace Fb := Lib.hid (Fb.out.kept g4.keeps)
  replace G0 := Lib.hid (G0.out.trans g4)
  clear g4
  rw [hy.out]
  obtain ⟨P0, P1, P2⟩ := P.out
  obtain ⟨Q0, Q1, Q2⟩ := Q.out
  go_wp2_with fail
  clear P0 P1 P2 Q0 Q1 Q2
  refine (fcmp_any _ _ f g k k _ Fa.out.v Fb.out.v hk hk s1.out).mono ?_
  rintro e w5 ⟨rfl, g5⟩
  replace P := Lib.hid (P.out.grew g5)
  replace Q := Lib.hid (Q.out.grew g5)
  replace z0 := Lib.hid (lt_grew z0.out g5)
  replace z1 := Lib.hid (lt_grew z1.out g5)
  replace Fa := Lib.hid (Fa.out.kept g5.keeps)
  replace Fb := Lib.hid (Fb.out.kept g5.keeps)
  replace G0 := Lib.hid (G0.out.trans g5)
  clear g5
  rw [hs5.out]

  by_cases h : 0 < s
  · as_aux_lemma =>
    go_wp2_with fail
    refine (lives27_any _).mono ?_
    rintro e w6 ⟨rfl, g6⟩
    replace P := Lib.hid (P.out.grew g6)
    replace Q := Lib.hid (Q.out.grew g6)
    replace z0 := Lib.hid (lt_grew z0.out g6)
    replace z1 := Lib.hid (lt_grew z1.out g6)
    replace Fa := Lib.hid (Fa.out.kept g6.keeps)
    replace Fb := Lib.hid (Fb.out.kept g6.keeps)
    replace G0 := Lib.hid (G0.out.trans g6)
    clear g6
    go_wp2_with fail
    go_ret
    exact ⟨by rfl, G0.out⟩
  · as_aux_lemma =>

    have hxy := hr.out (by omega)
    go_wp2_with fail
    refine (lives27_any _).mono ?_
    rintro e w6 ⟨rfl, g6⟩
    replace P := Lib.hid (P.out.grew g6)
    replace Q := Lib.hid (Q.out.grew g6)
    replace z0 := Lib.hid (lt_grew z0.out g6)
    replace z1 := Lib.hid (lt_grew z1.out g6)
    replace Fa := Lib.hid (Fa.out.kept g6.keeps)
    replace Fb := Lib.hid (Fb.out.kept g6.keeps)
    replace G0 := Lib.hid (G0.out.trans g6)
    clear g6
    go_wp2_with fail
    go_ret
    exact ⟨by rfl, G0.out⟩
end Go.Proofs.Ytpglnfccmhkocaa
namespace Go.Proofs.Ytpglnfccmhkocaa
open Go.ChangeShapes Go.WideShapes Go.ChangeAt Go.RowKit

theorem FracR.mono {w : World} {V : Value} {q : Rat} {k l : Nat} (h : FracR w V q k) (e : k ≤ l) : FracR w V q l := by
  obtain ⟨neg, N, D, n, m, va, vd, e1, h1, h2, h3, h4, h5⟩ := h
  exact ⟨neg, N, D, n, m, va, vd, e1, h1, h2, h3, by omega, by omega⟩

theorem cells_u32 : Try.prog.cellsOf 80 = 1 := by kernel_rfl

section
variable {H : Type} {enc : TypeId × Value → H} {w : World} {base : Nat} {spare : Nat → Bool} {held : Bool}

theorem bulk_lits (k : IntKind) : ∀ zs : List Int, Rows.uptoBulkAll (H := H) (lits k zs) = zs.length
  | [] => by simp [lits, Rows.uptoBulkAll]
  | z :: zs => by
    have h := bulk_lits k zs
    unfold lits at h ⊢
    simp only [List.map_cons, Rows.uptoBulkAll, Rows.uptoBulk, h, List.length_cons]
    omega

/-- A slice of words that comes in reads as a number. -/
theorem open_words {fuel : Nat} {cs : List Value} {x : DataW H × List MemPlace} (h : DataW.trod enc Try.prog w base spare held fuel 22 cs = some x) :
    ∃ A n c N, cs = [.slice A n c] ∧ Num 4294967296 .u32 w (.slice A n c) N n ∧ n ≤ Rows.uptoBulk x.1 := by
  rcases open_ints Try.underlying22 Try.underlying80 cells_u32 h with ⟨rfl, rfl⟩ | ⟨a, ln, cap, zs, rfl, _, hl, hm, hz, rfl, hcell, hwz⟩
  · exact ⟨none, 0, 0, 0, rfl, Num.nil _ _ _, by omega⟩
  · have hzl : ln ≤ zs.length := by rw [hz]; split <;> omega
    have hu : ∀ z ∈ zs, 0 ≤ z ∧ z < 4294967296 := by
      intro z hzm
      have h1 := hwz z hzm
      have h2 : IntKind.u32.min = 0 := rfl
      have h3 : IntKind.u32.max = 4294967295 := rfl
      simp only [Lit.wf, Bool.and_eq_true, decide_eq_true_eq] at h1
      omega
    let xs : List Nat := (zs.take ln).map Int.toNat
    have hxl : xs.length = ln := by simp [xs]; omega
    have hxb : ∀ y ∈ xs, y < 4294967296 := by
      intro y hy
      obtain ⟨z, hz1, rfl⟩ := List.mem_map.1 hy
      have := hu z (List.mem_of_mem_take hz1)
      omega
    have hN : val 4294967296 xs < 4294967296 ^ ln := by rw [← hxl]; exact val_lt (by omega) xs hxb
    have hnum : Num 4294967296 .u32 w (.slice (some a) ln cap) (val 4294967296 xs) ln := by
      refine ⟨some a, cap, rfl, hl, by unfold maxLen at hm; omega, hN, fun h0 => ?_⟩
      obtain ⟨b, off, sp⟩ := a
      have hsp : sp = none := by simpa [Addr.add] using World.cell?_spot (hcell 0 (by omega))
      subst hsp
      refine ⟨b, off, rfl, fun i hi => ?_⟩
      have hc := hcell i (by omega)
      rw [add_plain] at hc
      rw [hc, dig_val (by omega) xs hxb i]
      have hi' : i < zs.length := by omega
      have e : xs.getD i 0 = (zs.getD i 0).toNat := by simp [xs, hi, hi']
      have hz0 := hu (zs.getD i 0) (by simp [hi'])
      rw [e, Int.toNat_of_nonneg hz0.1]
    refine ⟨some a, ln, cap, _, rfl, hnum, ?_⟩
    have h2 : Rows.uptoBulk (DataW.slice (lits (H := H) .u32 (zs.take ln)) (lits .u32 (zs.drop ln))) ≥ ln := by
      simp only [Rows.uptoBulk, bulk_lits, List.length_take, List.length_drop]
      omega
    exact h2

set_option maxRecDepth 100000 in
theorem open_frac {fuel : Nat} {cs : List Value} {x : DataW H × List MemPlace} (h : DataW.trod enc Try.prog w base spare held fuel 26 cs = some x) :
    ∃ b A n c C m d q, cs = [.bool b, .slice A n c, .slice C m d] ∧ FracR w (.agg #[.bool b, .slice A n c, .slice C m d]) q (Rows.uptoBulk x.1) := by
  obtain ⟨y0, y1, n1, rfl, hl, h0, h1⟩ := trod_struct2 Try.underlying26 h
  obtain ⟨z0, z1, n2, rfl, hl2, g0, g1⟩ := trod_struct2 Try.underlying24 h0
  have e3 : Try.prog.cellsOf 26 = 3 := by kernel_rfl
  have e2 : Try.prog.cellsOf 24 = 2 := by kernel_rfl
  have e1 : Try.prog.cellsOf 22 = 1 := by kernel_rfl
  have e0 : Try.prog.cellsOf 4 = 1 := by kernel_rfl
  rw [e3] at hl
  match cs, hl with
  | [a0, a1, a2], _ =>
    simp only [e0, e1, e2, List.drop_zero, List.drop_succ_cons, List.take_succ_cons, List.take_zero] at h1 g0 g1
    obtain ⟨b, hb, -⟩ := DataW.trod_bool Try.underlying4 g0
    obtain ⟨A, n, c, N, hA, hN, hNl⟩ := open_words g1
    obtain ⟨C, m, d, D, hC, hD, hDl⟩ := open_words h1
    injection hb with hb
    injection hA with hA
    injection hC with hC
    subst hb; subst hA; subst hC
    refine ⟨b, A, n, c, C, m, d, _, rfl, b, N, D, n, m, _, _, rfl, hN, hD, rfl, ?_, ?_⟩
    · simp only [Rows.uptoBulk, Rows.uptoBulkAll]; omega
    · simp only [Rows.uptoBulk, Rows.uptoBulkAll]; omega

end

/-- The row's last step where only new memory was made. -/
theorem post_grew {H : Type} {enc : TypeId × Value → H} {P : Program} {f : Func} {s : ChangeSpec} {apart fresh handsOn again : Bool} {W W' : World} {args : Array Value} {v : Value} {ds gs : List (DataW H)} {before pa pv : List MemPlace}
    (hW : DataW.Whole enc P f.params.toList s.vars apart W args.toList ds gs before)
    (hres : ∀ (b : Nat) (sp : Nat → Bool) (hd : Bool), DataW.TrodAll enc P W' b sp hd f.resultTypes.toList (v.resultList f.resultTypes.size) (s.fn H (ds ++ gs)).results [])
    (hargs : ∀ sp : Nat → Bool, (∀ p ∈ before, sp p.block = true) → DataW.TrodAll enc P W' 0 sp true f.params.toList args.toList (s.fn H (ds ++ gs)).args pa)
    (hvars : ∀ sp : Nat → Bool, (∀ p ∈ before, sp p.block = true) → DataW.TrodVars enc P W' sp s.vars (s.fn H (ds ++ gs)).vars pv)
    (hps : before = pa ++ pv) (g : Grew W W')
    (hok : ∀ (j : Nat) (t : TypeId) (r : Value), f.resultTypes[j]? = some t → (v.resultList f.resultTypes.size)[j]? = some r → Value.okWide P W' .any 0 t r) :
    s.post enc P f apart fresh handsOn again W args v W' := by
  have hb := g.below
  have hlt : ∀ p ∈ before, p.block < W.heap.size := fun p hp => hW.lt p hp
  have hold : ∀ p ∈ before, (fun b => decide (b < W.heap.size)) p.block = true := fun p hp => by simpa using hlt p hp
  refine ⟨ds, gs, before, [], pa, pv, hW, hres _ _ _, hargs _ hold, hvars _ hold, World.keptBut_mono (fun p hp => ⟨hp, ?_⟩) (hb.frame (· ∈ before)), fun _ => ?_⟩
  · rw [hps, List.mem_append] at hp
    exact Or.inr hp
  · obtain ⟨_, _, _, _, _, hz, hn⟩ := hW
    refine ⟨hok, _, _, ([] ++ pa) ++ pv, ⟨[] ++ pa, pv, trodAll_append (hargs _ (fun _ _ => rfl)) (hres _ _ _), hvars _ (fun _ _ => rfl), rfl, ?_, ?_⟩, ?_⟩
    · intro b off hp
      have hin : MemPlace.cell b off ∈ before := by rw [hps]; simpa using hp
      rw [hb.frozen (hlt _ hin)]
      exact hz b off hin
    · intro ha
      have := hn ha
      rw [hps] at this
      simpa using this
    · intro p hp _
      rw [hps]
      simpa using hp
end Go.Proofs.Ytpglnfccmhkocaa
