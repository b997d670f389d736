/- law17.lives: two ways meet in the middle. Condition: none. CrossMeets, the walk. Condition: ints of 64 bits. How spots come in: an argument of type api.Spot reads as two fractions, of no more words than its reading's bulk. Conditions: none. How points of the grid come in. Conditions: none. -/
import Derived.Test.YthhgogpglocjdaaGreatJMeetP3
import Derived.Test.YthhgogpglocjdaaGreatJRoundsP
import Derived.Test.YthhgogpglocjdaaGreatJRCross
import Derived.Test.YthhgogpglocjdaaGreatJRowP
import Derived.Test.YthhgogpglocjdaaGreatRows
import Derived.WalkKit
import Derived.ProofKit
import Derived.OpenShut
import Derived.JoinedCond
import Derived.ChangeSlices
import Derived.Carry
import Derived.Test.YthhgogpglocjdaaGreatJGrid2
namespace Go.Proofs.YthhgogpglocjdaaGreat
open Go.RowKit

theorem meet_lives : meetQ 0 0 4 4 0 4 4 0 = [(((2 : Int) : Rat), ((2 : Int) : Rat))] := by decide +kernel

set_option maxRecDepth 100000 in
set_option maxHeartbeats 4000000 in
theorem lives17_any (w : World) : Calls Tryz.prog 11 #[] w fun e w' => e = .returned (.bool true) ∧ Grew w w' := by
  go_enter Tryz.func11, Tryz.ntmps11
  go_wp2_with fail
  refine (meet_any 0 0 4 4 0 4 4 0 _ (by unfold In64; omega) (by unfold In64; omega) (by unfold In64; omega) (by unfold In64; omega)).mono ?_
  rintro e w1 ⟨v, rfl, hv, g1⟩
  rw [meet_lives] at hv
  obtain ⟨A, c, rfl, h1, h2, h3⟩ := hv
  obtain ⟨b, o, rfl, he⟩ := h3 (by simp)
  obtain ⟨b1, A1, n1, c1, C1, m1, d1, b2, A2, n2, c2, C2, m2, d2, ⟨e0, e1, e2, e3, e4, e5⟩, S1⟩ := he 0 _ rfl
  replace e0 : w1.cell? ⟨b, o, none⟩ = some (.bool b1) := e0
  replace e1 : w1.cell? ⟨b, o + 1, none⟩ = some (.slice A1 n1 c1) := e1
  replace e2 : w1.cell? ⟨b, o + 2, none⟩ = some (.slice C1 m1 d1) := e2
  replace e3 : w1.cell? ⟨b, o + 3, none⟩ = some (.bool b2) := e3
  replace e4 : w1.cell? ⟨b, o + 4, none⟩ = some (.slice A2 n2 c2) := e4
  replace e5 : w1.cell? ⟨b, o + 5, none⟩ = some (.slice C2 m2 d2) := e5
  have hv := Lib.hid (SpotC.v (k := 1) S1 (QB_int 2 1 (by rw [show (2 : Int).natAbs = 2 from rfl, len_lt_base (by omega) (by omega)]; exact Nat.le_refl _) (by omega)) (QB_int 2 1 (by rw [show (2 : Int).natAbs = 2 from rfl, len_lt_base (by omega) (by omega)]; exact Nat.le_refl _) (by omega)))
  replace g1 := Lib.hid g1
  have h4 : c ≤ 9223372036854775807 := h2
  clear S1 he h3
  simp only [List.length_cons, List.length_nil] at h1 ⊢
  go_wp2_with fail
  refine (stext_int 2 2 _ _ (Lib.hid wt2) (Lib.hid wt2) rfl (.inl rfl) _ 1 _ hv.out (by omega) (by omega)).mono ?_
  rintro e w3 ⟨rfl, g3⟩
  have es : digS 2 ++ (⟨#[32]⟩ : ByteArray) ++ digS 2 = (⟨#[50, 32, 50]⟩ : ByteArray) := rfl
  rw [es]
  have g9 := Lib.hid (g1.out.trans g3)
  clear g3 e0 e1 e2 e3 e4 e5
  go_wp2_with fail
  go_ret
  exact ⟨by rfl, g9.out⟩
end Go.Proofs.YthhgogpglocjdaaGreat
namespace Go.Proofs.YthhgogpglocjdaaGreat
open Go.RowKit

set_option maxRecDepth 100000 in
set_option maxHeartbeats 16000000 in
theorem meetsl_any (ax ay bx b_y cx cy dx dy : Int) (w : World) (ra : In64 ax ay) (rb : In64 bx b_y) (rc : In64 cx cy) (rd : In64 dx dy) :
    Calls Tryz.prog 3 #[segV ax ay bx b_y, segV cx cy dx dy] w fun e w' => e = .returned (.bool true) ∧ Grew w w' := by
  obtain ⟨L, hL2⟩ : ∃ L, rmeetQ ax ay bx b_y cx cy dx dy = L := ⟨_, rfl⟩
  have hL1 := Lib.hid ((meetQ_eq ax ay bx b_y cx cy dx dy).trans hL2)
  obtain ⟨o, hC2⟩ : ∃ o, rcrossB ax ay bx b_y cx cy dx dy (rmeetQ ax ay bx b_y cx cy dx dy) = o := ⟨_, rfl⟩
  have hC1 := Lib.hid ((crossB_eq ax ay bx b_y cx cy dx dy).trans hC2)
  replace hL2 := Lib.hid hL2
  replace hC2 := Lib.hid hC2
  replace ra := Lib.hid ra
  replace rb := Lib.hid rb
  replace rc := Lib.hid rc
  replace rd := Lib.hid rd
  have oo : (o == o) = true := by simp
  go_enter Tryz.func3, Tryz.ntmps3
  go_wp2_with fail
  refine gen_wp ?_
  intro W0 hW0
  have G0 : Grew w W0 := by rw [hW0]; exact ((Grew.refl w).alloc _).alloc _
  have P : Box4 W0 (w.heap.size) 0 (.int .i64 ax) (.int .i64 ay) (.int .i64 bx) (.int .i64 b_y) := by rw [hW0]; exact ⟨by simp [go_sem], by simp [go_sem], by simp [go_sem], by simp [go_sem]⟩
  replace P := Lib.hid P
  have Q : Box4 W0 (w.heap.size + 1) 0 (.int .i64 cx) (.int .i64 cy) (.int .i64 dx) (.int .i64 dy) := by rw [hW0]; exact ⟨by simp [go_sem], by simp [go_sem], by simp [go_sem], by simp [go_sem]⟩
  replace Q := Lib.hid Q
  have z0 : w.heap.size < W0.heap.size := by rw [hW0]; simp <;> omega
  replace z0 := Lib.hid z0
  have z1 : w.heap.size + 1 < W0.heap.size := by rw [hW0]; simp <;> omega
  replace z1 := Lib.hid z1
  clear hW0
  replace G0 := Lib.hid G0
  have gd : Grew W0 W0.drew := (Grew.refl W0).drew
  replace P := Lib.hid (P.out.grew gd)
  replace Q := Lib.hid (Q.out.grew gd)
  replace z0 := Lib.hid (lt_grew z0.out gd)
  replace z1 := Lib.hid (lt_grew z1.out gd)
  replace gd := Lib.hid gd
  have ZP := P
  have ZQ := Q
  go_region_held3 (fun w' => w'.cell? ⟨w.heap.size, 0, none⟩ = some (.int .i64 ax) ∧ w'.cell? ⟨w.heap.size, 1, none⟩ = some (.int .i64 ay) ∧ w'.cell? ⟨w.heap.size, 2, none⟩ = some (.int .i64 bx) ∧ w'.cell? ⟨w.heap.size, 3, none⟩ = some (.int .i64 b_y) ∧ w'.cell? ⟨w.heap.size + 1, 0, none⟩ = some (.int .i64 cx) ∧ w'.cell? ⟨w.heap.size + 1, 1, none⟩ = some (.int .i64 cy) ∧ w'.cell? ⟨w.heap.size + 1, 2, none⟩ = some (.int .i64 dx) ∧ w'.cell? ⟨w.heap.size + 1, 3, none⟩ = some (.int .i64 dy))
    (first | (with_reducible exact ⟨ZP.out.p0, ZP.out.p1, ZP.out.p2, ZP.out.p3, ZQ.out.p0, ZQ.out.p1, ZQ.out.p2, ZQ.out.p3⟩) | (with_reducible exact ⟨g1.cell ZP.out.p0, g1.cell ZP.out.p1, g1.cell ZP.out.p2, g1.cell ZP.out.p3, g1.cell ZQ.out.p0, g1.cell ZQ.out.p1, g1.cell ZQ.out.p2, g1.cell ZQ.out.p3⟩) | (with_reducible exact ⟨(g1.trans g2).cell ZP.out.p0, (g1.trans g2).cell ZP.out.p1, (g1.trans g2).cell ZP.out.p2, (g1.trans g2).cell ZP.out.p3, (g1.trans g2).cell ZQ.out.p0, (g1.trans g2).cell ZQ.out.p1, (g1.trans g2).cell ZQ.out.p2, (g1.trans g2).cell ZQ.out.p3⟩) | (with_reducible exact ⟨((g1.trans g2).trans g3).cell ZP.out.p0, ((g1.trans g2).trans g3).cell ZP.out.p1, ((g1.trans g2).trans g3).cell ZP.out.p2, ((g1.trans g2).trans g3).cell ZP.out.p3, ((g1.trans g2).trans g3).cell ZQ.out.p0, ((g1.trans g2).trans g3).cell ZQ.out.p1, ((g1.trans g2).trans g3).cell ZQ.out.p2, ((g1.trans g2).trans g3).cell ZQ.out.p3⟩) | (with_reducible exact ⟨(((g1.trans g2).trans g3).trans g4).cell ZP.out.p0, (((g1.trans g2).trans g3).trans g4).cell ZP.out.p1, (((g1.trans g2).trans g3).trans g4).cell ZP.out.p2, (((g1.trans g2).trans g3).trans g4).cell ZP.out.p3, (((g1.trans g2).trans g3).trans g4).cell ZQ.out.p0, (((g1.trans g2).trans g3).trans g4).cell ZQ.out.p1, (((g1.trans g2).trans g3).trans g4).cell ZQ.out.p2, (((g1.trans g2).trans g3).trans g4).cell ZQ.out.p3⟩) | (with_reducible exact ⟨((((g1.trans g2).trans g3).trans g4).trans g5).cell ZP.out.p0, ((((g1.trans g2).trans g3).trans g4).trans g5).cell ZP.out.p1, ((((g1.trans g2).trans g3).trans g4).trans g5).cell ZP.out.p2, ((((g1.trans g2).trans g3).trans g4).trans g5).cell ZP.out.p3, ((((g1.trans g2).trans g3).trans g4).trans g5).cell ZQ.out.p0, ((((g1.trans g2).trans g3).trans g4).trans g5).cell ZQ.out.p1, ((((g1.trans g2).trans g3).trans g4).trans g5).cell ZQ.out.p2, ((((g1.trans g2).trans g3).trans g4).trans g5).cell ZQ.out.p3⟩) | (with_reducible exact ⟨(((((g1.trans g2).trans g3).trans g4).trans g5).trans g6).cell ZP.out.p0, (((((g1.trans g2).trans g3).trans g4).trans g5).trans g6).cell ZP.out.p1, (((((g1.trans g2).trans g3).trans g4).trans g5).trans g6).cell ZP.out.p2, (((((g1.trans g2).trans g3).trans g4).trans g5).trans g6).cell ZP.out.p3, (((((g1.trans g2).trans g3).trans g4).trans g5).trans g6).cell ZQ.out.p0, (((((g1.trans g2).trans g3).trans g4).trans g5).trans g6).cell ZQ.out.p1, (((((g1.trans g2).trans g3).trans g4).trans g5).trans g6).cell ZQ.out.p2, (((((g1.trans g2).trans g3).trans g4).trans g5).trans g6).cell ZQ.out.p3⟩))
    (first | (have chk := g5; clear chk; go_at_call 11; refine (lives17_any _).mono ?_; rintro e w6 ⟨rfl, g6⟩; replace P := Lib.hid (P.out.grew g6); replace Q := Lib.hid (Q.out.grew g6); replace z0 := Lib.hid (lt_grew z0.out g6); replace z1 := Lib.hid (lt_grew z1.out g6)) | (have chk := g4; clear chk; go_at_call 10; refine (rcross_any ax ay bx b_y cx cy dx dy _ ra.out rb.out rc.out rd.out).mono ?_; rintro e w5 ⟨rfl, g5⟩; rw [hC2.out]; replace P := Lib.hid (P.out.grew g5); replace Q := Lib.hid (Q.out.grew g5); replace z0 := Lib.hid (lt_grew z0.out g5); replace z1 := Lib.hid (lt_grew z1.out g5)) | (have chk := g3; clear chk; go_at_call 9; refine (cross_any ax ay bx b_y cx cy dx dy _).mono ?_; rintro e w4 ⟨rfl, g4⟩; rw [hC1.out]; replace P := Lib.hid (P.out.grew g4); replace Q := Lib.hid (Q.out.grew g4); replace z0 := Lib.hid (lt_grew z0.out g4); replace z1 := Lib.hid (lt_grew z1.out g4)) | (have chk := g2; clear chk; go_at_call 6; refine (rowsame_yes _ _ L _ hV1.out hV2.out).mono ?_; rintro e w3 ⟨rfl, g3⟩; replace P := Lib.hid (P.out.grew g3); replace Q := Lib.hid (Q.out.grew g3); replace z0 := Lib.hid (lt_grew z0.out g3); replace z1 := Lib.hid (lt_grew z1.out g3)) | (have chk := g1; clear chk; go_at_call 8; refine (rmeet_any ax ay bx b_y cx cy dx dy _ ra.out rb.out rc.out rd.out).mono ?_; rintro e w2 ⟨V2, rfl, hV2, g2⟩; rw [hL2.out] at hV2; replace hV2 := Lib.hid hV2; replace hV1 := Lib.hid (RowC.grew hV1.out g2); replace P := Lib.hid (P.out.grew g2); replace Q := Lib.hid (Q.out.grew g2); replace z0 := Lib.hid (lt_grew z0.out g2); replace z1 := Lib.hid (lt_grew z1.out g2)) | (go_at_call 7; refine (meet_any ax ay bx b_y cx cy dx dy _ ra.out rb.out rc.out rd.out).mono ?_; rintro e w1 ⟨V1, rfl, hV1, g1⟩; rw [hL1.out] at hV1; replace hV1 := Lib.hid hV1; replace P := Lib.hid (P.out.grew g1); replace Q := Lib.hid (Q.out.grew g1); replace z0 := Lib.hid (lt_grew z0.out g1); replace z1 := Lib.hid (lt_grew z1.out g1)))
  replace G0 := Lib.hid (((((((G0.out.trans gd.out).trans g1).trans g2).trans g3).trans g4).trans g5).trans g6)
  clear gd g1 g2 g3 g4 g5 g6 ZP ZQ
  go_wp2_with fail
  go_ret
  exact ⟨by rfl, G0.out⟩
end Go.Proofs.YthhgogpglocjdaaGreat
namespace Go.Proofs.YthhgogpglocjdaaGreat
open Go.ChangeShapes Go.WideShapes Go.ChangeAt Go.RowKit

theorem cells_u32 : Tryz.prog.cellsOf 91 = 1 := by kernel_rfl

section
variable {H : Type} {enc : TypeId × Value → H} {w : World} {base : Nat} {spare : Nat → Bool} {held : Bool}

theorem bulk_lits (k : IntKind) : ∀ zs : List Int, Rows.uptoBulkAll (H := H) (lits k zs) = zs.length
  | [] => by simp [lits, Rows.uptoBulkAll]
  | z :: zs => by
    have h := bulk_lits k zs
    unfold lits at h ⊢
    simp only [List.map_cons, Rows.uptoBulkAll, Rows.uptoBulk, h, List.length_cons]
    omega

/-- A slice of words that comes in reads as a number. -/
theorem open_words {fuel : Nat} {cs : List Value} {x : DataW H × List MemPlace} (h : DataW.trod enc Tryz.prog w base spare held fuel 33 cs = some x) :
    ∃ A n c N, cs = [.slice A n c] ∧ Num 4294967296 .u32 w (.slice A n c) N n ∧ n ≤ Rows.uptoBulk x.1 := by
  rcases open_ints Tryz.underlying33 Tryz.underlying91 cells_u32 h with ⟨rfl, rfl⟩ | ⟨a, ln, cap, zs, rfl, _, hl, hm, hz, rfl, hcell, hwz⟩
  · exact ⟨none, 0, 0, 0, rfl, Num.nil _ _ _, by omega⟩
  · have hzl : ln ≤ zs.length := by rw [hz]; split <;> omega
    have hu : ∀ z ∈ zs, 0 ≤ z ∧ z < 4294967296 := by
      intro z hzm
      have h1 := hwz z hzm
      have h2 : IntKind.u32.min = 0 := rfl
      have h3 : IntKind.u32.max = 4294967295 := rfl
      simp only [Lit.wf, Bool.and_eq_true, decide_eq_true_eq] at h1
      omega
    let xs : List Nat := (zs.take ln).map Int.toNat
    have hxl : xs.length = ln := by simp [xs]; omega
    have hxb : ∀ y ∈ xs, y < 4294967296 := by
      intro y hy
      obtain ⟨z, hz1, rfl⟩ := List.mem_map.1 hy
      have := hu z (List.mem_of_mem_take hz1)
      omega
    have hN : val 4294967296 xs < 4294967296 ^ ln := by rw [← hxl]; exact val_lt (by omega) xs hxb
    have hnum : Num 4294967296 .u32 w (.slice (some a) ln cap) (val 4294967296 xs) ln := by
      refine ⟨some a, cap, rfl, hl, by unfold maxLen at hm; omega, hN, fun h0 => ?_⟩
      obtain ⟨b, off, sp⟩ := a
      have hsp : sp = none := by simpa [Addr.add] using World.cell?_spot (hcell 0 (by omega))
      subst hsp
      refine ⟨b, off, rfl, fun i hi => ?_⟩
      have hc := hcell i (by omega)
      rw [add_plain] at hc
      rw [hc, dig_val (by omega) xs hxb i]
      have hi' : i < zs.length := by omega
      have e : xs.getD i 0 = (zs.getD i 0).toNat := by simp [xs, hi, hi']
      have hz0 := hu (zs.getD i 0) (by simp [hi'])
      rw [e, Int.toNat_of_nonneg hz0.1]
    refine ⟨some a, ln, cap, _, rfl, hnum, ?_⟩
    have h2 : Rows.uptoBulk (DataW.slice (lits (H := H) .u32 (zs.take ln)) (lits .u32 (zs.drop ln))) ≥ ln := by
      simp only [Rows.uptoBulk, bulk_lits, List.length_take, List.length_drop]
      omega
    exact h2

set_option maxRecDepth 100000 in
theorem open_frac {fuel : Nat} {cs : List Value} {x : DataW H × List MemPlace} (h : DataW.trod enc Tryz.prog w base spare held fuel 37 cs = some x) :
    ∃ b A n c C m d q, cs = [.bool b, .slice A n c, .slice C m d] ∧ FracR w (.agg #[.bool b, .slice A n c, .slice C m d]) q (Rows.uptoBulk x.1) := by
  obtain ⟨y0, y1, n1, rfl, hl, h0, h1⟩ := trod_struct2 Tryz.underlying37 h
  obtain ⟨z0, z1, n2, rfl, hl2, g0, g1⟩ := trod_struct2 Tryz.underlying35 h0
  have e3 : Tryz.prog.cellsOf 37 = 3 := by kernel_rfl
  have e2 : Tryz.prog.cellsOf 35 = 2 := by kernel_rfl
  have e1 : Tryz.prog.cellsOf 33 = 1 := by kernel_rfl
  have e0 : Tryz.prog.cellsOf 4 = 1 := by kernel_rfl
  rw [e3] at hl
  match cs, hl with
  | [a0, a1, a2], _ =>
    simp only [e0, e1, e2, List.drop_zero, List.drop_succ_cons, List.take_succ_cons, List.take_zero] at h1 g0 g1
    obtain ⟨b, hb, -⟩ := DataW.trod_bool Tryz.underlying4 g0
    obtain ⟨A, n, c, N, hA, hN, hNl⟩ := open_words g1
    obtain ⟨C, m, d, D, hC, hD, hDl⟩ := open_words h1
    injection hb with hb
    injection hA with hA
    injection hC with hC
    subst hb; subst hA; subst hC
    refine ⟨b, A, n, c, C, m, d, _, rfl, b, N, D, n, m, _, _, rfl, hN, hD, rfl, ?_, ?_⟩
    · simp only [Rows.uptoBulk, Rows.uptoBulkAll]; omega
    · simp only [Rows.uptoBulk, Rows.uptoBulkAll]; omega

set_option maxRecDepth 100000 in
theorem open_spot {fuel : Nat} {cs : List Value} {x : DataW H × List MemPlace} (h : DataW.trod enc Tryz.prog w base spare held fuel 39 cs = some x) :
    ∃ p q, SpotR w (.agg cs.toArray) p q (Rows.uptoBulk x.1) := by
  obtain ⟨y0, y1, n1, rfl, hl, h0, h1⟩ := trod_struct2 Tryz.underlying39 h
  have e6 : Tryz.prog.cellsOf 39 = 6 := by kernel_rfl
  have e3 : Tryz.prog.cellsOf 37 = 3 := by kernel_rfl
  rw [e6] at hl
  match cs, hl with
  | [a0, a1, a2, a3, a4, a5], _ =>
    simp only [e3, List.drop_zero, List.drop_succ_cons, List.take_succ_cons, List.take_zero] at h0 h1
    obtain ⟨b, A, n, c, C, m, d, p, e, hp⟩ := open_frac h0
    obtain ⟨b', A', n', c', C', m', d', q, e', hq⟩ := open_frac h1
    injection e with i0 e; injection e with i1 e; injection e with i2 e
    injection e' with i3 e'; injection e' with i4 e'; injection e' with i5 e'
    subst i0; subst i1; subst i2; subst i3; subst i4; subst i5
    obtain ⟨neg, N, D, n1, m1, va, vd, w1, w2, w3, w4, w5, w6⟩ := hp
    obtain ⟨neg', N', D', n1', m1', va', vd', w1', w2', w3', w4', w5', w6'⟩ := hq
    refine ⟨p, q, b, A, n, c, C, m, d, b', A', n', c', C', m', d', rfl, ⟨neg, N, D, n1, m1, va, vd, w1, w2, w3, w4, ?_, ?_⟩, ⟨neg', N', D', n1', m1', va', vd', w1', w2', w3', w4', ?_, ?_⟩⟩ <;>
      (simp only [Rows.uptoBulk, Rows.uptoBulkAll]; omega)
end

/-- The row's last step where only new memory was made. -/
theorem post_grew {H : Type} {enc : TypeId × Value → H} {P : Program} {f : Func} {s : ChangeSpec} {apart fresh handsOn again : Bool} {W W' : World} {args : Array Value} {v : Value} {ds gs : List (DataW H)} {before pa pv : List MemPlace}
    (hW : DataW.Whole enc P f.params.toList s.vars apart W args.toList ds gs before)
    (hres : ∀ (b : Nat) (sp : Nat → Bool) (hd : Bool), DataW.TrodAll enc P W' b sp hd f.resultTypes.toList (v.resultList f.resultTypes.size) (s.fn H (ds ++ gs)).results [])
    (hargs : ∀ sp : Nat → Bool, (∀ p ∈ before, sp p.block = true) → DataW.TrodAll enc P W' 0 sp true f.params.toList args.toList (s.fn H (ds ++ gs)).args pa)
    (hvars : ∀ sp : Nat → Bool, (∀ p ∈ before, sp p.block = true) → DataW.TrodVars enc P W' sp s.vars (s.fn H (ds ++ gs)).vars pv)
    (hps : before = pa ++ pv) (g : Grew W W')
    (hok : ∀ (j : Nat) (t : TypeId) (r : Value), f.resultTypes[j]? = some t → (v.resultList f.resultTypes.size)[j]? = some r → Value.okWide P W' .any 0 t r) :
    s.post enc P f apart fresh handsOn again W args v W' := by
  have hb := g.below
  have hlt : ∀ p ∈ before, p.block < W.heap.size := fun p hp => hW.lt p hp
  have hold : ∀ p ∈ before, (fun b => decide (b < W.heap.size)) p.block = true := fun p hp => by simpa using hlt p hp
  refine ⟨ds, gs, before, [], pa, pv, hW, hres _ _ _, hargs _ hold, hvars _ hold, World.keptBut_mono (fun p hp => ⟨hp, ?_⟩) (hb.frame (· ∈ before)), fun _ => ?_⟩
  · rw [hps, List.mem_append] at hp
    exact Or.inr hp
  · obtain ⟨_, _, _, _, _, hz, hn⟩ := hW
    refine ⟨hok, _, _, ([] ++ pa) ++ pv, ⟨[] ++ pa, pv, trodAll_append (hargs _ (fun _ _ => rfl)) (hres _ _ _), hvars _ (fun _ _ => rfl), rfl, ?_, ?_⟩, ?_⟩
    · intro b off hp
      have hin : MemPlace.cell b off ∈ before := by rw [hps]; simpa using hp
      rw [hb.frozen (hlt _ hin)]
      exact hz b off hin
    · intro ha
      have := hn ha
      rw [hps] at this
      simpa using this
    · intro p hp _
      rw [hps]
      simpa using hp
end Go.Proofs.YthhgogpglocjdaaGreat
namespace Go.Proofs.YthhgogpglocjdaaGreat
open Go.ChangeShapes Go.WideShapes Go.ChangeAt Go.RowKit

section
variable {H : Type} {enc : TypeId × Value → H} {w : World} {base : Nat} {spare : Nat → Bool} {held : Bool}

theorem cells_int : Tryz.prog.cellsOf 3 = 1 := by kernel_rfl
theorem cells_point : Tryz.prog.cellsOf 23 = 2 := by kernel_rfl

theorem open_num {fuel : Nat} {cs : List Value} {x : DataW H × List MemPlace} (h : DataW.trod enc Tryz.prog w base spare held fuel 3 cs = some x) :
    ∃ n : Int, cs = [.int .i64 n] ∧ -9223372036854775808 ≤ n ∧ n ≤ 9223372036854775807 := by
  obtain ⟨n, rfl, -, hw⟩ := DataW.trod_int Tryz.underlying3 h
  have := bounds_i64 hw
  exact ⟨n, rfl, this⟩
set_option maxRecDepth 100000 in
theorem open_point {fuel : Nat} {cs : List Value} {x : DataW H × List MemPlace} (h : DataW.trod enc Tryz.prog w base spare held fuel 23 cs = some x) :
    ∃ a b : Int, cs = [.int .i64 a, .int .i64 b] ∧ In64 a b := by
  obtain ⟨y0, y1, n1, rfl, hl, h0, h1⟩ := trod_struct2 Tryz.underlying23 h
  rw [cells_point] at hl
  match cs, hl with
  | [a0, a1], _ =>
    simp only [cells_int, List.drop_zero, List.drop_succ_cons, List.take_succ_cons, List.take_zero] at h0 h1
    obtain ⟨a, ha, a1, a2⟩ := open_num h0
    obtain ⟨b, hb, b1, b2⟩ := open_num h1
    injection ha with ha
    injection hb with hb
    subst ha; subst hb
    exact ⟨a, b, rfl, a1, a2, b1, b2⟩
end
end Go.Proofs.YthhgogpglocjdaaGreat
