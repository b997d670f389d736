/- How spots come in: an argument of type api.Spot reads as two fractions, of no more words than its reading's bulk. Conditions: none. How points of the grid come in. Conditions: none. How ways come in: one way, and a slice of ways. Conditions: none. -/
import Derived.Test.YthhgogpglocjdaaGreatJRowP
import Derived.Test.YthhgogpglocjdaaGreatRows
import Derived.WalkKit
import Derived.ProofKit
import Derived.OpenShut
import Derived.JoinedCond
import Derived.ChangeSlices
import Derived.Carry
import Derived.Test.YthhgogpglocjdaaGreatJGrid2
import Derived.Test.YthhgogpglocjdaaGreatJCompP
namespace Go.Proofs.YthhgogpglocjdaaGreat
open Go.ChangeShapes Go.WideShapes Go.ChangeAt Go.RowKit

theorem cells_u32 : Tryz.prog.cellsOf 91 = 1 := by kernel_rfl

section
variable {H : Type} {enc : TypeId × Value → H} {w : World} {base : Nat} {spare : Nat → Bool} {held : Bool}

theorem bulk_lits (k : IntKind) : ∀ zs : List Int, Rows.uptoBulkAll (H := H) (lits k zs) = zs.length
  | [] => by simp [lits, Rows.uptoBulkAll]
  | z :: zs => by
    have h := bulk_lits k zs
    unfold lits at h ⊢
    simp only [List.map_cons, Rows.uptoBulkAll, Rows.uptoBulk, h, List.length_cons]
    omega

/-- A slice of words that comes in reads as a number. -/
theorem open_words {fuel : Nat} {cs : List Value} {x : DataW H × List MemPlace} (h : DataW.trod enc Tryz.prog w base spare held fuel 33 cs = some x) :
    ∃ A n c N, cs = [.slice A n c] ∧ Num 4294967296 .u32 w (.slice A n c) N n ∧ n ≤ Rows.uptoBulk x.1 := by
  rcases open_ints Tryz.underlying33 Tryz.underlying91 cells_u32 h with ⟨rfl, rfl⟩ | ⟨a, ln, cap, zs, rfl, _, hl, hm, hz, rfl, hcell, hwz⟩
  · exact ⟨none, 0, 0, 0, rfl, Num.nil _ _ _, by omega⟩
  · have hzl : ln ≤ zs.length := by rw [hz]; split <;> omega
    have hu : ∀ z ∈ zs, 0 ≤ z ∧ z < 4294967296 := by
      intro z hzm
      have h1 := hwz z hzm
      have h2 : IntKind.u32.min = 0 := rfl
      have h3 : IntKind.u32.max = 4294967295 := rfl
      simp only [Lit.wf, Bool.and_eq_true, decide_eq_true_eq] at h1
      omega
    let xs : List Nat := (zs.take ln).map Int.toNat
    have hxl : xs.length = ln := by simp [xs]; omega
    have hxb : ∀ y ∈ xs, y < 4294967296 := by
      intro y hy
      obtain ⟨z, hz1, rfl⟩ := List.mem_map.1 hy
      have := hu z (List.mem_of_mem_take hz1)
      omega
    have hN : val 4294967296 xs < 4294967296 ^ ln := by rw [← hxl]; exact val_lt (by omega) xs hxb
    have hnum : Num 4294967296 .u32 w (.slice (some a) ln cap) (val 4294967296 xs) ln := by
      refine ⟨some a, cap, rfl, hl, by unfold maxLen at hm; omega, hN, fun h0 => ?_⟩
      obtain ⟨b, off, sp⟩ := a
      have hsp : sp = none := by simpa [Addr.add] using World.cell?_spot (hcell 0 (by omega))
      subst hsp
      refine ⟨b, off, rfl, fun i hi => ?_⟩
      have hc := hcell i (by omega)
      rw [add_plain] at hc
      rw [hc, dig_val (by omega) xs hxb i]
      have hi' : i < zs.length := by omega
      have e : xs.getD i 0 = (zs.getD i 0).toNat := by simp [xs, hi, hi']
      have hz0 := hu (zs.getD i 0) (by simp [hi'])
      rw [e, Int.toNat_of_nonneg hz0.1]
    refine ⟨some a, ln, cap, _, rfl, hnum, ?_⟩
    have h2 : Rows.uptoBulk (DataW.slice (lits (H := H) .u32 (zs.take ln)) (lits .u32 (zs.drop ln))) ≥ ln := by
      simp only [Rows.uptoBulk, bulk_lits, List.length_take, List.length_drop]
      omega
    exact h2

set_option maxRecDepth 100000 in
theorem open_frac {fuel : Nat} {cs : List Value} {x : DataW H × List MemPlace} (h : DataW.trod enc Tryz.prog w base spare held fuel 37 cs = some x) :
    ∃ b A n c C m d q, cs = [.bool b, .slice A n c, .slice C m d] ∧ FracR w (.agg #[.bool b, .slice A n c, .slice C m d]) q (Rows.uptoBulk x.1) := by
  obtain ⟨y0, y1, n1, rfl, hl, h0, h1⟩ := trod_struct2 Tryz.underlying37 h
  obtain ⟨z0, z1, n2, rfl, hl2, g0, g1⟩ := trod_struct2 Tryz.underlying35 h0
  have e3 : Tryz.prog.cellsOf 37 = 3 := by kernel_rfl
  have e2 : Tryz.prog.cellsOf 35 = 2 := by kernel_rfl
  have e1 : Tryz.prog.cellsOf 33 = 1 := by kernel_rfl
  have e0 : Tryz.prog.cellsOf 4 = 1 := by kernel_rfl
  rw [e3] at hl
  match cs, hl with
  | [a0, a1, a2], _ =>
    simp only [e0, e1, e2, List.drop_zero, List.drop_succ_cons, List.take_succ_cons, List.take_zero] at h1 g0 g1
    obtain ⟨b, hb, -⟩ := DataW.trod_bool Tryz.underlying4 g0
    obtain ⟨A, n, c, N, hA, hN, hNl⟩ := open_words g1
    obtain ⟨C, m, d, D, hC, hD, hDl⟩ := open_words h1
    injection hb with hb
    injection hA with hA
    injection hC with hC
    subst hb; subst hA; subst hC
    refine ⟨b, A, n, c, C, m, d, _, rfl, b, N, D, n, m, _, _, rfl, hN, hD, rfl, ?_, ?_⟩
    · simp only [Rows.uptoBulk, Rows.uptoBulkAll]; omega
    · simp only [Rows.uptoBulk, Rows.uptoBulkAll]; omega

set_option maxRecDepth 100000 in
theorem open_spot {fuel : Nat} {cs : List Value} {x : DataW H × List MemPlace} (h : DataW.trod enc Tryz.prog w base spare held fuel 39 cs = some x) :
    ∃ p q, SpotR w (.agg cs.toArray) p q (Rows.uptoBulk x.1) := by
  obtain ⟨y0, y1, n1, rfl, hl, h0, h1⟩ := trod_struct2 Tryz.underlying39 h
  have e6 : Tryz.prog.cellsOf 39 = 6 := by kernel_rfl
  have e3 : Tryz.prog.cellsOf 37 = 3 := by kernel_rfl
  rw [e6] at hl
  match cs, hl with
  | [a0, a1, a2, a3, a4, a5], _ =>
    simp only [e3, List.drop_zero, List.drop_succ_cons, List.take_succ_cons, List.take_zero] at h0 h1
    obtain ⟨b, A, n, c, C, m, d, p, e, hp⟩ := open_frac h0
    obtain ⟨b', A', n', c', C', m', d', q, e', hq⟩ := open_frac h1
    injection e with i0 e; injection e with i1 e; injection e with i2 e
    injection e' with i3 e'; injection e' with i4 e'; injection e' with i5 e'
    subst i0; subst i1; subst i2; subst i3; subst i4; subst i5
    obtain ⟨neg, N, D, n1, m1, va, vd, w1, w2, w3, w4, w5, w6⟩ := hp
    obtain ⟨neg', N', D', n1', m1', va', vd', w1', w2', w3', w4', w5', w6'⟩ := hq
    refine ⟨p, q, b, A, n, c, C, m, d, b', A', n', c', C', m', d', rfl, ⟨neg, N, D, n1, m1, va, vd, w1, w2, w3, w4, ?_, ?_⟩, ⟨neg', N', D', n1', m1', va', vd', w1', w2', w3', w4', ?_, ?_⟩⟩ <;>
      (simp only [Rows.uptoBulk, Rows.uptoBulkAll]; omega)
end

/-- The row's last step where only new memory was made. -/
theorem post_grew {H : Type} {enc : TypeId × Value → H} {P : Program} {f : Func} {s : ChangeSpec} {apart fresh handsOn again : Bool} {W W' : World} {args : Array Value} {v : Value} {ds gs : List (DataW H)} {before pa pv : List MemPlace}
    (hW : DataW.Whole enc P f.params.toList s.vars apart W args.toList ds gs before)
    (hres : ∀ (b : Nat) (sp : Nat → Bool) (hd : Bool), DataW.TrodAll enc P W' b sp hd f.resultTypes.toList (v.resultList f.resultTypes.size) (s.fn H (ds ++ gs)).results [])
    (hargs : ∀ sp : Nat → Bool, (∀ p ∈ before, sp p.block = true) → DataW.TrodAll enc P W' 0 sp true f.params.toList args.toList (s.fn H (ds ++ gs)).args pa)
    (hvars : ∀ sp : Nat → Bool, (∀ p ∈ before, sp p.block = true) → DataW.TrodVars enc P W' sp s.vars (s.fn H (ds ++ gs)).vars pv)
    (hps : before = pa ++ pv) (g : Grew W W')
    (hok : ∀ (j : Nat) (t : TypeId) (r : Value), f.resultTypes[j]? = some t → (v.resultList f.resultTypes.size)[j]? = some r → Value.okWide P W' .any 0 t r) :
    s.post enc P f apart fresh handsOn again W args v W' := by
  have hb := g.below
  have hlt : ∀ p ∈ before, p.block < W.heap.size := fun p hp => hW.lt p hp
  have hold : ∀ p ∈ before, (fun b => decide (b < W.heap.size)) p.block = true := fun p hp => by simpa using hlt p hp
  refine ⟨ds, gs, before, [], pa, pv, hW, hres _ _ _, hargs _ hold, hvars _ hold, World.keptBut_mono (fun p hp => ⟨hp, ?_⟩) (hb.frame (· ∈ before)), fun _ => ?_⟩
  · rw [hps, List.mem_append] at hp
    exact Or.inr hp
  · obtain ⟨_, _, _, _, _, hz, hn⟩ := hW
    refine ⟨hok, _, _, ([] ++ pa) ++ pv, ⟨[] ++ pa, pv, trodAll_append (hargs _ (fun _ _ => rfl)) (hres _ _ _), hvars _ (fun _ _ => rfl), rfl, ?_, ?_⟩, ?_⟩
    · intro b off hp
      have hin : MemPlace.cell b off ∈ before := by rw [hps]; simpa using hp
      rw [hb.frozen (hlt _ hin)]
      exact hz b off hin
    · intro ha
      have := hn ha
      rw [hps] at this
      simpa using this
    · intro p hp _
      rw [hps]
      simpa using hp
end Go.Proofs.YthhgogpglocjdaaGreat
namespace Go.Proofs.YthhgogpglocjdaaGreat
open Go.ChangeShapes Go.WideShapes Go.ChangeAt Go.RowKit

section
variable {H : Type} {enc : TypeId × Value → H} {w : World} {base : Nat} {spare : Nat → Bool} {held : Bool}

theorem cells_int : Tryz.prog.cellsOf 3 = 1 := by kernel_rfl
theorem cells_point : Tryz.prog.cellsOf 23 = 2 := by kernel_rfl

theorem open_num {fuel : Nat} {cs : List Value} {x : DataW H × List MemPlace} (h : DataW.trod enc Tryz.prog w base spare held fuel 3 cs = some x) :
    ∃ n : Int, cs = [.int .i64 n] ∧ -9223372036854775808 ≤ n ∧ n ≤ 9223372036854775807 := by
  obtain ⟨n, rfl, -, hw⟩ := DataW.trod_int Tryz.underlying3 h
  have := bounds_i64 hw
  exact ⟨n, rfl, this⟩
set_option maxRecDepth 100000 in
theorem open_point {fuel : Nat} {cs : List Value} {x : DataW H × List MemPlace} (h : DataW.trod enc Tryz.prog w base spare held fuel 23 cs = some x) :
    ∃ a b : Int, cs = [.int .i64 a, .int .i64 b] ∧ In64 a b := by
  obtain ⟨y0, y1, n1, rfl, hl, h0, h1⟩ := trod_struct2 Tryz.underlying23 h
  rw [cells_point] at hl
  match cs, hl with
  | [a0, a1], _ =>
    simp only [cells_int, List.drop_zero, List.drop_succ_cons, List.take_succ_cons, List.take_zero] at h0 h1
    obtain ⟨a, ha, a1, a2⟩ := open_num h0
    obtain ⟨b, hb, b1, b2⟩ := open_num h1
    injection ha with ha
    injection hb with hb
    subst ha; subst hb
    exact ⟨a, b, rfl, a1, a2, b1, b2⟩
end
end Go.Proofs.YthhgogpglocjdaaGreat
namespace Go.Proofs.YthhgogpglocjdaaGreat
open Go.ChangeShapes Go.WideShapes Go.ChangeAt Go.RowKit

theorem cells_seg : Tryz.prog.cellsOf 25 = 4 := by kernel_rfl
section
variable {H : Type} {enc : TypeId × Value → H} {w : World} {base : Nat} {spare : Nat → Bool} {held : Bool}
set_option maxRecDepth 100000 in
theorem open_seg {fuel : Nat} {cs : List Value} {x : DataW H × List MemPlace} (h : DataW.trod enc Tryz.prog w base spare held fuel 25 cs = some x) :
    ∃ a b c d : Int, cs = [.int .i64 a, .int .i64 b, .int .i64 c, .int .i64 d] ∧ In64 a b ∧ In64 c d := by
  obtain ⟨y0, y1, n1, rfl, hl, h0, h1⟩ := trod_struct2 Tryz.underlying25 h
  rw [cells_seg] at hl
  match cs, hl with
  | [a0, a1, a2, a3], _ =>
    simp only [cells_point, List.drop_zero, List.drop_succ_cons, List.take_succ_cons, List.take_zero] at h0 h1
    obtain ⟨a, b, ha, r0⟩ := open_point h0
    obtain ⟨c, d, hb, r1⟩ := open_point h1
    injection ha with i0 ha
    injection ha with i1 ha
    injection hb with i2 hb
    injection hb with i3 hb
    subst i0; subst i1; subst i2; subst i3
    exact ⟨a, b, c, d, rfl, r0, r1⟩
theorem seg_bulk {fuel : Nat} {cs : List Value} {x : DataW H × List MemPlace} (h : DataW.trod enc Tryz.prog w base spare held fuel 25 cs = some x) : 1 ≤ Rows.uptoBulk x.1 := by
  obtain ⟨y0, y1, n1, rfl, hl, h0, h1⟩ := trod_struct2 Tryz.underlying25 h
  simp only [Rows.uptoBulk, Rows.uptoBulkAll]
  omega
theorem bulkG_len : ∀ (ds : List (DataW H)), (∀ d ∈ ds, 1 ≤ Rows.uptoBulk d) → ds.length ≤ Rows.uptoBulkAll ds
  | [], _ => by simp
  | e :: ds, h => by
    have h1 := h e List.mem_cons_self
    have h2 := bulkG_len ds fun d hd => h d (List.mem_cons_of_mem _ hd)
    rw [Rows.uptoBulkAll, List.length_cons]
    omega

set_option maxRecDepth 100000 in
theorem open_segs {fuel : Nat} {cs : List Value} {x : DataW H × List MemPlace} {K : Nat} (h : DataW.trod enc Tryz.prog w base spare held fuel 41 cs = some x) (hK : Rows.uptoBulk x.1 ≤ K) :
    ∃ A n c l, cs = [.slice A n c] ∧ SegsR w (.slice A n c) l ∧ l.length ≤ K := by
  rcases DataW.trod_slice Tryz.underlying41 h with ⟨rfl, rfl⟩ | ⟨a, len, cap, elems, rest, n, -, rfl, rfl, -, hl, hc, he, hel, -, -⟩
  · exact ⟨none, 0, 0, [], rfl, ⟨none, 0, rfl, by simp, by omega, by simp⟩, by simp⟩
  · rw [cells_seg] at hel
    have hbulk : Rows.uptoBulkAll (elems.map (·.1)) ≤ K := by
      refine Nat.le_trans ?_ hK
      simp only [Rows.uptoBulk]
      omega
    have key : ∀ i : Fin len, ∃ s : SegZ, ((∀ j, j < 4 → w.cell? ((a.add (i * 4)).add j) = [Value.int .i64 s.1.1, .int .i64 s.1.2, .int .i64 s.2.1, .int .i64 s.2.2][j]?) ∧ In64 s.1.1 s.1.2 ∧ In64 s.2.1 s.2.2) ∧ ∃ y, elems[i.1]? = some y ∧ 1 ≤ Rows.uptoBulk y.1 := by
      rintro ⟨i, hi⟩
      have h1 := hel i hi
      rw [List.getElem?_eq_getElem (by omega), Option.bind_eq_some_iff] at h1
      obtain ⟨cs', h2, h3⟩ := h1
      obtain ⟨-, h4, h5⟩ := World.cells?_some h2
      obtain ⟨p, q, r, s, rfl, i1, i2⟩ := open_seg h3
      exact ⟨((p, q), r, s), ⟨h5, i1, i2⟩, _, List.getElem?_eq_getElem (by omega), seg_bulk h3⟩
    have hlen : len ≤ K := by
      have := bulkG_len (elems.map (·.1)) fun d hd => by
        obtain ⟨y, hy, rfl⟩ := List.mem_map.1 hd
        obtain ⟨i, hi, rfl⟩ := List.getElem_of_mem hy
        obtain ⟨-, -, y, e1, e2⟩ := key ⟨i, by omega⟩
        rw [List.getElem?_eq_getElem hi] at e1
        injection e1 with e1
        rw [e1]; exact e2
      rw [List.length_map] at this
      omega
    refine ⟨some a, len, cap, List.ofFn fun i => Classical.choose (key i), rfl, ⟨some a, cap, by simp, by simpa using hl, by unfold maxLen at hc; omega, fun h0 => ?_⟩, by simpa using hlen⟩
    obtain ⟨b, off, sp⟩ := a
    have hsp : sp = none := by
      simp only [List.length_ofFn] at h0
      obtain ⟨_, ⟨k1, _⟩, _⟩ := key ⟨0, h0⟩
      have := k1 0 (by omega)
      rw [List.getElem?_eq_getElem (by simp)] at this
      simpa [Addr.add] using World.cell?_spot this
    subst hsp
    refine ⟨b, off, rfl, fun i s hs => ?_⟩
    have hi : i < len := by
      have := (List.getElem?_eq_some_iff.1 hs).1
      simpa using this
    have hs2 : s = Classical.choose (key ⟨i, hi⟩) := by
      rw [List.getElem?_eq_getElem (by simpa using hi)] at hs
      injection hs with hs
      rw [← hs]; simp
    obtain ⟨⟨k1, k2, k3⟩, -⟩ := Classical.choose_spec (key ⟨i, hi⟩)
    rw [← hs2] at k1 k2 k3
    have hcell : ∀ j, j < 4 → w.cell? ⟨b, off + i * 4 + j, none⟩ = [Value.int .i64 s.1.1, .int .i64 s.1.2, .int .i64 s.2.1, .int .i64 s.2.2][j]? := by
      intro j hj
      have := k1 j hj
      rw [add_plain, add_plain] at this
      exact this
    exact ⟨⟨hcell 0 (by omega), hcell 1 (by omega), hcell 2 (by omega), hcell 3 (by omega)⟩, k2, k3⟩
end
end Go.Proofs.YthhgogpglocjdaaGreat
