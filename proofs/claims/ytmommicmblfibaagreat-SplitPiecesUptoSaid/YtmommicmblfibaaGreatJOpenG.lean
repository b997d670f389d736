/- How spots come in: an argument of type api.Spot reads as two fractions, of no more words than its reading's bulk. Conditions: none. How points of the grid come in. Conditions: none. How ways come in: one way, and a slice of ways. Conditions: none. -/
import Derived.Test.YtmommicmblfibaaGreatJRowP
import Derived.Test.YtmommicmblfibaaGreatRows
import Derived.WalkKit
import Derived.ProofKit
import Derived.OpenShut
import Derived.JoinedCond
import Derived.ChangeSlices
import Derived.Carry
import Derived.Test.YtmommicmblfibaaGreatJGrid2
import Derived.Test.YtmommicmblfibaaGreatJOwnK
set_option maxRecDepth 100000
namespace Go.Proofs.YtmommicmblfibaaGreat
open Go.ChangeShapes Go.WideShapes Go.ChangeAt Go.RowKit
section
variable {H : Type} {enc : TypeId × Value → H} {w : World} {base : Nat} {spare : Nat → Bool} {held : Bool}
end
theorem post_grew {H : Type} {enc : TypeId × Value → H} {P : Program} {f : Func} {s : ChangeSpec} {apart fresh handsOn again : Bool} {W W' : World} {args : Array Value} {v : Value} {ds gs : List (DataW H)} {before pa pv : List MemPlace}
  (hW : DataW.Whole enc P f.params.toList s.vars apart W args.toList ds gs before)
  (hres : ∀ (b : Nat) (sp : Nat → Bool) (hd : Bool), DataW.TrodAll enc P W' b sp hd f.resultTypes.toList (v.resultList f.resultTypes.size) (s.fn H (ds ++ gs)).results [])
  (hargs : ∀ sp : Nat → Bool, (∀ p ∈ before, sp p.block = true) → DataW.TrodAll enc P W' 0 sp true f.params.toList args.toList (s.fn H (ds ++ gs)).args pa)
  (hvars : ∀ sp : Nat → Bool, (∀ p ∈ before, sp p.block = true) → DataW.TrodVars enc P W' sp s.vars (s.fn H (ds ++ gs)).vars pv)
  (hps : before = pa ++ pv) (g : Grew W W')
  (hok : ∀ (j : Nat) (t : TypeId) (r : Value), f.resultTypes[j]? = some t → (v.resultList f.resultTypes.size)[j]? = some r → Value.okWide P W' .any 0 t r) :
  s.post enc P f apart fresh handsOn again W args v W' := by
 have hb := g.below
 have hlt : ∀ p ∈ before, p.block < W.heap.size := fun p hp => hW.lt p hp
 have hold : ∀ p ∈ before, (fun b => decide (b < W.heap.size)) p.block = true := fun p hp => by simpa using hlt p hp
 refine ⟨ds, gs, before, [], pa, pv, hW, hres _ _ _, hargs _ hold, hvars _ hold, World.keptBut_mono (fun p hp => ⟨hp, ?_⟩) (hb.frame (· ∈ before)), fun _ => ?_⟩
 ·rw [hps, List.mem_append] at hp
  exact Or.inr hp
 ·obtain ⟨_, _, _, _, _, hz, hn⟩ := hW
  refine ⟨hok, _, _, ([] ++ pa) ++ pv, ⟨[] ++ pa, pv, trodAll_append (hargs _ (fun _ _ => rfl)) (hres _ _ _), hvars _ (fun _ _ => rfl), rfl, ?_, ?_⟩, ?_⟩
  ·intro b off hp
   have hin : MemPlace.cell b off ∈ before := by rw [hps]; simpa using hp
   rw [hb.frozen (hlt _ hin)]
   exact hz b off hin
  ·intro ha
   have := hn ha
   rw [hps] at this
   simpa using this
  ·intro p hp _
   rw [hps]
   simpa using hp
section
variable {H : Type} {enc : TypeId × Value → H} {w : World} {base : Nat} {spare : Nat → Bool} {held : Bool}
theorem cells_int : Tryz.prog.cellsOf 3 = 1 := by kernel_rfl
theorem cells_point : Tryz.prog.cellsOf 48 = 2 := by kernel_rfl
theorem open_num {fuel : Nat} {cs : List Value} {x : DataW H × List MemPlace} (h : DataW.trod enc Tryz.prog w base spare held fuel 3 cs = some x) :
  ∃ n : Int, cs = [.int .i64 n] ∧ -9223372036854775808 ≤ n ∧ n ≤ 9223372036854775807 := by
 obtain ⟨n, rfl, -, hw⟩ := DataW.trod_int Tryz.underlying3 h
 have := bounds_i64 hw
 exact ⟨n, rfl, this⟩
theorem open_point {fuel : Nat} {cs : List Value} {x : DataW H × List MemPlace} (h : DataW.trod enc Tryz.prog w base spare held fuel 48 cs = some x) :
  ∃ a b : Int, cs = [.int .i64 a, .int .i64 b] ∧ In64 a b := by
 obtain ⟨y0, y1, n1, rfl, hl, h0, h1⟩ := trod_struct2 Tryz.underlying48 h
 rw [cells_point] at hl
 match cs, hl with
 | [a0, a1], _ =>
  simp only [cells_int, List.drop_zero, List.drop_succ_cons, List.take_succ_cons, List.take_zero] at h0 h1
  obtain ⟨a, ha, a1, a2⟩ := open_num h0
  obtain ⟨b, hb, b1, b2⟩ := open_num h1
  injection ha with ha
  injection hb with hb
  subst ha; subst hb
  exact ⟨a, b, rfl, a1, a2, b1, b2⟩
end
theorem cells_seg : Tryz.prog.cellsOf 50 = 4 := by kernel_rfl
section
variable {H : Type} {enc : TypeId × Value → H} {w : World} {base : Nat} {spare : Nat → Bool} {held : Bool}
theorem open_seg {fuel : Nat} {cs : List Value} {x : DataW H × List MemPlace} (h : DataW.trod enc Tryz.prog w base spare held fuel 50 cs = some x) :
  ∃ a b c d : Int, cs = [.int .i64 a, .int .i64 b, .int .i64 c, .int .i64 d] ∧ In64 a b ∧ In64 c d := by
 obtain ⟨y0, y1, n1, rfl, hl, h0, h1⟩ := trod_struct2 Tryz.underlying50 h
 rw [cells_seg] at hl
 match cs, hl with
 | [a0, a1, a2, a3], _ =>
  simp only [cells_point, List.drop_zero, List.drop_succ_cons, List.take_succ_cons, List.take_zero] at h0 h1
  obtain ⟨a, b, ha, r0⟩ := open_point h0
  obtain ⟨c, d, hb, r1⟩ := open_point h1
  injection ha with i0 ha
  injection ha with i1 ha
  injection hb with i2 hb
  injection hb with i3 hb
  subst i0; subst i1; subst i2; subst i3
  exact ⟨a, b, c, d, rfl, r0, r1⟩
theorem bulk_one (d : DataW H) : 1 ≤ Rows.uptoBulk d := by
 cases d with
 | lit l => cases l <;> simp [Rows.uptoBulk]
 | _ => simp [Rows.uptoBulk]
theorem seg_bulk {fuel : Nat} {cs : List Value} {x : DataW H × List MemPlace} (h : DataW.trod enc Tryz.prog w base spare held fuel 50 cs = some x) : 7 ≤ Rows.uptoBulk x.1 := by
 obtain ⟨y0, y1, n1, rfl, hl, h0, h1⟩ := trod_struct2 Tryz.underlying50 h
 obtain ⟨z0, z1, n2, rfl, -, -, -⟩ := trod_struct2 Tryz.underlying48 h0
 obtain ⟨u0, u1, n3, rfl, -, -, -⟩ := trod_struct2 Tryz.underlying48 h1
 have b0 := bulk_one z0.1
 have b1 := bulk_one z1.1
 have b2 := bulk_one u0.1
 have b3 := bulk_one u1.1
 simp only [Rows.uptoBulk, Rows.uptoBulkAll]
 omega
theorem bulkG_len : ∀ (ds : List (DataW H)), (∀ d ∈ ds, 7 ≤ Rows.uptoBulk d) → 7 * ds.length ≤ Rows.uptoBulkAll ds
 | [], _ => by simp
 | e :: ds, h => by
  have h1 := h e List.mem_cons_self
  have h2 := bulkG_len ds fun d hd => h d (List.mem_cons_of_mem _ hd)
  rw [Rows.uptoBulkAll, List.length_cons]
  omega
theorem open_segs {fuel : Nat} {cs : List Value} {x : DataW H × List MemPlace} {K : Nat} (h : DataW.trod enc Tryz.prog w base spare held fuel 22 cs = some x) (hK : Rows.uptoBulk x.1 ≤ K) :
  ∃ A n c l, cs = [.slice A n c] ∧ SegsR w (.slice A n c) l ∧ 7 * l.length ≤ K := by
 rcases DataW.trod_slice Tryz.underlying22 h with ⟨rfl, rfl⟩ | ⟨a, len, cap, elems, rest, n, -, rfl, rfl, -, hl, hc, he, hel, -, -⟩
 ·exact ⟨none, 0, 0, [], rfl, ⟨none, 0, rfl, by simp, by omega, by simp⟩, by simp⟩
 ·rw [cells_seg] at hel
  have hbulk : Rows.uptoBulkAll (elems.map (·.1)) ≤ K := by
   refine Nat.le_trans ?_ hK
   simp only [Rows.uptoBulk]
   omega
  have key : ∀ i : Fin len, ∃ s : SegZ, ((∀ j, j < 4 → w.cell? ((a.add (i * 4)).add j) = [Value.int .i64 s.1.1, .int .i64 s.1.2, .int .i64 s.2.1, .int .i64 s.2.2][j]?) ∧ In64 s.1.1 s.1.2 ∧ In64 s.2.1 s.2.2) ∧ ∃ y, elems[i.1]? = some y ∧ 7 ≤ Rows.uptoBulk y.1 := by
   rintro ⟨i, hi⟩
   have h1 := hel i hi
   rw [List.getElem?_eq_getElem (by omega), Option.bind_eq_some_iff] at h1
   obtain ⟨cs', h2, h3⟩ := h1
   obtain ⟨-, h4, h5⟩ := World.cells?_some h2
   obtain ⟨p, q, r, s, rfl, i1, i2⟩ := open_seg h3
   exact ⟨((p, q), r, s), ⟨h5, i1, i2⟩, _, List.getElem?_eq_getElem (by omega), seg_bulk h3⟩
  have hlen : 7 * len ≤ K := by
   have := bulkG_len (elems.map (·.1)) fun d hd => by
    obtain ⟨y, hy, rfl⟩ := List.mem_map.1 hd
    obtain ⟨i, hi, rfl⟩ := List.getElem_of_mem hy
    obtain ⟨-, -, y, e1, e2⟩ := key ⟨i, by omega⟩
    rw [List.getElem?_eq_getElem hi] at e1
    injection e1 with e1
    rw [e1]; exact e2
   rw [List.length_map] at this
   omega
  refine ⟨some a, len, cap, List.ofFn fun i => Classical.choose (key i), rfl, ⟨some a, cap, by simp, by simpa using hl, by unfold maxLen at hc; omega, fun h0 => ?_⟩, by simpa using hlen⟩
  obtain ⟨b, off, sp⟩ := a
  have hsp : sp = none := by
   simp only [List.length_ofFn] at h0
   obtain ⟨_, ⟨k1, _⟩, _⟩ := key ⟨0, h0⟩
   have := k1 0 (by omega)
   rw [List.getElem?_eq_getElem (by simp)] at this
   simpa [Addr.add] using World.cell?_spot this
  subst hsp
  refine ⟨b, off, rfl, fun i s hs => ?_⟩
  have hi : i < len := by
   have := (List.getElem?_eq_some_iff.1 hs).1
   simpa using this
  have hs2 : s = Classical.choose (key ⟨i, hi⟩) := by
   rw [List.getElem?_eq_getElem (by simpa using hi)] at hs
   injection hs with hs
   rw [← hs]; simp
  obtain ⟨⟨k1, k2, k3⟩, -⟩ := Classical.choose_spec (key ⟨i, hi⟩)
  rw [← hs2] at k1 k2 k3
  have hcell : ∀ j, j < 4 → w.cell? ⟨b, off + i * 4 + j, none⟩ = [Value.int .i64 s.1.1, .int .i64 s.1.2, .int .i64 s.2.1, .int .i64 s.2.2][j]? := by
   intro j hj
   have := k1 j hj
   rw [add_plain, add_plain] at this
   exact this
  exact ⟨⟨hcell 0 (by omega), hcell 1 (by omega), hcell 2 (by omega), hcell 3 (by omega)⟩, k2, k3⟩
end
end Go.Proofs.YtmommicmblfibaaGreat
