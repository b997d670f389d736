/- Sorting a row of spots that a call owns: the worlds that the sort goes through. Conditions: none. spot.clean, the comparison of spot.Row. Condition: what comes in reads; fewer than 2^26 words. slices.SortFunc at spots, by the comparison of spot.Row, on a row that the caller owns. Condition: fewer than 2^26 words, at most 2^40 spots. spot.Row. Condition: what comes in reads; fewer than 2^26 words, at most 2^40 spots. -/
import Derived.Test.YthhgogpglocjdaaGreatJR4b
import Derived.Shelf.SlSortCmp.InsertionK
import Derived.Test.YthhgogpglocjdaaGreatJComp2
import Derived.Test.YthhgogpglocjdaaGreatSortS
import Derived.Shelf.SlSortCmp.NoneTotal
import Derived.Test.YthhgogpglocjdaaGreatJCompP
import Derived.Deep.LoopGhost
namespace Go.Proofs.YthhgogpglocjdaaGreat
open Go.RowKit

theorem world_eq : ∀ {a b : World}, a.heap = b.heap → a.tape = b.tape → a.drawn = b.drawn → a.os = b.os → a.output = b.output → a = b
  | ⟨_, _, _, _, _⟩, ⟨_, _, _, _, _⟩, rfl, rfl, rfl, rfl, rfl => rfl
/-- Growth, as an equation. -/
theorem Grew.grow {w w' : World} (g : Grew w w') : ∃ q os, w' = Go.Sort.grow (w.drewN q) os := by
  refine ⟨w'.drawn - w.drawn, w'.heap.extract w.heap.size w'.heap.size, world_eq ?_ g.below.tape ?_ g.below.os g.below.output⟩
  · show w'.heap = w.heap ++ w'.heap.extract w.heap.size w'.heap.size
    apply Array.ext_getElem?
    intro k
    by_cases hk : k < w.heap.size
    · rw [Array.getElem?_append_left hk]; exact g.below.block k hk
    · rw [Array.getElem?_append_right (by omega), Array.getElem?_extract]
      have hs := g.size
      by_cases h2 : k < w'.heap.size
      · rw [if_pos (by omega), show w.heap.size + (k - w.heap.size) = k by omega]
      · rw [if_neg (by omega)]; simp [Array.getElem?_eq_none (Nat.le_of_not_lt h2)]
  · show w'.drawn = w.drawn + (w'.drawn - w.drawn)
    have := g.drawn
    omega

/-- Six cells that are a spot, reduced, of at most k words, in a world; and the spot. -/
def SpotIn (W : World) (k : Nat) : Type := { x : Array Value × (Rat × Rat) // x.1.size = 6 ∧ (∀ u ∈ x.1.toList, u.oneCell' = true) ∧ (∀ u ∈ x.1.toList, NoInt u) ∧ SpotC W (.agg x.1) x.2.1 x.2.2 ∧ QB x.2.1 k ∧ QB x.2.2 k }
def SpotIn.enc {W : World} {k : Nat} (x : SpotIn W k) : List Value := x.1.1.toList
def SpotIn.val {W : World} {k : Nat} (x : SpotIn W k) : Rat × Rat := x.1.2
theorem SpotIn.len {W : World} {k : Nat} (x : SpotIn W k) : x.enc.length = 6 := by unfold SpotIn.enc; rw [Array.length_toList]; exact x.2.1
theorem SpotIn.one {W : World} {k : Nat} (x : SpotIn W k) : ∀ v ∈ x.enc, v.oneCell' = true := x.2.2.1
theorem SpotIn.noint {W : World} {k : Nat} (x : SpotIn W k) : ∀ v ∈ x.enc, NoInt v := x.2.2.2.1
def SpotIn.cmp {W : World} {k : Nat} (x y : SpotIn W k) : Int := spotCmp x.val.1 x.val.2 y.val.1 y.val.2
theorem SpotIn.lt {W : World} {k : Nat} (x y : SpotIn W k) : Go.Proofs.ltOf SpotIn.cmp x y = true ↔ spotLt x.val y.val := by
  unfold Go.Proofs.ltOf SpotIn.cmp
  rw [decide_eq_true_eq]; exact spotCmp_neg
theorem SpotIn.nlt {W : World} {k : Nat} (x y : SpotIn W k) : Go.Proofs.ltOf SpotIn.cmp x y = false ↔ ¬ spotLt x.val y.val := by
  rw [← SpotIn.lt]; simp
theorem SpotIn.swo {W : World} {k : Nat} : Go.Sort.SWO (Go.Proofs.ltOf (SpotIn.cmp (W := W) (k := k))) where
  irrefl x := (SpotIn.nlt _ _).2 fun h => spotLt_irr h h
  trans x y z h1 h2 := (SpotIn.lt _ _).2 (spotLt_trans ((SpotIn.lt _ _).1 h1) ((SpotIn.lt _ _).1 h2))
  ntrans x y z h1 h2 := (SpotIn.nlt _ _).2 fun h => by
    have k1 := (SpotIn.nlt _ _).1 h1
    have k2 := (SpotIn.nlt _ _).1 h2
    rcases spotLt_tri y.val z.val with h3 | h3 | h3
    · exact k2 h3
    · exact k1 (by rw [h3]; exact h)
    · exact k1 (spotLt_trans h h3)

/-- A row's elements. -/
theorem OwnC.elems {e : TypeId} {w : World} {base k : Nat} {v : Value} {l : List (Rat × Rat)} (h : OwnC e w base v l) (hl : 0 < l.length) (hq : ∀ p ∈ l, QB p.1 k ∧ QB p.2 k) :
    ∃ g cap cur, ∃ d : Array (SpotIn w k), v = .slice (some ⟨g, 0, none⟩) l.length cap ∧ base ≤ g ∧ NoInts w g ∧ w.heap[g]? = some (.cells cur e (0, 0)) ∧ l.length ≤ cap ∧ cap ≤ maxLen ∧ cur.size = cap * 6 ∧
      d.size = l.length ∧ d.toList.map SpotIn.val = l ∧ Nonempty (SpotIn w k) ∧ ∀ [Inhabited (SpotIn w k)], Go.Sort.HoldsK SpotIn.enc 6 w g 0 d := by
  obtain ⟨g, cap, cur, rfl, hbg, hN, hg, hnc, hcm, hcs, hel⟩ := h.at hl
  have key : ∀ i : Fin l.length, ∃ x : SpotIn w k, x.val = l[i.1] ∧ ∀ j, j < 6 → cur[i.1 * 6 + j]? = x.enc[j]? := by
    rintro ⟨i, hi⟩
    have hp : l[i]? = some l[i] := List.getElem?_eq_getElem hi
    obtain ⟨b, A, n, c0, C, m, d, b', A', n', c0', C', m', d', ⟨h0, h1, h2, h3, h4, h5⟩, hP⟩ := hel i _ hp
    refine ⟨⟨(#[.bool b, .slice A n c0, .slice C m d, .bool b', .slice A' n' c0', .slice C' m' d'], l[i]), rfl, one6 _ _ _ _ _ _ _ _ _ _ _ _ _ _, noint6 _ _ _ _ _ _ _ _ _ _ _ _ _ _, hP, hq _ (List.getElem_mem hi)⟩, rfl, ?_⟩
    intro j hj
    have e : j = 0 ∨ j = 1 ∨ j = 2 ∨ j = 3 ∨ j = 4 ∨ j = 5 := by omega
    rcases e with rfl | rfl | rfl | rfl | rfl | rfl
    · exact h0
    · exact h1
    · exact h2
    · exact h3
    · exact h4
    · exact h5
  have hd : ∀ i (hi : i < l.length), (Array.ofFn fun i => Classical.choose (key i))[i]? = some (Classical.choose (key ⟨i, hi⟩)) := by
    intro i hi
    rw [Array.getElem?_eq_getElem (by simpa using hi)]
    simp
  refine ⟨g, cap, cur, Array.ofFn fun i => Classical.choose (key i), rfl, hbg, hN, hg, hnc, hcm, hcs, by simp, ?_, ⟨Classical.choose (key ⟨0, hl⟩)⟩, ?_⟩
  · apply List.ext_getElem?
    intro i
    rw [List.getElem?_map, Array.getElem?_toList]
    by_cases hi : i < l.length
    · rw [hd i hi, List.getElem?_eq_getElem hi]
      exact congrArg some (Classical.choose_spec (key ⟨i, hi⟩)).1
    · rw [Array.getElem?_eq_none (by simpa using hi), List.getElem?_eq_none (by simpa using hi)]; rfl
  · intro inst j hj
    rw [Go.Sort.size_flatK, Array.size_ofFn] at hj
    rw [Go.Sort.get_flatK _ _ _ _ (by rw [Array.size_ofFn]; exact hj)]
    have hi : j / 6 < l.length := by omega
    have hjm : j % 6 < 6 := by omega
    have e1 : (Array.ofFn fun i => Classical.choose (key i))[j / 6]! = Classical.choose (key ⟨j / 6, hi⟩) := by
      rw [getElem!_pos _ _ (by simpa using hi)]
      have := hd _ hi
      rw [Array.getElem?_eq_getElem (by simpa using hi)] at this
      injection this
    have e2 := (Classical.choose_spec (key ⟨j / 6, hi⟩)).2 (j % 6) hjm
    have e3 : j / 6 * 6 + j % 6 = j := by omega
    simp only [e3] at e2
    rw [e1]
    generalize Classical.choose (key ⟨j / 6, hi⟩) = x at e2 ⊢
    have hlen := x.len
    rw [List.getElem?_eq_getElem (by omega)] at e2
    refine ⟨?_, ?_⟩
    · rw [Nat.zero_add, cell_of_row w g j cur e (0, 0) hg, e2, getElem!_pos _ _ (by omega)]
      rfl
    · rw [Nat.zero_add]
      unfold World.frozen?
      rw [hg]
      simp

section
variable {w : World} {k : Nat} [Inhabited (SpotIn w k)] {g cap : Nat} {e : TypeId} {cur : Array Value}
theorem sort_block (hg : w.heap[g]? = some (.cells cur e (0, 0))) (m : Nat) (dk : Array (SpotIn w k)) (os : Array Obj) :
    (sortWorldK SpotIn.enc 6 w g 0 m dk os).heap[g]? = some (.cells (Go.Sort.putCells id 0 (Go.Sort.flatK SpotIn.enc 6 dk) cur) e (0, 0)) := by
  have hlt : g < w.heap.size := by
    rcases Nat.lt_or_ge g w.heap.size with h | h
    · exact h
    · rw [Array.getElem?_eq_none h] at hg; simp at hg
  unfold sortWorldK
  rw [Go.Sort.heap_grow_old _ _ (by rw [Go.Sort.size_putRowK]; exact hlt)]
  unfold Go.Sort.putRowK Go.Sort.putRow Go.Sort.mapBlock
  simp only [Array.getElem?_modify, if_true]
  show Option.map _ w.heap[g]? = _
  rw [hg]; rfl
theorem sort_other (m : Nat) (dk : Array (SpotIn w k)) (os : Array Obj) {b : Nat} (hb : b < w.heap.size) (hne : b ≠ g) :
    (sortWorldK SpotIn.enc 6 w g 0 m dk os).heap[b]? = w.heap[b]? := by
  unfold sortWorldK
  rw [Go.Sort.heap_grow_old _ _ (by rw [Go.Sort.size_putRowK]; exact hb)]
  unfold Go.Sort.putRowK Go.Sort.putRow Go.Sort.mapBlock
  simp only [Array.getElem?_modify, if_neg (Ne.symm hne)]
  rfl
theorem sort_wrote (m : Nat) (dk : Array (SpotIn w k)) (os : Array Obj) : Wrote g w (sortWorldK SpotIn.enc 6 w g 0 m dk os) :=
  ⟨rfl, rfl, rfl, size_sortWorldK_c _ _ _ _ _ _ _ _, Nat.le_add_right _ _, fun _ hb hne => sort_other m dk os hb hne⟩
theorem sort_keeps (hN : NoInts w g) (m : Nat) (dk : Array (SpotIn w k)) (os : Array Obj) : Keeps w (sortWorldK SpotIn.enc 6 w g 0 m dk os) := by
  intro B K v N n h
  obtain ⟨A, c, hv, h1, h2, h4, h3⟩ := h
  refine ⟨A, c, hv, h1, h2, h4, fun hk => ?_⟩
  obtain ⟨b, off, hA, hc⟩ := h3 hk
  refine ⟨b, off, hA, fun i hi => ?_⟩
  exact (sort_wrote m dk os).cell (hc i hi) fun e => by
    simp only at e
    subst e
    exact hN _ _ (hc i hi) K _ rfl
theorem sort_own {base : Nat} (hbg : base ≤ g) (hg : w.heap[g]? = some (.cells cur e (0, 0))) (hN : NoInts w g) (hcm : cap ≤ maxLen) (hcs : cur.size = cap * 6) (m : Nat) (dk : Array (SpotIn w k)) (os : Array Obj) (hn : dk.size ≤ cap) :
    OwnC e (sortWorldK SpotIn.enc 6 w g 0 m dk os) base (.slice (some ⟨g, 0, none⟩) dk.size cap) (dk.toList.map SpotIn.val) := by
  have hb := sort_block hg m dk os
  have hk := sort_keeps hN m dk os
  generalize sortWorldK SpotIn.enc 6 w g 0 m dk os = W at hb hk
  have hfs : (Go.Sort.flatK SpotIn.enc 6 dk).size = dk.size * 6 := Go.Sort.size_flatK _ _ _
  have hmul : dk.size * 6 ≤ cap * 6 := Nat.mul_le_mul_right _ hn
  have hel : ∀ t, t < dk.size * 6 → ∃ x : SpotIn w k, dk.toList[t / 6]? = some x ∧ (Go.Sort.flatK SpotIn.enc 6 dk)[t]? = x.enc[t % 6]? := by
    intro t ht
    have hi : t / 6 < dk.size := by omega
    refine ⟨dk[t / 6], by simp [hi], ?_⟩
    have e1 := Go.Sort.get_flatK SpotIn.enc 6 dk t ht
    have hlen := (dk[t / 6]).len
    rw [getElem!_pos _ _ (by omega), getElem!_pos dk _ hi, getElem!_pos _ _ (by omega)] at e1
    rw [Array.getElem?_eq_getElem (by omega), List.getElem?_eq_getElem (by omega), e1]
  have hget : ∀ t, t < cap * 6 → (Go.Sort.putCells id 0 (Go.Sort.flatK SpotIn.enc 6 dk) cur)[t]? = if t < dk.size * 6 then (Go.Sort.flatK SpotIn.enc 6 dk)[t]? else cur[t]? := by
    intro t ht
    unfold Go.Sort.putCells
    rw [Array.getElem?_mapIdx, Array.getElem?_eq_getElem (by omega)]
    simp only [Option.map_some, id]
    by_cases h : t < dk.size * 6
    · rw [if_pos (by omega), if_pos h, Array.getElem?_eq_getElem (by omega), Nat.sub_zero, getElem!_pos _ _ (by omega)]
    · rw [if_neg (by omega), if_neg h]
  have hN' : NoInts W g := by
    intro p u hu
    rw [cell_of_row W g p _ e (0, 0) hb] at hu
    have hp : p < cap * 6 := by
      rcases Nat.lt_or_ge p (cap * 6) with h | h
      · exact h
      · rw [Array.getElem?_eq_none (by simp [Go.Sort.putCells, hcs]; exact h)] at hu; simp at hu
    rw [hget p hp] at hu
    split at hu
    · next h =>
      obtain ⟨x, -, h2⟩ := hel p h
      rw [h2] at hu
      exact x.noint u (List.mem_of_getElem? hu)
    · exact hN p u (by rw [cell_of_row w g p cur e (0, 0) hg]; exact hu)
  have ho := OwnC.of (l := dk.toList.map SpotIn.val) hbg hN' hb (by simpa using hn) hcm (by simp [Go.Sort.putCells, hcs]) (by
    intro i p hp
    rw [List.getElem?_map] at hp
    obtain ⟨x, hx, rfl⟩ := Option.map_eq_some_iff.1 hp
    have hi : i < dk.size := by
      have := (List.getElem?_eq_some_iff.1 hx).1
      simpa using this
    have hcell : ∀ j, j < 6 → (Go.Sort.putCells id 0 (Go.Sort.flatK SpotIn.enc 6 dk) cur)[i * 6 + j]? = x.enc[j]? := by
      intro j hj
      rw [hget _ (by omega), if_pos (by omega)]
      obtain ⟨y, h3, h4⟩ := hel (i * 6 + j) (by omega)
      have e1 : (i * 6 + j) / 6 = i := by omega
      have e2 : (i * 6 + j) % 6 = j := by omega
      rw [e1, hx] at h3
      injection h3 with h3
      rw [h4, e2, ← h3]
    obtain ⟨⟨us, q⟩, h1, h2, h3, hS, hQ⟩ := x
    have hS9 := hS
    obtain ⟨b, A, n, c, C, m, d, b', A', n', c', C', m', d', eq6, -, -⟩ := hS9
    injection eq6 with eus
    simp only at eus
    subst eus
    exact ⟨b, A, n, c, C, m, d, b', A', n', c', C', m', d', ⟨hcell 0 (by omega), hcell 1 (by omega), hcell 2 (by omega), hcell 3 (by omega), hcell 4 (by omega), hcell 5 (by omega)⟩, SpotC.kept hS hk⟩)
  simpa using ho
end
end Go.Proofs.YthhgogpglocjdaaGreat
namespace Go.Proofs.YthhgogpglocjdaaGreat
open Go.RowKit

set_option maxRecDepth 100000 in
set_option maxHeartbeats 4000000 in
theorem sclean_any (Va : Value) (x y : Rat) (k : Nat) (w : World) (ha : SpotV w Va x y k) (hk : 1 ≤ k) (hs : k < 67108864) :
    Calls Tryz.prog 34 #[Va] w fun e w' => ∃ V, e = .returned V ∧ SpotC w' V x y ∧ Grew w w' := by
  obtain ⟨b1, A1, n1, c1, C1, m1, d1, b2, A2, n2, c2, C2, m2, d2, rfl, Fa, Fb, -⟩ := ha.laid
  clear ha
  go_enter Tryz.func34, Tryz.ntmps34
  go_wp2_with fail
  refine gen_wp ?_
  intro W0 hW0
  have G0 : Grew w W0 := by rw [hW0]; exact ((Grew.refl w).alloc _).alloc _
  have P : Box3 W0 (w.heap.size) 0 (.bool b1) (.slice A1 n1 c1) (.slice C1 m1 d1) := by rw [hW0]; exact ⟨by simp [go_sem], by simp [go_sem], by simp [go_sem]⟩
  replace P := Lib.hid P
  have Py : Box3 W0 (w.heap.size) 3 (.bool b2) (.slice A2 n2 c2) (.slice C2 m2 d2) := by rw [hW0]; exact ⟨by simp [go_sem], by simp [go_sem], by simp [go_sem]⟩
  replace Py := Lib.hid Py
  have R : Res3 W0 (w.heap.size + 1) 0 (.bool false) (.slice none 0 0) (.slice none 0 0) := by rw [hW0]; exact ⟨by simp [go_sem], by simp [go_sem], by simp [go_sem], by simp [go_sem], by simp [go_sem], by simp [go_sem], by simp⟩
  replace R := Lib.hid R
  have R_ : Res3 W0 (w.heap.size + 1) 3 (.bool false) (.slice none 0 0) (.slice none 0 0) := by rw [hW0]; exact ⟨by simp [go_sem], by simp [go_sem], by simp [go_sem], by simp [go_sem], by simp [go_sem], by simp [go_sem], by simp⟩
  replace R_ := Lib.hid R_
  have z0 : w.heap.size < W0.heap.size := by rw [hW0]; simp <;> omega
  replace z0 := Lib.hid z0
  have z1 : w.heap.size + 1 < W0.heap.size := by rw [hW0]; simp <;> omega
  replace z1 := Lib.hid z1
  clear hW0
  replace Fa := Lib.hid (Fa.out.kept G0.keeps)
  replace Fb := Lib.hid (Fb.out.kept G0.keeps)
  replace G0 := Lib.hid G0
  have gd : Grew W0 W0.drew := (Grew.refl W0).drew
  replace R := Lib.hid (R.out.grew gd)
  replace R_ := Lib.hid (R_.out.grew gd)
  replace P := Lib.hid (P.out.grew gd)
  replace Py := Lib.hid (Py.out.grew gd)
  replace z0 := Lib.hid (lt_grew z0.out gd)
  replace z1 := Lib.hid (lt_grew z1.out gd)
  replace Fa := Lib.hid (Fa.out.kept gd.keeps)
  replace Fb := Lib.hid (Fb.out.kept gd.keeps)
  replace gd := Lib.hid gd
  have ZP := P
  have ZPy := Py
  go_region_held3 (fun w' => w'.cell? ⟨w.heap.size, 0, none⟩ = some (.bool b1) ∧ w'.cell? ⟨w.heap.size, 1, none⟩ = some (.slice A1 n1 c1) ∧ w'.cell? ⟨w.heap.size, 2, none⟩ = some (.slice C1 m1 d1) ∧ w'.cell? ⟨w.heap.size, 3, none⟩ = some (.bool b2) ∧ w'.cell? ⟨w.heap.size, 4, none⟩ = some (.slice A2 n2 c2) ∧ w'.cell? ⟨w.heap.size, 5, none⟩ = some (.slice C2 m2 d2))
    (first | (with_reducible exact ⟨ZP.out.p0, ZP.out.p1, ZP.out.p2, ZPy.out.p0, ZPy.out.p1, ZPy.out.p2⟩) | (with_reducible exact ⟨g1.cell ZP.out.p0, g1.cell ZP.out.p1, g1.cell ZP.out.p2, g1.cell ZPy.out.p0, g1.cell ZPy.out.p1, g1.cell ZPy.out.p2⟩) | (with_reducible exact ⟨(g1.trans g2).cell ZP.out.p0, (g1.trans g2).cell ZP.out.p1, (g1.trans g2).cell ZP.out.p2, (g1.trans g2).cell ZPy.out.p0, (g1.trans g2).cell ZPy.out.p1, (g1.trans g2).cell ZPy.out.p2⟩) | (with_reducible exact ⟨other3 (o := 3) (by omega) (other3 (o := 0) (by omega) ((g1.trans g2).cell ZP.out.p0)), other3 (o := 3) (by omega) (other3 (o := 0) (by omega) ((g1.trans g2).cell ZP.out.p1)), other3 (o := 3) (by omega) (other3 (o := 0) (by omega) ((g1.trans g2).cell ZP.out.p2)), other3 (o := 3) (by omega) (other3 (o := 0) (by omega) ((g1.trans g2).cell ZPy.out.p0)), other3 (o := 3) (by omega) (other3 (o := 0) (by omega) ((g1.trans g2).cell ZPy.out.p1)), other3 (o := 3) (by omega) (other3 (o := 0) (by omega) ((g1.trans g2).cell ZPy.out.p2))⟩))
    (first | (have chk := g1; clear chk; go_at_call 62; refine (freduce_any _ y k _ Fb.out hk (by omega)).mono ?_; rintro e w2 ⟨V2, rfl, hV2, g2⟩; obtain ⟨b14, A14, n14, c14, C14, m14, d14, rfl, X2⟩ := hV2.laid; clear hV2; replace R := Lib.hid (R.out.grew g2); replace R_ := Lib.hid (R_.out.grew g2); replace P := Lib.hid (P.out.grew g2); replace Py := Lib.hid (Py.out.grew g2); replace z0 := Lib.hid (lt_grew z0.out g2); replace z1 := Lib.hid (lt_grew z1.out g2); replace Fa := Lib.hid (Fa.out.kept g2.keeps); replace Fb := Lib.hid (Fb.out.kept g2.keeps); replace X1 := Lib.hid (X1.out.kept g2.keeps); obtain ⟨R0, R1, R2, Rf0, Rf1, Rf2, Rs⟩ := R.out; obtain ⟨R_0, R_1, R_2, R_f0, R_f1, R_f2, R_s⟩ := R_.out) | (go_at_call 62; refine (freduce_any _ x k _ Fa.out hk (by omega)).mono ?_; rintro e w1 ⟨V1, rfl, hV1, g1⟩; obtain ⟨b13, A13, n13, c13, C13, m13, d13, rfl, X1⟩ := hV1.laid; clear hV1; replace R := Lib.hid (R.out.grew g1); replace R_ := Lib.hid (R_.out.grew g1); replace P := Lib.hid (P.out.grew g1); replace Py := Lib.hid (Py.out.grew g1); replace z0 := Lib.hid (lt_grew z0.out g1); replace z1 := Lib.hid (lt_grew z1.out g1); replace Fa := Lib.hid (Fa.out.kept g1.keeps); replace Fb := Lib.hid (Fb.out.kept g1.keeps)))
  replace G0 := Lib.hid (((G0.out.trans gd.out).trans g1).trans g2)
  clear gd g1 g2 ZP ZPy
  refine gen_then ?_
  intro W9 hW9
  obtain ⟨q0, q1, q2, q3, q4, q5, qK, qG⟩ := store6 R0 R1 R2 R_0 R_1 R_2 hW9
  have GE := qG w (by omega) G0.out
  have QK := Lib.hid qK
  clear qK qG hW9 R0 R1 R2 R_0 R_1 R_2
  go_wp2_with fail
  exact bodyPost_ret (v := .agg #[.bool b13, .slice A13 n13 c13, .slice C13 m13 d13, .bool b14, .slice A14 n14 c14, .slice C14 m14 d14]) (by simp [results, Tryz.results34, go_sem, q0, q1, q2, q3, q4, q5]) rfl ⟨_, rfl, SpotC.mk (X1.out.kept QK.out) (X2.out.kept QK.out), GE⟩

set_option maxRecDepth 100000 in
set_option maxHeartbeats 8000000 in
theorem rowcmp_any (Va Vb : Value) (ax ay bx b_y : Rat) (k : Nat) (w : World) (ha : SpotV w Va ax ay k) (hb : SpotV w Vb bx b_y k) (hk : 1 ≤ k) (hs : k < 67108864) :
    Calls Tryz.prog 36 #[Va, Vb] w fun e w' => e = .returned (.int .i64 (spotCmp ax ay bx b_y)) ∧ Grew w w' := by
  obtain ⟨b1, A1, n1, c1, C1, m1, d1, b2, A2, n2, c2, C2, m2, d2, rfl, -, -, Sa⟩ := ha.laid
  obtain ⟨b3, A3, n3, c3, C3, m3, d3, b4, A4, n4, c4, C4, m4, d4, rfl, -, -, Sb⟩ := hb.laid
  clear ha hb
  go_enter Tryz.func36, Tryz.ntmps36
  go_wp2_with fail
  refine gen_calls ?_
  intro W0 hW0
  have G0 : Grew w W0 := by rw [hW0]; exact ((Grew.refl w).alloc _).alloc _
  have P : Box3 W0 (w.heap.size) 0 (.bool b1) (.slice A1 n1 c1) (.slice C1 m1 d1) := by rw [hW0]; exact ⟨by simp [go_sem], by simp [go_sem], by simp [go_sem]⟩
  replace P := Lib.hid P
  have Py : Box3 W0 (w.heap.size) 3 (.bool b2) (.slice A2 n2 c2) (.slice C2 m2 d2) := by rw [hW0]; exact ⟨by simp [go_sem], by simp [go_sem], by simp [go_sem]⟩
  replace Py := Lib.hid Py
  have Q : Box3 W0 (w.heap.size + 1) 0 (.bool b3) (.slice A3 n3 c3) (.slice C3 m3 d3) := by rw [hW0]; exact ⟨by simp [go_sem], by simp [go_sem], by simp [go_sem]⟩
  replace Q := Lib.hid Q
  have Qy : Box3 W0 (w.heap.size + 1) 3 (.bool b4) (.slice A4 n4 c4) (.slice C4 m4 d4) := by rw [hW0]; exact ⟨by simp [go_sem], by simp [go_sem], by simp [go_sem]⟩
  replace Qy := Lib.hid Qy
  have z0 : w.heap.size < W0.heap.size := by rw [hW0]; simp <;> omega
  replace z0 := Lib.hid z0
  have z1 : w.heap.size + 1 < W0.heap.size := by rw [hW0]; simp <;> omega
  replace z1 := Lib.hid z1
  clear hW0
  replace Sa := Lib.hid (Sa.out.kept G0.keeps)
  replace Sb := Lib.hid (Sb.out.kept G0.keeps)
  replace G0 := Lib.hid G0
  refine (scmp_any _ _ ax ay bx b_y k _ Sa.out Sb.out hk hs).mono ?_
  rintro e w1 ⟨rfl, g1⟩
  replace P := Lib.hid (P.out.grew g1)
  replace Py := Lib.hid (Py.out.grew g1)
  replace Q := Lib.hid (Q.out.grew g1)
  replace Qy := Lib.hid (Qy.out.grew g1)
  replace z0 := Lib.hid (lt_grew z0.out g1)
  replace z1 := Lib.hid (lt_grew z1.out g1)
  replace Sa := Lib.hid (Sa.out.kept g1.keeps)
  replace Sb := Lib.hid (Sb.out.kept g1.keeps)
  replace G0 := Lib.hid (G0.out.trans g1)
  clear g1
  go_wp2_with fail
  go_ret
  exact ⟨rfl, G0.out⟩
end Go.Proofs.YthhgogpglocjdaaGreat
namespace Go.Proofs.YthhgogpglocjdaaGreat
open Go.RowKit

theorem sort_any (base : Nat) (v : Value) (l : List (Rat × Rat)) (k : Nat) (w : World) (hO : OwnC 39 w base v l) (hq : ∀ p ∈ l, QB p.1 k ∧ QB p.2 k) (hk : 1 ≤ k) (hs : k < 67108864) (hl : l.length ≤ 1099511627776) :
    Calls Tryz.prog 35 #[v, .func (.func 36) #[] #[]] w fun e w' => e = .returned (.tuple #[]) ∧ ∃ m, (∀ q, q ∈ m ↔ q ∈ l) ∧ m.length = l.length ∧ m.Pairwise spotNg ∧ OwnC 39 w' base v m ∧ ∀ W, W.heap.size ≤ base → Grew W w → Grew W w' := by
  by_cases h0 : l.length = 0
  · obtain rfl : l = [] := List.eq_nil_of_length_eq_zero h0
    obtain ⟨A, c, rfl, -, -, -⟩ := hO.row
    exact (Go.Proofs.AnyF.slices_SortFunc_none { Tryz.sortSpot with } A c _ w).mono fun e w' ⟨he, hw⟩ => by
      subst hw
      exact ⟨he, [], fun _ => Iff.rfl, rfl, List.Pairwise.nil, hO, fun _ _ h => h⟩
  obtain ⟨g, cap, cur, d, rfl, hbg, hN, hg, hnc, hcm, hcs, hds, hdl, ⟨x0⟩, hH⟩ := hO.elems (k := k) (by omega) hq
  letI : Inhabited (SpotIn w k) := ⟨x0⟩
  have hblk : g < w.heap.size := by
    rcases Nat.lt_or_ge g w.heap.size with h | h
    · exact h
    · rw [Array.getElem?_eq_none h] at hg; simp at hg
  have eg : ∀ args w, (callFunc 36 args).run Tryz.prog w = .ok (.enter 36 args) w := enters_of Tryz.func36 (by kernel_rfl) rfl
  have hcmp : CmpLays Tryz.prog 36 #[] (SpotIn.enc (W := w) (k := k)) 6 SpotIn.cmp g 0 d.size w := by
    intro m os dk _ x y
    have hK := sort_keeps hN m dk os
    generalize sortWorldK (SpotIn.enc (W := w) (k := k)) 6 w g 0 m dk os = W at hK ⊢
    have hx := SpotC.v (SpotC.kept x.2.2.2.2.1 hK) x.2.2.2.2.2.1 x.2.2.2.2.2.2
    have hy := SpotC.v (SpotC.kept y.2.2.2.2.1 hK) y.2.2.2.2.2.1 y.2.2.2.2.2.2
    have h := rowcmp_any _ _ x.1.2.1 x.1.2.2 y.1.2.1 y.1.2.2 k W hx hy hk hs
    have e : (#[Value.agg x.enc.toArray, .agg y.enc.toArray] ++ #[] : Array Value) = #[.agg x.1.1, .agg y.1.1] := by
      unfold SpotIn.enc; simp
    rw [e]
    exact h.mono fun e w' ⟨he, hG⟩ => ⟨he, hG.grow⟩
  have hz : ∀ w : World, (Go.sizeOf 39).run Tryz.prog w = .ok 6 w := Tryz.sizeOf39
  have ha : ∀ w : World, (isAgg 39).run Tryz.prog w = .ok true w := Tryz.isAgg39
  have h := Go.Proofs.AnyQ.slices_SortFunc Tryz.sortSpot 6 ha hz SpotIn.enc SpotIn.len SpotIn.one SpotIn.cmp SpotIn.swo 36 #[] g 0 cap d w eg hcmp hH hblk (by omega)
  rw [hds] at h
  refine h.mono fun e w' ⟨he, d', n, os, hp, hsd, hw⟩ => ⟨he, d'.toList.map SpotIn.val, ?_⟩
  obtain ⟨hsz, -, hperm⟩ := hp
  have e1 : (d'.extract 0 l.length).toList = d'.toList := by rw [← hds, ← hsz]; simp
  have e2 : (d.extract 0 l.length).toList = d.toList := by rw [← hds]; simp
  rw [e1, e2] at hperm
  have hlen : (d'.toList.map SpotIn.val).length = l.length := by rw [List.length_map, Array.length_toList]; omega
  have ho := sort_own (e := 39) hbg hg hN hcm hcs n d' os (by omega)
  rw [show d'.size = l.length by omega] at ho
  refine ⟨fun q => ?_, hlen, ?_, by rw [hw]; exact ho, fun W h1 h2 => by rw [hw]; exact h2.wrote (sort_wrote n d' os) (Nat.le_trans h1 hbg)⟩
  · rw [← hdl]
    simp only [List.mem_map]
    constructor
    · rintro ⟨x, hx, rfl⟩; exact ⟨x, hperm.mem_iff.1 hx, rfl⟩
    · rintro ⟨x, hx, rfl⟩; exact ⟨x, hperm.mem_iff.2 hx, rfl⟩
  · rw [List.pairwise_iff_getElem]
    intro i j hi hj hij
    rw [List.length_map, Array.length_toList] at hi hj
    have h1 := hsd i j (Nat.zero_le _) hij (by omega)
    rw [getElem!_pos d' j hj, getElem!_pos d' i hi, SpotIn.nlt] at h1
    simpa [spotNg] using h1
end Go.Proofs.YthhgogpglocjdaaGreat
namespace Go.Proofs.YthhgogpglocjdaaGreat
open Go.RowKit

theorem RowR.qb {k : Nat} {w : World} {v : Value} {l : List (Rat × Rat)} (h : RowR k w v l) (hk : 1 ≤ k) : ∀ p ∈ l, QB p.1 k ∧ QB p.2 k := by
  obtain ⟨A, c, -, -, -, h3⟩ := h
  intro p hp
  obtain ⟨i, hi, rfl⟩ := List.getElem_of_mem hp
  obtain ⟨b, o, -, he⟩ := h3 (by omega)
  obtain ⟨b1, A1, n1, c1, C1, m1, d1, b2, A2, n2, c2, C2, m2, d2, -, S1⟩ := he i _ (List.getElem?_eq_getElem hi)
  obtain ⟨_, _, _, _, _, _, _, _, _, _, _, _, _, _, -, F1, F2⟩ := S1
  exact ⟨F1.v.qb hk, F2.v.qb hk⟩

theorem made_spots (c : Nat) : ∀ u ∈ madeCells (Value.agg #[.bool false, .slice none 0 0, .slice none 0 0, .bool false, .slice none 0 0, .slice none 0 0]).cells c, NoInt u := by
  intro u hu
  simp only [madeCells, Array.mem_map, Array.mem_range] at hu
  obtain ⟨j, -, rfl⟩ := hu
  have hlt : j % (Value.agg #[.bool false, .slice none 0 0, .slice none 0 0, .bool false, .slice none 0 0, .slice none 0 0]).cells.size < 6 := Nat.mod_lt _ (by decide)
  generalize j % (Value.agg #[.bool false, .slice none 0 0, .slice none 0 0, .bool false, .slice none 0 0, .slice none 0 0]).cells.size = t at hlt ⊢
  have ht : t = 0 ∨ t = 1 ∨ t = 2 ∨ t = 3 ∨ t = 4 ∨ t = 5 := by omega
  rcases ht with rfl | rfl | rfl | rfl | rfl | rfl <;> intro k x e <;> simp [Value.cells] at e
theorem make_spots (c : Nat) (hc : c ≤ 1099511627776) (u : World) : (Instr.makeSlice 27 (.int .i64 0) (.int .i64 (c : Int))).run Tryz.prog u =
    .ok (.slice (some ⟨u.heap.size, 0, none⟩) 0 c) (u.alloc (.cells (madeCells (Value.agg #[.bool false, .slice none 0 0, .slice none 0 0, .bool false, .slice none 0 0, .slice none 0 0]).cells (c * 6)) 39)) := by
  obtain ⟨i0, hi, hz0, hz1, hz2⟩ := info_parts info_spot
  have h := run_make (P := Tryz.prog) u 27 39 i0 _ Tryz.underlying27 hi hz0 .i64 .i64 (0 : Int) (c : Int) (by omega) (by omega) (by rw [hz2]; omega) (by omega)
  rw [hz1] at h
  simpa using h

set_option maxRecDepth 100000 in
set_option maxHeartbeats 16000000 in
theorem srow_any (v : Value) (l : List (Rat × Rat)) (k : Nat) (w : World) (hr : RowR k w v l) (hq : ∀ p ∈ l, QB p.1 k ∧ QB p.2 k) (hk : 1 ≤ k) (hs : k < 67108864) (hl : l.length ≤ 1099511627776) :
    Calls Tryz.prog 12 #[v] w fun e w' => ∃ v', e = .returned v' ∧ RowC w' v' (rowQ l) ∧ Grew w w' := by
  obtain ⟨A, c, rfl, h1, h2, h3⟩ := hr
  obtain ⟨L, hL⟩ : ∃ L, l.length = L := ⟨_, rfl⟩
  rw [hL] at h1 hl h3
  rw [hL]
  have hm : L ≤ 9223372036854775807 := by omega
  replace h3 := Lib.hid h3
  replace hq := Lib.hid hq
  have hmk := make_spots L hl w
  have hO0 := Lib.hid (OwnC.made 39 w w.heap.size L (Nat.le_refl _) (by unfold maxLen; omega) _ (made_spots (L * 6)) (size_madeCells _ _))
  have hG0 := Lib.hid ((Grew.refl w).alloc (.cells (madeCells (Value.agg #[.bool false, .slice none 0 0, .slice none 0 0, .bool false, .slice none 0 0, .slice none 0 0]).cells (L * 6)) 39))
  generalize w.alloc (.cells (madeCells (Value.agg #[.bool false, .slice none 0 0, .slice none 0 0, .bool false, .slice none 0 0, .slice none 0 0]).cells (L * 6)) 39) = W1 at hmk hO0 hG0
  go_enter Tryz.func12, Tryz.ntmps12
  go_wp2_with (simp only [hmk])
  go_loopg [3, 11] L (fun gk ov ii wr => ∃ j : Nat, gk + j = L ∧ ii = .int .i64 j ∧ OwnC 39 wr w.heap.size ov (l.take j) ∧ Grew w wr)
  case atStart => exact ⟨0, rfl, rfl, by rw [List.take_zero]; exact hO0.out, hG0.out⟩
  case round =>
    obtain ⟨j, hj, rfl, hO, hG⟩ := hrel
    clear hO0 hG0 hmk
    by_cases hlt : j < L
    · obtain ⟨b, o, rfl, he⟩ := h3.out (by omega)
      obtain ⟨p, hp⟩ : ∃ p, l[j]? = some p := ⟨l[j]'(by omega), List.getElem?_eq_getElem _⟩
      have htk := Lib.hid (take_snoc hp)
      obtain ⟨b1, A1, n1, c1, C1, m1, d1, b2, A2, n2, c2, C2, m2, d2, ⟨e0, e1, e2, e3, e4, e5⟩, S1⟩ := he j p hp
      have f0 : wr.cell? ⟨b, o + j * 6, none⟩ = some (.bool b1) := hG.cell e0
      have f1 : wr.cell? ⟨b, o + j * 6 + 1, none⟩ = some (.slice A1 n1 c1) := hG.cell e1
      have f2 : wr.cell? ⟨b, o + j * 6 + 2, none⟩ = some (.slice C1 m1 d1) := hG.cell e2
      have f3 : wr.cell? ⟨b, o + j * 6 + 3, none⟩ = some (.bool b2) := hG.cell e3
      have f4 : wr.cell? ⟨b, o + j * 6 + 4, none⟩ = some (.slice A2 n2 c2) := hG.cell e4
      have f5 : wr.cell? ⟨b, o + j * 6 + 5, none⟩ = some (.slice C2 m2 d2) := hG.cell e5
      replace S1 := Lib.hid (SpotR.kept S1 hG.keeps)
      have hO' := Lib.hid hO
      have hG' := Lib.hid hG
      have hlen : (l.take j).length = j := by rw [List.length_take]; omega
      have hjl : (j : Int) < (L : Int) := by omega
      clear e0 e1 e2 e3 e4 e5 he hO hG hp
      go_upto_region 5 with fail
      refine gen_wp ?_
      intro W9 hW9
      have t0 : W9.cell? ⟨wr.heap.size, 0, none⟩ = some (.bool b1) := by rw [hW9]; simp [go_sem]
      have t1 : W9.cell? ⟨wr.heap.size, 1, none⟩ = some (.slice A1 n1 c1) := by rw [hW9]; simp [go_sem]
      have t2 : W9.cell? ⟨wr.heap.size, 2, none⟩ = some (.slice C1 m1 d1) := by rw [hW9]; simp [go_sem]
      have t3 : W9.cell? ⟨wr.heap.size, 3, none⟩ = some (.bool b2) := by rw [hW9]; simp [go_sem]
      have t4 : W9.cell? ⟨wr.heap.size, 4, none⟩ = some (.slice A2 n2 c2) := by rw [hW9]; simp [go_sem]
      have t5 : W9.cell? ⟨wr.heap.size, 5, none⟩ = some (.slice C2 m2 d2) := by rw [hW9]; simp [go_sem]
      have gl : Grew wr W9 := by rw [hW9]; exact (Grew.refl _).alloc _
      have SS := Lib.hid (SpotR.kept S1.out gl.keeps)
      have og := Lib.hid (OwnC.grew hO'.out gl)
      have gg := Lib.hid (hG'.out.trans gl)
      clear hW9 gl hO' hG' S1 f0 f1 f2 f3 f4 f5
      go_wp2_with fail
      refine (sclean_any _ p.1 p.2 k _ SS.out.v hk hs).mono ?_
      rintro e wy ⟨V, rfl, hV, gy⟩
      obtain ⟨b7, A7, n7, c7, C7, m7, d7, b8, A8, n8, c8, C8, m8, d8, rfl, -, -, X7⟩ := hV.laid
      obtain ⟨xs, hown, hF⟩ := OwnC.grew og.out gy
      have gwy := gg.out.trans gy
      have hsz := gwy.size
      have ho := Lib.hid hown
      replace hF := Lib.hid hF
      replace gwy := Lib.hid gwy
      clear hV gy t0 t1 t2 t3 t4 t5 SS og gg hown
      go_wp2_with (first | fail | (at_builtin; (refine wpList_appS1 _ rfl (.tmp 15) (.tmp 18) 27 rfl w.heap.size 39 _ 6 112 Tryz.underlying27 info_spot rfl (by omega) zero_spot _ _ _ rfl ho.out _ rfl (one6 _ _ _ _ _ _ _ _ _ _ _ _ _ _) (noint6 _ _ _ _ _ _ _ _ _ _ _ _ _ _) rfl (by omega) (by omega) hsz ?_); intro vB wzB hown1 hG1 hK1))
      have gzB := hG1 w (Nat.le_refl _) gwy.out
      have ozB := OwnC.snoc (p := p) hown1 hF.out X7.out hK1
      clear hown1 hG1 hK1 ho hF X7 gwy hsz
      go_wp2_with fail
      go_roundg (gk - 1)
      case rel => exact ⟨j + 1, by omega, by go_num, by rw [htk.out]; exact ozB, gzB⟩
      case measure => omega
    · obtain rfl : j = L := by omega
      have hall : l.take j = l := by rw [← hL]; exact List.take_length
      rw [hall] at hO
      obtain ⟨A5, c5, rfl, -, -, -⟩ := hO.row
      rw [hL] at hO ⊢
      have hO' := Lib.hid hO
      have hG' := Lib.hid hG
      clear hO hG
      go_wp2_with fail
      refine (sort_any w.heap.size _ l k _ hO'.out hq.out hk hs (by omega)).mono ?_
      rintro e w2 ⟨rfl, m, hm1, hm2, hm3, hO2, hG2⟩
      have hgw := Lib.hid (hG2 w (Nat.le_refl _) hG'.out)
      replace hO2 := Lib.hid hO2
      have hrow := Lib.hid (comp_row hm3 hm1)
      have hq2 := Lib.hid (fun p (hp : p ∈ m) => hq.out p ((hm1 p).1 hp))
      clear hG2 hG' hO' hm1 hm3
      go_wp2_with fail
      refine (compact_any w.heap.size _ m k _ hO2.out hq2.out hk hs (by omega)).mono ?_
      rintro e w3 ⟨V3, rfl, hO3, hG3⟩
      rw [hrow.out] at hO3
      have hgw3 := Lib.hid (hG3 w (Nat.le_refl _) hgw.out)
      obtain ⟨A6, c6, rfl, y1, y2, y3⟩ := hO3.row
      have hres : RowC w3 (.slice A6 (rowQ l).length (rowQ l).length) (rowQ l) := ⟨A6, _, rfl, Nat.le_refl _, by omega, y3⟩
      replace hres := Lib.hid hres
      clear hO3 hG3 y3 hO2 hgw hq2
      go_wp2_with fail
      go_ret
      exact ⟨_, rfl, hres.out, hgw3.out⟩
end Go.Proofs.YthhgogpglocjdaaGreat
