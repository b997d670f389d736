/- How a slice of spots comes in: a row of spots, each part of no more words than the reading's bulk. Conditions: none. -/
import Derived.Test.YthhgogpglocjdaaGreatJOpen
import Derived.Test.YthhgogpglocjdaaGreatJRowP
namespace Go.Proofs.YthhgogpglocjdaaGreat
open Go.ChangeShapes Go.WideShapes Go.ChangeAt Go.RowKit

section
variable {H : Type} {enc : TypeId × Value → H} {w : World} {base : Nat} {spare : Nat → Bool} {held : Bool}

theorem bulk_mem : ∀ {ds : List (DataW H)} {d : DataW H}, d ∈ ds → Rows.uptoBulk d ≤ Rows.uptoBulkAll ds
  | [], _, h => by simp at h
  | e :: ds, d, h => by
    rw [Rows.uptoBulkAll]
    rcases List.mem_cons.1 h with rfl | h
    · omega
    · have := bulk_mem h
      omega
theorem bulk_len : ∀ (ds : List (DataW H)), (∀ d ∈ ds, 1 ≤ Rows.uptoBulk d) → ds.length ≤ Rows.uptoBulkAll ds
  | [], _ => by simp
  | e :: ds, h => by
    have h1 := h e List.mem_cons_self
    have h2 := bulk_len ds fun d hd => h d (List.mem_cons_of_mem _ hd)
    rw [Rows.uptoBulkAll, List.length_cons]
    omega

set_option maxRecDepth 100000 in
/-- A spot that comes in weighs something. -/
theorem spot_bulk {fuel : Nat} {cs : List Value} {x : DataW H × List MemPlace} (h : DataW.trod enc Tryz.prog w base spare held fuel 39 cs = some x) : 1 ≤ Rows.uptoBulk x.1 := by
  obtain ⟨y0, y1, n1, rfl, hl, h0, h1⟩ := trod_struct2 Tryz.underlying39 h
  obtain ⟨z0, z1, n2, rfl, hl2, g0, g1⟩ := trod_struct2 Tryz.underlying37 h0
  obtain ⟨u0, u1, n3, rfl, hl3, k0, k1⟩ := trod_struct2 Tryz.underlying35 g0
  have e3 : Tryz.prog.cellsOf 4 = 1 := by kernel_rfl
  have e6 : Tryz.prog.cellsOf 39 = 6 := by kernel_rfl
  have e4 : Tryz.prog.cellsOf 37 = 3 := by kernel_rfl
  have e2 : Tryz.prog.cellsOf 35 = 2 := by kernel_rfl
  obtain ⟨b, hb, hx⟩ := DataW.trod_bool Tryz.underlying4 k0
  subst hx
  simp only [Rows.uptoBulk, Rows.uptoBulkAll]
  omega

set_option maxRecDepth 100000 in
theorem open_spots {fuel : Nat} {cs : List Value} {x : DataW H × List MemPlace} {K : Nat} (h : DataW.trod enc Tryz.prog w base spare held fuel 27 cs = some x) (hK : Rows.uptoBulk x.1 ≤ K) :
    ∃ A n c l, cs = [.slice A n c] ∧ l.length = n ∧ RowR K w (.slice A n c) l ∧ l.length ≤ K := by
  have e6 : Tryz.prog.cellsOf 39 = 6 := by kernel_rfl
  rcases DataW.trod_slice Tryz.underlying27 h with ⟨rfl, rfl⟩ | ⟨a, len, cap, elems, rest, n, -, rfl, rfl, -, hl, hc, he, hel, -, -⟩
  · exact ⟨none, 0, 0, [], rfl, rfl, RowP.nil _ _, by simp⟩
  · rw [e6] at hel
    have hbulk : Rows.uptoBulkAll (elems.map (·.1)) ≤ K := by
      refine Nat.le_trans ?_ hK
      simp only [Rows.uptoBulk]
      omega
    have key : ∀ i : Fin len, ∃ p : Rat × Rat, ∃ cs' : List Value, (∀ j, j < 6 → w.cell? ((a.add (i * 6)).add j) = cs'[j]?) ∧ cs'.length = 6 ∧ SpotR w (.agg cs'.toArray) p.1 p.2 K ∧ ∃ y, elems[i.1]? = some y ∧ 1 ≤ Rows.uptoBulk y.1 := by
      rintro ⟨i, hi⟩
      have h1 := hel i hi
      rw [List.getElem?_eq_getElem (by omega), Option.bind_eq_some_iff] at h1
      obtain ⟨cs', h2, h3⟩ := h1
      obtain ⟨-, h4, h5⟩ := World.cells?_some h2
      obtain ⟨p, q, hS⟩ := open_spot h3
      have hb := bulk_mem (ds := elems.map (·.1)) (d := (elems[i]'(by omega)).1) (List.mem_map_of_mem (List.getElem_mem _))
      exact ⟨(p, q), cs', h5, h4, hS.mono (by omega), _, List.getElem?_eq_getElem (by omega), spot_bulk h3⟩
    have hlen : len ≤ K := by
      have := bulk_len (elems.map (·.1)) fun d hd => by
        obtain ⟨y, hy, rfl⟩ := List.mem_map.1 hd
        obtain ⟨i, hi, rfl⟩ := List.getElem_of_mem hy
        obtain ⟨-, -, -, -, -, y, e1, e2⟩ := key ⟨i, by omega⟩
        rw [List.getElem?_eq_getElem hi] at e1
        injection e1 with e1
        rw [e1]; exact e2
      rw [List.length_map] at this
      omega
    refine ⟨some a, len, cap, List.ofFn fun i => Classical.choose (key i), rfl, by simp, ⟨some a, cap, by simp, by simpa using hl, by unfold maxLen at hc; omega, fun h0 => ?_⟩, by simpa using hlen⟩
    obtain ⟨b, off, sp⟩ := a
    have hsp : sp = none := by
      simp only [List.length_ofFn] at h0
      obtain ⟨-, cs', k1, k2, -⟩ := key ⟨0, h0⟩
      have := k1 0 (by omega)
      rw [List.getElem?_eq_getElem (by omega)] at this
      simpa [Addr.add] using World.cell?_spot this
    subst hsp
    refine ⟨b, off, rfl, fun i p hp => ?_⟩
    have hi : i < len := by
      have := (List.getElem?_eq_some_iff.1 hp).1
      simpa using this
    have hp2 : p = Classical.choose (key ⟨i, hi⟩) := by
      rw [List.getElem?_eq_getElem (by simpa using hi)] at hp
      injection hp with hp
      rw [← hp]; simp
    obtain ⟨cs', k1, k2, hS, -⟩ := Classical.choose_spec (key ⟨i, hi⟩)
    rw [← hp2] at hS
    have hS9 := hS
    obtain ⟨b1, A1, n1, c1, C1, m1, d1, b', A', n', c', C', m', d', e, -, -⟩ := hS9
    injection e with e
    have e9 : cs' = [.bool b1, .slice A1 n1 c1, .slice C1 m1 d1, .bool b', .slice A' n' c', .slice C' m' d'] := by
      have := congrArg Array.toList e
      simpa using this
    subst e9
    have hcell : ∀ j, j < 6 → w.cell? ⟨b, off + (i * 6 + j), none⟩ = [Value.bool b1, .slice A1 n1 c1, .slice C1 m1 d1, .bool b', .slice A' n' c', .slice C' m' d'][j]? := by
      intro j hj
      have := k1 j hj
      rw [add_plain, add_plain] at this
      rw [← Nat.add_assoc]; exact this
    exact ⟨b1, A1, n1, c1, C1, m1, d1, b', A', n', c', C', m', d', ⟨hcell 0 (by omega), hcell 1 (by omega), hcell 2 (by omega), hcell 3 (by omega), hcell 4 (by omega), hcell 5 (by omega)⟩, hS⟩
end
end Go.Proofs.YthhgogpglocjdaaGreat
