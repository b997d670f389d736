/- How a slice of edges comes in: a row of edges, each part of no more words than the reading's bulk. Conditions: none. -/
import Derived.Test.YtmommicmblfibaaGreatJOpenR
import Derived.Test.YtmommicmblfibaaGreatJRow3
import Derived.Test.YtmommicmblfibaaGreatJCut1
namespace Go.Proofs.YtmommicmblfibaaGreat
open Go.ChangeShapes Go.WideShapes Go.ChangeAt Go.RowKit

section
variable {H : Type} {enc : TypeId × Value → H} {w : World} {base : Nat} {spare : Nat → Bool} {held : Bool}

set_option maxRecDepth 100000 in
theorem open_edge {fuel : Nat} {cs : List Value} {x : DataW H × List MemPlace} (h : DataW.trod enc Tryz.prog w base spare held fuel 37 cs = some x) :
    ∃ e : EdgeQ, EdgeR (Rows.uptoBulk x.1) w cs.toArray e ∧ 1 ≤ Rows.uptoBulk x.1 := by
  obtain ⟨y0, y1, n1, rfl, hl, h0, h1⟩ := trod_struct2 Tryz.underlying37 h
  have e12 : Tryz.prog.cellsOf 37 = 12 := by kernel_rfl
  have e6 : Tryz.prog.cellsOf 35 = 6 := by kernel_rfl
  rw [e12] at hl
  match cs, hl with
  | [a0, a1, a2, a3, a4, a5, a6, a7, a8, a9, a10, a11], _ =>
    simp only [e6, List.drop_zero, List.drop_succ_cons, List.take_succ_cons, List.take_zero] at h0 h1
    obtain ⟨p, q, hS⟩ := open_spot h0
    obtain ⟨p', q', hT⟩ := open_spot h1
    have hb := spot_bulk h0
    have e : Rows.uptoBulk y0.1 ≤ Rows.uptoBulk (DataW.agg [y0.1, y1.1]) ∧ Rows.uptoBulk y1.1 ≤ Rows.uptoBulk (DataW.agg [y0.1, y1.1]) := by
      simp only [Rows.uptoBulk, Rows.uptoBulkAll]
      omega
    exact ⟨((p, q), (p', q')), ⟨_, _, rfl, hS.mono e.1, hT.mono e.2⟩, Nat.le_trans hb e.1⟩
theorem EdgeR.up {k m : Nat} {w : World} {us : Array Value} {e : EdgeQ} (h : EdgeR k w us e) (hm : k ≤ m) : EdgeR m w us e := EdgeP.mono h fun _ _ _ h => h.mono hm
theorem EdgeR.eb {k : Nat} {w : World} {us : Array Value} {e : EdgeQ} (h : EdgeR k w us e) (hk : 1 ≤ k) : EB k e := by
  obtain ⟨u1, u2, -, h1, h2⟩ := h
  obtain ⟨_, _, _, _, _, _, _, _, _, _, _, _, _, _, -, F1, F2⟩ := h1
  obtain ⟨_, _, _, _, _, _, _, _, _, _, _, _, _, _, -, F3, F4⟩ := h2
  exact ⟨⟨F1.v.qb hk, F2.v.qb hk⟩, F3.v.qb hk, F4.v.qb hk⟩

set_option maxRecDepth 100000 in
theorem open_edges {fuel : Nat} {cs : List Value} {x : DataW H × List MemPlace} {K : Nat} (h : DataW.trod enc Tryz.prog w base spare held fuel 24 cs = some x) (hK : Rows.uptoBulk x.1 ≤ K) :
    ∃ A n c l, cs = [.slice A n c] ∧ RowK 12 (EdgeR K) w (.slice A n c) l ∧ l.length ≤ K := by
  have e12 : Tryz.prog.cellsOf 37 = 12 := by kernel_rfl
  rcases DataW.trod_slice Tryz.underlying24 h with ⟨rfl, rfl⟩ | ⟨a, len, cap, elems, rest, n, -, rfl, rfl, -, hl, hc, he, hel, -, -⟩
  · exact ⟨none, 0, 0, [], rfl, RowK.nil _ _ _, by simp⟩
  · rw [e12] at hel
    have hbulk : Rows.uptoBulkAll (elems.map (·.1)) ≤ K := by
      refine Nat.le_trans ?_ hK
      simp only [Rows.uptoBulk]
      omega
    have key : ∀ i : Fin len, ∃ p : EdgeQ, ∃ cs' : List Value, (∀ j, j < 12 → w.cell? ((a.add (i * 12)).add j) = cs'[j]?) ∧ cs'.length = 12 ∧ EdgeR K w cs'.toArray p ∧ ∃ y, elems[i.1]? = some y ∧ 1 ≤ Rows.uptoBulk y.1 := by
      rintro ⟨i, hi⟩
      have h1 := hel i hi
      rw [List.getElem?_eq_getElem (by omega), Option.bind_eq_some_iff] at h1
      obtain ⟨cs', h2, h3⟩ := h1
      obtain ⟨-, h4, h5⟩ := World.cells?_some h2
      obtain ⟨p, hS, hw⟩ := open_edge h3
      have hb := bulk_mem (ds := elems.map (·.1)) (d := (elems[i]'(by omega)).1) (List.mem_map_of_mem (List.getElem_mem _))
      exact ⟨p, cs', h5, h4, hS.up (by omega), _, List.getElem?_eq_getElem (by omega), hw⟩
    have hlen : len ≤ K := by
      have := bulk_len (elems.map (·.1)) fun d hd => by
        obtain ⟨y, hy, rfl⟩ := List.mem_map.1 hd
        obtain ⟨i, hi, rfl⟩ := List.getElem_of_mem hy
        obtain ⟨-, -, -, -, -, y, e1, e2⟩ := key ⟨i, by omega⟩
        rw [List.getElem?_eq_getElem hi] at e1
        injection e1 with e1
        rw [e1]; exact e2
      rw [List.length_map] at this
      omega
    refine ⟨some a, len, cap, List.ofFn fun i => Classical.choose (key i), rfl, ⟨some a, cap, by simp, by simpa using hl, by unfold maxLen at hc; omega, fun h0 => ?_⟩, by simpa using hlen⟩
    obtain ⟨b, off, sp⟩ := a
    have hsp : sp = none := by
      simp only [List.length_ofFn] at h0
      obtain ⟨-, cs', k1, k2, -⟩ := key ⟨0, h0⟩
      have := k1 0 (by omega)
      rw [List.getElem?_eq_getElem (by omega)] at this
      simpa [Addr.add] using World.cell?_spot this
    subst hsp
    refine ⟨b, off, rfl, fun i p hp => ?_⟩
    have hi : i < len := by
      have := (List.getElem?_eq_some_iff.1 hp).1
      simpa using this
    have hp2 : p = Classical.choose (key ⟨i, hi⟩) := by
      rw [List.getElem?_eq_getElem (by simpa using hi)] at hp
      injection hp with hp
      rw [← hp]; simp
    obtain ⟨cs', k1, k2, hS, -⟩ := Classical.choose_spec (key ⟨i, hi⟩)
    rw [← hp2] at hS
    refine ⟨cs'.toArray, fun j hj => ?_, hS⟩
    have := k1 j hj
    rw [add_plain, add_plain] at this
    rw [List.getElem?_toArray, ← this]
    dsimp only
    rw [Nat.add_assoc]
theorem rowK_eb {k : Nat} {w : World} {v : Value} {l : List EdgeQ} (h : RowK 12 (EdgeR k) w v l) (hk : 1 ≤ k) : ∀ x ∈ l, EB k x := by
  obtain ⟨A, c, -, -, -, h3⟩ := h
  intro p hp
  obtain ⟨i, hi, rfl⟩ := List.getElem_of_mem hp
  obtain ⟨b, o, -, he⟩ := h3 (by omega)
  obtain ⟨us, -, S⟩ := he i _ (List.getElem?_eq_getElem hi)
  exact S.eb hk
end
end Go.Proofs.YtmommicmblfibaaGreat
