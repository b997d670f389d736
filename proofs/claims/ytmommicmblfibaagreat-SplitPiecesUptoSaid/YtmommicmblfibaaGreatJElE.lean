/- Plain: alike neighbours, each once; what is sorted and so reduced is the document's row. Conditions: none. A row of spots that a call owns: off its block and onto it; one element stored anew; its tail cleared. Conditions: none. Spots as elements of a row. Conditions: none. Edges as elements of a row; their order. Conditions: none. -/
import Derived.Test.YtmommicmblfibaaGreatJRowP
import Derived.Shelf.SlSortCmp.InsertionK
import Derived.Test.YtmommicmblfibaaGreatJOwnK
set_option maxRecDepth 100000
namespace Go.Proofs.YtmommicmblfibaaGreat
open Go.RowKit
def compStep (s : List (Rat × Rat) × Option (Rat × Rat)) (p : Rat × Rat) : List (Rat × Rat) × Option (Rat × Rat) := (if s.2 = some p then s.1 else s.1 ++ [p], some p)
def compQ (l : List (Rat × Rat)) : List (Rat × Rat) := (l.foldl compStep ([], none)).1
theorem compStep_last (l : List (Rat × Rat)) (p : Rat × Rat) : ∀ s, ((l ++ [p]).foldl compStep s).2 = some p := fun s => by
 rw [List.foldl_append]; rfl
theorem comp_snoc (l : List (Rat × Rat)) (p q : Rat × Rat) : compQ (l ++ [p] ++ [q]) = if p = q then compQ (l ++ [p]) else compQ (l ++ [p]) ++ [q] := by
 have h := compStep_last l p ([], none)
 unfold compQ
 rw [List.foldl_append (l := l ++ [p])]
 simp only [List.foldl_cons, List.foldl_nil]
 unfold compStep at h ⊢
 rw [h]
 simp only [Option.some.injEq]
theorem comp_one (p : Rat × Rat) : compQ [p] = [p] := by simp [compQ, compStep]
theorem take_snoc {l : List (Rat × Rat)} {j : Nat} {p : Rat × Rat} (h : l[j]? = some p) : l.take (j + 1) = l.take j ++ [p] := by rw [List.take_add_one, h]; rfl
theorem comp_take {l : List (Rat × Rat)} {j : Nat} {p q : Rat × Rat} (hp : l[j]? = some p) (hq : l[j + 1]? = some q) :
  compQ (l.take (j + 2)) = if p = q then compQ (l.take (j + 1)) else compQ (l.take (j + 1)) ++ [q] := by
 rw [take_snoc hq, take_snoc hp, comp_snoc]
theorem comp_short {l : List (Rat × Rat)} (h : l.length < 2) : compQ l = l := by
 match l, h with
 | [], _ => rfl
 | [p], _ => exact comp_one p
theorem comp_fold (l : List (Rat × Rat)) : ∀ s : List (Rat × Rat) × Option (Rat × Rat), (l.foldl compStep s).1.length ≤ s.1.length + l.length ∧ ((∀ p, s.2 = some p → p ∈ s.1) → ∀ q, q ∈ (l.foldl compStep s).1 ↔ q ∈ l ∨ q ∈ s.1) := by
 induction l with
 | nil => intro s; exact ⟨by simp, fun _ q => by simp⟩
 | cons a l ih =>
  intro s
  rw [List.foldl_cons]
  obtain ⟨h1, h2⟩ := ih (compStep s a)
  constructor
  ·refine Nat.le_trans h1 ?_
   unfold compStep
   simp only [List.length_cons]
   split <;> simp <;> omega
  ·intro hs q
   rw [h2 (by
    intro p hp
    unfold compStep at hp ⊢
    simp only [Option.some.injEq] at hp
    subst hp
    simp only
    split
    ·next e => exact hs _ e
    ·simp), List.mem_cons]
   unfold compStep
   simp only
   split
   ·next e =>
    have := hs _ e
    constructor
    ·rintro (h | h) <;> simp [h]
    ·rintro ((h | h) | h)
     ·rw [h]; exact .inr this
     ·exact .inl h
     ·exact .inr h
   ·rw [List.mem_append, List.mem_singleton]
    constructor
    ·rintro (h | h | h) <;> simp [h]
    ·rintro ((h | h) | h) <;> simp [h]
theorem mem_compQ {l : List (Rat × Rat)} {q : Rat × Rat} : q ∈ compQ l ↔ q ∈ l := by
 have := (comp_fold l ([], none)).2 (by simp) q
 simpa [compQ] using this
def spotNg (p q : Rat × Rat) : Prop := ¬ spotLt q p
theorem spotNg_lt {p q : Rat × Rat} (h : spotNg p q) (n : p ≠ q) : spotLt p q := by
 rcases spotLt_tri p q with k | k | k
 ·exact k
 ·exact absurd k n
 ·exact absurd k h
theorem comp_sorted (l : List (Rat × Rat)) : ∀ s : List (Rat × Rat) × Option (Rat × Rat), l.Pairwise spotNg → s.1.Pairwise spotLt → (∀ p, s.2 = some p → (∀ q ∈ s.1, q = p ∨ spotLt q p) ∧ ∀ r ∈ l, spotNg p r) → (s.2 = none → s.1 = []) → (l.foldl compStep s).1.Pairwise spotLt := by
 induction l with
 | nil => intro s _ h _ _; exact h
 | cons a l ih =>
  intro s hl hs hp hn
  rw [List.foldl_cons]
  have ha := (List.pairwise_cons.1 hl).1
  refine ih _ (List.pairwise_cons.1 hl).2 ?_ ?_ ?_
  ·unfold compStep
   simp only
   split
   ·exact hs
   ·next e =>
    refine List.pairwise_append.2 ⟨hs, by simp, fun x hx y hy => ?_⟩
    rw [List.mem_singleton] at hy
    subst hy
    rcases h2 : s.2 with _ | p
    ·rw [hn h2] at hx; simp at hx
    ·obtain ⟨k1, k2⟩ := hp p h2
     have k3 := k2 y List.mem_cons_self
     have k4 : spotLt p y := spotNg_lt k3 (fun e2 => e (by rw [h2, e2]))
     rcases k1 x hx with rfl | k
     ·exact k4
     ·exact spotLt_trans k k4
  ·intro p h
   unfold compStep at h ⊢
   simp only [Option.some.injEq] at h
   subst h
   refine ⟨fun q hq => ?_, ha⟩
   simp only at hq
   split at hq
   ·next e => exact (hp _ e).1 q hq
   ·next e =>
    rw [List.mem_append, List.mem_singleton] at hq
    rcases hq with hq | hq
    ·rcases h2 : s.2 with _ | p
     ·rw [hn h2] at hq; simp at hq
     ·obtain ⟨k1, k2⟩ := hp p h2
      have k3 := k2 a List.mem_cons_self
      have k4 : spotLt p a := spotNg_lt k3 (fun e2 => e (by rw [h2, e2]))
      rcases k1 q hq with rfl | k
      ·exact .inr k4
      ·exact .inr (spotLt_trans k k4)
    ·exact .inl hq
  ·intro h; unfold compStep at h; simp at h
theorem comp_row {l m : List (Rat × Rat)} (hs : m.Pairwise spotNg) (hm : ∀ q, q ∈ m ↔ q ∈ l) : compQ m = rowQ l :=
 sorted_ext (comp_sorted m ([], none) hs List.Pairwise.nil (by simp) (by simp)) (rowQ_sorted l) fun q => by rw [mem_compQ, mem_rowQ, hm]
theorem OwnC.at {e : TypeId} {w : World} {base : Nat} {v : Value} {l : List (Rat × Rat)} (h : OwnC e w base v l) (hl : 0 < l.length) :
  ∃ g cap cur, v = .slice (some ⟨g, 0, none⟩) l.length cap ∧ base ≤ g ∧ NoInts w g ∧ w.heap[g]? = some (.cells cur e (0, 0)) ∧ l.length ≤ cap ∧ cap ≤ maxLen ∧ cur.size = cap * 6 ∧
   ∀ i p, l[i]? = some p → Spot6 (fun V => SpotC w V p.1 p.2) (fun j => cur[i * 6 + j]?) := by
 obtain ⟨xs, ⟨⟨hx, ho⟩, hN⟩, hF⟩ := h
 rcases ho with ⟨rfl, h0⟩ | ⟨g, cap, cur, rfl, hbg, hg, hnc, hcm, hcs, htake⟩
 ·omega
 ·refine ⟨g, cap, cur, rfl, hbg, hN g rfl, hg, hnc, hcm, hcs, fun i p hp => (hF.2.2 i p hp).mono (fun _ h => h) fun j u hj hu => ?_⟩
  rw [← htake, List.getElem?_take] at hu
  split at hu
  ·simpa using hu
  ·simp at hu
theorem OwnC.of {e : TypeId} {w : World} {base g cap : Nat} {cur : Array Value} {l : List (Rat × Rat)} (hbg : base ≤ g) (hN : NoInts w g) (hg : w.heap[g]? = some (.cells cur e (0, 0))) (hn : l.length ≤ cap) (hcm : cap ≤ maxLen) (hcs : cur.size = cap * 6)
  (hel : ∀ i p, l[i]? = some p → Spot6 (fun V => SpotC w V p.1 p.2) (fun j => cur[i * 6 + j]?)) : OwnC e w base (.slice (some ⟨g, 0, none⟩) l.length cap) l := by
 have hmul : l.length * 6 ≤ cap * 6 := Nat.mul_le_mul_right _ hn
 refine ⟨cur.toList.take (l.length * 6), ⟨⟨by simp [hcs]; omega, .inr ⟨g, cap, cur, rfl, hbg, hg, hn, hcm, hcs, rfl⟩⟩, ?_⟩, by simp [hcs]; omega, ?_, ?_⟩
 ·intro g' hg'
  simp only [Value.ownBlock, Option.some.injEq] at hg'
  subst hg'; exact hN
 ·intro u hu
  obtain ⟨t, ht, rfl⟩ := List.getElem_of_mem (List.mem_of_mem_take hu)
  refine hN t _ ?_
  rw [cell_of_row w g t cur e (0, 0) hg, ← Array.getElem?_toList, List.getElem?_eq_getElem ht]
 ·intro i p hp
  have hi := (List.getElem?_eq_some_iff.1 hp).1
  refine (hel i p hp).mono (fun _ h => h) fun j u hj hu => ?_
  rw [List.getElem?_take, if_pos (by omega), Array.getElem?_toList]; exact hu
theorem keeps_of_wrote {w w' : World} {g : Nat} (hN : NoInts w g) (hW : Wrote g w w') : Keeps w w' := by
 intro B K v N n h
 obtain ⟨A, c, hv, h1, h2, h4, h3⟩ := h
 refine ⟨A, c, hv, h1, h2, h4, fun hk => ?_⟩
 obtain ⟨b, off, hA, hc⟩ := h3 hk
 refine ⟨b, off, hA, fun i hi => ?_⟩
 refine hW.cell (hc i hi) fun e => ?_
 simp only at e
 subst e
 exact hN _ _ (hc i hi) K _ rfl
theorem holds_cur {w : World} {g : Nat} {e : TypeId} {cur : Array Value} (hg : w.heap[g]? = some (.cells cur e (0, 0))) : Go.Sort.Holds id w g 0 cur := by
 intro j hj
 refine ⟨?_, ?_⟩
 ·rw [Nat.zero_add, cell_of_row w g j cur e (0, 0) hg, Array.getElem?_eq_getElem hj, getElem!_pos cur _ hj]; rfl
 ·unfold World.frozen?
  rw [hg]; simp
theorem setCells_block {w : World} {g : Nat} {e : TypeId} {cur : Array Value} (hg : w.heap[g]? = some (.cells cur e (0, 0))) (s : Nat) (vs : List Value) (hs : s + vs.length ≤ cur.size) :
  ∃ cur', (w.setCells g s vs).heap[g]? = some (.cells cur' e (0, 0)) ∧ cur'.size = cur.size ∧ Wrote g w (w.setCells g s vs) ∧ ∀ t, cur'[t]? = if s ≤ t ∧ t < s + vs.length then vs[t - s]? else cur[t]? := by
 induction vs generalizing w s cur with
 | nil => exact ⟨cur, hg, rfl, Wrote.refl _ _, fun t => by rw [if_neg (by simp only [List.length_nil]; omega)]⟩
 | cons u us ih =>
  simp only [List.length_cons] at hs
  have h1 : (w.setCell ⟨g, s, none⟩ u).heap[g]? = some (.cells (cur.setIfInBounds s u) e (0, 0)) := by
   rw [Go.Sort.setCell_eq]
   unfold Go.Sort.mapBlock
   simp only [Array.getElem?_modify, if_true, hg]
   rfl
  obtain ⟨cur', h2, h3, h4, h5⟩ := ih (w := w.setCell ⟨g, s, none⟩ u) h1 (s + 1) (by simp; omega)
  refine ⟨cur', h2, by rw [h3]; simp, ((Wrote.refl g w).setCell s u).trans h4, fun t => ?_⟩
  rw [h5 t, Array.getElem?_setIfInBounds]
  by_cases e1 : t = s
  ·subst e1
   have c1 : ¬ (t + 1 ≤ t ∧ t < t + 1 + us.length) := by omega
   have c2 : t ≤ t ∧ t < t + (u :: us).length := by simp only [List.length_cons]; omega
   have c3 : t < cur.size := by omega
   rw [if_neg c1, if_pos rfl, if_pos c3, if_pos c2, Nat.sub_self]
   rfl
  ·by_cases e2 : s + 1 ≤ t ∧ t < s + 1 + us.length
   ·have c2 : s ≤ t ∧ t < s + (u :: us).length := by simp only [List.length_cons]; omega
    rw [if_pos e2, if_pos c2, show t - s = (t - (s + 1)) + 1 by omega]
    rfl
   ·have c2 : ¬ (s ≤ t ∧ t < s + (u :: us).length) := by simp only [List.length_cons]; omega
    rw [if_neg e2, if_neg (fun h => e1 h.symm), if_neg c2]
theorem OwnC.store {e : TypeId} {w : World} {base g n cap k : Nat} {l : List (Rat × Rat)} {p : Rat × Rat} {b b' : Bool} {A C A' C' : Option Addr} {m c m1 d m' c' m2 d' : Nat}
  (h : OwnC e w base (.slice (some ⟨g, 0, none⟩) n cap) l) (hn : l.length = n) (hk : k < n)
  (hV : SpotC w (.agg #[.bool b, .slice A m c, .slice C m1 d, .bool b', .slice A' m' c', .slice C' m2 d']) p.1 p.2) :
  OwnC e (w.setCells g (k * 6) [.bool b, .slice A m c, .slice C m1 d, .bool b', .slice A' m' c', .slice C' m2 d']) base (.slice (some ⟨g, 0, none⟩) n cap) (l.set k p) ∧
  Keeps w (w.setCells g (k * 6) [.bool b, .slice A m c, .slice C m1 d, .bool b', .slice A' m' c', .slice C' m2 d']) ∧ Wrote g w (w.setCells g (k * 6) [.bool b, .slice A m c, .slice C m1 d, .bool b', .slice A' m' c', .slice C' m2 d']) ∧ base ≤ g := by
 obtain ⟨g', cap', cur, hv, hbg, hN, hg, hnc, hcm, hcs, hel⟩ := h.at (by omega)
 injection hv with hv1 hv2 hv3
 injection hv1 with hv1
 injection hv1 with hv1
 subst hv1
 subst hv3
 have hmul : l.length * 6 ≤ cap * 6 := Nat.mul_le_mul_right _ hnc
 obtain ⟨cur', h1, h2, h3, h4⟩ := setCells_block hg (k * 6) [.bool b, .slice A m c, .slice C m1 d, .bool b', .slice A' m' c', .slice C' m2 d'] (by simp; omega)
 have hK := keeps_of_wrote hN h3
 generalize w.setCells g (k * 6) [.bool b, .slice A m c, .slice C m1 d, .bool b', .slice A' m' c', .slice C' m2 d'] = W at *
 refine ⟨?_, hK, h3, hbg⟩
 have hN' : NoInts W g := by
  intro t u hu
  rw [cell_of_row W g t cur' e (0, 0) h1, h4] at hu
  split at hu
  ·exact noint6 _ _ _ _ _ _ _ _ _ _ _ _ _ _ u (List.mem_of_getElem? hu)
  ·exact hN t u (by rw [cell_of_row w g t cur e (0, 0) hg]; exact hu)
 have ho := OwnC.of (l := l.set k p) hbg hN' h1 (by simpa using hnc) hcm (h2.trans hcs) (by
  intro i q hq
  rw [List.getElem?_set] at hq
  by_cases e1 : k = i
  ·subst e1
   rw [if_pos rfl, if_pos (by omega)] at hq
   injection hq with hq
   subst hq
   refine ⟨b, A, m, c, C, m1, d, b', A', m', c', C', m2, d', ?_, SpotC.kept hV hK⟩
   have e : ∀ j, j < 6 → cur'[k * 6 + j]? = [Value.bool b, .slice A m c, .slice C m1 d, .bool b', .slice A' m' c', .slice C' m2 d'][j]? := fun j hj => by
    rw [h4, if_pos ⟨by omega, by simp; omega⟩, show k * 6 + j - k * 6 = j by omega]
   exact ⟨e 0 (by omega), e 1 (by omega), e 2 (by omega), e 3 (by omega), e 4 (by omega), e 5 (by omega)⟩
  ·rw [if_neg e1] at hq
   refine (hel i q hq).mono (fun _ h => SpotC.kept h hK) fun j u hj hu => ?_
   rw [h4, if_neg (by simp; omega)]; exact hu)
 rw [List.length_set, hn] at ho
 exact ho
theorem OwnC.clear {e : TypeId} {w : World} {base g n cap k : Nat} {l : List (Rat × Rat)} (vs : List Value)
  (h : OwnC e w base (.slice (some ⟨g, 0, none⟩) n cap) l) (hn : l.length = n) (h0 : 0 < n) (hk : k ≤ n) (hs : k * 6 + vs.length ≤ n * 6) (hvs : ∀ u ∈ vs, NoInt u) :
  OwnC e (w.setCells g (k * 6) vs) base (.slice (some ⟨g, 0, none⟩) k cap) (l.take k) ∧ Keeps w (w.setCells g (k * 6) vs) ∧ Wrote g w (w.setCells g (k * 6) vs) ∧ base ≤ g := by
 obtain ⟨g', cap', cur, hv, hbg, hN, hg, hnc, hcm, hcs, hel⟩ := h.at (by omega)
 injection hv with hv1 hv2 hv3
 injection hv1 with hv1
 injection hv1 with hv1
 subst hv1
 subst hv3
 have hmul : l.length * 6 ≤ cap * 6 := Nat.mul_le_mul_right _ hnc
 obtain ⟨cur', h1, h2, h3, h4⟩ := setCells_block hg (k * 6) vs (by omega)
 have hK := keeps_of_wrote hN h3
 generalize w.setCells g (k * 6) vs = W at *
 refine ⟨?_, hK, h3, hbg⟩
 have hN' : NoInts W g := by
  intro t u hu
  rw [cell_of_row W g t cur' e (0, 0) h1, h4] at hu
  split at hu
  ·exact hvs u (List.mem_of_getElem? hu)
  ·exact hN t u (by rw [cell_of_row w g t cur e (0, 0) hg]; exact hu)
 have hlen : (l.take k).length = k := by rw [List.length_take]; omega
 have ho := OwnC.of (l := l.take k) hbg hN' h1 (by omega) hcm (h2.trans hcs) (by
  intro i q hq
  have hi : i < k := by
   have := (List.getElem?_eq_some_iff.1 hq).1
   omega
  rw [List.getElem?_take, if_pos hi] at hq
  refine (hel i q hq).mono (fun _ h => SpotC.kept h hK) fun j u hj hu => ?_
  rw [h4, if_neg (by omega)]; exact hu)
 rw [hlen] at ho
 exact ho
def Spot6R (w : World) (us : Array Value) (p : Rat × Rat) : Prop := SpotC w (.agg us) p.1 p.2
theorem says_spot : Says 6 Spot6R where
 size h := by
  obtain ⟨b, A, n, c, C, m, d, b', A', n', c', C', m', d', e, -, -⟩ := h
  injection e with e; subst e; rfl
 one h := by
  obtain ⟨b, A, n, c, C, m, d, b', A', n', c', C', m', d', e, -, -⟩ := h
  injection e with e; subst e; exact one6 _ _ _ _ _ _ _ _ _ _ _ _ _ _
 noint h := by
  obtain ⟨b, A, n, c, C, m, d, b', A', n', c', C', m', d', e, -, -⟩ := h
  injection e with e; subst e; exact noint6 _ _ _ _ _ _ _ _ _ _ _ _ _ _
 kept h k := SpotC.kept h k
theorem ord_spot : Ordr (fun p q : Rat × Rat => spotCmp p.1 p.2 q.1 q.2) spotLt where
 neg _ _ := spotCmp_neg
 zero _ _ := spotCmp_zero
 trans _ _ _ := spotLt_trans
 tri := spotLt_tri
 irr _ _ := spotLt_irr
theorem cells_spot {c : Nat → Option Value} {w : World} {p : Rat × Rat} : CellsR 6 Spot6R w c p ↔ Spot6 (fun V => SpotC w V p.1 p.2) c := by
 constructor
 ·rintro ⟨us, h1, h2⟩
  have h3 := h2
  obtain ⟨b, A, n, c, C, m, d, b', A', n', c', C', m', d', e, -, -⟩ := h3
  injection e with e; subst e
  exact ⟨b, A, n, c, C, m, d, b', A', n', c', C', m', d', ⟨h1 0 (by omega), h1 1 (by omega), h1 2 (by omega), h1 3 (by omega), h1 4 (by omega), h1 5 (by omega)⟩, h2⟩
 ·rintro ⟨b, A, n, c, C, m, d, b', A', n', c', C', m', d', ⟨h0, h1, h2, h3, h4, h5⟩, hP⟩
  refine ⟨_, fun j hj => ?_, hP⟩
  have e : j = 0 ∨ j = 1 ∨ j = 2 ∨ j = 3 ∨ j = 4 ∨ j = 5 := by omega
  rcases e with rfl | rfl | rfl | rfl | rfl | rfl
  ·exact h0
  ·exact h1
  ·exact h2
  ·exact h3
  ·exact h4
  ·exact h5
theorem row_spot {w : World} {v : Value} {l : List (Rat × Rat)} : RowK 6 Spot6R w v l ↔ RowC w v l := by
 constructor
 ·rintro ⟨A, c, hv, h1, h2, h3⟩
  refine ⟨A, c, hv, h1, h2, fun hl => ?_⟩
  obtain ⟨b, o, hA, he⟩ := h3 hl
  exact ⟨b, o, hA, fun i p hp => cells_spot.1 (he i p hp)⟩
 ·rintro ⟨A, c, hv, h1, h2, h3⟩
  refine ⟨A, c, hv, h1, h2, fun hl => ?_⟩
  obtain ⟨b, o, hA, he⟩ := h3 hl
  exact ⟨b, o, hA, fun i p hp => cells_spot.2 (he i p hp)⟩
abbrev EdgeQ := (Rat × Rat) × (Rat × Rat)
def edgeCmp (e f : EdgeQ) : Int := if spotCmp e.1.1 e.1.2 f.1.1 f.1.2 = 0 then spotCmp e.2.1 e.2.2 f.2.1 f.2.2 else spotCmp e.1.1 e.1.2 f.1.1 f.1.2
def edgeLt (e f : EdgeQ) : Prop := spotLt e.1 f.1 ∨ (e.1 = f.1 ∧ spotLt e.2 f.2)
theorem ord_edge : Ordr edgeCmp edgeLt where
 neg x y := by
  unfold edgeCmp edgeLt
  split
  ·next h =>
   have e := spotCmp_zero.1 h
   rw [spotCmp_neg]
   constructor
   ·intro k; exact .inr ⟨e, k⟩
   ·rintro (k | k)
    ·rw [e] at k; exact (spotLt_irr k k).elim
    ·exact k.2
  ·next h =>
   rw [spotCmp_neg]
   constructor
   ·intro k; exact .inl k
   ·rintro (k | k)
    ·exact k
    ·exact absurd (spotCmp_zero.2 k.1) h
 zero x y := by
  unfold edgeCmp
  split
  ·next h =>
   rw [spotCmp_zero]
   exact ⟨fun k => Prod.ext (spotCmp_zero.1 h) k, fun k => by rw [k]⟩
  ·next h => exact ⟨fun k => absurd k h, fun k => absurd (spotCmp_zero.2 (by rw [k])) h⟩
 trans x y z := by
  rintro (h | ⟨h, h'⟩) (k | ⟨k, k'⟩)
  ·exact .inl (spotLt_trans h k)
  ·exact .inl (by rw [← k]; exact h)
  ·exact .inl (by rw [h]; exact k)
  ·exact .inr ⟨h.trans k, spotLt_trans h' k'⟩
 tri x y := by
  unfold edgeLt
  rcases spotLt_tri x.1 y.1 with h | h | h
  ·exact .inl (.inl h)
  ·rcases spotLt_tri x.2 y.2 with k | k | k
   ·exact .inl (.inr ⟨h, k⟩)
   ·exact .inr (.inl (Prod.ext h k))
   ·exact .inr (.inr (.inr ⟨h.symm, k⟩))
  ·exact .inr (.inr (.inl h))
 irr x y := by
  rintro (h | ⟨h, h'⟩) (k | ⟨k, k'⟩)
  ·exact spotLt_irr h k
  ·rw [k] at h; exact spotLt_irr h h
  ·rw [h] at k; exact spotLt_irr k k
  ·exact spotLt_irr h' k'
def EdgeP (P : World → Value → Rat → Rat → Prop) (w : World) (us : Array Value) (e : EdgeQ) : Prop := ∃ us1 us2 : Array Value, us = us1 ++ us2 ∧ P w (.agg us1) e.1.1 e.1.2 ∧ P w (.agg us2) e.2.1 e.2.2
abbrev Edge12R := EdgeP SpotC
theorem says_edge : Says 12 Edge12R where
 size h := by
  obtain ⟨us1, us2, rfl, h1, h2⟩ := h
  rw [Array.size_append, says_spot.size h1, says_spot.size h2]
 one h := by
  obtain ⟨us1, us2, rfl, h1, h2⟩ := h
  intro u hu
  rw [Array.toList_append, List.mem_append] at hu
  rcases hu with hu | hu
  ·exact says_spot.one h1 u hu
  ·exact says_spot.one h2 u hu
 noint h := by
  obtain ⟨us1, us2, rfl, h1, h2⟩ := h
  intro u hu
  rw [Array.toList_append, List.mem_append] at hu
  rcases hu with hu | hu
  ·exact says_spot.noint h1 u hu
  ·exact says_spot.noint h2 u hu
 kept h k := by
  obtain ⟨us1, us2, rfl, h1, h2⟩ := h
  exact ⟨us1, us2, rfl, SpotC.kept h1 k, SpotC.kept h2 k⟩
end Go.Proofs.YtmommicmblfibaaGreat
