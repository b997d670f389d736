/- Plain: alike neighbours, each once; what is sorted and so reduced is the document's row. Conditions: none. A row of spots that a call owns: off its block and onto it; one element stored anew; its tail cleared. Conditions: none. r01.Same, r02.Same, r04.Same, r05.Same at what is the same. Condition: what comes in reads. r02.Make, Sign, Neg, Mul. Condition: what comes in reads; fewer than 2^36 words. -/
import Derived.Test.YthhgogpglocjdaaGreatJRowP
import Derived.Shelf.SlSortCmp.InsertionK
import Derived.Test.YthhgogpglocjdaaGreatJKit2
namespace Go.Proofs.YthhgogpglocjdaaGreat
open Go.RowKit

/-- One more: it stays if the one before is another one. -/
def compStep (s : List (Rat × Rat) × Option (Rat × Rat)) (p : Rat × Rat) : List (Rat × Rat) × Option (Rat × Rat) := (if s.2 = some p then s.1 else s.1 ++ [p], some p)
/-- Alike neighbours, each once. -/
def compQ (l : List (Rat × Rat)) : List (Rat × Rat) := (l.foldl compStep ([], none)).1
theorem compStep_last (l : List (Rat × Rat)) (p : Rat × Rat) : ∀ s, ((l ++ [p]).foldl compStep s).2 = some p := fun s => by
  rw [List.foldl_append]; rfl
theorem comp_snoc (l : List (Rat × Rat)) (p q : Rat × Rat) : compQ (l ++ [p] ++ [q]) = if p = q then compQ (l ++ [p]) else compQ (l ++ [p]) ++ [q] := by
  have h := compStep_last l p ([], none)
  unfold compQ
  rw [List.foldl_append (l := l ++ [p])]
  simp only [List.foldl_cons, List.foldl_nil]
  unfold compStep at h ⊢
  rw [h]
  simp only [Option.some.injEq]
theorem comp_one (p : Rat × Rat) : compQ [p] = [p] := by simp [compQ, compStep]
theorem take_snoc {l : List (Rat × Rat)} {j : Nat} {p : Rat × Rat} (h : l[j]? = some p) : l.take (j + 1) = l.take j ++ [p] := by rw [List.take_add_one, h]; rfl
theorem comp_take {l : List (Rat × Rat)} {j : Nat} {p q : Rat × Rat} (hp : l[j]? = some p) (hq : l[j + 1]? = some q) :
    compQ (l.take (j + 2)) = if p = q then compQ (l.take (j + 1)) else compQ (l.take (j + 1)) ++ [q] := by
  rw [take_snoc hq, take_snoc hp, comp_snoc]
theorem comp_short {l : List (Rat × Rat)} (h : l.length < 2) : compQ l = l := by
  match l, h with
  | [], _ => rfl
  | [p], _ => exact comp_one p

theorem comp_fold (l : List (Rat × Rat)) : ∀ s : List (Rat × Rat) × Option (Rat × Rat), (l.foldl compStep s).1.length ≤ s.1.length + l.length ∧ ((∀ p, s.2 = some p → p ∈ s.1) → ∀ q, q ∈ (l.foldl compStep s).1 ↔ q ∈ l ∨ q ∈ s.1) := by
  induction l with
  | nil => intro s; exact ⟨by simp, fun _ q => by simp⟩
  | cons a l ih =>
    intro s
    rw [List.foldl_cons]
    obtain ⟨h1, h2⟩ := ih (compStep s a)
    constructor
    · refine Nat.le_trans h1 ?_
      unfold compStep
      simp only [List.length_cons]
      split <;> simp <;> omega
    · intro hs q
      rw [h2 (by
        intro p hp
        unfold compStep at hp ⊢
        simp only [Option.some.injEq] at hp
        subst hp
        simp only
        split
        · next e => exact hs _ e
        · simp), List.mem_cons]
      unfold compStep
      simp only
      split
      · next e =>
        have := hs _ e
        constructor
        · rintro (h | h) <;> simp [h]
        · rintro ((h | h) | h)
          · rw [h]; exact .inr this
          · exact .inl h
          · exact .inr h
      · rw [List.mem_append, List.mem_singleton]
        constructor
        · rintro (h | h | h) <;> simp [h]
        · rintro ((h | h) | h) <;> simp [h]
theorem comp_len (l : List (Rat × Rat)) : (compQ l).length ≤ l.length := by have := (comp_fold l ([], none)).1; simpa [compQ] using this
theorem mem_compQ {l : List (Rat × Rat)} {q : Rat × Rat} : q ∈ compQ l ↔ q ∈ l := by
  have := (comp_fold l ([], none)).2 (by simp) q
  simpa [compQ] using this

/-- In order, ties allowed. -/
def spotNg (p q : Rat × Rat) : Prop := ¬ spotLt q p
theorem spotNg_lt {p q : Rat × Rat} (h : spotNg p q) (n : p ≠ q) : spotLt p q := by
  rcases spotLt_tri p q with k | k | k
  · exact k
  · exact absurd k n
  · exact absurd k h
theorem spotLt_ng {p q r : Rat × Rat} (h : spotLt p q) (k : spotNg q r) : spotLt p r := by
  by_cases e : q = r
  · rw [← e]; exact h
  · exact spotLt_trans h (spotNg_lt k e)
theorem comp_sorted (l : List (Rat × Rat)) : ∀ s : List (Rat × Rat) × Option (Rat × Rat), l.Pairwise spotNg → s.1.Pairwise spotLt → (∀ p, s.2 = some p → (∀ q ∈ s.1, q = p ∨ spotLt q p) ∧ ∀ r ∈ l, spotNg p r) → (s.2 = none → s.1 = []) → (l.foldl compStep s).1.Pairwise spotLt := by
  induction l with
  | nil => intro s _ h _ _; exact h
  | cons a l ih =>
    intro s hl hs hp hn
    rw [List.foldl_cons]
    have ha := (List.pairwise_cons.1 hl).1
    refine ih _ (List.pairwise_cons.1 hl).2 ?_ ?_ ?_
    · unfold compStep
      simp only
      split
      · exact hs
      · next e =>
        refine List.pairwise_append.2 ⟨hs, by simp, fun x hx y hy => ?_⟩
        rw [List.mem_singleton] at hy
        subst hy
        rcases h2 : s.2 with _ | p
        · rw [hn h2] at hx; simp at hx
        · obtain ⟨k1, k2⟩ := hp p h2
          have k3 := k2 y List.mem_cons_self
          have k4 : spotLt p y := spotNg_lt k3 (fun e2 => e (by rw [h2, e2]))
          rcases k1 x hx with rfl | k
          · exact k4
          · exact spotLt_trans k k4
    · intro p h
      unfold compStep at h ⊢
      simp only [Option.some.injEq] at h
      subst h
      refine ⟨fun q hq => ?_, ha⟩
      simp only at hq
      split at hq
      · next e => exact (hp _ e).1 q hq
      · next e =>
        rw [List.mem_append, List.mem_singleton] at hq
        rcases hq with hq | hq
        · rcases h2 : s.2 with _ | p
          · rw [hn h2] at hq; simp at hq
          · obtain ⟨k1, k2⟩ := hp p h2
            have k3 := k2 a List.mem_cons_self
            have k4 : spotLt p a := spotNg_lt k3 (fun e2 => e (by rw [h2, e2]))
            rcases k1 q hq with rfl | k
            · exact .inr k4
            · exact .inr (spotLt_trans k k4)
        · exact .inl hq
    · intro h; unfold compStep at h; simp at h
/-- What is sorted, alike neighbours once, is the document's row. -/
theorem comp_row {l m : List (Rat × Rat)} (hs : m.Pairwise spotNg) (hm : ∀ q, q ∈ m ↔ q ∈ l) : compQ m = rowQ l :=
  sorted_ext (comp_sorted m ([], none) hs List.Pairwise.nil (by simp) (by simp)) (rowQ_sorted l) fun q => by rw [mem_compQ, mem_rowQ, hm]
end Go.Proofs.YthhgogpglocjdaaGreat
namespace Go.Proofs.YthhgogpglocjdaaGreat
open Go.RowKit

theorem OwnC.at {e : TypeId} {w : World} {base : Nat} {v : Value} {l : List (Rat × Rat)} (h : OwnC e w base v l) (hl : 0 < l.length) :
    ∃ g cap cur, v = .slice (some ⟨g, 0, none⟩) l.length cap ∧ base ≤ g ∧ NoInts w g ∧ w.heap[g]? = some (.cells cur e (0, 0)) ∧ l.length ≤ cap ∧ cap ≤ maxLen ∧ cur.size = cap * 6 ∧
      ∀ i p, l[i]? = some p → Spot6 (fun V => SpotC w V p.1 p.2) (fun j => cur[i * 6 + j]?) := by
  obtain ⟨xs, ⟨⟨hx, ho⟩, hN⟩, hF⟩ := h
  rcases ho with ⟨rfl, h0⟩ | ⟨g, cap, cur, rfl, hbg, hg, hnc, hcm, hcs, htake⟩
  · omega
  · refine ⟨g, cap, cur, rfl, hbg, hN g rfl, hg, hnc, hcm, hcs, fun i p hp => (hF.2.2 i p hp).mono (fun _ h => h) fun j u hj hu => ?_⟩
    rw [← htake, List.getElem?_take] at hu
    split at hu
    · simpa using hu
    · simp at hu
theorem OwnC.of {e : TypeId} {w : World} {base g cap : Nat} {cur : Array Value} {l : List (Rat × Rat)} (hbg : base ≤ g) (hN : NoInts w g) (hg : w.heap[g]? = some (.cells cur e (0, 0))) (hn : l.length ≤ cap) (hcm : cap ≤ maxLen) (hcs : cur.size = cap * 6)
    (hel : ∀ i p, l[i]? = some p → Spot6 (fun V => SpotC w V p.1 p.2) (fun j => cur[i * 6 + j]?)) : OwnC e w base (.slice (some ⟨g, 0, none⟩) l.length cap) l := by
  have hmul : l.length * 6 ≤ cap * 6 := Nat.mul_le_mul_right _ hn
  refine ⟨cur.toList.take (l.length * 6), ⟨⟨by simp [hcs]; omega, .inr ⟨g, cap, cur, rfl, hbg, hg, hn, hcm, hcs, rfl⟩⟩, ?_⟩, by simp [hcs]; omega, ?_, ?_⟩
  · intro g' hg'
    simp only [Value.ownBlock, Option.some.injEq] at hg'
    subst hg'; exact hN
  · intro u hu
    obtain ⟨t, ht, rfl⟩ := List.getElem_of_mem (List.mem_of_mem_take hu)
    refine hN t _ ?_
    rw [cell_of_row w g t cur e (0, 0) hg, ← Array.getElem?_toList, List.getElem?_eq_getElem ht]
  · intro i p hp
    have hi := (List.getElem?_eq_some_iff.1 hp).1
    refine (hel i p hp).mono (fun _ h => h) fun j u hj hu => ?_
    rw [List.getElem?_take, if_pos (by omega), Array.getElem?_toList]; exact hu

theorem keeps_of_wrote {w w' : World} {g : Nat} (hN : NoInts w g) (hW : Wrote g w w') : Keeps w w' := by
  intro B K v N n h
  obtain ⟨A, c, hv, h1, h2, h4, h3⟩ := h
  refine ⟨A, c, hv, h1, h2, h4, fun hk => ?_⟩
  obtain ⟨b, off, hA, hc⟩ := h3 hk
  refine ⟨b, off, hA, fun i hi => ?_⟩
  refine hW.cell (hc i hi) fun e => ?_
  simp only at e
  subst e
  exact hN _ _ (hc i hi) K _ rfl
theorem holds_cur {w : World} {g : Nat} {e : TypeId} {cur : Array Value} (hg : w.heap[g]? = some (.cells cur e (0, 0))) : Go.Sort.Holds id w g 0 cur := by
  intro j hj
  refine ⟨?_, ?_⟩
  · rw [Nat.zero_add, cell_of_row w g j cur e (0, 0) hg, Array.getElem?_eq_getElem hj, getElem!_pos cur _ hj]; rfl
  · unfold World.frozen?
    rw [hg]; simp
theorem setCells_block {w : World} {g : Nat} {e : TypeId} {cur : Array Value} (hg : w.heap[g]? = some (.cells cur e (0, 0))) (s : Nat) (vs : List Value) (hs : s + vs.length ≤ cur.size) :
    ∃ cur', (w.setCells g s vs).heap[g]? = some (.cells cur' e (0, 0)) ∧ cur'.size = cur.size ∧ Wrote g w (w.setCells g s vs) ∧ ∀ t, cur'[t]? = if s ≤ t ∧ t < s + vs.length then vs[t - s]? else cur[t]? := by
  induction vs generalizing w s cur with
  | nil => exact ⟨cur, hg, rfl, Wrote.refl _ _, fun t => by rw [if_neg (by simp only [List.length_nil]; omega)]⟩
  | cons u us ih =>
    simp only [List.length_cons] at hs
    have h1 : (w.setCell ⟨g, s, none⟩ u).heap[g]? = some (.cells (cur.setIfInBounds s u) e (0, 0)) := by
      rw [Go.Sort.setCell_eq]
      unfold Go.Sort.mapBlock
      simp only [Array.getElem?_modify, if_true, hg]
      rfl
    obtain ⟨cur', h2, h3, h4, h5⟩ := ih (w := w.setCell ⟨g, s, none⟩ u) h1 (s + 1) (by simp; omega)
    refine ⟨cur', h2, by rw [h3]; simp, ((Wrote.refl g w).setCell s u).trans h4, fun t => ?_⟩
    rw [h5 t, Array.getElem?_setIfInBounds]
    by_cases e1 : t = s
    · subst e1
      have c1 : ¬ (t + 1 ≤ t ∧ t < t + 1 + us.length) := by omega
      have c2 : t ≤ t ∧ t < t + (u :: us).length := by simp only [List.length_cons]; omega
      have c3 : t < cur.size := by omega
      rw [if_neg c1, if_pos rfl, if_pos c3, if_pos c2, Nat.sub_self]
      rfl
    · by_cases e2 : s + 1 ≤ t ∧ t < s + 1 + us.length
      · have c2 : s ≤ t ∧ t < s + (u :: us).length := by simp only [List.length_cons]; omega
        rw [if_pos e2, if_pos c2, show t - s = (t - (s + 1)) + 1 by omega]
        rfl
      · have c2 : ¬ (s ≤ t ∧ t < s + (u :: us).length) := by simp only [List.length_cons]; omega
        rw [if_neg e2, if_neg (fun h => e1 h.symm), if_neg c2]

/-- One element of a row stored anew. -/
theorem OwnC.store {e : TypeId} {w : World} {base g n cap k : Nat} {l : List (Rat × Rat)} {p : Rat × Rat} {b b' : Bool} {A C A' C' : Option Addr} {m c m1 d m' c' m2 d' : Nat}
    (h : OwnC e w base (.slice (some ⟨g, 0, none⟩) n cap) l) (hn : l.length = n) (hk : k < n)
    (hV : SpotC w (.agg #[.bool b, .slice A m c, .slice C m1 d, .bool b', .slice A' m' c', .slice C' m2 d']) p.1 p.2) :
    OwnC e (w.setCells g (k * 6) [.bool b, .slice A m c, .slice C m1 d, .bool b', .slice A' m' c', .slice C' m2 d']) base (.slice (some ⟨g, 0, none⟩) n cap) (l.set k p) ∧
    Keeps w (w.setCells g (k * 6) [.bool b, .slice A m c, .slice C m1 d, .bool b', .slice A' m' c', .slice C' m2 d']) ∧ Wrote g w (w.setCells g (k * 6) [.bool b, .slice A m c, .slice C m1 d, .bool b', .slice A' m' c', .slice C' m2 d']) ∧ base ≤ g := by
  obtain ⟨g', cap', cur, hv, hbg, hN, hg, hnc, hcm, hcs, hel⟩ := h.at (by omega)
  injection hv with hv1 hv2 hv3
  injection hv1 with hv1
  injection hv1 with hv1
  subst hv1
  subst hv3
  have hmul : l.length * 6 ≤ cap * 6 := Nat.mul_le_mul_right _ hnc
  obtain ⟨cur', h1, h2, h3, h4⟩ := setCells_block hg (k * 6) [.bool b, .slice A m c, .slice C m1 d, .bool b', .slice A' m' c', .slice C' m2 d'] (by simp; omega)
  have hK := keeps_of_wrote hN h3
  generalize w.setCells g (k * 6) [.bool b, .slice A m c, .slice C m1 d, .bool b', .slice A' m' c', .slice C' m2 d'] = W at *
  refine ⟨?_, hK, h3, hbg⟩
  have hN' : NoInts W g := by
    intro t u hu
    rw [cell_of_row W g t cur' e (0, 0) h1, h4] at hu
    split at hu
    · exact noint6 _ _ _ _ _ _ _ _ _ _ _ _ _ _ u (List.mem_of_getElem? hu)
    · exact hN t u (by rw [cell_of_row w g t cur e (0, 0) hg]; exact hu)
  have ho := OwnC.of (l := l.set k p) hbg hN' h1 (by simpa using hnc) hcm (h2.trans hcs) (by
    intro i q hq
    rw [List.getElem?_set] at hq
    by_cases e1 : k = i
    · subst e1
      rw [if_pos rfl, if_pos (by omega)] at hq
      injection hq with hq
      subst hq
      refine ⟨b, A, m, c, C, m1, d, b', A', m', c', C', m2, d', ?_, SpotC.kept hV hK⟩
      have e : ∀ j, j < 6 → cur'[k * 6 + j]? = [Value.bool b, .slice A m c, .slice C m1 d, .bool b', .slice A' m' c', .slice C' m2 d'][j]? := fun j hj => by
        rw [h4, if_pos ⟨by omega, by simp; omega⟩, show k * 6 + j - k * 6 = j by omega]
      exact ⟨e 0 (by omega), e 1 (by omega), e 2 (by omega), e 3 (by omega), e 4 (by omega), e 5 (by omega)⟩
    · rw [if_neg e1] at hq
      refine (hel i q hq).mono (fun _ h => SpotC.kept h hK) fun j u hj hu => ?_
      rw [h4, if_neg (by simp; omega)]; exact hu)
  rw [List.length_set, hn] at ho
  exact ho

/-- What stands at the row's end is laid anew with what is no int: its head is as it was. -/
theorem OwnC.clear {e : TypeId} {w : World} {base g n cap k : Nat} {l : List (Rat × Rat)} (vs : List Value)
    (h : OwnC e w base (.slice (some ⟨g, 0, none⟩) n cap) l) (hn : l.length = n) (h0 : 0 < n) (hk : k ≤ n) (hs : k * 6 + vs.length ≤ n * 6) (hvs : ∀ u ∈ vs, NoInt u) :
    OwnC e (w.setCells g (k * 6) vs) base (.slice (some ⟨g, 0, none⟩) k cap) (l.take k) ∧ Keeps w (w.setCells g (k * 6) vs) ∧ Wrote g w (w.setCells g (k * 6) vs) ∧ base ≤ g := by
  obtain ⟨g', cap', cur, hv, hbg, hN, hg, hnc, hcm, hcs, hel⟩ := h.at (by omega)
  injection hv with hv1 hv2 hv3
  injection hv1 with hv1
  injection hv1 with hv1
  subst hv1
  subst hv3
  have hmul : l.length * 6 ≤ cap * 6 := Nat.mul_le_mul_right _ hnc
  obtain ⟨cur', h1, h2, h3, h4⟩ := setCells_block hg (k * 6) vs (by omega)
  have hK := keeps_of_wrote hN h3
  generalize w.setCells g (k * 6) vs = W at *
  refine ⟨?_, hK, h3, hbg⟩
  have hN' : NoInts W g := by
    intro t u hu
    rw [cell_of_row W g t cur' e (0, 0) h1, h4] at hu
    split at hu
    · exact hvs u (List.mem_of_getElem? hu)
    · exact hN t u (by rw [cell_of_row w g t cur e (0, 0) hg]; exact hu)
  have hlen : (l.take k).length = k := by rw [List.length_take]; omega
  have ho := OwnC.of (l := l.take k) hbg hN' h1 (by omega) hcm (h2.trans hcs) (by
    intro i q hq
    have hi : i < k := by
      have := (List.getElem?_eq_some_iff.1 hq).1
      omega
    rw [List.getElem?_take, if_pos hi] at hq
    refine (hel i q hq).mono (fun _ h => SpotC.kept h hK) fun j u hj hu => ?_
    rw [h4, if_neg (by omega)]; exact hu)
  rw [hlen] at ho
  exact ho
end Go.Proofs.YthhgogpglocjdaaGreat
namespace Go.Proofs.YthhgogpglocjdaaGreat
open Go.RowKit

set_option maxRecDepth 100000 in
set_option maxHeartbeats 4000000 in
theorem r1same_yes (A C : Option Addr) (N n c d : Nat) (w : World) (ha : Num 4294967296 .u32 w (.slice A n c) N n) (hb : Num 4294967296 .u32 w (.slice C n d) N n) :
    Calls Tryz.prog 68 #[.slice A n c, .slice C n d] w fun e w' => e = .returned (.bool true) ∧ Grew w w' := by
  obtain ⟨A', c', e1, a1, a2, a3, a4⟩ := ha
  obtain ⟨C', d', e2, b1, b2, b3, b4⟩ := hb
  injection e1 with i1 i2 i3
  injection e2 with j1 j2 j3
  subst i1; subst i3; subst j1; subst j3
  have hm : n ≤ 9223372036854775807 := by omega
  clear i2 j2 a3 b3
  go_enter Tryz.func68, Tryz.ntmps68
  go_wp2_with fail
  go_loopg [5] n (fun gk i wr => ∃ j : Nat, gk + j = n ∧ i = .int .i64 j ∧ Grew w wr)
  case atStart => exact ⟨0, rfl, rfl, Grew.refl _⟩
  case round =>
    obtain ⟨j, hj, rfl, hG⟩ := hrel
    by_cases hlt : j < n
    · obtain ⟨ba, oa, rfl, hca⟩ := a4 (by omega)
      obtain ⟨bb, ob, rfl, hcb⟩ := b4 (by omega)
      have hcx := hG.cell (hca j hlt)
      have hcy := hG.cell (hcb j hlt)
      clear hca hcb a4 b4
      generalize dig 4294967296 N j = x at *
      go_wp2_with fail
      go_quiet (fail)
      go_wp2
      go_roundg (gk - 1)
      case rel => exact ⟨j + 1, by omega, by go_num, by first | exact hG.drewN _ | exact (hG.drewN _).drewN _⟩
      case measure => omega
    · obtain rfl : j = n := by omega
      go_wp2_with fail
      go_ret
      exact ⟨rfl, hG⟩

set_option maxRecDepth 100000 in
set_option maxHeartbeats 4000000 in
theorem r2same_yes (b : Bool) (A C : Option Addr) (N n c d : Nat) (w : World) (ha : Num 4294967296 .u32 w (.slice A n c) N n) (hb : Num 4294967296 .u32 w (.slice C n d) N n) :
    Calls Tryz.prog 67 #[.agg #[.bool b, .slice A n c], .agg #[.bool b, .slice C n d]] w fun e w' => e = .returned (.bool true) ∧ Grew w w' := by
  have Fa := Lib.hid ha
  have Fb := Lib.hid hb
  clear ha hb
  go_enter Tryz.func67, Tryz.ntmps67
  go_wp2_with fail
  refine gen_calls ?_
  intro W0 hW0
  have G0 : Grew w W0 := by rw [hW0]; exact ((Grew.refl w).alloc _).alloc _
  have P : Box2 W0 (w.heap.size) 0 (.bool b) (.slice A n c) := by rw [hW0]; exact ⟨by simp [go_sem], by simp [go_sem]⟩
  replace P := Lib.hid P
  have Q : Box2 W0 (w.heap.size + 1) 0 (.bool b) (.slice C n d) := by rw [hW0]; exact ⟨by simp [go_sem], by simp [go_sem]⟩
  replace Q := Lib.hid Q
  have z0 : w.heap.size < W0.heap.size := by rw [hW0]; simp <;> omega
  replace z0 := Lib.hid z0
  have z1 : w.heap.size + 1 < W0.heap.size := by rw [hW0]; simp <;> omega
  replace z1 := Lib.hid z1
  clear hW0
  replace Fa := Lib.hid (Fa.out.kept G0.keeps)
  replace Fb := Lib.hid (Fb.out.kept G0.keeps)
  replace G0 := Lib.hid G0
  refine (r1same_yes A C N n c d _ Fa.out Fb.out).mono ?_
  rintro e w1 ⟨rfl, g1⟩
  replace P := Lib.hid (P.out.grew g1)
  replace Q := Lib.hid (Q.out.grew g1)
  replace z0 := Lib.hid (lt_grew z0.out g1)
  replace z1 := Lib.hid (lt_grew z1.out g1)
  replace Fa := Lib.hid (Fa.out.kept g1.keeps)
  replace Fb := Lib.hid (Fb.out.kept g1.keeps)
  replace G0 := Lib.hid (G0.out.trans g1)
  clear g1
  go_wp2_with fail
  go_ret
  exact ⟨rfl, G0.out⟩

/-- Two answers that are one fraction: the same signs and lengths, and both read. -/
theorem FracC.both {w : World} {V V' : Value} {q : Rat} (h : FracC w V q) (h' : FracC w V' q) : ∃ b A A' n c c' C C' m d d' N D, V = .agg #[.bool b, .slice A n c, .slice C m d] ∧ V' = .agg #[.bool b, .slice A' n c', .slice C' m d'] ∧
    Hid (Num 4294967296 .u32 w (.slice A n c) N n) ∧ Hid (Num 4294967296 .u32 w (.slice A' n c') N n) ∧ Hid (Num 4294967296 .u32 w (.slice C m d) D m) ∧ Hid (Num 4294967296 .u32 w (.slice C' m d') D m) := by
  obtain ⟨va, vd, rfl, h1, h2, -⟩ := h
  obtain ⟨va', vd', rfl, h1', h2', -⟩ := h'
  obtain ⟨A, c, rfl, -⟩ := id h1
  obtain ⟨C, d, rfl, -⟩ := id h2
  obtain ⟨A', c', rfl, -⟩ := id h1'
  obtain ⟨C', d', rfl, -⟩ := id h2'
  exact ⟨_, A, A', _, c, c', C, C', _, d, d', _, _, rfl, rfl, h1, h1', h2, h2'⟩

set_option maxRecDepth 100000 in
set_option maxHeartbeats 4000000 in
theorem r4same_yes (Va Vb : Value) (q : Rat) (w : World) (ha : FracC w Va q) (hb : FracC w Vb q) :
    Calls Tryz.prog 41 #[Va, Vb] w fun e w' => e = .returned (.bool true) ∧ Grew w w' := by
  obtain ⟨b1, A1, A2, n1, c1, c2, C1, C2, m1, d1, d2, N, D, rfl, rfl, Fa, Fb, Fc, Fd⟩ := ha.both hb
  clear ha hb
  go_enter Tryz.func41, Tryz.ntmps41
  go_wp2_with fail
  refine gen_calls ?_
  intro W0 hW0
  have G0 : Grew w W0 := by rw [hW0]; exact ((Grew.refl w).alloc _).alloc _
  have P : Box3 W0 (w.heap.size) 0 (.bool b1) (.slice A1 n1 c1) (.slice C1 m1 d1) := by rw [hW0]; exact ⟨by simp [go_sem], by simp [go_sem], by simp [go_sem]⟩
  replace P := Lib.hid P
  have Q : Box3 W0 (w.heap.size + 1) 0 (.bool b1) (.slice A2 n1 c2) (.slice C2 m1 d2) := by rw [hW0]; exact ⟨by simp [go_sem], by simp [go_sem], by simp [go_sem]⟩
  replace Q := Lib.hid Q
  have z0 : w.heap.size < W0.heap.size := by rw [hW0]; simp <;> omega
  replace z0 := Lib.hid z0
  have z1 : w.heap.size + 1 < W0.heap.size := by rw [hW0]; simp <;> omega
  replace z1 := Lib.hid z1
  clear hW0
  replace Fa := Lib.hid (Fa.out.kept G0.keeps)
  replace Fb := Lib.hid (Fb.out.kept G0.keeps)
  replace Fc := Lib.hid (Fc.out.kept G0.keeps)
  replace Fd := Lib.hid (Fd.out.kept G0.keeps)
  replace G0 := Lib.hid G0
  refine (r2same_yes b1 A1 A2 N n1 c1 c2 _ Fa.out Fb.out).mono ?_
  rintro e w1 ⟨rfl, g1⟩
  replace P := Lib.hid (P.out.grew g1)
  replace Q := Lib.hid (Q.out.grew g1)
  replace z0 := Lib.hid (lt_grew z0.out g1)
  replace z1 := Lib.hid (lt_grew z1.out g1)
  replace Fa := Lib.hid (Fa.out.kept g1.keeps)
  replace Fb := Lib.hid (Fb.out.kept g1.keeps)
  replace Fc := Lib.hid (Fc.out.kept g1.keeps)
  replace Fd := Lib.hid (Fd.out.kept g1.keeps)
  replace G0 := Lib.hid (G0.out.trans g1)
  clear g1
  obtain ⟨P0, P1, P2⟩ := P.out
  obtain ⟨Q0, Q1, Q2⟩ := Q.out
  go_wp2_with fail
  clear P0 P1 P2 Q0 Q1 Q2
  refine (r1same_yes C1 C2 D m1 d1 d2 _ Fc.out Fd.out).mono ?_
  rintro e w2 ⟨rfl, g2⟩
  replace P := Lib.hid (P.out.grew g2)
  replace Q := Lib.hid (Q.out.grew g2)
  replace z0 := Lib.hid (lt_grew z0.out g2)
  replace z1 := Lib.hid (lt_grew z1.out g2)
  replace Fa := Lib.hid (Fa.out.kept g2.keeps)
  replace Fb := Lib.hid (Fb.out.kept g2.keeps)
  replace Fc := Lib.hid (Fc.out.kept g2.keeps)
  replace Fd := Lib.hid (Fd.out.kept g2.keeps)
  replace G0 := Lib.hid (G0.out.trans g2)
  clear g2
  go_wp2_with fail
  go_ret
  exact ⟨rfl, G0.out⟩

set_option maxRecDepth 100000 in
set_option maxHeartbeats 4000000 in
theorem r5same_yes (Va Vb : Value) (x y : Rat) (w : World) (ha : SpotC w Va x y) (hb : SpotC w Vb x y) :
    Calls Tryz.prog 14 #[Va, Vb] w fun e w' => e = .returned (.bool true) ∧ Grew w w' := by
  obtain ⟨b1, A1, n1, c1, C1, m1, d1, b2, A2, n2, c2, C2, m2, d2, rfl, Fa, Fb, -⟩ := ha.laid
  obtain ⟨b3, A3, n3, c3, C3, m3, d3, b4, A4, n4, c4, C4, m4, d4, rfl, Fc, Fd, -⟩ := hb.laid
  clear ha hb
  go_enter Tryz.func14, Tryz.ntmps14
  go_wp2_with fail
  refine gen_calls ?_
  intro W0 hW0
  have G0 : Grew w W0 := by rw [hW0]; exact ((Grew.refl w).alloc _).alloc _
  have P : Box3 W0 (w.heap.size) 0 (.bool b1) (.slice A1 n1 c1) (.slice C1 m1 d1) := by rw [hW0]; exact ⟨by simp [go_sem], by simp [go_sem], by simp [go_sem]⟩
  replace P := Lib.hid P
  have Py : Box3 W0 (w.heap.size) 3 (.bool b2) (.slice A2 n2 c2) (.slice C2 m2 d2) := by rw [hW0]; exact ⟨by simp [go_sem], by simp [go_sem], by simp [go_sem]⟩
  replace Py := Lib.hid Py
  have Q : Box3 W0 (w.heap.size + 1) 0 (.bool b3) (.slice A3 n3 c3) (.slice C3 m3 d3) := by rw [hW0]; exact ⟨by simp [go_sem], by simp [go_sem], by simp [go_sem]⟩
  replace Q := Lib.hid Q
  have Qy : Box3 W0 (w.heap.size + 1) 3 (.bool b4) (.slice A4 n4 c4) (.slice C4 m4 d4) := by rw [hW0]; exact ⟨by simp [go_sem], by simp [go_sem], by simp [go_sem]⟩
  replace Qy := Lib.hid Qy
  have z0 : w.heap.size < W0.heap.size := by rw [hW0]; simp <;> omega
  replace z0 := Lib.hid z0
  have z1 : w.heap.size + 1 < W0.heap.size := by rw [hW0]; simp <;> omega
  replace z1 := Lib.hid z1
  clear hW0
  replace Fa := Lib.hid (Fa.out.kept G0.keeps)
  replace Fb := Lib.hid (Fb.out.kept G0.keeps)
  replace Fc := Lib.hid (Fc.out.kept G0.keeps)
  replace Fd := Lib.hid (Fd.out.kept G0.keeps)
  replace G0 := Lib.hid G0
  refine (r4same_yes _ _ x _ Fa.out Fc.out).mono ?_
  rintro e w1 ⟨rfl, g1⟩
  replace P := Lib.hid (P.out.grew g1)
  replace Py := Lib.hid (Py.out.grew g1)
  replace Q := Lib.hid (Q.out.grew g1)
  replace Qy := Lib.hid (Qy.out.grew g1)
  replace z0 := Lib.hid (lt_grew z0.out g1)
  replace z1 := Lib.hid (lt_grew z1.out g1)
  replace Fa := Lib.hid (Fa.out.kept g1.keeps)
  replace Fb := Lib.hid (Fb.out.kept g1.keeps)
  replace Fc := Lib.hid (Fc.out.kept g1.keeps)
  replace Fd := Lib.hid (Fd.out.kept g1.keeps)
  replace G0 := Lib.hid (G0.out.trans g1)
  clear g1
  obtain ⟨P0, P1, P2⟩ := P.out
  obtain ⟨Py0, Py1, Py2⟩ := Py.out
  obtain ⟨Q0, Q1, Q2⟩ := Q.out
  obtain ⟨Qy0, Qy1, Qy2⟩ := Qy.out
  go_wp2_with fail
  clear P0 P1 P2 Py0 Py1 Py2 Q0 Q1 Q2 Qy0 Qy1 Qy2
  refine (r4same_yes _ _ y _ Fb.out Fd.out).mono ?_
  rintro e w2 ⟨rfl, g2⟩
  replace P := Lib.hid (P.out.grew g2)
  replace Py := Lib.hid (Py.out.grew g2)
  replace Q := Lib.hid (Q.out.grew g2)
  replace Qy := Lib.hid (Qy.out.grew g2)
  replace z0 := Lib.hid (lt_grew z0.out g2)
  replace z1 := Lib.hid (lt_grew z1.out g2)
  replace Fa := Lib.hid (Fa.out.kept g2.keeps)
  replace Fb := Lib.hid (Fb.out.kept g2.keeps)
  replace Fc := Lib.hid (Fc.out.kept g2.keeps)
  replace Fd := Lib.hid (Fd.out.kept g2.keeps)
  replace G0 := Lib.hid (G0.out.trans g2)
  clear g2
  go_wp2_with fail
  go_ret
  exact ⟨rfl, G0.out⟩
end Go.Proofs.YthhgogpglocjdaaGreat
namespace Go.Proofs.YthhgogpglocjdaaGreat
open Go.RowKit

set_option maxRecDepth 100000 in
set_option maxHeartbeats 4000000 in
theorem rmake_any (neg : Bool) (va : Value) (N n : Nat) (w : World) (ha : Num 4294967296 .u32 w va N n) (hs : n < 137438953472) :
    Calls Tryz.prog 84 #[.bool neg, va] w fun e w' => ∃ V, e = .returned V ∧ Whl w' V (sgn neg N) ∧ Grew w w' := by
  have hl := ha.len_le (by omega)
  have hlh := len_half N
  obtain ⟨A1, c1, rfl, Ha⟩ := ha.slice
  clear ha
  go_enter Tryz.func84, Tryz.ntmps84
  go_wp2_with fail
  refine gen_calls ?_
  intro W0 hW0
  have G0 : Grew w W0 := by rw [hW0]; exact (Grew.refl w).alloc _
  have R : Res2 W0 (w.heap.size) 0 (.bool false) (.slice none 0 0) := by rw [hW0]; exact ⟨by simp [go_sem], by simp [go_sem], by simp [go_sem], by simp [go_sem], by simp⟩
  replace R := Lib.hid R
  have z0 : w.heap.size < W0.heap.size := by rw [hW0]; simp <;> omega
  replace z0 := Lib.hid z0
  clear hW0
  replace Ha := Lib.hid (Ha.out.kept G0.keeps)
  replace G0 := Lib.hid G0
  refine (rhalf_any _ N _ _ Ha.out (by omega)).mono ?_
  rintro e w1 ⟨V1, rfl, hV1, g1⟩
  obtain ⟨A2, c2, rfl, X1⟩ := hV1.slice
  clear hV1
  replace R := Lib.hid (R.out.grew g1)
  replace z0 := Lib.hid (lt_grew z0.out g1)
  replace Ha := Lib.hid (Ha.out.kept g1.keeps)
  replace G0 := Lib.hid (G0.out.trans g1)
  clear g1
  go_wp2_with fail
  refine (rwords_any _ N _ _ X1.out (by omega)).mono ?_
  rintro e w2 ⟨V2, rfl, hV2, g2⟩
  obtain ⟨A3, c3, rfl, X2⟩ := hV2.slice
  clear hV2
  replace R := Lib.hid (R.out.grew g2)
  replace z0 := Lib.hid (lt_grew z0.out g2)
  replace Ha := Lib.hid (Ha.out.kept g2.keeps)
  replace X1 := Lib.hid (X1.out.kept g2.keeps)
  replace G0 := Lib.hid (G0.out.trans g2)
  clear g2
  have hz : len 4294967296 N = 0 ↔ N = 0 := len_eq_zero (by omega)
  have hw : Whl w2 (.agg #[.bool (neg && decide (N ≠ 0)), .slice A3 (len 4294967296 N) c3]) (sgn neg N) := Whl.of_num X2.out
  replace hw := Lib.hid hw
  clear hl hlh

  by_cases h0 : N = 0
  · as_aux_lemma =>
    have e0 : decide (N ≠ 0) = false := by simp [h0]
    rw [e0] at hw
    have hn0 := hz.2 h0
    generalize len 4294967296 N = k at *
    subst hn0
    clear e0 h0 hz
    cases neg
    · skip
      obtain ⟨R0, R1, Rf0, Rf1, Rs⟩ := R.out
      go_wp2_with fail
      refine gen_post ?_
      intro W9 hW9
      obtain ⟨q0, q1, qK, -, qs, qG⟩ := store2 (o := 0) R0 R1 hW9
      have GE := qG w (by omega) G0.out
      have QK := Lib.hid qK
      clear qK qG hW9 R0 R1
      exact bodyPost_ret (v := .agg #[.bool false, .slice A3 0 c3]) (by simp [results, Tryz.results84, go_sem, q0, q1]) rfl ⟨_, rfl, hw.out.kept QK.out, GE⟩
    · skip
      obtain ⟨R0, R1, Rf0, Rf1, Rs⟩ := R.out
      go_wp2_with fail
      refine gen_post ?_
      intro W9 hW9
      obtain ⟨q0, q1, qK, -, qs, qG⟩ := store2 (o := 0) R0 R1 hW9
      have GE := qG w (by omega) G0.out
      have QK := Lib.hid qK
      clear qK qG hW9 R0 R1
      exact bodyPost_ret (v := .agg #[.bool false, .slice A3 0 c3]) (by simp [results, Tryz.results84, go_sem, q0, q1]) rfl ⟨_, rfl, hw.out.kept QK.out, GE⟩
  · as_aux_lemma =>

    have e0 : decide (N ≠ 0) = true := by simp [h0]
    rw [e0] at hw
    have hn0 : 0 < len 4294967296 N := by
      rcases Nat.eq_zero_or_pos (len 4294967296 N) with h | h
      · exact absurd (hz.1 h) h0
      · exact h
    generalize len 4294967296 N = k at *
    have hp : (0 : Int) < (k : Int) := by omega
    clear e0 h0 hz
    cases neg
    · skip
      obtain ⟨R0, R1, Rf0, Rf1, Rs⟩ := R.out
      go_wp2_with fail
      refine gen_post ?_
      intro W9 hW9
      obtain ⟨q0, q1, qK, -, qs, qG⟩ := store2 (o := 0) R0 R1 hW9
      have GE := qG w (by omega) G0.out
      have QK := Lib.hid qK
      clear qK qG hW9 R0 R1
      exact bodyPost_ret (v := .agg #[.bool false, .slice A3 k c3]) (by simp [results, Tryz.results84, go_sem, q0, q1]) rfl ⟨_, rfl, hw.out.kept QK.out, GE⟩
    · skip
      obtain ⟨R0, R1, Rf0, Rf1, Rs⟩ := R.out
      go_wp2_with fail
      refine gen_post ?_
      intro W9 hW9
      obtain ⟨q0, q1, qK, -, qs, qG⟩ := store2 (o := 0) R0 R1 hW9
      have GE := qG w (by omega) G0.out
      have QK := Lib.hid qK
      clear qK qG hW9 R0 R1
      exact bodyPost_ret (v := .agg #[.bool true, .slice A3 k c3]) (by simp [results, Tryz.results84, go_sem, q0, q1]) rfl ⟨_, rfl, hw.out.kept QK.out, GE⟩

set_option maxRecDepth 100000 in
set_option maxHeartbeats 4000000 in
theorem r2sign_any (Va : Value) (z : Int) (k : Nat) (w : World) (ha : WhlR w Va z k) (hs : k < 137438953472) :
    Calls Tryz.prog 82 #[Va] w fun e w' => e = .returned (.int .i64 (sg z)) ∧ Grew w w' := by
  obtain ⟨b1, A1, n1, c1, N, rfl, Na, Ez, hk⟩ := ha.open
  clear ha
  go_enter Tryz.func82, Tryz.ntmps82
  go_wp2_with fail
  refine gen_calls ?_
  intro W0 hW0
  have G0 : Grew w W0 := by rw [hW0]; exact (Grew.refl w).alloc _
  have P : Box2 W0 (w.heap.size) 0 (.bool b1) (.slice A1 n1 c1) := by rw [hW0]; exact ⟨by simp [go_sem], by simp [go_sem]⟩
  replace P := Lib.hid P
  have z0 : w.heap.size < W0.heap.size := by rw [hW0]; simp <;> omega
  replace z0 := Lib.hid z0
  clear hW0
  replace Na := Lib.hid (Na.out.kept G0.keeps)
  replace G0 := Lib.hid G0
  refine (rbits_any _ N _ _ Na.out (by omega)).mono ?_
  rintro e w1 ⟨bb, rfl, hb, g1⟩
  replace P := Lib.hid (P.out.grew g1)
  replace z0 := Lib.hid (lt_grew z0.out g1)
  replace Na := Lib.hid (Na.out.kept g1.keeps)
  replace G0 := Lib.hid (G0.out.trans g1)
  clear g1
  rcases Nat.eq_zero_or_pos bb with rfl | hp
  · have e1 : sg z = 0 := by rw [← Ez.out, hb.1 rfl]; unfold sg sgn; cases b1 <;> simp
    replace e1 := Lib.hid e1
    clear hb
    go_wp2_with fail
    go_ret
    exact ⟨by rw [e1.out]; rfl, G0.out⟩
  · have hN : N ≠ 0 := fun e => by have := hb.2 e; omega
    have hbb : ((bb : Int) == 0) = false := by simp; omega
    clear hb
    cases b1
    · have e1 : sg z = 1 := by rw [← Ez.out]; unfold sg sgn; simp; omega
      replace e1 := Lib.hid e1
      obtain ⟨P0, P1⟩ := P.out
      go_wp2_with fail
      clear P0 P1
      go_ret
      exact ⟨by rw [e1.out]; rfl, G0.out⟩
    · have e1 : sg z = -1 := by rw [← Ez.out]; unfold sg sgn; simp; omega
      replace e1 := Lib.hid e1
      obtain ⟨P0, P1⟩ := P.out
      go_wp2_with fail
      clear P0 P1
      go_ret
      exact ⟨by rw [e1.out]; rfl, G0.out⟩

set_option maxRecDepth 100000 in
set_option maxHeartbeats 4000000 in
theorem r2neg_any (Va : Value) (z : Int) (k : Nat) (w : World) (ha : WhlR w Va z k) (hs : k < 137438953472) :
    Calls Tryz.prog 85 #[Va] w fun e w' => ∃ V, e = .returned V ∧ Whl w' V (-z) ∧ Grew w w' := by
  obtain ⟨b1, A1, n1, c1, N, rfl, Na, Ez, hk⟩ := ha.open
  have e1 : sgn (!b1) N = -z := by rw [sgn_not, Ez.out]
  replace e1 := Lib.hid e1
  clear ha
  go_enter Tryz.func85, Tryz.ntmps85
  go_wp2_with fail
  refine gen_calls ?_
  intro W0 hW0
  have G0 : Grew w W0 := by rw [hW0]; exact ((Grew.refl w).alloc _).alloc _
  have P : Box2 W0 (w.heap.size) 0 (.bool b1) (.slice A1 n1 c1) := by rw [hW0]; exact ⟨by simp [go_sem], by simp [go_sem]⟩
  replace P := Lib.hid P
  have R : Res2 W0 (w.heap.size + 1) 0 (.bool false) (.slice none 0 0) := by rw [hW0]; exact ⟨by simp [go_sem], by simp [go_sem], by simp [go_sem], by simp [go_sem], by simp⟩
  replace R := Lib.hid R
  have z0 : w.heap.size < W0.heap.size := by rw [hW0]; simp <;> omega
  replace z0 := Lib.hid z0
  have z1 : w.heap.size + 1 < W0.heap.size := by rw [hW0]; simp <;> omega
  replace z1 := Lib.hid z1
  clear hW0
  replace Na := Lib.hid (Na.out.kept G0.keeps)
  replace G0 := Lib.hid G0
  refine (rmake_any (!b1) _ N _ _ Na.out (by omega)).mono ?_
  rintro e w1 ⟨V1, rfl, hV1, g1⟩
  obtain ⟨b2, A2, n2, c2, rfl, X1, -⟩ := hV1.laid
  clear hV1
  replace R := Lib.hid (R.out.grew g1)
  replace P := Lib.hid (P.out.grew g1)
  replace z0 := Lib.hid (lt_grew z0.out g1)
  replace z1 := Lib.hid (lt_grew z1.out g1)
  replace Na := Lib.hid (Na.out.kept g1.keeps)
  replace G0 := Lib.hid (G0.out.trans g1)
  clear g1
  obtain ⟨R0, R1, Rf0, Rf1, Rs⟩ := R.out
  go_wp2_with fail
  refine gen_post ?_
  intro W9 hW9
  obtain ⟨q0, q1, qK, -, qs, qG⟩ := store2 (o := 0) R0 R1 hW9
  have GE := qG w (by omega) G0.out
  have QK := Lib.hid qK
  clear qK qG hW9 R0 R1
  exact bodyPost_ret (v := .agg #[.bool b2, .slice A2 n2 c2]) (by simp [results, Tryz.results85, go_sem, q0, q1]) rfl ⟨_, rfl, by rw [← e1.out]; exact X1.out.kept QK.out, GE⟩

set_option maxRecDepth 100000 in
set_option maxHeartbeats 4000000 in
theorem r2mul_any (Va Vb : Value) (z y : Int) (k l : Nat) (w : World) (ha : WhlR w Va z k) (hb : WhlR w Vb y l) (hs : k < 34359738368 ∧ l < 34359738368) :
    Calls Tryz.prog 55 #[Va, Vb] w fun e w' => ∃ V, e = .returned V ∧ Whl w' V (z * y) ∧ Grew w w' := by
  obtain ⟨b1, A1, n1, c1, N, rfl, Na, Ez, hk⟩ := ha.open
  obtain ⟨b2, A2, n2, c2, M, rfl, Nb, Ey, hl⟩ := hb.open
  have e1 : sgn (b1 != b2) (N * M) = z * y := by rw [sgn_mul, Ez.out, Ey.out]
  have k1 := Na.out.len_le (by omega)
  have k2 := Nb.out.len_le (by omega)
  have k3 := len_mul (B := 4294967296) (by omega) N M _ _ k1 k2
  have hk9 := Lib.hid (show len 4294967296 (N * M) < 137438953472 by omega)
  have hkl := Lib.hid (show n1 < 137438953472 ∧ n2 < 137438953472 by omega)
  replace e1 := Lib.hid e1
  clear ha hb k1 k2 k3 hk hl hs
  go_enter Tryz.func55, Tryz.ntmps55
  go_wp2_with fail
  refine gen_wp ?_
  intro W0 hW0
  have G0 : Grew w W0 := by rw [hW0]; exact (((Grew.refl w).alloc _).alloc _).alloc _
  have P : Box2 W0 (w.heap.size) 0 (.bool b1) (.slice A1 n1 c1) := by rw [hW0]; exact ⟨by simp [go_sem], by simp [go_sem]⟩
  replace P := Lib.hid P
  have Q : Box2 W0 (w.heap.size + 1) 0 (.bool b2) (.slice A2 n2 c2) := by rw [hW0]; exact ⟨by simp [go_sem], by simp [go_sem]⟩
  replace Q := Lib.hid Q
  have R : Res2 W0 (w.heap.size + 1 + 1) 0 (.bool false) (.slice none 0 0) := by rw [hW0]; exact ⟨by simp [go_sem], by simp [go_sem], by simp [go_sem], by simp [go_sem], by simp⟩
  replace R := Lib.hid R
  have z0 : w.heap.size < W0.heap.size := by rw [hW0]; simp <;> omega
  replace z0 := Lib.hid z0
  have z1 : w.heap.size + 1 < W0.heap.size := by rw [hW0]; simp <;> omega
  replace z1 := Lib.hid z1
  have z2 : w.heap.size + 1 + 1 < W0.heap.size := by rw [hW0]; simp <;> omega
  replace z2 := Lib.hid z2
  clear hW0
  replace Na := Lib.hid (Na.out.kept G0.keeps)
  replace Nb := Lib.hid (Nb.out.kept G0.keeps)
  replace G0 := Lib.hid G0
  have gd : Grew W0 W0.drew := (Grew.refl W0).drew
  replace R := Lib.hid (R.out.grew gd)
  replace P := Lib.hid (P.out.grew gd)
  replace Q := Lib.hid (Q.out.grew gd)
  replace z0 := Lib.hid (lt_grew z0.out gd)
  replace z1 := Lib.hid (lt_grew z1.out gd)
  replace z2 := Lib.hid (lt_grew z2.out gd)
  replace Na := Lib.hid (Na.out.kept gd.keeps)
  replace Nb := Lib.hid (Nb.out.kept gd.keeps)
  replace gd := Lib.hid gd
  have ZP := P
  have ZQ := Q
  go_region_held3 (fun w' => w'.cell? ⟨w.heap.size, 0, none⟩ = some (.bool b1) ∧ w'.cell? ⟨w.heap.size, 1, none⟩ = some (.slice A1 n1 c1) ∧ w'.cell? ⟨w.heap.size + 1, 0, none⟩ = some (.bool b2) ∧ w'.cell? ⟨w.heap.size + 1, 1, none⟩ = some (.slice A2 n2 c2))
    (first | (with_reducible exact ⟨ZP.out.p0, ZP.out.p1, ZQ.out.p0, ZQ.out.p1⟩) | (with_reducible exact ⟨g1.cell ZP.out.p0, g1.cell ZP.out.p1, g1.cell ZQ.out.p0, g1.cell ZQ.out.p1⟩) | (with_reducible exact ⟨(g1.trans g2).cell ZP.out.p0, (g1.trans g2).cell ZP.out.p1, (g1.trans g2).cell ZQ.out.p0, (g1.trans g2).cell ZQ.out.p1⟩) | (with_reducible exact ⟨other2 (o := 0) (by omega) ((g1.trans g2).cell ZP.out.p0), other2 (o := 0) (by omega) ((g1.trans g2).cell ZP.out.p1), other2 (o := 0) (by omega) ((g1.trans g2).cell ZQ.out.p0), other2 (o := 0) (by omega) ((g1.trans g2).cell ZQ.out.p1)⟩))
    (first | (go_at_call 80; refine (rMul_any _ _ N M _ _ _ Na.out Nb.out hkl.out).mono ?_; rintro e w1 ⟨V1, rfl, hV1, g1⟩; obtain ⟨A3, c3, rfl, X1⟩ := hV1.slice; clear hV1; replace R := Lib.hid (R.out.grew g1); replace P := Lib.hid (P.out.grew g1); replace Q := Lib.hid (Q.out.grew g1); replace z0 := Lib.hid (lt_grew z0.out g1); replace z1 := Lib.hid (lt_grew z1.out g1); replace z2 := Lib.hid (lt_grew z2.out g1); replace Na := Lib.hid (Na.out.kept g1.keeps); replace Nb := Lib.hid (Nb.out.kept g1.keeps)) | (go_at_call 84; refine (rmake_any _ _ (N * M) _ _ X1.out hk9.out).mono ?_; rintro e w2 ⟨V2, rfl, hV2, g2⟩; obtain ⟨b4, A4, n4, c4, rfl, X2, -⟩ := hV2.laid; clear hV2; replace R := Lib.hid (R.out.grew g2); replace P := Lib.hid (P.out.grew g2); replace Q := Lib.hid (Q.out.grew g2); replace z0 := Lib.hid (lt_grew z0.out g2); replace z1 := Lib.hid (lt_grew z1.out g2); replace z2 := Lib.hid (lt_grew z2.out g2); replace Na := Lib.hid (Na.out.kept g2.keeps); replace Nb := Lib.hid (Nb.out.kept g2.keeps); replace X1 := Lib.hid (X1.out.kept g2.keeps); obtain ⟨R0, R1, Rf0, Rf1, Rs⟩ := R.out))
  replace G0 := Lib.hid (((G0.out.trans gd.out).trans g1).trans g2)
  clear gd g1 g2 ZP ZQ
  refine gen_then ?_
  intro W9 hW9
  obtain ⟨q0, q1, qK, -, qs, qG⟩ := store2 (o := 0) R0 R1 hW9
  have GE := qG w (by omega) G0.out
  have QK := Lib.hid qK
  clear qK qG hW9 R0 R1
  go_wp2_with fail
  exact bodyPost_ret (v := .agg #[.bool b4, .slice A4 n4 c4]) (by simp [results, Tryz.results55, go_sem, q0, q1]) rfl ⟨_, rfl, by rw [← e1.out]; exact X2.out.kept QK.out, GE⟩
end Go.Proofs.YthhgogpglocjdaaGreat
