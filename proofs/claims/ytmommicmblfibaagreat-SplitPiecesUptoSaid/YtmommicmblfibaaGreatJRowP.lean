/- Spots as they come in; areas, places and order of spots, without a program. Conditions: none. Rows of spots: as they come in, and as a call owns them. Conditions: none. Rows of spots: what the document does with them, without a program; the type of a spot. Conditions: none. Plain: the document's row is in order, each once, and holds what came in. Conditions: none. -/
import Derived.Test.YtmommicmblfibaaGreatJKit2
import Derived.Test.YtmommicmblfibaaGreatJRoundsP
import Derived.Test.YtmommicmblfibaaGreatJRef3
set_option maxRecDepth 100000
namespace Go.Proofs.YtmommicmblfibaaGreat
open Go.RowKit
theorem FracR.mono {w : World} {V : Value} {q : Rat} {k l : Nat} (h : FracR w V q k) (e : k ≤ l) : FracR w V q l := by
 obtain ⟨neg, N, D, n, m, va, vd, e1, h1, h2, h3, h4, h5⟩ := h
 exact ⟨neg, N, D, n, m, va, vd, e1, h1, h2, h3, by omega, by omega⟩
def SpotR (w : World) (V : Value) (x y : Rat) (k : Nat) : Prop := ∃ b A n c C m d b' A' n' c' C' m' d', V = .agg #[.bool b, .slice A n c, .slice C m d, .bool b', .slice A' n' c', .slice C' m' d'] ∧
 FracR w (.agg #[.bool b, .slice A n c, .slice C m d]) x k ∧ FracR w (.agg #[.bool b', .slice A' n' c', .slice C' m' d']) y k
theorem SpotR.kept {w w' : World} {V : Value} {x y : Rat} {k : Nat} (h : SpotR w V x y k) (g : Keeps w w') : SpotR w' V x y k := by
 obtain ⟨b, A, n, c, C, m, d, b', A', n', c', C', m', d', e, h1, h2⟩ := h
 exact ⟨b, A, n, c, C, m, d, b', A', n', c', C', m', d', e, h1.kept g, h2.kept g⟩
theorem SpotR.v {w : World} {V : Value} {x y : Rat} {k : Nat} (h : SpotR w V x y k) : SpotV w V x y k := by
 obtain ⟨b, A, n, c, C, m, d, b', A', n', c', C', m', d', e, h1, h2⟩ := h
 exact ⟨b, A, n, c, C, m, d, b', A', n', c', C', m', d', e, h1.v, h2.v⟩
theorem SpotR.mono {w : World} {V : Value} {x y : Rat} {k l : Nat} (h : SpotR w V x y k) (e : k ≤ l) : SpotR w V x y l := by
 obtain ⟨b, A, n, c, C, m, d, b', A', n', c', C', m', d', e1, h1, h2⟩ := h
 exact ⟨b, A, n, c, C, m, d, b', A', n', c', C', m', d', e1, h1.mono e, h2.mono e⟩
theorem SpotR.laid {w : World} {V : Value} {x y : Rat} {k : Nat} (h : SpotR w V x y k) : ∃ b A n c C m d b' A' n' c' C' m' d', V = .agg #[.bool b, .slice A n c, .slice C m d, .bool b', .slice A' n' c', .slice C' m' d'] ∧
  Hid (FracR w (.agg #[.bool b, .slice A n c, .slice C m d]) x k) ∧ Hid (FracR w (.agg #[.bool b', .slice A' n' c', .slice C' m' d']) y k) ∧
  Hid (SpotR w (.agg #[.bool b, .slice A n c, .slice C m d, .bool b', .slice A' n' c', .slice C' m' d']) x y k) := by
 have h' := h
 obtain ⟨b, A, n, c, C, m, d, b', A', n', c', C', m', d', rfl, h1, h2⟩ := h'
 exact ⟨b, A, n, c, C, m, d, b', A', n', c', C', m', d', rfl, h1, h2, h⟩
theorem SpotC.r {w : World} {V : Value} {x y : Rat} {k : Nat} (h : SpotC w V x y) (b1 : QB x k) (b2 : QB y k) : SpotR w V x y k := by
 obtain ⟨b, A, n, c, C, m, d, b', A', n', c', C', m', d', e, h1, h2⟩ := h
 exact ⟨b, A, n, c, C, m, d, b', A', n', c', C', m', d', e, h1.r b1, h2.r b2⟩
def areaQ (ax ay bx b_y cx cy : Rat) : Rat := ax * (b_y - cy) + bx * (cy - ay) + cx * (ay - b_y)
theorem areaQ_eq (ax ay bx b_y cx cy : Rat) : areaQ ax ay bx b_y cx cy = (bx - ax) * (cy - ay) - (b_y - ay) * (cx - ax) := by unfold areaQ; grind
theorem areaQ_turn (ax ay bx b_y cx cy : Rat) : sgQ (areaQ ax ay bx b_y cx cy) = turnQ ax ay bx b_y cx cy := by rw [areaQ_eq, turnQ_eq]
theorem areaQ_qb {ax ay bx b_y cx cy : Rat} {k : Nat} (q1 : QB ax k) (q2 : QB ay k) (q3 : QB bx k) (q4 : QB b_y k) (q5 : QB cx k) (q6 : QB cy k) : QB (areaQ ax ay bx b_y cx cy) (9 * k + 5) :=
 (((q1.mul (q4.sub q6)).add (q3.mul (q6.sub q2))).add (q5.mul (q2.sub q4))).mono (by omega)
def betwQ (a b c : Rat) : Bool := decide (cmpQ a c * cmpQ b c ≤ 0)
theorem cmpQ_bd (a b : Rat) : -1 ≤ cmpQ a b ∧ cmpQ a b ≤ 1 := by unfold cmpQ; split <;> (try split) <;> omega
theorem betwQ_within (a b c : Rat) : betwQ a b c = withinQ a b c := by
 unfold betwQ withinQ midQ cmpQ
 by_cases h1 : a < c <;> by_cases h2 : c < a <;> by_cases h3 : b < c <;> by_cases h4 : c < b <;> by_cases h5 : b < a <;>
  first | (simp [h1, h2, h3, h4, h5]; done) | (exfalso; grind)
def spotCmp (ax ay bx b_y : Rat) : Int := if cmpQ ax bx = 0 then cmpQ ay b_y else cmpQ ax bx
def Spot6 (P : Value → Prop) (c : Nat → Option Value) : Prop := ∃ b A n c0 C m d b' A' n' c0' C' m' d',
 (c 0 = some (.bool b) ∧ c 1 = some (.slice A n c0) ∧ c 2 = some (.slice C m d) ∧ c 3 = some (.bool b') ∧ c 4 = some (.slice A' n' c0') ∧ c 5 = some (.slice C' m' d')) ∧
 P (.agg #[.bool b, .slice A n c0, .slice C m d, .bool b', .slice A' n' c0', .slice C' m' d'])
theorem Spot6.mono {P P' : Value → Prop} {c c' : Nat → Option Value} (h : Spot6 P c) (hp : ∀ V, P V → P' V) (hc : ∀ i u, i < 6 → c i = some u → c' i = some u) : Spot6 P' c' := by
 obtain ⟨b, A, n, c0, C, m, d, b', A', n', c0', C', m', d', ⟨h0, h1, h2, h3, h4, h5⟩, hP⟩ := h
 exact ⟨b, A, n, c0, C, m, d, b', A', n', c0', C', m', d', ⟨hc _ _ (by omega) h0, hc _ _ (by omega) h1, hc _ _ (by omega) h2, hc _ _ (by omega) h3, hc _ _ (by omega) h4, hc _ _ (by omega) h5⟩, hp _ hP⟩
def RowP (P : World → Value → Rat → Rat → Prop) (w : World) (v : Value) (l : List (Rat × Rat)) : Prop :=
 ∃ A c, v = .slice A l.length c ∧ l.length ≤ c ∧ c ≤ 9223372036854775807 ∧
  (0 < l.length → ∃ b o, A = some ⟨b, o, none⟩ ∧ ∀ i p, l[i]? = some p → Spot6 (fun V => P w V p.1 p.2) (fun j => w.cell? ⟨b, o + (i * 6 + j), none⟩))
abbrev RowC := RowP SpotC
abbrev RowR (k : Nat) := RowP (fun w V x y => SpotR w V x y k)
theorem RowP.grew {P : World → Value → Rat → Rat → Prop} (hP : ∀ w w' V x y, P w V x y → Keeps w w' → P w' V x y) {w w' : World} {v : Value} {l : List (Rat × Rat)} (h : RowP P w v l) (g : Grew w w') : RowP P w' v l := by
 obtain ⟨A, c, hv, h1, h2, h3⟩ := h
 refine ⟨A, c, hv, h1, h2, fun hl => ?_⟩
 obtain ⟨b, o, hA, he⟩ := h3 hl
 exact ⟨b, o, hA, fun i p hp => (he i p hp).mono (fun V hV => hP _ _ _ _ _ hV g.keeps) (fun j u _ hu => g.cell hu)⟩
theorem RowC.grew {w w' : World} {v : Value} {l : List (Rat × Rat)} (h : RowC w v l) (g : Grew w w') : RowC w' v l := RowP.grew (P := SpotC) (fun _ _ _ _ _ h k => SpotC.kept h k) h g
theorem RowC.r {k : Nat} {w : World} {v : Value} {l : List (Rat × Rat)} (h : RowC w v l) (hq : ∀ p ∈ l, QB p.1 k ∧ QB p.2 k) : RowR k w v l := by
 obtain ⟨A, c, hv, h1, h2, h3⟩ := h
 refine ⟨A, c, hv, h1, h2, fun hl => ?_⟩
 obtain ⟨b, o, hA, he⟩ := h3 hl
 refine ⟨b, o, hA, fun i p hp => (he i p hp).mono (fun V hV => ?_) (fun j u _ hu => hu)⟩
 have := hq p (List.mem_of_getElem? hp)
 exact SpotC.r hV this.1 this.2
theorem RowP.nil (P : World → Value → Rat → Rat → Prop) (w : World) : RowP P w (.slice none 0 0) [] := ⟨none, 0, rfl, by simp, by omega, by simp⟩
def Flat (w : World) (xs : List Value) (l : List (Rat × Rat)) : Prop :=
 xs.length = l.length * 6 ∧ (∀ u ∈ xs, NoInt u) ∧ ∀ i p, l[i]? = some p → Spot6 (fun V => SpotC w V p.1 p.2) (fun j => xs[i * 6 + j]?)
theorem Flat.nil (w : World) : Flat w [] [] := ⟨rfl, by simp, by simp⟩
theorem Flat.kept {w w' : World} {xs : List Value} {l : List (Rat × Rat)} (h : Flat w xs l) (k : Keeps w w') : Flat w' xs l :=
 ⟨h.1, h.2.1, fun i p hp => (h.2.2 i p hp).mono (fun _ hV => SpotC.kept hV k) (fun _ _ _ hu => hu)⟩
theorem Flat.snoc {w : World} {xs : List Value} {l : List (Rat × Rat)} (h : Flat w xs l) {b b' : Bool} {A C A' C' : Option Addr} {n c m d n' c' m' d' : Nat} {x y : Rat}
  (hV : SpotC w (.agg #[.bool b, .slice A n c, .slice C m d, .bool b', .slice A' n' c', .slice C' m' d']) x y) :
  Flat w (xs ++ #[.bool b, .slice A n c, .slice C m d, .bool b', .slice A' n' c', .slice C' m' d'].toList) (l ++ [(x, y)]) := by
 obtain ⟨h1, h2, h3⟩ := h
 refine ⟨by simp [h1]; omega, ?_, ?_⟩
 ·intro u hu
  simp only [List.mem_append] at hu
  rcases hu with hu | hu
  ·exact h2 u hu
  ·simp at hu
   rcases hu with rfl | rfl | rfl | rfl | rfl | rfl <;> intro k x e <;> simp at e
 ·intro i p hp
  by_cases hi : i < l.length
  ·rw [List.getElem?_append_left hi] at hp
   refine (h3 i p hp).mono (fun _ h => h) (fun j u hj hu => ?_)
   rw [List.getElem?_append_left (by rw [h1]; omega)]
   exact hu
  ·have hi2 : i = l.length := by
    have := (List.getElem?_eq_some_iff.1 hp).1
    simp at this; omega
   subst hi2
   have hp2 : p = (x, y) := by simpa using hp.symm
   subst hp2
   have e : ∀ j, (xs ++ #[.bool b, .slice A n c, .slice C m d, .bool b', .slice A' n' c', .slice C' m' d'].toList)[l.length * 6 + j]? = [.bool b, .slice A n c, .slice C m d, .bool b', .slice A' n' c', .slice C' m' d'][j]? := by
    intro j
    rw [List.getElem?_append_right (by omega), show l.length * 6 + j - xs.length = j by omega]
   exact ⟨b, A, n, c, C, m, d, b', A', n', c', C', m', d', ⟨(e 0).trans rfl, (e 1).trans rfl, (e 2).trans rfl, (e 3).trans rfl, (e 4).trans rfl, (e 5).trans rfl⟩, hV⟩
def OwnC (e : TypeId) (w : World) (base : Nat) (v : Value) (l : List (Rat × Rat)) : Prop := ∃ xs, OwnS w base e 6 v l.length xs ∧ Flat w xs l
theorem OwnC.nil (e : TypeId) (w : World) (base : Nat) : OwnC e w base (.slice none 0 0) [] := ⟨[], OwnS.nil _ _ _ _, Flat.nil w⟩
theorem OwnC.row {e : TypeId} {w : World} {base : Nat} {v : Value} {l : List (Rat × Rat)} (h : OwnC e w base v l) : RowC w v l := by
 obtain ⟨xs, ⟨⟨hx, ho⟩, -⟩, hF⟩ := h
 rcases ho with ⟨rfl, h0⟩ | ⟨g, cap, cur, rfl, hbg, hg, hnc, hcm, hcs, htake⟩
 ·have : l = [] := List.eq_nil_of_length_eq_zero h0
  subst this
  exact RowP.nil _ _
 ·refine ⟨_, cap, rfl, hnc, by unfold maxLen at hcm; omega, fun hl => ⟨g, 0, rfl, fun i p hp => (hF.2.2 i p hp).mono (fun _ h => h) (fun j u hj hu => ?_)⟩⟩
  have hi := (List.getElem?_eq_some_iff.1 hp).1
  rw [Nat.zero_add, cell_of_row w g _ cur e (0, 0) hg]
  rw [← htake, List.getElem?_take] at hu
  split at hu
  ·simpa using hu
  ·simp at hu
theorem OwnC.grew {e : TypeId} {w w' : World} {base : Nat} {v : Value} {l : List (Rat × Rat)} (h : OwnC e w base v l) (g : Grew w w') : OwnC e w' base v l := by
 obtain ⟨xs, ⟨ho, hn⟩, hF⟩ := h
 have hb : ∀ k, v.ownBlock = some k → w'.heap[k]? = w.heap[k]? := fun k hk => g.below.block k (ho.lt k hk).2
 refine ⟨xs, ⟨⟨ho.1, ?_⟩, ?_⟩, hF.kept g.keeps⟩
 ·rcases ho.2 with h | ⟨gb, cap, cur, rfl, hbg, hg, h⟩
  ·exact .inl h
  ·exact .inr ⟨gb, cap, cur, rfl, hbg, (hb gb rfl).trans hg, h⟩
 ·intro gb hgb p u hu
  rw [World.cell?_of_block (w := w) (hb gb hgb)] at hu
  exact hn gb hgb p u hu
theorem OwnC.low {e : TypeId} {w : World} {base base' : Nat} {v : Value} {l : List (Rat × Rat)} (h : OwnC e w base v l) (hb : base' ≤ base) : OwnC e w base' v l := by
 obtain ⟨xs, ⟨⟨hx, ho⟩, hn⟩, hF⟩ := h
 refine ⟨xs, ⟨⟨hx, ?_⟩, hn⟩, hF⟩
 rcases ho with h | ⟨gb, cap, cur, rfl, hbg, h⟩
 ·exact .inl h
 ·exact .inr ⟨gb, cap, cur, rfl, Nat.le_trans hb hbg, h⟩
theorem OwnC.made (e : TypeId) (w : World) (base cap : Nat) (hb : base ≤ w.heap.size) (hm : cap ≤ maxLen) (z : Array Value) (hz : ∀ u ∈ z, NoInt u) (hs : z.size = cap * 6) :
  OwnC e (w.alloc (.cells z e)) base (.slice (some ⟨w.heap.size, 0, none⟩) 0 cap) [] := by
 refine ⟨[], ⟨World.ownsRow_made w z cap hb hm hs, ?_⟩, Flat.nil _⟩
 intro g hg p u hu
 simp only [Value.ownBlock, Option.some.injEq] at hg
 subst hg
 rw [cell_of_row _ w.heap.size p z e (0, 0) (heap_alloc_new w _)] at hu
 exact hz u (Array.mem_of_getElem? hu)
def insStep (p : Rat × Rat) (s : List (Rat × Rat) × Bool) (o : Rat × Rat) : List (Rat × Rat) × Bool :=
 (s.1 ++ (if spotCmp p.1 p.2 o.1 o.2 < 0 ∧ s.2 = false then [p] else []) ++ [o], s.2 || decide (spotCmp p.1 p.2 o.1 o.2 ≤ 0))
def insAll (p : Rat × Rat) (out : List (Rat × Rat)) : List (Rat × Rat) := let s := out.foldl (insStep p) ([], false); if s.2 then s.1 else s.1 ++ [p]
def rowQ (l : List (Rat × Rat)) : List (Rat × Rat) := l.foldl (fun out p => insAll p out) []
theorem rowQ_succ (l : List (Rat × Rat)) (j : Nat) (p : Rat × Rat) (h : l[j]? = some p) : rowQ (l.take (j + 1)) = insAll p (rowQ (l.take j)) := by
 unfold rowQ
 rw [List.take_add_one, h, Option.toList_some, List.foldl_append]; rfl
theorem info_spot : (Tryz.prog.info? 35).map (fun i => (i.zero, i.size, i.bytes)) = some (some (.agg #[.bool false, .slice none 0 0, .slice none 0 0, .bool false, .slice none 0 0, .slice none 0 0]), 6, 112) := by kernel_rfl
theorem zero_spot : ∀ u ∈ (Value.agg #[.bool false, .slice none 0 0, .slice none 0 0, .bool false, .slice none 0 0, .slice none 0 0]).cells, NoInt u := by
 intro u hu k x e
 subst e
 simp [Value.cells] at hu
theorem noint6 (b b' : Bool) (A C A' C' : Option Addr) (n c m d n' c' m' d' : Nat) : ∀ u ∈ #[Value.bool b, .slice A n c, .slice C m d, .bool b', .slice A' n' c', .slice C' m' d'].toList, NoInt u := by
 intro u hu
 simp at hu
 rcases hu with rfl | rfl | rfl | rfl | rfl | rfl <;> intro k x e <;> simp at e
theorem one6 (b b' : Bool) (A C A' C' : Option Addr) (n c m d n' c' m' d' : Nat) : ∀ u ∈ #[Value.bool b, .slice A n c, .slice C m d, .bool b', .slice A' n' c', .slice C' m' d'].toList, u.oneCell' = true := by
 intro u hu
 simp at hu
 rcases hu with rfl | rfl | rfl | rfl | rfl | rfl <;> rfl
theorem insStep_fold_mem (p : Rat × Rat) : ∀ (os : List (Rat × Rat)) (s : List (Rat × Rat) × Bool) (q : Rat × Rat), q ∈ (os.foldl (insStep p) s).1 → q = p ∨ q ∈ os ∨ q ∈ s.1
 | [], s, q, h => .inr (.inr h)
 | o :: os, s, q, h => by
  rcases insStep_fold_mem p os (insStep p s o) q h with h | h | h
  ·exact .inl h
  ·exact .inr (.inl (List.mem_cons_of_mem _ h))
  ·unfold insStep at h
   simp only [List.mem_append, List.mem_singleton] at h
   rcases h with (h | h) | h
   ·exact .inr (.inr h)
   ·split at h
    ·exact .inl (by simpa using h)
    ·simp at h
   ·exact .inr (.inl (by rw [h]; exact List.mem_cons_self))
theorem insAll_mem {p q : Rat × Rat} {os : List (Rat × Rat)} (h : q ∈ insAll p os) : q = p ∨ q ∈ os := by
 unfold insAll at h
 simp only at h
 split at h
 ·rcases insStep_fold_mem p os ([], false) q h with h | h | h
  ·exact .inl h
  ·exact .inr h
  ·simp at h
 ·simp only [List.mem_append, List.mem_singleton] at h
  rcases h with h | h
  ·rcases insStep_fold_mem p os ([], false) q h with h | h | h
   ·exact .inl h
   ·exact .inr h
   ·simp at h
  ·exact .inl h
theorem rowQ_fold_mem : ∀ (l : List (Rat × Rat)) (s : List (Rat × Rat)) (q : Rat × Rat), q ∈ l.foldl (fun out p => insAll p out) s → q ∈ l ∨ q ∈ s
 | [], s, q, h => .inr h
 | p :: l, s, q, h => by
  rcases rowQ_fold_mem l (insAll p s) q h with h | h
  ·exact .inl (List.mem_cons_of_mem _ h)
  ·rcases insAll_mem h with h | h
   ·exact .inl (by rw [h]; exact List.mem_cons_self)
   ·exact .inr h
theorem rowQ_mem {l : List (Rat × Rat)} {q : Rat × Rat} (h : q ∈ rowQ l) : q ∈ l := by
 rcases rowQ_fold_mem l [] q h with h | h
 ·exact h
 ·simp at h
theorem insStep_len (p : Rat × Rat) (s : List (Rat × Rat) × Bool) (o : Rat × Rat) (c : Nat) (h : s.1.length + (if s.2 = true then 0 else 1) ≤ c) : (insStep p s o).1.length + (if (insStep p s o).2 = true then 0 else 1) ≤ c + 1 := by
 unfold insStep
 obtain ⟨a, b⟩ := s
 by_cases h0 : spotCmp p.1 p.2 o.1 o.2 < 0
 ·have h1 : spotCmp p.1 p.2 o.1 o.2 ≤ 0 := by omega
  cases b <;> simp [h0, h1] at * <;> omega
 ·by_cases h1 : spotCmp p.1 p.2 o.1 o.2 ≤ 0 <;> cases b <;> simp [h0, h1] at * <;> omega
theorem insStep_fold_len (p : Rat × Rat) : ∀ (os : List (Rat × Rat)) (s : List (Rat × Rat) × Bool) (c : Nat), s.1.length + (if s.2 = true then 0 else 1) ≤ c → (os.foldl (insStep p) s).1.length + (if (os.foldl (insStep p) s).2 = true then 0 else 1) ≤ c + os.length
 | [], s, c, h => h
 | o :: os, s, c, h => by
  have := insStep_fold_len p os (insStep p s o) (c + 1) (insStep_len p s o c h)
  rw [List.foldl_cons, List.length_cons]
  exact Nat.le_trans this (by omega)
theorem insAll_len (p : Rat × Rat) (os : List (Rat × Rat)) : (insAll p os).length ≤ os.length + 1 := by
 have h := insStep_fold_len p os ([], false) 1 (by simp)
 unfold insAll
 simp only
 split
 ·next e => rw [e] at h; simp at h; omega
 ·next e => simp; simp [e] at h; omega
theorem rowQ_fold_len : ∀ (l : List (Rat × Rat)) (s : List (Rat × Rat)), (l.foldl (fun out p => insAll p out) s).length ≤ s.length + l.length
 | [], s => by simp
 | p :: l, s => by
  have h1 := rowQ_fold_len l (insAll p s)
  have h2 := insAll_len p s
  simp only [List.foldl_cons, List.length_cons]
  omega
theorem rowQ_len (l : List (Rat × Rat)) : (rowQ l).length ≤ l.length := by
 have := rowQ_fold_len l []
 simpa [rowQ] using this
theorem insAll_fold (p : Rat × Rat) (out : List (Rat × Rat)) (a : List (Rat × Rat)) (b : Bool) (h : out.foldl (insStep p) ([], false) = (a, b)) : insAll p out = if b = true then a else a ++ [p] := by
 unfold insAll; rw [h]
theorem fold_take_succ (p : Rat × Rat) (out : List (Rat × Rat)) (m : Nat) (q : Rat × Rat) (h : out[m]? = some q) (s : List (Rat × Rat) × Bool) :
  (out.take (m + 1)).foldl (insStep p) s = insStep p ((out.take m).foldl (insStep p) s) q := by
 rw [List.take_add_one, h, Option.toList_some, List.foldl_append]; rfl
theorem insStep_lt {p q : Rat × Rat} (a : List (Rat × Rat)) (h : spotCmp p.1 p.2 q.1 q.2 < 0) : insStep p (a, false) q = (a ++ [p] ++ [q], true) := by
 unfold insStep
 have h1 : spotCmp p.1 p.2 q.1 q.2 ≤ 0 := by omega
 simp [h, h1]
theorem insStep_in {p q : Rat × Rat} (a : List (Rat × Rat)) : insStep p (a, true) q = (a ++ [q], true) := by
 unfold insStep; simp
theorem insStep_eq {p q : Rat × Rat} (a : List (Rat × Rat)) (b : Bool) (h : spotCmp p.1 p.2 q.1 q.2 = 0) : insStep p (a, b) q = (a ++ [q], true) := by
 unfold insStep
 simp [h]
theorem insStep_gt {p q : Rat × Rat} (a : List (Rat × Rat)) (b : Bool) (h : 0 < spotCmp p.1 p.2 q.1 q.2) : insStep p (a, b) q = (a ++ [q], b) := by
 unfold insStep
 have h1 : ¬ spotCmp p.1 p.2 q.1 q.2 < 0 := by omega
 have h2 : ¬ spotCmp p.1 p.2 q.1 q.2 ≤ 0 := by omega
 simp [h1, h2]
theorem OwnC.snoc {e : TypeId} {w w' : World} {base : Nat} {v' : Value} {l : List (Rat × Rat)} {p : Rat × Rat} {xs : List Value} {b b' : Bool} {A C A' C' : Option Addr} {n c m d n' c' m' d' : Nat}
  (h : OwnS w' base e 6 v' (l.length + 1) (xs ++ #[.bool b, .slice A n c, .slice C m d, .bool b', .slice A' n' c', .slice C' m' d'].toList)) (hF : Flat w xs l)
  (hV : SpotC w (.agg #[.bool b, .slice A n c, .slice C m d, .bool b', .slice A' n' c', .slice C' m' d']) p.1 p.2) (k : Keeps w w') : OwnC e w' base v' (l ++ [p]) :=
 ⟨_, by rw [List.length_append]; exact h, (hF.kept k).snoc (SpotC.kept hV k)⟩
theorem cmpQ_zero {a b : Rat} : cmpQ a b = 0 ↔ a = b := by
 unfold cmpQ
 constructor
 ·intro h
  split at h
  ·omega
  ·split at h
   ·omega
   ·grind
 ·intro h
  subst h
  rw [if_neg (by grind), if_neg (by grind)]
def insRec (p : Rat × Rat) : List (Rat × Rat) → List (Rat × Rat)
 | [] => [p]
 | o :: os => if spotCmp p.1 p.2 o.1 o.2 < 0 then p :: o :: os else if spotCmp p.1 p.2 o.1 o.2 = 0 then o :: os else o :: insRec p os
theorem fold_in (p : Rat × Rat) : ∀ (os a : List (Rat × Rat)), os.foldl (insStep p) (a, true) = (a ++ os, true)
 | [], a => by simp
 | o :: os, a => by rw [List.foldl_cons, insStep_in, fold_in p os]; simp
theorem fold_out (p : Rat × Rat) : ∀ (os a : List (Rat × Rat)), ∃ u b, os.foldl (insStep p) (a, false) = (u, b) ∧ (if b = true then u else u ++ [p]) = a ++ insRec p os
 | [], a => ⟨a, false, rfl, by simp [insRec]⟩
 | o :: os, a => by
  have e : (o :: os).foldl (insStep p) (a, false) = os.foldl (insStep p) (insStep p (a, false) o) := rfl
  rw [e]
  rcases Int.lt_trichotomy (spotCmp p.1 p.2 o.1 o.2) 0 with h | h | h
  ·rw [insStep_lt a h, fold_in]
   exact ⟨_, _, rfl, by simp [insRec, h]⟩
  ·rw [insStep_eq a false h, fold_in]
   exact ⟨_, _, rfl, by simp [insRec, h]⟩
  ·rw [insStep_gt a false h]
   obtain ⟨u, b, h3, h4⟩ := fold_out p os (a ++ [o])
   have h1 : ¬ spotCmp p.1 p.2 o.1 o.2 < 0 := by omega
   have h2 : ¬ spotCmp p.1 p.2 o.1 o.2 = 0 := by omega
   exact ⟨u, b, h3, by rw [h4]; simp [insRec, h1, h2]⟩
theorem insAll_rec (p : Rat × Rat) (os : List (Rat × Rat)) : insAll p os = insRec p os := by
 obtain ⟨u, b, h3, h4⟩ := fold_out p os []
 rw [insAll_fold p os u b h3, h4]; rfl
theorem spotCmp_zero {p q : Rat × Rat} : spotCmp p.1 p.2 q.1 q.2 = 0 ↔ p = q := by
 unfold spotCmp
 constructor
 ·intro h
  split at h
  ·next e => exact Prod.ext (cmpQ_zero.1 e) (cmpQ_zero.1 h)
  ·next e => exact absurd h e
 ·rintro rfl
  rw [if_pos (cmpQ_zero.2 rfl)]; exact cmpQ_zero.2 rfl
def spotLt (p q : Rat × Rat) : Prop := p.1 < q.1 ∨ (p.1 = q.1 ∧ p.2 < q.2)
theorem cmpQ_neg {a b : Rat} : cmpQ a b < 0 ↔ a < b := by
 unfold cmpQ
 constructor
 ·intro h
  split at h
  ·assumption
  ·split at h <;> omega
 ·intro h; rw [if_pos h]; omega
theorem spotCmp_neg {p q : Rat × Rat} : spotCmp p.1 p.2 q.1 q.2 < 0 ↔ spotLt p q := by
 unfold spotCmp spotLt
 by_cases h : p.1 = q.1
 ·rw [if_pos (cmpQ_zero.2 h), cmpQ_neg]
  constructor
  ·intro g; exact .inr ⟨h, g⟩
  ·intro g; rcases g with g | g
   ·exact absurd h (by grind)
   ·exact g.2
 ·rw [if_neg (fun e => h (cmpQ_zero.1 e)), cmpQ_neg]
  constructor
  ·intro g; exact .inl g
  ·intro g; rcases g with g | g
   ·exact g
   ·exact absurd g.1 h
theorem spotLt_trans {p q r : Rat × Rat} (h : spotLt p q) (k : spotLt q r) : spotLt p r := by
 unfold spotLt at *; grind
theorem spotLt_tri (p q : Rat × Rat) : spotLt p q ∨ p = q ∨ spotLt q p := by
 unfold spotLt
 by_cases h : p.1 = q.1
 ·by_cases k : p.2 = q.2
  ·exact .inr (.inl (Prod.ext h k))
  ·grind
 ·grind
theorem insRec_mem {p q : Rat × Rat} : ∀ {os : List (Rat × Rat)}, q ∈ insRec p os ↔ q = p ∨ q ∈ os
 | [] => by simp [insRec]
 | o :: os => by
  unfold insRec
  by_cases h : spotCmp p.1 p.2 o.1 o.2 < 0
  ·rw [if_pos h]; simp
  ·rw [if_neg h]
   by_cases k : spotCmp p.1 p.2 o.1 o.2 = 0
   ·rw [if_pos k]
    have := spotCmp_zero.1 k
    subst this
    simp
   ·rw [if_neg k, List.mem_cons, insRec_mem]
    simp only [List.mem_cons]
    constructor
    ·rintro (h | h | h) <;> simp [h]
    ·rintro (h | h | h) <;> simp [h]
theorem insRec_sorted {p : Rat × Rat} : ∀ {os : List (Rat × Rat)}, os.Pairwise spotLt → (insRec p os).Pairwise spotLt
 | [], _ => by simp [insRec]
 | o :: os, hs => by
  obtain ⟨h1, h2⟩ := List.pairwise_cons.1 hs
  unfold insRec
  by_cases h : spotCmp p.1 p.2 o.1 o.2 < 0
  ·rw [if_pos h]
   have hl := spotCmp_neg.1 h
   refine List.pairwise_cons.2 ⟨fun q hq => ?_, hs⟩
   rcases List.mem_cons.1 hq with rfl | hq
   ·exact hl
   ·exact spotLt_trans hl (h1 q hq)
  ·rw [if_neg h]
   by_cases k : spotCmp p.1 p.2 o.1 o.2 = 0
   ·rw [if_pos k]; exact hs
   ·rw [if_neg k]
    refine List.pairwise_cons.2 ⟨fun q hq => ?_, insRec_sorted h2⟩
    rcases insRec_mem.1 hq with rfl | hq
    ·rcases spotLt_tri o q with g | g | g
     ·exact g
     ·exact absurd (spotCmp_zero.2 g.symm) k
     ·exact absurd (spotCmp_neg.2 g) h
    ·exact h1 q hq
theorem rowQ_fold (l : List (Rat × Rat)) : ∀ (s : List (Rat × Rat)), s.Pairwise spotLt → (l.foldl (fun out p => insAll p out) s).Pairwise spotLt ∧ ∀ q, q ∈ l.foldl (fun out p => insAll p out) s ↔ q ∈ l ∨ q ∈ s := by
 induction l with
 | nil => intro s hs; exact ⟨hs, fun q => by simp⟩
 | cons p l ih =>
  intro s hs
  have h1 := ih (insAll p s) (by rw [insAll_rec]; exact insRec_sorted hs)
  refine ⟨h1.1, fun q => ?_⟩
  rw [List.foldl_cons, h1.2 q, insAll_rec, insRec_mem, List.mem_cons]
  constructor
  ·rintro (h | h | h) <;> simp [h]
  ·rintro ((h | h) | h) <;> simp [h]
theorem rowQ_sorted (l : List (Rat × Rat)) : (rowQ l).Pairwise spotLt := (rowQ_fold l [] List.Pairwise.nil).1
theorem mem_rowQ {l : List (Rat × Rat)} {q : Rat × Rat} : q ∈ rowQ l ↔ q ∈ l := by
 have := (rowQ_fold l [] List.Pairwise.nil).2 q
 simpa [rowQ] using this
theorem spotLt_irr {p q : Rat × Rat} (h : spotLt p q) (k : spotLt q p) : False := by
 unfold spotLt at *; grind
theorem sorted_ext : ∀ {R T : List (Rat × Rat)}, R.Pairwise spotLt → T.Pairwise spotLt → (∀ q, q ∈ R ↔ q ∈ T) → R = T
 | [], [], _, _, _ => rfl
 | [], t :: T, _, _, h => absurd ((h t).2 List.mem_cons_self) (by simp)
 | r :: R, [], _, _, h => absurd ((h r).1 List.mem_cons_self) (by simp)
 | r :: R, t :: T, hr, ht, h => by
  have e : r = t := by
   have h1 := (h r).1 List.mem_cons_self
   have h2 := (h t).2 List.mem_cons_self
   rw [List.mem_cons] at h1 h2
   rcases h1 with h1 | h1
   ·exact h1
   ·rcases h2 with h2 | h2
    ·exact h2.symm
    ·exact absurd (spotLt_irr (List.rel_of_pairwise_cons ht h1) (List.rel_of_pairwise_cons hr h2)) id
  subst e
  have n1 : r ∉ R := fun k => spotLt_irr (List.rel_of_pairwise_cons hr k) (List.rel_of_pairwise_cons hr k)
  have n2 : r ∉ T := fun k => spotLt_irr (List.rel_of_pairwise_cons ht k) (List.rel_of_pairwise_cons ht k)
  have hq : ∀ q, q ∈ R ↔ q ∈ T := fun q => by
   have := h q
   rw [List.mem_cons, List.mem_cons] at this
   constructor
   ·intro k
    rcases this.1 (.inr k) with e | e
    ·rw [e] at k; exact absurd k n1
    ·exact e
   ·intro k
    rcases this.2 (.inr k) with e | e
    ·rw [e] at k; exact absurd k n2
    ·exact e
  rw [sorted_ext (List.Pairwise.of_cons hr) (List.Pairwise.of_cons ht) hq]
theorem rowQ_ext {l m : List (Rat × Rat)} (h : ∀ q, q ∈ l ↔ q ∈ m) : rowQ l = rowQ m :=
 sorted_ext (rowQ_sorted l) (rowQ_sorted m) fun q => by rw [mem_rowQ, mem_rowQ]; exact h q
end Go.Proofs.YtmommicmblfibaaGreat
