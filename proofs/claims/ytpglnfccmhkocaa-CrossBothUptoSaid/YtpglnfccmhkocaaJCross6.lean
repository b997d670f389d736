/- Rows of spots: as they come in, and as a call owns them. Conditions: none. Words for cross.common. Conditions: none. cross.common. Condition: points of the grid. cross.Meet. Condition: ints of 64 bits. -/
import Derived.Test.YtpglnfccmhkocaaJRow1
import Derived.Test.YtpglnfccmhkocaaJR2a
namespace Go.Proofs.Ytpglnfccmhkocaa
open Go.RowKit

/-- Six cells that hold a spot of which P says something. -/
def Spot6 (P : Value → Prop) (c : Nat → Option Value) : Prop := ∃ b A n c0 C m d b' A' n' c0' C' m' d',
  (c 0 = some (.bool b) ∧ c 1 = some (.slice A n c0) ∧ c 2 = some (.slice C m d) ∧ c 3 = some (.bool b') ∧ c 4 = some (.slice A' n' c0') ∧ c 5 = some (.slice C' m' d')) ∧
  P (.agg #[.bool b, .slice A n c0, .slice C m d, .bool b', .slice A' n' c0', .slice C' m' d'])
theorem Spot6.mono {P P' : Value → Prop} {c c' : Nat → Option Value} (h : Spot6 P c) (hp : ∀ V, P V → P' V) (hc : ∀ i u, i < 6 → c i = some u → c' i = some u) : Spot6 P' c' := by
  obtain ⟨b, A, n, c0, C, m, d, b', A', n', c0', C', m', d', ⟨h0, h1, h2, h3, h4, h5⟩, hP⟩ := h
  exact ⟨b, A, n, c0, C, m, d, b', A', n', c0', C', m', d', ⟨hc _ _ (by omega) h0, hc _ _ (by omega) h1, hc _ _ (by omega) h2, hc _ _ (by omega) h3, hc _ _ (by omega) h4, hc _ _ (by omega) h5⟩, hp _ hP⟩

/-- A slice of spots, as it reads: P says something of each. -/
def RowP (P : World → Value → Rat → Rat → Prop) (w : World) (v : Value) (l : List (Rat × Rat)) : Prop :=
  ∃ A c, v = .slice A l.length c ∧ l.length ≤ c ∧ c ≤ 9223372036854775807 ∧
    (0 < l.length → ∃ b o, A = some ⟨b, o, none⟩ ∧ ∀ i p, l[i]? = some p → Spot6 (fun V => P w V p.1 p.2) (fun j => w.cell? ⟨b, o + (i * 6 + j), none⟩))
abbrev RowC := RowP SpotC
abbrev RowR (k : Nat) := RowP (fun w V x y => SpotR w V x y k)
theorem RowP.grew {P : World → Value → Rat → Rat → Prop} (hP : ∀ w w' V x y, P w V x y → Keeps w w' → P w' V x y) {w w' : World} {v : Value} {l : List (Rat × Rat)} (h : RowP P w v l) (g : Grew w w') : RowP P w' v l := by
  obtain ⟨A, c, hv, h1, h2, h3⟩ := h
  refine ⟨A, c, hv, h1, h2, fun hl => ?_⟩
  obtain ⟨b, o, hA, he⟩ := h3 hl
  exact ⟨b, o, hA, fun i p hp => (he i p hp).mono (fun V hV => hP _ _ _ _ _ hV g.keeps) (fun j u _ hu => g.cell hu)⟩
theorem RowC.grew {w w' : World} {v : Value} {l : List (Rat × Rat)} (h : RowC w v l) (g : Grew w w') : RowC w' v l := RowP.grew (P := SpotC) (fun _ _ _ _ _ h k => SpotC.kept h k) h g
theorem RowR.grew {k : Nat} {w w' : World} {v : Value} {l : List (Rat × Rat)} (h : RowR k w v l) (g : Grew w w') : RowR k w' v l := RowP.grew (P := fun w V x y => SpotR w V x y k) (fun _ _ _ _ _ h k => SpotR.kept h k) h g
theorem RowC.r {k : Nat} {w : World} {v : Value} {l : List (Rat × Rat)} (h : RowC w v l) (hq : ∀ p ∈ l, QB p.1 k ∧ QB p.2 k) : RowR k w v l := by
  obtain ⟨A, c, hv, h1, h2, h3⟩ := h
  refine ⟨A, c, hv, h1, h2, fun hl => ?_⟩
  obtain ⟨b, o, hA, he⟩ := h3 hl
  refine ⟨b, o, hA, fun i p hp => (he i p hp).mono (fun V hV => ?_) (fun j u _ hu => hu)⟩
  have := hq p (List.mem_of_getElem? hp)
  exact SpotC.r hV this.1 this.2
theorem RowP.nil (P : World → Value → Rat → Rat → Prop) (w : World) : RowP P w (.slice none 0 0) [] := ⟨none, 0, rfl, by simp, by omega, by simp⟩

/-- Cells in a row that are spots, reduced. -/
def Flat (w : World) (xs : List Value) (l : List (Rat × Rat)) : Prop :=
  xs.length = l.length * 6 ∧ (∀ u ∈ xs, NoInt u) ∧ ∀ i p, l[i]? = some p → Spot6 (fun V => SpotC w V p.1 p.2) (fun j => xs[i * 6 + j]?)
theorem Flat.nil (w : World) : Flat w [] [] := ⟨rfl, by simp, by simp⟩
theorem Flat.kept {w w' : World} {xs : List Value} {l : List (Rat × Rat)} (h : Flat w xs l) (k : Keeps w w') : Flat w' xs l :=
  ⟨h.1, h.2.1, fun i p hp => (h.2.2 i p hp).mono (fun _ hV => SpotC.kept hV k) (fun _ _ _ hu => hu)⟩
theorem Flat.snoc {w : World} {xs : List Value} {l : List (Rat × Rat)} (h : Flat w xs l) {b b' : Bool} {A C A' C' : Option Addr} {n c m d n' c' m' d' : Nat} {x y : Rat}
    (hV : SpotC w (.agg #[.bool b, .slice A n c, .slice C m d, .bool b', .slice A' n' c', .slice C' m' d']) x y) :
    Flat w (xs ++ #[.bool b, .slice A n c, .slice C m d, .bool b', .slice A' n' c', .slice C' m' d'].toList) (l ++ [(x, y)]) := by
  obtain ⟨h1, h2, h3⟩ := h
  refine ⟨by simp [h1]; omega, ?_, ?_⟩
  · intro u hu
    simp only [List.mem_append] at hu
    rcases hu with hu | hu
    · exact h2 u hu
    · simp at hu
      rcases hu with rfl | rfl | rfl | rfl | rfl | rfl <;> intro k x e <;> simp at e
  · intro i p hp
    by_cases hi : i < l.length
    · rw [List.getElem?_append_left hi] at hp
      refine (h3 i p hp).mono (fun _ h => h) (fun j u hj hu => ?_)
      rw [List.getElem?_append_left (by rw [h1]; omega)]
      exact hu
    · have hi2 : i = l.length := by
        have := (List.getElem?_eq_some_iff.1 hp).1
        simp at this; omega
      subst hi2
      have hp2 : p = (x, y) := by simpa using hp.symm
      subst hp2
      have e : ∀ j, (xs ++ #[.bool b, .slice A n c, .slice C m d, .bool b', .slice A' n' c', .slice C' m' d'].toList)[l.length * 6 + j]? = [.bool b, .slice A n c, .slice C m d, .bool b', .slice A' n' c', .slice C' m' d'][j]? := by
        intro j
        rw [List.getElem?_append_right (by omega), show l.length * 6 + j - xs.length = j by omega]
      exact ⟨b, A, n, c, C, m, d, b', A', n', c', C', m', d', ⟨(e 0).trans rfl, (e 1).trans rfl, (e 2).trans rfl, (e 3).trans rfl, (e 4).trans rfl, (e 5).trans rfl⟩, hV⟩

/-- A row of spots that a call owns. -/
def OwnC (e : TypeId) (w : World) (base : Nat) (v : Value) (l : List (Rat × Rat)) : Prop := ∃ xs, OwnS w base e 6 v l.length xs ∧ Flat w xs l
theorem OwnC.nil (e : TypeId) (w : World) (base : Nat) : OwnC e w base (.slice none 0 0) [] := ⟨[], OwnS.nil _ _ _ _, Flat.nil w⟩
theorem OwnC.row {e : TypeId} {w : World} {base : Nat} {v : Value} {l : List (Rat × Rat)} (h : OwnC e w base v l) : RowC w v l := by
  obtain ⟨xs, ⟨⟨hx, ho⟩, -⟩, hF⟩ := h
  rcases ho with ⟨rfl, h0⟩ | ⟨g, cap, cur, rfl, hbg, hg, hnc, hcm, hcs, htake⟩
  · have : l = [] := List.eq_nil_of_length_eq_zero h0
    subst this
    exact RowP.nil _ _
  · refine ⟨_, cap, rfl, hnc, by unfold maxLen at hcm; omega, fun hl => ⟨g, 0, rfl, fun i p hp => (hF.2.2 i p hp).mono (fun _ h => h) (fun j u hj hu => ?_)⟩⟩
    have hi := (List.getElem?_eq_some_iff.1 hp).1
    rw [Nat.zero_add, cell_of_row w g _ cur e (0, 0) hg]
    rw [← htake, List.getElem?_take] at hu
    split at hu
    · simpa using hu
    · simp at hu
theorem OwnC.grew {e : TypeId} {w w' : World} {base : Nat} {v : Value} {l : List (Rat × Rat)} (h : OwnC e w base v l) (g : Grew w w') : OwnC e w' base v l := by
  obtain ⟨xs, ⟨ho, hn⟩, hF⟩ := h
  have hb : ∀ k, v.ownBlock = some k → w'.heap[k]? = w.heap[k]? := fun k hk => g.below.block k (ho.lt k hk).2
  refine ⟨xs, ⟨⟨ho.1, ?_⟩, ?_⟩, hF.kept g.keeps⟩
  · rcases ho.2 with h | ⟨gb, cap, cur, rfl, hbg, hg, h⟩
    · exact .inl h
    · exact .inr ⟨gb, cap, cur, rfl, hbg, (hb gb rfl).trans hg, h⟩
  · intro gb hgb p u hu
    rw [World.cell?_of_block (w := w) (hb gb hgb)] at hu
    exact hn gb hgb p u hu
theorem OwnC.low {e : TypeId} {w : World} {base base' : Nat} {v : Value} {l : List (Rat × Rat)} (h : OwnC e w base v l) (hb : base' ≤ base) : OwnC e w base' v l := by
  obtain ⟨xs, ⟨⟨hx, ho⟩, hn⟩, hF⟩ := h
  refine ⟨xs, ⟨⟨hx, ?_⟩, hn⟩, hF⟩
  rcases ho with h | ⟨gb, cap, cur, rfl, hbg, h⟩
  · exact .inl h
  · exact .inr ⟨gb, cap, cur, rfl, Nat.le_trans hb hbg, h⟩
theorem OwnC.made (e : TypeId) (w : World) (base cap : Nat) (hb : base ≤ w.heap.size) (hm : cap ≤ maxLen) (z : Array Value) (hz : ∀ u ∈ z, NoInt u) (hs : z.size = cap * 6) :
    OwnC e (w.alloc (.cells z e)) base (.slice (some ⟨w.heap.size, 0, none⟩) 0 cap) [] := by
  refine ⟨[], ⟨World.ownsRow_made w z cap hb hm hs, ?_⟩, Flat.nil _⟩
  intro g hg p u hu
  simp only [Value.ownBlock, Option.some.injEq] at hg
  subst hg
  rw [cell_of_row _ w.heap.size p z e (0, 0) (heap_alloc_new w _)] at hu
  exact hz u (Array.mem_of_getElem? hu)

/-- One more spot in a row: how the document goes through it. -/
def insStep (p : Rat × Rat) (s : List (Rat × Rat) × Bool) (o : Rat × Rat) : List (Rat × Rat) × Bool :=
  (s.1 ++ (if spotCmp p.1 p.2 o.1 o.2 < 0 ∧ s.2 = false then [p] else []) ++ [o], s.2 || decide (spotCmp p.1 p.2 o.1 o.2 ≤ 0))
def insAll (p : Rat × Rat) (out : List (Rat × Rat)) : List (Rat × Rat) := let s := out.foldl (insStep p) ([], false); if s.2 then s.1 else s.1 ++ [p]
/-- The document's row: each in its place, once. -/
def rowQ (l : List (Rat × Rat)) : List (Rat × Rat) := l.foldl (fun out p => insAll p out) []
theorem rowQ_succ (l : List (Rat × Rat)) (j : Nat) (p : Rat × Rat) (h : l[j]? = some p) : rowQ (l.take (j + 1)) = insAll p (rowQ (l.take j)) := by
  unfold rowQ
  rw [List.take_add_one, h, Option.toList_some, List.foldl_append]; rfl
end Go.Proofs.Ytpglnfccmhkocaa
namespace Go.Proofs.Ytpglnfccmhkocaa
open Go.RowKit

/-- Four cells of a struct. -/
def Box4 (w : World) (r o : Nat) (u0 u1 u2 u3 : Value) : Prop := w.cell? ⟨r, o, none⟩ = some u0 ∧ w.cell? ⟨r, o + 1, none⟩ = some u1 ∧ w.cell? ⟨r, o + 2, none⟩ = some u2 ∧ w.cell? ⟨r, o + 3, none⟩ = some u3
theorem Box4.p0 {w : World} {r o : Nat} {u0 u1 u2 u3 : Value} (h : Box4 w r o u0 u1 u2 u3) : w.cell? ⟨r, o, none⟩ = some u0 := h.1
theorem Box4.p1 {w : World} {r o : Nat} {u0 u1 u2 u3 : Value} (h : Box4 w r o u0 u1 u2 u3) : w.cell? ⟨r, o + 1, none⟩ = some u1 := h.2.1
theorem Box4.p2 {w : World} {r o : Nat} {u0 u1 u2 u3 : Value} (h : Box4 w r o u0 u1 u2 u3) : w.cell? ⟨r, o + 2, none⟩ = some u2 := h.2.2.1
theorem Box4.p3 {w : World} {r o : Nat} {u0 u1 u2 u3 : Value} (h : Box4 w r o u0 u1 u2 u3) : w.cell? ⟨r, o + 3, none⟩ = some u3 := h.2.2.2
theorem Box4.grew {w w' : World} {r o : Nat} {u0 u1 u2 u3 : Value} (h : Box4 w r o u0 u1 u2 u3) (g : Grew w w') : Box4 w' r o u0 u1 u2 u3 := ⟨g.cell h.1, g.cell h.2.1, g.cell h.2.2.1, g.cell h.2.2.2⟩
theorem Res4.f0 {w : World} {r o : Nat} {u0 u1 u2 u3 : Value} (h : Res4 w r o u0 u1 u2 u3) : w.frozen? ⟨r, o, none⟩ = false := h.2.2.2.2.1
theorem Res4.f1 {w : World} {r o : Nat} {u0 u1 u2 u3 : Value} (h : Res4 w r o u0 u1 u2 u3) : w.frozen? ⟨r, o + 1, none⟩ = false := h.2.2.2.2.2.1
theorem Res4.f2 {w : World} {r o : Nat} {u0 u1 u2 u3 : Value} (h : Res4 w r o u0 u1 u2 u3) : w.frozen? ⟨r, o + 2, none⟩ = false := h.2.2.2.2.2.2.1
theorem Res4.f3 {w : World} {r o : Nat} {u0 u1 u2 u3 : Value} (h : Res4 w r o u0 u1 u2 u3) : w.frozen? ⟨r, o + 3, none⟩ = false := h.2.2.2.2.2.2.2.1
theorem store4_far {w : World} {r b p : Nat} {v0 v1 v2 v3 : Value} {v : Option Value} (hb : b ≠ r) (hc : w.cell? ⟨b, p, none⟩ = v) : ((((w.setCell ⟨r, 0, none⟩ v0).setCell ⟨r, 1, none⟩ v1).setCell ⟨r, 2, none⟩ v2).setCell ⟨r, 3, none⟩ v3).cell? ⟨b, p, none⟩ = v := by
  rw [World.cell?_setCell_other _ _ _ _ (by simp <;> omega), World.cell?_setCell_other _ _ _ _ (by simp <;> omega), World.cell?_setCell_other _ _ _ _ (by simp <;> omega), World.cell?_setCell_other _ _ _ _ (by simp <;> omega)]; exact hc
theorem store44 {w w' : World} {r s : Nat} {u0 u1 u2 u3 t0 t1 t2 t3 v0 v1 v2 v3 y0 y1 y2 y3 : Value} (h : Res4 w r 0 u0 u1 u2 u3) (k : Res4 w s 0 t0 t1 t2 t3) (hne : r ≠ s)
    (e : w' = (((((((w.setCell ⟨r, 0, none⟩ v0).setCell ⟨r, 1, none⟩ v1).setCell ⟨r, 2, none⟩ v2).setCell ⟨r, 3, none⟩ v3).setCell ⟨s, 0, none⟩ y0).setCell ⟨s, 1, none⟩ y1).setCell ⟨s, 2, none⟩ y2).setCell ⟨s, 3, none⟩ y3) :
    Box4 w' r 0 v0 v1 v2 v3 ∧ Box4 w' s 0 y0 y1 y2 y3 ∧ (∀ a, a.heap.size ≤ r → a.heap.size ≤ s → Grew a w → Grew a w') := by
  obtain ⟨T, hT⟩ : ∃ T, T = (((w.setCell ⟨r, 0, none⟩ v0).setCell ⟨r, 1, none⟩ v1).setCell ⟨r, 2, none⟩ v2).setCell ⟨r, 3, none⟩ v3 := ⟨_, rfl⟩
  obtain ⟨q0, q1, q2, q3, qG⟩ := store4 h hT
  have k' : Res4 T s 0 t0 t1 t2 t3 := by
    obtain ⟨k0, k1, k2, k3, f0, f1, f2, f3, ks⟩ := k
    rw [hT]
    exact ⟨store4_far hne.symm k0, store4_far hne.symm k1, store4_far hne.symm k2, store4_far hne.symm k3, by simp [f0], by simpa using f1, by simpa using f2, by simpa using f3, by simpa [World.setCell] using ks⟩
  rw [← hT] at e
  obtain ⟨p0, p1, p2, p3, pG⟩ := store4 k' e
  subst e
  exact ⟨⟨store4_far hne q0, store4_far hne q1, store4_far hne q2, store4_far hne q3⟩, ⟨p0, p1, p2, p3⟩, fun a h1 h2 g => pG a h2 (qG a h1 g)⟩

/-- A way from its lesser end. -/
def sortZ (ax ay bx b_y : Int) : (Int × Int) × (Int × Int) := if aheadB bx b_y ax ay = true then ((bx, b_y), (ax, ay)) else ((ax, ay), (bx, b_y))
theorem sortedz_any (ax ay bx b_y : Int) (w : World) : Calls Try.prog 85 #[segV ax ay bx b_y] w fun e w' => e = .returned (segV (sortZ ax ay bx b_y).1.1 (sortZ ax ay bx b_y).1.2 (sortZ ax ay bx b_y).2.1 (sortZ ax ay bx b_y).2.2) ∧ Grew w w' :=
  (sorted_any ax ay bx b_y w).mono fun e w' ⟨h1, h2⟩ => ⟨by rw [h1]; unfold sortZ; split <;> rfl, h2⟩

/-- A local of two ints that may be stored. -/
def ResW (w : World) (g : Nat) (x y : Int) : Prop := w.cell? ⟨g, 0, none⟩ = some (.int .i64 x) ∧ w.cell? ⟨g, 1, none⟩ = some (.int .i64 y) ∧ w.frozen? ⟨g, 0, none⟩ = false ∧ w.frozen? ⟨g, 1, none⟩ = false ∧ g < w.heap.size
theorem ResW.grew {w w' : World} {r : Nat} {x y : Int} (h : ResW w r x y) (g : Grew w w') : ResW w' r x y := by
  obtain ⟨h0, h1, f0, f1, s⟩ := h
  exact ⟨g.cell h0, g.cell h1, (g.below.frozen (p := ⟨r, 0, none⟩) s).trans f0, (g.below.frozen (p := ⟨r, 1, none⟩) s).trans f1, Nat.lt_of_lt_of_le s g.size⟩
theorem storeW {w w' : World} {g : Nat} {x y u v : Int} (h : ResW w g x y) (e : w' = (w.setCell ⟨g, 0, none⟩ (.int .i64 u)).setCell ⟨g, 1, none⟩ (.int .i64 v)) :
    ResW w' g u v ∧ (∀ b p, b ≠ g → w'.cell? ⟨b, p, none⟩ = w.cell? ⟨b, p, none⟩) ∧ (∀ b u' v', b ≠ g → ResW w b u' v' → ResW w' b u' v') ∧ (∀ a, a.heap.size ≤ g → Grew a w → Grew a w') ∧ w'.heap.size = w.heap.size := by
  obtain ⟨h0, h1, f0, f1, s⟩ := h
  have e1 : (w.setCell ⟨g, 0, none⟩ (.int .i64 u)).cell? ⟨g, 1, none⟩ = some (.int .i64 y) := by rw [World.cell?_setCell_other _ _ _ _ (by simp)]; exact h1
  have far : ∀ b p, b ≠ g → w'.cell? ⟨b, p, none⟩ = w.cell? ⟨b, p, none⟩ := fun b p hb => by
    rw [e, World.cell?_setCell_other _ _ _ _ (by simp <;> omega), World.cell?_setCell_other _ _ _ _ (by simp <;> omega)]
  have sz : w'.heap.size = w.heap.size := by rw [e]; simp [World.setCell]
  refine ⟨⟨?_, ?_, by rw [e]; simpa using f0, by rw [e]; simpa using f1, by rw [sz]; exact s⟩, far, fun b u' v' hb k => ?_, fun a ha k => ?_, sz⟩
  · rw [e, World.cell?_setCell_other _ _ _ _ (by simp)]; exact cell_set h0 _
  · rw [e]; exact cell_set e1 _
  · obtain ⟨k0, k1, l0, l1, ks⟩ := k
    exact ⟨(far _ _ hb).trans k0, (far _ _ hb).trans k1, by rw [e]; simpa using l0, by rw [e]; simpa using l1, by rw [sz]; exact ks⟩
  · rw [e]; exact (k.setCell ha _).setCell ha _
theorem Box4.far {w w' : World} {r g : Nat} {u0 u1 u2 u3 : Value} (h : Box4 w r 0 u0 u1 u2 u3) (f : ∀ b p, b ≠ g → w'.cell? ⟨b, p, none⟩ = w.cell? ⟨b, p, none⟩) (hb : r ≠ g) : Box4 w' r 0 u0 u1 u2 u3 :=
  ⟨(f _ _ hb).trans h.1, (f _ _ hb).trans h.2.1, (f _ _ hb).trans h.2.2.1, (f _ _ hb).trans h.2.2.2⟩

theorem rowC_one {w : World} {t : TypeId} {b b' : Bool} {A C A' C' : Option Addr} {n c m d n' c' m' d' : Nat} {x y : Rat} (h : SpotC w (.agg #[.bool b, .slice A n c, .slice C m d, .bool b', .slice A' n' c', .slice C' m' d']) x y) :
    RowC (w.alloc (.cells #[.bool b, .slice A n c, .slice C m d, .bool b', .slice A' n' c', .slice C' m' d'] t)) (.slice (some ⟨w.heap.size, 0, none⟩) 1 1) [(x, y)] := by
  refine ⟨_, 1, rfl, Nat.le_refl _, by omega, fun _ => ⟨w.heap.size, 0, rfl, fun i p hp => ?_⟩⟩
  have hi := (List.getElem?_eq_some_iff.1 hp).1
  obtain rfl : i = 0 := by simp at hi; omega
  obtain rfl : (x, y) = p := by simpa using hp
  exact ⟨b, A, n, c, C, m, d, b', A', n', c', C', m', d', ⟨by simp [go_sem], by simp [go_sem], by simp [go_sem], by simp [go_sem], by simp [go_sem], by simp [go_sem]⟩, SpotC.kept h ((Grew.refl w).alloc _).keeps⟩
theorem rowC_two {w : World} {t : TypeId} {b b' : Bool} {A C A' C' : Option Addr} {n c m d n' c' m' d' : Nat} {x y : Rat} (h : SpotC w (.agg #[.bool b, .slice A n c, .slice C m d, .bool b', .slice A' n' c', .slice C' m' d']) x y)
    {b2 b2' : Bool} {A2 C2 A2' C2' : Option Addr} {n2 c2 m2 d2 n2' c2' m2' d2' : Nat} {x2 y2 : Rat} (h2 : SpotC w (.agg #[.bool b2, .slice A2 n2 c2, .slice C2 m2 d2, .bool b2', .slice A2' n2' c2', .slice C2' m2' d2']) x2 y2) :
    RowC (w.alloc (.cells #[.bool b, .slice A n c, .slice C m d, .bool b', .slice A' n' c', .slice C' m' d', .bool b2, .slice A2 n2 c2, .slice C2 m2 d2, .bool b2', .slice A2' n2' c2', .slice C2' m2' d2'] t)) (.slice (some ⟨w.heap.size, 0, none⟩) 2 2) [(x, y), (x2, y2)] := by
  refine ⟨_, 2, rfl, Nat.le_refl _, by omega, fun _ => ⟨w.heap.size, 0, rfl, fun i p hp => ?_⟩⟩
  have hi := (List.getElem?_eq_some_iff.1 hp).1
  have hk := ((Grew.refl w).alloc (.cells #[.bool b, .slice A n c, .slice C m d, .bool b', .slice A' n' c', .slice C' m' d', .bool b2, .slice A2 n2 c2, .slice C2 m2 d2, .bool b2', .slice A2' n2' c2', .slice C2' m2' d2'] t)).keeps
  rcases (show i = 0 ∨ i = 1 by simp at hi; omega) with rfl | rfl
  · obtain rfl : (x, y) = p := by simpa using hp
    exact ⟨b, A, n, c, C, m, d, b', A', n', c', C', m', d', ⟨by simp [go_sem], by simp [go_sem], by simp [go_sem], by simp [go_sem], by simp [go_sem], by simp [go_sem]⟩, SpotC.kept h hk⟩
  · obtain rfl : (x2, y2) = p := by simpa using hp
    exact ⟨b2, A2, n2, c2, C2, m2, d2, b2', A2', n2', c2', C2', m2', d2', ⟨by simp [go_sem], by simp [go_sem], by simp [go_sem], by simp [go_sem], by simp [go_sem], by simp [go_sem]⟩, SpotC.kept h2 hk⟩

/-- What two ways on one line have in common: from the greater of the lesser ends to the lesser of the greater ends. -/
def commonZ (s t : (Int × Int) × (Int × Int)) : List (Int × Int) :=
  let lo := if aheadB s.1.1 s.1.2 t.1.1 t.1.2 = true then t.1 else s.1
  let hi := if aheadB t.2.1 t.2.2 s.2.1 s.2.2 = true then t.2 else s.2
  if lo = hi then [lo] else if aheadB hi.1 hi.2 lo.1 lo.2 = true then [] else [lo, hi]
def castP (p : Int × Int) : Rat × Rat := ((p.1 : Rat), (p.2 : Rat))

end Go.Proofs.Ytpglnfccmhkocaa
namespace Go.Proofs.Ytpglnfccmhkocaa
open Go.RowKit

set_option maxRecDepth 100000 in
set_option maxHeartbeats 4000000 in
theorem common_any (ax ay bx b_y cx cy dx dy : Int) (w : World) (ha : In64 ax ay) (hb : In64 bx b_y) (hc : In64 cx cy) (hd : In64 dx dy) :
    Calls Try.prog 47 #[segV ax ay bx b_y, segV cx cy dx dy] w fun e w' => ∃ v, e = .returned v ∧ RowC w' v ((commonZ (sortZ ax ay bx b_y) (sortZ cx cy dx dy)).map castP) ∧ Grew w w' := by
  obtain ⟨⟨⟨p0, p1⟩, p2, p3⟩, hP⟩ : ∃ s, sortZ ax ay bx b_y = s := ⟨_, rfl⟩
  obtain ⟨⟨⟨q0, q1⟩, q2, q3⟩, hQ⟩ : ∃ s, sortZ cx cy dx dy = s := ⟨_, rfl⟩
  have iP : In64 p0 p1 ∧ In64 p2 p3 := by
    unfold sortZ at hP
    split at hP <;> (simp only [Prod.mk.injEq] at hP; obtain ⟨⟨rfl, rfl⟩, rfl, rfl⟩ := hP; exact ⟨by assumption, by assumption⟩)
  have iQ : In64 q0 q1 ∧ In64 q2 q3 := by
    unfold sortZ at hQ
    split at hQ <;> (simp only [Prod.mk.injEq] at hQ; obtain ⟨⟨rfl, rfl⟩, rfl, rfl⟩ := hQ; exact ⟨by assumption, by assumption⟩)
  rw [hP, hQ]
  have eC : commonZ ((p0, p1), (p2, p3)) ((q0, q1), (q2, q3)) = commonZ ((p0, p1), (p2, p3)) ((q0, q1), (q2, q3)) := rfl
  obtain ⟨CL, hCL⟩ : ∃ CL, commonZ ((p0, p1), (p2, p3)) ((q0, q1), (q2, q3)) = CL := ⟨_, rfl⟩
  rw [hCL]
  unfold commonZ at hCL
  simp only at hCL
  obtain ⟨t1, ht1⟩ : ∃ t, aheadB p0 p1 q0 q1 = t := ⟨_, rfl⟩
  obtain ⟨t2, ht2⟩ : ∃ t, aheadB q2 q3 p2 p3 = t := ⟨_, rfl⟩
  rw [ht1, ht2] at hCL
  replace hCL := Lib.hid hCL
  replace ht1 := Lib.hid ht1
  replace ht2 := Lib.hid ht2
  replace iP := Lib.hid iP
  replace iQ := Lib.hid iQ
  clear ha hb hc hd eC
  replace hP := Lib.hid hP
  replace hQ := Lib.hid hQ
  go_enter Try.func47, Try.ntmps47
  go_upto_region 1 with fail
  go_cut [] (fun wx => Box4 wx w.heap.size 0 (.int .i64 p0) (.int .i64 p1) (.int .i64 p2) (.int .i64 p3) ∧ Box4 wx (w.heap.size + 1) 0 (.int .i64 q0) (.int .i64 q1) (.int .i64 q2) (.int .i64 q3) ∧ w.heap.size + 1 < wx.heap.size ∧ Grew w wx)
  refine gen_wp ?_
  intro W0 hW0
  have G0 : Grew w W0 := by rw [hW0]; exact ((Grew.refl w).alloc _).alloc _
  have P : Box4 W0 (w.heap.size) 0 (.int .i64 ax) (.int .i64 ay) (.int .i64 bx) (.int .i64 b_y) := by rw [hW0]; exact ⟨by simp [go_sem], by simp [go_sem], by simp [go_sem], by simp [go_sem]⟩
  replace P := Lib.hid P
  have Pr : Res4 W0 (w.heap.size) 0 (.int .i64 ax) (.int .i64 ay) (.int .i64 bx) (.int .i64 b_y) := by rw [hW0]; exact ⟨by simp [go_sem], by simp [go_sem], by simp [go_sem], by simp [go_sem], by simp [go_sem], by simp [go_sem], by simp [go_sem], by simp [go_sem], by simp <;> omega⟩
  replace Pr := Lib.hid Pr
  have Q : Box4 W0 (w.heap.size + 1) 0 (.int .i64 cx) (.int .i64 cy) (.int .i64 dx) (.int .i64 dy) := by rw [hW0]; exact ⟨by simp [go_sem], by simp [go_sem], by simp [go_sem], by simp [go_sem]⟩
  replace Q := Lib.hid Q
  have Qr : Res4 W0 (w.heap.size + 1) 0 (.int .i64 cx) (.int .i64 cy) (.int .i64 dx) (.int .i64 dy) := by rw [hW0]; exact ⟨by simp [go_sem], by simp [go_sem], by simp [go_sem], by simp [go_sem], by simp [go_sem], by simp [go_sem], by simp [go_sem], by simp [go_sem], by simp <;> omega⟩
  replace Qr := Lib.hid Qr
  have z0 : w.heap.size < W0.heap.size := by rw [hW0]; simp <;> omega
  replace z0 := Lib.hid z0
  have z1 : w.heap.size + 1 < W0.heap.size := by rw [hW0]; simp <;> omega
  replace z1 := Lib.hid z1
  clear hW0
  replace G0 := Lib.hid G0
  · skip
    have gd : Grew W0 W0.drew := (Grew.refl W0).drew
    replace Pr := Lib.hid (Pr.out.grew gd)
    replace Qr := Lib.hid (Qr.out.grew gd)
    replace P := Lib.hid (P.out.grew gd)
    replace Q := Lib.hid (Q.out.grew gd)
    replace z0 := Lib.hid (lt_grew z0.out gd)
    replace z1 := Lib.hid (lt_grew z1.out gd)
    obtain ⟨P0, P1, P2, P3⟩ := P.out
    obtain ⟨Q0, Q1, Q2, Q3⟩ := Q.out
    go_region_law (first | ((try go_simp); go_at_call 85; with_reducible refine (sortedz_any ax ay bx b_y _).mono ?_; rintro e w1 ⟨he1, g1⟩; rw [he1, hP.out]; clear he1; replace Pr := Lib.hid (Pr.out.grew g1); replace Qr := Lib.hid (Qr.out.grew g1); replace P := Lib.hid (P.out.grew g1); replace Q := Lib.hid (Q.out.grew g1); replace z0 := Lib.hid (lt_grew z0.out g1); replace z1 := Lib.hid (lt_grew z1.out g1); have P0 := P.out.p0; have P1 := P.out.p1; have P2 := P.out.p2; have P3 := P.out.p3; have Q0 := Q.out.p0; have Q1 := Q.out.p1; have Q2 := Q.out.p2; have Q3 := Q.out.p3) | (go_loud ((try go_simp); go_at_call 85; with_reducible refine (sortedz_any cx cy dx dy _).mono ?_; rintro e w2 ⟨he2, g2⟩; rw [he2, hQ.out]; clear he2; replace Pr := Lib.hid (Pr.out.grew g2); replace Qr := Lib.hid (Qr.out.grew g2); replace P := Lib.hid (P.out.grew g2); replace Q := Lib.hid (Q.out.grew g2); replace z0 := Lib.hid (lt_grew z0.out g2); replace z1 := Lib.hid (lt_grew z1.out g2); have P0 := P.out.p0; have P1 := P.out.p1; have P2 := P.out.p2; have P3 := P.out.p3; have Q0 := Q.out.p0; have Q1 := Q.out.p1; have Q2 := Q.out.p2; have Q3 := Q.out.p3; have Prf0 := Pr.out.f0; have Prf1 := Pr.out.f1; have Prf2 := Pr.out.f2; have Prf3 := Pr.out.f3; have Qrf0 := Qr.out.f0; have Qrf1 := Qr.out.f1; have Qrf2 := Qr.out.f2; have Qrf3 := Qr.out.f3)))
    all_goals
      have GC := Lib.hid (((G0.out.trans gd).trans g1).trans g2)
      clear G0 gd g1 g2
      refine gen_then ?_
      intro W9 hW9
      obtain ⟨BP, BQ, GG⟩ := store44 Pr.out Qr.out (by omega) hW9
      have G9 := GG w (by omega) (by omega) GC.out
      have sz9 : w.heap.size + 1 < W9.heap.size := Nat.lt_of_lt_of_le z1.out (by rw [hW9]; simp [World.setCell])
      clear hW9 GG
      go_wp2_with fail
      go_meet
      exact ⟨BP, BQ, sz9, G9⟩
  · obtain ⟨BP, BQ, sz, G1⟩ := hcut
    obtain ⟨W1, hW1⟩ : ∃ W1 : World, W1 = wc := ⟨_, rfl⟩
    rw [← hW1] at BP BQ sz G1 ⊢
    clear hW1
    have P := Lib.hid BP
    have Q := Lib.hid BQ
    have G0 := Lib.hid G1
    clear BP BQ G1
    go_upto_region 2 with fail
    go_cut [5, 6] (fun s5 s6 wx => ∃ e5 e6 : Nat, s5 = .pointer (some ⟨e5, 0, none⟩) ∧ s6 = .pointer (some ⟨e6, 0, none⟩) ∧ ResW wx e5 p0 p1 ∧ ResW wx e6 p2 p3 ∧ e5 ≠ e6 ∧ W1.heap.size ≤ e5 ∧ W1.heap.size ≤ e6 ∧ Grew W1 wx)
    · obtain ⟨P0, P1, P2, P3⟩ := P.out
      have za : w.heap.size < W1.heap.size := by omega
      have zb : ¬ w.heap.size = W1.heap.size := by omega
      have zc : ¬ w.heap.size = W1.heap.size + 1 := by omega
      have zd : ¬ W1.heap.size = w.heap.size := by omega
      have ze : ¬ W1.heap.size + 1 = w.heap.size := by omega
      go_region
      all_goals
        go_wp2_with fail
        go_meet
        exact ⟨_, _, rfl, rfl, ⟨by simp [go_sem], by simp [go_sem], by simp [go_sem], by simp [go_sem], by simp <;> omega⟩, ⟨by simp [go_sem], by simp [go_sem], by simp [go_sem], by simp [go_sem], by simp <;> omega⟩, by omega, by simp <;> omega, by simp <;> omega, by first | exact ((Grew.refl _).alloc _).alloc _ | exact (((Grew.refl _).alloc _).alloc _).drew | exact (((Grew.refl _).drew).alloc _).alloc _⟩
    · obtain ⟨e5, e6, rfl, rfl, L, H, hne, z5, z6, G2⟩ := hcut
      have zw : w.heap.size ≤ W1.heap.size := G0.out.size
      replace L := Lib.hid L
      replace H := Lib.hid H
      replace Q := Lib.hid (Q.out.grew G2)
      have GX := Lib.hid (G0.out.trans G2)
      clear G0 G2 P
      obtain ⟨L0, L1, -, -, -⟩ := L.out
      obtain ⟨Q0, Q1, Q2, Q3⟩ := Q.out
      go_wp2_with fail
      refine (ahead_any p0 p1 q0 q1 _).mono ?_
      rintro e w1 ⟨rfl, g1⟩
      rw [ht1.out]
      replace L := Lib.hid (L.out.grew g1)
      replace H := Lib.hid (H.out.grew g1)
      replace Q := Lib.hid (Q.out.grew g1)
      replace GX := Lib.hid (GX.out.trans g1)
      clear g1 L0 L1 Q0 Q1 Q2 Q3
      cases t1
      ·
        obtain ⟨H0, H1, -, -, -⟩ := H.out
        obtain ⟨Q0, Q1, Q2, Q3⟩ := Q.out
        go_wp2_with fail
        refine (ahead_any q2 q3 p2 p3 _).mono ?_
        rintro e w2 ⟨rfl, g2⟩
        rw [ht2.out]
        replace L := Lib.hid (L.out.grew g2)
        replace H := Lib.hid (H.out.grew g2)
        replace Q := Lib.hid (Q.out.grew g2)
        replace GX := Lib.hid (GX.out.trans g2)
        clear g2 H0 H1 Q0 Q1 Q2 Q3
        cases t2
        ·
          have hC := hCL.out
          simp only [Bool.false_eq_true, if_false] at hC
          replace hC := Lib.hid hC
          by_cases hx : p0 = p2
          · by_cases hy : p1 = p3
            · have e1 := Lib.hid (show [(p2, p3)] = CL by rw [← hC.out, if_pos (show ((p0, p1) : Int × Int) = (p2, p3) by rw [hx, hy]), hx, hy])
              obtain ⟨L0, L1, -, -, -⟩ := L.out
              obtain ⟨H0, H1, -, -, -⟩ := H.out
              rw [hx] at L0
              rw [hy] at L1
              clear hC hx hy
              go_wp2_with fail
              refine (at_any p2 p3 _ iP.out.2.1 iP.out.2.2.1 iP.out.2.2.2.1 iP.out.2.2.2.2).mono ?_
              rintro e w5 ⟨V5, rfl, hV5, g5⟩
              obtain ⟨b7, A7, n7, c7, C7, m7, d7, b8, A8, n8, c8, C8, m8, d8, rfl, -, -, X5⟩ := hV5.laid
              have GY := GX.out.trans g5
              clear hV5 g5 L0 L1 H0 H1
              go_wp2_with fail
              go_ret
              exact ⟨_, rfl, by rw [← e1.out]; exact rowC_one X5.out, GY.alloc _⟩
            ·
              have e0 := Lib.hid (show (if aheadB p2 p3 p0 p1 = true then [] else [(p0, p1), (p2, p3)]) = CL by rw [← hC.out, if_neg (fun e => hy (congrArg Prod.snd e))])
              clear hC hx
              obtain ⟨t3, ht3⟩ : ∃ t, aheadB p2 p3 p0 p1 = t := ⟨_, rfl⟩
              rw [ht3] at e0
              replace ht3 := Lib.hid ht3
              obtain ⟨L0, L1, -, -, -⟩ := L.out
              obtain ⟨H0, H1, -, -, -⟩ := H.out
              go_wp2_with fail
              refine (ahead_any p2 p3 p0 p1 _).mono ?_
              rintro e w4 ⟨rfl, g4⟩
              rw [ht3.out]
              have GY := GX.out.trans g4
              cases t3
              ·
                have e1 := e0.out
                simp only [Bool.false_eq_true, if_false] at e1
                replace e1 := Lib.hid e1
                replace L0 := g4.cell L0
                replace L1 := g4.cell L1
                replace H0 := g4.cell H0
                replace H1 := g4.cell H1
                clear e0 g4
                go_wp2_with fail
                go_region_held3 (fun w' => w'.cell? ⟨e5, 0, none⟩ = some (.int .i64 p0) ∧ w'.cell? ⟨e5, 1, none⟩ = some (.int .i64 p1) ∧ w'.cell? ⟨e6, 0, none⟩ = some (.int .i64 p2) ∧ w'.cell? ⟨e6, 1, none⟩ = some (.int .i64 p3))
                  (first | exact ⟨L0, L1, H0, H1⟩ | exact ⟨g5.cell L0, g5.cell L1, g5.cell H0, g5.cell H1⟩ | exact ⟨(g5.trans g6).cell L0, (g5.trans g6).cell L1, (g5.trans g6).cell H0, (g5.trans g6).cell H1⟩ | exact ⟨((g5.trans g6).alloc _).cell L0, ((g5.trans g6).alloc _).cell L1, ((g5.trans g6).alloc _).cell H0, ((g5.trans g6).alloc _).cell H1⟩)
                  (first | (have chk := g5; clear chk; go_at_call 43; refine (at_any p2 p3 _ iP.out.2.1 iP.out.2.2.1 iP.out.2.2.2.1 iP.out.2.2.2.2).mono ?_; rintro e w6 ⟨V6, rfl, hV6, g6⟩; obtain ⟨b9, A9, n9, c9, C9, m9, d9, b10, A10, n10, c10, C10, m10, d10, rfl, -, -, X6⟩ := hV6.laid; clear hV6) | (go_at_call 43; refine (at_any p0 p1 _ iP.out.1.1 iP.out.1.2.1 iP.out.1.2.2.1 iP.out.1.2.2.2).mono ?_; rintro e w5 ⟨V5, rfl, hV5, g5⟩; obtain ⟨b7, A7, n7, c7, C7, m7, d7, b8, A8, n8, c8, C8, m8, d8, rfl, -, -, X5⟩ := hV5.laid; clear hV5))
                go_wp2_with fail
                go_ret
                exact ⟨_, rfl, by rw [← e1.out]; exact rowC_two (SpotC.kept X5.out g6.keeps) X6.out, ((GY.drew.trans g5).trans g6).alloc _⟩
              ·
                have e1 := e0.out
                simp only [if_true] at e1
                replace e1 := Lib.hid e1
                clear e0 g4 L0 L1 H0 H1
                go_wp2_with fail
                go_ret
                exact ⟨_, rfl, by rw [← e1.out]; exact RowP.nil _ _, GY⟩
          ·
            have e0 := Lib.hid (show (if aheadB p2 p3 p0 p1 = true then [] else [(p0, p1), (p2, p3)]) = CL by rw [← hC.out, if_neg (fun e => hx (congrArg Prod.fst e))])
            clear hC
            obtain ⟨t3, ht3⟩ : ∃ t, aheadB p2 p3 p0 p1 = t := ⟨_, rfl⟩
            rw [ht3] at e0
            replace ht3 := Lib.hid ht3
            obtain ⟨L0, L1, -, -, -⟩ := L.out
            obtain ⟨H0, H1, -, -, -⟩ := H.out
            go_wp2_with fail
            refine (ahead_any p2 p3 p0 p1 _).mono ?_
            rintro e w4 ⟨rfl, g4⟩
            rw [ht3.out]
            have GY := GX.out.trans g4
            cases t3
            ·
              have e1 := e0.out
              simp only [Bool.false_eq_true, if_false] at e1
              replace e1 := Lib.hid e1
              replace L0 := g4.cell L0
              replace L1 := g4.cell L1
              replace H0 := g4.cell H0
              replace H1 := g4.cell H1
              clear e0 g4
              go_wp2_with fail
              go_region_held3 (fun w' => w'.cell? ⟨e5, 0, none⟩ = some (.int .i64 p0) ∧ w'.cell? ⟨e5, 1, none⟩ = some (.int .i64 p1) ∧ w'.cell? ⟨e6, 0, none⟩ = some (.int .i64 p2) ∧ w'.cell? ⟨e6, 1, none⟩ = some (.int .i64 p3))
                (first | exact ⟨L0, L1, H0, H1⟩ | exact ⟨g5.cell L0, g5.cell L1, g5.cell H0, g5.cell H1⟩ | exact ⟨(g5.trans g6).cell L0, (g5.trans g6).cell L1, (g5.trans g6).cell H0, (g5.trans g6).cell H1⟩ | exact ⟨((g5.trans g6).alloc _).cell L0, ((g5.trans g6).alloc _).cell L1, ((g5.trans g6).alloc _).cell H0, ((g5.trans g6).alloc _).cell H1⟩)
                (first | (have chk := g5; clear chk; go_at_call 43; refine (at_any p2 p3 _ iP.out.2.1 iP.out.2.2.1 iP.out.2.2.2.1 iP.out.2.2.2.2).mono ?_; rintro e w6 ⟨V6, rfl, hV6, g6⟩; obtain ⟨b9, A9, n9, c9, C9, m9, d9, b10, A10, n10, c10, C10, m10, d10, rfl, -, -, X6⟩ := hV6.laid; clear hV6) | (go_at_call 43; refine (at_any p0 p1 _ iP.out.1.1 iP.out.1.2.1 iP.out.1.2.2.1 iP.out.1.2.2.2).mono ?_; rintro e w5 ⟨V5, rfl, hV5, g5⟩; obtain ⟨b7, A7, n7, c7, C7, m7, d7, b8, A8, n8, c8, C8, m8, d8, rfl, -, -, X5⟩ := hV5.laid; clear hV5))
              go_wp2_with fail
              go_ret
              exact ⟨_, rfl, by rw [← e1.out]; exact rowC_two (SpotC.kept X5.out g6.keeps) X6.out, ((GY.drew.trans g5).trans g6).alloc _⟩
            ·
              have e1 := e0.out
              simp only [if_true] at e1
              replace e1 := Lib.hid e1
              clear e0 g4 L0 L1 H0 H1
              go_wp2_with fail
              go_ret
              exact ⟨_, rfl, by rw [← e1.out]; exact RowP.nil _ _, GY⟩
        ·
          have hC := hCL.out
          simp only [Bool.false_eq_true, if_false, if_true] at hC
          replace hC := Lib.hid hC
          obtain ⟨H0, H1, Hf0, Hf1, Hs⟩ := H.out
          obtain ⟨Q0, Q1, Q2, Q3⟩ := Q.out
          go_upto_region 7 with fail
          refine gen_wp ?_
          intro X hX
          obtain ⟨nH, nf, nW, nG, nz⟩ := storeW H.out hX
          replace L := Lib.hid (nW _ _ _ hne L.out)
          replace H := Lib.hid nH
          replace GX := Lib.hid (nG w (by omega) GX.out)
          clear H0 H1 Hf0 Hf1 Hs Q0 Q1 Q2 Q3 hX nH nf nW nG nz Q
          by_cases hx : p0 = q2
          · by_cases hy : p1 = q3
            · have e1 := Lib.hid (show [(q2, q3)] = CL by rw [← hC.out, if_pos (show ((p0, p1) : Int × Int) = (q2, q3) by rw [hx, hy]), hx, hy])
              obtain ⟨L0, L1, -, -, -⟩ := L.out
              obtain ⟨H0, H1, -, -, -⟩ := H.out
              rw [hx] at L0
              rw [hy] at L1
              clear hC hx hy
              go_wp2_with fail
              refine (at_any q2 q3 _ iQ.out.2.1 iQ.out.2.2.1 iQ.out.2.2.2.1 iQ.out.2.2.2.2).mono ?_
              rintro e w5 ⟨V5, rfl, hV5, g5⟩
              obtain ⟨b7, A7, n7, c7, C7, m7, d7, b8, A8, n8, c8, C8, m8, d8, rfl, -, -, X5⟩ := hV5.laid
              have GY := GX.out.trans g5
              clear hV5 g5 L0 L1 H0 H1
              go_wp2_with fail
              go_ret
              exact ⟨_, rfl, by rw [← e1.out]; exact rowC_one X5.out, GY.alloc _⟩
            ·
              have e0 := Lib.hid (show (if aheadB q2 q3 p0 p1 = true then [] else [(p0, p1), (q2, q3)]) = CL by rw [← hC.out, if_neg (fun e => hy (congrArg Prod.snd e))])
              clear hC hx
              obtain ⟨t3, ht3⟩ : ∃ t, aheadB q2 q3 p0 p1 = t := ⟨_, rfl⟩
              rw [ht3] at e0
              replace ht3 := Lib.hid ht3
              obtain ⟨L0, L1, -, -, -⟩ := L.out
              obtain ⟨H0, H1, -, -, -⟩ := H.out
              go_wp2_with fail
              refine (ahead_any q2 q3 p0 p1 _).mono ?_
              rintro e w4 ⟨rfl, g4⟩
              rw [ht3.out]
              have GY := GX.out.trans g4
              cases t3
              ·
                have e1 := e0.out
                simp only [Bool.false_eq_true, if_false] at e1
                replace e1 := Lib.hid e1
                replace L0 := g4.cell L0
                replace L1 := g4.cell L1
                replace H0 := g4.cell H0
                replace H1 := g4.cell H1
                clear e0 g4
                go_wp2_with fail
                go_region_held3 (fun w' => w'.cell? ⟨e5, 0, none⟩ = some (.int .i64 p0) ∧ w'.cell? ⟨e5, 1, none⟩ = some (.int .i64 p1) ∧ w'.cell? ⟨e6, 0, none⟩ = some (.int .i64 q2) ∧ w'.cell? ⟨e6, 1, none⟩ = some (.int .i64 q3))
                  (first | exact ⟨L0, L1, H0, H1⟩ | exact ⟨g5.cell L0, g5.cell L1, g5.cell H0, g5.cell H1⟩ | exact ⟨(g5.trans g6).cell L0, (g5.trans g6).cell L1, (g5.trans g6).cell H0, (g5.trans g6).cell H1⟩ | exact ⟨((g5.trans g6).alloc _).cell L0, ((g5.trans g6).alloc _).cell L1, ((g5.trans g6).alloc _).cell H0, ((g5.trans g6).alloc _).cell H1⟩)
                  (first | (have chk := g5; clear chk; go_at_call 43; refine (at_any q2 q3 _ iQ.out.2.1 iQ.out.2.2.1 iQ.out.2.2.2.1 iQ.out.2.2.2.2).mono ?_; rintro e w6 ⟨V6, rfl, hV6, g6⟩; obtain ⟨b9, A9, n9, c9, C9, m9, d9, b10, A10, n10, c10, C10, m10, d10, rfl, -, -, X6⟩ := hV6.laid; clear hV6) | (go_at_call 43; refine (at_any p0 p1 _ iP.out.1.1 iP.out.1.2.1 iP.out.1.2.2.1 iP.out.1.2.2.2).mono ?_; rintro e w5 ⟨V5, rfl, hV5, g5⟩; obtain ⟨b7, A7, n7, c7, C7, m7, d7, b8, A8, n8, c8, C8, m8, d8, rfl, -, -, X5⟩ := hV5.laid; clear hV5))
                go_wp2_with fail
                go_ret
                exact ⟨_, rfl, by rw [← e1.out]; exact rowC_two (SpotC.kept X5.out g6.keeps) X6.out, ((GY.drew.trans g5).trans g6).alloc _⟩
              ·
                have e1 := e0.out
                simp only [if_true] at e1
                replace e1 := Lib.hid e1
                clear e0 g4 L0 L1 H0 H1
                go_wp2_with fail
                go_ret
                exact ⟨_, rfl, by rw [← e1.out]; exact RowP.nil _ _, GY⟩
          ·
            have e0 := Lib.hid (show (if aheadB q2 q3 p0 p1 = true then [] else [(p0, p1), (q2, q3)]) = CL by rw [← hC.out, if_neg (fun e => hx (congrArg Prod.fst e))])
            clear hC
            obtain ⟨t3, ht3⟩ : ∃ t, aheadB q2 q3 p0 p1 = t := ⟨_, rfl⟩
            rw [ht3] at e0
            replace ht3 := Lib.hid ht3
            obtain ⟨L0, L1, -, -, -⟩ := L.out
            obtain ⟨H0, H1, -, -, -⟩ := H.out
            go_wp2_with fail
            refine (ahead_any q2 q3 p0 p1 _).mono ?_
            rintro e w4 ⟨rfl, g4⟩
            rw [ht3.out]
            have GY := GX.out.trans g4
            cases t3
            ·
              have e1 := e0.out
              simp only [Bool.false_eq_true, if_false] at e1
              replace e1 := Lib.hid e1
              replace L0 := g4.cell L0
              replace L1 := g4.cell L1
              replace H0 := g4.cell H0
              replace H1 := g4.cell H1
              clear e0 g4
              go_wp2_with fail
              go_region_held3 (fun w' => w'.cell? ⟨e5, 0, none⟩ = some (.int .i64 p0) ∧ w'.cell? ⟨e5, 1, none⟩ = some (.int .i64 p1) ∧ w'.cell? ⟨e6, 0, none⟩ = some (.int .i64 q2) ∧ w'.cell? ⟨e6, 1, none⟩ = some (.int .i64 q3))
                (first | exact ⟨L0, L1, H0, H1⟩ | exact ⟨g5.cell L0, g5.cell L1, g5.cell H0, g5.cell H1⟩ | exact ⟨(g5.trans g6).cell L0, (g5.trans g6).cell L1, (g5.trans g6).cell H0, (g5.trans g6).cell H1⟩ | exact ⟨((g5.trans g6).alloc _).cell L0, ((g5.trans g6).alloc _).cell L1, ((g5.trans g6).alloc _).cell H0, ((g5.trans g6).alloc _).cell H1⟩)
                (first | (have chk := g5; clear chk; go_at_call 43; refine (at_any q2 q3 _ iQ.out.2.1 iQ.out.2.2.1 iQ.out.2.2.2.1 iQ.out.2.2.2.2).mono ?_; rintro e w6 ⟨V6, rfl, hV6, g6⟩; obtain ⟨b9, A9, n9, c9, C9, m9, d9, b10, A10, n10, c10, C10, m10, d10, rfl, -, -, X6⟩ := hV6.laid; clear hV6) | (go_at_call 43; refine (at_any p0 p1 _ iP.out.1.1 iP.out.1.2.1 iP.out.1.2.2.1 iP.out.1.2.2.2).mono ?_; rintro e w5 ⟨V5, rfl, hV5, g5⟩; obtain ⟨b7, A7, n7, c7, C7, m7, d7, b8, A8, n8, c8, C8, m8, d8, rfl, -, -, X5⟩ := hV5.laid; clear hV5))
              go_wp2_with fail
              go_ret
              exact ⟨_, rfl, by rw [← e1.out]; exact rowC_two (SpotC.kept X5.out g6.keeps) X6.out, ((GY.drew.trans g5).trans g6).alloc _⟩
            ·
              have e1 := e0.out
              simp only [if_true] at e1
              replace e1 := Lib.hid e1
              clear e0 g4 L0 L1 H0 H1
              go_wp2_with fail
              go_ret
              exact ⟨_, rfl, by rw [← e1.out]; exact RowP.nil _ _, GY⟩
      ·
        obtain ⟨L0, L1, Lf0, Lf1, Ls⟩ := L.out
        obtain ⟨Q0, Q1, Q2, Q3⟩ := Q.out
        go_upto_region 5 with fail
        refine gen_wp ?_
        intro X hX
        obtain ⟨nL, nf, nW, nG, nz⟩ := storeW L.out hX
        replace H := Lib.hid (nW _ _ _ (fun e => hne e.symm) H.out)
        replace Q := Lib.hid (Q.out.far nf (by omega))
        replace L := Lib.hid nL
        replace GX := Lib.hid (nG w (by omega) GX.out)
        clear L0 L1 Lf0 Lf1 Ls Q0 Q1 Q2 Q3 hX nL nf nW nG nz
        obtain ⟨H0, H1, -, -, -⟩ := H.out
        obtain ⟨Q0, Q1, Q2, Q3⟩ := Q.out
        go_wp2_with fail
        refine (ahead_any q2 q3 p2 p3 _).mono ?_
        rintro e w2 ⟨rfl, g2⟩
        rw [ht2.out]
        replace L := Lib.hid (L.out.grew g2)
        replace H := Lib.hid (H.out.grew g2)
        replace Q := Lib.hid (Q.out.grew g2)
        replace GX := Lib.hid (GX.out.trans g2)
        clear g2 H0 H1 Q0 Q1 Q2 Q3
        cases t2
        ·
          have hC := hCL.out
          simp only [Bool.false_eq_true, if_false, if_true] at hC
          replace hC := Lib.hid hC
          by_cases hx : q0 = p2
          · by_cases hy : q1 = p3
            · have e1 := Lib.hid (show [(p2, p3)] = CL by rw [← hC.out, if_pos (show ((q0, q1) : Int × Int) = (p2, p3) by rw [hx, hy]), hx, hy])
              obtain ⟨L0, L1, -, -, -⟩ := L.out
              obtain ⟨H0, H1, -, -, -⟩ := H.out
              rw [hx] at L0
              rw [hy] at L1
              clear hC hx hy
              go_wp2_with fail
              refine (at_any p2 p3 _ iP.out.2.1 iP.out.2.2.1 iP.out.2.2.2.1 iP.out.2.2.2.2).mono ?_
              rintro e w5 ⟨V5, rfl, hV5, g5⟩
              obtain ⟨b7, A7, n7, c7, C7, m7, d7, b8, A8, n8, c8, C8, m8, d8, rfl, -, -, X5⟩ := hV5.laid
              have GY := GX.out.trans g5
              clear hV5 g5 L0 L1 H0 H1
              go_wp2_with fail
              go_ret
              exact ⟨_, rfl, by rw [← e1.out]; exact rowC_one X5.out, GY.alloc _⟩
            ·
              have e0 := Lib.hid (show (if aheadB p2 p3 q0 q1 = true then [] else [(q0, q1), (p2, p3)]) = CL by rw [← hC.out, if_neg (fun e => hy (congrArg Prod.snd e))])
              clear hC hx
              obtain ⟨t3, ht3⟩ : ∃ t, aheadB p2 p3 q0 q1 = t := ⟨_, rfl⟩
              rw [ht3] at e0
              replace ht3 := Lib.hid ht3
              obtain ⟨L0, L1, -, -, -⟩ := L.out
              obtain ⟨H0, H1, -, -, -⟩ := H.out
              go_wp2_with fail
              refine (ahead_any p2 p3 q0 q1 _).mono ?_
              rintro e w4 ⟨rfl, g4⟩
              rw [ht3.out]
              have GY := GX.out.trans g4
              cases t3
              ·
                have e1 := e0.out
                simp only [Bool.false_eq_true, if_false] at e1
                replace e1 := Lib.hid e1
                replace L0 := g4.cell L0
                replace L1 := g4.cell L1
                replace H0 := g4.cell H0
                replace H1 := g4.cell H1
                clear e0 g4
                go_wp2_with fail
                go_region_held3 (fun w' => w'.cell? ⟨e5, 0, none⟩ = some (.int .i64 q0) ∧ w'.cell? ⟨e5, 1, none⟩ = some (.int .i64 q1) ∧ w'.cell? ⟨e6, 0, none⟩ = some (.int .i64 p2) ∧ w'.cell? ⟨e6, 1, none⟩ = some (.int .i64 p3))
                  (first | exact ⟨L0, L1, H0, H1⟩ | exact ⟨g5.cell L0, g5.cell L1, g5.cell H0, g5.cell H1⟩ | exact ⟨(g5.trans g6).cell L0, (g5.trans g6).cell L1, (g5.trans g6).cell H0, (g5.trans g6).cell H1⟩ | exact ⟨((g5.trans g6).alloc _).cell L0, ((g5.trans g6).alloc _).cell L1, ((g5.trans g6).alloc _).cell H0, ((g5.trans g6).alloc _).cell H1⟩)
                  (first | (have chk := g5; clear chk; go_at_call 43; refine (at_any p2 p3 _ iP.out.2.1 iP.out.2.2.1 iP.out.2.2.2.1 iP.out.2.2.2.2).mono ?_; rintro e w6 ⟨V6, rfl, hV6, g6⟩; obtain ⟨b9, A9, n9, c9, C9, m9, d9, b10, A10, n10, c10, C10, m10, d10, rfl, -, -, X6⟩ := hV6.laid; clear hV6) | (go_at_call 43; refine (at_any q0 q1 _ iQ.out.1.1 iQ.out.1.2.1 iQ.out.1.2.2.1 iQ.out.1.2.2.2).mono ?_; rintro e w5 ⟨V5, rfl, hV5, g5⟩; obtain ⟨b7, A7, n7, c7, C7, m7, d7, b8, A8, n8, c8, C8, m8, d8, rfl, -, -, X5⟩ := hV5.laid; clear hV5))
                go_wp2_with fail
                go_ret
                exact ⟨_, rfl, by rw [← e1.out]; exact rowC_two (SpotC.kept X5.out g6.keeps) X6.out, ((GY.drew.trans g5).trans g6).alloc _⟩
              ·
                have e1 := e0.out
                simp only [if_true] at e1
                replace e1 := Lib.hid e1
                clear e0 g4 L0 L1 H0 H1
                go_wp2_with fail
                go_ret
                exact ⟨_, rfl, by rw [← e1.out]; exact RowP.nil _ _, GY⟩
          ·
            have e0 := Lib.hid (show (if aheadB p2 p3 q0 q1 = true then [] else [(q0, q1), (p2, p3)]) = CL by rw [← hC.out, if_neg (fun e => hx (congrArg Prod.fst e))])
            clear hC
            obtain ⟨t3, ht3⟩ : ∃ t, aheadB p2 p3 q0 q1 = t := ⟨_, rfl⟩
            rw [ht3] at e0
            replace ht3 := Lib.hid ht3
            obtain ⟨L0, L1, -, -, -⟩ := L.out
            obtain ⟨H0, H1, -, -, -⟩ := H.out
            go_wp2_with fail
            refine (ahead_any p2 p3 q0 q1 _).mono ?_
            rintro e w4 ⟨rfl, g4⟩
            rw [ht3.out]
            have GY := GX.out.trans g4
            cases t3
            ·
              have e1 := e0.out
              simp only [Bool.false_eq_true, if_false] at e1
              replace e1 := Lib.hid e1
              replace L0 := g4.cell L0
              replace L1 := g4.cell L1
              replace H0 := g4.cell H0
              replace H1 := g4.cell H1
              clear e0 g4
              go_wp2_with fail
              go_region_held3 (fun w' => w'.cell? ⟨e5, 0, none⟩ = some (.int .i64 q0) ∧ w'.cell? ⟨e5, 1, none⟩ = some (.int .i64 q1) ∧ w'.cell? ⟨e6, 0, none⟩ = some (.int .i64 p2) ∧ w'.cell? ⟨e6, 1, none⟩ = some (.int .i64 p3))
                (first | exact ⟨L0, L1, H0, H1⟩ | exact ⟨g5.cell L0, g5.cell L1, g5.cell H0, g5.cell H1⟩ | exact ⟨(g5.trans g6).cell L0, (g5.trans g6).cell L1, (g5.trans g6).cell H0, (g5.trans g6).cell H1⟩ | exact ⟨((g5.trans g6).alloc _).cell L0, ((g5.trans g6).alloc _).cell L1, ((g5.trans g6).alloc _).cell H0, ((g5.trans g6).alloc _).cell H1⟩)
                (first | (have chk := g5; clear chk; go_at_call 43; refine (at_any p2 p3 _ iP.out.2.1 iP.out.2.2.1 iP.out.2.2.2.1 iP.out.2.2.2.2).mono ?_; rintro e w6 ⟨V6, rfl, hV6, g6⟩; obtain ⟨b9, A9, n9, c9, C9, m9, d9, b10, A10, n10, c10, C10, m10, d10, rfl, -, -, X6⟩ := hV6.laid; clear hV6) | (go_at_call 43; refine (at_any q0 q1 _ iQ.out.1.1 iQ.out.1.2.1 iQ.out.1.2.2.1 iQ.out.1.2.2.2).mono ?_; rintro e w5 ⟨V5, rfl, hV5, g5⟩; obtain ⟨b7, A7, n7, c7, C7, m7, d7, b8, A8, n8, c8, C8, m8, d8, rfl, -, -, X5⟩ := hV5.laid; clear hV5))
              go_wp2_with fail
              go_ret
              exact ⟨_, rfl, by rw [← e1.out]; exact rowC_two (SpotC.kept X5.out g6.keeps) X6.out, ((GY.drew.trans g5).trans g6).alloc _⟩
            ·
              have e1 := e0.out
              simp only [if_true] at e1
              replace e1 := Lib.hid e1
              clear e0 g4 L0 L1 H0 H1
              go_wp2_with fail
              go_ret
              exact ⟨_, rfl, by rw [← e1.out]; exact RowP.nil _ _, GY⟩
        ·
          have hC := hCL.out
          simp only [if_true] at hC
          replace hC := Lib.hid hC
          obtain ⟨H0, H1, Hf0, Hf1, Hs⟩ := H.out
          obtain ⟨Q0, Q1, Q2, Q3⟩ := Q.out
          go_upto_region 7 with fail
          refine gen_wp ?_
          intro X hX
          obtain ⟨nH, nf, nW, nG, nz⟩ := storeW H.out hX
          replace L := Lib.hid (nW _ _ _ hne L.out)
          replace H := Lib.hid nH
          replace GX := Lib.hid (nG w (by omega) GX.out)
          clear H0 H1 Hf0 Hf1 Hs Q0 Q1 Q2 Q3 hX nH nf nW nG nz Q
          by_cases hx : q0 = q2
          · by_cases hy : q1 = q3
            · have e1 := Lib.hid (show [(q2, q3)] = CL by rw [← hC.out, if_pos (show ((q0, q1) : Int × Int) = (q2, q3) by rw [hx, hy]), hx, hy])
              obtain ⟨L0, L1, -, -, -⟩ := L.out
              obtain ⟨H0, H1, -, -, -⟩ := H.out
              rw [hx] at L0
              rw [hy] at L1
              clear hC hx hy
              go_wp2_with fail
              refine (at_any q2 q3 _ iQ.out.2.1 iQ.out.2.2.1 iQ.out.2.2.2.1 iQ.out.2.2.2.2).mono ?_
              rintro e w5 ⟨V5, rfl, hV5, g5⟩
              obtain ⟨b7, A7, n7, c7, C7, m7, d7, b8, A8, n8, c8, C8, m8, d8, rfl, -, -, X5⟩ := hV5.laid
              have GY := GX.out.trans g5
              clear hV5 g5 L0 L1 H0 H1
              go_wp2_with fail
              go_ret
              exact ⟨_, rfl, by rw [← e1.out]; exact rowC_one X5.out, GY.alloc _⟩
            ·
              have e0 := Lib.hid (show (if aheadB q2 q3 q0 q1 = true then [] else [(q0, q1), (q2, q3)]) = CL by rw [← hC.out, if_neg (fun e => hy (congrArg Prod.snd e))])
              clear hC hx
              obtain ⟨t3, ht3⟩ : ∃ t, aheadB q2 q3 q0 q1 = t := ⟨_, rfl⟩
              rw [ht3] at e0
              replace ht3 := Lib.hid ht3
              obtain ⟨L0, L1, -, -, -⟩ := L.out
              obtain ⟨H0, H1, -, -, -⟩ := H.out
              go_wp2_with fail
              refine (ahead_any q2 q3 q0 q1 _).mono ?_
              rintro e w4 ⟨rfl, g4⟩
              rw [ht3.out]
              have GY := GX.out.trans g4
              cases t3
              ·
                have e1 := e0.out
                simp only [Bool.false_eq_true, if_false] at e1
                replace e1 := Lib.hid e1
                replace L0 := g4.cell L0
                replace L1 := g4.cell L1
                replace H0 := g4.cell H0
                replace H1 := g4.cell H1
                clear e0 g4
                go_wp2_with fail
                go_region_held3 (fun w' => w'.cell? ⟨e5, 0, none⟩ = some (.int .i64 q0) ∧ w'.cell? ⟨e5, 1, none⟩ = some (.int .i64 q1) ∧ w'.cell? ⟨e6, 0, none⟩ = some (.int .i64 q2) ∧ w'.cell? ⟨e6, 1, none⟩ = some (.int .i64 q3))
                  (first | exact ⟨L0, L1, H0, H1⟩ | exact ⟨g5.cell L0, g5.cell L1, g5.cell H0, g5.cell H1⟩ | exact ⟨(g5.trans g6).cell L0, (g5.trans g6).cell L1, (g5.trans g6).cell H0, (g5.trans g6).cell H1⟩ | exact ⟨((g5.trans g6).alloc _).cell L0, ((g5.trans g6).alloc _).cell L1, ((g5.trans g6).alloc _).cell H0, ((g5.trans g6).alloc _).cell H1⟩)
                  (first | (have chk := g5; clear chk; go_at_call 43; refine (at_any q2 q3 _ iQ.out.2.1 iQ.out.2.2.1 iQ.out.2.2.2.1 iQ.out.2.2.2.2).mono ?_; rintro e w6 ⟨V6, rfl, hV6, g6⟩; obtain ⟨b9, A9, n9, c9, C9, m9, d9, b10, A10, n10, c10, C10, m10, d10, rfl, -, -, X6⟩ := hV6.laid; clear hV6) | (go_at_call 43; refine (at_any q0 q1 _ iQ.out.1.1 iQ.out.1.2.1 iQ.out.1.2.2.1 iQ.out.1.2.2.2).mono ?_; rintro e w5 ⟨V5, rfl, hV5, g5⟩; obtain ⟨b7, A7, n7, c7, C7, m7, d7, b8, A8, n8, c8, C8, m8, d8, rfl, -, -, X5⟩ := hV5.laid; clear hV5))
                go_wp2_with fail
                go_ret
                exact ⟨_, rfl, by rw [← e1.out]; exact rowC_two (SpotC.kept X5.out g6.keeps) X6.out, ((GY.drew.trans g5).trans g6).alloc _⟩
              ·
                have e1 := e0.out
                simp only [if_true] at e1
                replace e1 := Lib.hid e1
                clear e0 g4 L0 L1 H0 H1
                go_wp2_with fail
                go_ret
                exact ⟨_, rfl, by rw [← e1.out]; exact RowP.nil _ _, GY⟩
          ·
            have e0 := Lib.hid (show (if aheadB q2 q3 q0 q1 = true then [] else [(q0, q1), (q2, q3)]) = CL by rw [← hC.out, if_neg (fun e => hx (congrArg Prod.fst e))])
            clear hC
            obtain ⟨t3, ht3⟩ : ∃ t, aheadB q2 q3 q0 q1 = t := ⟨_, rfl⟩
            rw [ht3] at e0
            replace ht3 := Lib.hid ht3
            obtain ⟨L0, L1, -, -, -⟩ := L.out
            obtain ⟨H0, H1, -, -, -⟩ := H.out
            go_wp2_with fail
            refine (ahead_any q2 q3 q0 q1 _).mono ?_
            rintro e w4 ⟨rfl, g4⟩
            rw [ht3.out]
            have GY := GX.out.trans g4
            cases t3
            ·
              have e1 := e0.out
              simp only [Bool.false_eq_true, if_false] at e1
              replace e1 := Lib.hid e1
              replace L0 := g4.cell L0
              replace L1 := g4.cell L1
              replace H0 := g4.cell H0
              replace H1 := g4.cell H1
              clear e0 g4
              go_wp2_with fail
              go_region_held3 (fun w' => w'.cell? ⟨e5, 0, none⟩ = some (.int .i64 q0) ∧ w'.cell? ⟨e5, 1, none⟩ = some (.int .i64 q1) ∧ w'.cell? ⟨e6, 0, none⟩ = some (.int .i64 q2) ∧ w'.cell? ⟨e6, 1, none⟩ = some (.int .i64 q3))
                (first | exact ⟨L0, L1, H0, H1⟩ | exact ⟨g5.cell L0, g5.cell L1, g5.cell H0, g5.cell H1⟩ | exact ⟨(g5.trans g6).cell L0, (g5.trans g6).cell L1, (g5.trans g6).cell H0, (g5.trans g6).cell H1⟩ | exact ⟨((g5.trans g6).alloc _).cell L0, ((g5.trans g6).alloc _).cell L1, ((g5.trans g6).alloc _).cell H0, ((g5.trans g6).alloc _).cell H1⟩)
                (first | (have chk := g5; clear chk; go_at_call 43; refine (at_any q2 q3 _ iQ.out.2.1 iQ.out.2.2.1 iQ.out.2.2.2.1 iQ.out.2.2.2.2).mono ?_; rintro e w6 ⟨V6, rfl, hV6, g6⟩; obtain ⟨b9, A9, n9, c9, C9, m9, d9, b10, A10, n10, c10, C10, m10, d10, rfl, -, -, X6⟩ := hV6.laid; clear hV6) | (go_at_call 43; refine (at_any q0 q1 _ iQ.out.1.1 iQ.out.1.2.1 iQ.out.1.2.2.1 iQ.out.1.2.2.2).mono ?_; rintro e w5 ⟨V5, rfl, hV5, g5⟩; obtain ⟨b7, A7, n7, c7, C7, m7, d7, b8, A8, n8, c8, C8, m8, d8, rfl, -, -, X5⟩ := hV5.laid; clear hV5))
              go_wp2_with fail
              go_ret
              exact ⟨_, rfl, by rw [← e1.out]; exact rowC_two (SpotC.kept X5.out g6.keeps) X6.out, ((GY.drew.trans g5).trans g6).alloc _⟩
            ·
              have e1 := e0.out
              simp only [if_true] at e1
              replace e1 := Lib.hid e1
              clear e0 g4 L0 L1 H0 H1
              go_wp2_with fail
              go_ret
              exact ⟨_, rfl, by rw [← e1.out]; exact RowP.nil _ _, GY⟩
end Go.Proofs.Ytpglnfccmhkocaa
namespace Go.Proofs.Ytpglnfccmhkocaa
open Go.RowKit

theorem lieZ_kinds {ax ay bx b_y cx cy dx dy k n d : Int} (ha : fitB ax ay = true) (hb : fitB bx b_y = true) (hc : fitB cx cy = true) (hd : fitB dx dy = true) (h : lieZ ax ay bx b_y cx cy dx dy = (k, n, d)) :
    (k = 0 ∨ k = 1 ∨ k = 2) ∧ (k = 1 → d ≠ 0 ∧ In64 n d) := by
  have i1 := (fitB_iff _ _).1 ha
  have i2 := (fitB_iff _ _).1 hb
  have i3 := (fitB_iff _ _).1 hc
  have i4 := (fitB_iff _ _).1 hd
  have r1 : In24 (bx - ax) := by unfold In24; omega
  have r2 : In24 (b_y - ay) := by unfold In24; omega
  have r3 : In24 (dx - cx) := by unfold In24; omega
  have r4 : In24 (dy - cy) := by unfold In24; omega
  have r5 : In24 (cx - ax) := by unfold In24; omega
  have r6 : In24 (cy - ay) := by unfold In24; omega
  have b1 := cross24 r1 r2 r3 r4
  have b2 := cross24 r5 r6 r3 r4
  have fin : ∀ (c : Prop) [Decidable c], (if c then ((2 : Int), (0 : Int), (0 : Int)) else (0, 0, 0)) = (k, n, d) → k = 0 ∨ k = 2 := by
    intro c _ h
    split at h <;> (simp only [Prod.mk.injEq] at h; omega)
  have fin2 : ∀ (c : Prop) [Decidable c] (u v : Int), (if c then ((1 : Int), u, v) else (0, 0, 0)) = (k, n, d) → (k = 1 ∧ u = n ∧ v = d) ∨ k = 0 := by
    intro c _ u v h
    split at h <;> (simp only [Prod.mk.injEq] at h; omega)
  unfold lieZ at h
  by_cases h0 : crossZ (bx - ax) (b_y - ay) (dx - cx) (dy - cy) = 0
  · have h1 := h
    rw [if_pos h0] at h1
    rcases fin _ h1 with e | e <;> exact ⟨by omega, fun h => by omega⟩
  · have h1 := h
    rw [if_neg h0] at h1
    rcases fin2 _ _ _ h1 with ⟨e, rfl, rfl⟩ | e
    · exact ⟨by omega, fun _ => ⟨h0, by unfold In64; omega⟩⟩
    · exact ⟨by omega, fun h => by omega⟩

theorem lie_g (ax ay bx b_y cx cy dx dy k n d : Int) (w : World) (ha : fitB ax ay = true) (hb : fitB bx b_y = true) (hc : fitB cx cy = true) (hd : fitB dx dy = true) (h : lieZ ax ay bx b_y cx cy dx dy = (k, n, d)) :
    Calls Try.prog 45 #[segV ax ay bx b_y, segV cx cy dx dy] w fun e w' => e = .returned (.tuple #[.int .i64 k, .int .i64 n, .int .i64 d]) ∧ Grew w w' :=
  (lie_any ax ay bx b_y cx cy dx dy w ha hb hc hd).mono fun _ _ ⟨h1, h2⟩ => ⟨by rw [h1, h], h2⟩

/-- Where two ways meet, as the program finds it. -/
def meetQ (ax ay bx b_y cx cy dx dy : Int) : List (Rat × Rat) :=
  if (fitB ax ay && fitB bx b_y) = true ∧ (fitB cx cy && fitB dx dy) = true then
    (if (lieZ ax ay bx b_y cx cy dx dy).1 = 1 then
      [((ax : Rat) + (((bx - ax) * (lieZ ax ay bx b_y cx cy dx dy).2.1 : Int) : Rat) / ((lieZ ax ay bx b_y cx cy dx dy).2.2 : Rat), (ay : Rat) + (((b_y - ay) * (lieZ ax ay bx b_y cx cy dx dy).2.1 : Int) : Rat) / ((lieZ ax ay bx b_y cx cy dx dy).2.2 : Rat))]
    else if (lieZ ax ay bx b_y cx cy dx dy).1 = 2 then
      (if (ax = bx ∧ ay = b_y) ∧ (cx = dx ∧ cy = dy) ∧ ¬ (ax = cx ∧ ay = cy) then [] else (commonZ (sortZ ax ay bx b_y) (sortZ cx cy dx dy)).map castP)
    else [])
  else []


set_option maxRecDepth 100000 in
set_option maxHeartbeats 8000000 in
theorem meet_any (ax ay bx b_y cx cy dx dy : Int) (w : World) (ra : In64 ax ay) (rb : In64 bx b_y) (rc : In64 cx cy) (rd : In64 dx dy) :
    Calls Try.prog 14 #[segV ax ay bx b_y, segV cx cy dx dy] w fun e w' => ∃ v, e = .returned v ∧ RowC w' v (meetQ ax ay bx b_y cx cy dx dy) ∧ Grew w w' := by
  obtain ⟨ML, hML⟩ : ∃ ML, meetQ ax ay bx b_y cx cy dx dy = ML := ⟨_, rfl⟩
  rw [hML]
  unfold meetQ at hML
  replace ra := Lib.hid ra
  replace rb := Lib.hid rb
  replace rc := Lib.hid rc
  replace rd := Lib.hid rd
  obtain ⟨s, hs⟩ : ∃ s, (fitB ax ay && fitB bx b_y) = s := ⟨_, rfl⟩
  obtain ⟨t, ht⟩ : ∃ t, (fitB cx cy && fitB dx dy) = t := ⟨_, rfl⟩
  rw [hs, ht] at hML
  have hs' := Lib.hid hs
  have ht' := Lib.hid ht
  replace hML := Lib.hid hML
  replace hs := Lib.hid hs
  replace ht := Lib.hid ht
  go_enter Try.func14, Try.ntmps14
  go_wp2_with fail
  refine gen_calls ?_
  intro W0 hW0
  have G0 : Grew w W0 := by rw [hW0]; exact ((Grew.refl w).alloc _).alloc _
  have P : Box4 W0 (w.heap.size) 0 (.int .i64 ax) (.int .i64 ay) (.int .i64 bx) (.int .i64 b_y) := by rw [hW0]; exact ⟨by simp [go_sem], by simp [go_sem], by simp [go_sem], by simp [go_sem]⟩
  replace P := Lib.hid P
  have Q : Box4 W0 (w.heap.size + 1) 0 (.int .i64 cx) (.int .i64 cy) (.int .i64 dx) (.int .i64 dy) := by rw [hW0]; exact ⟨by simp [go_sem], by simp [go_sem], by simp [go_sem], by simp [go_sem]⟩
  replace Q := Lib.hid Q
  have z0 : w.heap.size < W0.heap.size := by rw [hW0]; simp <;> omega
  replace z0 := Lib.hid z0
  have z1 : w.heap.size + 1 < W0.heap.size := by rw [hW0]; simp <;> omega
  replace z1 := Lib.hid z1
  clear hW0
  replace G0 := Lib.hid G0
  refine (cmay_any ax ay bx b_y _).mono ?_
  rintro e w1 ⟨rfl, g1⟩
  replace P := Lib.hid (P.out.grew g1)
  replace Q := Lib.hid (Q.out.grew g1)
  replace z0 := Lib.hid (lt_grew z0.out g1)
  replace z1 := Lib.hid (lt_grew z1.out g1)
  replace G0 := Lib.hid (G0.out.trans g1)
  clear g1
  rw [hs.out]

  cases s
  ·
    have e := Lib.hid (show [] = ML by rw [← hML.out, if_neg (by simp)])
    go_wp2_with fail
    go_ret
    exact ⟨_, rfl, by rw [← e.out]; exact RowP.nil _ _, G0.out⟩
  ·

    obtain ⟨P0, P1, P2, P3⟩ := P.out
    obtain ⟨Q0, Q1, Q2, Q3⟩ := Q.out
    go_wp2_with fail
    clear P0 P1 P2 P3 Q0 Q1 Q2 Q3
    refine (cmay_any cx cy dx dy _).mono ?_
    rintro e w2 ⟨rfl, g2⟩
    replace P := Lib.hid (P.out.grew g2)
    replace Q := Lib.hid (Q.out.grew g2)
    replace z0 := Lib.hid (lt_grew z0.out g2)
    replace z1 := Lib.hid (lt_grew z1.out g2)
    replace G0 := Lib.hid (G0.out.trans g2)
    clear g2
    rw [ht.out]
    cases t
    ·
      have e := Lib.hid (show [] = ML by rw [← hML.out, if_neg (by simp)])
      go_wp2_with fail
      go_ret
      exact ⟨_, rfl, by rw [← e.out]; exact RowP.nil _ _, G0.out⟩
    ·
      have hM := hML.out
      rw [if_pos (by simp)] at hM
      have f1 := hs'.out
      have f2 := ht'.out
      rw [Bool.and_eq_true] at f1 f2
      obtain ⟨⟨k, n, d⟩, hL⟩ : ∃ L, lieZ ax ay bx b_y cx cy dx dy = L := ⟨_, rfl⟩
      have hk := lieZ_kinds f1.1 f1.2 f2.1 f2.2 hL
      rw [hL] at hM
      simp only at hM
      have F1 := Lib.hid f1
      have F2 := Lib.hid f2
      replace hL := Lib.hid hL
      replace hM := Lib.hid hM
      obtain ⟨hk1, hk2⟩ := hk
      replace hk2 := Lib.hid hk2
      clear hML hs ht hs' ht' f1 f2
      obtain ⟨P0, P1, P2, P3⟩ := P.out
      obtain ⟨Q0, Q1, Q2, Q3⟩ := Q.out
      go_wp2_with fail
      clear P0 P1 P2 P3 Q0 Q1 Q2 Q3
      refine (lie_g ax ay bx b_y cx cy dx dy k n d _ F1.out.1 F1.out.2 F2.out.1 F2.out.2 hL.out).mono ?_
      rintro e w3 ⟨rfl, g3⟩
      replace P := Lib.hid (P.out.grew g3)
      replace Q := Lib.hid (Q.out.grew g3)
      replace z0 := Lib.hid (lt_grew z0.out g3)
      replace z1 := Lib.hid (lt_grew z1.out g3)
      replace G0 := Lib.hid (G0.out.trans g3)
      clear g3

      rcases hk1 with rfl | rfl | rfl
      ·
        have e := Lib.hid (show [] = ML by rw [← hM.out, if_neg (by omega), if_neg (by omega)])
        clear hM
        go_wp2_with fail
        go_ret
        exact ⟨_, rfl, by rw [← e.out]; exact RowP.nil _ _, G0.out⟩
      ·

        have e := Lib.hid (hM.out.symm.trans (if_pos rfl))
        obtain ⟨hd0, hnd⟩ := hk2.out rfl
        replace hnd := Lib.hid hnd
        clear hM
        obtain ⟨P0, P1, P2, P3⟩ := P.out
        go_wp2_with fail
        clear P0 P1 P2 P3
        refine (point_any ax ay bx b_y n d _ F1.out.1 F1.out.2 hnd.out hd0).mono ?_
        rintro e w4 ⟨V, rfl, hV, g4⟩
        replace P := Lib.hid (P.out.grew g4)
        replace Q := Lib.hid (Q.out.grew g4)
        replace z0 := Lib.hid (lt_grew z0.out g4)
        replace z1 := Lib.hid (lt_grew z1.out g4)
        replace G0 := Lib.hid (G0.out.trans g4)
        clear g4
        obtain ⟨b7, A7, n7, c7, C7, m7, d7, b8, A8, n8, c8, C8, m8, d8, rfl, -, -, X5⟩ := hV.laid
        clear hV
        go_wp2_with fail
        go_ret
        exact ⟨_, rfl, by rw [e.out]; exact rowC_one X5.out, G0.out.alloc _⟩
      ·
        have hM2 := hM.out
        rw [if_neg (show ¬ (2 : Int) = 1 by omega), if_pos (show (2 : Int) = 2 from rfl)] at hM2
        replace hM2 := Lib.hid hM2
        clear hM hL hk2 F1 F2
        by_cases a1 : ax = bx
        ·
          subst a1
          by_cases a2 : ay = b_y
          ·
            subst a2
            by_cases c1 : cx = dx
            ·
              subst c1
              by_cases c2 : cy = dy
              ·
                subst c2
                by_cases e1 : ax = cx
                ·
                  subst e1
                  by_cases e2 : ay = cy
                  ·
                    subst e2
                    have ee := Lib.hid (hM2.out.symm.trans (if_neg (fun h => h.2.2 ⟨rfl, rfl⟩)))
                    clear hM2

                    skip
                    skip
                    obtain ⟨P0, P1, P2, P3⟩ := P.out
                    obtain ⟨Q0, Q1, Q2, Q3⟩ := Q.out
                    go_wp2_with fail
                    clear P0 P1 P2 P3 Q0 Q1 Q2 Q3
                    refine (common_any ax ay ax ay ax ay ax ay _ ra.out rb.out rc.out rd.out).mono ?_
                    rintro e w4 ⟨v, rfl, hv, g4⟩
                    replace P := Lib.hid (P.out.grew g4)
                    replace Q := Lib.hid (Q.out.grew g4)
                    replace z0 := Lib.hid (lt_grew z0.out g4)
                    replace z1 := Lib.hid (lt_grew z1.out g4)
                    replace G0 := Lib.hid (G0.out.trans g4)
                    clear g4
                    go_wp2_with fail
                    go_ret
                    exact ⟨_, rfl, by rw [ee.out]; exact hv, G0.out⟩
                  ·
                    have ee := Lib.hid (hM2.out.symm.trans (if_pos ⟨⟨rfl, rfl⟩, ⟨rfl, rfl⟩, fun h => e2 h.2⟩))
                    clear hM2

                    skip
                    skip
                    obtain ⟨P0, P1, P2, P3⟩ := P.out
                    obtain ⟨Q0, Q1, Q2, Q3⟩ := Q.out
                    go_wp2_with fail
                    clear P0 P1 P2 P3 Q0 Q1 Q2 Q3
                    go_ret
                    exact ⟨_, rfl, by rw [ee.out]; exact RowP.nil _ _, G0.out⟩
                ·
                  have ee := Lib.hid (hM2.out.symm.trans (if_pos ⟨⟨rfl, rfl⟩, ⟨rfl, rfl⟩, fun h => e1 h.1⟩))
                  clear hM2

                  skip
                  skip
                  obtain ⟨P0, P1, P2, P3⟩ := P.out
                  obtain ⟨Q0, Q1, Q2, Q3⟩ := Q.out
                  go_wp2_with fail
                  clear P0 P1 P2 P3 Q0 Q1 Q2 Q3
                  go_ret
                  exact ⟨_, rfl, by rw [ee.out]; exact RowP.nil _ _, G0.out⟩
              ·
                have ee := Lib.hid (hM2.out.symm.trans (if_neg (fun h => c2 h.2.1.2)))
                clear hM2

                skip
                skip
                obtain ⟨P0, P1, P2, P3⟩ := P.out
                obtain ⟨Q0, Q1, Q2, Q3⟩ := Q.out
                go_wp2_with fail
                clear P0 P1 P2 P3 Q0 Q1 Q2 Q3
                refine (common_any ax ay ax ay cx cy cx dy _ ra.out rb.out rc.out rd.out).mono ?_
                rintro e w4 ⟨v, rfl, hv, g4⟩
                replace P := Lib.hid (P.out.grew g4)
                replace Q := Lib.hid (Q.out.grew g4)
                replace z0 := Lib.hid (lt_grew z0.out g4)
                replace z1 := Lib.hid (lt_grew z1.out g4)
                replace G0 := Lib.hid (G0.out.trans g4)
                clear g4
                go_wp2_with fail
                go_ret
                exact ⟨_, rfl, by rw [ee.out]; exact hv, G0.out⟩
            ·
              have ee := Lib.hid (hM2.out.symm.trans (if_neg (fun h => c1 h.2.1.1)))
              clear hM2

              skip
              skip
              obtain ⟨P0, P1, P2, P3⟩ := P.out
              obtain ⟨Q0, Q1, Q2, Q3⟩ := Q.out
              go_wp2_with fail
              clear P0 P1 P2 P3 Q0 Q1 Q2 Q3
              refine (common_any ax ay ax ay cx cy dx dy _ ra.out rb.out rc.out rd.out).mono ?_
              rintro e w4 ⟨v, rfl, hv, g4⟩
              replace P := Lib.hid (P.out.grew g4)
              replace Q := Lib.hid (Q.out.grew g4)
              replace z0 := Lib.hid (lt_grew z0.out g4)
              replace z1 := Lib.hid (lt_grew z1.out g4)
              replace G0 := Lib.hid (G0.out.trans g4)
              clear g4
              go_wp2_with fail
              go_ret
              exact ⟨_, rfl, by rw [ee.out]; exact hv, G0.out⟩
          ·
            have ee := Lib.hid (hM2.out.symm.trans (if_neg (fun h => a2 h.1.2)))
            clear hM2

            skip
            skip
            obtain ⟨P0, P1, P2, P3⟩ := P.out
            obtain ⟨Q0, Q1, Q2, Q3⟩ := Q.out
            go_wp2_with fail
            clear P0 P1 P2 P3 Q0 Q1 Q2 Q3
            refine (common_any ax ay ax b_y cx cy dx dy _ ra.out rb.out rc.out rd.out).mono ?_
            rintro e w4 ⟨v, rfl, hv, g4⟩
            replace P := Lib.hid (P.out.grew g4)
            replace Q := Lib.hid (Q.out.grew g4)
            replace z0 := Lib.hid (lt_grew z0.out g4)
            replace z1 := Lib.hid (lt_grew z1.out g4)
            replace G0 := Lib.hid (G0.out.trans g4)
            clear g4
            go_wp2_with fail
            go_ret
            exact ⟨_, rfl, by rw [ee.out]; exact hv, G0.out⟩
        ·
          have ee := Lib.hid (hM2.out.symm.trans (if_neg (fun h => a1 h.1.1)))
          clear hM2

          skip
          skip
          obtain ⟨P0, P1, P2, P3⟩ := P.out
          obtain ⟨Q0, Q1, Q2, Q3⟩ := Q.out
          go_wp2_with fail
          clear P0 P1 P2 P3 Q0 Q1 Q2 Q3
          refine (common_any ax ay bx b_y cx cy dx dy _ ra.out rb.out rc.out rd.out).mono ?_
          rintro e w4 ⟨v, rfl, hv, g4⟩
          replace P := Lib.hid (P.out.grew g4)
          replace Q := Lib.hid (Q.out.grew g4)
          replace z0 := Lib.hid (lt_grew z0.out g4)
          replace z1 := Lib.hid (lt_grew z1.out g4)
          replace G0 := Lib.hid (G0.out.trans g4)
          clear g4
          go_wp2_with fail
          go_ret
          exact ⟨_, rfl, by rw [ee.out]; exact hv, G0.out⟩
end Go.Proofs.Ytpglnfccmhkocaa
