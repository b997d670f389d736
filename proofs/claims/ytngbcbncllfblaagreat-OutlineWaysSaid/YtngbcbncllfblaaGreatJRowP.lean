/- Spots as they come in; areas, places and order of spots, without a program. Conditions: none. Rows of spots: as they come in, and as a call owns them. Conditions: none. Rows of spots: what the document does with them, without a program; the type of a spot. Conditions: none. Plain: the document's row is in order, each once, and holds what came in. Conditions: none. -/
import Derived.Test.YtngbcbncllfblaaGreatJKit2
import Derived.Test.YtngbcbncllfblaaGreatJRoundsP
import Derived.Test.YtngbcbncllfblaaGreatJRow1
namespace Go.Proofs.YtngbcbncllfblaaGreat
open Go.RowKit

/-- A spot as it comes in, all parts of at most k words, whatever they are. -/
def SpotR (w : World) (V : Value) (x y : Rat) (k : Nat) : Prop := ∃ b A n c C m d b' A' n' c' C' m' d', V = .agg #[.bool b, .slice A n c, .slice C m d, .bool b', .slice A' n' c', .slice C' m' d'] ∧
  FracR w (.agg #[.bool b, .slice A n c, .slice C m d]) x k ∧ FracR w (.agg #[.bool b', .slice A' n' c', .slice C' m' d']) y k
theorem SpotR.kept {w w' : World} {V : Value} {x y : Rat} {k : Nat} (h : SpotR w V x y k) (g : Keeps w w') : SpotR w' V x y k := by
  obtain ⟨b, A, n, c, C, m, d, b', A', n', c', C', m', d', e, h1, h2⟩ := h
  exact ⟨b, A, n, c, C, m, d, b', A', n', c', C', m', d', e, h1.kept g, h2.kept g⟩
theorem SpotR.v {w : World} {V : Value} {x y : Rat} {k : Nat} (h : SpotR w V x y k) : SpotV w V x y k := by
  obtain ⟨b, A, n, c, C, m, d, b', A', n', c', C', m', d', e, h1, h2⟩ := h
  exact ⟨b, A, n, c, C, m, d, b', A', n', c', C', m', d', e, h1.v, h2.v⟩
theorem SpotR.laid {w : World} {V : Value} {x y : Rat} {k : Nat} (h : SpotR w V x y k) : ∃ b A n c C m d b' A' n' c' C' m' d', V = .agg #[.bool b, .slice A n c, .slice C m d, .bool b', .slice A' n' c', .slice C' m' d'] ∧
    Hid (FracR w (.agg #[.bool b, .slice A n c, .slice C m d]) x k) ∧ Hid (FracR w (.agg #[.bool b', .slice A' n' c', .slice C' m' d']) y k) ∧
    Hid (SpotR w (.agg #[.bool b, .slice A n c, .slice C m d, .bool b', .slice A' n' c', .slice C' m' d']) x y k) := by
  have h' := h
  obtain ⟨b, A, n, c, C, m, d, b', A', n', c', C', m', d', rfl, h1, h2⟩ := h'
  exact ⟨b, A, n, c, C, m, d, b', A', n', c', C', m', d', rfl, h1, h2, h⟩
theorem SpotC.r {w : World} {V : Value} {x y : Rat} {k : Nat} (h : SpotC w V x y) (b1 : QB x k) (b2 : QB y k) : SpotR w V x y k := by
  obtain ⟨b, A, n, c, C, m, d, b', A', n', c', C', m', d', e, h1, h2⟩ := h
  exact ⟨b, A, n, c, C, m, d, b', A', n', c', C', m', d', e, h1.r b1, h2.r b2⟩

/-- How two spots stand: by the first part, then by the second. -/
def spotCmp (ax ay bx b_y : Rat) : Int := if cmpQ ax bx = 0 then cmpQ ay b_y else cmpQ ax bx

end Go.Proofs.YtngbcbncllfblaaGreat
namespace Go.Proofs.YtngbcbncllfblaaGreat
open Go.RowKit

end Go.Proofs.YtngbcbncllfblaaGreat
namespace Go.Proofs.YtngbcbncllfblaaGreat
open Go.RowKit

theorem noint6 (b b' : Bool) (A C A' C' : Option Addr) (n c m d n' c' m' d' : Nat) : ∀ u ∈ #[Value.bool b, .slice A n c, .slice C m d, .bool b', .slice A' n' c', .slice C' m' d'].toList, NoInt u := by
  intro u hu
  simp at hu
  rcases hu with rfl | rfl | rfl | rfl | rfl | rfl <;> intro k x e <;> simp at e
theorem one6 (b b' : Bool) (A C A' C' : Option Addr) (n c m d n' c' m' d' : Nat) : ∀ u ∈ #[Value.bool b, .slice A n c, .slice C m d, .bool b', .slice A' n' c', .slice C' m' d'].toList, u.oneCell' = true := by
  intro u hu
  simp at hu
  rcases hu with rfl | rfl | rfl | rfl | rfl | rfl <;> rfl

end Go.Proofs.YtngbcbncllfblaaGreat
namespace Go.Proofs.YtngbcbncllfblaaGreat
open Go.RowKit

theorem cmpQ_zero {a b : Rat} : cmpQ a b = 0 ↔ a = b := by
  unfold cmpQ
  constructor
  · intro h
    split at h
    · omega
    · split at h
      · omega
      · grind
  · intro h
    subst h
    rw [if_neg (by grind), if_neg (by grind)]

theorem spotCmp_zero {p q : Rat × Rat} : spotCmp p.1 p.2 q.1 q.2 = 0 ↔ p = q := by
  unfold spotCmp
  constructor
  · intro h
    split at h
    · next e => exact Prod.ext (cmpQ_zero.1 e) (cmpQ_zero.1 h)
    · next e => exact absurd h e
  · rintro rfl
    rw [if_pos (cmpQ_zero.2 rfl)]; exact cmpQ_zero.2 rfl
/-- Ahead of: by the first part, then by the second. -/
def spotLt (p q : Rat × Rat) : Prop := p.1 < q.1 ∨ (p.1 = q.1 ∧ p.2 < q.2)
theorem cmpQ_neg {a b : Rat} : cmpQ a b < 0 ↔ a < b := by
  unfold cmpQ
  constructor
  · intro h
    split at h
    · assumption
    · split at h <;> omega
  · intro h; rw [if_pos h]; omega
theorem spotCmp_neg {p q : Rat × Rat} : spotCmp p.1 p.2 q.1 q.2 < 0 ↔ spotLt p q := by
  unfold spotCmp spotLt
  by_cases h : p.1 = q.1
  · rw [if_pos (cmpQ_zero.2 h), cmpQ_neg]
    constructor
    · intro g; exact .inr ⟨h, g⟩
    · intro g; rcases g with g | g
      · exact absurd h (by grind)
      · exact g.2
  · rw [if_neg (fun e => h (cmpQ_zero.1 e)), cmpQ_neg]
    constructor
    · intro g; exact .inl g
    · intro g; rcases g with g | g
      · exact g
      · exact absurd g.1 h
theorem spotLt_trans {p q r : Rat × Rat} (h : spotLt p q) (k : spotLt q r) : spotLt p r := by
  unfold spotLt at *; grind
theorem spotLt_tri (p q : Rat × Rat) : spotLt p q ∨ p = q ∨ spotLt q p := by
  unfold spotLt
  by_cases h : p.1 = q.1
  · by_cases k : p.2 = q.2
    · exact .inr (.inl (Prod.ext h k))
    · grind
  · grind
theorem spotLt_irr {p q : Rat × Rat} (h : spotLt p q) (k : spotLt q p) : False := by
  unfold spotLt at *; grind
end Go.Proofs.YtngbcbncllfblaaGreat
