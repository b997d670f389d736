/- Plain: alike neighbours, each once; what is sorted and so reduced is the document's row. Conditions: none. A row of spots that a call owns: off its block and onto it; one element stored anew; its tail cleared. Conditions: none. Spots as elements of a row. Conditions: none. Edges as elements of a row; their order. Conditions: none. -/
import Derived.Test.YtngbcbncllfblaaGreatJRowP
import Derived.Shelf.SlSortCmp.InsertionK
import Derived.Test.YtngbcbncllfblaaGreatJGrowE
namespace Go.Proofs.YtngbcbncllfblaaGreat
open Go.RowKit

end Go.Proofs.YtngbcbncllfblaaGreat
namespace Go.Proofs.YtngbcbncllfblaaGreat
open Go.RowKit

end Go.Proofs.YtngbcbncllfblaaGreat
namespace Go.Proofs.YtngbcbncllfblaaGreat
open Go.RowKit

/-- Six cells that are a spot, reduced. -/
def Spot6R (w : World) (us : Array Value) (p : Rat × Rat) : Prop := SpotC w (.agg us) p.1 p.2
theorem says_spot : Says 6 Spot6R where
  size h := by
    obtain ⟨b, A, n, c, C, m, d, b', A', n', c', C', m', d', e, -, -⟩ := h
    injection e with e; subst e; rfl
  one h := by
    obtain ⟨b, A, n, c, C, m, d, b', A', n', c', C', m', d', e, -, -⟩ := h
    injection e with e; subst e; exact one6 _ _ _ _ _ _ _ _ _ _ _ _ _ _
  noint h := by
    obtain ⟨b, A, n, c, C, m, d, b', A', n', c', C', m', d', e, -, -⟩ := h
    injection e with e; subst e; exact noint6 _ _ _ _ _ _ _ _ _ _ _ _ _ _
  kept h k := SpotC.kept h k
end Go.Proofs.YtngbcbncllfblaaGreat
namespace Go.Proofs.YtngbcbncllfblaaGreat
open Go.RowKit

/-- An edge: two spots. -/
abbrev EdgeQ := (Rat × Rat) × (Rat × Rat)
/-- By the first end, then by the other one. -/
def edgeCmp (e f : EdgeQ) : Int := if spotCmp e.1.1 e.1.2 f.1.1 f.1.2 = 0 then spotCmp e.2.1 e.2.2 f.2.1 f.2.2 else spotCmp e.1.1 e.1.2 f.1.1 f.1.2
def edgeLt (e f : EdgeQ) : Prop := spotLt e.1 f.1 ∨ (e.1 = f.1 ∧ spotLt e.2 f.2)
theorem ord_edge : Ordr edgeCmp edgeLt where
  neg x y := by
    unfold edgeCmp edgeLt
    split
    · next h =>
      have e := spotCmp_zero.1 h
      rw [spotCmp_neg]
      constructor
      · intro k; exact .inr ⟨e, k⟩
      · rintro (k | k)
        · rw [e] at k; exact (spotLt_irr k k).elim
        · exact k.2
    · next h =>
      rw [spotCmp_neg]
      constructor
      · intro k; exact .inl k
      · rintro (k | k)
        · exact k
        · exact absurd (spotCmp_zero.2 k.1) h
  zero x y := by
    unfold edgeCmp
    split
    · next h =>
      rw [spotCmp_zero]
      exact ⟨fun k => Prod.ext (spotCmp_zero.1 h) k, fun k => by rw [k]⟩
    · next h => exact ⟨fun k => absurd k h, fun k => absurd (spotCmp_zero.2 (by rw [k])) h⟩
  trans x y z := by
    rintro (h | ⟨h, h'⟩) (k | ⟨k, k'⟩)
    · exact .inl (spotLt_trans h k)
    · exact .inl (by rw [← k]; exact h)
    · exact .inl (by rw [h]; exact k)
    · exact .inr ⟨h.trans k, spotLt_trans h' k'⟩
  tri x y := by
    unfold edgeLt
    rcases spotLt_tri x.1 y.1 with h | h | h
    · exact .inl (.inl h)
    · rcases spotLt_tri x.2 y.2 with k | k | k
      · exact .inl (.inr ⟨h, k⟩)
      · exact .inr (.inl (Prod.ext h k))
      · exact .inr (.inr (.inr ⟨h.symm, k⟩))
    · exact .inr (.inr (.inl h))
  irr x y := by
    rintro (h | ⟨h, h'⟩) (k | ⟨k, k'⟩)
    · exact spotLt_irr h k
    · rw [k] at h; exact spotLt_irr h h
    · rw [h] at k; exact spotLt_irr k k
    · exact spotLt_irr h' k'

/-- Twelve cells of which P says something: of their first six, and of their last. -/
def EdgeP (P : World → Value → Rat → Rat → Prop) (w : World) (us : Array Value) (e : EdgeQ) : Prop := ∃ us1 us2 : Array Value, us = us1 ++ us2 ∧ P w (.agg us1) e.1.1 e.1.2 ∧ P w (.agg us2) e.2.1 e.2.2
/-- Twelve cells that are an edge, its ends reduced. -/
abbrev Edge12R := EdgeP SpotC
theorem says_edge : Says 12 Edge12R where
  size h := by
    obtain ⟨us1, us2, rfl, h1, h2⟩ := h
    rw [Array.size_append, says_spot.size h1, says_spot.size h2]
  one h := by
    obtain ⟨us1, us2, rfl, h1, h2⟩ := h
    intro u hu
    rw [Array.toList_append, List.mem_append] at hu
    rcases hu with hu | hu
    · exact says_spot.one h1 u hu
    · exact says_spot.one h2 u hu
  noint h := by
    obtain ⟨us1, us2, rfl, h1, h2⟩ := h
    intro u hu
    rw [Array.toList_append, List.mem_append] at hu
    rcases hu with hu | hu
    · exact says_spot.noint h1 u hu
    · exact says_spot.noint h2 u hu
  kept h k := by
    obtain ⟨us1, us2, rfl, h1, h2⟩ := h
    exact ⟨us1, us2, rfl, SpotC.kept h1 k, SpotC.kept h2 k⟩
end Go.Proofs.YtngbcbncllfblaaGreat
