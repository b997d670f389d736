/- Plain: the greatest common factor by halving and subtracting; the parity of a number's first word. Conditions: none. r03.Gcd. Condition: what comes in reads; fewer than 2^32 words. r03.Reduce. Condition: what comes in reads; the second number isn't 0; fewer than 2^32 words. Words for walks over structs of two cells; whole numbers and fractions whose raw lengths are bounded. Conditions: none. -/
import Derived.Test.YtmommicmblfibaaGreatJRefG2
import Derived.Test.YtmommicmblfibaaGreatJWv
namespace Go.Proofs.YtmommicmblfibaaGreat
open Go.RowKit

end Go.Proofs.YtmommicmblfibaaGreat
namespace Go.Proofs.YtmommicmblfibaaGreat
open Go.RowKit

end Go.Proofs.YtmommicmblfibaaGreat
namespace Go.Proofs.YtmommicmblfibaaGreat
open Go.RowKit

end Go.Proofs.YtmommicmblfibaaGreat
namespace Go.Proofs.YtmommicmblfibaaGreat
open Go.RowKit

/-- Two cells of a struct that may be stored. -/
def Res2 (w : World) (r o : Nat) (u0 u1 : Value) : Prop :=
  w.cell? ⟨r, o, none⟩ = some u0 ∧ w.cell? ⟨r, o + 1, none⟩ = some u1 ∧ w.frozen? ⟨r, o, none⟩ = false ∧ w.frozen? ⟨r, o + 1, none⟩ = false ∧ r < w.heap.size
theorem Res2.grew {w w' : World} {r o : Nat} {u0 u1 : Value} (h : Res2 w r o u0 u1) (g : Grew w w') : Res2 w' r o u0 u1 := by
  obtain ⟨h0, h1, f0, f1, s⟩ := h
  exact ⟨g.cell h0, g.cell h1, (g.below.frozen (p := ⟨r, o, none⟩) s).trans f0, (g.below.frozen (p := ⟨r, o + 1, none⟩) s).trans f1, Nat.lt_of_lt_of_le s g.size⟩
theorem store2 {w w' : World} {r o : Nat} {x : Bool} {A : Option Addr} {n c : Nat} {u0 u1 : Value} (h0 : w.cell? ⟨r, o, none⟩ = some (.bool x)) (h1 : w.cell? ⟨r, o + 1, none⟩ = some (.slice A n c))
    (h : w' = (w.setCell ⟨r, o, none⟩ u0).setCell ⟨r, o + 1, none⟩ u1) :
    w'.cell? ⟨r, o, none⟩ = some u0 ∧ w'.cell? ⟨r, o + 1, none⟩ = some u1 ∧ Keeps w w' ∧ (∀ b p, b ≠ r → w'.cell? ⟨b, p, none⟩ = w.cell? ⟨b, p, none⟩) ∧ w'.heap.size = w.heap.size ∧ (∀ a, a.heap.size ≤ r → Grew a w → Grew a w') := by
  have e1 : ∀ u, (w.setCell ⟨r, o, none⟩ u).cell? ⟨r, o + 1, none⟩ = some (.slice A n c) := fun u => by rw [World.cell?_setCell_other _ _ _ _ (by simp)]; exact h1
  subst h
  refine ⟨?_, ?_, ?_, ?_, ?_, ?_⟩
  · rw [World.cell?_setCell_other _ _ _ _ (by simp)]; exact cell_set h0 u0
  · exact cell_set (e1 _) u1
  · intro B' K v N k hh
    exact (hh.setCell (by rw [h0]; simp) _).setCell (by rw [e1]; simp) _
  · intro b p hb
    rw [World.cell?_setCell_other _ _ _ _ (by simp <;> omega), World.cell?_setCell_other _ _ _ _ (by simp <;> omega)]
  · simp [World.setCell]
  · intro a hr g
    exact (g.setCell hr _).setCell hr _

/-- A whole number as it comes in, of at most k words, whatever they are. -/
def WhlR (w : World) (V : Value) (z : Int) (k : Nat) : Prop := ∃ neg N n v, V = .agg #[.bool neg, v] ∧ Num 4294967296 .u32 w v N n ∧ sgn neg N = z ∧ n ≤ k
theorem WhlR.kept {w w' : World} {V : Value} {z : Int} {l : Nat} (h : WhlR w V z l) (k : Keeps w w') : WhlR w' V z l := by
  obtain ⟨neg, N, n, v, e, hn, h⟩ := h
  exact ⟨neg, N, n, v, e, k _ _ _ _ _ hn, h⟩
theorem Whl.r {w : World} {V : Value} {z : Int} {k : Nat} (h : Whl w V z) (e : len 4294967296 z.natAbs ≤ k) : WhlR w V z k := by
  obtain ⟨v, e1, hn⟩ := h
  exact ⟨_, _, _, v, e1, hn, sgn_of z, e⟩
theorem WhlR.open {w : World} {V : Value} {z : Int} {k : Nat} (h : WhlR w V z k) : ∃ b A n c N, V = .agg #[.bool b, .slice A n c] ∧ Hid (Num 4294967296 .u32 w (.slice A n c) N n) ∧ Hid (sgn b N = z) ∧ n ≤ k := by
  obtain ⟨neg, N, n, v, rfl, hn, h1, h2⟩ := h
  obtain ⟨A, c, rfl, -⟩ := id hn
  exact ⟨neg, A, n, c, N, rfl, hn, h1, h2⟩
/-- A fraction as it comes in, both parts of at most k words, whatever they are. -/
def FracR (w : World) (V : Value) (q : Rat) (k : Nat) : Prop :=
  ∃ neg N D n m va vd, V = .agg #[.bool neg, va, vd] ∧ Num 4294967296 .u32 w va N n ∧ Num 4294967296 .u32 w vd D m ∧ mkRat (sgn neg N) D = q ∧ n ≤ k ∧ m ≤ k
theorem FracR.kept {w w' : World} {V : Value} {q : Rat} {l : Nat} (h : FracR w V q l) (k : Keeps w w') : FracR w' V q l := by
  obtain ⟨neg, N, D, n, m, va, vd, e, h1, h2, h3⟩ := h
  exact ⟨neg, N, D, n, m, va, vd, e, k _ _ _ _ _ h1, k _ _ _ _ _ h2, h3⟩
theorem FracR.v {w : World} {V : Value} {q : Rat} {l : Nat} (h : FracR w V q l) : FracV w V q l := by
  obtain ⟨neg, N, D, n, m, va, vd, e, h1, h2, h3, h4, h5⟩ := h
  exact ⟨neg, N, D, n, m, va, vd, e, h1, h2, h3, Nat.le_trans (h1.len_le (by omega)) h4, Nat.le_trans (h2.len_le (by omega)) h5⟩
theorem FracC.r {w : World} {V : Value} {q : Rat} {k : Nat} (h : FracC w V q) (b : QB q k) : FracR w V q k := by
  obtain ⟨vn, vd, e, h1, h2, h3⟩ := h
  exact ⟨_, _, _, _, _, vn, vd, e, h1, h2, by rw [sgn_of, Rat.mkRat_self], b.1, b.2⟩
end Go.Proofs.YtmommicmblfibaaGreat
