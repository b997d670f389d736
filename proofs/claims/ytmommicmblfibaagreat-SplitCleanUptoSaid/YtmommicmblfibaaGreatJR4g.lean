/- r04.Mul. Condition: what comes in reads. r04.Add. Condition: what comes in reads. r04.Cmp. Condition: what comes in reads. r04.Sign, Half. Condition: what comes in reads. -/
import Derived.Test.YtmommicmblfibaaGreatJR4c
namespace Go.Proofs.YtmommicmblfibaaGreat
open Go.RowKit

theorem Res3.f0 {w : World} {r o : Nat} {u0 u1 u2 : Value} (h : Res3 w r o u0 u1 u2) : w.frozen? ⟨r, o, none⟩ = false := by obtain ⟨-, -, -, f, -⟩ := h; exact f
theorem Res3.f1 {w : World} {r o : Nat} {u0 u1 u2 : Value} (h : Res3 w r o u0 u1 u2) : w.frozen? ⟨r, o + 1, none⟩ = false := by obtain ⟨-, -, -, -, f, -⟩ := h; exact f
theorem Res3.f2 {w : World} {r o : Nat} {u0 u1 u2 : Value} (h : Res3 w r o u0 u1 u2) : w.frozen? ⟨r, o + 2, none⟩ = false := by obtain ⟨-, -, -, -, -, f, -⟩ := h; exact f
theorem FracP.laid {w : World} {V : Value} {q : Rat} {k : Nat} (h : FracP w V q k) : ∃ b A n c C m d, V = .agg #[.bool b, .slice A n c, .slice C m d] ∧ Hid (FracP w (.agg #[.bool b, .slice A n c, .slice C m d]) q k) := by
  obtain ⟨b1, N, D, n1, m1, va, vd, rfl, Na, Da, h⟩ := h
  obtain ⟨A1, c1, rfl, Ra⟩ := Na.slice
  obtain ⟨C1, d1, rfl, Rb⟩ := Da.slice
  exact ⟨b1, A1, n1, c1, C1, m1, d1, rfl, ⟨b1, N, D, n1, m1, _, _, rfl, Na, Da, h⟩⟩
theorem FracP.kept {w w' : World} {V : Value} {q : Rat} {l : Nat} (h : FracP w V q l) (k : Keeps w w') : FracP w' V q l := by
  obtain ⟨neg, N, D, n, m, va, vd, e, h1, h2, h3⟩ := h
  exact ⟨neg, N, D, n, m, va, vd, e, k _ _ _ _ _ h1, k _ _ _ _ _ h2, h3⟩
theorem FracR.laid {w : World} {V : Value} {q : Rat} {k : Nat} (h : FracR w V q k) : ∃ b A n c C m d, V = .agg #[.bool b, .slice A n c, .slice C m d] ∧ Hid (FracR w (.agg #[.bool b, .slice A n c, .slice C m d]) q k) := by
  obtain ⟨b1, N, D, n1, m1, va, vd, rfl, Na, Da, h⟩ := h
  obtain ⟨A1, c1, rfl, Ra⟩ := Na.slice
  obtain ⟨C1, d1, rfl, Rb⟩ := Da.slice
  exact ⟨b1, A1, n1, c1, C1, m1, d1, rfl, ⟨b1, N, D, n1, m1, _, _, rfl, Na, Da, h⟩⟩

theorem FracR.mk {w : World} {b : Bool} {A C : Option Addr} {n c m d D K : Nat} {z : Int} {q : Rat} (hw : Whl w (.agg #[.bool b, .slice A n c]) z) (hd : Num 4294967296 .u32 w (.slice C m d) D m)
    (h : mkRat z D = q) (h1 : len 4294967296 z.natAbs ≤ K) (h2 : m ≤ K) : FracR w (.agg #[.bool b, .slice A n c, .slice C m d]) q K := by
  obtain ⟨v, e, hn⟩ := hw
  simp at e
  obtain ⟨rfl, rfl⟩ := e
  exact ⟨_, _, _, _, _, _, _, rfl, hn, hd, by rw [sgn_of]; exact h, h1, h2⟩
theorem FracP.parts {w : World} {b : Bool} {A C : Option Addr} {n c m d k : Nat} {q : Rat} (h : FracP w (.agg #[.bool b, .slice A n c, .slice C m d]) q k) :
    ∃ N D, Hid (mkRat (sgn b N) D = q) ∧ D ≠ 0 ∧ Hid (WhlR w (.agg #[.bool b, .slice A n c]) (sgn b N) k) ∧ Hid (Num 4294967296 .u32 w (.slice C m d) D m) ∧ m ≤ k := by
  obtain ⟨b', N, D, n', m', va, vd, e, Na, Da, E, h1, h2, h3⟩ := h
  simp at e
  obtain ⟨rfl, rfl, rfl⟩ := e
  obtain ⟨A', c', e', -⟩ := Da.slice
  injection e' with e1 e2 e3
  subst e2
  exact ⟨N, D, E, h3, ⟨_, _, _, _, rfl, Na, rfl, h1⟩, Da, h2⟩

end Go.Proofs.YtmommicmblfibaaGreat
namespace Go.Proofs.YtmommicmblfibaaGreat
open Go.RowKit

end Go.Proofs.YtmommicmblfibaaGreat
namespace Go.Proofs.YtmommicmblfibaaGreat
open Go.RowKit

end Go.Proofs.YtmommicmblfibaaGreat
namespace Go.Proofs.YtmommicmblfibaaGreat
open Go.RowKit

end Go.Proofs.YtmommicmblfibaaGreat
