/- r01.bit, r01.Bits, r01.small, r01.Of. Condition: what comes in reads. r01.small, r01.Of, r01.twice, r01.Power. Conditions: what comes in reads; numbers of fewer than 2^40 bits. Plain: division bit by bit. Conditions: none (no program in sight). The calls of package whole over readings. Conditions: what comes in reads; fewer than 2^39 words. -/
import Derived.Test.YtmommicmblfibaaGreatJRef7
import Derived.Test.YtmommicmblfibaaGreatJKit
namespace Go.Proofs.YtmommicmblfibaaGreat
open Go.RowKit

end Go.Proofs.YtmommicmblfibaaGreat
namespace Go.Proofs.YtmommicmblfibaaGreat
open Go.RowKit

end Go.Proofs.YtmommicmblfibaaGreat
namespace Go.Proofs.YtmommicmblfibaaGreat
open Go.RowKit

end Go.Proofs.YtmommicmblfibaaGreat
namespace Go.Proofs.YtmommicmblfibaaGreat
open Go.RowKit

/-- A whole number as it comes in: it need not be canonical. -/
def WhlV (w : World) (V : Value) (z : Int) (k : Nat) : Prop := ∃ neg N n v, V = .agg #[.bool neg, v] ∧ Num 4294967296 .u32 w v N n ∧ sgn neg N = z ∧ len 4294967296 N ≤ k
theorem WhlV.kept {w w' : World} {V : Value} {z : Int} {l : Nat} (h : WhlV w V z l) (k : Keeps w w') : WhlV w' V z l := by
  obtain ⟨neg, N, n, v, e, hn, h⟩ := h
  exact ⟨neg, N, n, v, e, k _ _ _ _ _ hn, h⟩
theorem WhlV.mono {w : World} {V : Value} {z : Int} {k l : Nat} (h : WhlV w V z k) (e : k ≤ l) : WhlV w V z l := by
  obtain ⟨neg, N, n, v, e1, hn, h, h'⟩ := h
  exact ⟨neg, N, n, v, e1, hn, h, by omega⟩
theorem Whl.v {w : World} {V : Value} {z : Int} {k : Nat} (h : Whl w V z) (e : len 4294967296 z.natAbs ≤ k) : WhlV w V z k := by
  obtain ⟨v, e1, hn⟩ := h
  exact ⟨_, _, _, v, e1, hn, sgn_of z, e⟩
theorem Num.whl {w : World} {v : Value} {N n k : Nat} (h : Num 4294967296 .u32 w v N n) (e : len 4294967296 N ≤ k) : WhlV w (.agg #[.bool false, v]) (N : Int) k :=
  ⟨_, _, _, v, rfl, h, by simp [sgn], e⟩
theorem Num.slice {w : World} {B : Nat} {K : IntKind} {v : Value} {N n : Nat} (h : Num B K w v N n) : ∃ A c, v = .slice A n c ∧ Hid (Num B K w v N n) := by
  obtain ⟨A, c, rfl, -⟩ := id h
  exact ⟨A, c, rfl, h⟩

theorem wmul_v (Va Vb : Value) (z y : Int) (k l : Nat) (w : World) (ha : WhlV w Va z k) (hb : WhlV w Vb y l) (hs : k + l < 1099511627776) :
    Calls Tryz.prog 65 #[Va, Vb] w fun e w' => ∃ V, e = .returned V ∧ Whl w' V (z * y) ∧ Grew w w' := by
  obtain ⟨na, N, n, va, rfl, h1, rfl, h2⟩ := ha
  obtain ⟨nb, M, m, vb, rfl, g1, rfl, g2⟩ := hb
  exact wmul_any na nb va vb N M n m w h1 g1 (by omega)
theorem wadd_v (Va Vb : Value) (z y : Int) (k l : Nat) (w : World) (ha : WhlV w Va z k) (hb : WhlV w Vb y l) (hs : k < 549755813888 ∧ l < 549755813888) :
    Calls Tryz.prog 180 #[Va, Vb] w fun e w' => ∃ V, e = .returned V ∧ Whl w' V (z + y) ∧ Grew w w' := by
  obtain ⟨na, N, n, va, rfl, h1, rfl, h2⟩ := ha
  obtain ⟨nb, M, m, vb, rfl, g1, rfl, g2⟩ := hb
  exact wadd_any na nb va vb N M n m w h1 g1 ⟨by omega, by omega⟩
theorem wneg_v (Va : Value) (z : Int) (k : Nat) (w : World) (ha : WhlV w Va z k) (hs : k < 1099511627776) :
    Calls Tryz.prog 150 #[Va] w fun e w' => ∃ V, e = .returned V ∧ Whl w' V (-z) ∧ Grew w w' := by
  obtain ⟨na, N, n, va, rfl, h1, rfl, h2⟩ := ha
  exact wneg_any na va N n w h1 (by omega)
theorem sign_v (Va : Value) (z : Int) (k : Nat) (w : World) (ha : WhlV w Va z k) (hs : k < 1099511627776) :
    Calls Tryz.prog 63 #[Va] w fun e w' => e = .returned (.int .i64 (sg z)) ∧ Grew w w' := by
  obtain ⟨na, N, n, va, rfl, h1, rfl, h2⟩ := ha
  exact sign_any na va N n w h1 (by omega)
theorem wcmp_v (Va Vb : Value) (z y : Int) (k l : Nat) (w : World) (ha : WhlV w Va z k) (hb : WhlV w Vb y l) (hs : k < 549755813888 ∧ l < 549755813888) :
    Calls Tryz.prog 64 #[Va, Vb] w fun e w' => e = .returned (.int .i64 (cmpZ z y)) ∧ Grew w w' := by
  obtain ⟨na, N, n, va, rfl, h1, rfl, h2⟩ := ha
  obtain ⟨nb, M, m, vb, rfl, g1, rfl, g2⟩ := hb
  exact wcmp_any na nb va vb N M n m w h1 g1 ⟨by omega, by omega⟩

/-- A ratio, laid open. -/
theorem RatQ.open {w : World} {V : Value} {q : Rat} {k : Nat} (h : RatQ w V q k) : ∃ z D b A n c C m d, V = .agg #[.bool b, .slice A n c, .slice C m d] ∧ Hid (mkRat z D = q) ∧ D ≠ 0 ∧ Hid (WhlV w (.agg #[.bool b, .slice A n c]) z k) ∧
    Hid (Num 4294967296 .u32 w (.slice C m d) D m) ∧ len 4294967296 z.natAbs ≤ k ∧ len 4294967296 D ≤ k ∧ Hid (m = len 4294967296 D) ∧ Hid (Whl w (.agg #[.bool b, .slice A n c]) z) := by
  obtain ⟨z, D, ⟨va, vd, rfl, h1, h2, h3⟩, h4, h5, h6⟩ := h
  obtain ⟨A, c, rfl, -⟩ := id h1
  obtain ⟨C, d, rfl, -⟩ := id h2
  exact ⟨z, D, _, A, _, c, C, _, d, rfl, h4, h3, ⟨_, _, _, _, rfl, h1, sgn_of z, h5⟩, h2, h5, h6, rfl, ⟨_, rfl, h1⟩⟩
theorem RatQ.parts {w : World} {b : Bool} {A C : Option Addr} {n c m d k : Nat} {q : Rat} (h : RatQ w (.agg #[.bool b, .slice A n c, .slice C m d]) q k) : ∃ z D, Hid (mkRat z D = q) ∧ D ≠ 0 ∧ Hid (WhlV w (.agg #[.bool b, .slice A n c]) z k) ∧
    Hid (Num 4294967296 .u32 w (.slice C m d) D m) ∧ len 4294967296 z.natAbs ≤ k ∧ len 4294967296 D ≤ k ∧ Hid (m = len 4294967296 D) ∧ Hid (Whl w (.agg #[.bool b, .slice A n c]) z) := by
  obtain ⟨z, D, b', A', n', c', C', m', d', e, h1, h2, h3, h4, h5, h6, h7, h8⟩ := h.open
  injection e with e; injection e with e; injection e with e1 e2; injection e2 with e2 e3; injection e3 with e3 e4
  injection e1 with e1; injection e2 with e2 e2' e2''; injection e3 with e3 e3' e3''
  subst e1; subst e2; subst e2'; subst e2''; subst e3; subst e3'; subst e3''
  exact ⟨z, D, h1, h2, h3, h4, h5, h6, h7, h8⟩
theorem RatQ.mk {w : World} {b : Bool} {A C : Option Addr} {n c m d D k : Nat} {z : Int} {q : Rat} (hw : Whl w (.agg #[.bool b, .slice A n c]) z) (hd : Num 4294967296 .u32 w (.slice C m d) D m) (hm : m = len 4294967296 D)
    (h0 : D ≠ 0) (hq : mkRat z D = q) (h1 : len 4294967296 z.natAbs ≤ k) (h2 : len 4294967296 D ≤ k) : RatQ w (.agg #[.bool b, .slice A n c, .slice C m d]) q k := by
  obtain ⟨v, e, hn⟩ := hw
  subst hm
  injection e with e; injection e with e; injection e with e1 e2; injection e1 with e1; injection e2 with e2 e3
  subst e1; subst e2
  exact ⟨z, D, ⟨_, _, rfl, hn, hd, h0⟩, hq, h1, h2⟩
theorem FracC.mk {w : World} {b : Bool} {A C : Option Addr} {n c m d D : Nat} {z : Int} {q : Rat} (hw : Whl w (.agg #[.bool b, .slice A n c]) z) (hd : Num 4294967296 .u32 w (.slice C m d) D m) (hm : m = len 4294967296 D)
    (h1 : z = q.num) (h2 : D = q.den) : FracC w (.agg #[.bool b, .slice A n c, .slice C m d]) q := by
  obtain ⟨v, e, hn⟩ := hw
  subst hm; subst h1; subst h2
  injection e with e; injection e with e; injection e with e1 e2; injection e1 with e1; injection e2 with e2 e3
  subst e1; subst e2
  exact ⟨_, _, rfl, hn, hd, q.den_nz⟩

theorem FracC.parts {w : World} {b : Bool} {A C : Option Addr} {n c m d : Nat} {q : Rat} (h : FracC w (.agg #[.bool b, .slice A n c, .slice C m d]) q) :
    Hid (Whl w (.agg #[.bool b, .slice A n c]) q.num) ∧ Hid (Num 4294967296 .u32 w (.slice C m d) q.den m) ∧ Hid (m = len 4294967296 q.den) := by
  obtain ⟨va, vd, e, h1, h2, h3⟩ := h
  injection e with e; injection e with e; injection e with e1 e2; injection e2 with e2 e3; injection e3 with e3 e4
  injection e1 with e1; subst e1; subst e2; subst e3
  obtain ⟨A', c', e5, -⟩ := id h2
  injection e5 with e5 e6 e7
  subst e6
  exact ⟨⟨_, rfl, h1⟩, h2, rfl⟩

theorem isUnit_g (v : Value) (N n : Nat) (w : World) (h : Num 4294967296 .u32 w v N n) (hn : n = len 4294967296 N) : Calls Tryz.prog 89 #[v] w fun e w' => e = .returned (.bool (decide (N = 1))) ∧ Grew w w' := by
  subst hn
  exact (isUnit_any v N w h).mono fun _ _ ⟨h1, h2⟩ => ⟨h1, h2 ▸ Grew.refl _⟩
theorem parts_v (V : Value) (q : Rat) (k : Nat) (w : World) (h : FracV w V q k) (hk : 1 ≤ k) (hs : k < 549755813888) :
    Calls Tryz.prog 62 #[V] w fun e w' => ∃ V', e = .returned V' ∧ RatQ w' V' q k ∧ Grew w w' := by
  obtain ⟨neg, N, D, n, m, va, vd, rfl, h1, h2, rfl, h3, h4⟩ := h
  by_cases hD : D = 0
  · subst hD
    refine (parts_zero neg va vd N n m w h1 h2).mono ?_
    rintro e w' ⟨V, rfl, hV, g⟩
    exact ⟨V, rfl, ⟨0, 1, hV, by simp, by simp [len_zero], by rw [len1]; exact hk⟩, g⟩
  · refine (parts_pos neg va vd N D n m w h1 h2 hD ⟨by omega, by omega⟩).mono ?_
    rintro e w' ⟨V, rfl, hV, g⟩
    exact ⟨V, rfl, ⟨_, _, hV, rfl, by rw [sgn_abs]; exact h3, h4⟩, g⟩
end Go.Proofs.YtmommicmblfibaaGreat
