/- r02.Of. Condition: an int. spot.small, spot.over, spot.Turns, at any points. Condition: what comes in reads. Locals of two cells. Conditions: none. spot.Turns at all points; spot.Side. Condition: what comes in reads; fewer than 2^26 words. -/
import Derived.Test.YtmommicmblfibaaGreatJR2b
import Derived.Test.YtmommicmblfibaaGreatJKit2
namespace Go.Proofs.YtmommicmblfibaaGreat
open Go.RowKit

theorem len_word {N : Nat} (h : N < 18446744073709551616) : len 4294967296 N ≤ 2 := len_le (by omega) (by simpa using h)

end Go.Proofs.YtmommicmblfibaaGreat
namespace Go.Proofs.YtmommicmblfibaaGreat
open Go.RowKit

end Go.Proofs.YtmommicmblfibaaGreat
namespace Go.Proofs.YtmommicmblfibaaGreat
open Go.RowKit

/-- A block that holds two cells of which P says something, in this world. -/
def At2 (w : World) (g : Nat) (P : World → Value → Prop) : Prop := ∃ b A n c, Box2 w g 0 (.bool b) (.slice A n c) ∧ P w (.agg #[.bool b, .slice A n c]) ∧ g < w.heap.size
theorem At2.of_alloc {w X : World} {P : World → Value → Prop} (hP : Rd P) {b : Bool} {A : Option Addr} {n c g : Nat} {t : TypeId} (hg : X.heap.size = g) (hk : Keeps w X) (h : P w (.agg #[.bool b, .slice A n c])) :
    At2 (X.alloc (.cells #[.bool b, .slice A n c] t)) g P := by
  subst hg
  exact ⟨b, A, n, c, ⟨by simp [go_sem], by simp [go_sem]⟩, hP _ _ _ h (hk.trans ((Grew.refl X).alloc _).keeps), by simp⟩
theorem At2.of_store {w X : World} {P : World → Value → Prop} (hP : Rd P) {b : Bool} {A : Option Addr} {n c g : Nat} (r : Res2 X g 0 (.bool false) (.slice none 0 0)) (hk : Keeps w X) (h : P w (.agg #[.bool b, .slice A n c])) :
    At2 ((X.setCell ⟨g, 0, none⟩ (.bool b)).setCell ⟨g, 1, none⟩ (.slice A n c)) g P := by
  obtain ⟨r0, r1, -, -, rs⟩ := r
  obtain ⟨q0, q1, qK, -, qs, -⟩ := store2 (o := 0) r0 r1 rfl
  exact ⟨b, A, n, c, ⟨q0, q1⟩, hP _ _ _ h (hk.trans qK), by rw [qs]; exact rs⟩
theorem Keeps.store2 {w X : World} {g : Nat} {u0 u1 : Value} (r : Res2 X g 0 (.bool false) (.slice none 0 0)) (hk : Keeps w X) :
    Keeps w ((X.setCell ⟨g, 0, none⟩ u0).setCell ⟨g, 1, none⟩ u1) := by
  obtain ⟨r0, r1, -, -, rs⟩ := r
  obtain ⟨-, -, qK, -⟩ := Go.Proofs.YtmommicmblfibaaGreat.store2 (o := 0) r0 r1 rfl
  exact hk.trans qK
theorem Rd.whl (z : Int) : Rd (fun w V => Whl w V z) := fun _ _ _ h k => Whl.kept h k
theorem Res2.lt {w : World} {r o : Nat} {u0 u1 : Value} (h : Res2 w r o u0 u1) : r < w.heap.size := h.2.2.2.2
theorem Res2.store_far {w : World} {g h : Nat} {u0 u1 : Value} (a : Res2 w g 0 (.bool false) (.slice none 0 0)) (r : Res2 w h 0 (.bool false) (.slice none 0 0)) (hne : g ≠ h) :
    Res2 ((w.setCell ⟨h, 0, none⟩ u0).setCell ⟨h, 1, none⟩ u1) g 0 (.bool false) (.slice none 0 0) := by
  obtain ⟨r0, r1, -, -, rs⟩ := r
  obtain ⟨-, -, -, qf, qs, -⟩ := Go.Proofs.YtmommicmblfibaaGreat.store2 (o := 0) (u0 := u0) (u1 := u1) r0 r1 rfl
  obtain ⟨a0, a1, f0, f1, s⟩ := a
  exact ⟨(qf _ _ hne).trans a0, (qf _ _ hne).trans a1, by simp [f0], by simp [f1], by rw [qs]; exact s⟩
theorem At2.store_far {w : World} {P : World → Value → Prop} (hP : Rd P) {g h : Nat} {u0 u1 : Value} (a : At2 w g P) (r : Res2 w h 0 (.bool false) (.slice none 0 0)) (hne : g ≠ h) :
    At2 ((w.setCell ⟨h, 0, none⟩ u0).setCell ⟨h, 1, none⟩ u1) g P := by
  obtain ⟨r0, r1, -, -, rs⟩ := r
  obtain ⟨-, -, qK, qf, qs, -⟩ := Go.Proofs.YtmommicmblfibaaGreat.store2 (o := 0) (u0 := u0) (u1 := u1) r0 r1 rfl
  obtain ⟨b, A, n, c, ⟨hB, hB'⟩, hp, hl⟩ := a
  exact ⟨b, A, n, c, ⟨(qf _ _ hne).trans hB, (qf _ _ hne).trans hB'⟩, hP _ _ _ hp qK, by rw [qs]; exact hl⟩
theorem At2.grew {w w' : World} {P : World → Value → Prop} (hP : Rd P) {g : Nat} (a : At2 w g P) (k : Grew w w') : At2 w' g P := by
  obtain ⟨b, A, n, c, hB, hp, hl⟩ := a
  exact ⟨b, A, n, c, hB.grew k, hP _ _ _ hp k.keeps, Nat.lt_of_lt_of_le hl k.size⟩
end Go.Proofs.YtmommicmblfibaaGreat
namespace Go.Proofs.YtmommicmblfibaaGreat
open Go.RowKit

theorem FracV.parts {w : World} {b : Bool} {A C : Option Addr} {n c m d k : Nat} {q : Rat} (h : FracV w (.agg #[.bool b, .slice A n c, .slice C m d]) q k) :
    ∃ N D, Hid (mkRat (sgn b N) D = q) ∧ Hid (Num 4294967296 .u32 w (.slice A n c) N n) ∧ Hid (Num 4294967296 .u32 w (.slice C m d) D m) ∧ len 4294967296 N ≤ k ∧ len 4294967296 D ≤ k := by
  obtain ⟨b', N, D, n', m', va, vd, e, Na, Da, E, h1, h2⟩ := h
  simp at e
  obtain ⟨e1, e2, e3⟩ := e
  subst e1; subst e2; subst e3
  have hl := Na.slice
  obtain ⟨A1, c1, e3, -⟩ := hl
  injection e3 with i1 i2 i3
  have hl2 := Da.slice
  obtain ⟨A2, c2, e4, -⟩ := hl2
  injection e4 with j1 j2 j3
  rw [← i2] at Na
  rw [← j2] at Da
  exact ⟨N, D, E, Na, Da, h1, h2⟩
def In64 (x y : Int) : Prop := -9223372036854775808 ≤ x ∧ x ≤ 9223372036854775807 ∧ -9223372036854775808 ≤ y ∧ y ≤ 9223372036854775807
theorem QB_i64 {x : Int} (h0 : -9223372036854775808 ≤ x) (h1 : x ≤ 9223372036854775807) : QB (x : Rat) 2 := QB_int x 2 (len_word (by omega)) (by omega)

end Go.Proofs.YtmommicmblfibaaGreat
