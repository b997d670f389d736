/- Small words for walks over structs: a world under a name, readings that stay, values laid open. Conditions: none. -/
import Derived.Test.YtpglnfccmhkocaaRat
import Derived.Deep.DeepCutAuto
namespace Go.Proofs.Ytpglnfccmhkocaa
open Go.RowKit

theorem gen_wp {P : Program} {c : Code} {Q : Exit → Act → World → Prop} {a : Act} {w : World} (h : ∀ W, W = w → Code.wp P c Q a W) : Code.wp P c Q a w := h w rfl
theorem gen_calls {P : Program} {f : FuncId} {args : Array Value} {Q : Ending → World → Prop} {w : World} (h : ∀ W, W = w → Calls P f args W Q) : Calls P f args w Q := h w rfl

theorem gen_then {K : Act → World → Prop} {Q : Exit → Act → World → Prop} {e : Exit} {a : Act} {w : World} (h : ∀ W, W = w → Exit.then K Q e a W) : Exit.then K Q e a w := h w rfl

theorem gen_post {P : Program} {fn : Func} {R : Ending → World → Prop} {e : Exit} {a : Act} {w : World} (h : ∀ W, W = w → bodyPost P fn R e a W) : bodyPost P fn R e a w := h w rfl

/-- Every number that reads in one world reads in the other. -/
def Keeps (w w' : World) : Prop := ∀ B K v N n, Num B K w v N n → Num B K w' v N n
theorem Grew.keeps {w w' : World} (g : Grew w w') : Keeps w w' := fun _ _ _ _ _ h => h.grew g
theorem Keeps.trans {a b c : World} (h : Keeps a b) (k : Keeps b c) : Keeps a c := fun B K v N n x => k B K v N n (h B K v N n x)
theorem Keeps.refl (a : World) : Keeps a a := fun _ _ _ _ _ x => x

theorem Whl.kept {w w' : World} {V : Value} {z : Int} (h : Whl w V z) (k : Keeps w w') : Whl w' V z := by
  obtain ⟨v, e, hn⟩ := h
  exact ⟨v, e, k _ _ _ _ _ hn⟩
theorem Rat3.kept {w w' : World} {V : Value} {z : Int} {D : Nat} (h : Rat3 w V z D) (k : Keeps w w') : Rat3 w' V z D := by
  obtain ⟨vn, vd, e, h1, h2, h3⟩ := h
  exact ⟨vn, vd, e, k _ _ _ _ _ h1, k _ _ _ _ _ h2, h3⟩
theorem FracV.kept {w w' : World} {V : Value} {q : Rat} {l : Nat} (h : FracV w V q l) (k : Keeps w w') : FracV w' V q l := by
  obtain ⟨neg, N, D, n, m, va, vd, e, h1, h2, h3⟩ := h
  exact ⟨neg, N, D, n, m, va, vd, e, k _ _ _ _ _ h1, k _ _ _ _ _ h2, h3⟩
theorem FracC.kept {w w' : World} {V : Value} {q : Rat} (h : FracC w V q) (k : Keeps w w') : FracC w' V q := Rat3.kept h k
theorem RatQ.kept {w w' : World} {V : Value} {q : Rat} {l : Nat} (h : RatQ w V q l) (k : Keeps w w') : RatQ w' V q l := by
  obtain ⟨z, D, h1, h2⟩ := h
  exact ⟨z, D, h1.kept k, h2⟩
theorem Num.kept {w w' : World} {B : Nat} {K : IntKind} {v : Value} {N n : Nat} (h : Num B K w v N n) (k : Keeps w w') : Num B K w' v N n := k _ _ _ _ _ h

theorem Whl.laid {w : World} {V : Value} {z : Int} (h : Whl w V z) : ∃ b A n c, V = .agg #[.bool b, .slice A n c] ∧ Hid (Whl w V z) ∧ Hid (b = decide (z < 0) ∧ n = len 4294967296 z.natAbs ∧ Num 4294967296 .u32 w (.slice A n c) z.natAbs n) := by
  have h' := h
  obtain ⟨v, rfl, hn⟩ := h'
  obtain ⟨A, c, rfl, -⟩ := id hn
  exact ⟨_, A, _, c, rfl, h, rfl, rfl, hn⟩
theorem Rat3.laid {w : World} {V : Value} {z : Int} {D : Nat} (h : Rat3 w V z D) : ∃ b A n c C m d, V = .agg #[.bool b, .slice A n c, .slice C m d] ∧ Hid (Rat3 w V z D) ∧
    Hid (b = decide (z < 0) ∧ n = len 4294967296 z.natAbs ∧ m = len 4294967296 D ∧ Num 4294967296 .u32 w (.slice A n c) z.natAbs n ∧ Num 4294967296 .u32 w (.slice C m d) D m ∧ D ≠ 0) := by
  have h' := h
  obtain ⟨vn, vd, rfl, h1, h2, h3⟩ := h'
  obtain ⟨A, c, rfl, -⟩ := id h1
  obtain ⟨C, d, rfl, -⟩ := id h2
  exact ⟨_, A, _, c, C, _, d, rfl, h, rfl, rfl, rfl, h1, h2, h3⟩
theorem Rat3.mk {w : World} {b : Bool} {A C : Option Addr} {n c m d D : Nat} {z : Int} (hb : b = decide (z < 0)) (hn : n = len 4294967296 z.natAbs) (hm : m = len 4294967296 D)
    (h1 : Num 4294967296 .u32 w (.slice A n c) z.natAbs n) (h2 : Num 4294967296 .u32 w (.slice C m d) D m) (h3 : D ≠ 0) : Rat3 w (.agg #[.bool b, .slice A n c, .slice C m d]) z D := by
  subst hb; subst hn; subst hm
  exact ⟨_, _, rfl, h1, h2, h3⟩
theorem FracV.laid {w : World} {V : Value} {q : Rat} {k : Nat} (h : FracV w V q k) : ∃ b A n c C m d, V = .agg #[.bool b, .slice A n c, .slice C m d] ∧ Hid (FracV w V q k) := by
  have h' := h
  obtain ⟨neg, N, D, n, m, va, vd, rfl, h1, h2, -⟩ := h'
  obtain ⟨A, c, rfl, -⟩ := id h1
  obtain ⟨C, d, rfl, -⟩ := id h2
  exact ⟨_, A, _, c, C, _, d, rfl, h⟩
theorem FracC.laid {w : World} {V : Value} {q : Rat} (h : FracC w V q) : ∃ b A n c C m d, V = .agg #[.bool b, .slice A n c, .slice C m d] ∧ Hid (FracC w V q) := by
  have h' := h
  obtain ⟨va, vd, rfl, h1, h2, -⟩ := h'
  obtain ⟨A, c, rfl, -⟩ := id h1
  obtain ⟨C, d, rfl, -⟩ := id h2
  exact ⟨_, A, _, c, C, _, d, rfl, h⟩
theorem RatQ.laid {w : World} {V : Value} {q : Rat} {k : Nat} (h : RatQ w V q k) : ∃ b A n c C m d, V = .agg #[.bool b, .slice A n c, .slice C m d] ∧ Hid (RatQ w V q k) := by
  have h' := h
  obtain ⟨z, D, ⟨va, vd, rfl, h1, h2, -⟩, -⟩ := h'
  obtain ⟨A, c, rfl, -⟩ := id h1
  obtain ⟨C, d, rfl, -⟩ := id h2
  exact ⟨_, A, _, c, C, _, d, rfl, h⟩

theorem other3 {w : World} {b r o p : Nat} {u0 u1 u2 : Value} {v : Option Value} (h : b ≠ r) (hc : w.cell? ⟨b, p, none⟩ = v) : (((w.setCell ⟨r, o, none⟩ u0).setCell ⟨r, o + 1, none⟩ u1).setCell ⟨r, o + 2, none⟩ u2).cell? ⟨b, p, none⟩ = v := by
  rw [World.cell?_setCell_other _ _ _ _ (by simp <;> omega), World.cell?_setCell_other _ _ _ _ (by simp <;> omega), World.cell?_setCell_other _ _ _ _ (by simp <;> omega)]; exact hc
/-- Three cells of one struct (a truth and two slices) are stored anew. -/
theorem store3 {w w' : World} {r o : Nat} {x : Bool} {A B : Option Addr} {n c m d : Nat} {u0 u1 u2 : Value} (h0 : w.cell? ⟨r, o, none⟩ = some (.bool x)) (h1 : w.cell? ⟨r, o + 1, none⟩ = some (.slice A n c)) (h2 : w.cell? ⟨r, o + 2, none⟩ = some (.slice B m d))
    (h : w' = ((w.setCell ⟨r, o, none⟩ u0).setCell ⟨r, o + 1, none⟩ u1).setCell ⟨r, o + 2, none⟩ u2) :
    w'.cell? ⟨r, o, none⟩ = some u0 ∧ w'.cell? ⟨r, o + 1, none⟩ = some u1 ∧ w'.cell? ⟨r, o + 2, none⟩ = some u2 ∧ Keeps w w' ∧
      (∀ b p, b ≠ r → w'.cell? ⟨b, p, none⟩ = w.cell? ⟨b, p, none⟩) ∧ (∀ p, p < o ∨ o + 2 < p → w'.cell? ⟨r, p, none⟩ = w.cell? ⟨r, p, none⟩) ∧ w'.heap.size = w.heap.size ∧ (∀ a, w.heap.size ≤ r ∨ a.heap.size ≤ r → Grew a w → Grew a w') := by
  have e1 : ∀ u, (w.setCell ⟨r, o, none⟩ u).cell? ⟨r, o + 1, none⟩ = some (.slice A n c) := fun u => by rw [World.cell?_setCell_other _ _ _ _ (by simp)]; exact h1
  have e2 : ∀ u v, ((w.setCell ⟨r, o, none⟩ u).setCell ⟨r, o + 1, none⟩ v).cell? ⟨r, o + 2, none⟩ = some (.slice B m d) := fun u v => by
    rw [World.cell?_setCell_other _ _ _ _ (by simp), World.cell?_setCell_other _ _ _ _ (by simp)]; exact h2
  subst h
  refine ⟨?_, ?_, ?_, ?_, ?_, ?_, ?_, ?_⟩
  · rw [World.cell?_setCell_other _ _ _ _ (by simp), World.cell?_setCell_other _ _ _ _ (by simp)]; exact cell_set h0 u0
  · rw [World.cell?_setCell_other _ _ _ _ (by simp)]; exact cell_set (e1 _) u1
  · exact cell_set (e2 _ _) u2
  · intro B' K v N k hh
    exact ((hh.setCell (by rw [h0]; simp) _).setCell (by rw [e1]; simp) _).setCell (by rw [e2]; simp) _
  · intro b p hb
    rw [World.cell?_setCell_other _ _ _ _ (by simp <;> omega), World.cell?_setCell_other _ _ _ _ (by simp <;> omega), World.cell?_setCell_other _ _ _ _ (by simp <;> omega)]
  · intro p hp
    rw [World.cell?_setCell_other _ _ _ _ (by simp <;> omega), World.cell?_setCell_other _ _ _ _ (by simp <;> omega), World.cell?_setCell_other _ _ _ _ (by simp <;> omega)]
  · simp [World.setCell]
  · intro a ha g
    have hr : a.heap.size ≤ r := by rcases ha with h | h; exact Nat.le_trans g.size h; exact h
    exact ((g.setCell hr _).setCell hr _).setCell hr _

/-- Three cells of a struct that may be stored. -/
def Res3 (w : World) (r o : Nat) (u0 u1 u2 : Value) : Prop :=
  w.cell? ⟨r, o, none⟩ = some u0 ∧ w.cell? ⟨r, o + 1, none⟩ = some u1 ∧ w.cell? ⟨r, o + 2, none⟩ = some u2 ∧ w.frozen? ⟨r, o, none⟩ = false ∧ w.frozen? ⟨r, o + 1, none⟩ = false ∧ w.frozen? ⟨r, o + 2, none⟩ = false ∧ r < w.heap.size
theorem Res3.grew {w w' : World} {r o : Nat} {u0 u1 u2 : Value} (h : Res3 w r o u0 u1 u2) (g : Grew w w') : Res3 w' r o u0 u1 u2 := by
  obtain ⟨h0, h1, h2, f0, f1, f2, s⟩ := h
  exact ⟨g.cell h0, g.cell h1, g.cell h2, (g.below.frozen (p := ⟨r, o, none⟩) s).trans f0, (g.below.frozen (p := ⟨r, o + 1, none⟩) s).trans f1, (g.below.frozen (p := ⟨r, o + 2, none⟩) s).trans f2, Nat.lt_of_lt_of_le s g.size⟩
/-- Three cells of a struct. -/
def Box3 (w : World) (r o : Nat) (u0 u1 u2 : Value) : Prop := w.cell? ⟨r, o, none⟩ = some u0 ∧ w.cell? ⟨r, o + 1, none⟩ = some u1 ∧ w.cell? ⟨r, o + 2, none⟩ = some u2
theorem Box3.p0 {w : World} {r o : Nat} {u0 u1 u2 : Value} (h : Box3 w r o u0 u1 u2) : w.cell? ⟨r, o, none⟩ = some u0 := h.1
theorem Box3.p1 {w : World} {r o : Nat} {u0 u1 u2 : Value} (h : Box3 w r o u0 u1 u2) : w.cell? ⟨r, o + 1, none⟩ = some u1 := h.2.1
theorem Box3.p2 {w : World} {r o : Nat} {u0 u1 u2 : Value} (h : Box3 w r o u0 u1 u2) : w.cell? ⟨r, o + 2, none⟩ = some u2 := h.2.2
theorem Box3.grew {w w' : World} {r o : Nat} {u0 u1 u2 : Value} (h : Box3 w r o u0 u1 u2) (g : Grew w w') : Box3 w' r o u0 u1 u2 := ⟨g.cell h.1, g.cell h.2.1, g.cell h.2.2⟩
theorem Box3.stored {w : World} {b r p o : Nat} {u0 u1 u2 v0 v1 v2 : Value} (h : Box3 w b p v0 v1 v2) (hb : b ≠ r) : Box3 (((w.setCell ⟨r, o, none⟩ u0).setCell ⟨r, o + 1, none⟩ u1).setCell ⟨r, o + 2, none⟩ u2) b p v0 v1 v2 :=
  ⟨other3 hb h.1, other3 hb h.2.1, other3 hb h.2.2⟩
theorem Box3.kept {w w' : World} {r o : Nat} {u0 u1 u2 : Value} (h : Box3 w r o u0 u1 u2) (g : ∀ p, w'.cell? ⟨r, p, none⟩ = w.cell? ⟨r, p, none⟩) : Box3 w' r o u0 u1 u2 := ⟨(g _).trans h.1, (g _).trans h.2.1, (g _).trans h.2.2⟩
/-- Two cells of a struct. -/
def Box2 (w : World) (r o : Nat) (u0 u1 : Value) : Prop := w.cell? ⟨r, o, none⟩ = some u0 ∧ w.cell? ⟨r, o + 1, none⟩ = some u1
theorem Box2.p0 {w : World} {r o : Nat} {u0 u1 : Value} (h : Box2 w r o u0 u1) : w.cell? ⟨r, o, none⟩ = some u0 := h.1
theorem Box2.p1 {w : World} {r o : Nat} {u0 u1 : Value} (h : Box2 w r o u0 u1) : w.cell? ⟨r, o + 1, none⟩ = some u1 := h.2
theorem Box2.grew {w w' : World} {r o : Nat} {u0 u1 : Value} (h : Box2 w r o u0 u1) (g : Grew w w') : Box2 w' r o u0 u1 := ⟨g.cell h.1, g.cell h.2⟩
theorem lt_grew {w w' : World} {b : Nat} (h : b < w.heap.size) (g : Grew w w') : b < w'.heap.size := Nat.lt_of_lt_of_le h g.size
theorem Res3.p0 {w : World} {r o : Nat} {u0 u1 u2 : Value} (h : Res3 w r o u0 u1 u2) : w.cell? ⟨r, o, none⟩ = some u0 := h.1
theorem Res3.p1 {w : World} {r o : Nat} {u0 u1 u2 : Value} (h : Res3 w r o u0 u1 u2) : w.cell? ⟨r, o + 1, none⟩ = some u1 := h.2.1
theorem Res3.p2 {w : World} {r o : Nat} {u0 u1 u2 : Value} (h : Res3 w r o u0 u1 u2) : w.cell? ⟨r, o + 2, none⟩ = some u2 := h.2.2.1
theorem Res3.lt {w : World} {r o : Nat} {u0 u1 u2 : Value} (h : Res3 w r o u0 u1 u2) : r < w.heap.size := h.2.2.2.2.2.2

/-- A block that holds three cells of which P says something, in this world. -/
def At3 (w : World) (g : Nat) (P : World → Value → Prop) : Prop := ∃ b A n c C m d, Box3 w g 0 (.bool b) (.slice A n c) (.slice C m d) ∧ P w (.agg #[.bool b, .slice A n c, .slice C m d]) ∧ g < w.heap.size
/-- What P says is said of what reads. -/
def Rd (P : World → Value → Prop) : Prop := ∀ w w' V, P w V → Keeps w w' → P w' V
theorem At3.of_alloc {w X : World} {P : World → Value → Prop} (hP : Rd P) {b : Bool} {A C : Option Addr} {n c m d g : Nat} {t : TypeId} (hg : X.heap.size = g) (hk : Keeps w X) (h : P w (.agg #[.bool b, .slice A n c, .slice C m d])) :
    At3 (X.alloc (.cells #[.bool b, .slice A n c, .slice C m d] t)) g P := by
  subst hg
  exact ⟨b, A, n, c, C, m, d, ⟨by simp [go_sem], by simp [go_sem], by simp [go_sem]⟩, hP _ _ _ h (hk.trans ((Grew.refl X).alloc _).keeps), by simp⟩
theorem At3.of_store {w X : World} {P : World → Value → Prop} (hP : Rd P) {b : Bool} {A C : Option Addr} {n c m d g : Nat} (r : Res3 X g 0 (.bool false) (.slice none 0 0) (.slice none 0 0)) (hk : Keeps w X) (h : P w (.agg #[.bool b, .slice A n c, .slice C m d])) :
    At3 (((X.setCell ⟨g, 0, none⟩ (.bool b)).setCell ⟨g, 1, none⟩ (.slice A n c)).setCell ⟨g, 2, none⟩ (.slice C m d)) g P := by
  obtain ⟨q0, q1, q2, qK, -, -, qs, -⟩ := store3 (o := 0) r.p0 r.p1 r.p2 rfl
  exact ⟨b, A, n, c, C, m, d, ⟨q0, q1, q2⟩, hP _ _ _ h (hk.trans qK), by rw [qs]; exact r.lt⟩
theorem Keeps.store {w X : World} {g : Nat} {u0 u1 u2 : Value} (r : Res3 X g 0 (.bool false) (.slice none 0 0) (.slice none 0 0)) (hk : Keeps w X) :
    Keeps w (((X.setCell ⟨g, 0, none⟩ u0).setCell ⟨g, 1, none⟩ u1).setCell ⟨g, 2, none⟩ u2) := by
  obtain ⟨-, -, -, qK, -⟩ := store3 (o := 0) r.p0 r.p1 r.p2 rfl
  exact hk.trans qK
theorem Keeps.alloc {w X : World} {o : Obj} (hk : Keeps w X) : Keeps w (X.alloc o) := hk.trans ((Grew.refl X).alloc _).keeps
theorem Res3.store_far {w : World} {g h : Nat} {u0 u1 u2 : Value} (a : Res3 w g 0 (.bool false) (.slice none 0 0) (.slice none 0 0)) (r : Res3 w h 0 (.bool false) (.slice none 0 0) (.slice none 0 0)) (hne : g ≠ h) :
    Res3 (((w.setCell ⟨h, 0, none⟩ u0).setCell ⟨h, 1, none⟩ u1).setCell ⟨h, 2, none⟩ u2) g 0 (.bool false) (.slice none 0 0) (.slice none 0 0) := by
  obtain ⟨q0, q1, q2, qK, qf, -, qs, -⟩ := store3 (o := 0) r.p0 r.p1 r.p2 rfl
  obtain ⟨a0, a1, a2, f0, f1, f2, s⟩ := a
  exact ⟨(qf _ _ hne).trans a0, (qf _ _ hne).trans a1, (qf _ _ hne).trans a2, by simp [f0], by simp [f1], by simp [f2], by rw [qs]; exact s⟩
theorem At3.store_far {w : World} {P : World → Value → Prop} (hP : Rd P) {g h : Nat} {u0 u1 u2 : Value} (a : At3 w g P) (r : Res3 w h 0 (.bool false) (.slice none 0 0) (.slice none 0 0)) (hne : g ≠ h) :
    At3 (((w.setCell ⟨h, 0, none⟩ u0).setCell ⟨h, 1, none⟩ u1).setCell ⟨h, 2, none⟩ u2) g P := by
  obtain ⟨q0, q1, q2, qK, qf, -, qs, -⟩ := store3 (o := 0) r.p0 r.p1 r.p2 rfl
  obtain ⟨b, A, n, c, C, m, d, hB, hp, hl⟩ := a
  exact ⟨b, A, n, c, C, m, d, hB.kept (fun p => qf g p hne), hP _ _ _ hp qK, by rw [qs]; exact hl⟩
theorem At3.grew {w w' : World} {P : World → Value → Prop} (hP : Rd P) {g : Nat} (a : At3 w g P) (k : Grew w w') : At3 w' g P := by
  obtain ⟨b, A, n, c, C, m, d, hB, hp, hl⟩ := a
  exact ⟨b, A, n, c, C, m, d, hB.grew k, hP _ _ _ hp k.keeps, Nat.lt_of_lt_of_le hl k.size⟩
theorem Rd.fracC (q : Rat) : Rd (fun w V => FracC w V q) := fun _ _ _ h k => FracC.kept h k
theorem Rd.ratQ (q : Rat) (l : Nat) : Rd (fun w V => RatQ w V q l) := fun _ _ _ h k => RatQ.kept h k
theorem Rd.fracV (q : Rat) (l : Nat) : Rd (fun w V => FracV w V q l) := fun _ _ _ h k => FracV.kept h k
/-- A new block of three cells behind a call. -/
theorem res_new {w w' : World} {t : TypeId} (g : Grew (w.alloc (.cells #[.bool false, .slice none 0 0, .slice none 0 0] t)) w') : Res3 w' w.heap.size 0 (.bool false) (.slice none 0 0) (.slice none 0 0) :=
  Res3.grew ⟨by simp [go_sem], by simp [go_sem], by simp [go_sem], by simp [go_sem], by simp [go_sem], by simp [go_sem], by simp⟩ g
theorem res_newD {w w' : World} {t : TypeId} (g : Grew (w.alloc (.cells #[.bool false, .slice none 0 0, .slice none 0 0] t)).drew w') : Res3 w' w.heap.size 0 (.bool false) (.slice none 0 0) (.slice none 0 0) :=
  Res3.grew ⟨by simp [go_sem], by simp [go_sem], by simp [go_sem], by simp [go_sem], by simp [go_sem], by simp [go_sem], by simp⟩ g
theorem res_new2 {w w' : World} {t s : TypeId} (g : Grew ((w.alloc (.cells #[.bool false, .slice none 0 0, .slice none 0 0] t)).alloc (.cells #[.bool false, .slice none 0 0, .slice none 0 0] s)) w') :
    Res3 w' w.heap.size 0 (.bool false) (.slice none 0 0) (.slice none 0 0) ∧ Res3 w' (w.heap.size + 1) 0 (.bool false) (.slice none 0 0) (.slice none 0 0) :=
  ⟨Res3.grew ⟨by simp [go_sem], by simp [go_sem], by simp [go_sem], by simp [go_sem], by simp [go_sem], by simp [go_sem], by simp <;> omega⟩ g,
   Res3.grew ⟨by simp [go_sem], by simp [go_sem], by simp [go_sem], by simp [go_sem], by simp [go_sem], by simp [go_sem], by simp <;> omega⟩ g⟩
theorem res_new2D {w w' : World} {t s : TypeId} (g : Grew ((w.alloc (.cells #[.bool false, .slice none 0 0, .slice none 0 0] t)).alloc (.cells #[.bool false, .slice none 0 0, .slice none 0 0] s)).drew w') :
    Res3 w' w.heap.size 0 (.bool false) (.slice none 0 0) (.slice none 0 0) ∧ Res3 w' (w.heap.size + 1) 0 (.bool false) (.slice none 0 0) (.slice none 0 0) :=
  ⟨Res3.grew ⟨by simp [go_sem], by simp [go_sem], by simp [go_sem], by simp [go_sem], by simp [go_sem], by simp [go_sem], by simp <;> omega⟩ g,
   Res3.grew ⟨by simp [go_sem], by simp [go_sem], by simp [go_sem], by simp [go_sem], by simp [go_sem], by simp [go_sem], by simp <;> omega⟩ g⟩
/-- Six cells of one struct (twice a truth and two slices) are stored anew. -/
theorem store6 {w w' : World} {r : Nat} {x y : Bool} {A B C D : Option Addr} {n c m d n' c' m' d' : Nat} {u0 u1 u2 u3 u4 u5 : Value}
    (h0 : w.cell? ⟨r, 0, none⟩ = some (.bool x)) (h1 : w.cell? ⟨r, 1, none⟩ = some (.slice A n c)) (h2 : w.cell? ⟨r, 2, none⟩ = some (.slice B m d))
    (h3 : w.cell? ⟨r, 3, none⟩ = some (.bool y)) (h4 : w.cell? ⟨r, 4, none⟩ = some (.slice C n' c')) (h5 : w.cell? ⟨r, 5, none⟩ = some (.slice D m' d'))
    (h : w' = (((((w.setCell ⟨r, 0, none⟩ u0).setCell ⟨r, 1, none⟩ u1).setCell ⟨r, 2, none⟩ u2).setCell ⟨r, 3, none⟩ u3).setCell ⟨r, 4, none⟩ u4).setCell ⟨r, 5, none⟩ u5) :
    w'.cell? ⟨r, 0, none⟩ = some u0 ∧ w'.cell? ⟨r, 1, none⟩ = some u1 ∧ w'.cell? ⟨r, 2, none⟩ = some u2 ∧ w'.cell? ⟨r, 3, none⟩ = some u3 ∧ w'.cell? ⟨r, 4, none⟩ = some u4 ∧ w'.cell? ⟨r, 5, none⟩ = some u5 ∧
      Keeps w w' ∧ (∀ a, a.heap.size ≤ r → Grew a w → Grew a w') := by
  obtain ⟨q0, q1, q2, qK, -, qf, qs, qG⟩ := store3 (o := 0) (u0 := u0) (u1 := u1) (u2 := u2) h0 h1 h2 rfl
  obtain ⟨q3, q4, q5, qK', -, qf', qs', qG'⟩ := store3 (o := 3) ((qf _ (by omega)).trans h3) ((qf _ (by omega)).trans h4) ((qf _ (by omega)).trans h5) h
  exact ⟨(qf' _ (by omega)).trans q0, (qf' _ (by omega)).trans q1, (qf' _ (by omega)).trans q2, q3, q4, q5, qK.trans qK', fun a ha g => qG' a (.inr ha) (qG a (.inr ha) g)⟩

/-- A spot as it comes in; a spot as it is answered. -/
def SpotV (w : World) (V : Value) (x y : Rat) (k : Nat) : Prop := ∃ b A n c C m d b' A' n' c' C' m' d', V = .agg #[.bool b, .slice A n c, .slice C m d, .bool b', .slice A' n' c', .slice C' m' d'] ∧
  FracV w (.agg #[.bool b, .slice A n c, .slice C m d]) x k ∧ FracV w (.agg #[.bool b', .slice A' n' c', .slice C' m' d']) y k
def SpotC (w : World) (V : Value) (x y : Rat) : Prop := ∃ b A n c C m d b' A' n' c' C' m' d', V = .agg #[.bool b, .slice A n c, .slice C m d, .bool b', .slice A' n' c', .slice C' m' d'] ∧
  FracC w (.agg #[.bool b, .slice A n c, .slice C m d]) x ∧ FracC w (.agg #[.bool b', .slice A' n' c', .slice C' m' d']) y
theorem SpotV.kept {w w' : World} {V : Value} {x y : Rat} {k : Nat} (h : SpotV w V x y k) (g : Keeps w w') : SpotV w' V x y k := by
  obtain ⟨b, A, n, c, C, m, d, b', A', n', c', C', m', d', e, h1, h2⟩ := h
  exact ⟨b, A, n, c, C, m, d, b', A', n', c', C', m', d', e, h1.kept g, h2.kept g⟩
theorem SpotC.kept {w w' : World} {V : Value} {x y : Rat} (h : SpotC w V x y) (g : Keeps w w') : SpotC w' V x y := by
  obtain ⟨b, A, n, c, C, m, d, b', A', n', c', C', m', d', e, h1, h2⟩ := h
  exact ⟨b, A, n, c, C, m, d, b', A', n', c', C', m', d', e, h1.kept g, h2.kept g⟩
theorem SpotC.v {w : World} {V : Value} {x y : Rat} {k : Nat} (h : SpotC w V x y) (b1 : QB x k) (b2 : QB y k) : SpotV w V x y k := by
  obtain ⟨b, A, n, c, C, m, d, b', A', n', c', C', m', d', e, h1, h2⟩ := h
  exact ⟨b, A, n, c, C, m, d, b', A', n', c', C', m', d', e, h1.v b1, h2.v b2⟩
theorem SpotV.laid {w : World} {V : Value} {x y : Rat} {k : Nat} (h : SpotV w V x y k) : ∃ b A n c C m d b' A' n' c' C' m' d', V = .agg #[.bool b, .slice A n c, .slice C m d, .bool b', .slice A' n' c', .slice C' m' d'] ∧
    Hid (FracV w (.agg #[.bool b, .slice A n c, .slice C m d]) x k) ∧ Hid (FracV w (.agg #[.bool b', .slice A' n' c', .slice C' m' d']) y k) ∧
    Hid (SpotV w (.agg #[.bool b, .slice A n c, .slice C m d, .bool b', .slice A' n' c', .slice C' m' d']) x y k) := by
  have h' := h
  obtain ⟨b, A, n, c, C, m, d, b', A', n', c', C', m', d', rfl, h1, h2⟩ := h'
  exact ⟨b, A, n, c, C, m, d, b', A', n', c', C', m', d', rfl, h1, h2, h⟩
theorem SpotC.laid {w : World} {V : Value} {x y : Rat} (h : SpotC w V x y) : ∃ b A n c C m d b' A' n' c' C' m' d', V = .agg #[.bool b, .slice A n c, .slice C m d, .bool b', .slice A' n' c', .slice C' m' d'] ∧
    Hid (FracC w (.agg #[.bool b, .slice A n c, .slice C m d]) x) ∧ Hid (FracC w (.agg #[.bool b', .slice A' n' c', .slice C' m' d']) y) ∧
    Hid (SpotC w (.agg #[.bool b, .slice A n c, .slice C m d, .bool b', .slice A' n' c', .slice C' m' d']) x y) := by
  have h' := h
  obtain ⟨b, A, n, c, C, m, d, b', A', n', c', C', m', d', rfl, h1, h2⟩ := h'
  exact ⟨b, A, n, c, C, m, d, b', A', n', c', C', m', d', rfl, h1, h2, h⟩
theorem SpotC.mk {w : World} {x y : Rat} {b : Bool} {A : Option Addr} {n c : Nat} {C : Option Addr} {m d : Nat} {b' : Bool} {A' : Option Addr} {n' c' : Nat} {C' : Option Addr} {m' d' : Nat}
    (h1 : FracC w (.agg #[.bool b, .slice A n c, .slice C m d]) x) (h2 : FracC w (.agg #[.bool b', .slice A' n' c', .slice C' m' d']) y) :
    SpotC w (.agg #[.bool b, .slice A n c, .slice C m d, .bool b', .slice A' n' c', .slice C' m' d']) x y := ⟨b, A, n, c, C, m, d, b', A', n', c', C', m', d', rfl, h1, h2⟩
theorem store33 {w w' : World} {r s : Nat} {x y : Bool} {A B C D : Option Addr} {n c m d n' c' m' d' : Nat} {u0 u1 u2 v0 v1 v2 : Value} (hr : Res3 w r 0 (.bool x) (.slice A n c) (.slice B m d)) (hs : Res3 w s 0 (.bool y) (.slice C n' c') (.slice D m' d')) (hne : r ≠ s)
    (h : w' = (((((w.setCell ⟨r, 0, none⟩ u0).setCell ⟨r, 1, none⟩ u1).setCell ⟨r, 2, none⟩ u2).setCell ⟨s, 0, none⟩ v0).setCell ⟨s, 1, none⟩ v1).setCell ⟨s, 2, none⟩ v2) :
    Box3 w' r 0 u0 u1 u2 ∧ Box3 w' s 0 v0 v1 v2 ∧ Keeps w w' ∧ (∀ b p, b ≠ r → b ≠ s → w'.cell? ⟨b, p, none⟩ = w.cell? ⟨b, p, none⟩) ∧ (∀ a, a.heap.size ≤ r → a.heap.size ≤ s → Grew a w → Grew a w') ∧ w'.heap.size = w.heap.size := by
  obtain ⟨q0, q1, q2, qK, qf, -, qs, qG⟩ := store3 (o := 0) (u0 := u0) (u1 := u1) (u2 := u2) hr.p0 hr.p1 hr.p2 rfl
  obtain ⟨p0, p1, p2, pK, pf, -, ps, pG⟩ := store3 (o := 0) ((qf _ _ hne.symm).trans hs.p0) ((qf _ _ hne.symm).trans hs.p1) ((qf _ _ hne.symm).trans hs.p2) h
  exact ⟨⟨(pf _ _ hne).trans q0, (pf _ _ hne).trans q1, (pf _ _ hne).trans q2⟩, ⟨p0, p1, p2⟩, qK.trans pK, fun b p h1 h2 => (pf _ _ h2).trans (qf _ _ h1), fun a h1 h2 g => pG a (.inr h2) (qG a (.inr h1) g), ps.trans qs⟩
end Go.Proofs.Ytpglnfccmhkocaa
