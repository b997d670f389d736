/- Locals of six cells inside a region that draws, told by what is listed. Conditions: none. -/
import Derived.Test.YthhgogpglocjdaaGreatJRegI
import Derived.Test.YthhgogpglocjdaaGreatJCross2
namespace Go.Proofs.YthhgogpglocjdaaGreat
open Go.RowKit

theorem Grew.store6 {w0 w : World} {e : Nat} {u0 u1 u2 u3 u4 u5 : Value} (g : Grew w0 w) (h : w0.heap.size ≤ e) : Grew w0 (set6 w e u0 u1 u2 u3 u4 u5) :=
  (((((g.setCell h _).setCell h _).setCell h _).setCell h _).setCell h _).setCell h _
/-- A local of six cells: ca tells that it is allocated, cs that it is stored; its slot is d. -/
def Loc (a : Act) (d : Nat) (w0 w : World) (ca cs : Bool) (e : Nat) (S : World → Value → Prop) : Prop :=
  Hid ((cs = true → ca = true) ∧ (ca = true → Slot a d (.pointer (some ⟨e, 0, none⟩)) ∧ w0.heap.size ≤ e ∧ e < w.heap.size ∧ (cs = false → Res6 w e) ∧ (cs = true → At6 w e S)))
theorem Loc.zero {a : Act} {d : Nat} {w0 w : World} {e : Nat} {S : World → Value → Prop} : Loc a d w0 w false false e S := Lib.hid ⟨fun h => by simp at h, fun h => by simp at h⟩
theorem Loc.put {a : Act} {d : Nat} {w0 w : World} {ca cs : Bool} {e : Nat} {S : World → Value → Prop} (h : Loc a d w0 w ca cs e S) {d' : Nat} {v : Value} (ne : d' ≠ d) : Loc (a.put (some d') v) d w0 w ca cs e S :=
  Lib.hid ⟨h.1, fun hc => ⟨(h.2 hc).1.put ne, (h.2 hc).2⟩⟩
theorem Loc.grew {a : Act} {d : Nat} {w0 w w' : World} {ca cs : Bool} {e : Nat} {S : World → Value → Prop} (h : Loc a d w0 w ca cs e S) (hS : Rd S) (g : Grew w w') : Loc a d w0 w' ca cs e S := by
  obtain ⟨h1, h2⟩ := h
  refine Lib.hid ⟨h1, fun hc => ?_⟩
  obtain ⟨e1, e2, e3, e4, e5⟩ := h2 hc
  exact ⟨e1, e2, Nat.lt_of_lt_of_le e3 g.size, fun k => (e4 k).grew g, fun k => (e5 k).grew hS g⟩
theorem Loc.new {a : Act} {d : Nat} {w0 w : World} {cs : Bool} {e : Nat} {t : TypeId} {S : World → Value → Prop} (h : Loc a d w0 w false cs e S) (hle : w0.heap.size ≤ w.heap.size) (hd : d < a.tmps.size) :
    Loc (a.put (some d) (.pointer (some ⟨w.heap.size, 0, none⟩))) d w0 (w.alloc (.cells #[.bool false, .slice none 0 0, .slice none 0 0, .bool false, .slice none 0 0, .slice none 0 0] t)) true cs w.heap.size S := by
  refine Lib.hid ⟨fun _ => rfl, fun _ => ⟨Slot.new hd, hle, by simp, fun _ => res6_at w t, fun hc => ?_⟩⟩
  have := h.1 hc
  simp at this
theorem Loc.fresh {a : Act} {d : Nat} {w0 w : World} {e : Nat} {S : World → Value → Prop} (h : Loc a d w0 w true false e S) : Slot a d (.pointer (some ⟨e, 0, none⟩)) ∧ w0.heap.size ≤ e ∧ Res6 w e := by
  obtain ⟨-, h2⟩ := h
  obtain ⟨e1, e2, -, e4, -⟩ := h2 rfl
  exact ⟨e1, e2, e4 rfl⟩
theorem Loc.done {a : Act} {d : Nat} {w0 w : World} {e : Nat} {S : World → Value → Prop} (h : Loc a d w0 w true true e S) : Slot a d (.pointer (some ⟨e, 0, none⟩)) ∧ w0.heap.size ≤ e ∧ At6 w e S := by
  obtain ⟨-, h2⟩ := h
  obtain ⟨e1, e2, -, -, e5⟩ := h2 rfl
  exact ⟨e1, e2, e5 rfl⟩
theorem Loc.ne {a : Act} {d : Nat} {w0 w : World} {ca cs : Bool} {e : Nat} {S : World → Value → Prop} (h : Loc a d w0 w ca cs e S) (hc : ca = true) : e ≠ w.heap.size := by
  obtain ⟨-, -, h3, -⟩ := h.2 hc
  omega
theorem Loc.stored {x : Act} {d0 : Nat} {w0 w : World} {b b' : Bool} {A C A' C' : Option Addr} {n c m d n' c' m' d' e : Nat} {S : World → Value → Prop} (hS : Rd S) (hs : Slot x d0 (.pointer (some ⟨e, 0, none⟩))) (hle : w0.heap.size ≤ e) (r : Res6 w e)
    (hV : S w (.agg #[.bool b, .slice A n c, .slice C m d, .bool b', .slice A' n' c', .slice C' m' d'])) :
    Loc x d0 w0 (set6 w e (.bool b) (.slice A n c) (.slice C m d) (.bool b') (.slice A' n' c') (.slice C' m' d')) true true e S :=
  Lib.hid ⟨fun _ => rfl, fun _ => ⟨hs, hle, by simpa using r.lt, fun h => by simp at h, fun _ => At6.of_store hS r (Keeps.refl _) hV⟩⟩
theorem Loc.far {a : Act} {d : Nat} {w0 w : World} {ca cs : Bool} {e h : Nat} {u0 u1 u2 u3 u4 u5 : Value} {S : World → Value → Prop} (l : Loc a d w0 w ca cs e S) (hS : Rd S) (r : Res6 w h) (ne : e ≠ h) :
    Loc a d w0 (set6 w h u0 u1 u2 u3 u4 u5) ca cs e S := by
  obtain ⟨h1, h2⟩ := l
  refine Lib.hid ⟨h1, fun hc => ?_⟩
  obtain ⟨e1, e2, e3, e4, e5⟩ := h2 hc
  exact ⟨e1, e2, by simpa using e3, fun k => (e4 k).store_far r ne, fun k => (e5 k).store_far hS r ne⟩
/-- Three cells stored anew. -/
abbrev set3 (w : World) (r : Nat) (u0 u1 u2 : Value) : World := ((w.setCell ⟨r, 0, none⟩ u0).setCell ⟨r, 1, none⟩ u1).setCell ⟨r, 2, none⟩ u2
theorem Grew.store3 {w0 w : World} {e : Nat} {u0 u1 u2 : Value} (g : Grew w0 w) (h : w0.heap.size ≤ e) : Grew w0 (set3 w e u0 u1 u2) := ((g.setCell h _).setCell h _).setCell h _
theorem res3_at (w : World) (t : TypeId) : Res3 (w.alloc (.cells #[.bool false, .slice none 0 0, .slice none 0 0] t)) w.heap.size 0 (.bool false) (.slice none 0 0) (.slice none 0 0) :=
  ⟨by simp [go_sem], by simp [go_sem], by simp [go_sem], by simp [go_sem], by simp [go_sem], by simp [go_sem], by simp⟩
/-- A local of three cells: ca tells that it is allocated, cs that it is stored; its slot is d. -/
def Loc3 (a : Act) (d : Nat) (w0 w : World) (ca cs : Bool) (e : Nat) (S : World → Value → Prop) : Prop :=
  Hid ((cs = true → ca = true) ∧ (ca = true → Slot a d (.pointer (some ⟨e, 0, none⟩)) ∧ w0.heap.size ≤ e ∧ e < w.heap.size ∧ (cs = false → Res3 w e 0 (.bool false) (.slice none 0 0) (.slice none 0 0)) ∧ (cs = true → At3 w e S)))
theorem Loc3.zero {a : Act} {d : Nat} {w0 w : World} {e : Nat} {S : World → Value → Prop} : Loc3 a d w0 w false false e S := Lib.hid ⟨fun h => by simp at h, fun h => by simp at h⟩
theorem Loc3.put {a : Act} {d : Nat} {w0 w : World} {ca cs : Bool} {e : Nat} {S : World → Value → Prop} (h : Loc3 a d w0 w ca cs e S) {d' : Nat} {v : Value} (ne : d' ≠ d) : Loc3 (a.put (some d') v) d w0 w ca cs e S :=
  Lib.hid ⟨h.1, fun hc => ⟨(h.2 hc).1.put ne, (h.2 hc).2⟩⟩
theorem Loc3.grew {a : Act} {d : Nat} {w0 w w' : World} {ca cs : Bool} {e : Nat} {S : World → Value → Prop} (h : Loc3 a d w0 w ca cs e S) (hS : Rd S) (g : Grew w w') : Loc3 a d w0 w' ca cs e S := by
  obtain ⟨h1, h2⟩ := h
  refine Lib.hid ⟨h1, fun hc => ?_⟩
  obtain ⟨e1, e2, e3, e4, e5⟩ := h2 hc
  exact ⟨e1, e2, Nat.lt_of_lt_of_le e3 g.size, fun k => (e4 k).grew g, fun k => (e5 k).grew hS g⟩
theorem Loc3.new {a : Act} {d : Nat} {w0 w : World} {cs : Bool} {e : Nat} {t : TypeId} {S : World → Value → Prop} (h : Loc3 a d w0 w false cs e S) (hle : w0.heap.size ≤ w.heap.size) (hd : d < a.tmps.size) :
    Loc3 (a.put (some d) (.pointer (some ⟨w.heap.size, 0, none⟩))) d w0 (w.alloc (.cells #[.bool false, .slice none 0 0, .slice none 0 0] t)) true cs w.heap.size S := by
  refine Lib.hid ⟨fun _ => rfl, fun _ => ⟨Slot.new hd, hle, by simp, fun _ => res3_at w t, fun hc => ?_⟩⟩
  have := h.1 hc
  simp at this
theorem Loc3.fresh {a : Act} {d : Nat} {w0 w : World} {e : Nat} {S : World → Value → Prop} (h : Loc3 a d w0 w true false e S) : Slot a d (.pointer (some ⟨e, 0, none⟩)) ∧ w0.heap.size ≤ e ∧ Res3 w e 0 (.bool false) (.slice none 0 0) (.slice none 0 0) := by
  obtain ⟨-, h2⟩ := h
  obtain ⟨e1, e2, -, e4, -⟩ := h2 rfl
  exact ⟨e1, e2, e4 rfl⟩
theorem Loc3.done {a : Act} {d : Nat} {w0 w : World} {e : Nat} {S : World → Value → Prop} (h : Loc3 a d w0 w true true e S) : Slot a d (.pointer (some ⟨e, 0, none⟩)) ∧ w0.heap.size ≤ e ∧ At3 w e S := by
  obtain ⟨-, h2⟩ := h
  obtain ⟨e1, e2, -, -, e5⟩ := h2 rfl
  exact ⟨e1, e2, e5 rfl⟩
theorem Loc3.ne {a : Act} {d : Nat} {w0 w : World} {ca cs : Bool} {e : Nat} {S : World → Value → Prop} (h : Loc3 a d w0 w ca cs e S) (hc : ca = true) : e ≠ w.heap.size := by
  obtain ⟨-, -, h3, -⟩ := h.2 hc
  omega
theorem Loc3.stored {x : Act} {d0 : Nat} {w0 w : World} {b : Bool} {A C : Option Addr} {n c m d e : Nat} {S : World → Value → Prop} (hS : Rd S) (hs : Slot x d0 (.pointer (some ⟨e, 0, none⟩))) (hle : w0.heap.size ≤ e) (r : Res3 w e 0 (.bool false) (.slice none 0 0) (.slice none 0 0))
    (hV : S w (.agg #[.bool b, .slice A n c, .slice C m d])) :
    Loc3 x d0 w0 (set3 w e (.bool b) (.slice A n c) (.slice C m d)) true true e S :=
  Lib.hid ⟨fun _ => rfl, fun _ => ⟨hs, hle, by simpa using r.lt, fun h => by simp at h, fun _ => At3.of_store hS r (Keeps.refl _) hV⟩⟩
theorem Loc3.far {a : Act} {d : Nat} {w0 w : World} {ca cs : Bool} {e h : Nat} {u0 u1 u2 : Value} {S : World → Value → Prop} (l : Loc3 a d w0 w ca cs e S) (hS : Rd S) (r : Res3 w h 0 (.bool false) (.slice none 0 0) (.slice none 0 0)) (ne : e ≠ h) :
    Loc3 a d w0 (set3 w h u0 u1 u2) ca cs e S := by
  obtain ⟨h1, h2⟩ := l
  refine Lib.hid ⟨h1, fun hc => ?_⟩
  obtain ⟨e1, e2, e3, e4, e5⟩ := h2 hc
  exact ⟨e1, e2, by simpa using e3, fun k => (e4 k).store_far r ne, fun k => (e5 k).store_far hS r ne⟩
/-- What a slot holds once an operation is listed. -/
def Got (a : Act) (d : Nat) (w : World) (c : Bool) (S : World → Value → Prop) : Prop := Hid (c = true → ∃ v, Slot a d v ∧ S w v)
theorem Got.put {a : Act} {d : Nat} {w : World} {c : Bool} {S : World → Value → Prop} (h : Got a d w c S) {d' : Nat} {v : Value} (ne : d' ≠ d) : Got (a.put (some d') v) d w c S :=
  Lib.hid fun hc => by obtain ⟨v, h1, h2⟩ := h hc; exact ⟨v, h1.put ne, h2⟩
theorem Got.kept {a : Act} {d : Nat} {w w' : World} {c : Bool} {S : World → Value → Prop} (h : Got a d w c S) (hS : Rd S) (k : Keeps w w') : Got a d w' c S :=
  Lib.hid fun hc => by obtain ⟨v, h1, h2⟩ := h hc; exact ⟨v, h1, hS _ _ _ h2 k⟩
theorem Got.new {a : Act} {d : Nat} {w : World} {c : Bool} {S : World → Value → Prop} {v : Value} (hd : d < a.tmps.size) (h : S w v) : Got (a.put (some d) v) d w c S :=
  Lib.hid fun _ => ⟨v, Slot.new hd, h⟩
theorem Got.zero {a : Act} {d : Nat} {w : World} {S : World → Value → Prop} : Got a d w false S := Lib.hid fun h => by simp at h
def Has (a : Act) (d : Nat) (c : Bool) (v : Value) : Prop := Hid (c = true → Slot a d v)
theorem Has.put {a : Act} {d : Nat} {c : Bool} {v : Value} (h : Has a d c v) {d' : Nat} {u : Value} (ne : d' ≠ d) : Has (a.put (some d') u) d c v := Lib.hid fun hc => (h hc).put ne
theorem Has.new {a : Act} {d : Nat} {c : Bool} {v : Value} (hd : d < a.tmps.size) : Has (a.put (some d) v) d c v := Lib.hid fun _ => Slot.new hd
theorem Has.zero {a : Act} {d : Nat} {v : Value} : Has a d false v := Lib.hid fun h => by simp at h

def Inv4 (w0 : World) (p0 p1 p3 p4 p6 p7 p9 p10 : Value) (S2 S5 S8 S11 : World → Value → Prop) (a0 : Act) (l : Array Bool) (a : Act) (w : World) : Prop :=
  ∃ (c0 c1 c2 c3 c4 c5 c6 c7 c8 c9 c10 c11 c12 c13 c14 c15 c16 c17 c18 c19 : Bool) (e12 e13 e14 e15 : Nat), l = #[c0, c1, c2, c3, c4, c5, c6, c7, c8, c9, c10, c11, c12, c13, c14, c15, c16, c17, c18, c19] ∧ Alike a0 a [89, 90, 91, 92, 93, 94, 95, 96, 97, 98, 99, 100, 5, 6, 7, 8] ∧ Hid (Grew w0 w) ∧
    Has a 89 c0 p0 ∧ Has a 90 c1 p1 ∧ Got a 91 w c2 S2 ∧ Has a 92 c3 p3 ∧ Has a 93 c4 p4 ∧ Got a 94 w c5 S5 ∧ Has a 95 c6 p6 ∧ Has a 96 c7 p7 ∧ Got a 97 w c8 S8 ∧ Has a 98 c9 p9 ∧ Has a 99 c10 p10 ∧ Got a 100 w c11 S11 ∧ Loc a 5 w0 w c12 c16 e12 S2 ∧ Loc a 6 w0 w c13 c17 e13 S5 ∧ Loc a 7 w0 w c14 c18 e14 S8 ∧ Loc a 8 w0 w c15 c19 e15 S11 ∧ Hid (c12 = true → c13 = true → e12 ≠ e13) ∧ Hid (c12 = true → c14 = true → e12 ≠ e14) ∧ Hid (c12 = true → c15 = true → e12 ≠ e15) ∧ Hid (c13 = true → c14 = true → e13 ≠ e14) ∧ Hid (c13 = true → c15 = true → e13 ≠ e15) ∧ Hid (c14 = true → c15 = true → e14 ≠ e15)
def Inv6 (w0 : World) (p0 p1 p2 p4 p5 p6 : Value) (S3 S7 : World → Value → Prop) (a0 : Act) (l : Array Bool) (a : Act) (w : World) : Prop :=
  ∃ (c0 c1 c2 c3 c4 c5 c6 c7 c8 c9 c10 c11 : Bool) (e8 e9 : Nat), l = #[c0, c1, c2, c3, c4, c5, c6, c7, c8, c9, c10, c11] ∧ Alike a0 a [101, 102, 103, 104, 105, 106, 107, 108, 9, 10] ∧ Hid (Grew w0 w) ∧
    Has a 101 c0 p0 ∧ Has a 102 c1 p1 ∧ Has a 103 c2 p2 ∧ Got a 104 w c3 S3 ∧ Has a 105 c4 p4 ∧ Has a 106 c5 p5 ∧ Has a 107 c6 p6 ∧ Got a 108 w c7 S7 ∧ Loc3 a 9 w0 w c8 c10 e8 S3 ∧ Loc3 a 10 w0 w c9 c11 e9 S7 ∧ Hid (c8 = true → c9 = true → e8 ≠ e9)
def Inv8 (w0 : World) (p0 p1 p2 : Value) (S3 S4 S5 S6 S7 S10 : World → Value → Prop) (a0 : Act) (l : Array Bool) (a : Act) (w : World) : Prop :=
  ∃ (c0 c1 c2 c3 c4 c5 c6 c7 c8 c9 c10 : Bool) (e8 : Nat), l = #[c0, c1, c2, c3, c4, c5, c6, c7, c8, c9, c10] ∧ Alike a0 a [114, 115, 116, 117, 118, 113, 119, 120, 11, 12] ∧ Hid (Grew w0 w) ∧
    Has a 114 c0 p0 ∧ Has a 115 c1 p1 ∧ Has a 116 c2 p2 ∧ Got a 117 w c3 S3 ∧ Got a 118 w c4 S4 ∧ Got a 113 w c5 S5 ∧ Got a 119 w c6 S6 ∧ Got a 120 w c7 S7 ∧ Loc3 a 11 w0 w c8 c9 e8 S6 ∧ Got a 12 w c10 S10
end Go.Proofs.YthhgogpglocjdaaGreat
