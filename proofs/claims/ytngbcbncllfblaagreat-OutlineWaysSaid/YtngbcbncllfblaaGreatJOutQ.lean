/- Ways of the grid: as they come in, as a row that a call owns. Conditions: none. Sets of cells: what they say. Conditions: none. Plain: the ways around cells: sides on the border, joined where one goes on, in one order; there is one such list. Conditions: none. Plain: cells' sides on the border are the whole border; the longest rows of steps, line by line, are the ways. Conditions: none. -/
import Derived.Test.YtngbcbncllfblaaGreatJKit
namespace Go.Proofs.YtngbcbncllfblaaGreat
open Go.RowKit

def In64 (x y : Int) : Prop := -9223372036854775808 ≤ x ∧ x ≤ 9223372036854775807 ∧ -9223372036854775808 ≤ y ∧ y ≤ 9223372036854775807
abbrev segV (ax ay bx b_y : Int) : Value := .agg #[.int .i64 ax, .int .i64 ay, .int .i64 bx, .int .i64 b_y]
abbrev ptV (x y : Int) : Value := .agg #[.int .i64 x, .int .i64 y]
/-- A way of the grid. -/
abbrev SegZ := (Int × Int) × (Int × Int)
/-- Ways of the grid, as they come in. -/
def SegsR (w : World) (v : Value) (l : List SegZ) : Prop :=
  ∃ A c, v = .slice A l.length c ∧ l.length ≤ c ∧ c ≤ 9223372036854775807 ∧
    (0 < l.length → ∃ b o, A = some ⟨b, o, none⟩ ∧ ∀ i s, l[i]? = some s → (w.cell? ⟨b, o + i * 4, none⟩ = some (.int .i64 s.1.1) ∧ w.cell? ⟨b, o + i * 4 + 1, none⟩ = some (.int .i64 s.1.2) ∧ w.cell? ⟨b, o + i * 4 + 2, none⟩ = some (.int .i64 s.2.1) ∧ w.cell? ⟨b, o + i * 4 + 3, none⟩ = some (.int .i64 s.2.2)) ∧ In64 s.1.1 s.1.2 ∧ In64 s.2.1 s.2.2)
theorem SegsR.grew {w w' : World} {v : Value} {l : List SegZ} (h : SegsR w v l) (g : Grew w w') : SegsR w' v l := by
  obtain ⟨A, c, e, h1, h2, h3⟩ := h
  refine ⟨A, c, e, h1, h2, fun h0 => ?_⟩
  obtain ⟨b, o, e, he⟩ := h3 h0
  refine ⟨b, o, e, fun i s hs => ?_⟩
  obtain ⟨⟨k0, k1, k2, k3⟩, k4⟩ := he i s hs
  exact ⟨⟨g.cell k0, g.cell k1, g.cell k2, g.cell k3⟩, k4⟩
/-- The cells of ways. -/
def segVals : List SegZ → List Value
  | [] => []
  | s :: r => .int .i64 s.1.1 :: .int .i64 s.1.2 :: .int .i64 s.2.1 :: .int .i64 s.2.2 :: segVals r
theorem segVals_snoc (t : SegZ) : ∀ l : List SegZ, segVals (l ++ [t]) = segVals l ++ [.int .i64 t.1.1, .int .i64 t.1.2, .int .i64 t.2.1, .int .i64 t.2.2]
  | [] => rfl
  | s :: l => by simp only [List.cons_append, segVals, segVals_snoc t l]
theorem segVals_get : ∀ (m : List SegZ) (i : Nat) (s : SegZ), m[i]? = some s → ∀ j, j < 4 → (segVals m)[i * 4 + j]? = [Value.int .i64 s.1.1, .int .i64 s.1.2, .int .i64 s.2.1, .int .i64 s.2.2][j]?
  | [], i, s, h, _, _ => by simp at h
  | a :: m, 0, s, h, j, hj => by
    obtain rfl : a = s := by simpa using h
    have e : j = 0 ∨ j = 1 ∨ j = 2 ∨ j = 3 := by omega
    rcases e with rfl | rfl | rfl | rfl <;> rfl
  | a :: m, i + 1, s, h, j, hj => by
    have h' : m[i]? = some s := by simpa using h
    rw [← segVals_get m i s h' j hj, show (i + 1) * 4 + j = i * 4 + j + 1 + 1 + 1 + 1 by omega]
    rfl
theorem segs_own {e : TypeId} {w : World} {base : Nat} {v : Value} {m : List SegZ} (h : w.ownsRow base e 4 v m.length (segVals m)) (hi : ∀ s ∈ m, In64 s.1.1 s.1.2 ∧ In64 s.2.1 s.2.2) : SegsR w v m := by
  obtain ⟨hx, ⟨rfl, h0⟩ | ⟨g, cap, cur, rfl, -, hg, hnc, hcm, hcs, htake⟩⟩ := h
  · obtain rfl : m = [] := List.eq_nil_of_length_eq_zero h0
    exact ⟨none, 0, rfl, by simp, by omega, by simp⟩
  · refine ⟨_, cap, rfl, hnc, by unfold maxLen at hcm; omega, fun _ => ⟨g, 0, rfl, fun i s hs => ?_⟩⟩
    have hm := (List.getElem?_eq_some_iff.1 hs).1
    have hc : ∀ j, j < 4 → w.cell? ⟨g, 0 + i * 4 + j, none⟩ = [Value.int .i64 s.1.1, .int .i64 s.1.2, .int .i64 s.2.1, .int .i64 s.2.2][j]? := fun j hj => by
      rw [← segVals_get m i s hs j hj, ← htake, List.getElem?_take, if_pos (by omega), cell_of_row w g _ cur e (0, 0) hg, Nat.zero_add, Array.getElem?_toList]
    exact ⟨⟨hc 0 (by omega), hc 1 (by omega), hc 2 (by omega), hc 3 (by omega)⟩, hi s (List.mem_of_getElem? hs)⟩
theorem ownsRow_grew {e : TypeId} {w w' : World} {base size n : Nat} {v : Value} {xs : List Value} (h : w.ownsRow base e size v n xs) (g : Grew w w') : w'.ownsRow base e size v n xs := by
  have hb : ∀ k, v.ownBlock = some k → w'.heap[k]? = w.heap[k]? := fun k hk => g.below.block k (h.lt k hk).2
  refine ⟨h.1, ?_⟩
  rcases h.2 with h | ⟨gb, cap, cur, rfl, hbg, hg, h⟩
  · exact .inl h
  · exact .inr ⟨gb, cap, cur, rfl, hbg, (hb gb rfl).trans hg, h⟩
theorem info_seg : (Tryz.prog.info? 76).map (fun i => (i.zero, i.size, i.bytes)) = some (some (.agg #[.int .i64 0, .int .i64 0, .int .i64 0, .int .i64 0]), 4, 32) := by kernel_rfl
/-- Four ints of a struct that may be stored. -/
def Res4 (w : World) (r o : Nat) (u0 u1 u2 u3 : Value) : Prop :=
  w.cell? ⟨r, o, none⟩ = some u0 ∧ w.cell? ⟨r, o + 1, none⟩ = some u1 ∧ w.cell? ⟨r, o + 2, none⟩ = some u2 ∧ w.cell? ⟨r, o + 3, none⟩ = some u3 ∧
  w.frozen? ⟨r, o, none⟩ = false ∧ w.frozen? ⟨r, o + 1, none⟩ = false ∧ w.frozen? ⟨r, o + 2, none⟩ = false ∧ w.frozen? ⟨r, o + 3, none⟩ = false ∧ r < w.heap.size
theorem Res4.grew {w w' : World} {r o : Nat} {u0 u1 u2 u3 : Value} (h : Res4 w r o u0 u1 u2 u3) (g : Grew w w') : Res4 w' r o u0 u1 u2 u3 := by
  obtain ⟨h0, h1, h2, h3, f0, f1, f2, f3, s⟩ := h
  exact ⟨g.cell h0, g.cell h1, g.cell h2, g.cell h3, (g.below.frozen (p := ⟨r, o, none⟩) s).trans f0, (g.below.frozen (p := ⟨r, o + 1, none⟩) s).trans f1, (g.below.frozen (p := ⟨r, o + 2, none⟩) s).trans f2, (g.below.frozen (p := ⟨r, o + 3, none⟩) s).trans f3, Nat.lt_of_lt_of_le s g.size⟩
theorem store4 {w w' : World} {r : Nat} {u0 u1 u2 u3 v0 v1 v2 v3 : Value} (h : Res4 w r 0 u0 u1 u2 u3) (e : w' = (((w.setCell ⟨r, 0, none⟩ v0).setCell ⟨r, 1, none⟩ v1).setCell ⟨r, 2, none⟩ v2).setCell ⟨r, 3, none⟩ v3) :
    w'.cell? ⟨r, 0, none⟩ = some v0 ∧ w'.cell? ⟨r, 1, none⟩ = some v1 ∧ w'.cell? ⟨r, 2, none⟩ = some v2 ∧ w'.cell? ⟨r, 3, none⟩ = some v3 ∧ (∀ a, a.heap.size ≤ r → Grew a w → Grew a w') := by
  obtain ⟨h0, h1, h2, h3, -⟩ := h
  subst e
  have e1 : (w.setCell ⟨r, 0, none⟩ v0).cell? ⟨r, 1, none⟩ = some u1 := by rw [World.cell?_setCell_other _ _ _ _ (by simp)]; exact h1
  have e2 : ((w.setCell ⟨r, 0, none⟩ v0).setCell ⟨r, 1, none⟩ v1).cell? ⟨r, 2, none⟩ = some u2 := by rw [World.cell?_setCell_other _ _ _ _ (by simp), World.cell?_setCell_other _ _ _ _ (by simp)]; exact h2
  have e3 : (((w.setCell ⟨r, 0, none⟩ v0).setCell ⟨r, 1, none⟩ v1).setCell ⟨r, 2, none⟩ v2).cell? ⟨r, 3, none⟩ = some u3 := by rw [World.cell?_setCell_other _ _ _ _ (by simp), World.cell?_setCell_other _ _ _ _ (by simp), World.cell?_setCell_other _ _ _ _ (by simp)]; exact h3
  refine ⟨?_, ?_, ?_, cell_set e3 v3, fun a hr g => (((g.setCell hr _).setCell hr _).setCell hr _).setCell hr _⟩
  · rw [World.cell?_setCell_other _ _ _ _ (by simp), World.cell?_setCell_other _ _ _ _ (by simp), World.cell?_setCell_other _ _ _ _ (by simp)]; exact cell_set h0 v0
  · rw [World.cell?_setCell_other _ _ _ _ (by simp), World.cell?_setCell_other _ _ _ _ (by simp)]; exact cell_set e1 v1
  · rw [World.cell?_setCell_other _ _ _ _ (by simp)]; exact cell_set e2 v2
end Go.Proofs.YtngbcbncllfblaaGreat
namespace Go.Proofs.YtngbcbncllfblaaGreat
open Go.RowKit

/-- Whether a set may be. -/
def mayC (W H : Int) (n : Nat) : Bool := decide (1 ≤ W ∧ W ≤ 64 ∧ 1 ≤ H ∧ H ≤ 64 ∧ (n : Int) = W * H)
/-- Whether a cell is in. -/
def hasC (W H : Int) (bs : List Bool) (x y : Int) : Bool := mayC W H bs.length && decide (0 ≤ x ∧ x < W ∧ 0 ≤ y ∧ y < H) && bs.getD (y * W + x).toNat false
theorem hasC_in {W H : Int} {bs : List Bool} {x y : Int} (h : hasC W H bs x y = true) : 0 ≤ x ∧ x < W ∧ 0 ≤ y ∧ y < H := by
  unfold hasC at h
  simp only [Bool.and_eq_true, decide_eq_true_eq] at h
  exact h.1.2
/-- A slice of bools, as it reads. -/
def BoolsR (w : World) (v : Value) (bs : List Bool) : Prop :=
  ∃ A c, v = .slice A bs.length c ∧ bs.length ≤ c ∧ c ≤ 9223372036854775807 ∧ (0 < bs.length → ∃ b o, A = some ⟨b, o, none⟩ ∧ ∀ i x, bs[i]? = some x → w.cell? ⟨b, o + i, none⟩ = some (.bool x))
theorem BoolsR.grew {w w' : World} {v : Value} {bs : List Bool} (h : BoolsR w v bs) (g : Grew w w') : BoolsR w' v bs := by
  obtain ⟨A, c, hv, h1, h2, h3⟩ := h
  refine ⟨A, c, hv, h1, h2, fun h0 => ?_⟩
  obtain ⟨b, o, hA, he⟩ := h3 h0
  exact ⟨b, o, hA, fun i x hx => g.cell (he i x hx)⟩

end Go.Proofs.YtngbcbncllfblaaGreat
namespace Go.Proofs.YtngbcbncllfblaaGreat

/-- A way along sides: which way it goes, on which line, from where to where. -/
structure Rn where
  d : Nat
  c : Int
  f : Int
  t : Int
/-- A side of a cell that is on the border: which way, on which line, where. -/
def sideB (has : Int → Int → Bool) (d : Nat) (c n : Int) : Bool :=
  if d = 1 then has n c && !has n (c - 1) else if d = 2 then has n (c - 1) && !has n c
  else if d = 3 then has (c - 1) n && !has c n else if d = 4 then has c n && !has (c - 1) n else false
theorem sideB_dir {has : Int → Int → Bool} {d : Nat} {c n : Int} (h : sideB has d c n = true) : 1 ≤ d ∧ d ≤ 4 := by
  unfold sideB at h
  split at h
  · omega
  · split at h
    · omega
    · split at h
      · omega
      · split at h
        · omega
        · simp at h
/-- A way as it stands on the grid. -/
def segOf (r : Rn) : SegZ :=
  if r.d = 1 then ((256 * r.f, 256 * r.c), (256 * r.t, 256 * r.c)) else if r.d = 2 then ((256 * r.t, 256 * r.c), (256 * r.f, 256 * r.c))
  else if r.d = 3 then ((256 * r.c, 256 * r.f), (256 * r.c, 256 * r.t)) else ((256 * r.c, 256 * r.t), (256 * r.c, 256 * r.f))
/-- Along the border, and no farther. -/
def maxR (has : Int → Int → Bool) (r : Rn) : Prop :=
  r.f < r.t ∧ (∀ n, r.f ≤ n → n < r.t → sideB has r.d r.c n = true) ∧ sideB has r.d r.c (r.f - 1) = false ∧ sideB has r.d r.c r.t = false
theorem maxR.dir {has : Int → Int → Bool} {r : Rn} (h : maxR has r) : 1 ≤ r.d ∧ r.d ≤ 4 := sideB_dir (h.2.1 r.f (Int.le_refl _) h.1)
/-- Where a way begins, and where it ends. -/
def Rn.a (r : Rn) : Int := if r.d = 1 ∨ r.d = 3 then r.f else r.t
def Rn.b (r : Rn) : Int := if r.d = 1 ∨ r.d = 3 then r.t else r.f
/-- Rows first, by place. -/
def aheadR (x y : Rn) : Prop :=
  (x.d ≤ 2 ∧ 2 < y.d) ∨ ((x.d ≤ 2 ↔ y.d ≤ 2) ∧ (x.c < y.c ∨ (x.c = y.c ∧ (x.a < y.a ∨ (x.a = y.a ∧ x.b < y.b)))))
theorem aheadR_asym {x y : Rn} (h : aheadR x y) (k : aheadR y x) : False := by
  unfold aheadR at h k
  omega
theorem aheadR_trans {x y z : Rn} (h : aheadR x y) (k : aheadR y z) : aheadR x z := by
  unfold aheadR at h k ⊢
  omega
theorem Rn.ext' {x y : Rn} (h1 : x.d = y.d) (h2 : x.c = y.c) (h3 : x.f = y.f) (h4 : x.t = y.t) : x = y := by
  cases x; cases y; simp_all
theorem aheadR_tri {x y : Rn} (hx : 1 ≤ x.d ∧ x.d ≤ 4) (hy : 1 ≤ y.d ∧ y.d ≤ 4) (fx : x.f < x.t) (fy : y.f < y.t) (hne : x ≠ y) : aheadR x y ∨ aheadR y x := by
  refine Classical.byContradiction fun h => hne ?_
  have hx2 : x.d = 1 ∨ x.d = 2 ∨ x.d = 3 ∨ x.d = 4 := by omega
  have hy2 : y.d = 1 ∨ y.d = 2 ∨ y.d = 3 ∨ y.d = 4 := by omega
  unfold aheadR Rn.a Rn.b at h
  rcases hx2 with e | e | e | e <;> rcases hy2 with e' | e' | e' | e' <;> simp only [e, e'] at h <;> first
    | exact Rn.ext' (by omega) (by simp at h; omega) (by simp at h; omega) (by simp at h; omega)
    | (exfalso; simp at h; done)
    | (exfalso; simp at h; omega)
/-- The list of ways: all that go along the border as far as they can, in order. -/
def IsWays (has : Int → Int → Bool) (l : List Rn) : Prop := l.Pairwise aheadR ∧ ∀ r, r ∈ l ↔ maxR has r
theorem pair_ext {V : Type} {lt : V → V → Prop} (asy : ∀ x y, lt x y → lt y x → False) : ∀ {S T : List V}, S.Pairwise lt → T.Pairwise lt → (∀ q, q ∈ S ↔ q ∈ T) → S = T
  | [], [], _, _, _ => rfl
  | [], t :: T, _, _, h => absurd ((h t).2 List.mem_cons_self) (by simp)
  | s :: S, [], _, _, h => absurd ((h s).1 List.mem_cons_self) (by simp)
  | s :: S, t :: T, hS, hT, h => by
    have hS' := List.pairwise_cons.1 hS
    have hT' := List.pairwise_cons.1 hT
    have e : s = t := by
      rcases List.mem_cons.1 ((h s).1 List.mem_cons_self) with e | e
      · exact e
      · rcases List.mem_cons.1 ((h t).2 List.mem_cons_self) with k | k
        · exact k.symm
        · exact (asy _ _ (hT'.1 s e) (hS'.1 t k)).elim
    subst e
    have : S = T := pair_ext asy hS'.2 hT'.2 fun q => by
      constructor
      · intro hq
        rcases List.mem_cons.1 ((h q).1 (List.mem_cons_of_mem _ hq)) with e | e
        · subst e; exact (asy _ _ (hS'.1 q hq) (hS'.1 q hq)).elim
        · exact e
      · intro hq
        rcases List.mem_cons.1 ((h q).2 (List.mem_cons_of_mem _ hq)) with e | e
        · subst e; exact (asy _ _ (hT'.1 q hq) (hT'.1 q hq)).elim
        · exact e
    rw [this]
theorem IsWays.one {has : Int → Int → Bool} {l m : List Rn} (h : IsWays has l) (k : IsWays has m) : l = m :=
  pair_ext (fun _ _ => aheadR_asym) h.1 k.1 fun q => (h.2 q).trans (k.2 q).symm

/-- Sides and ways that come to the whole border, none twice. -/
structure Cov (has : Int → Int → Bool) (l : List Rn) : Prop where
  good : ∀ r ∈ l, r.f < r.t ∧ ∀ n, r.f ≤ n → n < r.t → sideB has r.d r.c n = true
  all : ∀ d c n, sideB has d c n = true → ∃ r ∈ l, r.d = d ∧ r.c = c ∧ r.f ≤ n ∧ n < r.t
  apart : l.Pairwise fun r s => r.d = s.d → r.c = s.c → r.t ≤ s.f ∨ s.t ≤ r.f
theorem Cov.two {has : Int → Int → Bool} {l : List Rn} (h : Cov has l) {i k : Nat} {r s : Rn} (hi : l[i]? = some r) (hk : l[k]? = some s) (hne : i ≠ k) (hd : r.d = s.d) (hc : r.c = s.c) : r.t ≤ s.f ∨ s.t ≤ r.f := by
  obtain ⟨gi, hi⟩ := List.getElem?_eq_some_iff.1 hi
  obtain ⟨gk, hk⟩ := List.getElem?_eq_some_iff.1 hk
  have hp := List.pairwise_iff_getElem.1 h.apart
  rcases Nat.lt_or_gt_of_ne hne with c | c
  · have := hp i k gi gk c
    rw [hi, hk] at this
    exact this hd hc
  · have := hp k i gk gi c
    rw [hi, hk] at this
    exact (this hd.symm hc.symm).symm
/-- One way goes on where another one ends. -/
def goesOn (r s : Rn) : Prop := r.d = s.d ∧ r.c = s.c ∧ r.b = s.a
def joinR (r s : Rn) : Rn := if r.d = 1 ∨ r.d = 3 then ⟨r.d, r.c, r.f, s.t⟩ else ⟨r.d, r.c, s.f, r.t⟩
/-- The others. -/
def restR (l : List Rn) (i k : Nat) : Nat → List Rn
  | 0 => []
  | n + 1 => restR l i k n ++ (if n = i ∨ n = k then [] else l[n]?.toList)
theorem mem_restR {l : List Rn} {i k : Nat} {r : Rn} : ∀ {n : Nat}, r ∈ restR l i k n ↔ ∃ j, j < n ∧ j ≠ i ∧ j ≠ k ∧ l[j]? = some r
  | 0 => by simp [restR]
  | n + 1 => by
    rw [restR, List.mem_append, mem_restR]
    constructor
    · rintro (⟨j, h1, h2, h3, h4⟩ | h)
      · exact ⟨j, by omega, h2, h3, h4⟩
      · split at h
        · simp at h
        · next hn => exact ⟨n, by omega, fun e => hn (.inl e), fun e => hn (.inr e), by simpa using h⟩
    · rintro ⟨j, h1, h2, h3, h4⟩
      by_cases hj : j < n
      · exact .inl ⟨j, hj, h2, h3, h4⟩
      · obtain rfl : j = n := by omega
        refine .inr ?_
        rw [if_neg (by omega), h4]; simp
theorem restR_len (l : List Rn) (i k : Nat) : ∀ n, (restR l i k n).length ≤ n
  | 0 => by simp [restR]
  | n + 1 => by
    have h := restR_len l i k n
    rw [restR, List.length_append]
    have : (if n = i ∨ n = k then [] else l[n]?.toList : List Rn).length ≤ 1 := by
      split
      · simp
      · cases l[n]? <;> simp
    omega
/-- Two left out: two fewer. -/
theorem restR_less (l : List Rn) {i k : Nat} (hne : i ≠ k) : ∀ n, i < n → k < n → (restR l i k n).length + 2 ≤ n
  | 0, h, _ => by omega
  | n + 1, h1, h2 => by
    have hl := restR_len l i k n
    have key : ∀ m j, j < m → (j = i ∨ j = k) → (restR l i k m).length + 1 ≤ m := by
      intro m
      induction m with
      | zero => intro j hj; omega
      | succ m ih =>
        intro j hj he
        rw [restR, List.length_append]
        by_cases hm : j < m
        · have := ih j hm he
          have : (if m = i ∨ m = k then [] else l[m]?.toList : List Rn).length ≤ 1 := by
            split
            · simp
            · cases l[m]? <;> simp
          omega
        · obtain rfl : j = m := by omega
          have := restR_len l i k j
          rw [if_pos he]; simp; omega
    rw [restR, List.length_append]
    by_cases e1 : n = i
    · have := key n k (by omega) (.inr rfl)
      rw [if_pos (.inl e1)]; simp; omega
    · by_cases e2 : n = k
      · have := key n i (by omega) (.inl rfl)
        rw [if_pos (.inr e2)]; simp; omega
      · have := restR_less l hne n (by omega) (by omega)
        have h9 : (if n = i ∨ n = k then [] else l[n]?.toList : List Rn).length ≤ 1 := by
          split
          · simp
          · cases l[n]? <;> simp
        omega
theorem goesOn_ne {has : Int → Int → Bool} {l : List Rn} (h : Cov has l) {i k : Nat} {r s : Rn} (hi : l[i]? = some r) (hk : l[k]? = some s) (hg : goesOn r s) : i ≠ k := by
  intro e
  subst e
  rw [hi] at hk
  injection hk with hk
  subst hk
  have := (h.good r (List.mem_of_getElem? hi)).1
  obtain ⟨-, -, e⟩ := hg
  unfold Rn.a Rn.b at e
  split at e <;> omega
theorem Cov.join {has : Int → Int → Bool} {l : List Rn} (h : Cov has l) {i k : Nat} {r s : Rn} (hi : l[i]? = some r) (hk : l[k]? = some s) (hg : goesOn r s) : Cov has (joinR r s :: restR l i k l.length) := by
  have hne := goesOn_ne h hi hk hg
  have gr := h.good r (List.mem_of_getElem? hi)
  have gs := h.good s (List.mem_of_getElem? hk)
  obtain ⟨e1, e2, e3⟩ := hg
  -- the joined way: from the lesser place to the greater one
  obtain ⟨lo, hi', hj, hb⟩ : ∃ x y : Rn, (joinR r s = ⟨r.d, r.c, x.f, y.t⟩ ∧ x.t = y.f) ∧ ((x = r ∧ y = s) ∨ (x = s ∧ y = r)) := by
    unfold joinR
    unfold Rn.a Rn.b at e3
    rw [← e1] at e3
    split
    · next hd => rw [if_pos hd, if_pos hd] at e3; exact ⟨r, s, ⟨rfl, e3⟩, .inl ⟨rfl, rfl⟩⟩
    · next hd => rw [if_neg hd, if_neg hd] at e3; exact ⟨s, r, ⟨rfl, e3.symm⟩, .inr ⟨rfl, rfl⟩⟩
  obtain ⟨hj, hm⟩ := hj
  have glo : lo.f < lo.t ∧ ∀ n, lo.f ≤ n → n < lo.t → sideB has r.d r.c n = true := by
    rcases hb with ⟨rfl, rfl⟩ | ⟨rfl, rfl⟩
    · exact gr
    · rw [e1, e2]; exact gs
  have ghi : hi'.f < hi'.t ∧ ∀ n, hi'.f ≤ n → n < hi'.t → sideB has r.d r.c n = true := by
    rcases hb with ⟨rfl, rfl⟩ | ⟨rfl, rfl⟩
    · rw [e1, e2]; exact gs
    · exact gr
  refine ⟨?_, ?_, ?_⟩
  · intro q hq
    rcases List.mem_cons.1 hq with rfl | hq
    · rw [hj]
      refine ⟨by dsimp only; omega, fun n h1 h2 => ?_⟩
      dsimp only at h1 h2 ⊢
      by_cases hn : n < lo.t
      · exact glo.2 n h1 hn
      · exact ghi.2 n (by omega) h2
    · obtain ⟨j, -, -, -, hq⟩ := mem_restR.1 hq
      exact h.good q (List.mem_of_getElem? hq)
  · intro d c n hs
    obtain ⟨q, hq, q1, q2, q3, q4⟩ := h.all d c n hs
    obtain ⟨j, hj', rfl⟩ := List.getElem_of_mem hq
    have hq' := List.getElem?_eq_getElem hj'
    have hjoin : ∀ x : Rn, (x = r ∨ x = s) → x.d = d → x.c = c → x.f ≤ n → n < x.t → ∃ q ∈ joinR r s :: restR l i k l.length, q.d = d ∧ q.c = c ∧ q.f ≤ n ∧ n < q.t := by
      intro x hx x1 x2 x3 x4
      refine ⟨joinR r s, List.mem_cons_self, ?_⟩
      rw [hj]
      dsimp only
      have hrd : r.d = d ∧ r.c = c := by
        rcases hx with rfl | rfl
        · exact ⟨x1, x2⟩
        · exact ⟨e1.trans x1, e2.trans x2⟩
      refine ⟨hrd.1, hrd.2, ?_⟩
      rcases hx with rfl | rfl <;> rcases hb with ⟨rfl, rfl⟩ | ⟨rfl, rfl⟩ <;> omega
    by_cases ji : j = i
    · subst ji
      rw [hq'] at hi
      injection hi with hi
      exact hjoin _ (.inl hi) q1 q2 q3 q4
    · by_cases jk : j = k
      · subst jk
        rw [hq'] at hk
        injection hk with hk
        exact hjoin _ (.inr hk) q1 q2 q3 q4
      · exact ⟨_, List.mem_cons_of_mem _ (mem_restR.2 ⟨j, hj', ji, jk, hq'⟩), q1, q2, q3, q4⟩
  · rw [List.pairwise_cons]
    constructor
    · intro q hq hd hc
      obtain ⟨j, -, ji, jk, hq⟩ := mem_restR.1 hq
      have gq := (h.good q (List.mem_of_getElem? hq)).1
      rw [hj] at hd hc ⊢
      dsimp only at hd hc ⊢
      have a1 := h.two hi hq (fun e => ji e.symm) hd hc
      have a2 := h.two hk hq (fun e => jk e.symm) (by rw [← e1]; exact hd) (by rw [← e2]; exact hc)
      rcases hb with ⟨rfl, rfl⟩ | ⟨rfl, rfl⟩ <;> omega
    · have : ∀ n, n ≤ l.length → (restR l i k n).Pairwise fun r s => r.d = s.d → r.c = s.c → r.t ≤ s.f ∨ s.t ≤ r.f := by
        intro n
        induction n with
        | zero => intro _; exact List.Pairwise.nil
        | succ n ih =>
          intro hn
          rw [restR]
          refine List.pairwise_append.2 ⟨ih (by omega), ?_, ?_⟩
          · split
            · exact List.Pairwise.nil
            · cases l[n]? <;> simp
          · intro x hx y hy hd hc
            obtain ⟨j, hj1, -, -, hx⟩ := mem_restR.1 hx
            split at hy
            · simp at hy
            · exact h.two hx (by simpa using hy) (by omega) hd hc
      exact this _ (Nat.le_refl _)
/-- Where none goes on, each goes as far as it can. -/
theorem Cov.max {has : Int → Int → Bool} {l : List Rn} (h : Cov has l) (hno : ∀ r ∈ l, ∀ s ∈ l, ¬ goesOn r s) (r : Rn) : r ∈ l ↔ maxR has r := by
  have hin : ∀ r ∈ l, maxR has r := by
    intro r hr
    have gr := h.good r hr
    obtain ⟨i, hi, rfl⟩ := List.getElem_of_mem hr
    have hi' := List.getElem?_eq_getElem hi
    refine ⟨gr.1, gr.2, Bool.eq_false_iff.2 fun e => ?_, Bool.eq_false_iff.2 fun e => ?_⟩
    · obtain ⟨s, hs, s1, s2, s3, s4⟩ := h.all _ _ _ e
      obtain ⟨k, hk, rfl⟩ := List.getElem_of_mem hs
      have hk' := List.getElem?_eq_getElem hk
      have gs := (h.good _ hs).1
      by_cases ik : i = k
      · subst ik; omega
      · have a := h.two hi' hk' ik s1.symm s2.symm
        have ht : l[k].t = l[i].f := by omega
        by_cases hd : l[i].d = 1 ∨ l[i].d = 3
        · refine hno _ hs _ hr ⟨s1, s2, ?_⟩
          unfold Rn.a Rn.b
          rw [if_pos (by rw [s1]; exact hd), if_pos hd]; exact ht
        · refine hno _ hr _ hs ⟨s1.symm, s2.symm, ?_⟩
          unfold Rn.a Rn.b
          rw [if_neg hd, if_neg (by rw [s1]; exact hd)]; exact ht.symm
    · obtain ⟨s, hs, s1, s2, s3, s4⟩ := h.all _ _ _ e
      obtain ⟨k, hk, rfl⟩ := List.getElem_of_mem hs
      have hk' := List.getElem?_eq_getElem hk
      have gs := (h.good _ hs).1
      by_cases ik : i = k
      · subst ik; omega
      · have a := h.two hi' hk' ik s1.symm s2.symm
        have ht : l[i].t = l[k].f := by omega
        by_cases hd : l[i].d = 1 ∨ l[i].d = 3
        · refine hno _ hr _ hs ⟨s1.symm, s2.symm, ?_⟩
          unfold Rn.a Rn.b
          rw [if_pos hd, if_pos (by rw [s1]; exact hd)]; exact ht
        · refine hno _ hs _ hr ⟨s1, s2, ?_⟩
          unfold Rn.a Rn.b
          rw [if_neg (by rw [s1]; exact hd), if_neg hd]; exact ht.symm
  refine ⟨hin r, fun hm => ?_⟩
  obtain ⟨s, hs, s1, s2, s3, s4⟩ := h.all _ _ _ (hm.2.1 r.f (Int.le_refl _) hm.1)
  have ms := hin s hs
  have e1 : s.f = r.f := by
    refine Decidable.byContradiction fun hne => ?_
    have := ms.2.1 (r.f - 1) (by omega) (by omega)
    rw [s1, s2, hm.2.2.1] at this
    exact absurd this (by simp)
  have e2 : s.t = r.t := by
    rcases Int.lt_trichotomy s.t r.t with c | c | c
    · have := hm.2.1 s.t (by omega) c
      rw [← s1, ← s2, ms.2.2.2] at this
      exact absurd this (by simp)
    · exact c
    · have := ms.2.1 r.t (by have := hm.1; omega) c
      rw [s1, s2, hm.2.2.2] at this
      exact absurd this (by simp)
  rw [← Rn.ext' s1 s2 e1 e2]; exact hs
theorem Cov.nodup {has : Int → Int → Bool} {l : List Rn} (h : Cov has l) : l.Nodup := by
  have := h.apart
  refine List.Pairwise.imp_of_mem ?_ this
  intro a b ha hb hab e
  subst e
  have := (h.good a ha).1
  have := hab rfl rfl
  omega

/-- One more, in its place. -/
def insR (lt : Rn → Rn → Bool) (p : Rn) : List Rn → List Rn
  | [] => [p]
  | o :: os => if lt p o = true then p :: o :: os else o :: insR lt p os
/-- How the document lays one more in: what is laid, and whether it is in. -/
def stepW (lt : Rn → Rn → Bool) (p : Rn) (s : List Rn × Bool) (o : Rn) : List Rn × Bool := if s.2 = false ∧ lt p o = true then (s.1 ++ [p] ++ [o], true) else (s.1 ++ [o], s.2)
theorem foldW_in (lt : Rn → Rn → Bool) (p : Rn) : ∀ (os a : List Rn), os.foldl (stepW lt p) (a, true) = (a ++ os, true)
  | [], a => by simp
  | o :: os, a => by
    have : stepW lt p (a, true) o = (a ++ [o], true) := by unfold stepW; simp
    rw [List.foldl_cons, this, foldW_in lt p os]; simp
theorem foldW_out (lt : Rn → Rn → Bool) (p : Rn) : ∀ (os a : List Rn), ∃ u b, os.foldl (stepW lt p) (a, false) = (u, b) ∧ (if b = true then u else u ++ [p]) = a ++ insR lt p os
  | [], a => ⟨a, false, rfl, by simp [insR]⟩
  | o :: os, a => by
    rw [List.foldl_cons]
    by_cases h : lt p o = true
    · have : stepW lt p (a, false) o = (a ++ [p] ++ [o], true) := by unfold stepW; simp [h]
      rw [this, foldW_in]
      exact ⟨_, _, rfl, by simp [insR, h]⟩
    · have : stepW lt p (a, false) o = (a ++ [o], false) := by unfold stepW; simp [h]
      rw [this]
      obtain ⟨u, b, h3, h4⟩ := foldW_out lt p os (a ++ [o])
      exact ⟨u, b, h3, by rw [h4]; simp [insR, h]⟩
theorem insR_fold {lt : Rn → Rn → Bool} {p : Rn} {os u : List Rn} {b : Bool} (h : os.foldl (stepW lt p) ([], false) = (u, b)) : insR lt p os = if b = true then u else u ++ [p] := by
  obtain ⟨u', b', h3, h4⟩ := foldW_out lt p os []
  rw [h] at h3
  injection h3 with e1 e2
  subst e1; subst e2
  rw [h4]; rfl
theorem insR_mem {lt : Rn → Rn → Bool} {p q : Rn} : ∀ {os : List Rn}, q ∈ insR lt p os ↔ q = p ∨ q ∈ os
  | [] => by simp [insR]
  | o :: os => by
    unfold insR
    split
    · simp
    · rw [List.mem_cons, insR_mem, List.mem_cons]
      constructor
      · rintro (h | h | h)
        · exact .inr (.inl h)
        · exact .inl h
        · exact .inr (.inr h)
      · rintro (h | h | h)
        · exact .inr (.inl h)
        · exact .inl h
        · exact .inr (.inr h)
theorem insR_sorted {lt : Rn → Rn → Bool} (hlt : ∀ x y, lt x y = true ↔ aheadR x y) {p : Rn} : ∀ {os : List Rn}, (∀ o ∈ os, aheadR p o ∨ aheadR o p) → os.Pairwise aheadR → (insR lt p os).Pairwise aheadR
  | [], _, _ => by simp [insR]
  | o :: os, ht, hs => by
    have h' := List.pairwise_cons.1 hs
    unfold insR
    split
    · next h =>
      refine List.pairwise_cons.2 ⟨fun q hq => ?_, hs⟩
      have hp := (hlt _ _).1 h
      rcases List.mem_cons.1 hq with rfl | hq
      · exact hp
      · exact aheadR_trans hp (h'.1 q hq)
    · next h =>
      refine List.pairwise_cons.2 ⟨fun q hq => ?_, insR_sorted hlt (fun o ho => ht o (List.mem_cons_of_mem _ ho)) h'.2⟩
      rcases insR_mem.1 hq with rfl | hq
      · rcases ht o List.mem_cons_self with k | k
        · exact absurd ((hlt _ _).2 k) h
        · exact k
      · exact h'.1 q hq
/-- All, one by one. -/
def ordR (lt : Rn → Rn → Bool) (l : List Rn) : List Rn := l.foldl (fun out p => insR lt p out) []
theorem ordR_fold {lt : Rn → Rn → Bool} (hlt : ∀ x y, lt x y = true ↔ aheadR x y) : ∀ (l s : List Rn), (∀ x ∈ l, ∀ y ∈ s, aheadR x y ∨ aheadR y x) → (l.Pairwise fun x y => aheadR x y ∨ aheadR y x) → s.Pairwise aheadR →
    (l.foldl (fun out p => insR lt p out) s).Pairwise aheadR ∧ ∀ q, q ∈ l.foldl (fun out p => insR lt p out) s ↔ q ∈ l ∨ q ∈ s
  | [], s, _, _, hs => ⟨hs, fun q => by simp⟩
  | p :: l, s, h1, h2, hs => by
    have h2' := List.pairwise_cons.1 h2
    have hs' := insR_sorted hlt (h1 p List.mem_cons_self) hs
    obtain ⟨k1, k2⟩ := ordR_fold hlt l (insR lt p s) (fun x hx y hy => by
      rcases insR_mem.1 hy with rfl | hy
      · exact (h2'.1 x hx).symm
      · exact h1 x (List.mem_cons_of_mem _ hx) y hy) h2'.2 hs'
    refine ⟨k1, fun q => ?_⟩
    rw [List.foldl_cons, k2, insR_mem, List.mem_cons]
    constructor
    · rintro (h | h | h)
      · exact .inl (.inr h)
      · exact .inl (.inl h)
      · exact .inr h
    · rintro ((h | h) | h)
      · exact .inr (.inl h)
      · exact .inl h
      · exact .inr (.inr h)
/-- The document's list is the list of ways. -/
theorem Cov.ways {has : Int → Int → Bool} {lt : Rn → Rn → Bool} (hlt : ∀ x y, lt x y = true ↔ aheadR x y) {l : List Rn} (h : Cov has l) (hno : ∀ r ∈ l, ∀ s ∈ l, ¬ goesOn r s) : IsWays has (ordR lt l) := by
  have hm := h.max hno
  have hp : l.Pairwise fun x y => aheadR x y ∨ aheadR y x := by
    refine List.Pairwise.imp_of_mem ?_ h.nodup
    intro a b ha hb hab
    have ma := (hm a).1 ha
    have mb := (hm b).1 hb
    exact aheadR_tri ma.dir mb.dir ma.1 mb.1 hab
  obtain ⟨k1, k2⟩ := ordR_fold hlt l [] (fun x _ y hy => by simp at hy) hp List.Pairwise.nil
  exact ⟨k1, fun r => (k2 r).trans (by simp only [List.not_mem_nil, or_false]; exact hm r)⟩
end Go.Proofs.YtngbcbncllfblaaGreat
namespace Go.Proofs.YtngbcbncllfblaaGreat

/-- A cell's side: below, right, above, left. -/
def unitOf (x y : Int) (k : Nat) : Rn := if k = 0 then ⟨1, y, x, x + 1⟩ else if k = 1 then ⟨3, x + 1, y, y + 1⟩ else if k = 2 then ⟨2, y + 1, x, x + 1⟩ else ⟨4, x, y, y + 1⟩
def sideIn (has : Int → Int → Bool) (x y : Int) (k : Nat) : Bool := sideB has (unitOf x y k).d (unitOf x y k).c (unitOf x y k).f
def sidesK (has : Int → Int → Bool) (x y : Int) (n : Nat) : List Rn := ((List.range n).filter fun k => sideIn has x y k).map (unitOf x y)
def sidesX (has : Int → Int → Bool) (y : Int) (m : Nat) : List Rn := (List.range m).flatMap fun x : Nat => sidesK has (x : Int) y 4
def sidesY (has : Int → Int → Bool) (W n : Nat) : List Rn := (List.range n).flatMap fun y : Nat => sidesX has (y : Int) W
theorem sidesK_succ (has : Int → Int → Bool) (x y : Int) (n : Nat) : sidesK has x y (n + 1) = sidesK has x y n ++ (if sideIn has x y n = true then [unitOf x y n] else []) := by
  unfold sidesK
  rw [List.range_succ, List.filter_append, List.map_append]
  congr 1
  by_cases h : sideIn has x y n = true <;> simp [h]
theorem sidesX_succ (has : Int → Int → Bool) (y : Int) (m : Nat) : sidesX has y (m + 1) = sidesX has y m ++ sidesK has m y 4 := by
  unfold sidesX
  rw [List.range_succ, List.flatMap_append]; simp
theorem sidesY_succ (has : Int → Int → Bool) (W n : Nat) : sidesY has W (n + 1) = sidesY has W n ++ sidesX has n W := by
  unfold sidesY
  rw [List.range_succ, List.flatMap_append]; simp
theorem sidesK_len (has : Int → Int → Bool) (x y : Int) (n : Nat) : (sidesK has x y n).length ≤ n := by
  unfold sidesK
  rw [List.length_map]
  exact Nat.le_trans (List.length_filter_le _ _) (by simp)
theorem sidesX_len (has : Int → Int → Bool) (y : Int) : ∀ m, (sidesX has y m).length ≤ 4 * m
  | 0 => by simp [sidesX]
  | m + 1 => by
    rw [sidesX_succ, List.length_append]
    have h1 := sidesX_len has y m
    have h2 := sidesK_len has m y 4
    omega
theorem sidesY_len (has : Int → Int → Bool) (W : Nat) : ∀ n, (sidesY has W n).length ≤ n * (4 * W)
  | 0 => by simp [sidesY]
  | n + 1 => by
    rw [sidesY_succ, List.length_append, Nat.add_mul, Nat.one_mul]
    have h1 := sidesY_len has W n
    have h2 := sidesX_len has n W
    omega
theorem mem_sidesY {has : Int → Int → Bool} {W n : Nat} {r : Rn} : r ∈ sidesY has W n ↔ ∃ y < n, ∃ x < W, ∃ k < 4, sideIn has (x : Nat) (y : Nat) k = true ∧ r = unitOf (x : Nat) (y : Nat) k := by
  unfold sidesY sidesX sidesK
  simp only [List.mem_flatMap, List.mem_range, List.mem_map, List.mem_filter]
  constructor
  · rintro ⟨y, hy, x, hx, k, ⟨hk, hs⟩, e⟩
    exact ⟨y, hy, x, hx, k, hk, hs, e.symm⟩
  · rintro ⟨y, hy, x, hx, k, hk, hs, e⟩
    exact ⟨y, hy, x, hx, k, ⟨hk, hs⟩, e.symm⟩
theorem unit_side (x y : Int) (k : Nat) : (unitOf x y k).t = (unitOf x y k).f + 1 := by
  unfold unitOf
  split
  · rfl
  · split
    · rfl
    · split <;> rfl
theorem unit_apart {x y x' y' : Int} {k k' : Nat} (hk : k < 4) (hk' : k' < 4) (hne : x ≠ x' ∨ y ≠ y' ∨ k ≠ k') (hd : (unitOf x y k).d = (unitOf x' y' k').d) (hc : (unitOf x y k).c = (unitOf x' y' k').c) : (unitOf x y k).t ≤ (unitOf x' y' k').f ∨ (unitOf x' y' k').t ≤ (unitOf x y k).f := by
  have h1 : k = 0 ∨ k = 1 ∨ k = 2 ∨ k = 3 := by omega
  have h2 : k' = 0 ∨ k' = 1 ∨ k' = 2 ∨ k' = 3 := by omega
  unfold unitOf at *
  rcases h1 with rfl | rfl | rfl | rfl <;> rcases h2 with rfl | rfl | rfl | rfl <;> simp at hd hc ⊢ <;> omega
/-- All sides on the border. -/
theorem sides_cov {has : Int → Int → Bool} {W H : Nat} (hfin : ∀ x y, has x y = true → 0 ≤ x ∧ x < W ∧ 0 ≤ y ∧ y < H) : Cov has (sidesY has W H) := by
  refine ⟨fun r hr => ?_, fun d c n hs => ?_, ?_⟩
  · obtain ⟨y, -, x, -, k, -, hs, rfl⟩ := mem_sidesY.1 hr
    have ht := unit_side x y k
    refine ⟨by omega, fun n h1 h2 => ?_⟩
    have e : n = (unitOf (x : Nat) (y : Nat) k).f := by omega
    rw [e]; exact hs
  · have hd := sideB_dir hs
    have key : ∀ (x y : Int) (k : Nat), k < 4 → has x y = true → sideIn has x y k = true → (unitOf x y k).d = d → (unitOf x y k).c = c → (unitOf x y k).f = n → ∃ r ∈ sidesY has W H, r.d = d ∧ r.c = c ∧ r.f ≤ n ∧ n < r.t := by
      intro x y k hk hh hsi e1 e2 e3
      obtain ⟨a1, a2, a3, a4⟩ := hfin x y hh
      obtain ⟨X, rfl⟩ : ∃ X : Nat, x = X := ⟨x.toNat, by omega⟩
      obtain ⟨Y, rfl⟩ : ∃ Y : Nat, y = Y := ⟨y.toNat, by omega⟩
      have ht := unit_side X Y k
      exact ⟨_, mem_sidesY.2 ⟨Y, by omega, X, by omega, k, hk, hsi, rfl⟩, e1, e2, by omega, by omega⟩
    have h4 : d = 1 ∨ d = 2 ∨ d = 3 ∨ d = 4 := by omega
    have hs' := hs
    unfold sideB at hs'
    rcases h4 with rfl | rfl | rfl | rfl
    · simp at hs'
      exact key n c 0 (by omega) hs'.1 (by unfold sideIn; simpa [unitOf] using hs) rfl rfl rfl
    · simp at hs'
      exact key n (c - 1) 2 (by omega) hs'.1 (by unfold sideIn; simpa [unitOf] using hs) rfl (by simp [unitOf]) rfl
    · simp at hs'
      exact key (c - 1) n 1 (by omega) hs'.1 (by unfold sideIn; simpa [unitOf] using hs) rfl (by simp [unitOf]) rfl
    · simp at hs'
      exact key c n 3 (by omega) hs'.1 (by unfold sideIn; simpa [unitOf] using hs) rfl rfl rfl
  · have hlt : ∀ n : Nat, (List.range n).Pairwise (· < ·) := fun n => List.pairwise_lt_range
    unfold sidesY
    rw [List.pairwise_flatMap]
    refine ⟨fun y _ => ?_, (hlt H).imp fun {y y'} hyy r hr s hs => ?_⟩
    · unfold sidesX
      rw [List.pairwise_flatMap]
      refine ⟨fun x _ => ?_, (hlt W).imp fun {x x'} hxx r hr s hs => ?_⟩
      · unfold sidesK
        rw [List.pairwise_map]
        refine List.Pairwise.imp_of_mem ?_ ((hlt 4).filter _)
        intro k k' hk hk' hkk hd hc
        have h1 := List.mem_range.1 (List.mem_filter.1 hk).1
        have h2 := List.mem_range.1 (List.mem_filter.1 hk').1
        exact unit_apart h1 h2 (.inr (.inr (by omega))) hd hc
      · unfold sidesK at hr hs
        simp only [List.mem_map, List.mem_filter, List.mem_range] at hr hs
        obtain ⟨k, ⟨hk, -⟩, rfl⟩ := hr
        obtain ⟨k', ⟨hk', -⟩, rfl⟩ := hs
        exact unit_apart hk hk' (.inl (by omega))
    · unfold sidesX sidesK at hr hs
      simp only [List.mem_flatMap, List.mem_map, List.mem_filter, List.mem_range] at hr hs
      obtain ⟨x, -, k, ⟨hk, -⟩, rfl⟩ := hr
      obtain ⟨x', -, k', ⟨hk', -⟩, rfl⟩ := hs
      exact unit_apart hk hk' (.inr (.inl (by omega)))

/-- The longest rows of steps that are alike, and something: from where to where; the steps: a; those behind a place: i of n. -/
structure Runs (a : Nat → Int) (n i : Nat) (l : List (Nat × Nat)) : Prop where
  mem : ∀ p : Nat × Nat, p ∈ l ↔ p.1 < p.2 ∧ p.2 ≤ i ∧ a p.1 ≠ 0 ∧ (∀ j, p.1 ≤ j → j < p.2 → a j = a p.1) ∧ (p.1 = 0 ∨ a (p.1 - 1) ≠ a p.1) ∧ (p.2 = n ∨ a p.2 ≠ a p.1)
  ord : l.Pairwise fun p q => p.2 ≤ q.1
theorem Runs.nil (a : Nat → Int) (n : Nat) : Runs a n 0 [] := ⟨fun p => ⟨fun h => by simp at h, fun h => by omega⟩, List.Pairwise.nil⟩
/-- One longest row more. -/
theorem Runs.next {a : Nat → Int} {n i j : Nat} {l : List (Nat × Nat)} (h : Runs a n i l) (hi : i = 0 ∨ a (i - 1) ≠ a i) (hij : i < j) (hj : j ≤ n) (hall : ∀ k, i ≤ k → k < j → a k = a i) (hend : j = n ∨ a j ≠ a i) :
    Runs a n j (l ++ (if a i = 0 then [] else [(i, j)])) := by
  refine ⟨fun p => ?_, ?_⟩
  · rw [List.mem_append, h.mem]
    constructor
    · rintro (⟨h1, h2, h3⟩ | h1)
      · exact ⟨h1, by omega, h3⟩
      · split at h1
        · simp at h1
        · next h0 =>
          obtain rfl : p = (i, j) := by simpa using h1
          exact ⟨hij, Nat.le_refl _, h0, hall, hi, hend⟩
    · rintro ⟨h1, h2, h3, h4, h5, h6⟩
      by_cases hp : p.2 ≤ i
      · exact .inl ⟨h1, hp, h3, h4, h5, h6⟩
      · refine .inr ?_
        have e1 : p.1 = i := by
          rcases Nat.lt_trichotomy p.1 i with c | c | c
          · exfalso
            rcases hi with hi | hi
            · omega
            · exact hi ((h4 (i - 1) (by omega) (by omega)).trans (h4 i (by omega) (by omega)).symm)
          · exact c
          · exfalso
            rcases h5 with h5 | h5
            · omega
            · exact h5 ((hall (p.1 - 1) (by omega) (by omega)).trans (hall p.1 (by omega) (by omega)).symm)
        have e2 : p.2 = j := by
          refine Decidable.byContradiction fun hne => ?_
          rcases h6 with h6 | h6
          · omega
          · rw [e1] at h6
            exact h6 (hall p.2 (by omega) (by omega))
        rw [e1] at h3
        rw [if_neg h3]
        simp [← e1, ← e2]
  · refine List.pairwise_append.2 ⟨h.ord, ?_, ?_⟩
    · split <;> simp
    · intro p hp q hq
      split at hq
      · simp at hq
      · obtain rfl : q = (i, j) := by simpa using hq
        exact ((h.mem p).1 hp).2.1
theorem Runs.len {a : Nat → Int} {n i : Nat} {l : List (Nat × Nat)} (h : Runs a n i l) : l.length ≤ i := by
  have key : ∀ (l : List (Nat × Nat)) (i : Nat), (∀ p ∈ l, p.1 < p.2 ∧ p.2 ≤ i) → l.Pairwise (fun p q => p.2 ≤ q.1) → ∀ m, (∀ p ∈ l, m ≤ p.1) → l.length + m ≤ i ∨ l = [] := by
    intro l
    induction l with
    | nil => intro i _ _ m _; exact .inr rfl
    | cons p l ih =>
      intro i h1 h2 m h3
      refine .inl ?_
      have hp := h1 p List.mem_cons_self
      have hm := h3 p List.mem_cons_self
      have h2' := List.pairwise_cons.1 h2
      rcases ih i (fun q hq => h1 q (List.mem_cons_of_mem _ hq)) h2'.2 p.2 (fun q hq => h2'.1 q hq) with k | k
      · simp only [List.length_cons]; omega
      · rw [k]; simp only [List.length_cons, List.length_nil]; omega
  rcases key l i (fun p hp => ⟨((h.mem p).1 hp).1, ((h.mem p).1 hp).2.1⟩) h.ord 0 (fun _ _ => Nat.zero_le _) with k | k
  · omega
  · rw [k]; simp

/-- What there is between two cells: 1: what is in is on the one side, 2: on the other one. -/
def kindZ (one other : Bool) : Int := if one = true ∧ other = false then 1 else if other = true ∧ one = false then 2 else 0
/-- A line's steps: of rows, of columns. -/
def rowStep (has : Int → Int → Bool) (y : Int) (x : Nat) : Int := kindZ (has x y) (has x (y - 1))
def colStep (has : Int → Int → Bool) (x : Int) (y : Nat) : Int := kindZ (has (x - 1) y) (has x y)
/-- A longest row of steps as a way. -/
def rowWay (has : Int → Int → Bool) (y : Int) (p : Nat × Nat) : Rn := ⟨(rowStep has y p.1).toNat, y, p.1, p.2⟩
def colWay (has : Int → Int → Bool) (x : Int) (p : Nat × Nat) : Rn := ⟨(colStep has x p.1).toNat + 2, x, p.1, p.2⟩
theorem kindZ_bd (a b : Bool) : kindZ a b = 0 ∨ kindZ a b = 1 ∨ kindZ a b = 2 := by cases a <;> cases b <;> simp [kindZ]
theorem row_side (has : Int → Int → Bool) (y : Int) (x : Nat) : (sideB has 1 y x = true ↔ rowStep has y x = 1) ∧ (sideB has 2 y x = true ↔ rowStep has y x = 2) := by
  unfold sideB rowStep kindZ
  simp only [if_pos]
  cases has x y <;> cases has x (y - 1) <;> simp
theorem col_side (has : Int → Int → Bool) (c : Int) (y : Nat) : (sideB has 3 c y = true ↔ colStep has c y = 1) ∧ (sideB has 4 c y = true ↔ colStep has c y = 2) := by
  unfold sideB colStep kindZ
  cases has (c - 1) y <;> cases has c y <;> simp
/-- The ways of one line are those that its longest rows of steps make. -/
theorem line_max {has : Int → Int → Bool} {n : Nat} {c : Int} {a : Nat → Int} {m : Nat} (hside : ∀ i : Nat, (sideB has (m + 1) c i = true ↔ a i = 1) ∧ (sideB has (m + 2) c i = true ↔ a i = 2)) (hbd : ∀ i, a i = 0 ∨ a i = 1 ∨ a i = 2)
    (hout : ∀ (d : Nat) (k : Int), (d = m + 1 ∨ d = m + 2) → sideB has d c k = true → 0 ≤ k ∧ k < n) {l : List (Nat × Nat)} (h : Runs a n n l) (r : Rn) :
    r ∈ l.map (fun p => ⟨(a p.1).toNat + m, c, p.1, p.2⟩) ↔ maxR has r ∧ (r.d = m + 1 ∨ r.d = m + 2) ∧ r.c = c := by
  have hs : ∀ (i : Nat) (d : Nat), (d = m + 1 ∨ d = m + 2) → (sideB has d c i = true ↔ (a i).toNat + m = d) := by
    intro i d hd
    rcases hd with rfl | rfl
    · rw [(hside i).1]
      rcases hbd i with e | e | e <;> rw [e] <;> simp <;> omega
    · rw [(hside i).2]
      rcases hbd i with e | e | e <;> rw [e] <;> simp <;> omega
  have heq : ∀ i j : Nat, a i = a j ↔ (a i).toNat = (a j).toNat := by
    intro i j
    have h1 := hbd i
    have h2 := hbd j
    omega
  rw [List.mem_map]
  constructor
  · rintro ⟨p, hp, rfl⟩
    obtain ⟨h1, h2, h3, h4, h5, h6⟩ := (h.mem p).1 hp
    have hd : (a p.1).toNat + m = m + 1 ∨ (a p.1).toNat + m = m + 2 := by have := hbd p.1; omega
    refine ⟨⟨by dsimp only; omega, fun k k1 k2 => ?_, Bool.eq_false_iff.2 fun e => ?_, Bool.eq_false_iff.2 fun e => ?_⟩, hd, rfl⟩
    · dsimp only at k1 k2 ⊢
      obtain ⟨K, rfl⟩ : ∃ K : Nat, k = K := ⟨k.toNat, by omega⟩
      rw [hs K _ hd, h4 K (by omega) (by omega)]
    · dsimp only at e
      have ho := (hout _ _ hd e).1
      have e1 : ((p.1 : Int) - 1) = ((p.1 - 1 : Nat) : Int) := by omega
      rw [e1, hs _ _ hd] at e
      rcases h5 with h5 | h5
      · omega
      · exact h5 ((heq _ _).2 (by omega))
    · dsimp only at e
      have ho := (hout _ _ hd e).2
      rw [hs _ _ hd] at e
      rcases h6 with h6 | h6
      · omega
      · exact h6 ((heq _ _).2 (by omega))
  · rintro ⟨⟨h1, h2, h3, h4⟩, hd, hc⟩
    rw [hc] at h2 h3 h4
    have f0 := hout _ _ hd (h2 r.f (Int.le_refl _) h1)
    have f1 := hout _ _ hd (h2 (r.t - 1) (by omega) (by omega))
    obtain ⟨F, hF⟩ : ∃ F : Nat, r.f = F := ⟨r.f.toNat, by omega⟩
    obtain ⟨T, hT⟩ : ∃ T : Nat, r.t = T := ⟨r.t.toNat, by omega⟩
    have hFd := (hs F _ hd).1 (by rw [← hF]; exact h2 r.f (Int.le_refl _) h1)
    refine ⟨(F, T), (h.mem _).2 ⟨by dsimp only; omega, by dsimp only; omega, ?_, fun j j1 j2 => ?_, ?_, ?_⟩, ?_⟩
    · dsimp only
      intro e
      rw [e] at hFd
      simp at hFd
      omega
    · dsimp only at j1 j2 ⊢
      have := (hs j _ hd).1 (h2 j (by omega) (by omega))
      exact (heq _ _).2 (by omega)
    · dsimp only
      by_cases z : F = 0
      · exact .inl z
      · refine .inr fun e => ?_
        have e1 : r.f - 1 = ((F - 1 : Nat) : Int) := by omega
        rw [e1] at h3
        have := (hs (F - 1) _ hd).2 (by rw [(heq _ _).1 e]; exact hFd)
        rw [this] at h3
        exact absurd h3 (by simp)
    · dsimp only
      by_cases z : T = n
      · exact .inl z
      · refine .inr fun e => ?_
        rw [hT] at h4
        have := (hs T _ hd).2 (by rw [(heq _ _).1 e]; exact hFd)
        rw [this] at h4
        exact absurd h4 (by simp)
    · exact Rn.ext' hFd hc.symm hF.symm hT.symm
end Go.Proofs.YtngbcbncllfblaaGreat
