/- law17.lives: two ways meet in the middle. Condition: none. law18.lives: two ways that cross come to four pieces. Condition: none. Plain: pieces go from the lesser end and have no end of another one inside; a way that comes twice, or turned round, changes nothing. Conditions: none. append of a slice of ways to two that the walk has laid. Condition: at most 2^18 ways. -/
import Derived.Test.YtmommicmblfibaaGreatJMeetP3
import Derived.Test.YtmommicmblfibaaGreatJRoundsP
import Derived.Test.YtmommicmblfibaaGreatJSplE
import Derived.Test.YtmommicmblfibaaGreatJSort1
import Derived.Test.YtmommicmblfibaaGreatJSplG
import Derived.Test.YtmommicmblfibaaGreatJMeetP8
namespace Go.Proofs.YtmommicmblfibaaGreat
open Go.RowKit

end Go.Proofs.YtmommicmblfibaaGreat
namespace Go.Proofs.YtmommicmblfibaaGreat
open Go.RowKit

theorem pieces_lives : (piecesQ [((0, 0), 4, 4), ((0, 4), 4, 0)]).length = 4 := by decide +kernel
theorem ends_lives : (rowQ (endsE (piecesQ [((0, 0), 4, 4), ((0, 4), 4, 0)]))).length = 5 := by decide +kernel
theorem first_lives : (piecesQ [((0, 0), 4, 4), ((0, 4), 4, 0)])[0]? = some ((((0 : Int) : Rat), ((0 : Int) : Rat)), ((2 : Int) : Rat), ((2 : Int) : Rat)) := by decide +kernel
theorem piecesQ_eb {l : List SegZ} : ∀ e ∈ piecesQ l, EB 7 e := by
  intro e he
  obtain ⟨s, -, hs⟩ := List.mem_flatMap.1 ((mem_rowG ord_edge).1 he)
  exact piece_eb e hs
theorem edge12_r {k : Nat} {w : World} {v : Value} {l : List EdgeQ} (h : RowK 12 Edge12R w v l) (hq : ∀ e ∈ l, EB k e) : RowK 12 (EdgeR k) w v l := by
  obtain ⟨A, c, hv, h1, h2, h3⟩ := h
  refine ⟨A, c, hv, h1, h2, fun hl => ?_⟩
  obtain ⟨b, o, hA, he⟩ := h3 hl
  refine ⟨b, o, hA, fun i x hx => ?_⟩
  obtain ⟨us, k1, k2⟩ := he i x hx
  exact ⟨us, k1, edge_r k2 (hq x (List.mem_of_getElem? hx))⟩

set_option maxRecDepth 100000 in
set_option maxHeartbeats 4000000 in
theorem lives18_any (w : World) : Calls Tryz.prog 9 #[] w fun e w' => e = .returned (.bool true) ∧ Grew w w' := by
  go_enter Tryz.func9, Tryz.ntmps9
  go_wp2_with fail
  refine (pieces_any _ [((0, 0), 4, 4), ((0, 4), 4, 0)] _ ?_ (by simp)).mono ?_
  · refine ⟨_, 2, rfl, by simp, by omega, fun _ => ⟨w.heap.size, 0, rfl, fun i s hs => ?_⟩⟩
    have hi : i < 2 := (List.getElem?_eq_some_iff.1 hs).1
    rcases (show i = 0 ∨ i = 1 by omega) with rfl | rfl
    · obtain rfl : ((0, 0), 4, 4) = s := by simpa using hs
      exact ⟨⟨by simp [go_sem], by simp [go_sem], by simp [go_sem], by simp [go_sem]⟩, by unfold In64; dsimp only; omega, by unfold In64; dsimp only; omega⟩
    · obtain rfl : ((0, 4), 4, 0) = s := by simpa using hs
      exact ⟨⟨by simp [go_sem], by simp [go_sem], by simp [go_sem], by simp [go_sem]⟩, by unfold In64; dsimp only; omega, by unfold In64; dsimp only; omega⟩
  rintro e w1 ⟨v, rfl, hv, g1⟩
  replace g1 := Lib.hid (((Grew.refl w).alloc _).trans g1)
  have hvr := Lib.hid (edge12_r hv piecesQ_eb)
  obtain ⟨A, c, rfl, h1, h2, h3⟩ := id hv
  rw [pieces_lives] at h1 h3 hvr
  rw [pieces_lives]
  obtain ⟨b, o, rfl, he⟩ := h3 (by omega)
  obtain ⟨b1, A1, n1, c1, C1, m1, d1, b2, A2, n2, c2, C2, m2, d2, b3, A3, n3, c3, C3, m3, d3, b4, A4, n4, c4, C4, m4, d4, ⟨e0, e1, e2, e3, e4, e5, e6, e7, e8, e9, e10, e11⟩, S1⟩ := cellsC (he 0 _ first_lives)
  obtain ⟨-, S2⟩ := edge_parts S1.out
  clear e0 e1 e2 e3 e4 e5
  replace e6 : w1.cell? ⟨b, o + 6, none⟩ = some (.bool b3) := e6
  replace e7 : w1.cell? ⟨b, o + 7, none⟩ = some (.slice A3 n3 c3) := e7
  replace e8 : w1.cell? ⟨b, o + 8, none⟩ = some (.slice C3 m3 d3) := e8
  replace e9 : w1.cell? ⟨b, o + 9, none⟩ = some (.bool b4) := e9
  replace e10 : w1.cell? ⟨b, o + 10, none⟩ = some (.slice A4 n4 c4) := e10
  replace e11 : w1.cell? ⟨b, o + 11, none⟩ = some (.slice C4 m4 d4) := e11
  clear S1 he h3 hv
  replace S2 := Lib.hid S2
  go_wp2_with fail
  refine (xends_any _ _ 7 _ hvr.out piecesQ_eb (by omega) (by omega) (by rw [pieces_lives]; omega)).mono ?_
  rintro e w2 ⟨X, rfl, hX, g2⟩
  obtain ⟨A9, c9, rfl, -, -, -⟩ := id hX
  rw [ends_lives]
  replace e6 := g2.cell e6
  replace e7 := g2.cell e7
  replace e8 := g2.cell e8
  replace e9 := g2.cell e9
  replace e10 := g2.cell e10
  replace e11 := g2.cell e11
  have hv := Lib.hid (SpotC.v (k := 1) (SpotC.kept S2.out.out g2.keeps) (QB_int 2 1 (by rw [show (2 : Int).natAbs = 2 from rfl, len_lt_base (by omega) (by omega)]; exact Nat.le_refl _) (by omega)) (QB_int 2 1 (by rw [show (2 : Int).natAbs = 2 from rfl, len_lt_base (by omega) (by omega)]; exact Nat.le_refl _) (by omega)))
  replace g1 := Lib.hid (g1.out.trans g2)
  clear hX g2 S2 hvr
  go_wp2_with fail
  refine (stext_int 2 2 _ _ (Lib.hid wt2) (Lib.hid wt2) rfl (.inl rfl) _ 1 _ hv.out (by omega) (by omega)).mono ?_
  rintro e w3 ⟨rfl, g3⟩
  have es : digS 2 ++ (⟨#[32]⟩ : ByteArray) ++ digS 2 = (⟨#[50, 32, 50]⟩ : ByteArray) := rfl
  rw [es]
  have g9 := Lib.hid (g1.out.trans g3)
  clear g3 e6 e7 e8 e9 e10 e11 hv g1
  go_wp2_with fail
  go_ret
  exact ⟨by rfl, g9.out⟩
end Go.Proofs.YtmommicmblfibaaGreat
namespace Go.Proofs.YtmommicmblfibaaGreat
open Go.RowKit

/-- A point of the grid as a spot. -/
def spZ (p : Int × Int) : Rat × Rat := ((p.1 : Rat), (p.2 : Rat))
/-- A spot lies on a way. -/
def onS (s : SegZ) (p : Rat × Rat) : Prop := onQ (s.1.1 : Rat) (s.1.2 : Rat) (s.2.1 : Rat) (s.2.2 : Rat) p.1 p.2 = true
/-- Whether two ways' lines cross. -/
def dirS (s t : SegZ) : Rat := dirQ (s.1.1 : Rat) (s.1.2 : Rat) (s.2.1 : Rat) (s.2.2 : Rat) (t.1.1 : Rat) (t.1.2 : Rat) (t.2.1 : Rat) (t.2.2 : Rat)
abbrev meetS (s t : SegZ) : List (Rat × Rat) := meetW s.1.1 s.1.2 s.2.1 s.2.2 t
abbrev cutS (s : SegZ) (l : List SegZ) : List (Rat × Rat) := cutAll s.1.1 s.1.2 s.2.1 s.2.2 l

theorem onS_a (s : SegZ) : onS s (spZ s.1) := onQ_a _ _ _ _
theorem onS_b (s : SegZ) : onS s (spZ s.2) := onQ_b _ _ _ _
theorem meetS_on {s t : SegZ} {p : Rat × Rat} (h : p ∈ meetS s t) : onS s p ∧ onS t p := meetQ_on h
theorem meetS_eq {s t : SegZ} (hs : mayB s = true) (ht : mayB t = true) {p : Rat × Rat} : p ∈ meetS s t ↔ p ∈ bothQ (s.1.1 : Rat) (s.1.2 : Rat) (s.2.1 : Rat) (s.2.2 : Rat) (t.1.1 : Rat) (t.1.2 : Rat) (t.2.1 : Rat) (t.2.2 : Rat) := by
  unfold meetS meetW
  rw [meetQ_eq, rmeet_both, if_pos ⟨hs, ht⟩]
  constructor
  · intro h
    split at h
    · simp at h
    · exact h
  · intro h
    obtain ⟨h1, h2⟩ := both_on h
    rw [not_apart h1 h2, if_neg (by simp)]
    exact h
theorem meetS_may {s t : SegZ} {p : Rat × Rat} (h : p ∈ meetS s t) : mayB t = true := by
  unfold meetS meetW at h
  rw [meetQ_eq, rmeet_both] at h
  split at h
  · next k => exact k.2
  · simp at h
/-- Lines that cross: whatever is on both. -/
theorem meet_dir {s t : SegZ} (hs : mayB s = true) (ht : mayB t = true) (hD : dirS s t ≠ 0) {p : Rat × Rat} (h1 : onS s p) (h2 : onS t p) : p ∈ meetS s t := by
  rw [meetS_eq hs ht]
  unfold bothQ
  rw [if_pos (both_dir.2 hD)]
  exact (mem_line hD).2 ⟨h1, h2⟩
theorem ends2_first {R : List (Rat × Rat)} {p : Rat × Rat} (hs : R.Pairwise spotLt) (h1 : p ∈ R) (h2 : ∀ q ∈ R, spotLe p q) : p ∈ ends2 R := by
  obtain ⟨T, rfl⟩ := sorted_head hs h1 h2
  unfold ends2
  split <;> simp
theorem ends2_last {R : List (Rat × Rat)} {p : Rat × Rat} (hs : R.Pairwise spotLt) (h1 : p ∈ R) (h2 : ∀ q ∈ R, spotLe q p) : p ∈ ends2 R := by
  obtain ⟨T, rfl⟩ := sorted_last hs h1 h2
  unfold ends2
  split <;> simp
/-- Whatever is on a way stands between its ends. -/
theorem on_between {s : SegZ} {q : Rat × Rat} (h : onS s q) : (spotLe (spZ s.1) q ∧ spotLe q (spZ s.2)) ∨ (spotLe (spZ s.2) q ∧ spotLe q (spZ s.1)) := by
  have ht := on_turnQ h
  rcases spotLe_total (spZ s.1) (spZ s.2) with k | k
  · exact .inl ((on_le k ht).1 h)
  · unfold onS at h
    rw [← onQ_swap] at h
    exact .inr ((on_le (.inr k) (turn_swap0.2 ht)).1 h)
/-- Lines that do not cross: an end of either that is on both. -/
theorem meet_end {s t u : SegZ} (hs : mayB s = true) (ht : mayB t = true) (hD : dirS s t = 0) (hu : u = s ∨ u = t) {p : Rat × Rat} (hp : p = spZ u.1 ∨ p = spZ u.2) (h1 : onS s p) (h2 : onS t p) : p ∈ meetS s t := by
  rw [meetS_eq hs ht]
  unfold bothQ
  rw [if_neg (fun k => both_dir.1 k hD)]
  have hall : ∀ q ∈ rowQ (endsQ (s.1.1 : Rat) (s.1.2 : Rat) (s.2.1 : Rat) (s.2.2 : Rat) (t.1.1 : Rat) (t.1.2 : Rat) (t.2.1 : Rat) (t.2.2 : Rat)), onS u q := by
    intro q hq
    have hm := mem_rowQ.1 hq
    rw [mem_ends] at hm
    have hb : onS s q ∧ onS t q := by
      rcases hm with ⟨k, rfl⟩ | ⟨k, rfl⟩ | ⟨k, rfl⟩ | ⟨k, rfl⟩
      · exact ⟨onQ_a _ _ _ _, k⟩
      · exact ⟨onQ_b _ _ _ _, k⟩
      · exact ⟨k, onQ_a _ _ _ _⟩
      · exact ⟨k, onQ_b _ _ _ _⟩
    rcases hu with rfl | rfl
    · exact hb.1
    · exact hb.2
  have hin : p ∈ rowQ (endsQ (s.1.1 : Rat) (s.1.2 : Rat) (s.2.1 : Rat) (s.2.2 : Rat) (t.1.1 : Rat) (t.1.2 : Rat) (t.2.1 : Rat) (t.2.2 : Rat)) := by
    rw [mem_rowQ, mem_ends]
    rcases hu with rfl | rfl
    · rcases hp with rfl | rfl
      · exact .inl ⟨h2, rfl⟩
      · exact .inr (.inl ⟨h2, rfl⟩)
    · rcases hp with rfl | rfl
      · exact .inr (.inr (.inl ⟨h1, rfl⟩))
      · exact .inr (.inr (.inr ⟨h1, rfl⟩))
  have hso := rowQ_sorted (endsQ (s.1.1 : Rat) (s.1.2 : Rat) (s.2.1 : Rat) (s.2.2 : Rat) (t.1.1 : Rat) (t.1.2 : Rat) (t.2.1 : Rat) (t.2.2 : Rat))
  generalize rowQ (endsQ (s.1.1 : Rat) (s.1.2 : Rat) (s.2.1 : Rat) (s.2.2 : Rat) (t.1.1 : Rat) (t.1.2 : Rat) (t.2.1 : Rat) (t.2.2 : Rat)) = R at hall hin hso
  rcases hp with rfl | rfl
  · rcases spotLe_total (spZ u.1) (spZ u.2) with k | k
    · refine ends2_first hso hin fun q hq => ?_
      rcases on_between (hall q hq) with g | g
      · exact g.1
      · exact spotLe_trans k g.1
    · refine ends2_last hso hin fun q hq => ?_
      rcases on_between (hall q hq) with g | g
      · exact spotLe_trans g.2 (.inr k)
      · exact g.2
  · rcases spotLe_total (spZ u.1) (spZ u.2) with k | k
    · refine ends2_last hso hin fun q hq => ?_
      rcases on_between (hall q hq) with g | g
      · exact g.2
      · exact spotLe_trans g.2 k
    · refine ends2_first hso hin fun q hq => ?_
      rcases on_between (hall q hq) with g | g
      · exact spotLe_trans (.inr k) g.1
      · exact g.1
/-- Lines that do not cross: what they have in common is an end. -/
theorem par_end {s t : SegZ} (hs : mayB s = true) (ht : mayB t = true) (hD : dirS s t = 0) {p : Rat × Rat} (h : p ∈ meetS s t) : (p = spZ s.1 ∨ p = spZ s.2) ∨ (p = spZ t.1 ∨ p = spZ t.2) := by
  rw [meetS_eq hs ht] at h
  unfold bothQ at h
  rw [if_neg (fun k => both_dir.1 k hD)] at h
  have hm := mem_rowQ.1 (ends2_mem h)
  rw [mem_ends] at hm
  rcases hm with ⟨-, e⟩ | ⟨-, e⟩ | ⟨-, e⟩ | ⟨-, e⟩
  · exact .inl (.inl e)
  · exact .inl (.inr e)
  · exact .inr (.inl e)
  · exact .inr (.inr e)
theorem go_some {s : SegZ} (h : s.1 ≠ s.2) : (s.1.1 : Rat) ≠ (s.2.1 : Rat) ∨ (s.1.2 : Rat) ≠ (s.2.2 : Rat) := by
  refine Decidable.byContradiction fun k => h ?_
  have e1 : (s.1.1 : Rat) = (s.2.1 : Rat) := Decidable.byContradiction fun e => k (.inl e)
  have e2 : (s.1.2 : Rat) = (s.2.2 : Rat) := Decidable.byContradiction fun e => k (.inr e)
  exact Prod.ext (Rat.intCast_inj.1 e1) (Rat.intCast_inj.1 e2)
theorem along_alg {a1 a2 b1 b2 c1 c2 : Rat} (h0 : a1 ≠ 0 ∨ a2 ≠ 0) (h1 : a1 * c2 - a2 * c1 = 0) (h2 : b1 * c2 - b2 * c1 ≠ 0) (h3 : a1 * b2 - a2 * b1 = 0) : False := by
  have e1 : a1 * (b1 * c2 - b2 * c1) = 0 := by grind
  have e2 : a2 * (b1 * c2 - b2 * c1) = 0 := by grind
  rcases h0 with h | h
  · rcases Rat.mul_eq_zero.1 e1 with k | k
    · exact h k
    · exact h2 k
  · rcases Rat.mul_eq_zero.1 e2 with k | k
    · exact h k
    · exact h2 k
/-- A way along another one crosses what the other one crosses. -/
theorem dir_along {s t u : SegZ} (hs : s.1 ≠ s.2) (h1 : dirS s u = 0) (h2 : dirS t u ≠ 0) : dirS s t ≠ 0 := by
  intro h3
  have hv : (s.2.1 : Rat) - (s.1.1 : Rat) ≠ 0 ∨ (s.2.2 : Rat) - (s.1.2 : Rat) ≠ 0 := by
    rcases go_some hs with k | k
    · exact .inl (by grind)
    · exact .inr (by grind)
  exact along_alg hv h1 h2 h3
theorem mem_cutS {s : SegZ} {l : List SegZ} {p : Rat × Rat} : p ∈ cutS s l ↔ p = spZ s.1 ∨ p = spZ s.2 ∨ ∃ t ∈ l, p ∈ meetS s t := by
  unfold cutS cutAll cutRow
  simp only [List.mem_append, List.mem_cons, List.not_mem_nil, or_false, List.mem_flatMap]
  constructor
  · rintro ((h | h) | h)
    · exact .inl h
    · exact .inr (.inl h)
    · exact .inr (.inr h)
  · rintro (h | h | h)
    · exact .inl (.inl h)
    · exact .inl (.inr h)
    · exact .inr h
theorem cutS_on {s : SegZ} {l : List SegZ} {p : Rat × Rat} (h : p ∈ cutS s l) : onS s p := by
  rcases mem_cutS.1 h with rfl | rfl | ⟨t, -, h⟩
  · exact onS_a s
  · exact onS_b s
  · exact (meetS_on h).1
/-- An end of a way that lies on another one is where they meet. -/
theorem end_meets {s t : SegZ} (hs : mayB s = true) (ht : mayB t = true) {p : Rat × Rat} (hp : p = spZ t.1 ∨ p = spZ t.2) (h : onS s p) : p ∈ meetS s t := by
  have h2 : onS t p := by
    rcases hp with rfl | rfl
    · exact onS_a t
    · exact onS_b t
  by_cases hD : dirS s t = 0
  · exact meet_end hs ht hD (.inr rfl) hp h h2
  · exact meet_dir hs ht hD h h2
/-- A cut of a way that lies on another way is a cut of that one, too. -/
theorem cut_both {s t : SegZ} {l : List SegZ} (hs : mayB s = true) (hs2 : s.1 ≠ s.2) (ht : mayB t = true) (hl : t ∈ l) {p : Rat × Rat} (hp : p ∈ cutS t l) (h : onS s p) : p ∈ cutS s l := by
  refine mem_cutS.2 (.inr (.inr ?_))
  rcases mem_cutS.1 hp with e | e | ⟨u, hu, hm⟩
  · exact ⟨t, hl, end_meets hs ht (.inl e) h⟩
  · exact ⟨t, hl, end_meets hs ht (.inr e) h⟩
  · have hmu := meetS_may hm
    obtain ⟨o1, o2⟩ := meetS_on hm
    by_cases hD : dirS s u = 0
    · by_cases hE : dirS t u = 0
      · rcases par_end ht hmu hE hm with e | e
        · exact ⟨t, hl, end_meets hs ht e h⟩
        · exact ⟨u, hu, end_meets hs hmu e h⟩
      · exact ⟨t, hl, meet_dir hs ht (dir_along hs2 hD hE) h o1⟩
    · exact ⟨u, hu, meet_dir hs hmu hD h o2⟩

/-- A way's pieces: neighbours in the row of its cuts. -/
theorem mem_pieceOf {l : List SegZ} {s : SegZ} {e : EdgeQ} : e ∈ pieceOf l s ↔ mayB s = true ∧ s.1 ≠ s.2 ∧ ∃ k : Nat, (rowQ (cutS s l))[k]? = some e.1 ∧ (rowQ (cutS s l))[k + 1]? = some e.2 := by
  have hso := rowQ_sorted (cutS s l)
  unfold pieceOf
  by_cases hm : mayB s = true ∧ s.1 ≠ s.2
  · rw [if_pos hm]
    have hc : cutsQ s.1.1 s.1.2 s.2.1 s.2.2 l = if aheadB s.2.1 s.2.2 s.1.1 s.1.2 = true then (rowQ (cutS s l)).reverse else rowQ (cutS s l) := by
      unfold cutsQ
      exact if_pos hm.1
    generalize rowQ (cutS s l) = R at hso hc
    have hlt : ∀ (i : Nat) (h : i + 1 < R.length), spotLt (R[i]'(by omega)) R[i + 1] := fun i h => List.pairwise_iff_getElem.1 hso i (i + 1) (by omega) h (by omega)
    have hgt : ∀ (i : Nat) (h : i + 1 < R.length), edgeOf (R[i]'(by omega)) R[i + 1] = (R[i]'(by omega), R[i + 1]) ∧ edgeOf R[i + 1] (R[i]'(by omega)) = (R[i]'(by omega), R[i + 1]) := by
      intro i h
      have h1 := hlt i h
      have h2 : ¬ 0 < spotCmp (R[i]'(by omega)).1 (R[i]'(by omega)).2 R[i + 1].1 R[i + 1].2 := by
        have := spotCmp_neg.2 h1
        omega
      have h3 : 0 < spotCmp R[i + 1].1 R[i + 1].2 (R[i]'(by omega)).1 (R[i]'(by omega)).2 := by
        rcases Int.lt_trichotomy (spotCmp R[i + 1].1 R[i + 1].2 (R[i]'(by omega)).1 (R[i]'(by omega)).2) 0 with k | k | k
        · exact (spotLt_irr h1 (spotCmp_neg.1 k)).elim
        · rw [spotCmp_zero.1 k] at h1; exact (spotLt_irr h1 h1).elim
        · exact k
      exact ⟨if_neg h2, if_pos h3⟩
    have key : (∃ i, i < R.length - 1 ∧ edgeOf ((cutsQ s.1.1 s.1.2 s.2.1 s.2.2 l).getD i (0, 0)) ((cutsQ s.1.1 s.1.2 s.2.1 s.2.2 l).getD (i + 1) (0, 0)) = e) ↔ ∃ k : Nat, R[k]? = some e.1 ∧ R[k + 1]? = some e.2 := by
      have hk : ∀ k : Nat, (R[k]? = some e.1 ∧ R[k + 1]? = some e.2) ↔ ∃ h : k + 1 < R.length, (R[k]'(by omega), R[k + 1]) = e := by
        intro k
        constructor
        · rintro ⟨h1, h2⟩
          obtain ⟨g1, h1⟩ := List.getElem?_eq_some_iff.1 h1
          obtain ⟨g2, h2⟩ := List.getElem?_eq_some_iff.1 h2
          exact ⟨g2, by rw [h1, h2]⟩
        · rintro ⟨h, rfl⟩
          exact ⟨List.getElem?_eq_getElem (by omega), List.getElem?_eq_getElem h⟩
      simp only [hk]
      rw [hc]
      split
      · constructor
        · rintro ⟨i, hi, he⟩
          refine ⟨R.length - 2 - i, by omega, ?_⟩
          rw [List.getD_eq_getElem?_getD, List.getD_eq_getElem?_getD, List.getElem?_reverse (by omega), List.getElem?_reverse (by omega), List.getElem?_eq_getElem (by omega), List.getElem?_eq_getElem (by omega)] at he
          simp only [Option.getD_some] at he
          have := (hgt (R.length - 2 - i) (by omega)).2
          simp only [show R.length - 2 - i + 1 = R.length - 1 - i by omega, show R.length - 1 - (i + 1) = R.length - 2 - i by omega] at this he ⊢
          rw [← this, he]
        · rintro ⟨k, hk, he⟩
          refine ⟨R.length - 2 - k, by omega, ?_⟩
          rw [List.getD_eq_getElem?_getD, List.getD_eq_getElem?_getD, List.getElem?_reverse (by omega), List.getElem?_reverse (by omega), List.getElem?_eq_getElem (by omega), List.getElem?_eq_getElem (by omega)]
          simp only [Option.getD_some]
          have := (hgt k hk).2
          simp only [show R.length - 1 - (R.length - 2 - k) = k + 1 by omega, show R.length - 1 - (R.length - 2 - k + 1) = k by omega]
          rw [this, he]
      · constructor
        · rintro ⟨i, hi, he⟩
          refine ⟨i, by omega, ?_⟩
          rw [List.getD_eq_getElem?_getD, List.getD_eq_getElem?_getD, List.getElem?_eq_getElem (by omega), List.getElem?_eq_getElem (by omega)] at he
          simp only [Option.getD_some] at he
          rw [← (hgt i (by omega)).1, he]
        · rintro ⟨k, hk, he⟩
          refine ⟨k, by omega, ?_⟩
          rw [List.getD_eq_getElem?_getD, List.getD_eq_getElem?_getD, List.getElem?_eq_getElem (by omega), List.getElem?_eq_getElem (by omega)]
          simp only [Option.getD_some]
          rw [(hgt k hk).1, he]
    have hlen : (cutsQ s.1.1 s.1.2 s.2.1 s.2.2 l).length = R.length := by
      rw [hc]; split
      · rw [List.length_reverse]
      · rfl
    unfold pairsN
    rw [List.mem_map, hlen]
    simp only [List.mem_range]
    exact key.trans ⟨fun h => ⟨hm.1, hm.2, h⟩, fun h => h.2.2⟩
  · rw [if_neg hm]
    constructor
    · intro h; simp at h
    · intro h; exact absurd ⟨h.1, h.2.1⟩ hm
theorem mem_piecesQ {l : List SegZ} {e : EdgeQ} : e ∈ piecesQ l ↔ ∃ s ∈ l, e ∈ pieceOf l s := by
  unfold piecesQ
  rw [mem_rowG ord_edge, List.mem_flatMap]

theorem on_share {ax ay bx b_y X Y : Rat} (hv : ax ≠ bx ∨ ay ≠ b_y) (h : onQ ax ay bx b_y X Y = true) : ∃ f : Rat, X = ax + f * (bx - ax) ∧ Y = ay + f * (b_y - ay) ∧ 0 ≤ f ∧ f ≤ 1 := by
  have ht := turn_zero (on_turnQ h)
  have hp : ∃ f, X = ax + f * (bx - ax) ∧ Y = ay + f * (b_y - ay) := by
    by_cases h : bx = ax
    · have h2 : b_y - ay ≠ 0 := by grind
      exact ⟨(Y - ay) / (b_y - ay), by grind, by grind⟩
    · have h2 : bx - ax ≠ 0 := by grind
      exact ⟨(X - ax) / (bx - ax), by grind, by grind⟩
  obtain ⟨f, rfl, rfl⟩ := hp
  rw [on_param _ _ _ _ _ hv, decide_eq_true_eq] at h
  exact ⟨f, rfl, rfl, h⟩
/-- What lies between two spots of a way lies on the way. -/
theorem on_part {s : SegZ} (hs : s.1 ≠ s.2) {p q r : Rat × Rat} (hp : onS s p) (hq : onS s q) (hlt : spotLt p q) (hr : onQ p.1 p.2 q.1 q.2 r.1 r.2 = true) : onS s r := by
  have hv := go_some hs
  have hv2 : p.1 ≠ q.1 ∨ p.2 ≠ q.2 := by
    rcases hlt with h | ⟨h, h'⟩
    · exact .inl (by grind)
    · exact .inr (by grind)
  obtain ⟨h, e5, e6, h5, h6⟩ := on_share hv2 hr
  obtain ⟨f, e1, e2, h1, h2⟩ := on_share hv hp
  obtain ⟨g, e3, e4, h3, h4⟩ := on_share hv hq
  have k1 : 0 ≤ f + h * (g - f) := by
    have a1 := Rat.mul_nonneg h1 (show (0 : Rat) ≤ 1 - h by grind)
    have a2 := Rat.mul_nonneg h5 h3
    have : f + h * (g - f) = f * (1 - h) + h * g := by grind
    rw [this]; grind
  have k2 : f + h * (g - f) ≤ 1 := by
    have a1 := Rat.mul_nonneg (show (0 : Rat) ≤ 1 - f by grind) (show (0 : Rat) ≤ 1 - h by grind)
    have a2 := Rat.mul_nonneg h5 (show (0 : Rat) ≤ 1 - g by grind)
    have : 1 - (f + h * (g - f)) = (1 - f) * (1 - h) + h * (1 - g) := by grind
    grind
  have e7 : r.1 = (s.1.1 : Rat) + (f + h * (g - f)) * ((s.2.1 : Rat) - (s.1.1 : Rat)) := by rw [e5, e3, e1]; grind
  have e8 : r.2 = (s.1.2 : Rat) + (f + h * (g - f)) * ((s.2.2 : Rat) - (s.1.2 : Rat)) := by rw [e6, e4, e2]; grind
  unfold onS
  rw [e7, e8, on_param _ _ _ _ _ hv, decide_eq_true_eq]
  exact ⟨k1, k2⟩

theorem piece_lt {l : List SegZ} {s : SegZ} {e : EdgeQ} (h : e ∈ pieceOf l s) : spotLt e.1 e.2 := by
  obtain ⟨-, -, k, h1, h2⟩ := mem_pieceOf.1 h
  obtain ⟨g1, h1⟩ := List.getElem?_eq_some_iff.1 h1
  obtain ⟨g2, h2⟩ := List.getElem?_eq_some_iff.1 h2
  rw [← h1, ← h2]
  exact List.pairwise_iff_getElem.1 (rowQ_sorted _) k (k + 1) g1 g2 (by omega)
/-- A piece goes from the lesser end. -/
theorem clean_lt {l : List SegZ} {e : EdgeQ} (h : e ∈ piecesQ l) : spotLt e.1 e.2 := by
  obtain ⟨s, -, h⟩ := mem_piecesQ.1 h
  exact piece_lt h
/-- A piece has no end of another one inside. -/
theorem clean_on {l : List SegZ} {e f : EdgeQ} (he : e ∈ piecesQ l) (hf : f ∈ piecesQ l) {p : Rat × Rat} (hp : p = f.1 ∨ p = f.2) (h : onQ e.1.1 e.1.2 e.2.1 e.2.2 p.1 p.2 = true) : p = e.1 ∨ p = e.2 := by
  obtain ⟨s, -, he⟩ := mem_piecesQ.1 he
  obtain ⟨t, ht, hf⟩ := mem_piecesQ.1 hf
  have hlt := piece_lt he
  obtain ⟨ms, ns, k, h1, h2⟩ := mem_pieceOf.1 he
  obtain ⟨mt, nt, m, h3, h4⟩ := mem_pieceOf.1 hf
  have hpt : p ∈ cutS t l := by
    rcases hp with rfl | rfl
    · exact mem_rowQ.1 (List.mem_of_getElem? h3)
    · exact mem_rowQ.1 (List.mem_of_getElem? h4)
  have o1 := cutS_on (mem_rowQ.1 (List.mem_of_getElem? h1))
  have o2 := cutS_on (mem_rowQ.1 (List.mem_of_getElem? h2))
  have hon := on_part ns o1 o2 hlt h
  have hps := mem_rowQ.2 (cut_both ms ns mt ht hpt hon)
  obtain ⟨b1, b2⟩ := (on_lex hlt (on_turnQ h)).1 h
  have hso := rowQ_sorted (cutS s l)
  generalize rowQ (cutS s l) = R at h1 h2 hps hso
  obtain ⟨i, hi, rfl⟩ := List.getElem_of_mem hps
  obtain ⟨g1, h1⟩ := List.getElem?_eq_some_iff.1 h1
  obtain ⟨g2, h2⟩ := List.getElem?_eq_some_iff.1 h2
  have hpw := List.pairwise_iff_getElem.1 hso
  rcases (show i < k ∨ i = k ∨ i = k + 1 ∨ k + 1 < i by omega) with c | c | c | c
  · have := hpw i k hi g1 c
    rw [h1] at this
    exact .inl (spotLe_anti (.inr this) b1)
  · subst c; exact .inl h1
  · subst c; exact .inr h2
  · have := hpw (k + 1) i g2 hi c
    rw [h2] at this
    exact .inr (spotLe_anti b2 (.inr this))

theorem meetS_back (s t : SegZ) : meetS s (t.2, t.1) = meetS s t := by
  unfold meetS meetW
  rw [← meetQ_swap, meetQ_back, meetQ_swap]
theorem meetS_turn (s t : SegZ) : meetS (s.2, s.1) t = meetS s t := by
  unfold meetS meetW
  exact meetQ_back _ _ _ _ _ _ _ _
theorem cut_twice {s : SegZ} {l : List SegZ} (hs : s ∈ l) (t : SegZ) : rowQ (cutS t ((s.2, s.1) :: s :: l)) = rowQ (cutS t l) :=
  rowQ_ext fun q => by
    rw [mem_cutS, mem_cutS]
    refine or_congr Iff.rfl (or_congr Iff.rfl ⟨?_, ?_⟩)
    · rintro ⟨u, hu, h⟩
      rcases List.mem_cons.1 hu with rfl | hu
      · exact ⟨s, hs, by rw [← meetS_back]; exact h⟩
      · rcases List.mem_cons.1 hu with rfl | hu
        · exact ⟨_, hs, h⟩
        · exact ⟨u, hu, h⟩
    · rintro ⟨u, hu, h⟩
      exact ⟨u, List.mem_cons_of_mem _ (List.mem_cons_of_mem _ hu), h⟩
theorem cut_turn (s : SegZ) (l : List SegZ) : rowQ (cutS (s.2, s.1) l) = rowQ (cutS s l) :=
  rowQ_ext fun q => by
    rw [mem_cutS, mem_cutS]
    simp only [meetS_turn]
    constructor
    · rintro (h | h | h)
      · exact .inr (.inl h)
      · exact .inl h
      · exact .inr (.inr h)
    · rintro (h | h | h)
      · exact .inr (.inl h)
      · exact .inl h
      · exact .inr (.inr h)
/-- A way that comes twice, or turned round, changes nothing. -/
theorem clean_twice {s : SegZ} {l : List SegZ} (hs : s ∈ l) : piecesQ ((s.2, s.1) :: s :: l) = piecesQ l := by
  unfold piecesQ
  refine rowG_ext ord_edge fun e => ?_
  rw [List.mem_flatMap, List.mem_flatMap]
  have hp : ∀ t, e ∈ pieceOf ((s.2, s.1) :: s :: l) t ↔ e ∈ pieceOf l t := fun t => by rw [mem_pieceOf, mem_pieceOf, cut_twice hs]
  have hq : e ∈ pieceOf l (s.2, s.1) ↔ e ∈ pieceOf l s := by
    rw [mem_pieceOf, mem_pieceOf, cut_turn]
    have hm : mayB (s.2, s.1) = mayB s := by unfold mayB; exact Bool.and_comm _ _
    rw [hm]
    exact and_congr Iff.rfl (and_congr ⟨fun h k => h k.symm, fun h k => h k.symm⟩ Iff.rfl)
  simp only [hp]
  constructor
  · rintro ⟨u, hu, h⟩
    rcases List.mem_cons.1 hu with rfl | hu
    · exact ⟨s, hs, hq.1 h⟩
    · rcases List.mem_cons.1 hu with rfl | hu
      · exact ⟨_, hs, h⟩
      · exact ⟨u, hu, h⟩
  · rintro ⟨u, hu, h⟩
    exact ⟨u, List.mem_cons_of_mem _ (List.mem_cons_of_mem _ hu), h⟩
end Go.Proofs.YtmommicmblfibaaGreat
namespace Go.Proofs.YtmommicmblfibaaGreat
open Go.RowKit

theorem segVals_len : ∀ l : List SegZ, (segVals l).length = l.length * 4
  | [] => rfl
  | s :: l => by simp only [segVals, List.length_cons, segVals_len l]; omega
theorem segVals_one : ∀ (l : List SegZ) (u : Value), u ∈ segVals l → u.oneCell' = true
  | [], u, h => by simp [segVals] at h
  | s :: l, u, h => by
    simp only [segVals, List.mem_cons] at h
    rcases h with rfl | rfl | rfl | rfl | h
    · rfl
    · rfl
    · rfl
    · rfl
    · exact segVals_one l u h
theorem segs_cells {w : World} {X : Option Addr} {n c : Nat} {l : List SegZ} (h : SegsR w (.slice X n c) l) (h0 : 0 < l.length) : ∃ a : Addr, X = some a ∧ ∀ j u, (segVals l)[j]? = some u → w.cell? (a.add j) = some u := by
  obtain ⟨A, d, hv, h1, h2, h3⟩ := h
  obtain ⟨b, o, hA, he⟩ := h3 h0
  injection hv with hv
  refine ⟨⟨b, o, none⟩, by rw [hv, hA], fun j u hu => ?_⟩
  have hj := (List.getElem?_eq_some_iff.1 hu).1
  rw [segVals_len] at hj
  obtain ⟨s, hs⟩ : ∃ s, l[j / 4]? = some s := ⟨l[j / 4]'(by omega), List.getElem?_eq_getElem _⟩
  have hg := segVals_get l (j / 4) s hs (j % 4) (by omega)
  rw [show j / 4 * 4 + j % 4 = j by omega, hu] at hg
  obtain ⟨⟨k0, k1, k2, k3⟩, -⟩ := he _ s hs
  rw [show (⟨b, o, none⟩ : Addr).add j = ⟨b, o + j, none⟩ by unfold Addr.add; split <;> simp_all]
  rcases (show j % 4 = 0 ∨ j % 4 = 1 ∨ j % 4 = 2 ∨ j % 4 = 3 by omega) with e | e | e | e
  · rw [e] at hg
    rw [show o + j = o + j / 4 * 4 by omega, k0, hg]; rfl
  · rw [e] at hg
    rw [show o + j = o + j / 4 * 4 + 1 by omega, k1, hg]; rfl
  · rw [e] at hg
    rw [show o + j = o + j / 4 * 4 + 2 by omega, k2, hg]; rfl
  · rw [e] at hg
    rw [show o + j = o + j / 4 * 4 + 3 by omega, k3, hg]; rfl
theorem run_appSegs {w : World} {a0 a1 a2 a3 a4 a5 a6 a7 : Int} {X : Option Addr} {n c : Nat} {l : List SegZ} (i1 : In64 a0 a1) (i2 : In64 a2 a3) (i3 : In64 a4 a5) (i4 : In64 a6 a7) (hl : SegsR w (.slice X n c) l) (hin : ∀ s ∈ l, In64 s.1.1 s.1.2 ∧ In64 s.2.1 s.2.2) (h0 : 0 < l.length) (hn : l.length ≤ 262144) (ty : TypeId) :
    ∃ v' w', (Builtin.append_ #[22, 22] ty #[.slice (some ⟨w.heap.size, 0, none⟩) 2 2, .slice X n c]).run Tryz.prog (w.alloc (.cells #[.int .i64 a0, .int .i64 a1, .int .i64 a2, .int .i64 a3, .int .i64 a4, .int .i64 a5, .int .i64 a6, .int .i64 a7] 50)) = .ok v' w' ∧ SegsR w' v' (((a0, a1), a2, a3) :: ((a4, a5), a6, a7) :: l) ∧ Grew w w' := by
  obtain ⟨i, hi, hz, hsize, hbyt⟩ := info_parts info_seg
  obtain ⟨a, rfl, hc⟩ := segs_cells hl h0
  have hnl : n = l.length := by
    obtain ⟨A, d, hv, -⟩ := hl
    injection hv
  subst hnl
  have g : Grew w (w.alloc (.cells #[.int .i64 a0, .int .i64 a1, .int .i64 a2, .int .i64 a3, .int .i64 a4, .int .i64 a5, .int .i64 a6, .int .i64 a7] 50)) := (Grew.refl _).alloc _
  have hown : (w.alloc (.cells #[.int .i64 a0, .int .i64 a1, .int .i64 a2, .int .i64 a3, .int .i64 a4, .int .i64 a5, .int .i64 a6, .int .i64 a7] 50)).ownsRow w.heap.size 50 4 (.slice (some ⟨w.heap.size, 0, none⟩) 2 2) 2 (segVals [((a0, a1), a2, a3), ((a4, a5), a6, a7)]) :=
    ⟨rfl, .inr ⟨w.heap.size, 2, _, rfl, Nat.le_refl _, heap_alloc_new w _, Nat.le_refl _, by unfold maxLen; omega, rfl, rfl⟩⟩
  obtain ⟨v', w', hr, h2, h3, h4⟩ := run_append_own (P := Tryz.prog) _ w.heap.size 22 ty 50 i _ 4 32 Tryz.underlying22 hi hz hsize hbyt rfl (by omega) _ 2 _ hown a l.length c (segVals l) (segVals_len l) (fun j u hu => g.cell (hc j u hu)) (segVals_one l) (by unfold maxLen; omega) (by omega) (by simp)
  have hd := drawn_append (P := Tryz.prog) _ w.heap.size 22 ty 50 i _ 4 32 Tryz.underlying22 hi hz hsize hbyt (by omega) _ 2 _ hown a l.length c (segVals l) (segVals_len l) (fun j u hu => g.cell (hc j u hu)) (segVals_one l) (by unfold maxLen; omega) (by omega) v' w' hr
  refine ⟨v', w', hr, segs_own (e := 50) (base := w.heap.size) (m := ((a0, a1), a2, a3) :: ((a4, a5), a6, a7) :: l) ?_ ?_, g.grown h3 hd fun b hb => (hown.lt b hb).1⟩
  · have e1 : (((a0, a1), a2, a3) :: ((a4, a5), a6, a7) :: l : List SegZ).length = 2 + l.length := by simp only [List.length_cons]; omega
    rw [e1]
    exact h2
  · intro s hs
    rcases List.mem_cons.1 hs with rfl | hs
    · exact ⟨i1, i2⟩
    · rcases List.mem_cons.1 hs with rfl | hs
      · exact ⟨i3, i4⟩
      · exact hin s hs
theorem wp_appSegs {w : World} {o : Oper} {a : Act} {K : Act → World → Prop} {Q : Exit → Act → World → Prop} (s x : Operand) {a0 a1 a2 a3 a4 a5 a6 a7 : Int} {X : Option Addr} {n c : Nat} {l : List SegZ}
    (ho : o.op = .call { callee := .builtin .append, args := #[s, x], argTypes := #[22, 22] }) (hs : a.eval s = .slice (some ⟨w.heap.size, 0, none⟩) 2 2) (hx : a.eval x = .slice X n c)
    (i1 : In64 a0 a1) (i2 : In64 a2 a3) (i3 : In64 a4 a5) (i4 : In64 a6 a7) (hl : SegsR w (.slice X n c) l) (hin : ∀ s ∈ l, In64 s.1.1 s.1.2 ∧ In64 s.2.1 s.2.2) (h0 : 0 < l.length) (hn : l.length ≤ 262144)
    (h : ∀ v' w', SegsR w' v' (((a0, a1), a2, a3) :: ((a4, a5), a6, a7) :: l) → Grew w w' → K (a.put o.dst v') w') : Oper.wp Tryz.prog o a (w.alloc (.cells #[.int .i64 a0, .int .i64 a1, .int .i64 a2, .int .i64 a3, .int .i64 a4, .int .i64 a5, .int .i64 a6, .int .i64 a7] 50)) K Q := by
  obtain ⟨v', w', hr, h1, h2⟩ := run_appSegs i1 i2 i3 i4 hl hin h0 hn o.type
  unfold Oper.wp execOp
  simp only [ho, resolve, invoke, builtin, Sem.run_bind, Sem.run_pure, Result.andThen_ok, List.map_toArray, List.map_cons, List.map_nil, hs, hx, hr]
  exact h v' w' h1 h2
end Go.Proofs.YtmommicmblfibaaGreat
