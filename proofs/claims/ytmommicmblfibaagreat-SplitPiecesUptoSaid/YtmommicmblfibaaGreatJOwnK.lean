/- Plain: how many words there are where two ways meet. Conditions: none. Plain: where ways meet one, in its order. Conditions: none. Plain: rows in order, each once, whatever the order; alike neighbours once. Conditions: none. Rows of structs of k cells each that hold no ints: as they read, and as a call owns them, whatever is said of an element. Conditions: none. -/
import Derived.Test.YtmommicmblfibaaGreatJMeetP8
import Derived.Test.YtmommicmblfibaaGreatJCross5
import Derived.Test.YtmommicmblfibaaGreatJBits
import Derived.Test.YtmommicmblfibaaGreatJRef3
import Derived.Shelf.SlSortCmp.InsertionK
set_option maxRecDepth 100000
namespace Go.Proofs.YtmommicmblfibaaGreat
open Go.RowKit
theorem QB_24 {x : Int} (h0 : -8388607 ≤ x) (h1 : x ≤ 8388607) : QB (x : Rat) 1 := QB_int x 1 (len_le (by omega) (by rw [Nat.pow_one]; omega)) (by omega)
theorem area_int (ax ay cx cy dx dy : Int) : areaQ (cx : Rat) (cy : Rat) (dx : Rat) (dy : Rat) (ax : Rat) (ay : Rat) = ((crossZ (dx - cx) (dy - cy) (ax - cx) (ay - cy) : Int) : Rat) := by
 rw [areaQ_eq]; unfold crossZ; simp only [Rat.intCast_sub, Rat.intCast_mul]
theorem share_qb {ax ay bx b_y cx cy dx dy : Int} (h1 : fitB ax ay = true ∧ fitB bx b_y = true) (h2 : fitB cx cy = true ∧ fitB dx dy = true) {p q : Rat}
  (hp : areaQ (cx : Rat) (cy : Rat) (dx : Rat) (dy : Rat) (ax : Rat) (ay : Rat) = p) (hq : areaQ (cx : Rat) (cy : Rat) (dx : Rat) (dy : Rat) (bx : Rat) (b_y : Rat) = q) (ne : cmpQ p q ≠ 0) : p - q ≠ 0 ∧ QB (p / (p - q)) 2 := by
 have i1 := (fitB_iff _ _).1 h1.1
 have i2 := (fitB_iff _ _).1 h1.2
 have i3 := (fitB_iff _ _).1 h2.1
 have i4 := (fitB_iff _ _).1 h2.2
 have ne2 : p - q ≠ 0 := fun e => ne (cmpQ_zero.2 (by grind))
 refine ⟨ne2, ?_⟩
 rw [area_int] at hp hq
 have b1 := cross24 (show In24 (dx - cx) by unfold In24; omega) (show In24 (dy - cy) by unfold In24; omega) (show In24 (ax - cx) by unfold In24; omega) (show In24 (ay - cy) by unfold In24; omega)
 have b2 := cross24 (show In24 (dx - cx) by unfold In24; omega) (show In24 (dy - cy) by unfold In24; omega) (show In24 (bx - cx) by unfold In24; omega) (show In24 (b_y - cy) by unfold In24; omega)
 generalize crossZ (dx - cx) (dy - cy) (ax - cx) (ay - cy) = u at *
 generalize crossZ (dx - cx) (dy - cy) (bx - cx) (b_y - cy) = v at *
 have e : p - q = ((u - v : Int) : Rat) := by rw [← hp, ← hq, Rat.intCast_sub]
 rw [e, ← hp]
 refine QB_quot (fun h => ne2 (by rw [e, h]; rfl)) (len_word (by omega)) (len_word (by omega)) (by omega)
theorem endsQ_mem {ax ay bx b_y cx cy dx dy : Rat} {p : Rat × Rat} (h : p ∈ endsQ ax ay bx b_y cx cy dx dy) : p = (ax, ay) ∨ p = (bx, b_y) ∨ p = (cx, cy) ∨ p = (dx, dy) := by
 unfold endsQ at h
 simp only [List.mem_append] at h
 have f : ∀ (c : Prop) [Decidable c] (q : Rat × Rat), p ∈ (if c then [q] else []) → p = q := fun c _ q h => by
  split at h <;> simp at h
  exact h
 rcases h with ((h | h) | h) | h
 ·exact .inl (f _ _ h)
 ·exact .inr (.inl (f _ _ h))
 ·exact .inr (.inr (.inl (f _ _ h)))
 ·exact .inr (.inr (.inr (f _ _ h)))
theorem getD_mem {α : Type} {l : List α} {i : Nat} {d : α} (h : i < l.length) : l.getD i d ∈ l := by
 rw [List.getD_eq_getElem?_getD, List.getElem?_eq_getElem h]; exact List.getElem_mem _
theorem rmeet_qb {ax ay bx b_y cx cy dx dy : Int} {p : Rat × Rat} (h : p ∈ rmeetQ ax ay bx b_y cx cy dx dy) : QB p.1 7 ∧ QB p.2 7 := by
 unfold rmeetQ at h
 split at h
 ·next hs =>
  obtain ⟨h1, h2⟩ := hs
  rw [Bool.and_eq_true] at h1 h2
  have i1 := (fitB_iff _ _).1 h1.1
  have i2 := (fitB_iff _ _).1 h1.2
  have i3 := (fitB_iff _ _).1 h2.1
  have i4 := (fitB_iff _ _).1 h2.2
  have qa := QB_24 i1.1 i1.2.1
  have qa2 := QB_24 i1.2.2.1 i1.2.2.2
  have qb := QB_24 i2.1 i2.2.1
  have qb2 := QB_24 i2.2.2.1 i2.2.2.2
  have qc := QB_24 i3.1 i3.2.1
  have qc2 := QB_24 i3.2.2.1 i3.2.2.2
  have qd := QB_24 i4.1 i4.2.1
  have qd2 := QB_24 i4.2.2.1 i4.2.2.2
  split at h
  ·simp at h
  ·split at h
   ·next hc =>
    have qf := (share_qb h1 h2 rfl rfl hc).2
    unfold lineQ at h
    split at h
    ·simp only [List.mem_singleton] at h
     subst h
     exact ⟨(qa.add (qf.mul (qb.sub qa))).mono (by omega), (qa2.add (qf.mul (qb2.sub qa2))).mono (by omega)⟩
    ·simp at h
   ·have hm : p ∈ endsQ (ax : Rat) (ay : Rat) (bx : Rat) (b_y : Rat) (cx : Rat) (cy : Rat) (dx : Rat) (dy : Rat) := by
     refine rowQ_mem ?_
     unfold ends2 at h
     split at h
     ·next hl =>
      simp only [List.mem_cons, List.not_mem_nil, or_false] at h
      rcases h with h | h
      ·rw [h]; exact getD_mem (by omega)
      ·rw [h]; exact getD_mem (by omega)
     ·exact h
    rcases endsQ_mem hm with rfl | rfl | rfl | rfl
    ·exact ⟨qa.mono (by omega), qa2.mono (by omega)⟩
    ·exact ⟨qb.mono (by omega), qb2.mono (by omega)⟩
    ·exact ⟨qc.mono (by omega), qc2.mono (by omega)⟩
    ·exact ⟨qd.mono (by omega), qd2.mono (by omega)⟩
 ·simp at h
theorem meet_qb {ax ay bx b_y cx cy dx dy : Int} {p : Rat × Rat} (h : p ∈ meetQ ax ay bx b_y cx cy dx dy) : QB p.1 7 ∧ QB p.2 7 := rmeet_qb (by rw [← meetQ_eq]; exact h)
abbrev SegZ := (Int × Int) × (Int × Int)
def cutRow (p q : Rat × Rat) (M : SegZ → List (Rat × Rat)) (l : List SegZ) : List (Rat × Rat) := [p, q] ++ l.flatMap M
theorem cutRow_succ (p q : Rat × Rat) (M : SegZ → List (Rat × Rat)) {l : List SegZ} {j : Nat} {t : SegZ} (h : l[j]? = some t) : cutRow p q M (l.take (j + 1)) = cutRow p q M (l.take j) ++ M t := by
 unfold cutRow
 rw [List.take_add_one, h, Option.toList_some, List.flatMap_append]
 simp
theorem cutRow_len (p q : Rat × Rat) (M : SegZ → List (Rat × Rat)) (hM : ∀ t, (M t).length ≤ 2) : ∀ l : List SegZ, (cutRow p q M l).length ≤ 2 + 2 * l.length
 | [] => by simp [cutRow]
 | t :: l => by
  have h := cutRow_len p q M hM l
  have k := hM t
  unfold cutRow at *
  simp only [List.flatMap_cons, List.length_append, List.length_cons, List.length_nil] at *
  omega
theorem cutRow_mem {p q r : Rat × Rat} {M : SegZ → List (Rat × Rat)} {l : List SegZ} (h : r ∈ cutRow p q M l) : r = p ∨ r = q ∨ ∃ t, r ∈ M t := by
 unfold cutRow at h
 simp only [List.mem_append, List.mem_cons, List.not_mem_nil, or_false, List.mem_flatMap] at h
 rcases h with (h | h) | ⟨t, -, h⟩
 ·exact .inl h
 ·exact .inr (.inl h)
 ·exact .inr (.inr ⟨t, h⟩)
theorem ends2_len (l : List (Rat × Rat)) : (ends2 l).length ≤ 2 := by
 unfold ends2
 split
 ·simp
 ·omega
theorem rmeet_len (ax ay bx b_y cx cy dx dy : Int) : (rmeetQ ax ay bx b_y cx cy dx dy).length ≤ 2 := by
 unfold rmeetQ
 split
 ·split
  ·simp
  ·split
   ·exact Nat.le_trans (line_le _ _ _ _ _ _ _ _ _) (by omega)
   ·exact ends2_len _
 ·simp
def meetW (ax ay bx b_y : Int) (t : SegZ) : List (Rat × Rat) := meetQ ax ay bx b_y t.1.1 t.1.2 t.2.1 t.2.2
theorem meetW_len (ax ay bx b_y : Int) (t : SegZ) : (meetW ax ay bx b_y t).length ≤ 2 := by unfold meetW; rw [meetQ_eq]; exact rmeet_len _ _ _ _ _ _ _ _
def cutAll (ax ay bx b_y : Int) (l : List SegZ) : List (Rat × Rat) := cutRow ((ax : Rat), (ay : Rat)) ((bx : Rat), (b_y : Rat)) (meetW ax ay bx b_y) l
theorem cutAll_len (ax ay bx b_y : Int) (l : List SegZ) : (cutAll ax ay bx b_y l).length ≤ 2 + 2 * l.length := cutRow_len _ _ _ (meetW_len _ _ _ _) l
theorem cutAll_qb {ax ay bx b_y : Int} {l : List SegZ} (h : (fitB ax ay && fitB bx b_y) = true) : ∀ p ∈ cutAll ax ay bx b_y l, QB p.1 7 ∧ QB p.2 7 := by
 intro p hp
 rw [Bool.and_eq_true] at h
 have i1 := (fitB_iff _ _).1 h.1
 have i2 := (fitB_iff _ _).1 h.2
 rcases cutRow_mem hp with rfl | rfl | ⟨t, ht⟩
 ·exact ⟨(QB_24 (by omega) (by omega)).mono (by omega), (QB_24 (by omega) (by omega)).mono (by omega)⟩
 ·exact ⟨(QB_24 (by omega) (by omega)).mono (by omega), (QB_24 (by omega) (by omega)).mono (by omega)⟩
 ·exact meet_qb ht
def cutsQ (ax ay bx b_y : Int) (l : List SegZ) : List (Rat × Rat) :=
 if (fitB ax ay && fitB bx b_y) = true then (if aheadB bx b_y ax ay = true then (rowQ (cutAll ax ay bx b_y l)).reverse else rowQ (cutAll ax ay bx b_y l)) else []
theorem spotCmp_ahead (ax ay bx b_y : Int) : decide (spotCmp (ax : Rat) (ay : Rat) (bx : Rat) (b_y : Rat) ≤ 0) = !aheadB bx b_y ax ay := by
 have e1 : ∀ x y : Int, ((x : Rat) < (y : Rat)) ↔ x < y := fun x y => Rat.intCast_lt_intCast
 have e2 : ∀ x y : Int, ((x : Rat) = (y : Rat)) ↔ x = y := fun x y => Rat.intCast_inj
 unfold spotCmp cmpQ aheadB
 simp only [e1]
 by_cases h1 : ax < bx
 ·have h2 : ¬ bx < ax := by omega
  have h3 : ¬ bx = ax := by omega
  simp [h1, h2, h3]
 ·by_cases h2 : bx < ax
  ·simp [h1, h2]
  ·have h3 : bx = ax := by omega
   by_cases h4 : ay < b_y
   ·have h5 : ¬ b_y < ay := by omega
    simp [h3, h4, h5]
   ·by_cases h5 : b_y < ay
    ·simp [h3, h4, h5]
    ·simp [h3, h4, h5]
theorem rev_step {l : List (Rat × Rat)} {i : Nat} {p : Rat × Rat} (h : l[i]? = some p) : (l.drop i).reverse = (l.drop (i + 1)).reverse ++ [p] := by
 have hi := (List.getElem?_eq_some_iff.1 h).1
 rw [List.getElem?_eq_getElem hi] at h
 injection h with h
 rw [List.drop_eq_getElem_cons hi, List.reverse_cons, h]
def SegsR (w : World) (v : Value) (l : List SegZ) : Prop :=
 ∃ A c, v = .slice A l.length c ∧ l.length ≤ c ∧ c ≤ 9223372036854775807 ∧
  (0 < l.length → ∃ b o, A = some ⟨b, o, none⟩ ∧ ∀ i s, l[i]? = some s → (w.cell? ⟨b, o + i * 4, none⟩ = some (.int .i64 s.1.1) ∧ w.cell? ⟨b, o + i * 4 + 1, none⟩ = some (.int .i64 s.1.2) ∧ w.cell? ⟨b, o + i * 4 + 2, none⟩ = some (.int .i64 s.2.1) ∧ w.cell? ⟨b, o + i * 4 + 3, none⟩ = some (.int .i64 s.2.2)) ∧ In64 s.1.1 s.1.2 ∧ In64 s.2.1 s.2.2)
theorem SegsR.grew {w w' : World} {v : Value} {l : List SegZ} (h : SegsR w v l) (g : Grew w w') : SegsR w' v l := by
 obtain ⟨A, c, e, h1, h2, h3⟩ := h
 refine ⟨A, c, e, h1, h2, fun h0 => ?_⟩
 obtain ⟨b, o, e, he⟩ := h3 h0
 refine ⟨b, o, e, fun i s hs => ?_⟩
 obtain ⟨⟨k0, k1, k2, k3⟩, k4⟩ := he i s hs
 exact ⟨⟨g.cell k0, g.cell k1, g.cell k2, g.cell k3⟩, k4⟩
structure Ordr {V : Type} (cf : V → V → Int) (lt : V → V → Prop) : Prop where
 neg : ∀ x y, cf x y < 0 ↔ lt x y
 zero : ∀ x y, cf x y = 0 ↔ x = y
 trans : ∀ x y z, lt x y → lt y z → lt x z
 tri : ∀ x y, lt x y ∨ x = y ∨ lt y x
 irr : ∀ x y, lt x y → lt y x → False
section
variable {V : Type} {cf : V → V → Int} {lt : V → V → Prop}
def stepG (cf : V → V → Int) (p : V) (s : List V × Bool) (o : V) : List V × Bool := (s.1 ++ (if cf p o < 0 ∧ s.2 = false then [p] else []) ++ [o], s.2 || decide (cf p o ≤ 0))
def putG (cf : V → V → Int) (p : V) (out : List V) : List V := let s := out.foldl (stepG cf p) ([], false); if s.2 then s.1 else s.1 ++ [p]
def rowG (cf : V → V → Int) (l : List V) : List V := l.foldl (fun out p => putG cf p out) []
theorem rowG_succ (l : List V) (j : Nat) (p : V) (h : l[j]? = some p) : rowG cf (l.take (j + 1)) = putG cf p (rowG cf (l.take j)) := by
 unfold rowG
 rw [List.take_add_one, h, Option.toList_some, List.foldl_append]; rfl
theorem putG_fold (p : V) (out a : List V) (b : Bool) (h : out.foldl (stepG cf p) ([], false) = (a, b)) : putG cf p out = if b = true then a else a ++ [p] := by
 unfold putG; rw [h]
theorem foldG_succ (p : V) (out : List V) (m : Nat) (q : V) (h : out[m]? = some q) (s : List V × Bool) : (out.take (m + 1)).foldl (stepG cf p) s = stepG cf p ((out.take m).foldl (stepG cf p) s) q := by
 rw [List.take_add_one, h, Option.toList_some, List.foldl_append]; rfl
theorem stepG_lt {p q : V} (a : List V) (h : cf p q < 0) : stepG cf p (a, false) q = (a ++ [p] ++ [q], true) := by
 unfold stepG
 have h1 : cf p q ≤ 0 := by omega
 simp [h, h1]
theorem stepG_in {p q : V} (a : List V) : stepG cf p (a, true) q = (a ++ [q], true) := by unfold stepG; simp
theorem stepG_eq {p q : V} (a : List V) (b : Bool) (h : cf p q = 0) : stepG cf p (a, b) q = (a ++ [q], true) := by unfold stepG; simp [h]
theorem stepG_gt {p q : V} (a : List V) (b : Bool) (h : 0 < cf p q) : stepG cf p (a, b) q = (a ++ [q], b) := by
 unfold stepG
 have h1 : ¬ cf p q < 0 := by omega
 have h2 : ¬ cf p q ≤ 0 := by omega
 simp [h1, h2]
def insG (cf : V → V → Int) (p : V) : List V → List V
 | [] => [p]
 | o :: os => if cf p o < 0 then p :: o :: os else if cf p o = 0 then o :: os else o :: insG cf p os
theorem foldG_in (p : V) : ∀ (os a : List V), os.foldl (stepG cf p) (a, true) = (a ++ os, true)
 | [], a => by simp
 | o :: os, a => by rw [List.foldl_cons, stepG_in, foldG_in p os]; simp
theorem foldG_out (p : V) : ∀ (os a : List V), ∃ u b, os.foldl (stepG cf p) (a, false) = (u, b) ∧ (if b = true then u else u ++ [p]) = a ++ insG cf p os
 | [], a => ⟨a, false, rfl, by simp [insG]⟩
 | o :: os, a => by
  have e : (o :: os).foldl (stepG cf p) (a, false) = os.foldl (stepG cf p) (stepG cf p (a, false) o) := rfl
  rw [e]
  rcases Int.lt_trichotomy (cf p o) 0 with h | h | h
  ·rw [stepG_lt a h, foldG_in]
   exact ⟨_, _, rfl, by simp [insG, h]⟩
  ·rw [stepG_eq a false h, foldG_in]
   exact ⟨_, _, rfl, by simp [insG, h]⟩
  ·rw [stepG_gt a false h]
   obtain ⟨u, b, h3, h4⟩ := foldG_out p os (a ++ [o])
   have h1 : ¬ cf p o < 0 := by omega
   have h2 : ¬ cf p o = 0 := by omega
   exact ⟨u, b, h3, by rw [h4]; simp [insG, h1, h2]⟩
theorem putG_ins (p : V) (os : List V) : putG cf p os = insG cf p os := by
 obtain ⟨u, b, h3, h4⟩ := foldG_out (cf := cf) p os []
 rw [putG_fold p os u b h3, h4]; rfl
theorem insG_len (p : V) : ∀ os : List V, (insG cf p os).length ≤ os.length + 1
 | [] => by simp [insG]
 | o :: os => by
  have := insG_len p os
  unfold insG
  split
  ·simp
  ·split
   ·simp
   ·simp only [List.length_cons]; omega
theorem rowG_fold_len : ∀ (l s : List V), (l.foldl (fun out p => putG cf p out) s).length ≤ s.length + l.length
 | [], s => by simp
 | p :: l, s => by
  have h1 := rowG_fold_len l (putG cf p s)
  have h2 := insG_len (cf := cf) p s
  rw [← putG_ins] at h2
  simp only [List.foldl_cons, List.length_cons]
  omega
theorem rowG_len (l : List V) : (rowG cf l).length ≤ l.length := by
 have := rowG_fold_len (cf := cf) l []
 simpa [rowG] using this
theorem stepG_len (p : V) (s : List V × Bool) (o : V) : (stepG cf p s o).1.length + (if (stepG cf p s o).2 = true then 0 else 1) ≤ s.1.length + (if s.2 = true then 0 else 1) + 1 := by
 obtain ⟨a, b⟩ := s
 rcases Int.lt_trichotomy (cf p o) 0 with h | h | h
 ·cases b
  ·rw [stepG_lt a h]; simp
  ·rw [stepG_in a]; simp
 ·rw [stepG_eq a b h]; simp
 ·rw [stepG_gt a b h]; simp; omega
theorem stepG_fold_len (p : V) : ∀ (os : List V) (s : List V × Bool), (os.foldl (stepG cf p) s).1.length + (if (os.foldl (stepG cf p) s).2 = true then 0 else 1) ≤ s.1.length + (if s.2 = true then 0 else 1) + os.length
 | [], _ => Nat.le_refl _
 | o :: os, s => by
  have h1 := stepG_fold_len p os (stepG cf p s o)
  have h2 := stepG_len (cf := cf) p s o
  rw [List.foldl_cons, List.length_cons]
  omega
theorem insG_mem (H : Ordr cf lt) {p q : V} : ∀ {os : List V}, q ∈ insG cf p os ↔ q = p ∨ q ∈ os
 | [] => by simp [insG]
 | o :: os => by
  unfold insG
  by_cases h : cf p o < 0
  ·rw [if_pos h]; simp
  ·rw [if_neg h]
   by_cases k : cf p o = 0
   ·rw [if_pos k]
    have := (H.zero _ _).1 k
    subst this
    simp
   ·rw [if_neg k, List.mem_cons, insG_mem H]
    simp only [List.mem_cons]
    constructor
    ·rintro (h | h | h) <;> simp [h]
    ·rintro (h | h | h) <;> simp [h]
theorem insG_sorted (H : Ordr cf lt) {p : V} : ∀ {os : List V}, os.Pairwise lt → (insG cf p os).Pairwise lt
 | [], _ => by simp [insG]
 | o :: os, hs => by
  obtain ⟨h1, h2⟩ := List.pairwise_cons.1 hs
  unfold insG
  by_cases h : cf p o < 0
  ·rw [if_pos h]
   have hl := (H.neg _ _).1 h
   refine List.pairwise_cons.2 ⟨fun q hq => ?_, hs⟩
   rcases List.mem_cons.1 hq with rfl | hq
   ·exact hl
   ·exact H.trans _ _ _ hl (h1 q hq)
  ·rw [if_neg h]
   by_cases k : cf p o = 0
   ·rw [if_pos k]; exact hs
   ·rw [if_neg k]
    refine List.pairwise_cons.2 ⟨fun q hq => ?_, insG_sorted H h2⟩
    rcases (insG_mem H).1 hq with rfl | hq
    ·rcases H.tri o q with g | g | g
     ·exact g
     ·exact absurd ((H.zero _ _).2 g.symm) k
     ·exact absurd ((H.neg _ _).2 g) h
    ·exact h1 q hq
theorem rowG_fold (H : Ordr cf lt) (l : List V) : ∀ s : List V, s.Pairwise lt → (l.foldl (fun out p => putG cf p out) s).Pairwise lt ∧ ∀ q, q ∈ l.foldl (fun out p => putG cf p out) s ↔ q ∈ l ∨ q ∈ s := by
 induction l with
 | nil => intro s hs; exact ⟨hs, fun q => by simp⟩
 | cons p l ih =>
  intro s hs
  have h1 := ih (putG cf p s) (by rw [putG_ins]; exact insG_sorted H hs)
  refine ⟨h1.1, fun q => ?_⟩
  rw [List.foldl_cons, h1.2 q, putG_ins, insG_mem H, List.mem_cons]
  constructor
  ·rintro (h | h | h) <;> simp [h]
  ·rintro ((h | h) | h) <;> simp [h]
theorem rowG_sorted (H : Ordr cf lt) (l : List V) : (rowG cf l).Pairwise lt := (rowG_fold H l [] List.Pairwise.nil).1
theorem mem_rowG (H : Ordr cf lt) {l : List V} {q : V} : q ∈ rowG cf l ↔ q ∈ l := by
 have := (rowG_fold H l [] List.Pairwise.nil).2 q
 simpa [rowG] using this
theorem extG (H : Ordr cf lt) : ∀ {S T : List V}, S.Pairwise lt → T.Pairwise lt → (∀ q, q ∈ S ↔ q ∈ T) → S = T
 | [], [], _, _, _ => rfl
 | [], t :: T, _, _, h => absurd ((h t).2 List.mem_cons_self) (by simp)
 | r :: S, [], _, _, h => absurd ((h r).1 List.mem_cons_self) (by simp)
 | r :: S, t :: T, hr, ht, h => by
  have e : r = t := by
   have h1 := (h r).1 List.mem_cons_self
   have h2 := (h t).2 List.mem_cons_self
   rw [List.mem_cons] at h1 h2
   rcases h1 with h1 | h1
   ·exact h1
   ·rcases h2 with h2 | h2
    ·exact h2.symm
    ·exact (H.irr _ _ (List.rel_of_pairwise_cons ht h1) (List.rel_of_pairwise_cons hr h2)).elim
  subst e
  have n1 : r ∉ S := fun k => H.irr _ _ (List.rel_of_pairwise_cons hr k) (List.rel_of_pairwise_cons hr k)
  have n2 : r ∉ T := fun k => H.irr _ _ (List.rel_of_pairwise_cons ht k) (List.rel_of_pairwise_cons ht k)
  have hq : ∀ q, q ∈ S ↔ q ∈ T := fun q => by
   have := h q
   rw [List.mem_cons, List.mem_cons] at this
   constructor
   ·intro k
    rcases this.1 (.inr k) with e | e
    ·rw [e] at k; exact absurd k n1
    ·exact e
   ·intro k
    rcases this.2 (.inr k) with e | e
    ·rw [e] at k; exact absurd k n2
    ·exact e
  rw [extG H (List.Pairwise.of_cons hr) (List.Pairwise.of_cons ht) hq]
theorem takeG_snoc {l : List V} {j : Nat} {p : V} (h : l[j]? = some p) : l.take (j + 1) = l.take j ++ [p] := by rw [List.take_add_one, h]; rfl
theorem setG_take {r : List V} {n : Nat} {q : V} (h : n < r.length) : (r.set n q).take (n + 1) = r.take n ++ [q] := by
 rw [takeG_snoc (p := q) (by rw [List.getElem?_set_self h])]
 congr 1
 apply List.ext_getElem?
 intro i
 simp only [List.getElem?_take]
 split
 ·rw [List.getElem?_set_ne (by omega)]
 ·rfl
def cstepG [DecidableEq V] (s : List V × Option V) (p : V) : List V × Option V := (if s.2 = some p then s.1 else s.1 ++ [p], some p)
def compG [DecidableEq V] (l : List V) : List V := (l.foldl cstepG ([], none)).1
variable [DecidableEq V]
theorem compG_snoc (l : List V) (p q : V) : compG (l ++ [p] ++ [q]) = if p = q then compG (l ++ [p]) else compG (l ++ [p]) ++ [q] := by
 have h : ∀ s, ((l ++ [p]).foldl cstepG s).2 = some p := fun s => by rw [List.foldl_append]; rfl
 have h := h ([], none)
 unfold compG
 rw [List.foldl_append (l := l ++ [p])]
 simp only [List.foldl_cons, List.foldl_nil]
 unfold cstepG at h ⊢
 rw [h]
 simp only [Option.some.injEq]
theorem compG_one (p : V) : compG [p] = [p] := by simp [compG, cstepG]
theorem compG_take {l : List V} {j : Nat} {p q : V} (hp : l[j]? = some p) (hq : l[j + 1]? = some q) : compG (l.take (j + 2)) = if p = q then compG (l.take (j + 1)) else compG (l.take (j + 1)) ++ [q] := by
 rw [takeG_snoc hq, takeG_snoc hp, compG_snoc]
theorem compG_short {l : List V} (h : l.length < 2) : compG l = l := by
 match l, h with
 | [], _ => rfl
 | [p], _ => exact compG_one p
theorem compG_fold (l : List V) : ∀ s : List V × Option V, (∀ p, s.2 = some p → p ∈ s.1) → ∀ q, q ∈ (l.foldl cstepG s).1 ↔ q ∈ l ∨ q ∈ s.1 := by
 induction l with
 | nil => intro s _ q; simp
 | cons a l ih =>
  intro s hs q
  rw [List.foldl_cons, ih (cstepG s a) (by
   intro p hp
   unfold cstepG at hp ⊢
   simp only [Option.some.injEq] at hp
   subst hp
   simp only
   split
   ·next e => exact hs _ e
   ·simp), List.mem_cons]
  unfold cstepG
  simp only
  split
  ·next e =>
   have := hs _ e
   constructor
   ·rintro (h | h) <;> simp [h]
   ·rintro ((h | h) | h)
    ·rw [h]; exact .inr this
    ·exact .inl h
    ·exact .inr h
  ·rw [List.mem_append, List.mem_singleton]
   constructor
   ·rintro (h | h | h) <;> simp [h]
   ·rintro ((h | h) | h) <;> simp [h]
theorem mem_compG {l : List V} {q : V} : q ∈ compG l ↔ q ∈ l := by
 have := compG_fold l ([], none) (by simp) q
 simpa [compG] using this
theorem compG_sorted (H : Ordr cf lt) (l : List V) : ∀ s : List V × Option V, l.Pairwise (fun p q => ¬ lt q p) → s.1.Pairwise lt → (∀ p, s.2 = some p → (∀ q ∈ s.1, q = p ∨ lt q p) ∧ ∀ r ∈ l, ¬ lt r p) → (s.2 = none → s.1 = []) → (l.foldl cstepG s).1.Pairwise lt := by
 have hng : ∀ p q, ¬ lt q p → p ≠ q → lt p q := fun p q h n => by
  rcases H.tri p q with k | k | k
  ·exact k
  ·exact absurd k n
  ·exact absurd k h
 induction l with
 | nil => intro s _ h _ _; exact h
 | cons a l ih =>
  intro s hl hs hp hn
  rw [List.foldl_cons]
  have ha := (List.pairwise_cons.1 hl).1
  have key : ∀ x ∈ s.1, ¬ s.2 = some a → lt x a := by
   intro x hx e
   rcases h2 : s.2 with _ | p
   ·rw [hn h2] at hx; simp at hx
   ·obtain ⟨k1, k2⟩ := hp p h2
    have k4 : lt p a := hng _ _ (k2 a List.mem_cons_self) (fun e2 => e (by rw [h2, e2]))
    rcases k1 x hx with rfl | k
    ·exact k4
    ·exact H.trans _ _ _ k k4
  refine ih _ (List.pairwise_cons.1 hl).2 ?_ ?_ ?_
  ·unfold cstepG
   simp only
   split
   ·exact hs
   ·next e =>
    refine List.pairwise_append.2 ⟨hs, by simp, fun x hx y hy => ?_⟩
    rw [List.mem_singleton] at hy
    subst hy
    exact key x hx e
  ·intro p h
   unfold cstepG at h ⊢
   simp only [Option.some.injEq] at h
   subst h
   refine ⟨fun q hq => ?_, ha⟩
   simp only at hq
   split at hq
   ·next e => exact (hp _ e).1 q hq
   ·next e =>
    rw [List.mem_append, List.mem_singleton] at hq
    rcases hq with hq | hq
    ·exact .inr (key q hq e)
    ·exact .inl hq
  ·intro h; unfold cstepG at h; simp at h
theorem compG_row (H : Ordr cf lt) {l m : List V} (hs : m.Pairwise (fun p q => ¬ lt q p)) (hm : ∀ q, q ∈ m ↔ q ∈ l) : compG m = rowG cf l :=
 extG H (compG_sorted H m ([], none) hs List.Pairwise.nil (by simp) (by simp)) (rowG_sorted H l) fun q => by rw [mem_compG, mem_rowG H, hm]
end
structure Says {V : Type} (k : Nat) (R : World → Array Value → V → Prop) : Prop where
 size : ∀ {w : World} {us : Array Value} {x : V}, R w us x → us.size = k
 one : ∀ {w : World} {us : Array Value} {x : V}, R w us x → ∀ u ∈ us.toList, u.oneCell' = true
 noint : ∀ {w : World} {us : Array Value} {x : V}, R w us x → ∀ u ∈ us.toList, NoInt u
 kept : ∀ {w w' : World} {us : Array Value} {x : V}, R w us x → Keeps w w' → R w' us x
def CellsR {V : Type} (k : Nat) (R : World → Array Value → V → Prop) (w : World) (c : Nat → Option Value) (x : V) : Prop := ∃ us : Array Value, (∀ j, j < k → c j = us[j]?) ∧ R w us x
def RowK {V : Type} (k : Nat) (R : World → Array Value → V → Prop) (w : World) (v : Value) (l : List V) : Prop :=
 ∃ A c, v = .slice A l.length c ∧ l.length ≤ c ∧ c ≤ 9223372036854775807 ∧
  (0 < l.length → ∃ b o, A = some ⟨b, o, none⟩ ∧ ∀ i x, l[i]? = some x → CellsR k R w (fun j => w.cell? ⟨b, o + (i * k + j), none⟩) x)
def OwnK {V : Type} (k : Nat) (R : World → Array Value → V → Prop) (e : TypeId) (w : World) (base : Nat) (v : Value) (l : List V) : Prop :=
 (v = .slice none 0 0 ∧ l = []) ∨ ∃ g cap cur, v = .slice (some ⟨g, 0, none⟩) l.length cap ∧ base ≤ g ∧ NoInts w g ∧ w.heap[g]? = some (.cells cur e (0, 0)) ∧ l.length ≤ cap ∧ cap ≤ maxLen ∧ cur.size = cap * k ∧
  ∀ i x, l[i]? = some x → CellsR k R w (fun j => cur[i * k + j]?) x
section
variable {V : Type} {k : Nat} {R : World → Array Value → V → Prop} {e : TypeId} {w w' : World} {base : Nat} {v : Value} {l : List V}
theorem idx_lt {i n k j : Nat} (hi : i < n) (hj : j < k) : i * k + j < n * k := by
 have := Nat.mul_le_mul_right k (show i + 1 ≤ n from hi)
 rw [Nat.add_mul, Nat.one_mul] at this
 omega
theorem CellsR.mono {c c' : Nat → Option Value} {x : V} (S : Says k R) (h : CellsR k R w c x) (hk : Keeps w w') (hc : ∀ j u, j < k → c j = some u → c' j = some u) : CellsR k R w' c' x := by
 obtain ⟨us, h1, h2⟩ := h
 refine ⟨us, fun j hj => ?_, S.kept h2 hk⟩
 have hs := S.size h2
 have := h1 j hj
 rw [Array.getElem?_eq_getElem (by omega)] at this ⊢
 exact hc j _ hj this
theorem RowK.grew (S : Says k R) (h : RowK k R w v l) (g : Grew w w') : RowK k R w' v l := by
 obtain ⟨A, c, hv, h1, h2, h3⟩ := h
 refine ⟨A, c, hv, h1, h2, fun hl => ?_⟩
 obtain ⟨b, o, hA, he⟩ := h3 hl
 exact ⟨b, o, hA, fun i p hp => (he i p hp).mono S g.keeps (fun j u _ hu => g.cell hu)⟩
theorem RowK.nil (k : Nat) (R : World → Array Value → V → Prop) (w : World) : RowK k R w (.slice none 0 0) [] := ⟨none, 0, rfl, by simp, by omega, by simp⟩
theorem OwnK.nil (k : Nat) (R : World → Array Value → V → Prop) (e : TypeId) (w : World) (base : Nat) : OwnK k R e w base (.slice none 0 0) ([] : List V) := .inl ⟨rfl, rfl⟩
theorem OwnK.row (h : OwnK k R e w base v l) : RowK k R w v l := by
 rcases h with ⟨rfl, rfl⟩ | ⟨g, cap, cur, rfl, -, -, hg, hn, hcm, -, hel⟩
 ·exact RowK.nil _ _ _
 ·refine ⟨_, cap, rfl, hn, by unfold maxLen at hcm; omega, fun hl => ⟨g, 0, rfl, fun i p hp => ?_⟩⟩
  obtain ⟨us, h1, h2⟩ := hel i p hp
  exact ⟨us, fun j hj => by dsimp only; rw [Nat.zero_add, cell_of_row w g _ cur e (0, 0) hg]; exact h1 j hj, h2⟩
theorem OwnK.grew (S : Says k R) (h : OwnK k R e w base v l) (g : Grew w w') : OwnK k R e w' base v l := by
 rcases h with h | ⟨gb, cap, cur, rfl, hbg, hN, hg, hn, hcm, hcs, hel⟩
 ·exact .inl h
 ·have hlt : gb < w.heap.size := by
   rcases Nat.lt_or_ge gb w.heap.size with h | h
   ·exact h
   ·rw [Array.getElem?_eq_none h] at hg; simp at hg
  have hb := g.below.block gb hlt
  refine .inr ⟨gb, cap, cur, rfl, hbg, fun p u hu => ?_, hb.trans hg, hn, hcm, hcs, fun i p hp => (hel i p hp).mono S g.keeps (fun _ _ _ h => h)⟩
  rw [World.cell?_of_block (w := w) hb] at hu
  exact hN p u hu
theorem OwnK.made (k : Nat) (R : World → Array Value → V → Prop) (e : TypeId) (w : World) (base cap : Nat) (hb : base ≤ w.heap.size) (hm : cap ≤ maxLen) (z : Array Value) (hz : ∀ u ∈ z, NoInt u) (hs : z.size = cap * k) :
  OwnK k R e (w.alloc (.cells z e)) base (.slice (some ⟨w.heap.size, 0, none⟩) 0 cap) ([] : List V) := by
 refine .inr ⟨w.heap.size, cap, z, rfl, hb, fun p u hu => ?_, heap_alloc_new w _, Nat.zero_le _, hm, hs, fun i x h => by simp at h⟩
 rw [cell_of_row _ w.heap.size p z e (0, 0) (heap_alloc_new w _)] at hu
 exact hz u (Array.mem_of_getElem? hu)
theorem OwnK.ownS (h : OwnK k R e w base v l) : ∃ xs, OwnS w base e k v l.length xs ∧ ∀ i x, l[i]? = some x → CellsR k R w (fun j => xs[i * k + j]?) x := by
 rcases h with ⟨rfl, rfl⟩ | ⟨g, cap, cur, rfl, hbg, hN, hg, hn, hcm, hcs, hel⟩
 ·exact ⟨[], OwnS.nil _ _ _ _, fun i x h => by simp at h⟩
 ·have hmul : l.length * k ≤ cap * k := Nat.mul_le_mul_right _ hn
  refine ⟨cur.toList.take (l.length * k), ⟨⟨by rw [List.length_take, Array.length_toList (xs := cur), hcs]; exact Nat.min_eq_left hmul, .inr ⟨g, cap, cur, rfl, hbg, hg, hn, hcm, hcs, rfl⟩⟩, ?_⟩, ?_⟩
  ·intro g' hg'
   simp only [Value.ownBlock, Option.some.injEq] at hg'
   subst hg'; exact hN
  ·intro i x hx
   obtain ⟨us, h1, h2⟩ := hel i x hx
   refine ⟨us, fun j hj => ?_, h2⟩
   have hi := (List.getElem?_eq_some_iff.1 hx).1
   have := idx_lt hi hj
   dsimp only
   rw [List.getElem?_take, if_pos (by omega), Array.getElem?_toList]
   exact h1 j hj
theorem OwnK.of_ownS {xs : List Value} (h : OwnS w base e k v l.length xs) (hel : ∀ i x, l[i]? = some x → CellsR k R w (fun j => xs[i * k + j]?) x) : OwnK k R e w base v l := by
 obtain ⟨⟨hx, ho⟩, hN⟩ := h
 rcases ho with ⟨rfl, h0⟩ | ⟨g, cap, cur, rfl, hbg, hg, hnc, hcm, hcs, htake⟩
 ·exact .inl ⟨rfl, List.eq_nil_of_length_eq_zero h0⟩
 ·refine .inr ⟨g, cap, cur, rfl, hbg, hN g rfl, hg, hnc, hcm, hcs, fun i x hx => ?_⟩
  obtain ⟨us, h1, h2⟩ := hel i x hx
  refine ⟨us, fun j hj => ?_, h2⟩
  have hi := (List.getElem?_eq_some_iff.1 hx).1
  have := idx_lt hi hj
  have h9 := h1 j hj
  dsimp only at h9 ⊢
  rw [← h9, ← htake, List.getElem?_take, if_pos (by omega), Array.getElem?_toList]
theorem OwnK.el {g o n cap : Nat} (h : OwnK k R e w base (.slice (some ⟨g, o, none⟩) n cap) l) {i : Nat} {x : V} (hx : l[i]? = some x) :
  o = 0 ∧ (∀ j, w.frozen? ⟨g, j, none⟩ = false) ∧ ∃ us, R w us x ∧ ∀ j, j < k → w.cell? ⟨g, o + i * k + j, none⟩ = us[j]? := by
 rcases h with ⟨h, -⟩ | ⟨g', cap', cur, hv, -, -, hg, -, -, -, hel⟩
 ·exact absurd h (by simp)
 injection hv with hv1 hv2 hv3
 injection hv1 with hv1
 injection hv1 with hv1 hv4
 subst hv1
 subst hv4
 obtain ⟨us, h1, h2⟩ := hel i x hx
 refine ⟨rfl, fun j => ?_, us, h2, fun j hj => ?_⟩
 ·unfold World.frozen?
  rw [hg]; simp
 ·rw [cell_of_row w g _ cur e (0, 0) hg, Nat.zero_add]; exact h1 j hj
theorem keepsK {g : Nat} (hN : NoInts w g) (hW : Wrote g w w') : Keeps w w' := by
 intro B K v N n h
 obtain ⟨A, c, hv, h1, h2, h4, h3⟩ := h
 refine ⟨A, c, hv, h1, h2, h4, fun hk => ?_⟩
 obtain ⟨b, off, hA, hc⟩ := h3 hk
 refine ⟨b, off, hA, fun i hi => ?_⟩
 refine hW.cell (hc i hi) fun e => ?_
 simp only at e
 subst e
 exact hN _ _ (hc i hi) K _ rfl
theorem holdsK {g : Nat} {cur : Array Value} (hg : w.heap[g]? = some (.cells cur e (0, 0))) : Go.Sort.Holds id w g 0 cur := by
 intro j hj
 refine ⟨?_, ?_⟩
 ·rw [Nat.zero_add, cell_of_row w g j cur e (0, 0) hg, Array.getElem?_eq_getElem hj, getElem!_pos cur _ hj]; rfl
 ·unfold World.frozen?
  rw [hg]; simp
theorem setK_block {g : Nat} (vs : List Value) : ∀ (w : World) (cur : Array Value) (s : Nat), w.heap[g]? = some (.cells cur e (0, 0)) → s + vs.length ≤ cur.size →
  ∃ cur', (w.setCells g s vs).heap[g]? = some (.cells cur' e (0, 0)) ∧ cur'.size = cur.size ∧ Wrote g w (w.setCells g s vs) ∧ ∀ t, cur'[t]? = if s ≤ t ∧ t < s + vs.length then vs[t - s]? else cur[t]? := by
 induction vs with
 | nil => intro w cur s hg hs; exact ⟨cur, hg, rfl, Wrote.refl _ _, fun t => by rw [if_neg (by simp only [List.length_nil]; omega)]⟩
 | cons u us ih =>
  intro w cur s hg hs
  simp only [List.length_cons] at hs
  have h1 : (w.setCell ⟨g, s, none⟩ u).heap[g]? = some (.cells (cur.setIfInBounds s u) e (0, 0)) := by
   rw [Go.Sort.setCell_eq]
   unfold Go.Sort.mapBlock
   simp only [Array.getElem?_modify, if_true, hg]
   rfl
  obtain ⟨cur', h2, h3, h4, h5⟩ := ih (w.setCell ⟨g, s, none⟩ u) _ (s + 1) h1 (by simp; omega)
  refine ⟨cur', h2, by rw [h3]; simp, ((Wrote.refl g w).setCell s u).trans h4, fun t => ?_⟩
  rw [h5 t, Array.getElem?_setIfInBounds]
  by_cases e1 : t = s
  ·subst e1
   have c1 : ¬ (t + 1 ≤ t ∧ t < t + 1 + us.length) := by omega
   have c2 : t ≤ t ∧ t < t + (u :: us).length := by simp only [List.length_cons]; omega
   have c3 : t < cur.size := by omega
   rw [if_neg c1, if_pos rfl, if_pos c3, if_pos c2, Nat.sub_self]
   rfl
  ·by_cases e2 : s + 1 ≤ t ∧ t < s + 1 + us.length
   ·have c2 : s ≤ t ∧ t < s + (u :: us).length := by simp only [List.length_cons]; omega
    rw [if_pos e2, if_pos c2, show t - s = (t - (s + 1)) + 1 by omega]
    rfl
   ·have c2 : ¬ (s ≤ t ∧ t < s + (u :: us).length) := by simp only [List.length_cons]; omega
    rw [if_neg e2, if_neg (fun h => e1 h.symm), if_neg c2]
theorem OwnK.split {g o n cap : Nat} (h : OwnK k R e w base (.slice (some ⟨g, o, none⟩) n cap) l) : o = 0 ∧ n = l.length ∧ base ≤ g ∧ NoInts w g ∧ (∃ cur, w.heap[g]? = some (.cells cur e (0, 0)) ∧ cur.size = cap * k ∧ ∀ i x, l[i]? = some x → CellsR k R w (fun j => cur[i * k + j]?) x) ∧ l.length ≤ cap ∧ cap ≤ maxLen := by
 rcases h with ⟨h, -⟩ | ⟨g', cap', cur, hv, hbg, hN, hg, hn, hcm, hcs, hel⟩
 ·exact absurd h (by simp)
 injection hv with hv1 hv2 hv3
 injection hv1 with hv1
 injection hv1 with hv1 hv4
 subst hv1
 subst hv4
 subst hv3
 exact ⟨rfl, hv2, hbg, hN, ⟨cur, hg, hcs, hel⟩, hn, hcm⟩
theorem OwnK.place (h : OwnK k R e w base v l) (hl : 0 < l.length) : ∃ g cap, v = .slice (some ⟨g, 0, none⟩) l.length cap ∧ l.length ≤ cap ∧ cap ≤ maxLen ∧ base ≤ g := by
 rcases h with ⟨-, rfl⟩ | ⟨g, cap, cur, hv, hbg, -, -, hn, hcm, -, -⟩
 ·simp at hl
 ·exact ⟨g, cap, hv, hn, hcm, hbg⟩
theorem OwnK.cur {g o n cap : Nat} (h : OwnK k R e w base (.slice (some ⟨g, o, none⟩) n cap) l) : ∃ cur : Array Value, w.heap[g]? = some (.cells cur e (0, 0)) ∧ cur.size = cap * k := by
 obtain ⟨-, -, -, -, ⟨cur, h1, h2, -⟩, -, -⟩ := h.split
 exact ⟨cur, h1, h2⟩
theorem OwnK.lt (h : OwnK k R e w base v l) {g : Nat} (hg : v.ownBlock = some g) : g < w.heap.size := by
 rcases h with ⟨rfl, -⟩ | ⟨g', cap, cur, rfl, -, -, hb, -⟩
 ·simp [Value.ownBlock] at hg
 ·simp only [Value.ownBlock, Option.some.injEq] at hg
  subst hg
  rcases Nat.lt_or_ge g' w.heap.size with h | h
  ·exact h
  ·rw [Array.getElem?_eq_none h] at hb; simp at hb
theorem OwnK.store {g o n cap i : Nat} {x : V} {us : Array Value} (S : Says k R) (h : OwnK k R e w base (.slice (some ⟨g, o, none⟩) n cap) l) (hi : i < n) (hR : R w us x) :
  OwnK k R e (w.setCells g (o + i * k) us.toList) base (.slice (some ⟨g, o, none⟩) n cap) (l.set i x) ∧ Keeps w (w.setCells g (o + i * k) us.toList) ∧ Wrote g w (w.setCells g (o + i * k) us.toList) ∧ base ≤ g := by
 obtain ⟨rfl, rfl, hbg, hN, ⟨cur, hg, hcs, hel⟩, hnc, hcm⟩ := h.split
 rw [Nat.zero_add]
 have hus := S.size hR
 have hmul : l.length * k ≤ cap * k := Nat.mul_le_mul_right _ hnc
 have hik : i * k + k ≤ l.length * k := by
  have := Nat.mul_le_mul_right k (show i + 1 ≤ l.length from hi)
  rwa [Nat.add_mul, Nat.one_mul] at this
 obtain ⟨cur', h1, h2, h3, h4⟩ := setK_block us.toList w cur (i * k) hg (by rw [Array.length_toList]; omega)
 have hK := keepsK hN h3
 generalize w.setCells g (i * k) us.toList = W at *
 refine ⟨.inr ⟨g, cap, cur', by rw [List.length_set], hbg, fun t u hu => ?_, h1, by rw [List.length_set]; exact hnc, hcm, h2.trans hcs, fun m y hy => ?_⟩, hK, h3, hbg⟩
 ·rw [cell_of_row W g t cur' e (0, 0) h1, h4] at hu
  split at hu
  ·exact S.noint hR u (List.mem_of_getElem? hu)
  ·exact hN t u (by rw [cell_of_row w g t cur e (0, 0) hg]; exact hu)
 ·rw [List.getElem?_set] at hy
  by_cases e1 : i = m
  ·subst e1
   rw [if_pos rfl, if_pos hi] at hy
   injection hy with hy
   subst hy
   refine ⟨us, fun j hj => ?_, S.kept hR hK⟩
   dsimp only
   rw [h4, if_pos ⟨by omega, by rw [Array.length_toList]; omega⟩, show i * k + j - i * k = j by omega, Array.getElem?_toList]
  ·rw [if_neg e1] at hy
   refine (hel m y hy).mono S hK fun j u hj hu => ?_
   rw [h4, if_neg (fun hc => ?_)]
   ·exact hu
   ·rw [Array.length_toList] at hc
    rcases Nat.lt_or_gt_of_ne e1 with hlt | hlt
    ·have := Nat.mul_le_mul_right k (show i + 1 ≤ m from hlt)
     rw [Nat.add_mul, Nat.one_mul] at this
     omega
    ·have := Nat.mul_le_mul_right k (show m + 1 ≤ i from hlt)
     rw [Nat.add_mul, Nat.one_mul] at this
     omega
theorem OwnK.clear {g o n cap i : Nat} (vs : List Value) (S : Says k R) (h : OwnK k R e w base (.slice (some ⟨g, o, none⟩) n cap) l) (hi : i ≤ n) (hs : i * k + vs.length ≤ n * k) (hvs : ∀ u ∈ vs, NoInt u) :
  OwnK k R e (w.setCells g (o + i * k) vs) base (.slice (some ⟨g, o, none⟩) i cap) (l.take i) ∧ Wrote g w (w.setCells g (o + i * k) vs) ∧ base ≤ g := by
 obtain ⟨rfl, rfl, hbg, hN, ⟨cur, hg, hcs, hel⟩, hnc, hcm⟩ := h.split
 rw [Nat.zero_add]
 have hmul : l.length * k ≤ cap * k := Nat.mul_le_mul_right _ hnc
 obtain ⟨cur', h1, h2, h3, h4⟩ := setK_block vs w cur (i * k) hg (by omega)
 have hK := keepsK hN h3
 generalize w.setCells g (i * k) vs = W at *
 have hlen : (l.take i).length = i := by rw [List.length_take]; omega
 refine ⟨.inr ⟨g, cap, cur', by rw [hlen], hbg, fun t u hu => ?_, h1, by omega, hcm, h2.trans hcs, fun m y hy => ?_⟩, h3, hbg⟩
 ·rw [cell_of_row W g t cur' e (0, 0) h1, h4] at hu
  split at hu
  ·exact hvs u (List.mem_of_getElem? hu)
  ·exact hN t u (by rw [cell_of_row w g t cur e (0, 0) hg]; exact hu)
 ·have hm : m < i := by
   have := (List.getElem?_eq_some_iff.1 hy).1
   omega
  rw [List.getElem?_take, if_pos hm] at hy
  refine (hel m y hy).mono S hK fun j u hj hu => ?_
  have := idx_lt hm hj
  rw [h4, if_neg (by omega)]; exact hu
end
end Go.Proofs.YtmommicmblfibaaGreat
