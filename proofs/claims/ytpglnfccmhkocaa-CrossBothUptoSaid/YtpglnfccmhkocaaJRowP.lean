/- Plain: the point that two ways have which are not along one another. Conditions: none. Rows of spots: what the document does with them, without a program; the type of a spot. Conditions: none. Plain: what the document answers where two ways meet; the same as the program's where they are not along one another. Conditions: none. Plain: the document's row is in order, each once, and holds what came in. Conditions: none. -/
import Derived.Test.YtpglnfccmhkocaaJCross6
import Derived.Test.YtpglnfccmhkocaaJR2a
namespace Go.Proofs.Ytpglnfccmhkocaa
open Go.RowKit

theorem scale_nonneg {f c : Rat} (h : 0 < c) : 0 ≤ f * c ↔ 0 ≤ f := by
  constructor
  · intro g
    refine Rat.not_lt.1 fun e => ?_
    have := Rat.mul_pos (show 0 < -f by grind) h
    grind
  · intro g
    exact Rat.mul_nonneg g (Rat.le_of_lt h)
theorem withinQ_iff {a b c : Rat} : withinQ a b c = true ↔ (a ≤ c ∧ c ≤ b) ∨ (b ≤ c ∧ c ≤ a) := by
  unfold withinQ midQ
  by_cases h : b < a
  · rw [if_pos h]
    simp only [Bool.and_eq_true, Bool.not_eq_true', decide_eq_false_iff_not]
    grind
  · rw [if_neg h]
    simp only [Bool.and_eq_true, Bool.not_eq_true', decide_eq_false_iff_not]
    grind
theorem within_param (a b f : Rat) : withinQ a b (a + f * (b - a)) = true ↔ a = b ∨ (0 ≤ f ∧ f ≤ 1) := by
  rw [withinQ_iff]
  by_cases h : a = b
  · subst h
    constructor
    · intro _; exact .inl rfl
    · intro _
      have : a + f * (a - a) = a := by grind
      rw [this]; exact .inl ⟨Rat.le_refl, Rat.le_refl⟩
  · rcases (show a < b ∨ b < a by grind) with g | g
    · have p : 0 < b - a := by grind
      have e1 := scale_nonneg (f := f) p
      have e2 := scale_nonneg (f := 1 - f) p
      have e3 : (1 - f) * (b - a) = (b - a) - f * (b - a) := by grind
      rw [e3] at e2
      generalize f * (b - a) = t at *
      grind
    · have p : 0 < a - b := by grind
      have e1 := scale_nonneg (f := f) p
      have e2 := scale_nonneg (f := 1 - f) p
      have e3 : (1 - f) * (a - b) = (a - b) + f * (b - a) := by grind
      have e4 : f * (a - b) = -(f * (b - a)) := by grind
      rw [e3] at e2
      rw [e4] at e1
      generalize f * (b - a) = t at *
      grind
theorem turn_param (ax ay bx b_y f : Rat) : turnQ ax ay bx b_y (ax + f * (bx - ax)) (ay + f * (b_y - ay)) = 0 := by
  rw [turnQ_eq, ← sgQ_zero]; congr 1; grind
/-- A point of a line is on the way just if its share is from 0 to 1. -/
theorem on_param (ax ay bx b_y f : Rat) (hv : ax ≠ bx ∨ ay ≠ b_y) : onQ ax ay bx b_y (ax + f * (bx - ax)) (ay + f * (b_y - ay)) = decide (0 ≤ f ∧ f ≤ 1) := by
  have h1 := within_param ax bx f
  have h2 := within_param ay b_y f
  unfold onQ
  rw [turn_param]
  by_cases h : 0 ≤ f ∧ f ≤ 1
  · rw [h1.2 (.inr h), h2.2 (.inr h), decide_eq_true h]; rfl
  · rw [decide_eq_false h]
    rcases hv with hv | hv
    · have : withinQ ax bx (ax + f * (bx - ax)) = false := Bool.eq_false_iff.2 fun e => by
        rcases h1.1 e with g | g
        · exact hv g
        · exact h g
      rw [this]; rfl
    · have : withinQ ay b_y (ay + f * (b_y - ay)) = false := Bool.eq_false_iff.2 fun e => by
        rcases h2.1 e with g | g
        · exact hv g
        · exact h g
      rw [this]; cases withinQ ax bx (ax + f * (bx - ax)) <;> rfl

theorem quot_mul {n d : Int} (hd : d ≠ 0) : ((n : Rat) / (d : Rat)) * (d : Rat) = (n : Rat) := by
  have h1 : (d : Rat) ≠ 0 := fun e => hd (by have e2 : (d : Rat) = ((0 : Int) : Rat) := e; exact Rat.intCast_inj.1 e2)
  grind
theorem share_q (n d : Int) (hd : d ≠ 0) : shareB n d = decide (0 ≤ (n : Rat) / (d : Rat) ∧ (n : Rat) / (d : Rat) ≤ 1) := by
  have h := quot_mul (n := n) hd
  generalize (n : Rat) / (d : Rat) = f at *
  unfold shareB
  by_cases g : d < 0
  · rw [if_pos g]
    have p : (0 : Rat) < -(d : Rat) := by
      have : (((0 : Int)) : Rat) < ((-d : Int) : Rat) := Rat.intCast_lt_intCast.2 (by omega)
      rw [Rat.intCast_neg] at this; exact this
    have e1 := scale_nonneg (f := f) p
    have e2 := scale_nonneg (f := 1 - f) p
    have e3 : f * -(d : Rat) = ((-n : Int) : Rat) := by rw [Rat.intCast_neg]; grind
    have e4 : (1 - f) * -(d : Rat) = ((n - d : Int) : Rat) := by rw [Rat.intCast_sub]; grind
    rw [e3] at e1
    rw [e4] at e2
    have z : ((0 : Int) : Rat) = 0 := rfl
    rw [← z, Rat.intCast_le_intCast] at e1 e2
    rw [z] at e1 e2
    rw [← Bool.decide_and]
    refine decide_eq_decide.2 ⟨fun k => ⟨e1.1 k.1, ?_⟩, fun k => ⟨e1.2 k.1, ?_⟩⟩
    · have := e2.1 (by omega); grind
    · have := e2.2 (by grind); omega
  · rw [if_neg g]
    have p : (0 : Rat) < (d : Rat) := by
      have : (((0 : Int)) : Rat) < ((d : Int) : Rat) := Rat.intCast_lt_intCast.2 (by omega)
      exact this
    have e1 := scale_nonneg (f := f) p
    have e2 := scale_nonneg (f := 1 - f) p
    have e4 : (1 - f) * (d : Rat) = ((d - n : Int) : Rat) := by rw [Rat.intCast_sub]; grind
    rw [h] at e1
    rw [e4] at e2
    have z : ((0 : Int) : Rat) = 0 := rfl
    rw [← z, Rat.intCast_le_intCast] at e1 e2
    rw [z] at e1 e2
    rw [← Bool.decide_and]
    refine decide_eq_decide.2 ⟨fun k => ⟨e1.1 k.1, ?_⟩, fun k => ⟨e1.2 k.1, ?_⟩⟩
    · have := e2.1 (by omega); grind
    · have := e2.2 (by grind); omega
end Go.Proofs.Ytpglnfccmhkocaa
namespace Go.Proofs.Ytpglnfccmhkocaa
open Go.RowKit

theorem info_spot : (Try.prog.info? 32).map (fun i => (i.zero, i.size, i.bytes)) = some (some (.agg #[.bool false, .slice none 0 0, .slice none 0 0, .bool false, .slice none 0 0, .slice none 0 0]), 6, 112) := by kernel_rfl
theorem zero_spot : ∀ u ∈ (Value.agg #[.bool false, .slice none 0 0, .slice none 0 0, .bool false, .slice none 0 0, .slice none 0 0]).cells, NoInt u := by
  intro u hu k x e
  subst e
  simp [Value.cells] at hu
theorem noint6 (b b' : Bool) (A C A' C' : Option Addr) (n c m d n' c' m' d' : Nat) : ∀ u ∈ #[Value.bool b, .slice A n c, .slice C m d, .bool b', .slice A' n' c', .slice C' m' d'].toList, NoInt u := by
  intro u hu
  simp at hu
  rcases hu with rfl | rfl | rfl | rfl | rfl | rfl <;> intro k x e <;> simp at e
theorem one6 (b b' : Bool) (A C A' C' : Option Addr) (n c m d n' c' m' d' : Nat) : ∀ u ∈ #[Value.bool b, .slice A n c, .slice C m d, .bool b', .slice A' n' c', .slice C' m' d'].toList, u.oneCell' = true := by
  intro u hu
  simp at hu
  rcases hu with rfl | rfl | rfl | rfl | rfl | rfl <;> rfl

theorem insStep_fold_mem (p : Rat × Rat) : ∀ (os : List (Rat × Rat)) (s : List (Rat × Rat) × Bool) (q : Rat × Rat), q ∈ (os.foldl (insStep p) s).1 → q = p ∨ q ∈ os ∨ q ∈ s.1
  | [], s, q, h => .inr (.inr h)
  | o :: os, s, q, h => by
    rcases insStep_fold_mem p os (insStep p s o) q h with h | h | h
    · exact .inl h
    · exact .inr (.inl (List.mem_cons_of_mem _ h))
    · unfold insStep at h
      simp only [List.mem_append, List.mem_singleton] at h
      rcases h with (h | h) | h
      · exact .inr (.inr h)
      · split at h
        · exact .inl (by simpa using h)
        · simp at h
      · exact .inr (.inl (by rw [h]; exact List.mem_cons_self))
theorem insAll_mem {p q : Rat × Rat} {os : List (Rat × Rat)} (h : q ∈ insAll p os) : q = p ∨ q ∈ os := by
  unfold insAll at h
  simp only at h
  split at h
  · rcases insStep_fold_mem p os ([], false) q h with h | h | h
    · exact .inl h
    · exact .inr h
    · simp at h
  · simp only [List.mem_append, List.mem_singleton] at h
    rcases h with h | h
    · rcases insStep_fold_mem p os ([], false) q h with h | h | h
      · exact .inl h
      · exact .inr h
      · simp at h
    · exact .inl h
theorem rowQ_fold_mem : ∀ (l : List (Rat × Rat)) (s : List (Rat × Rat)) (q : Rat × Rat), q ∈ l.foldl (fun out p => insAll p out) s → q ∈ l ∨ q ∈ s
  | [], s, q, h => .inr h
  | p :: l, s, q, h => by
    rcases rowQ_fold_mem l (insAll p s) q h with h | h
    · exact .inl (List.mem_cons_of_mem _ h)
    · rcases insAll_mem h with h | h
      · exact .inl (by rw [h]; exact List.mem_cons_self)
      · exact .inr h
theorem rowQ_mem {l : List (Rat × Rat)} {q : Rat × Rat} (h : q ∈ rowQ l) : q ∈ l := by
  rcases rowQ_fold_mem l [] q h with h | h
  · exact h
  · simp at h
theorem insStep_len (p : Rat × Rat) (s : List (Rat × Rat) × Bool) (o : Rat × Rat) (c : Nat) (h : s.1.length + (if s.2 = true then 0 else 1) ≤ c) : (insStep p s o).1.length + (if (insStep p s o).2 = true then 0 else 1) ≤ c + 1 := by
  unfold insStep
  obtain ⟨a, b⟩ := s
  by_cases h0 : spotCmp p.1 p.2 o.1 o.2 < 0
  · have h1 : spotCmp p.1 p.2 o.1 o.2 ≤ 0 := by omega
    cases b <;> simp [h0, h1] at * <;> omega
  · by_cases h1 : spotCmp p.1 p.2 o.1 o.2 ≤ 0 <;> cases b <;> simp [h0, h1] at * <;> omega
theorem insStep_fold_len (p : Rat × Rat) : ∀ (os : List (Rat × Rat)) (s : List (Rat × Rat) × Bool) (c : Nat), s.1.length + (if s.2 = true then 0 else 1) ≤ c → (os.foldl (insStep p) s).1.length + (if (os.foldl (insStep p) s).2 = true then 0 else 1) ≤ c + os.length
  | [], s, c, h => h
  | o :: os, s, c, h => by
    have := insStep_fold_len p os (insStep p s o) (c + 1) (insStep_len p s o c h)
    rw [List.foldl_cons, List.length_cons]
    exact Nat.le_trans this (by omega)
theorem insAll_len (p : Rat × Rat) (os : List (Rat × Rat)) : (insAll p os).length ≤ os.length + 1 := by
  have h := insStep_fold_len p os ([], false) 1 (by simp)
  unfold insAll
  simp only
  split
  · next e => rw [e] at h; simp at h; omega
  · next e => simp; simp [e] at h; omega
theorem rowQ_fold_len : ∀ (l : List (Rat × Rat)) (s : List (Rat × Rat)), (l.foldl (fun out p => insAll p out) s).length ≤ s.length + l.length
  | [], s => by simp
  | p :: l, s => by
    have h1 := rowQ_fold_len l (insAll p s)
    have h2 := insAll_len p s
    simp only [List.foldl_cons, List.length_cons]
    omega
theorem rowQ_len (l : List (Rat × Rat)) : (rowQ l).length ≤ l.length := by
  have := rowQ_fold_len l []
  simpa [rowQ] using this
theorem insAll_fold (p : Rat × Rat) (out : List (Rat × Rat)) (a : List (Rat × Rat)) (b : Bool) (h : out.foldl (insStep p) ([], false) = (a, b)) : insAll p out = if b = true then a else a ++ [p] := by
  unfold insAll; rw [h]
theorem fold_take_succ (p : Rat × Rat) (out : List (Rat × Rat)) (m : Nat) (q : Rat × Rat) (h : out[m]? = some q) (s : List (Rat × Rat) × Bool) :
    (out.take (m + 1)).foldl (insStep p) s = insStep p ((out.take m).foldl (insStep p) s) q := by
  rw [List.take_add_one, h, Option.toList_some, List.foldl_append]; rfl

theorem insStep_lt {p q : Rat × Rat} (a : List (Rat × Rat)) (h : spotCmp p.1 p.2 q.1 q.2 < 0) : insStep p (a, false) q = (a ++ [p] ++ [q], true) := by
  unfold insStep
  have h1 : spotCmp p.1 p.2 q.1 q.2 ≤ 0 := by omega
  simp [h, h1]
theorem insStep_in {p q : Rat × Rat} (a : List (Rat × Rat)) : insStep p (a, true) q = (a ++ [q], true) := by
  unfold insStep; simp
theorem insStep_eq {p q : Rat × Rat} (a : List (Rat × Rat)) (b : Bool) (h : spotCmp p.1 p.2 q.1 q.2 = 0) : insStep p (a, b) q = (a ++ [q], true) := by
  unfold insStep
  simp [h]
theorem insStep_gt {p q : Rat × Rat} (a : List (Rat × Rat)) (b : Bool) (h : 0 < spotCmp p.1 p.2 q.1 q.2) : insStep p (a, b) q = (a ++ [q], b) := by
  unfold insStep
  have h1 : ¬ spotCmp p.1 p.2 q.1 q.2 < 0 := by omega
  have h2 : ¬ spotCmp p.1 p.2 q.1 q.2 ≤ 0 := by omega
  simp [h1, h2]
theorem OwnC.snoc {e : TypeId} {w w' : World} {base : Nat} {v' : Value} {l : List (Rat × Rat)} {p : Rat × Rat} {xs : List Value} {b b' : Bool} {A C A' C' : Option Addr} {n c m d n' c' m' d' : Nat}
    (h : OwnS w' base e 6 v' (l.length + 1) (xs ++ #[.bool b, .slice A n c, .slice C m d, .bool b', .slice A' n' c', .slice C' m' d'].toList)) (hF : Flat w xs l)
    (hV : SpotC w (.agg #[.bool b, .slice A n c, .slice C m d, .bool b', .slice A' n' c', .slice C' m' d']) p.1 p.2) (k : Keeps w w') : OwnC e w' base v' (l ++ [p]) :=
  ⟨_, by rw [List.length_append]; exact h, (hF.kept k).snoc (SpotC.kept hV k)⟩
end Go.Proofs.Ytpglnfccmhkocaa
namespace Go.Proofs.Ytpglnfccmhkocaa
open Go.RowKit

/-- Boxes that have no point in common. -/
def apartB (ax ay bx b_y cx cy dx dy : Int) : Bool :=
  decide (max ax bx < min cx dx) || decide (max cx dx < min ax bx) || decide (max ay b_y < min cy dy) || decide (max cy dy < min ay b_y)
/-- The first and the last of more than two. -/
def ends2 (l : List (Rat × Rat)) : List (Rat × Rat) := if 2 < l.length then [l.getD 0 (0, 0), l.getD (l.length - 1) (0, 0)] else l
/-- The ends that lie on the other way. -/
def endsQ (ax ay bx b_y cx cy dx dy : Rat) : List (Rat × Rat) :=
  (if onQ cx cy dx dy ax ay = true then [(ax, ay)] else []) ++ (if onQ cx cy dx dy bx b_y = true then [(bx, b_y)] else []) ++
    (if onQ ax ay bx b_y cx cy = true then [(cx, cy)] else []) ++ (if onQ ax ay bx b_y dx dy = true then [(dx, dy)] else [])
/-- The point where the lines meet, if it is on both ways. -/
def lineQ (ax ay bx b_y cx cy dx dy f : Rat) : List (Rat × Rat) :=
  if onQ ax ay bx b_y (ax + f * (bx - ax)) (ay + f * (b_y - ay)) = true ∧ onQ cx cy dx dy (ax + f * (bx - ax)) (ay + f * (b_y - ay)) = true then [(ax + f * (bx - ax), ay + f * (b_y - ay))] else []
/-- Where two ways meet, as the document says it. -/
def rmeetQ (ax ay bx b_y cx cy dx dy : Int) : List (Rat × Rat) :=
  if (fitB ax ay && fitB bx b_y) = true ∧ (fitB cx cy && fitB dx dy) = true then
    (if apartB ax ay bx b_y cx cy dx dy = true then []
     else if cmpQ (areaQ (cx : Rat) (cy : Rat) (dx : Rat) (dy : Rat) (ax : Rat) (ay : Rat)) (areaQ (cx : Rat) (cy : Rat) (dx : Rat) (dy : Rat) (bx : Rat) (b_y : Rat)) ≠ 0 then
      lineQ (ax : Rat) (ay : Rat) (bx : Rat) (b_y : Rat) (cx : Rat) (cy : Rat) (dx : Rat) (dy : Rat)
        (areaQ (cx : Rat) (cy : Rat) (dx : Rat) (dy : Rat) (ax : Rat) (ay : Rat) / (areaQ (cx : Rat) (cy : Rat) (dx : Rat) (dy : Rat) (ax : Rat) (ay : Rat) - areaQ (cx : Rat) (cy : Rat) (dx : Rat) (dy : Rat) (bx : Rat) (b_y : Rat)))
     else ends2 (rowQ (endsQ (ax : Rat) (ay : Rat) (bx : Rat) (b_y : Rat) (cx : Rat) (cy : Rat) (dx : Rat) (dy : Rat))))
  else []

theorem cramer {ax ay bx b_y cx cy dx dy f g D : Rat} (hD : D = (bx - ax) * (dy - cy) - (b_y - ay) * (dx - cx)) (h0 : D ≠ 0) (hf : f * D = (cx - ax) * (dy - cy) - (cy - ay) * (dx - cx)) (hg : g * D = (cx - ax) * (b_y - ay) - (cy - ay) * (bx - ax)) :
    ax + f * (bx - ax) = cx + g * (dx - cx) ∧ ay + f * (b_y - ay) = cy + g * (dy - cy) := by
  have e1 : (ax + f * (bx - ax) - (cx + g * (dx - cx))) * D = 0 := by grind
  have e2 : (ay + f * (b_y - ay) - (cy + g * (dy - cy))) * D = 0 := by grind
  have c : ∀ x : Rat, x * D = 0 → x = 0 := fun x h => by
    rcases Rat.mul_eq_zero.1 h with h | h
    · exact h
    · exact absurd h h0
  have r1 := c _ e1
  have r2 := c _ e2
  constructor <;> grind

theorem cmpQ_zero {a b : Rat} : cmpQ a b = 0 ↔ a = b := by
  unfold cmpQ
  constructor
  · intro h
    split at h
    · omega
    · split at h
      · omega
      · grind
  · intro h
    subst h
    rw [if_neg (by grind), if_neg (by grind)]

theorem not_apart {ax ay bx b_y cx cy dx dy : Int} {X Y : Rat} (h1 : onQ (ax : Rat) (ay : Rat) (bx : Rat) (b_y : Rat) X Y = true) (h2 : onQ (cx : Rat) (cy : Rat) (dx : Rat) (dy : Rat) X Y = true) : apartB ax ay bx b_y cx cy dx dy = false := by
  unfold onQ at h1 h2
  simp only [Bool.and_eq_true] at h1 h2
  have a1 := withinQ_iff.1 h1.1.1
  have a2 := withinQ_iff.1 h1.1.2
  have a3 := withinQ_iff.1 h2.1.1
  have a4 := withinQ_iff.1 h2.1.2
  have key : ∀ (p q r s : Int) (Z : Rat), (((p : Rat) ≤ Z ∧ Z ≤ (q : Rat)) ∨ ((q : Rat) ≤ Z ∧ Z ≤ (p : Rat))) → (((r : Rat) ≤ Z ∧ Z ≤ (s : Rat)) ∨ ((s : Rat) ≤ Z ∧ Z ≤ (r : Rat))) → ¬ max p q < min r s := by
    intro p q r s Z u v h
    have l1 : p < r ∧ p < s ∧ q < r ∧ q < s := by omega
    have m1 := Rat.intCast_lt_intCast.2 l1.1
    have m2 := Rat.intCast_lt_intCast.2 l1.2.1
    have m3 := Rat.intCast_lt_intCast.2 l1.2.2.1
    have m4 := Rat.intCast_lt_intCast.2 l1.2.2.2
    grind
  unfold apartB
  rw [decide_eq_false (key _ _ _ _ X a1 a3), decide_eq_false (key _ _ _ _ X a3 a1), decide_eq_false (key _ _ _ _ Y a2 a4), decide_eq_false (key _ _ _ _ Y a4 a2)]
  rfl

theorem meet_cross (ax ay bx b_y cx cy dx dy : Int) (hs : (fitB ax ay && fitB bx b_y) = true ∧ (fitB cx cy && fitB dx dy) = true) (hD : crossZ (bx - ax) (b_y - ay) (dx - cx) (dy - cy) ≠ 0) :
    meetQ ax ay bx b_y cx cy dx dy = rmeetQ ax ay bx b_y cx cy dx dy := by
  obtain ⟨D, eD⟩ : ∃ D, crossZ (bx - ax) (b_y - ay) (dx - cx) (dy - cy) = D := ⟨_, rfl⟩
  obtain ⟨n, en⟩ : ∃ n, crossZ (cx - ax) (cy - ay) (dx - cx) (dy - cy) = n := ⟨_, rfl⟩
  obtain ⟨m, em⟩ : ∃ m, crossZ (cx - ax) (cy - ay) (bx - ax) (b_y - ay) = m := ⟨_, rfl⟩
  rw [eD] at hD
  have hL : lieZ ax ay bx b_y cx cy dx dy = if shareB n D = true ∧ shareB m D = true then (1, n, D) else (0, 0, 0) := by
    unfold lieZ
    simp only [eD, en, em]
    rw [if_neg hD]
  have rD : (D : Rat) = ((bx : Rat) - ax) * ((dy : Rat) - cy) - ((b_y : Rat) - ay) * ((dx : Rat) - cx) := by
    rw [← eD]; unfold crossZ; simp only [Rat.intCast_sub, Rat.intCast_mul]
  have rn : (n : Rat) = ((cx : Rat) - ax) * ((dy : Rat) - cy) - ((cy : Rat) - ay) * ((dx : Rat) - cx) := by
    rw [← en]; unfold crossZ; simp only [Rat.intCast_sub, Rat.intCast_mul]
  have rm : (m : Rat) = ((cx : Rat) - ax) * ((b_y : Rat) - ay) - ((cy : Rat) - ay) * ((bx : Rat) - ax) := by
    rw [← em]; unfold crossZ; simp only [Rat.intCast_sub, Rat.intCast_mul]
  have D0 : (D : Rat) ≠ 0 := fun e => hD (by have e2 : (D : Rat) = ((0 : Int) : Rat) := e; exact Rat.intCast_inj.1 e2)
  have p1 : areaQ (cx : Rat) (cy : Rat) (dx : Rat) (dy : Rat) (ax : Rat) (ay : Rat) = (n : Rat) := by rw [areaQ_eq, rn]; grind
  have p2 : areaQ (cx : Rat) (cy : Rat) (dx : Rat) (dy : Rat) (ax : Rat) (ay : Rat) - areaQ (cx : Rat) (cy : Rat) (dx : Rat) (dy : Rat) (bx : Rat) (b_y : Rat) = (D : Rat) := by rw [areaQ_eq, areaQ_eq, rD]; grind
  have p3 : cmpQ (areaQ (cx : Rat) (cy : Rat) (dx : Rat) (dy : Rat) (ax : Rat) (ay : Rat)) (areaQ (cx : Rat) (cy : Rat) (dx : Rat) (dy : Rat) (bx : Rat) (b_y : Rat)) ≠ 0 := fun e => D0 (by rw [← p2, cmpQ_zero.1 e]; grind)
  have f1 := quot_mul (n := n) hD
  have g1 := quot_mul (n := m) hD
  obtain ⟨c1, c2⟩ := cramer rD D0 (f1.trans rn) (g1.trans rm)
  have v0 : (ax : Rat) ≠ bx ∨ (ay : Rat) ≠ b_y := by
    refine Decidable.byContradiction fun h => D0 ?_
    rw [rD]; grind
  have w0 : (cx : Rat) ≠ dx ∨ (cy : Rat) ≠ dy := by
    refine Decidable.byContradiction fun h => D0 ?_
    rw [rD]; grind
  have o1 := on_param (ax : Rat) ay bx b_y ((n : Rat) / (D : Rat)) v0
  have o2 := on_param (cx : Rat) cy dx dy ((m : Rat) / (D : Rat)) w0
  rw [← share_q n D hD] at o1
  rw [← share_q m D hD, ← c1, ← c2] at o2
  have x1 : (ax : Rat) + (((bx - ax) * n : Int) : Rat) / (D : Rat) = (ax : Rat) + (n : Rat) / (D : Rat) * ((bx : Rat) - ax) := by rw [Rat.intCast_mul, Rat.intCast_sub]; grind
  have x2 : (ay : Rat) + (((b_y - ay) * n : Int) : Rat) / (D : Rat) = (ay : Rat) + (n : Rat) / (D : Rat) * ((b_y : Rat) - ay) := by rw [Rat.intCast_mul, Rat.intCast_sub]; grind
  unfold meetQ rmeetQ
  have p2' := p2
  rw [p1] at p2'
  rw [if_pos hs, if_pos hs, hL, if_pos p3, p1, p2']
  unfold lineQ
  rw [o1, o2]
  by_cases hsh : shareB n D = true ∧ shareB m D = true
  · have na := not_apart (o1.trans hsh.1) (o2.trans hsh.2)
    have e2 : ¬ apartB ax ay bx b_y cx cy dx dy = true := by rw [na]; simp
    simp only [if_pos hsh, if_neg e2]
    rw [x1, x2, if_pos trivial]
  · rw [if_neg hsh, if_neg hsh]
    simp
end Go.Proofs.Ytpglnfccmhkocaa
namespace Go.Proofs.Ytpglnfccmhkocaa
open Go.RowKit

/-- One more spot in a row, in its place, once. -/
def insRec (p : Rat × Rat) : List (Rat × Rat) → List (Rat × Rat)
  | [] => [p]
  | o :: os => if spotCmp p.1 p.2 o.1 o.2 < 0 then p :: o :: os else if spotCmp p.1 p.2 o.1 o.2 = 0 then o :: os else o :: insRec p os
theorem fold_in (p : Rat × Rat) : ∀ (os a : List (Rat × Rat)), os.foldl (insStep p) (a, true) = (a ++ os, true)
  | [], a => by simp
  | o :: os, a => by rw [List.foldl_cons, insStep_in, fold_in p os]; simp
theorem fold_out (p : Rat × Rat) : ∀ (os a : List (Rat × Rat)), ∃ u b, os.foldl (insStep p) (a, false) = (u, b) ∧ (if b = true then u else u ++ [p]) = a ++ insRec p os
  | [], a => ⟨a, false, rfl, by simp [insRec]⟩
  | o :: os, a => by
    have e : (o :: os).foldl (insStep p) (a, false) = os.foldl (insStep p) (insStep p (a, false) o) := rfl
    rw [e]
    rcases Int.lt_trichotomy (spotCmp p.1 p.2 o.1 o.2) 0 with h | h | h
    · rw [insStep_lt a h, fold_in]
      exact ⟨_, _, rfl, by simp [insRec, h]⟩
    · rw [insStep_eq a false h, fold_in]
      exact ⟨_, _, rfl, by simp [insRec, h]⟩
    · rw [insStep_gt a false h]
      obtain ⟨u, b, h3, h4⟩ := fold_out p os (a ++ [o])
      have h1 : ¬ spotCmp p.1 p.2 o.1 o.2 < 0 := by omega
      have h2 : ¬ spotCmp p.1 p.2 o.1 o.2 = 0 := by omega
      exact ⟨u, b, h3, by rw [h4]; simp [insRec, h1, h2]⟩
theorem insAll_rec (p : Rat × Rat) (os : List (Rat × Rat)) : insAll p os = insRec p os := by
  obtain ⟨u, b, h3, h4⟩ := fold_out p os []
  rw [insAll_fold p os u b h3, h4]; rfl

theorem spotCmp_zero {p q : Rat × Rat} : spotCmp p.1 p.2 q.1 q.2 = 0 ↔ p = q := by
  unfold spotCmp
  constructor
  · intro h
    split at h
    · next e => exact Prod.ext (cmpQ_zero.1 e) (cmpQ_zero.1 h)
    · next e => exact absurd h e
  · rintro rfl
    rw [if_pos (cmpQ_zero.2 rfl)]; exact cmpQ_zero.2 rfl
/-- Ahead of: by the first part, then by the second. -/
def spotLt (p q : Rat × Rat) : Prop := p.1 < q.1 ∨ (p.1 = q.1 ∧ p.2 < q.2)
theorem cmpQ_neg {a b : Rat} : cmpQ a b < 0 ↔ a < b := by
  unfold cmpQ
  constructor
  · intro h
    split at h
    · assumption
    · split at h <;> omega
  · intro h; rw [if_pos h]; omega
theorem spotCmp_neg {p q : Rat × Rat} : spotCmp p.1 p.2 q.1 q.2 < 0 ↔ spotLt p q := by
  unfold spotCmp spotLt
  by_cases h : p.1 = q.1
  · rw [if_pos (cmpQ_zero.2 h), cmpQ_neg]
    constructor
    · intro g; exact .inr ⟨h, g⟩
    · intro g; rcases g with g | g
      · exact absurd h (by grind)
      · exact g.2
  · rw [if_neg (fun e => h (cmpQ_zero.1 e)), cmpQ_neg]
    constructor
    · intro g; exact .inl g
    · intro g; rcases g with g | g
      · exact g
      · exact absurd g.1 h
theorem spotLt_trans {p q r : Rat × Rat} (h : spotLt p q) (k : spotLt q r) : spotLt p r := by
  unfold spotLt at *; grind
theorem spotLt_tri (p q : Rat × Rat) : spotLt p q ∨ p = q ∨ spotLt q p := by
  unfold spotLt
  by_cases h : p.1 = q.1
  · by_cases k : p.2 = q.2
    · exact .inr (.inl (Prod.ext h k))
    · grind
  · grind
theorem insRec_mem {p q : Rat × Rat} : ∀ {os : List (Rat × Rat)}, q ∈ insRec p os ↔ q = p ∨ q ∈ os
  | [] => by simp [insRec]
  | o :: os => by
    unfold insRec
    by_cases h : spotCmp p.1 p.2 o.1 o.2 < 0
    · rw [if_pos h]; simp
    · rw [if_neg h]
      by_cases k : spotCmp p.1 p.2 o.1 o.2 = 0
      · rw [if_pos k]
        have := spotCmp_zero.1 k
        subst this
        simp
      · rw [if_neg k, List.mem_cons, insRec_mem]
        simp only [List.mem_cons]
        constructor
        · rintro (h | h | h) <;> simp [h]
        · rintro (h | h | h) <;> simp [h]
theorem insRec_sorted {p : Rat × Rat} : ∀ {os : List (Rat × Rat)}, os.Pairwise spotLt → (insRec p os).Pairwise spotLt
  | [], _ => by simp [insRec]
  | o :: os, hs => by
    obtain ⟨h1, h2⟩ := List.pairwise_cons.1 hs
    unfold insRec
    by_cases h : spotCmp p.1 p.2 o.1 o.2 < 0
    · rw [if_pos h]
      have hl := spotCmp_neg.1 h
      refine List.pairwise_cons.2 ⟨fun q hq => ?_, hs⟩
      rcases List.mem_cons.1 hq with rfl | hq
      · exact hl
      · exact spotLt_trans hl (h1 q hq)
    · rw [if_neg h]
      by_cases k : spotCmp p.1 p.2 o.1 o.2 = 0
      · rw [if_pos k]; exact hs
      · rw [if_neg k]
        refine List.pairwise_cons.2 ⟨fun q hq => ?_, insRec_sorted h2⟩
        rcases insRec_mem.1 hq with rfl | hq
        · rcases spotLt_tri o q with g | g | g
          · exact g
          · exact absurd (spotCmp_zero.2 g.symm) k
          · exact absurd (spotCmp_neg.2 g) h
        · exact h1 q hq
theorem rowQ_fold (l : List (Rat × Rat)) : ∀ (s : List (Rat × Rat)), s.Pairwise spotLt → (l.foldl (fun out p => insAll p out) s).Pairwise spotLt ∧ ∀ q, q ∈ l.foldl (fun out p => insAll p out) s ↔ q ∈ l ∨ q ∈ s := by
  induction l with
  | nil => intro s hs; exact ⟨hs, fun q => by simp⟩
  | cons p l ih =>
    intro s hs
    have h1 := ih (insAll p s) (by rw [insAll_rec]; exact insRec_sorted hs)
    refine ⟨h1.1, fun q => ?_⟩
    rw [List.foldl_cons, h1.2 q, insAll_rec, insRec_mem, List.mem_cons]
    constructor
    · rintro (h | h | h) <;> simp [h]
    · rintro ((h | h) | h) <;> simp [h]
theorem rowQ_sorted (l : List (Rat × Rat)) : (rowQ l).Pairwise spotLt := (rowQ_fold l [] List.Pairwise.nil).1
theorem mem_rowQ {l : List (Rat × Rat)} {q : Rat × Rat} : q ∈ rowQ l ↔ q ∈ l := by
  have := (rowQ_fold l [] List.Pairwise.nil).2 q
  simpa [rowQ] using this
end Go.Proofs.Ytpglnfccmhkocaa
