/- Plain: ways along one another: what they have in common is the first and the last of the ends that lie on the other. Conditions: none. Plain: where two ways meet: the program and the document answer alike. Conditions: none. Plain: where two ways meet: the program and the document answer alike, of all ways of the grid. Conditions: none. Plain: two ways meet alike both ways, and turned round; what is met lies on both. Conditions: none. -/
import Derived.Test.YtmommicmblfibaaGreatJMeetP3
set_option maxRecDepth 100000
namespace Go.Proofs.YtmommicmblfibaaGreat
open Go.RowKit
theorem mem_endsQ {ax ay bx b_y cx cy dx dy : Rat} {q : Rat × Rat} : q ∈ endsQ ax ay bx b_y cx cy dx dy ↔
  (onQ cx cy dx dy ax ay = true ∧ q = (ax, ay)) ∨ (onQ cx cy dx dy bx b_y = true ∧ q = (bx, b_y)) ∨ (onQ ax ay bx b_y cx cy = true ∧ q = (cx, cy)) ∨ (onQ ax ay bx b_y dx dy = true ∧ q = (dx, dy)) := by
 have e : ∀ (P : Prop) [Decidable P] (r : Rat × Rat), q ∈ (if P then [r] else []) ↔ P ∧ q = r := fun P _ r => by
  by_cases h : P <;> simp [h]
 unfold endsQ
 rw [List.mem_append, List.mem_append, List.mem_append, e, e, e, e, or_assoc, or_assoc]
theorem ends_common {ax ay bx b_y cx cy dx dy : Rat} {sA sB tA tB lo hi : Rat × Rat} (hS : (sA = (ax, ay) ∧ sB = (bx, b_y)) ∨ (sA = (bx, b_y) ∧ sB = (ax, ay))) (hT : (tA = (cx, cy) ∧ tB = (dx, dy)) ∨ (tA = (dx, dy) ∧ tB = (cx, cy)))
  (hs : spotLe sA sB) (ht : spotLe tA tB)
  (oa : onQ cx cy dx dy ax ay = true ↔ spotLe tA (ax, ay) ∧ spotLe (ax, ay) tB) (ob : onQ cx cy dx dy bx b_y = true ↔ spotLe tA (bx, b_y) ∧ spotLe (bx, b_y) tB)
  (oc : onQ ax ay bx b_y cx cy = true ↔ spotLe sA (cx, cy) ∧ spotLe (cx, cy) sB) (od : onQ ax ay bx b_y dx dy = true ↔ spotLe sA (dx, dy) ∧ spotLe (dx, dy) sB)
  (l1 : spotLe sA lo) (l2 : spotLe tA lo) (l3 : lo = sA ∨ lo = tA) (h1 : spotLe hi sB) (h2 : spotLe hi tB) (h3 : hi = sB ∨ hi = tB) :
  (spotLt hi lo → ends2 (rowQ (endsQ ax ay bx b_y cx cy dx dy)) = []) ∧ (spotLe lo hi → ends2 (rowQ (endsQ ax ay bx b_y cx cy dx dy)) = if lo = hi then [lo] else [lo, hi]) := by
 have inS : ∀ q : Rat × Rat, (q = (ax, ay) ∨ q = (bx, b_y)) → spotLe sA q ∧ spotLe q sB := by
  intro q hq
  rcases hS with ⟨e1, e2⟩ | ⟨e1, e2⟩ <;> rcases hq with e | e
  ·rw [e, ← e1]; exact ⟨.inl rfl, hs⟩
  ·rw [e, ← e2]; exact ⟨hs, .inl rfl⟩
  ·rw [e, ← e2]; exact ⟨hs, .inl rfl⟩
  ·rw [e, ← e1]; exact ⟨.inl rfl, hs⟩
 have inT : ∀ q : Rat × Rat, (q = (cx, cy) ∨ q = (dx, dy)) → spotLe tA q ∧ spotLe q tB := by
  intro q hq
  rcases hT with ⟨e1, e2⟩ | ⟨e1, e2⟩ <;> rcases hq with e | e
  ·rw [e, ← e1]; exact ⟨.inl rfl, ht⟩
  ·rw [e, ← e2]; exact ⟨ht, .inl rfl⟩
  ·rw [e, ← e2]; exact ⟨ht, .inl rfl⟩
  ·rw [e, ← e1]; exact ⟨.inl rfl, ht⟩
 have span : ∀ q : Rat × Rat, spotLe sA q → spotLe q sB → spotLe tA q → spotLe q tB → spotLe lo q ∧ spotLe q hi := by
  intro q a b c d
  refine ⟨?_, ?_⟩
  ·rcases l3 with e | e <;> rw [e] <;> assumption
  ·rcases h3 with e | e <;> rw [e] <;> assumption
 have mem : ∀ q, q ∈ rowQ (endsQ ax ay bx b_y cx cy dx dy) → spotLe lo q ∧ spotLe q hi := by
  intro q hq
  rcases mem_endsQ.1 (mem_rowQ.1 hq) with ⟨o, e⟩ | ⟨o, e⟩ | ⟨o, e⟩ | ⟨o, e⟩
  ·have a := inS q (.inl e); have b := oa.1 o; rw [← e] at b; exact span q a.1 a.2 b.1 b.2
  ·have a := inS q (.inr e); have b := ob.1 o; rw [← e] at b; exact span q a.1 a.2 b.1 b.2
  ·have a := inT q (.inl e); have b := oc.1 o; rw [← e] at b; exact span q b.1 b.2 a.1 a.2
  ·have a := inT q (.inr e); have b := od.1 o; rw [← e] at b; exact span q b.1 b.2 a.1 a.2
 have isM : ∀ q : Rat × Rat, (q = sA ∨ q = sB ∨ q = tA ∨ q = tB) → spotLe sA q → spotLe q sB → spotLe tA q → spotLe q tB → q ∈ rowQ (endsQ ax ay bx b_y cx cy dx dy) := by
  intro q hq a b c d
  refine mem_rowQ.2 (mem_endsQ.2 ?_)
  have k : (q = (ax, ay) ∨ q = (bx, b_y)) ∨ (q = (cx, cy) ∨ q = (dx, dy)) := by
   rcases hS with ⟨e1, e2⟩ | ⟨e1, e2⟩ <;> rcases hT with ⟨e3, e4⟩ | ⟨e3, e4⟩ <;> rcases hq with e | e | e | e <;> simp [e, e1, e2, e3, e4]
  rcases k with (e | e) | (e | e)
  ·exact .inl ⟨oa.2 (by rw [← e]; exact ⟨c, d⟩), e⟩
  ·exact .inr (.inl ⟨ob.2 (by rw [← e]; exact ⟨c, d⟩), e⟩)
  ·exact .inr (.inr (.inl ⟨oc.2 (by rw [← e]; exact ⟨a, b⟩), e⟩))
  ·exact .inr (.inr (.inr ⟨od.2 (by rw [← e]; exact ⟨a, b⟩), e⟩))
 constructor
 ·intro hlt
  refine ends2_none fun q hq => ?_
  have := mem q hq
  have h9 := spotLe_trans this.1 this.2
  rcases h9 with e | e
  ·rw [e] at hlt; exact spotLt_irr hlt hlt
  ·exact spotLt_irr hlt e
 ·intro hle
  have m1 : lo ∈ rowQ (endsQ ax ay bx b_y cx cy dx dy) := isM lo (by rcases l3 with e | e <;> simp [e]) l1 (spotLe_trans hle h1) l2 (spotLe_trans hle h2)
  have m2 : hi ∈ rowQ (endsQ ax ay bx b_y cx cy dx dy) := isM hi (by rcases h3 with e | e <;> simp [e]) (spotLe_trans l1 hle) h1 (spotLe_trans l2 hle) h2
  exact ends2_span (rowQ_sorted _) m1 m2 mem
theorem aheadB_iff {ax ay bx b_y : Int} : aheadB ax ay bx b_y = true ↔ spotLt (castP (ax, ay)) (castP (bx, b_y)) := by
 unfold aheadB spotLt castP
 simp only [Bool.or_eq_true, Bool.and_eq_true, decide_eq_true_eq, Rat.intCast_lt_intCast, Rat.intCast_inj]
theorem castP_inj {p q : Int × Int} : castP p = castP q ↔ p = q := by
 unfold castP
 constructor
 ·intro h
  simp only [Prod.mk.injEq, Rat.intCast_inj] at h
  exact Prod.ext h.1 h.2
 ·rintro rfl; rfl
theorem sortZ_le (ax ay bx b_y : Int) : spotLe (castP (sortZ ax ay bx b_y).1) (castP (sortZ ax ay bx b_y).2) := by
 unfold sortZ
 split
 ·next h => exact .inr (aheadB_iff.1 h)
 ·next h =>
  rcases spotLe_total (castP (ax, ay)) (castP (bx, b_y)) with k | k
  ·exact k
  ·exact absurd (aheadB_iff.2 k) h
theorem sortZ_ends (ax ay bx b_y : Int) : (castP (sortZ ax ay bx b_y).1 = ((ax : Rat), (ay : Rat)) ∧ castP (sortZ ax ay bx b_y).2 = ((bx : Rat), (b_y : Rat))) ∨ (castP (sortZ ax ay bx b_y).1 = ((bx : Rat), (b_y : Rat)) ∧ castP (sortZ ax ay bx b_y).2 = ((ax : Rat), (ay : Rat))) := by
 unfold sortZ castP
 split
 ·exact .inr ⟨rfl, rfl⟩
 ·exact .inl ⟨rfl, rfl⟩
theorem turn_swap0 {ax ay bx b_y cx cy : Rat} : turnQ bx b_y ax ay cx cy = 0 ↔ turnQ ax ay bx b_y cx cy = 0 := by
 rw [turnQ_eq, turnQ_eq]
 have e : (ax - bx) * (cy - b_y) - (ay - b_y) * (cx - bx) = -((bx - ax) * (cy - ay) - (b_y - ay) * (cx - ax)) := by grind
 rw [e, sgQ_neg]; omega
theorem on_same {cx cy ax ay : Rat} : onQ cx cy cx cy ax ay = true ↔ (ax, ay) = (cx, cy) := by
 unfold onQ
 have t : turnQ cx cy cx cy ax ay = 0 := by rw [turnQ_eq, ← sgQ_zero]; congr 1; grind
 rw [t]
 simp only [Bool.and_eq_true, withinQ_iff, Prod.mk.injEq, decide_true, and_true]
 grind
theorem on_le {cx cy dx dy ax ay : Rat} (h : spotLe (cx, cy) (dx, dy)) (ht : turnQ cx cy dx dy ax ay = 0) : onQ cx cy dx dy ax ay = true ↔ spotLe (cx, cy) (ax, ay) ∧ spotLe (ax, ay) (dx, dy) := by
 rcases h with h | h
 ·simp only [Prod.mk.injEq] at h
  obtain ⟨rfl, rfl⟩ := h
  rw [on_same]
  constructor
  ·intro e; rw [e]; exact ⟨.inl rfl, .inl rfl⟩
  ·intro e; exact (spotLe_anti e.1 e.2).symm
 ·exact on_lex h ht
theorem on_ends {cx cy dx dy ax ay : Rat} {tA tB : Rat × Rat} (hT : (tA = (cx, cy) ∧ tB = (dx, dy)) ∨ (tA = (dx, dy) ∧ tB = (cx, cy))) (h : spotLe tA tB) (ht : turnQ cx cy dx dy ax ay = 0) :
  onQ cx cy dx dy ax ay = true ↔ spotLe tA (ax, ay) ∧ spotLe (ax, ay) tB := by
 rcases hT with ⟨rfl, rfl⟩ | ⟨rfl, rfl⟩
 ·exact on_le h ht
 ·rw [← onQ_swap]; exact on_le h (turn_swap0.2 ht)
theorem common_ends (ax ay bx b_y cx cy dx dy : Int) (ta : turnQ (cx : Rat) (cy : Rat) (dx : Rat) (dy : Rat) (ax : Rat) (ay : Rat) = 0) (tb : turnQ (cx : Rat) (cy : Rat) (dx : Rat) (dy : Rat) (bx : Rat) (b_y : Rat) = 0)
  (tc : turnQ (ax : Rat) (ay : Rat) (bx : Rat) (b_y : Rat) (cx : Rat) (cy : Rat) = 0) (td : turnQ (ax : Rat) (ay : Rat) (bx : Rat) (b_y : Rat) (dx : Rat) (dy : Rat) = 0) :
  (commonZ (sortZ ax ay bx b_y) (sortZ cx cy dx dy)).map castP = ends2 (rowQ (endsQ (ax : Rat) (ay : Rat) (bx : Rat) (b_y : Rat) (cx : Rat) (cy : Rat) (dx : Rat) (dy : Rat))) := by
 have hS := sortZ_ends ax ay bx b_y
 have hT := sortZ_ends cx cy dx dy
 have hs := sortZ_le ax ay bx b_y
 have ht := sortZ_le cx cy dx dy
 have oa := on_ends hT ht ta
 have ob := on_ends hT ht tb
 have oc := on_ends hS hs tc
 have od := on_ends hS hs td
 generalize sortZ ax ay bx b_y = s at *
 generalize sortZ cx cy dx dy = t at *
 obtain ⟨lo, elo⟩ : ∃ lo, (if aheadB s.1.1 s.1.2 t.1.1 t.1.2 = true then t.1 else s.1) = lo := ⟨_, rfl⟩
 obtain ⟨hi, ehi⟩ : ∃ hi, (if aheadB t.2.1 t.2.2 s.2.1 s.2.2 = true then t.2 else s.2) = hi := ⟨_, rfl⟩
 have l : spotLe (castP s.1) (castP lo) ∧ spotLe (castP t.1) (castP lo) ∧ (castP lo = castP s.1 ∨ castP lo = castP t.1) := by
  by_cases h : aheadB s.1.1 s.1.2 t.1.1 t.1.2 = true
  ·rw [if_pos h] at elo
   subst elo
   exact ⟨.inr (aheadB_iff.1 h), .inl rfl, .inr rfl⟩
  ·rw [if_neg h] at elo
   subst elo
   refine ⟨.inl rfl, ?_, .inl rfl⟩
   rcases spotLe_total (castP t.1) (castP s.1) with k | k
   ·exact k
   ·exact absurd (aheadB_iff.2 k) h
 have u : spotLe (castP hi) (castP s.2) ∧ spotLe (castP hi) (castP t.2) ∧ (castP hi = castP s.2 ∨ castP hi = castP t.2) := by
  by_cases h : aheadB t.2.1 t.2.2 s.2.1 s.2.2 = true
  ·rw [if_pos h] at ehi
   subst ehi
   exact ⟨.inr (aheadB_iff.1 h), .inl rfl, .inr rfl⟩
  ·rw [if_neg h] at ehi
   subst ehi
   refine ⟨.inl rfl, ?_, .inl rfl⟩
   rcases spotLe_total (castP s.2) (castP t.2) with k | k
   ·exact k
   ·exact absurd (aheadB_iff.2 k) h
 obtain ⟨r1, r2⟩ := ends_common hS hT hs ht oa ob oc od l.1 l.2.1 l.2.2 u.1 u.2.1 u.2.2
 have hc : commonZ s t = if lo = hi then [lo] else if aheadB hi.1 hi.2 lo.1 lo.2 = true then [] else [lo, hi] := by
  unfold commonZ
  simp only [elo, ehi]
 rw [hc]
 by_cases e : lo = hi
 ·rw [if_pos e, r2 (.inl (by rw [e])), if_pos (by rw [e])]; rfl
 ·rw [if_neg e]
  by_cases h : aheadB hi.1 hi.2 lo.1 lo.2 = true
  ·rw [if_pos h, r1 (aheadB_iff.1 h)]; rfl
  ·rw [if_neg h]
   have hle : spotLe (castP lo) (castP hi) := by
    rcases spotLe_total (castP lo) (castP hi) with k | k
    ·exact k
    ·exact absurd (aheadB_iff.2 k) h
   rw [r2 hle, if_neg (fun k => e (castP_inj.1 k))]; rfl
theorem turn_int0 {ax ay bx b_y cx cy : Int} : turnQ (ax : Rat) (ay : Rat) (bx : Rat) (b_y : Rat) (cx : Rat) (cy : Rat) = 0 ↔ crossZ (bx - ax) (b_y - ay) (cx - ax) (cy - ay) = 0 := by
 rw [turnQ_int]
 unfold crossZ sg
 constructor
 ·intro h
  split at h
  ·assumption
  ·split at h <;> omega
 ·intro h
  rw [if_pos h]
theorem par {vx vy wx wy ox oy : Int} (h1 : crossZ vx vy wx wy = 0) (hv : ¬ (vx = 0 ∧ vy = 0)) (h2 : crossZ vx vy ox oy = 0) : crossZ wx wy ox oy = 0 := by
 unfold crossZ at *
 have e1 : vx * (wx * oy - wy * ox) = wx * (vx * oy - vy * ox) - ox * (vx * wy - vy * wx) := by grind
 have e2 : vy * (wx * oy - wy * ox) = wy * (vx * oy - vy * ox) - oy * (vx * wy - vy * wx) := by grind
 rw [h1, h2, Int.mul_zero, Int.mul_zero, Int.sub_self] at e1 e2
 rcases Int.mul_eq_zero.1 e1 with k | k
 ·rcases Int.mul_eq_zero.1 e2 with j | j
  ·exact absurd ⟨k, j⟩ hv
  ·exact j
 ·exact k
theorem par' {vx vy wx wy ox oy : Int} (h1 : crossZ vx vy wx wy = 0) (hw : ¬ (wx = 0 ∧ wy = 0)) (h2 : crossZ wx wy ox oy = 0) : crossZ vx vy ox oy = 0 :=
 par (vx := wx) (vy := wy) (by unfold crossZ at *; grind) hw h2
theorem ends_apart {ax ay bx b_y cx cy dx dy : Int} (h : apartB ax ay bx b_y cx cy dx dy = true) :
  endsQ (ax : Rat) (ay : Rat) (bx : Rat) (b_y : Rat) (cx : Rat) (cy : Rat) (dx : Rat) (dy : Rat) = [] := by
 have f : ∀ {X Y : Rat}, onQ (ax : Rat) (ay : Rat) (bx : Rat) (b_y : Rat) X Y = true → onQ (cx : Rat) (cy : Rat) (dx : Rat) (dy : Rat) X Y = true → False := fun h1 h2 => by
  have := not_apart h1 h2
  rw [h] at this; simp at this
 unfold endsQ
 rw [if_neg (fun k => f (onQ_a _ _ _ _) k), if_neg (fun k => f (onQ_b _ _ _ _) k), if_neg (fun k => f k (onQ_a _ _ _ _)), if_neg (fun k => f k (onQ_b _ _ _ _))]
 rfl
theorem on_turn {ax ay bx b_y cx cy : Int} (h : onQ (ax : Rat) (ay : Rat) (bx : Rat) (b_y : Rat) (cx : Rat) (cy : Rat) = true) : crossZ (bx - ax) (b_y - ay) (cx - ax) (cy - ay) = 0 := by
 unfold onQ at h
 simp only [Bool.and_eq_true, decide_eq_true_eq] at h
 exact turn_int0.1 h.2
theorem on_point {ax ay cx cy : Int} (h : onQ (ax : Rat) (ay : Rat) (ax : Rat) (ay : Rat) (cx : Rat) (cy : Rat) = true) : cx = ax ∧ cy = ay := by
 have := on_same.1 h
 simp only [Prod.mk.injEq, Rat.intCast_inj] at this
 exact this
theorem meet_along (ax ay bx b_y cx cy dx dy : Int) (hs : (fitB ax ay && fitB bx b_y) = true ∧ (fitB cx cy && fitB dx dy) = true) (hD : crossZ (bx - ax) (b_y - ay) (dx - cx) (dy - cy) = 0) :
  meetQ ax ay bx b_y cx cy dx dy = rmeetQ ax ay bx b_y cx cy dx dy := by
 have p3 : ¬ cmpQ (areaQ (cx : Rat) (cy : Rat) (dx : Rat) (dy : Rat) (ax : Rat) (ay : Rat)) (areaQ (cx : Rat) (cy : Rat) (dx : Rat) (dy : Rat) (bx : Rat) (b_y : Rat)) ≠ 0 := by
  have rD : ((0 : Int) : Rat) = ((bx : Rat) - ax) * ((dy : Rat) - cy) - ((b_y : Rat) - ay) * ((dx : Rat) - cx) := by
   rw [← hD]; unfold crossZ; simp only [Rat.intCast_sub, Rat.intCast_mul]
  have z : ((0 : Int) : Rat) = 0 := rfl
  rw [z] at rD
  exact fun h => h (cmpQ_zero.2 (by rw [areaQ_eq, areaQ_eq]; grind))
 have hR : rmeetQ ax ay bx b_y cx cy dx dy = ends2 (rowQ (endsQ (ax : Rat) (ay : Rat) (bx : Rat) (b_y : Rat) (cx : Rat) (cy : Rat) (dx : Rat) (dy : Rat))) := by
  unfold rmeetQ
  rw [if_pos hs]
  by_cases h : apartB ax ay bx b_y cx cy dx dy = true
  ·rw [if_pos h, ends_apart h]; rfl
  ·rw [if_neg h, if_neg p3]
 rw [hR]
 have none : endsQ (ax : Rat) (ay : Rat) (bx : Rat) (b_y : Rat) (cx : Rat) (cy : Rat) (dx : Rat) (dy : Rat) = [] → ends2 (rowQ (endsQ (ax : Rat) (ay : Rat) (bx : Rat) (b_y : Rat) (cx : Rat) (cy : Rat) (dx : Rat) (dy : Rat))) = [] := fun e => by rw [e]; rfl
 have flip : crossZ (bx - ax) (b_y - ay) (cx - ax) (cy - ay) = 0 → crossZ (bx - ax) (b_y - ay) (dx - ax) (dy - ay) = 0 := fun h => by unfold crossZ at *; grind
 have flip' : crossZ (bx - ax) (b_y - ay) (dx - ax) (dy - ay) = 0 → crossZ (bx - ax) (b_y - ay) (cx - ax) (cy - ay) = 0 := fun h => by unfold crossZ at *; grind
 have turn1 : crossZ (dx - cx) (dy - cy) (cx - ax) (cy - ay) = 0 → crossZ (dx - cx) (dy - cy) (ax - cx) (ay - cy) = 0 ∧ crossZ (dx - cx) (dy - cy) (bx - cx) (b_y - cy) = 0 := fun h => by
  constructor <;> (unfold crossZ at *; grind)
 have turn2 : crossZ (dx - cx) (dy - cy) (ax - cx) (ay - cy) = 0 ∨ crossZ (dx - cx) (dy - cy) (bx - cx) (b_y - cy) = 0 → crossZ (dx - cx) (dy - cy) (cx - ax) (cy - ay) = 0 := fun h => by
  rcases h with h | h <;> (unfold crossZ at *; grind)
 by_cases hv : bx - ax = 0 ∧ b_y - ay = 0
 ·obtain ⟨hv1, hv2⟩ := hv
  have eb : bx = ax := by omega
  have eb2 : b_y = ay := by omega
  subst eb; subst eb2
  have hD' : crossZ 0 0 (dx - cx) (dy - cy) = 0 := by unfold crossZ; grind
  by_cases hl : crossZ (dx - cx) (dy - cy) (cx - bx) (cy - b_y) = 0
  ·have hL : (lieZ bx b_y bx b_y cx cy dx dy).1 = 2 := by
    unfold lieZ
    simp only [Int.sub_self, and_self, if_true, hD', hl]
   have T := turn1 hl
   have hc := common_ends bx b_y bx b_y cx cy dx dy (turn_int0.2 T.1) (turn_int0.2 T.2) (turn_int0.2 (by unfold crossZ; grind)) (turn_int0.2 (by unfold crossZ; grind))
   unfold meetQ
   rw [if_pos hs, if_neg (by rw [hL]; omega), if_pos hL]
   split
   ·next h =>
    refine (none ?_).symm
    obtain ⟨-, ⟨e1, e2⟩, h3⟩ := h
    subst e1; subst e2
    have n1 : ¬ onQ (cx : Rat) (cy : Rat) (cx : Rat) (cy : Rat) (bx : Rat) (b_y : Rat) = true := fun k => h3 (on_point k)
    have n2 : ¬ onQ (bx : Rat) (b_y : Rat) (bx : Rat) (b_y : Rat) (cx : Rat) (cy : Rat) = true := fun k => h3 ⟨(on_point k).1.symm, (on_point k).2.symm⟩
    unfold endsQ
    simp only [if_neg n1, if_neg n2]
    rfl
   ·exact hc
  ·have hL : lieZ bx b_y bx b_y cx cy dx dy = (0, 0, 0) := by
    unfold lieZ
    simp only [Int.sub_self, and_self, if_true, hD', if_neg hl]
   unfold meetQ
   rw [if_pos hs, hL, if_neg (show ¬ ((0 : Int), (0 : Int), (0 : Int)).1 = 1 by simp), if_neg (show ¬ ((0 : Int), (0 : Int), (0 : Int)).1 = 2 by simp)]
   refine (none ?_).symm
   have n1 : ¬ onQ (cx : Rat) (cy : Rat) (dx : Rat) (dy : Rat) (bx : Rat) (b_y : Rat) = true := fun k => hl (turn2 (.inl (on_turn k)))
   have n2 : ¬ onQ (bx : Rat) (b_y : Rat) (bx : Rat) (b_y : Rat) (cx : Rat) (cy : Rat) = true := fun k => hl (by obtain ⟨e1, e2⟩ := on_point k; subst e1; subst e2; unfold crossZ; grind)
   have n3 : ¬ onQ (bx : Rat) (b_y : Rat) (bx : Rat) (b_y : Rat) (dx : Rat) (dy : Rat) = true := fun k => hl (by obtain ⟨e1, e2⟩ := on_point k; subst e1; subst e2; unfold crossZ; grind)
   unfold endsQ
   simp only [if_neg n1, if_neg n2, if_neg n3]
   rfl
 ·by_cases hl : crossZ (bx - ax) (b_y - ay) (cx - ax) (cy - ay) = 0
  ·have hL : (lieZ ax ay bx b_y cx cy dx dy).1 = 2 := by
    unfold lieZ
    simp only [hD, if_true, if_neg hv, hl]
   have T := turn1 (par hD hv hl)
   have hc := common_ends ax ay bx b_y cx cy dx dy (turn_int0.2 T.1) (turn_int0.2 T.2) (turn_int0.2 hl) (turn_int0.2 (flip hl))
   unfold meetQ
   rw [if_pos hs, if_neg (by rw [hL]; omega), if_pos hL, if_neg (fun h => hv (by omega))]
   exact hc
  ·have hL : lieZ ax ay bx b_y cx cy dx dy = (0, 0, 0) := by
    unfold lieZ
    simp only [hD, if_true, if_neg hv, if_neg hl]
   unfold meetQ
   rw [if_pos hs, hL, if_neg (show ¬ ((0 : Int), (0 : Int), (0 : Int)).1 = 1 by simp), if_neg (show ¬ ((0 : Int), (0 : Int), (0 : Int)).1 = 2 by simp)]
   refine (none ?_).symm
   have w0 : ∀ {X Y : Int}, onQ (cx : Rat) (cy : Rat) (dx : Rat) (dy : Rat) (X : Rat) (Y : Rat) = true → (X = ax ∧ Y = ay ∨ X = bx ∧ Y = b_y) → False := fun {X Y} k hX => by
    by_cases hw : dx - cx = 0 ∧ dy - cy = 0
    ·have e1 : dx = cx := by omega
     have e2 : dy = cy := by omega
     rw [e1, e2] at k
     obtain ⟨e3, e4⟩ := on_point k
     refine hl ?_
     rcases hX with ⟨e5, e6⟩ | ⟨e5, e6⟩
     ·have : cx - ax = 0 := by omega
      have h' : cy - ay = 0 := by omega
      rw [this, h']; unfold crossZ; grind
     ·have : cx - ax = bx - ax := by omega
      have h' : cy - ay = b_y - ay := by omega
      rw [this, h']; unfold crossZ; grind
    ·refine hl (par' hD hw (turn2 ?_))
     have := on_turn k
     rcases hX with ⟨e5, e6⟩ | ⟨e5, e6⟩
     ·rw [e5, e6] at this; exact .inl this
     ·rw [e5, e6] at this; exact .inr this
   unfold endsQ
   rw [if_neg (fun k => w0 k (.inl ⟨rfl, rfl⟩)), if_neg (fun k => w0 k (.inr ⟨rfl, rfl⟩)), if_neg (fun k => hl (on_turn k)), if_neg (fun k => hl (flip' (on_turn k)))]
   rfl
theorem meetQ_eq (ax ay bx b_y cx cy dx dy : Int) : meetQ ax ay bx b_y cx cy dx dy = rmeetQ ax ay bx b_y cx cy dx dy := by
 by_cases hs : (fitB ax ay && fitB bx b_y) = true ∧ (fitB cx cy && fitB dx dy) = true
 ·by_cases hD : crossZ (bx - ax) (b_y - ay) (dx - cx) (dy - cy) = 0
  ·exact meet_along ax ay bx b_y cx cy dx dy hs hD
  ·exact meet_cross ax ay bx b_y cx cy dx dy hs hD
 ·unfold meetQ rmeetQ
  rw [if_neg hs, if_neg hs]
theorem line_le (ax ay bx b_y cx cy dx dy f : Rat) : (lineQ ax ay bx b_y cx cy dx dy f).length ≤ 1 := by
 unfold lineQ; split <;> simp
end Go.Proofs.YtmommicmblfibaaGreat
