/- Plain: whether two ways go through one another: the program and the document answer alike. Conditions: none. A region that draws, by an invariant. Conditions: none. Locals of six cells inside a region that draws, told by what is listed. Conditions: none. -/
import Derived.Test.YtpglnfccmhkocaaGreatJMeetP6
import Derived.Test.YtpglnfccmhkocaaGreatJR2a
import Derived.Orders
import Derived.Test.YtpglnfccmhkocaaGreatJAtV
namespace Go.Proofs.YtpglnfccmhkocaaGreat
open Go.RowKit

/-- One point, that is no end. -/
def rcrossP (ax ay bx b_y cx cy dx dy : Int) (l : List (Rat × Rat)) : Prop :=
  l.length = 1 ∧ ¬ (ax = bx ∧ ay = b_y) ∧ ¬ (cx = dx ∧ cy = dy) ∧ l.getD 0 (0, 0) ≠ castP (ax, ay) ∧ l.getD 0 (0, 0) ≠ castP (bx, b_y) ∧ l.getD 0 (0, 0) ≠ castP (cx, cy) ∧ l.getD 0 (0, 0) ≠ castP (dx, dy)

theorem at_share {ax ay bx b_y f : Rat} (hv : ax ≠ bx ∨ ay ≠ b_y) : ((ax + f * (bx - ax), ay + f * (b_y - ay)) : Rat × Rat) = (ax, ay) ↔ f = 0 := by
  simp only [Prod.mk.injEq]
  constructor
  · rintro ⟨h1, h2⟩
    have e1 : f * (bx - ax) = 0 := by grind
    have e2 : f * (b_y - ay) = 0 := by grind
    rcases hv with hv | hv
    · rcases Rat.mul_eq_zero.1 e1 with h | h
      · exact h
      · exact absurd (by grind : ax = bx) hv
    · rcases Rat.mul_eq_zero.1 e2 with h | h
      · exact h
      · exact absurd (by grind : ay = b_y) hv
  · rintro rfl; constructor <;> grind
theorem at_whole {ax ay bx b_y f : Rat} (hv : ax ≠ bx ∨ ay ≠ b_y) : ((ax + f * (bx - ax), ay + f * (b_y - ay)) : Rat × Rat) = (bx, b_y) ↔ f = 1 := by
  have h := at_share (ax := bx) (ay := b_y) (bx := ax) (b_y := ay) (f := 1 - f) (by grind)
  have e : ((bx + (1 - f) * (ax - bx), b_y + (1 - f) * (ay - b_y)) : Rat × Rat) = (ax + f * (bx - ax), ay + f * (b_y - ay)) := by
    simp only [Prod.mk.injEq]; constructor <;> grind
  rw [e] at h
  rw [h]; grind
theorem quot_zero {n d : Int} (hd : d ≠ 0) : (n : Rat) / (d : Rat) = 0 ↔ n = 0 := by
  have h := quot_mul (n := n) hd
  have z : ((0 : Int) : Rat) = 0 := rfl
  constructor
  · intro e; rw [e] at h; have : (n : Rat) = ((0 : Int) : Rat) := by rw [z]; grind
    exact Rat.intCast_inj.1 this
  · rintro rfl; rw [z]; grind
theorem quot_one {n d : Int} (hd : d ≠ 0) : (n : Rat) / (d : Rat) = 1 ↔ n = d := by
  have h := quot_mul (n := n) hd
  have d0 : (d : Rat) ≠ 0 := fun e => hd (by have e2 : (d : Rat) = ((0 : Int) : Rat) := e; exact Rat.intCast_inj.1 e2)
  constructor
  · intro e; rw [e] at h; have : (n : Rat) = (d : Rat) := by grind
    exact Rat.intCast_inj.1 this
  · rintro rfl; grind

theorem commonZ_one {s t : (Int × Int) × (Int × Int)} (h : (commonZ s t).length = 1) : ∃ lo, commonZ s t = [lo] ∧ (lo = s.1 ∨ lo = t.1) := by
  have f : ∀ (c : Prop) [Decidable c] (c2 : Prop) [Decidable c2] (lo hi : Int × Int), (if c then [lo] else if c2 then [] else [lo, hi]).length = 1 → (if c then [lo] else if c2 then [] else [lo, hi]) = [lo] := by
    intro c _ c2 _ lo hi h
    by_cases k : c
    · rw [if_pos k]
    · rw [if_neg k] at h
      by_cases k2 : c2
      · rw [if_pos k2] at h; simp at h
      · rw [if_neg k2] at h; simp at h
  unfold commonZ at h ⊢
  refine ⟨_, f _ _ _ _ h, ?_⟩
  split
  · exact .inr rfl
  · exact .inl rfl

theorem cross_eq (ax ay bx b_y cx cy dx dy : Int) : crossB ax ay bx b_y cx cy dx dy = true ↔ rcrossP ax ay bx b_y cx cy dx dy (meetQ ax ay bx b_y cx cy dx dy) := by
  by_cases hs : (fitB ax ay && fitB bx b_y) = true ∧ (fitB cx cy && fitB dx dy) = true
  · by_cases hD : crossZ (bx - ax) (b_y - ay) (dx - cx) (dy - cy) = 0
    · -- along or apart: no crossing
      have hk : (lieZ ax ay bx b_y cx cy dx dy).1 ≠ 1 := by
        have f : ∀ (c : Prop) [Decidable c], (if c then ((2 : Int), (0 : Int), (0 : Int)) else (0, 0, 0)).1 ≠ 1 := fun c _ => by by_cases k : c <;> simp [k]
        unfold lieZ
        simp only [hD, if_true]
        exact f _
      have h1 : crossB ax ay bx b_y cx cy dx dy = false := by
        unfold crossB
        rw [if_pos hs, if_neg hk]
      rw [h1]
      refine ⟨fun h => by simp at h, fun h => ?_⟩
      obtain ⟨e1, -, -, a1, a2, a3, a4⟩ := h
      exfalso
      have hm : meetQ ax ay bx b_y cx cy dx dy = [] ∨ meetQ ax ay bx b_y cx cy dx dy = (commonZ (sortZ ax ay bx b_y) (sortZ cx cy dx dy)).map castP := by
        unfold meetQ
        rw [if_pos hs, if_neg hk]
        split
        · split
          · exact .inl rfl
          · exact .inr rfl
        · exact .inl rfl
      rcases hm with e | e <;> rw [e] at e1 a1 a2 a3 a4
      · simp at e1
      · rw [List.length_map] at e1
        obtain ⟨lo, h5, h6⟩ := commonZ_one e1
        rw [h5] at a1 a2 a3 a4
        have g : (List.map castP [lo]).getD 0 (0, 0) = castP lo := rfl
        rw [g] at a1 a2 a3 a4
        rcases h6 with k | k <;> rw [k] at a1 a2 a3 a4
        · rcases sortZ_ends ax ay bx b_y with ⟨j, -⟩ | ⟨j, -⟩
          · exact a1 j
          · exact a2 j
        · rcases sortZ_ends cx cy dx dy with ⟨j, -⟩ | ⟨j, -⟩
          · exact a3 j
          · exact a4 j
    · obtain ⟨D, eD⟩ : ∃ D, crossZ (bx - ax) (b_y - ay) (dx - cx) (dy - cy) = D := ⟨_, rfl⟩
      obtain ⟨n, en⟩ : ∃ n, crossZ (cx - ax) (cy - ay) (dx - cx) (dy - cy) = n := ⟨_, rfl⟩
      obtain ⟨m, em⟩ : ∃ m, crossZ (cx - ax) (cy - ay) (bx - ax) (b_y - ay) = m := ⟨_, rfl⟩
      rw [eD] at hD
      have hL : lieZ ax ay bx b_y cx cy dx dy = if shareB n D = true ∧ shareB m D = true then (1, n, D) else (0, 0, 0) := by
        unfold lieZ
        simp only [eD, en, em]
        rw [if_neg hD]
      have rD : (D : Rat) = ((bx : Rat) - ax) * ((dy : Rat) - cy) - ((b_y : Rat) - ay) * ((dx : Rat) - cx) := by
        rw [← eD]; unfold crossZ; simp only [Rat.intCast_sub, Rat.intCast_mul]
      have rn : (n : Rat) = ((cx : Rat) - ax) * ((dy : Rat) - cy) - ((cy : Rat) - ay) * ((dx : Rat) - cx) := by
        rw [← en]; unfold crossZ; simp only [Rat.intCast_sub, Rat.intCast_mul]
      have rm : (m : Rat) = ((cx : Rat) - ax) * ((b_y : Rat) - ay) - ((cy : Rat) - ay) * ((bx : Rat) - ax) := by
        rw [← em]; unfold crossZ; simp only [Rat.intCast_sub, Rat.intCast_mul]
      have D0 : (D : Rat) ≠ 0 := fun e => hD (by have e2 : (D : Rat) = ((0 : Int) : Rat) := e; exact Rat.intCast_inj.1 e2)
      have f1 := quot_mul (n := n) hD
      have g1 := quot_mul (n := m) hD
      obtain ⟨c1, c2⟩ := cramer rD D0 (f1.trans rn) (g1.trans rm)
      have v0 : (ax : Rat) ≠ bx ∨ (ay : Rat) ≠ b_y := by
        refine Decidable.byContradiction fun h => D0 ?_
        rw [rD]; grind
      have w0 : (cx : Rat) ≠ dx ∨ (cy : Rat) ≠ dy := by
        refine Decidable.byContradiction fun h => D0 ?_
        rw [rD]; grind
      have x1 : (ax : Rat) + (((bx - ax) * n : Int) : Rat) / (D : Rat) = (ax : Rat) + (n : Rat) / (D : Rat) * ((bx : Rat) - ax) := by rw [Rat.intCast_mul, Rat.intCast_sub]; grind
      have x2 : (ay : Rat) + (((b_y - ay) * n : Int) : Rat) / (D : Rat) = (ay : Rat) + (n : Rat) / (D : Rat) * ((b_y : Rat) - ay) := by rw [Rat.intCast_mul, Rat.intCast_sub]; grind
      by_cases hsh : shareB n D = true ∧ shareB m D = true
      · rw [if_pos hsh] at hL
        have hm : meetQ ax ay bx b_y cx cy dx dy = [((ax : Rat) + (n : Rat) / (D : Rat) * ((bx : Rat) - ax), (ay : Rat) + (n : Rat) / (D : Rat) * ((b_y : Rat) - ay))] := by
          unfold meetQ
          rw [if_pos hs, hL, if_pos (show ((1 : Int), n, D).1 = 1 from rfl), x1, x2]
        have hc : crossB ax ay bx b_y cx cy dx dy = true ↔ n ≠ 0 ∧ n ≠ D ∧ m ≠ 0 ∧ m ≠ D := by
          unfold crossB
          rw [if_pos hs, hL, if_pos (show ((1 : Int), n, D).1 = 1 from rfl), em]
          by_cases k : n ≠ 0 ∧ n ≠ D ∧ m ≠ 0 ∧ m ≠ D
          · rw [if_pos k]; simp only [true_iff]; exact k
          · rw [if_neg k]
            constructor
            · intro h; simp at h
            · intro h; exact absurd h k
        rw [hc, hm]
        have s1 := at_share (f := (n : Rat) / (D : Rat)) v0
        have s2 := at_whole (f := (n : Rat) / (D : Rat)) v0
        have s3 := at_share (f := (m : Rat) / (D : Rat)) w0
        have s4 := at_whole (f := (m : Rat) / (D : Rat)) w0
        rw [quot_zero hD] at s1 s3
        rw [quot_one hD] at s2 s4
        rw [← c1, ← c2] at s3 s4
        have ab : ¬ (ax = bx ∧ ay = b_y) := fun h => by
          rcases v0 with v | v
          · exact v (by rw [h.1])
          · exact v (by rw [h.2])
        have cd : ¬ (cx = dx ∧ cy = dy) := fun h => by
          rcases w0 with v | v
          · exact v (by rw [h.1])
          · exact v (by rw [h.2])
        have g : ∀ P : Rat × Rat, [P].getD 0 (0, 0) = P := fun _ => rfl
        unfold rcrossP
        rw [g]
        unfold castP
        constructor
        · rintro ⟨k1, k2, k3, k4⟩
          exact ⟨rfl, ab, cd, fun h => k1 (s1.1 h), fun h => k2 (s2.1 h), fun h => k3 (s3.1 h), fun h => k4 (s4.1 h)⟩
        · rintro ⟨-, -, -, k1, k2, k3, k4⟩
          exact ⟨fun h => k1 (s1.2 h), fun h => k2 (s2.2 h), fun h => k3 (s3.2 h), fun h => k4 (s4.2 h)⟩
      · rw [if_neg hsh] at hL
        have hm : meetQ ax ay bx b_y cx cy dx dy = [] := by
          unfold meetQ
          rw [if_pos hs, hL, if_neg (show ¬ ((0 : Int), (0 : Int), (0 : Int)).1 = 1 by simp), if_neg (show ¬ ((0 : Int), (0 : Int), (0 : Int)).1 = 2 by simp)]
        have hc : crossB ax ay bx b_y cx cy dx dy = false := by
          unfold crossB
          rw [if_pos hs, hL, if_neg (show ¬ ((0 : Int), (0 : Int), (0 : Int)).1 = 1 by simp)]
        rw [hc, hm]
        unfold rcrossP
        simp
  · have h1 : crossB ax ay bx b_y cx cy dx dy = false := by unfold crossB; rw [if_neg hs]
    have h2 : meetQ ax ay bx b_y cx cy dx dy = [] := by unfold meetQ; rw [if_neg hs]
    rw [h1, h2]
    unfold rcrossP
    simp
end Go.Proofs.YtpglnfccmhkocaaGreat
namespace Go.Proofs.YtpglnfccmhkocaaGreat
open Go.RowKit

section
variable {P : Program} {md : Region.Mode} {ops : Array Oper} {Q : Exit → Act → World → Prop}

theorem ready_mem {l : Array Bool} {i : Nat} (h : i ∈ Region.ready md ops l) : i < ops.size ∧ l.getD i true = false := by
  unfold Region.ready at h
  simp only [List.mem_filter, List.mem_range, Bool.and_eq_true, Bool.not_eq_true'] at h
  exact ⟨h.1, h.2.1⟩
theorem ready_nil {l : Array Bool} (hl : l.toList.count false = 0) : Region.ready md ops l = [] := by
  refine List.eq_nil_iff_forall_not_mem.2 fun i hi => ?_
  have h := (ready_mem hi).2
  rw [Array.getD_eq_getD_getElem?] at h
  cases hx : l[i]? with
  | none => rw [hx] at h; simp at h
  | some x =>
    rw [hx] at h
    simp only [Option.getD_some] at h
    subst h
    have : false ∈ l.toList := by simpa using Array.mem_of_getElem? hx
    exact absurd this (List.count_eq_zero.1 hl)

/-- An invariant of what is listed, the act and the world: shown behind each operation that may come up, it serves every order. -/
theorem wpAny_inv (I : Array Bool → Act → World → Prop) (h0 : ∀ l a w, I l a w → Region.ready md ops l = [] → Q .normal a w)
    (h1 : ∀ l a w i, I l a w → i ∈ Region.ready md ops l → wpOp P ops Q i (fun a' w' => I (l.setIfInBounds i true) a' w') a w) :
    ∀ (fuel : Nat) (l : Array Bool) (a : Act) (w : World), l.toList.count false ≤ fuel → I l a w → wpAny P md ops Q fuel l a w
  | 0, l, a, w, hf, hI => ⟨ready_nil (by omega), h0 l a w hI (ready_nil (by omega))⟩
  | fuel + 1, l, a, w, hf, hI => by
    refine ⟨h0 l a w hI, fun i hi => ?_⟩
    refine wpOp_mono (fun a' w' h => wpAny_inv I h0 h1 fuel _ a' w' ?_ h) (h1 l a w i hI hi)
    have hg := (ready_mem hi).2
    rw [Array.getD_eq_getD_getElem?] at hg
    cases hx : l[i]? with
    | none => rw [hx] at hg; simp at hg
    | some x =>
      rw [hx] at hg
      simp only [Option.getD_some] at hg
      subst hg
      obtain ⟨hlt, he⟩ := Array.getElem?_eq_some_iff.1 hx
      rw [Array.toList_setIfInBounds, List.count_set (by simpa using hlt)]
      have he2 : l.toList[i]'(by simpa using hlt) = false := by simpa using he
      have hpos : 0 < l.toList.count false := List.count_pos_iff.2 (by simpa using Array.mem_of_getElem? hx)
      rw [he2, if_pos (by rfl), if_neg (by decide)]
      exact Nat.le_trans (Nat.le_of_eq (Nat.add_zero _)) (Nat.le_trans (Nat.sub_le_sub_right hf 1) (by omega))

/-- The whole region. -/
theorem wp_region_inv {id : Nat} {a : Act} {w : World} (hm : P.follows .mixedOrders = true) (I : Array Bool → Act → World → Prop)
    (h0 : ∀ l a w, I l a w → Region.ready .any ops l = [] → Q .normal a w)
    (h1 : ∀ l a w i, I l a w → i ∈ Region.ready .any ops l → wpOp P ops Q i (fun a' w' => I (l.setIfInBounds i true) a' w') a w)
    (hI : I (Array.replicate ops.size false) a w.drew) : (Code.region id ops true).wp P Q a w :=
  wp_region_any hm (wpAny_inv I h0 h1 ops.size _ a _ (by rw [Array.toList_replicate]; exact Nat.le_trans List.count_le_length (by simp)) hI)
/-- The same, the act as it stands handed to the invariant. -/
theorem wp_region_inv2 {id : Nat} {a : Act} {w : World} (hm : P.follows .mixedOrders = true) (I : Act → Array Bool → Act → World → Prop)
    (h0 : ∀ l a' w, I a l a' w → Region.ready .any ops l = [] → Q .normal a' w)
    (h1 : ∀ l a' w i, I a l a' w → i ∈ Region.ready .any ops l → wpOp P ops Q i (fun a' w' => I a (l.setIfInBounds i true) a' w') a' w)
    (hI : I a (Array.replicate ops.size false) a w.drew) : (Code.region id ops true).wp P Q a w := wp_region_inv hm (I a) h0 h1 hI

/-- Every operation waits for earlier ones alone. -/
def Region.inRow (md : Region.Mode) (ops : Array Oper) : Bool := (List.range ops.size).all fun i => ((ops[i]?).map (·.after.all fun e => !Region.binds md e || decide (e.on < i))).getD true
theorem all_listed (hw : Region.inRow md ops = true) {l : Array Bool} (h : Region.ready md ops l = []) : ∀ i, i < ops.size → l.getD i true = true := by
  intro i
  induction i using Nat.strongRecOn with
  | _ i ih =>
    intro hi
    refine Decidable.byContradiction fun hne => ?_
    have hf : l.getD i true = false := by simpa using hne
    have hmem : i ∈ Region.ready md ops l := by
      refine mem_ready.2 ⟨hf, ops[i], Array.getElem?_eq_getElem hi, fun e he hb => ?_⟩
      have h1 := List.all_eq_true.1 hw i (List.mem_range.2 hi)
      rw [Array.getElem?_eq_getElem hi] at h1
      simp only [Option.map_some, Option.getD_some, Array.all_eq_true_iff_forall_mem, Bool.or_eq_true, Bool.not_eq_true', decide_eq_true_eq] at h1
      have h2 := (h1 e he).resolve_left (by rw [hb]; simp)
      have h3 := ih e.on h2 (by omega)
      by_cases hs : e.on < l.size
      · simpa [Array.getD_eq_getD_getElem?, hs] using h3
      · exfalso
        have hs2 : ¬ i < l.size := by omega
        simp [Array.getD_eq_getD_getElem?, hs2] at hf
    rw [h] at hmem
    cases hmem
/-- What comes up has what it waits for behind it. -/
theorem ready_pre {l : Array Bool} {i : Nat} (h : i ∈ Region.ready md ops l) (j : Nat) (hj : ((ops[i]?).map (·.after.any fun e => Region.binds md e && e.on == j)).getD false = true) : l.getD j false = true := by
  obtain ⟨-, o, ho, hall⟩ := mem_ready.1 h
  rw [ho] at hj
  simp only [Option.map_some, Option.getD_some, Array.any_eq_true] at hj
  obtain ⟨k, hk, h2⟩ := hj
  simp only [Bool.and_eq_true, beq_iff_eq] at h2
  rw [← h2.2]
  exact hall _ (Array.getElem_mem hk) h2.1
/-- One operation without a guard, what follows as a letter. -/
theorem wpOp_inv {I : Act → World → Prop} {i : Nat} {o : Oper} {a : Act} {w : World} (ho : ops[i]? = some o) (hg : o.guard = none) (h : ∀ K : Act → World → Prop, Hid (∀ a w, I a w → K a w) → o.wp P a w K Q) : wpOp P ops Q i I a w := by
  unfold wpOp
  simp only [ho]
  have hw : Region.wanted o (yielded ops a.tmps) = true := by unfold Region.wanted; rw [hg]
  rw [hw]
  exact .inl (h _ (Lib.hid fun _ _ h => h))

/-- The same, the act at the beginning as a letter. -/
theorem wp_region_inv3 {id : Nat} {a : Act} {w : World} (hm : P.follows .mixedOrders = true) (I : Act → Array Bool → Act → World → Prop)
    (h0 : ∀ a0, Hid (a0 = a) → ∀ l a' w, I a0 l a' w → Region.ready .any ops l = [] → Q .normal a' w)
    (h1 : ∀ a0, Hid (a0 = a) → ∀ l a' w i, I a0 l a' w → i ∈ Region.ready .any ops l → wpOp P ops Q i (fun a' w' => I a0 (l.setIfInBounds i true) a' w') a' w)
    (hI : ∀ a0, Hid (a0 = a) → I a0 (Array.replicate ops.size false) a0 w.drew) : (Code.region id ops true).wp P Q a w :=
  wp_region_inv hm (I a) (h0 a (Lib.hid rfl)) (h1 a (Lib.hid rfl)) (hI a (Lib.hid rfl))
end

/-- What a slot holds. -/
def Slot (a : Act) (d : Nat) (v : Value) : Prop := a.tmps[d]? = some v
theorem Slot.eval {a : Act} {d : Nat} {v : Value} (h : Slot a d v) : a.eval (.tmp d) = v := by
  unfold Slot at h
  show a.tmps.getD d undef = v
  rw [Array.getD_eq_getD_getElem?, h]; rfl
theorem Slot.lt {a : Act} {d : Nat} {v : Value} (h : Slot a d v) : d < a.tmps.size := (Array.getElem?_eq_some_iff.1 h).1
theorem Slot.put {a : Act} {d e : Nat} {v u : Value} (h : Slot a d v) (ne : e ≠ d) : Slot (a.put (some e) u) d v := by
  show (a.tmps.setIfInBounds e u)[d]? = some v
  rw [Array.getElem?_setIfInBounds_ne ne]; exact h
theorem Slot.new {a : Act} {d : Nat} {v : Value} (h : d < a.tmps.size) : Slot (a.put (some d) v) d v := by
  show (a.tmps.setIfInBounds d v)[d]? = some v
  rw [Array.getElem?_setIfInBounds_self_of_lt h]
/-- An act that differs from another in these slots alone. -/
def Alike (a0 a : Act) (D : List Nat) : Prop := a.tmps.size = a0.tmps.size ∧ (∀ t, t ∉ D → a.tmps[t]? = a0.tmps[t]?) ∧ a.defers = a0.defers
theorem Alike.refl (a : Act) (D : List Nat) : Alike a a D := ⟨rfl, fun _ _ => rfl, rfl⟩
theorem Alike.put {a0 a : Act} {D : List Nat} (h : Alike a0 a D) {d : Nat} (hd : d ∈ D) (v : Value) : Alike a0 (a.put (some d) v) D := by
  obtain ⟨h1, h2, h3⟩ := h
  refine ⟨by show (a.tmps.setIfInBounds d v).size = _; rw [Array.size_setIfInBounds]; exact h1, fun t ht => ?_, h3⟩
  show (a.tmps.setIfInBounds d v)[t]? = _
  rw [Array.getElem?_setIfInBounds_ne (show d ≠ t from fun e => ht (by rw [← e]; exact hd))]
  exact h2 t ht
theorem Alike.slot {a0 a : Act} {D : List Nat} (h : Alike a0 a D) {t : Nat} {v : Value} (hs : Slot a0 t v) (ht : t ∉ D) : Slot a t v := (h.2.1 t ht).trans hs
theorem Alike.lt {a0 a : Act} {D : List Nat} (h : Alike a0 a D) {d : Nat} (hd : d < a0.tmps.size) : d < a.tmps.size := by rw [h.1]; exact hd
theorem Alike.eq {a : Act} : ∀ (L : List (Nat × Value)) (a0 : Act), Alike a0 a (L.map Prod.fst) → (∀ p ∈ L, Slot a p.1 p.2) → a = L.foldl (fun x p => x.put (some p.1) p.2) a0
  | [], a0, h, _ => by
    obtain ⟨h1, h2, h3⟩ := h
    obtain ⟨t, d⟩ := a
    obtain ⟨t0, d0⟩ := a0
    have ht : t = t0 := Array.ext_getElem? fun i => h2 i (by simp)
    simp only at h3
    rw [List.foldl_nil, ht, h3]
  | (d, v) :: L, a0, h, hs => by
    refine Alike.eq L (a0.put (some d) v) ?_ (fun p hp => hs p (List.mem_cons_of_mem _ hp))
    obtain ⟨h1, h2, h3⟩ := h
    have hd := hs (d, v) List.mem_cons_self
    refine ⟨by show _ = (a0.tmps.setIfInBounds d v).size; rw [Array.size_setIfInBounds]; exact h1, fun t ht => ?_, h3⟩
    show _ = (a0.tmps.setIfInBounds d v)[t]?
    by_cases e : t = d
    · subst e
      rw [Array.getElem?_setIfInBounds_self_of_lt (by rw [← h1]; exact hd.lt)]
      exact hd
    · rw [Array.getElem?_setIfInBounds_ne (fun k => e k.symm)]
      exact h2 t (by simp only [List.map_cons, List.mem_cons]; rintro (h | h); exact e h; exact ht h)
end Go.Proofs.YtpglnfccmhkocaaGreat
namespace Go.Proofs.YtpglnfccmhkocaaGreat
open Go.RowKit

theorem Grew.store6 {w0 w : World} {e : Nat} {u0 u1 u2 u3 u4 u5 : Value} (g : Grew w0 w) (h : w0.heap.size ≤ e) : Grew w0 (set6 w e u0 u1 u2 u3 u4 u5) :=
  (((((g.setCell h _).setCell h _).setCell h _).setCell h _).setCell h _).setCell h _
/-- A local of six cells: ca tells that it is allocated, cs that it is stored; its slot is d. -/
def Loc (a : Act) (d : Nat) (w0 w : World) (ca cs : Bool) (e : Nat) (S : World → Value → Prop) : Prop :=
  Hid ((cs = true → ca = true) ∧ (ca = true → Slot a d (.pointer (some ⟨e, 0, none⟩)) ∧ w0.heap.size ≤ e ∧ e < w.heap.size ∧ (cs = false → Res6 w e) ∧ (cs = true → At6 w e S)))
theorem Loc.zero {a : Act} {d : Nat} {w0 w : World} {e : Nat} {S : World → Value → Prop} : Loc a d w0 w false false e S := Lib.hid ⟨fun h => by simp at h, fun h => by simp at h⟩
theorem Loc.put {a : Act} {d : Nat} {w0 w : World} {ca cs : Bool} {e : Nat} {S : World → Value → Prop} (h : Loc a d w0 w ca cs e S) {d' : Nat} {v : Value} (ne : d' ≠ d) : Loc (a.put (some d') v) d w0 w ca cs e S :=
  Lib.hid ⟨h.1, fun hc => ⟨(h.2 hc).1.put ne, (h.2 hc).2⟩⟩
theorem Loc.grew {a : Act} {d : Nat} {w0 w w' : World} {ca cs : Bool} {e : Nat} {S : World → Value → Prop} (h : Loc a d w0 w ca cs e S) (hS : Rd S) (g : Grew w w') : Loc a d w0 w' ca cs e S := by
  obtain ⟨h1, h2⟩ := h
  refine Lib.hid ⟨h1, fun hc => ?_⟩
  obtain ⟨e1, e2, e3, e4, e5⟩ := h2 hc
  exact ⟨e1, e2, Nat.lt_of_lt_of_le e3 g.size, fun k => (e4 k).grew g, fun k => (e5 k).grew hS g⟩
theorem Loc.new {a : Act} {d : Nat} {w0 w : World} {cs : Bool} {e : Nat} {t : TypeId} {S : World → Value → Prop} (h : Loc a d w0 w false cs e S) (hle : w0.heap.size ≤ w.heap.size) (hd : d < a.tmps.size) :
    Loc (a.put (some d) (.pointer (some ⟨w.heap.size, 0, none⟩))) d w0 (w.alloc (.cells #[.bool false, .slice none 0 0, .slice none 0 0, .bool false, .slice none 0 0, .slice none 0 0] t)) true cs w.heap.size S := by
  refine Lib.hid ⟨fun _ => rfl, fun _ => ⟨Slot.new hd, hle, by simp, fun _ => res6_at w t, fun hc => ?_⟩⟩
  have := h.1 hc
  simp at this
theorem Loc.fresh {a : Act} {d : Nat} {w0 w : World} {e : Nat} {S : World → Value → Prop} (h : Loc a d w0 w true false e S) : Slot a d (.pointer (some ⟨e, 0, none⟩)) ∧ w0.heap.size ≤ e ∧ Res6 w e := by
  obtain ⟨-, h2⟩ := h
  obtain ⟨e1, e2, -, e4, -⟩ := h2 rfl
  exact ⟨e1, e2, e4 rfl⟩
theorem Loc.done {a : Act} {d : Nat} {w0 w : World} {e : Nat} {S : World → Value → Prop} (h : Loc a d w0 w true true e S) : Slot a d (.pointer (some ⟨e, 0, none⟩)) ∧ w0.heap.size ≤ e ∧ At6 w e S := by
  obtain ⟨-, h2⟩ := h
  obtain ⟨e1, e2, -, -, e5⟩ := h2 rfl
  exact ⟨e1, e2, e5 rfl⟩
theorem Loc.ne {a : Act} {d : Nat} {w0 w : World} {ca cs : Bool} {e : Nat} {S : World → Value → Prop} (h : Loc a d w0 w ca cs e S) (hc : ca = true) : e ≠ w.heap.size := by
  obtain ⟨-, -, h3, -⟩ := h.2 hc
  omega
theorem Loc.stored {x : Act} {d0 : Nat} {w0 w : World} {b b' : Bool} {A C A' C' : Option Addr} {n c m d n' c' m' d' e : Nat} {S : World → Value → Prop} (hS : Rd S) (hs : Slot x d0 (.pointer (some ⟨e, 0, none⟩))) (hle : w0.heap.size ≤ e) (r : Res6 w e)
    (hV : S w (.agg #[.bool b, .slice A n c, .slice C m d, .bool b', .slice A' n' c', .slice C' m' d'])) :
    Loc x d0 w0 (set6 w e (.bool b) (.slice A n c) (.slice C m d) (.bool b') (.slice A' n' c') (.slice C' m' d')) true true e S :=
  Lib.hid ⟨fun _ => rfl, fun _ => ⟨hs, hle, by simpa using r.lt, fun h => by simp at h, fun _ => At6.of_store hS r (Keeps.refl _) hV⟩⟩
theorem Loc.far {a : Act} {d : Nat} {w0 w : World} {ca cs : Bool} {e h : Nat} {u0 u1 u2 u3 u4 u5 : Value} {S : World → Value → Prop} (l : Loc a d w0 w ca cs e S) (hS : Rd S) (r : Res6 w h) (ne : e ≠ h) :
    Loc a d w0 (set6 w h u0 u1 u2 u3 u4 u5) ca cs e S := by
  obtain ⟨h1, h2⟩ := l
  refine Lib.hid ⟨h1, fun hc => ?_⟩
  obtain ⟨e1, e2, e3, e4, e5⟩ := h2 hc
  exact ⟨e1, e2, by simpa using e3, fun k => (e4 k).store_far r ne, fun k => (e5 k).store_far hS r ne⟩
/-- Three cells stored anew. -/
abbrev set3 (w : World) (r : Nat) (u0 u1 u2 : Value) : World := ((w.setCell ⟨r, 0, none⟩ u0).setCell ⟨r, 1, none⟩ u1).setCell ⟨r, 2, none⟩ u2
theorem Grew.store3 {w0 w : World} {e : Nat} {u0 u1 u2 : Value} (g : Grew w0 w) (h : w0.heap.size ≤ e) : Grew w0 (set3 w e u0 u1 u2) := ((g.setCell h _).setCell h _).setCell h _
theorem res3_at (w : World) (t : TypeId) : Res3 (w.alloc (.cells #[.bool false, .slice none 0 0, .slice none 0 0] t)) w.heap.size 0 (.bool false) (.slice none 0 0) (.slice none 0 0) :=
  ⟨by simp [go_sem], by simp [go_sem], by simp [go_sem], by simp [go_sem], by simp [go_sem], by simp [go_sem], by simp⟩
/-- A local of three cells: ca tells that it is allocated, cs that it is stored; its slot is d. -/
def Loc3 (a : Act) (d : Nat) (w0 w : World) (ca cs : Bool) (e : Nat) (S : World → Value → Prop) : Prop :=
  Hid ((cs = true → ca = true) ∧ (ca = true → Slot a d (.pointer (some ⟨e, 0, none⟩)) ∧ w0.heap.size ≤ e ∧ e < w.heap.size ∧ (cs = false → Res3 w e 0 (.bool false) (.slice none 0 0) (.slice none 0 0)) ∧ (cs = true → At3 w e S)))
theorem Loc3.zero {a : Act} {d : Nat} {w0 w : World} {e : Nat} {S : World → Value → Prop} : Loc3 a d w0 w false false e S := Lib.hid ⟨fun h => by simp at h, fun h => by simp at h⟩
theorem Loc3.put {a : Act} {d : Nat} {w0 w : World} {ca cs : Bool} {e : Nat} {S : World → Value → Prop} (h : Loc3 a d w0 w ca cs e S) {d' : Nat} {v : Value} (ne : d' ≠ d) : Loc3 (a.put (some d') v) d w0 w ca cs e S :=
  Lib.hid ⟨h.1, fun hc => ⟨(h.2 hc).1.put ne, (h.2 hc).2⟩⟩
theorem Loc3.grew {a : Act} {d : Nat} {w0 w w' : World} {ca cs : Bool} {e : Nat} {S : World → Value → Prop} (h : Loc3 a d w0 w ca cs e S) (hS : Rd S) (g : Grew w w') : Loc3 a d w0 w' ca cs e S := by
  obtain ⟨h1, h2⟩ := h
  refine Lib.hid ⟨h1, fun hc => ?_⟩
  obtain ⟨e1, e2, e3, e4, e5⟩ := h2 hc
  exact ⟨e1, e2, Nat.lt_of_lt_of_le e3 g.size, fun k => (e4 k).grew g, fun k => (e5 k).grew hS g⟩
theorem Loc3.new {a : Act} {d : Nat} {w0 w : World} {cs : Bool} {e : Nat} {t : TypeId} {S : World → Value → Prop} (h : Loc3 a d w0 w false cs e S) (hle : w0.heap.size ≤ w.heap.size) (hd : d < a.tmps.size) :
    Loc3 (a.put (some d) (.pointer (some ⟨w.heap.size, 0, none⟩))) d w0 (w.alloc (.cells #[.bool false, .slice none 0 0, .slice none 0 0] t)) true cs w.heap.size S := by
  refine Lib.hid ⟨fun _ => rfl, fun _ => ⟨Slot.new hd, hle, by simp, fun _ => res3_at w t, fun hc => ?_⟩⟩
  have := h.1 hc
  simp at this
theorem Loc3.fresh {a : Act} {d : Nat} {w0 w : World} {e : Nat} {S : World → Value → Prop} (h : Loc3 a d w0 w true false e S) : Slot a d (.pointer (some ⟨e, 0, none⟩)) ∧ w0.heap.size ≤ e ∧ Res3 w e 0 (.bool false) (.slice none 0 0) (.slice none 0 0) := by
  obtain ⟨-, h2⟩ := h
  obtain ⟨e1, e2, -, e4, -⟩ := h2 rfl
  exact ⟨e1, e2, e4 rfl⟩
theorem Loc3.done {a : Act} {d : Nat} {w0 w : World} {e : Nat} {S : World → Value → Prop} (h : Loc3 a d w0 w true true e S) : Slot a d (.pointer (some ⟨e, 0, none⟩)) ∧ w0.heap.size ≤ e ∧ At3 w e S := by
  obtain ⟨-, h2⟩ := h
  obtain ⟨e1, e2, -, -, e5⟩ := h2 rfl
  exact ⟨e1, e2, e5 rfl⟩
theorem Loc3.ne {a : Act} {d : Nat} {w0 w : World} {ca cs : Bool} {e : Nat} {S : World → Value → Prop} (h : Loc3 a d w0 w ca cs e S) (hc : ca = true) : e ≠ w.heap.size := by
  obtain ⟨-, -, h3, -⟩ := h.2 hc
  omega
theorem Loc3.stored {x : Act} {d0 : Nat} {w0 w : World} {b : Bool} {A C : Option Addr} {n c m d e : Nat} {S : World → Value → Prop} (hS : Rd S) (hs : Slot x d0 (.pointer (some ⟨e, 0, none⟩))) (hle : w0.heap.size ≤ e) (r : Res3 w e 0 (.bool false) (.slice none 0 0) (.slice none 0 0))
    (hV : S w (.agg #[.bool b, .slice A n c, .slice C m d])) :
    Loc3 x d0 w0 (set3 w e (.bool b) (.slice A n c) (.slice C m d)) true true e S :=
  Lib.hid ⟨fun _ => rfl, fun _ => ⟨hs, hle, by simpa using r.lt, fun h => by simp at h, fun _ => At3.of_store hS r (Keeps.refl _) hV⟩⟩
theorem Loc3.far {a : Act} {d : Nat} {w0 w : World} {ca cs : Bool} {e h : Nat} {u0 u1 u2 : Value} {S : World → Value → Prop} (l : Loc3 a d w0 w ca cs e S) (hS : Rd S) (r : Res3 w h 0 (.bool false) (.slice none 0 0) (.slice none 0 0)) (ne : e ≠ h) :
    Loc3 a d w0 (set3 w h u0 u1 u2) ca cs e S := by
  obtain ⟨h1, h2⟩ := l
  refine Lib.hid ⟨h1, fun hc => ?_⟩
  obtain ⟨e1, e2, e3, e4, e5⟩ := h2 hc
  exact ⟨e1, e2, by simpa using e3, fun k => (e4 k).store_far r ne, fun k => (e5 k).store_far hS r ne⟩
/-- What a slot holds once an operation is listed. -/
def Got (a : Act) (d : Nat) (w : World) (c : Bool) (S : World → Value → Prop) : Prop := Hid (c = true → ∃ v, Slot a d v ∧ S w v)
theorem Got.put {a : Act} {d : Nat} {w : World} {c : Bool} {S : World → Value → Prop} (h : Got a d w c S) {d' : Nat} {v : Value} (ne : d' ≠ d) : Got (a.put (some d') v) d w c S :=
  Lib.hid fun hc => by obtain ⟨v, h1, h2⟩ := h hc; exact ⟨v, h1.put ne, h2⟩
theorem Got.kept {a : Act} {d : Nat} {w w' : World} {c : Bool} {S : World → Value → Prop} (h : Got a d w c S) (hS : Rd S) (k : Keeps w w') : Got a d w' c S :=
  Lib.hid fun hc => by obtain ⟨v, h1, h2⟩ := h hc; exact ⟨v, h1, hS _ _ _ h2 k⟩
theorem Got.new {a : Act} {d : Nat} {w : World} {c : Bool} {S : World → Value → Prop} {v : Value} (hd : d < a.tmps.size) (h : S w v) : Got (a.put (some d) v) d w c S :=
  Lib.hid fun _ => ⟨v, Slot.new hd, h⟩
theorem Got.zero {a : Act} {d : Nat} {w : World} {S : World → Value → Prop} : Got a d w false S := Lib.hid fun h => by simp at h
def Has (a : Act) (d : Nat) (c : Bool) (v : Value) : Prop := Hid (c = true → Slot a d v)
theorem Has.put {a : Act} {d : Nat} {c : Bool} {v : Value} (h : Has a d c v) {d' : Nat} {u : Value} (ne : d' ≠ d) : Has (a.put (some d') u) d c v := Lib.hid fun hc => (h hc).put ne
theorem Has.new {a : Act} {d : Nat} {c : Bool} {v : Value} (hd : d < a.tmps.size) : Has (a.put (some d) v) d c v := Lib.hid fun _ => Slot.new hd
theorem Has.zero {a : Act} {d : Nat} {v : Value} : Has a d false v := Lib.hid fun h => by simp at h

def Inv4 (w0 : World) (p0 p1 p3 p4 p6 p7 p9 p10 : Value) (S2 S5 S8 S11 : World → Value → Prop) (a0 : Act) (l : Array Bool) (a : Act) (w : World) : Prop :=
  ∃ (c0 c1 c2 c3 c4 c5 c6 c7 c8 c9 c10 c11 c12 c13 c14 c15 c16 c17 c18 c19 : Bool) (e12 e13 e14 e15 : Nat), l = #[c0, c1, c2, c3, c4, c5, c6, c7, c8, c9, c10, c11, c12, c13, c14, c15, c16, c17, c18, c19] ∧ Alike a0 a [89, 90, 91, 92, 93, 94, 95, 96, 97, 98, 99, 100, 5, 6, 7, 8] ∧ Hid (Grew w0 w) ∧
    Has a 89 c0 p0 ∧ Has a 90 c1 p1 ∧ Got a 91 w c2 S2 ∧ Has a 92 c3 p3 ∧ Has a 93 c4 p4 ∧ Got a 94 w c5 S5 ∧ Has a 95 c6 p6 ∧ Has a 96 c7 p7 ∧ Got a 97 w c8 S8 ∧ Has a 98 c9 p9 ∧ Has a 99 c10 p10 ∧ Got a 100 w c11 S11 ∧ Loc a 5 w0 w c12 c16 e12 S2 ∧ Loc a 6 w0 w c13 c17 e13 S5 ∧ Loc a 7 w0 w c14 c18 e14 S8 ∧ Loc a 8 w0 w c15 c19 e15 S11 ∧ Hid (c12 = true → c13 = true → e12 ≠ e13) ∧ Hid (c12 = true → c14 = true → e12 ≠ e14) ∧ Hid (c12 = true → c15 = true → e12 ≠ e15) ∧ Hid (c13 = true → c14 = true → e13 ≠ e14) ∧ Hid (c13 = true → c15 = true → e13 ≠ e15) ∧ Hid (c14 = true → c15 = true → e14 ≠ e15)
def Inv6 (w0 : World) (p0 p1 p2 p4 p5 p6 : Value) (S3 S7 : World → Value → Prop) (a0 : Act) (l : Array Bool) (a : Act) (w : World) : Prop :=
  ∃ (c0 c1 c2 c3 c4 c5 c6 c7 c8 c9 c10 c11 : Bool) (e8 e9 : Nat), l = #[c0, c1, c2, c3, c4, c5, c6, c7, c8, c9, c10, c11] ∧ Alike a0 a [101, 102, 103, 104, 105, 106, 107, 108, 9, 10] ∧ Hid (Grew w0 w) ∧
    Has a 101 c0 p0 ∧ Has a 102 c1 p1 ∧ Has a 103 c2 p2 ∧ Got a 104 w c3 S3 ∧ Has a 105 c4 p4 ∧ Has a 106 c5 p5 ∧ Has a 107 c6 p6 ∧ Got a 108 w c7 S7 ∧ Loc3 a 9 w0 w c8 c10 e8 S3 ∧ Loc3 a 10 w0 w c9 c11 e9 S7 ∧ Hid (c8 = true → c9 = true → e8 ≠ e9)
def Inv8 (w0 : World) (p0 p1 p2 : Value) (S3 S4 S5 S6 S7 S10 : World → Value → Prop) (a0 : Act) (l : Array Bool) (a : Act) (w : World) : Prop :=
  ∃ (c0 c1 c2 c3 c4 c5 c6 c7 c8 c9 c10 : Bool) (e8 : Nat), l = #[c0, c1, c2, c3, c4, c5, c6, c7, c8, c9, c10] ∧ Alike a0 a [114, 115, 116, 117, 118, 113, 119, 120, 11, 12] ∧ Hid (Grew w0 w) ∧
    Has a 114 c0 p0 ∧ Has a 115 c1 p1 ∧ Has a 116 c2 p2 ∧ Got a 117 w c3 S3 ∧ Got a 118 w c4 S4 ∧ Got a 113 w c5 S5 ∧ Got a 119 w c6 S6 ∧ Got a 120 w c7 S7 ∧ Loc3 a 11 w0 w c8 c9 e8 S6 ∧ Got a 12 w c10 S10
end Go.Proofs.YtpglnfccmhkocaaGreat
