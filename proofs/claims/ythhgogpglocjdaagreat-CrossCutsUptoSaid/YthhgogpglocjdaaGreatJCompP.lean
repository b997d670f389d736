/- Plain: how many words there are where two ways meet. Conditions: none. Plain: where ways meet one, in its order. Conditions: none. append of a row of spots to a row that a call owns. Conditions: fewer than 2^40 spots. Plain: alike neighbours, each once; what is sorted and so reduced is the document's row. Conditions: none. -/
import Derived.Test.YthhgogpglocjdaaGreatJMeetP8
import Derived.Test.YthhgogpglocjdaaGreatJCross5
import Derived.Test.YthhgogpglocjdaaGreatJRowP
namespace Go.Proofs.YthhgogpglocjdaaGreat
open Go.RowKit

theorem QB_24 {x : Int} (h0 : -8388607 ≤ x) (h1 : x ≤ 8388607) : QB (x : Rat) 1 := QB_int x 1 (len_le (by omega) (by rw [Nat.pow_one]; omega)) (by omega)

theorem area_int (ax ay cx cy dx dy : Int) : areaQ (cx : Rat) (cy : Rat) (dx : Rat) (dy : Rat) (ax : Rat) (ay : Rat) = ((crossZ (dx - cx) (dy - cy) (ax - cx) (ay - cy) : Int) : Rat) := by
  rw [areaQ_eq]; unfold crossZ; simp only [Rat.intCast_sub, Rat.intCast_mul]
/-- How many words a share on a way has. -/
theorem share_qb {ax ay bx b_y cx cy dx dy : Int} (h1 : fitB ax ay = true ∧ fitB bx b_y = true) (h2 : fitB cx cy = true ∧ fitB dx dy = true) {p q : Rat}
    (hp : areaQ (cx : Rat) (cy : Rat) (dx : Rat) (dy : Rat) (ax : Rat) (ay : Rat) = p) (hq : areaQ (cx : Rat) (cy : Rat) (dx : Rat) (dy : Rat) (bx : Rat) (b_y : Rat) = q) (ne : cmpQ p q ≠ 0) : p - q ≠ 0 ∧ QB (p / (p - q)) 2 := by
  have i1 := (fitB_iff _ _).1 h1.1
  have i2 := (fitB_iff _ _).1 h1.2
  have i3 := (fitB_iff _ _).1 h2.1
  have i4 := (fitB_iff _ _).1 h2.2
  have ne2 : p - q ≠ 0 := fun e => ne (cmpQ_zero.2 (by grind))
  refine ⟨ne2, ?_⟩
  rw [area_int] at hp hq
  have b1 := cross24 (show In24 (dx - cx) by unfold In24; omega) (show In24 (dy - cy) by unfold In24; omega) (show In24 (ax - cx) by unfold In24; omega) (show In24 (ay - cy) by unfold In24; omega)
  have b2 := cross24 (show In24 (dx - cx) by unfold In24; omega) (show In24 (dy - cy) by unfold In24; omega) (show In24 (bx - cx) by unfold In24; omega) (show In24 (b_y - cy) by unfold In24; omega)
  generalize crossZ (dx - cx) (dy - cy) (ax - cx) (ay - cy) = u at *
  generalize crossZ (dx - cx) (dy - cy) (bx - cx) (b_y - cy) = v at *
  have e : p - q = ((u - v : Int) : Rat) := by rw [← hp, ← hq, Rat.intCast_sub]
  rw [e, ← hp]
  refine QB_quot (fun h => ne2 (by rw [e, h]; rfl)) (len_word (by omega)) (len_word (by omega)) (by omega)
theorem endsQ_mem {ax ay bx b_y cx cy dx dy : Rat} {p : Rat × Rat} (h : p ∈ endsQ ax ay bx b_y cx cy dx dy) : p = (ax, ay) ∨ p = (bx, b_y) ∨ p = (cx, cy) ∨ p = (dx, dy) := by
  unfold endsQ at h
  simp only [List.mem_append] at h
  have f : ∀ (c : Prop) [Decidable c] (q : Rat × Rat), p ∈ (if c then [q] else []) → p = q := fun c _ q h => by
    split at h <;> simp at h
    exact h
  rcases h with ((h | h) | h) | h
  · exact .inl (f _ _ h)
  · exact .inr (.inl (f _ _ h))
  · exact .inr (.inr (.inl (f _ _ h)))
  · exact .inr (.inr (.inr (f _ _ h)))

theorem getD_mem {α : Type} {l : List α} {i : Nat} {d : α} (h : i < l.length) : l.getD i d ∈ l := by
  rw [List.getD_eq_getElem?_getD, List.getElem?_eq_getElem h]; exact List.getElem_mem _
theorem rmeet_qb {ax ay bx b_y cx cy dx dy : Int} {p : Rat × Rat} (h : p ∈ rmeetQ ax ay bx b_y cx cy dx dy) : QB p.1 7 ∧ QB p.2 7 := by
  unfold rmeetQ at h
  split at h
  · next hs =>
    obtain ⟨h1, h2⟩ := hs
    rw [Bool.and_eq_true] at h1 h2
    have i1 := (fitB_iff _ _).1 h1.1
    have i2 := (fitB_iff _ _).1 h1.2
    have i3 := (fitB_iff _ _).1 h2.1
    have i4 := (fitB_iff _ _).1 h2.2
    have qa := QB_24 i1.1 i1.2.1
    have qa2 := QB_24 i1.2.2.1 i1.2.2.2
    have qb := QB_24 i2.1 i2.2.1
    have qb2 := QB_24 i2.2.2.1 i2.2.2.2
    have qc := QB_24 i3.1 i3.2.1
    have qc2 := QB_24 i3.2.2.1 i3.2.2.2
    have qd := QB_24 i4.1 i4.2.1
    have qd2 := QB_24 i4.2.2.1 i4.2.2.2
    split at h
    · simp at h
    · split at h
      · next hc =>
        have qf := (share_qb h1 h2 rfl rfl hc).2
        unfold lineQ at h
        split at h
        · simp only [List.mem_singleton] at h
          subst h
          exact ⟨(qa.add (qf.mul (qb.sub qa))).mono (by omega), (qa2.add (qf.mul (qb2.sub qa2))).mono (by omega)⟩
        · simp at h
      · have hm : p ∈ endsQ (ax : Rat) (ay : Rat) (bx : Rat) (b_y : Rat) (cx : Rat) (cy : Rat) (dx : Rat) (dy : Rat) := by
          refine rowQ_mem ?_
          unfold ends2 at h
          split at h
          · next hl =>
            simp only [List.mem_cons, List.not_mem_nil, or_false] at h
            rcases h with h | h
            · rw [h]; exact getD_mem (by omega)
            · rw [h]; exact getD_mem (by omega)
          · exact h
        rcases endsQ_mem hm with rfl | rfl | rfl | rfl
        · exact ⟨qa.mono (by omega), qa2.mono (by omega)⟩
        · exact ⟨qb.mono (by omega), qb2.mono (by omega)⟩
        · exact ⟨qc.mono (by omega), qc2.mono (by omega)⟩
        · exact ⟨qd.mono (by omega), qd2.mono (by omega)⟩
  · simp at h
theorem meet_qb {ax ay bx b_y cx cy dx dy : Int} {p : Rat × Rat} (h : p ∈ meetQ ax ay bx b_y cx cy dx dy) : QB p.1 7 ∧ QB p.2 7 := rmeet_qb (by rw [← meetQ_eq]; exact h)
end Go.Proofs.YthhgogpglocjdaaGreat
namespace Go.Proofs.YthhgogpglocjdaaGreat
open Go.RowKit

/-- A way of the grid. -/
abbrev SegZ := (Int × Int) × (Int × Int)
/-- Two spots, and those of a list of ways. -/
def cutRow (p q : Rat × Rat) (M : SegZ → List (Rat × Rat)) (l : List SegZ) : List (Rat × Rat) := [p, q] ++ l.flatMap M
theorem cutRow_nil (p q : Rat × Rat) (M : SegZ → List (Rat × Rat)) : cutRow p q M [] = [p, q] := rfl
theorem cutRow_succ (p q : Rat × Rat) (M : SegZ → List (Rat × Rat)) {l : List SegZ} {j : Nat} {t : SegZ} (h : l[j]? = some t) : cutRow p q M (l.take (j + 1)) = cutRow p q M (l.take j) ++ M t := by
  unfold cutRow
  rw [List.take_add_one, h, Option.toList_some, List.flatMap_append]
  simp
theorem cutRow_len (p q : Rat × Rat) (M : SegZ → List (Rat × Rat)) (hM : ∀ t, (M t).length ≤ 2) : ∀ l : List SegZ, (cutRow p q M l).length ≤ 2 + 2 * l.length
  | [] => by simp [cutRow]
  | t :: l => by
    have h := cutRow_len p q M hM l
    have k := hM t
    unfold cutRow at *
    simp only [List.flatMap_cons, List.length_append, List.length_cons, List.length_nil] at *
    omega
theorem cutRow_mem {p q r : Rat × Rat} {M : SegZ → List (Rat × Rat)} {l : List SegZ} (h : r ∈ cutRow p q M l) : r = p ∨ r = q ∨ ∃ t, r ∈ M t := by
  unfold cutRow at h
  simp only [List.mem_append, List.mem_cons, List.not_mem_nil, or_false, List.mem_flatMap] at h
  rcases h with (h | h) | ⟨t, -, h⟩
  · exact .inl h
  · exact .inr (.inl h)
  · exact .inr (.inr ⟨t, h⟩)
theorem ends2_len (l : List (Rat × Rat)) : (ends2 l).length ≤ 2 := by
  unfold ends2
  split
  · simp
  · omega
theorem rmeet_len (ax ay bx b_y cx cy dx dy : Int) : (rmeetQ ax ay bx b_y cx cy dx dy).length ≤ 2 := by
  unfold rmeetQ
  split
  · split
    · simp
    · split
      · exact Nat.le_trans (line_le _ _ _ _ _ _ _ _ _) (by omega)
      · exact ends2_len _
  · simp
/-- What a way has in common with another one. -/
def meetW (ax ay bx b_y : Int) (t : SegZ) : List (Rat × Rat) := meetQ ax ay bx b_y t.1.1 t.1.2 t.2.1 t.2.2
theorem meetW_eq (ax ay bx b_y : Int) : (fun t : SegZ => rmeetQ ax ay bx b_y t.1.1 t.1.2 t.2.1 t.2.2) = meetW ax ay bx b_y := funext fun t => by unfold meetW; rw [meetQ_eq]
theorem meetW_len (ax ay bx b_y : Int) (t : SegZ) : (meetW ax ay bx b_y t).length ≤ 2 := by unfold meetW; rw [meetQ_eq]; exact rmeet_len _ _ _ _ _ _ _ _
/-- Where ways meet one, in order. -/
def cutAll (ax ay bx b_y : Int) (l : List SegZ) : List (Rat × Rat) := cutRow ((ax : Rat), (ay : Rat)) ((bx : Rat), (b_y : Rat)) (meetW ax ay bx b_y) l
theorem cutAll_len (ax ay bx b_y : Int) (l : List SegZ) : (cutAll ax ay bx b_y l).length ≤ 2 + 2 * l.length := cutRow_len _ _ _ (meetW_len _ _ _ _) l
theorem cutAll_qb {ax ay bx b_y : Int} {l : List SegZ} (h : (fitB ax ay && fitB bx b_y) = true) : ∀ p ∈ cutAll ax ay bx b_y l, QB p.1 7 ∧ QB p.2 7 := by
  intro p hp
  rw [Bool.and_eq_true] at h
  have i1 := (fitB_iff _ _).1 h.1
  have i2 := (fitB_iff _ _).1 h.2
  rcases cutRow_mem hp with rfl | rfl | ⟨t, ht⟩
  · exact ⟨(QB_24 (by omega) (by omega)).mono (by omega), (QB_24 (by omega) (by omega)).mono (by omega)⟩
  · exact ⟨(QB_24 (by omega) (by omega)).mono (by omega), (QB_24 (by omega) (by omega)).mono (by omega)⟩
  · exact meet_qb ht
def cutsQ (ax ay bx b_y : Int) (l : List SegZ) : List (Rat × Rat) :=
  if (fitB ax ay && fitB bx b_y) = true then (if aheadB bx b_y ax ay = true then (rowQ (cutAll ax ay bx b_y l)).reverse else rowQ (cutAll ax ay bx b_y l)) else []
theorem spotCmp_ahead (ax ay bx b_y : Int) : decide (spotCmp (ax : Rat) (ay : Rat) (bx : Rat) (b_y : Rat) ≤ 0) = !aheadB bx b_y ax ay := by
  have e1 : ∀ x y : Int, ((x : Rat) < (y : Rat)) ↔ x < y := fun x y => Rat.intCast_lt_intCast
  have e2 : ∀ x y : Int, ((x : Rat) = (y : Rat)) ↔ x = y := fun x y => Rat.intCast_inj
  unfold spotCmp cmpQ aheadB
  simp only [e1]
  by_cases h1 : ax < bx
  · have h2 : ¬ bx < ax := by omega
    have h3 : ¬ bx = ax := by omega
    simp [h1, h2, h3]
  · by_cases h2 : bx < ax
    · simp [h1, h2]
    · have h3 : bx = ax := by omega
      by_cases h4 : ay < b_y
      · have h5 : ¬ b_y < ay := by omega
        simp [h3, h4, h5]
      · by_cases h5 : b_y < ay
        · simp [h3, h4, h5]
        · simp [h3, h4, h5]
/-- A row turned round, from behind. -/
theorem rev_step {l : List (Rat × Rat)} {i : Nat} {p : Rat × Rat} (h : l[i]? = some p) : (l.drop i).reverse = (l.drop (i + 1)).reverse ++ [p] := by
  have hi := (List.getElem?_eq_some_iff.1 h).1
  rw [List.getElem?_eq_getElem hi] at h
  injection h with h
  rw [List.drop_eq_getElem_cons hi, List.reverse_cons, h]

/-- Ways of the grid, as they come in. -/
def SegsR (w : World) (v : Value) (l : List SegZ) : Prop :=
  ∃ A c, v = .slice A l.length c ∧ l.length ≤ c ∧ c ≤ 9223372036854775807 ∧
    (0 < l.length → ∃ b o, A = some ⟨b, o, none⟩ ∧ ∀ i s, l[i]? = some s → (w.cell? ⟨b, o + i * 4, none⟩ = some (.int .i64 s.1.1) ∧ w.cell? ⟨b, o + i * 4 + 1, none⟩ = some (.int .i64 s.1.2) ∧ w.cell? ⟨b, o + i * 4 + 2, none⟩ = some (.int .i64 s.2.1) ∧ w.cell? ⟨b, o + i * 4 + 3, none⟩ = some (.int .i64 s.2.2)) ∧ In64 s.1.1 s.1.2 ∧ In64 s.2.1 s.2.2)
theorem SegsR.grew {w w' : World} {v : Value} {l : List SegZ} (h : SegsR w v l) (g : Grew w w') : SegsR w' v l := by
  obtain ⟨A, c, e, h1, h2, h3⟩ := h
  refine ⟨A, c, e, h1, h2, fun h0 => ?_⟩
  obtain ⟨b, o, e, he⟩ := h3 h0
  refine ⟨b, o, e, fun i s hs => ?_⟩
  obtain ⟨⟨k0, k1, k2, k3⟩, k4⟩ := he i s hs
  exact ⟨⟨g.cell k0, g.cell k1, g.cell k2, g.cell k3⟩, k4⟩
end Go.Proofs.YthhgogpglocjdaaGreat
namespace Go.Proofs.YthhgogpglocjdaaGreat
open Go.RowKit

theorem Flat.append {w : World} {xs ys : List Value} {l m : List (Rat × Rat)} (h : Flat w xs l) (k : Flat w ys m) : Flat w (xs ++ ys) (l ++ m) := by
  obtain ⟨h1, h2, h3⟩ := h
  obtain ⟨k1, k2, k3⟩ := k
  refine ⟨by simp [h1, k1]; omega, fun u hu => ?_, fun i p hp => ?_⟩
  · rcases List.mem_append.1 hu with hu | hu
    · exact h2 u hu
    · exact k2 u hu
  · by_cases hi : i < l.length
    · rw [List.getElem?_append_left hi] at hp
      refine (h3 i p hp).mono (fun _ h => h) (fun j u hj hu => ?_)
      rw [List.getElem?_append_left (by rw [h1]; omega)]; exact hu
    · rw [List.getElem?_append_right (by omega)] at hp
      refine (k3 _ p hp).mono (fun _ h => h) (fun j u hj hu => ?_)
      rw [List.getElem?_append_right (by rw [h1]; omega), show i * 6 + j - xs.length = (i - l.length) * 6 + j by rw [h1]; omega]; exact hu
/-- The cells of a row of spots, as a list. -/
theorem RowC.flat {w : World} {v : Value} {l : List (Rat × Rat)} (h : RowC w v l) (h0 : 0 < l.length) : ∃ a c xs, v = .slice (some a) l.length c ∧ Flat w xs l ∧ (∀ u ∈ xs, u.oneCell' = true) ∧ ∀ j u, xs[j]? = some u → w.cell? (a.add j) = some u := by
  obtain ⟨A, c, rfl, h1, h2, h3⟩ := h
  obtain ⟨b, o, rfl, he⟩ := h3 h0
  have hel : ∀ t, t < l.length * 6 → ∃ u, w.cell? ⟨b, o + t, none⟩ = some u ∧ NoInt u ∧ u.oneCell' = true := by
    intro t ht
    obtain ⟨b1, A, n, c0, C, m, d, b2, A', n', c0', C', m', d', ⟨e0, e1, e2, e3, e4, e5⟩, -⟩ := he (t / 6) _ (List.getElem?_eq_getElem (by omega))
    have e : t % 6 = 0 ∨ t % 6 = 1 ∨ t % 6 = 2 ∨ t % 6 = 3 ∨ t % 6 = 4 ∨ t % 6 = 5 := by omega
    have e6 : ∀ j, t % 6 = j → o + t = o + (t / 6 * 6 + j) := fun j h => by omega
    rcases e with e | e | e | e | e | e
    · rw [e6 _ e]; exact ⟨_, e0, fun k x e => by simp at e, rfl⟩
    · rw [e6 _ e]; exact ⟨_, e1, fun k x e => by simp at e, rfl⟩
    · rw [e6 _ e]; exact ⟨_, e2, fun k x e => by simp at e, rfl⟩
    · rw [e6 _ e]; exact ⟨_, e3, fun k x e => by simp at e, rfl⟩
    · rw [e6 _ e]; exact ⟨_, e4, fun k x e => by simp at e, rfl⟩
    · rw [e6 _ e]; exact ⟨_, e5, fun k x e => by simp at e, rfl⟩
  have hx : ∀ t, t < l.length * 6 → ((List.range (l.length * 6)).map fun t => (w.cell? ⟨b, o + t, none⟩).getD undef)[t]? = w.cell? ⟨b, o + t, none⟩ := by
    intro t ht
    obtain ⟨u, hu, -⟩ := hel t ht
    rw [List.getElem?_map, List.getElem?_range ht, Option.map_some, hu]; rfl
  refine ⟨⟨b, o, none⟩, c, (List.range (l.length * 6)).map fun t => (w.cell? ⟨b, o + t, none⟩).getD undef, rfl, ⟨by simp, ?_, ?_⟩, ?_, ?_⟩
  · intro u hu
    obtain ⟨t, ht, rfl⟩ := List.mem_map.1 hu
    obtain ⟨u, hu, hn, -⟩ := hel t (List.mem_range.1 ht)
    rw [hu]; exact hn
  · intro i p hp
    have hi := (List.getElem?_eq_some_iff.1 hp).1
    refine (he i p hp).mono (fun _ h => h) (fun j u hj hu => ?_)
    rw [hx _ (by omega)]; exact hu
  · intro u hu
    obtain ⟨t, ht, rfl⟩ := List.mem_map.1 hu
    obtain ⟨u, hu, -, ho⟩ := hel t (List.mem_range.1 ht)
    rw [hu]; exact ho
  · intro j u hu
    have hj : j < l.length * 6 := by simpa using (List.getElem?_eq_some_iff.1 hu).1
    have hadd : (⟨b, o, none⟩ : Addr).add j = ⟨b, o + j, none⟩ := by unfold Addr.add; split <;> simp_all
    rw [hadd, ← hx j hj]; exact hu

theorem run_appRow {w : World} {base : Nat} {v x : Value} {l m : List (Rat × Rat)} (hO : OwnC 39 w base v l) (hR : RowC w x m) (hlen : l.length + m.length ≤ 1099511627776) (hbase : base ≤ w.heap.size) (ty : TypeId) :
    ∃ v' w', (Builtin.append_ #[27, 27] ty #[v, x]).run Tryz.prog w = .ok v' w' ∧ OwnC 39 w' base v' (l ++ m) ∧ ∀ W, W.heap.size ≤ base → Grew W w → Grew W w' := by
  obtain ⟨i, hi, hz, hsize, hbyt⟩ := info_parts info_spot
  by_cases h0 : m.length = 0
  · obtain rfl : m = [] := List.eq_nil_of_length_eq_zero h0
    obtain ⟨A, c, rfl, -, -, -⟩ := hR
    refine ⟨v, w, ?_, by rw [List.append_nil]; exact hO, fun _ _ h => h⟩
    obtain ⟨B, d, rfl, k1, -, -⟩ := hO.row
    cases A <;> cases B <;> simp [Builtin.append_, run_underlying Tryz.underlying27, sizeOf, typeInfo, hi, Builtin.lenOf, Builtin.firstCells, loadCells, loadCellsFrom, storeCells, k1]
  · obtain ⟨a, c, ys, rfl, hF, hone, hc⟩ := hR.flat (by omega)
    obtain ⟨xs, hown, hFx⟩ := hO
    obtain ⟨v', w', hr, h2, h3, hd, h4⟩ := run_appS (P := Tryz.prog) w base 27 ty 39 i _ 6 112 Tryz.underlying27 hi hz hsize hbyt rfl (by omega) zero_spot v l.length xs hown a m.length c ys hF.1 hc hone hF.2.1 (by unfold maxLen; omega) (by omega) hbase
    refine ⟨v', w', hr, ⟨xs ++ ys, by rw [List.length_append]; exact h2, (hFx.append hF).kept h4⟩, fun W hW hG => hG.grown h3 hd fun k hk => Nat.le_trans hW (hown.1.lt k hk).1⟩

section
variable {w : World} {base : Nat} {v X : Value} {l m : List (Rat × Rat)}
theorem wpList_appRow {ops : Array Oper} {rest : List Oper} {o : Oper} {a : Act} {Q : Exit → Act → World → Prop} (hgd : o.guard = none) (s x : Operand)
    (ho : o.op = .call { callee := .builtin .append, args := #[s, x], argTypes := #[27, 27] }) (hs : a.eval s = v) (hx : a.eval x = X)
    (hO : OwnC 39 w base v l) (hR : RowC w X m) (hlen : l.length + m.length ≤ 1099511627776) (hbase : base ≤ w.heap.size)
    (h : ∀ v' w', OwnC 39 w' base v' (l ++ m) → (∀ W, W.heap.size ≤ base → Grew W w → Grew W w') → wpList Tryz.prog ops Q rest (a.put o.dst v') w') : wpList Tryz.prog ops Q (o :: rest) a w := by
  refine wpList_plain hgd fun _ hK => ?_
  obtain ⟨v', w', hr, h1, h2⟩ := run_appRow hO hR hlen hbase o.type
  unfold Oper.wp execOp
  simp only [ho, resolve, invoke, builtin, Sem.run_bind, Sem.run_pure, Result.andThen_ok, List.map_toArray, List.map_cons, List.map_nil, hs, hx, hr]
  exact hK _ _ (h v' w' h1 h2)
theorem wp_appRow {o : Oper} {a : Act} {K : Act → World → Prop} {Q : Exit → Act → World → Prop} (s x : Operand)
    (ho : o.op = .call { callee := .builtin .append, args := #[s, x], argTypes := #[27, 27] }) (hs : a.eval s = v) (hx : a.eval x = X)
    (hO : OwnC 39 w base v l) (hR : RowC w X m) (hlen : l.length + m.length ≤ 1099511627776) (hbase : base ≤ w.heap.size)
    (h : ∀ v' w', OwnC 39 w' base v' (l ++ m) → (∀ W, W.heap.size ≤ base → Grew W w → Grew W w') → K (a.put o.dst v') w') : Oper.wp Tryz.prog o a w K Q := by
  obtain ⟨v', w', hr, h1, h2⟩ := run_appRow hO hR hlen hbase o.type
  unfold Oper.wp execOp
  simp only [ho, resolve, invoke, builtin, Sem.run_bind, Sem.run_pure, Result.andThen_ok, List.map_toArray, List.map_cons, List.map_nil, hs, hx, hr]
  exact h v' w' h1 h2
end
end Go.Proofs.YthhgogpglocjdaaGreat
namespace Go.Proofs.YthhgogpglocjdaaGreat
open Go.RowKit

/-- One more: it stays if the one before is another one. -/
def compStep (s : List (Rat × Rat) × Option (Rat × Rat)) (p : Rat × Rat) : List (Rat × Rat) × Option (Rat × Rat) := (if s.2 = some p then s.1 else s.1 ++ [p], some p)
/-- Alike neighbours, each once. -/
def compQ (l : List (Rat × Rat)) : List (Rat × Rat) := (l.foldl compStep ([], none)).1
theorem compStep_last (l : List (Rat × Rat)) (p : Rat × Rat) : ∀ s, ((l ++ [p]).foldl compStep s).2 = some p := fun s => by
  rw [List.foldl_append]; rfl
theorem comp_snoc (l : List (Rat × Rat)) (p q : Rat × Rat) : compQ (l ++ [p] ++ [q]) = if p = q then compQ (l ++ [p]) else compQ (l ++ [p]) ++ [q] := by
  have h := compStep_last l p ([], none)
  unfold compQ
  rw [List.foldl_append (l := l ++ [p])]
  simp only [List.foldl_cons, List.foldl_nil]
  unfold compStep at h ⊢
  rw [h]
  simp only [Option.some.injEq]
theorem comp_one (p : Rat × Rat) : compQ [p] = [p] := by simp [compQ, compStep]
theorem take_snoc {l : List (Rat × Rat)} {j : Nat} {p : Rat × Rat} (h : l[j]? = some p) : l.take (j + 1) = l.take j ++ [p] := by rw [List.take_add_one, h]; rfl
theorem comp_take {l : List (Rat × Rat)} {j : Nat} {p q : Rat × Rat} (hp : l[j]? = some p) (hq : l[j + 1]? = some q) :
    compQ (l.take (j + 2)) = if p = q then compQ (l.take (j + 1)) else compQ (l.take (j + 1)) ++ [q] := by
  rw [take_snoc hq, take_snoc hp, comp_snoc]
theorem comp_short {l : List (Rat × Rat)} (h : l.length < 2) : compQ l = l := by
  match l, h with
  | [], _ => rfl
  | [p], _ => exact comp_one p

theorem comp_fold (l : List (Rat × Rat)) : ∀ s : List (Rat × Rat) × Option (Rat × Rat), (l.foldl compStep s).1.length ≤ s.1.length + l.length ∧ ((∀ p, s.2 = some p → p ∈ s.1) → ∀ q, q ∈ (l.foldl compStep s).1 ↔ q ∈ l ∨ q ∈ s.1) := by
  induction l with
  | nil => intro s; exact ⟨by simp, fun _ q => by simp⟩
  | cons a l ih =>
    intro s
    rw [List.foldl_cons]
    obtain ⟨h1, h2⟩ := ih (compStep s a)
    constructor
    · refine Nat.le_trans h1 ?_
      unfold compStep
      simp only [List.length_cons]
      split <;> simp <;> omega
    · intro hs q
      rw [h2 (by
        intro p hp
        unfold compStep at hp ⊢
        simp only [Option.some.injEq] at hp
        subst hp
        simp only
        split
        · next e => exact hs _ e
        · simp), List.mem_cons]
      unfold compStep
      simp only
      split
      · next e =>
        have := hs _ e
        constructor
        · rintro (h | h) <;> simp [h]
        · rintro ((h | h) | h)
          · rw [h]; exact .inr this
          · exact .inl h
          · exact .inr h
      · rw [List.mem_append, List.mem_singleton]
        constructor
        · rintro (h | h | h) <;> simp [h]
        · rintro ((h | h) | h) <;> simp [h]
theorem comp_len (l : List (Rat × Rat)) : (compQ l).length ≤ l.length := by have := (comp_fold l ([], none)).1; simpa [compQ] using this
theorem mem_compQ {l : List (Rat × Rat)} {q : Rat × Rat} : q ∈ compQ l ↔ q ∈ l := by
  have := (comp_fold l ([], none)).2 (by simp) q
  simpa [compQ] using this

/-- In order, ties allowed. -/
def spotNg (p q : Rat × Rat) : Prop := ¬ spotLt q p
theorem spotNg_lt {p q : Rat × Rat} (h : spotNg p q) (n : p ≠ q) : spotLt p q := by
  rcases spotLt_tri p q with k | k | k
  · exact k
  · exact absurd k n
  · exact absurd k h
theorem spotLt_ng {p q r : Rat × Rat} (h : spotLt p q) (k : spotNg q r) : spotLt p r := by
  by_cases e : q = r
  · rw [← e]; exact h
  · exact spotLt_trans h (spotNg_lt k e)
theorem comp_sorted (l : List (Rat × Rat)) : ∀ s : List (Rat × Rat) × Option (Rat × Rat), l.Pairwise spotNg → s.1.Pairwise spotLt → (∀ p, s.2 = some p → (∀ q ∈ s.1, q = p ∨ spotLt q p) ∧ ∀ r ∈ l, spotNg p r) → (s.2 = none → s.1 = []) → (l.foldl compStep s).1.Pairwise spotLt := by
  induction l with
  | nil => intro s _ h _ _; exact h
  | cons a l ih =>
    intro s hl hs hp hn
    rw [List.foldl_cons]
    have ha := (List.pairwise_cons.1 hl).1
    refine ih _ (List.pairwise_cons.1 hl).2 ?_ ?_ ?_
    · unfold compStep
      simp only
      split
      · exact hs
      · next e =>
        refine List.pairwise_append.2 ⟨hs, by simp, fun x hx y hy => ?_⟩
        rw [List.mem_singleton] at hy
        subst hy
        rcases h2 : s.2 with _ | p
        · rw [hn h2] at hx; simp at hx
        · obtain ⟨k1, k2⟩ := hp p h2
          have k3 := k2 y List.mem_cons_self
          have k4 : spotLt p y := spotNg_lt k3 (fun e2 => e (by rw [h2, e2]))
          rcases k1 x hx with rfl | k
          · exact k4
          · exact spotLt_trans k k4
    · intro p h
      unfold compStep at h ⊢
      simp only [Option.some.injEq] at h
      subst h
      refine ⟨fun q hq => ?_, ha⟩
      simp only at hq
      split at hq
      · next e => exact (hp _ e).1 q hq
      · next e =>
        rw [List.mem_append, List.mem_singleton] at hq
        rcases hq with hq | hq
        · rcases h2 : s.2 with _ | p
          · rw [hn h2] at hq; simp at hq
          · obtain ⟨k1, k2⟩ := hp p h2
            have k3 := k2 a List.mem_cons_self
            have k4 : spotLt p a := spotNg_lt k3 (fun e2 => e (by rw [h2, e2]))
            rcases k1 q hq with rfl | k
            · exact .inr k4
            · exact .inr (spotLt_trans k k4)
        · exact .inl hq
    · intro h; unfold compStep at h; simp at h
/-- What is sorted, alike neighbours once, is the document's row. -/
theorem comp_row {l m : List (Rat × Rat)} (hs : m.Pairwise spotNg) (hm : ∀ q, q ∈ m ↔ q ∈ l) : compQ m = rowQ l :=
  sorted_ext (comp_sorted m ([], none) hs List.Pairwise.nil (by simp) (by simp)) (rowQ_sorted l) fun q => by rw [mem_compQ, mem_rowQ, hm]
end Go.Proofs.YthhgogpglocjdaaGreat
