/- slices.SortFunc on a row of ways of the grid that the caller owns, by any order. Condition: fewer than 2^62 elements. Plain: the program's ways around cells: line by line, sorted, rows and then columns: the one list of ways. Conditions: none. cmp.Compare, Or at ints; the orders of outline.level and upright; ways sorted. Conditions: none. outline.level, upright. Conditions: pages of at most 64 times 64; what comes in reads. -/
import Derived.Test.YtngbcbncllfblaaGreatJRow1
import Derived.Test.YtngbcbncllfblaaGreatJGrowE
import Derived.Shelf.SlSortCmp.WholeK
import Derived.Shelf.SlSortCmp.NoneTotal
import Derived.Test.YtngbcbncllfblaaGreatJOutQ
import Derived.Test.YtngbcbncllfblaaGreatSortG
namespace Go.Proofs.YtngbcbncllfblaaGreat
open Go.RowKit

/-- A way's cells. -/
def encS (s : SegZ) : List Value := [.int .i64 s.1.1, .int .i64 s.1.2, .int .i64 s.2.1, .int .i64 s.2.2]
section
variable {w : World} {g cap : Nat} {e : TypeId} {cur : Array Value}
theorem sortS_block (hg : w.heap[g]? = some (.cells cur e (0, 0))) (m : Nat) (dk : Array SegZ) (os : Array Obj) :
    (sortWorldK encS 4 w g 0 m dk os).heap[g]? = some (.cells (Go.Sort.putCells id 0 (Go.Sort.flatK encS 4 dk) cur) e (0, 0)) := by
  have hlt : g < w.heap.size := by
    rcases Nat.lt_or_ge g w.heap.size with h | h
    · exact h
    · rw [Array.getElem?_eq_none h] at hg; simp at hg
  unfold sortWorldK
  rw [Go.Sort.heap_grow_old _ _ (by rw [Go.Sort.size_putRowK]; exact hlt)]
  unfold Go.Sort.putRowK Go.Sort.putRow Go.Sort.mapBlock
  simp only [Array.getElem?_modify, if_true]
  show Option.map _ w.heap[g]? = _
  rw [hg]; rfl
theorem sortS_wrote (m : Nat) (dk : Array SegZ) (os : Array Obj) : Wrote g w (sortWorldK encS 4 w g 0 m dk os) := by
  refine ⟨rfl, rfl, rfl, size_sortWorldK_c _ _ _ _ _ _ _ _, Nat.le_add_right _ _, fun b hb hne => ?_⟩
  unfold sortWorldK
  rw [Go.Sort.heap_grow_old _ _ (by rw [Go.Sort.size_putRowK]; exact hb)]
  unfold Go.Sort.putRowK Go.Sort.putRow Go.Sort.mapBlock
  simp only [Array.getElem?_modify, if_neg (Ne.symm hne)]
  rfl
theorem flatS_get (dk : Array SegZ) (t : Nat) (ht : t < dk.size * 4) : (Go.Sort.flatK encS 4 dk)[t]? = (segVals dk.toList)[t]? := by
  have hfs : (Go.Sort.flatK encS 4 dk).size = dk.size * 4 := Go.Sort.size_flatK _ _ _
  have hi : t / 4 < dk.size := by omega
  have e1 := Go.Sort.get_flatK encS 4 dk t (by omega)
  rw [getElem!_pos _ _ (by omega), getElem!_pos dk _ hi, getElem!_pos (encS dk[t / 4]) _ (by simp [encS]; omega)] at e1
  have e2 := segVals_get dk.toList (t / 4) dk[t / 4] (by simp [hi]) (t % 4) (by omega)
  rw [show t / 4 * 4 + t % 4 = t by omega] at e2
  rw [e2, Array.getElem?_eq_getElem (by omega), e1, ← List.getElem?_eq_getElem]
  rfl
theorem sortS_own {base : Nat} (hbg : base ≤ g) (hg : w.heap[g]? = some (.cells cur e (0, 0))) (hcm : cap ≤ maxLen) (hcs : cur.size = cap * 4) (m : Nat) (dk : Array SegZ) (os : Array Obj) (hn : dk.size ≤ cap) :
    (sortWorldK encS 4 w g 0 m dk os).ownsRow base e 4 (.slice (some ⟨g, 0, none⟩) dk.size cap) dk.size (segVals dk.toList) := by
  have hb := sortS_block hg m dk os
  have hfs : (Go.Sort.flatK encS 4 dk).size = dk.size * 4 := Go.Sort.size_flatK _ _ _
  have hmul : dk.size * 4 ≤ cap * 4 := Nat.mul_le_mul_right _ hn
  refine ⟨by rw [segVals_len, Array.length_toList], .inr ⟨g, cap, _, rfl, hbg, hb, hn, hcm, by simp [Go.Sort.putCells, hcs], ?_⟩⟩
  apply List.ext_getElem?
  intro t
  rw [List.getElem?_take]
  by_cases ht : t < dk.size * 4
  · rw [if_pos ht, ← flatS_get dk t ht, Array.getElem?_toList]
    unfold Go.Sort.putCells
    rw [Array.getElem?_mapIdx, Array.getElem?_eq_getElem (by omega)]
    simp only [Option.map_some, id]
    rw [if_pos (by omega), Nat.sub_zero, getElem!_pos _ _ (by omega), Array.getElem?_eq_getElem (by omega)]
  · rw [if_neg ht, List.getElem?_eq_none (by rw [segVals_len, Array.length_toList]; omega)]
theorem holdsS {l : List SegZ} (hg : w.heap[g]? = some (.cells cur e (0, 0))) (hx : cur.toList.take (l.length * 4) = segVals l) : Go.Sort.HoldsK encS 4 w g 0 l.toArray := by
  intro j hj
  rw [Go.Sort.size_flatK, List.size_toArray] at hj
  have e1 := flatS_get l.toArray j (by rw [List.size_toArray]; exact hj)
  have e2 : (segVals l)[j]? = cur[j]? := by rw [← hx, List.getElem?_take, if_pos hj, Array.getElem?_toList]
  refine ⟨?_, ?_⟩
  · rw [Nat.zero_add, cell_of_row w g j cur e (0, 0) hg, ← e2]
    have hfs : j < (Go.Sort.flatK encS 4 l.toArray).size := by rw [Go.Sort.size_flatK, List.size_toArray]; exact hj
    rw [getElem!_pos (Go.Sort.flatK encS 4 l.toArray) j hfs]
    rw [Array.getElem?_eq_getElem hfs] at e1
    exact e1.symm
  · rw [Nat.zero_add]
    unfold World.frozen?
    rw [hg]
    simp
end
/-- The sort's contract. -/
theorem sort_segs {P : Program} {ρ : Go.Shelf.Ren} (L : SlLaysF0.n6 P ρ) (aE : ∀ w : World, (isAgg (ρ.t 24)).run P w = .ok true w) (zE : ∀ w : World, (Go.sizeOf (ρ.t 24)).run P w = .ok 4 w)
    (cf : SegZ → SegZ → Int) (swo : Go.Sort.SWO (Go.Proofs.ltOf cf)) (g : Nat) (cb : Array Value) (eg : ∀ args w, (callFunc g args).run P w = .ok (.enter g args) w)
    (hcmp : ∀ (W : World) (x y : SegZ), Calls P g (#[.agg (encS x).toArray, .agg (encS y).toArray] ++ cb) W fun e w' => e = .returned (.int .i64 (cf x y)) ∧ Grew W w')
    (base : Nat) (v : Value) (l : List SegZ) (e : TypeId) (w : World) (hO : w.ownsRow base e 4 v l.length (segVals l)) (hl : l.length < 4611686018427387904) :
    Calls P (ρ.f 6) #[v, .func (.func g) #[] cb] w fun e' w' => e' = .returned (.tuple #[]) ∧ ∃ m : List SegZ, m.Perm l ∧ m.Pairwise (fun p q => ¬ cf q p < 0) ∧ w'.ownsRow base e 4 v m.length (segVals m) ∧ ∀ W, W.heap.size ≤ base → Grew W w → Grew W w' := by
  by_cases h0 : l.length = 0
  · obtain rfl : l = [] := List.eq_nil_of_length_eq_zero h0
    have hv : ∃ A c, v = .slice A 0 c := by
      obtain ⟨-, ⟨rfl, -⟩ | ⟨g, cap, cur, rfl, -⟩⟩ := hO
      · exact ⟨_, _, rfl⟩
      · exact ⟨_, _, rfl⟩
    obtain ⟨A, c, rfl⟩ := hv
    exact (Go.Proofs.AnyF.slices_SortFunc_none { L with } A c _ w).mono fun e' w' ⟨he, hw⟩ => by
      subst hw
      exact ⟨he, [], List.Perm.refl _, List.Pairwise.nil, hO, fun _ _ h => h⟩
  obtain ⟨hx, ⟨rfl, hn0⟩ | ⟨gb, cap, cur, rfl, hbg, hg, hnc, hcm, hcs, htake⟩⟩ := hO
  · exact absurd hn0 h0
  have hblk : gb < w.heap.size := by
    rcases Nat.lt_or_ge gb w.heap.size with h | h
    · exact h
    · rw [Array.getElem?_eq_none h] at hg; simp at hg
  have hH := holdsS (w := w) hg htake
  have hc : CmpLays P g cb encS 4 cf gb 0 l.toArray.size w := by
    intro m os dk _ x y
    exact (hcmp _ x y).mono fun e w' ⟨he, hG⟩ => ⟨he, hG.grow⟩
  have h := Go.Proofs.AnyQ.slices_SortFunc L 4 aE zE encS (fun _ => rfl) (fun x u hu => by simp only [encS, List.mem_cons, List.not_mem_nil, or_false] at hu; rcases hu with rfl | rfl | rfl | rfl <;> rfl) cf swo g cb gb 0 cap l.toArray w eg hc hH hblk (by rw [List.size_toArray]; omega)
  rw [List.size_toArray] at h
  refine h.mono fun e' w' ⟨he, d', n, os, hp, hsd, hw⟩ => ⟨he, d'.toList, ?_⟩
  obtain ⟨hsz, -, hperm⟩ := hp
  have hsz : d'.size = l.length := by simpa using hsz
  have e1 : (d'.extract 0 l.length).toList = d'.toList := by rw [← hsz]; simp
  have e2 : (l.toArray.extract 0 l.length).toList = l := by simp
  rw [e1, e2] at hperm
  have ho := sortS_own (e := e) hbg hg hcm hcs n d' os (by omega)
  refine ⟨hperm, ?_, by rw [hsz] at ho; rw [hw, show d'.toList.length = l.length from by simpa using hsz]; exact ho, fun W h1 h2 => by rw [hw]; exact h2.wrote (sortS_wrote n d' os) (Nat.le_trans h1 hbg)⟩
  rw [List.pairwise_iff_getElem]
  intro i j hi hj hij
  rw [Array.length_toList] at hi hj
  have h1 := hsd i j (Nat.zero_le _) hij (by omega)
  rw [getElem!_pos d' j hj, getElem!_pos d' i hi] at h1
  unfold Go.Proofs.ltOf at h1
  simpa using h1
end Go.Proofs.YtngbcbncllfblaaGreat
namespace Go.Proofs.YtngbcbncllfblaaGreat
open Go.RowKit

def cmpI (a b : Int) : Int := if a < b then -1 else if b < a then 1 else 0
/-- The first that is not 0. -/
def or3 (a b c : Int) : Int := if a ≠ 0 then a else if b ≠ 0 then b else c
/-- Ways along rows, along columns, in order. -/
def cfL (x y : SegZ) : Int := or3 (cmpI x.1.2 y.1.2) (cmpI x.1.1 y.1.1) (cmpI x.2.1 y.2.1)
def cfU (x y : SegZ) : Int := or3 (cmpI x.1.1 y.1.1) (cmpI x.1.2 y.1.2) (cmpI x.2.2 y.2.2)
theorem or3_neg (a b c a' b' c' : Int) : or3 (cmpI a a') (cmpI b b') (cmpI c c') < 0 ↔ a < a' ∨ (a = a' ∧ (b < b' ∨ (b = b' ∧ c < c'))) := by
  unfold or3 cmpI
  by_cases h1 : a < a'
  · simp [h1]
  · by_cases h2 : a' < a
    · simp [h1, h2]
      omega
    · have : a = a' := by omega
      subst this
      by_cases h3 : b < b'
      · simp [h3]
      · by_cases h4 : b' < b
        · simp [h3, h4]
          omega
        · have : b = b' := by omega
          subst this
          by_cases h5 : c < c'
          · simp [h5]
          · by_cases h6 : c' < c
            · simp [h5, h6]
            · simp [h5, h6]
theorem swo3 (k1 k2 k3 : SegZ → Int) : Go.Sort.SWO (Go.Proofs.ltOf fun x y : SegZ => or3 (cmpI (k1 x) (k1 y)) (cmpI (k2 x) (k2 y)) (cmpI (k3 x) (k3 y))) where
  irrefl x := by
    unfold Go.Proofs.ltOf
    rw [decide_eq_false_iff_not, or3_neg]; omega
  trans x y z h1 h2 := by
    unfold Go.Proofs.ltOf at *
    rw [decide_eq_true_eq, or3_neg] at *
    omega
  ntrans x y z h1 h2 := by
    unfold Go.Proofs.ltOf at *
    rw [decide_eq_false_iff_not, or3_neg] at *
    omega
theorem swoL : Go.Sort.SWO (Go.Proofs.ltOf cfL) := swo3 (fun x => x.1.2) (fun x => x.1.1) (fun x => x.2.1)
theorem swoU : Go.Sort.SWO (Go.Proofs.ltOf cfU) := swo3 (fun x => x.1.1) (fun x => x.1.2) (fun x => x.2.2)

theorem perm_map {α β : Type} (f : α → β) {m l : List β} (h : m.Perm l) : ∀ r : List α, l = r.map f → ∃ s : List α, s.Perm r ∧ m = s.map f := by
  induction h with
  | nil => intro r hr; exact ⟨[], by cases r with | nil => exact List.Perm.refl _ | cons a r => simp at hr, rfl⟩
  | cons x _ ih =>
    intro r hr
    cases r with
    | nil => simp at hr
    | cons a r =>
      simp only [List.map_cons, List.cons.injEq] at hr
      obtain ⟨s, hs, e⟩ := ih r hr.2
      exact ⟨a :: s, hs.cons a, by rw [List.map_cons, hr.1, e]⟩
  | swap x y l =>
    intro r hr
    cases r with
    | nil => simp at hr
    | cons a r =>
      cases r with
      | nil => simp at hr
      | cons b r =>
        simp only [List.map_cons, List.cons.injEq] at hr
        exact ⟨b :: a :: r, List.Perm.swap _ _ _, by simp only [List.map_cons, hr.1, hr.2.1, hr.2.2]⟩
  | trans _ _ ih1 ih2 =>
    intro r hr
    obtain ⟨s, hs, e⟩ := ih2 r hr
    obtain ⟨t, ht, e'⟩ := ih1 s e
    exact ⟨t, ht.trans hs, e'⟩

/-- The ways of the lines behind a line: m = 0: of rows; m = 2: of columns. -/
structure Lines (has : Int → Int → Bool) (m : Nat) (n : Nat) (l : List Rn) : Prop where
  mem : ∀ r, r ∈ l ↔ maxR has r ∧ (r.d = m + 1 ∨ r.d = m + 2) ∧ 0 ≤ r.c ∧ r.c < n
  nodup : l.Nodup
theorem Lines.nil (has : Int → Int → Bool) (m : Nat) : Lines has m 0 [] := ⟨fun r => ⟨fun h => by simp at h, fun h => by omega⟩, List.Pairwise.nil⟩
theorem Lines.next {has : Int → Int → Bool} {m c n : Nat} {a : Nat → Int} {l : List Rn} {q : List (Nat × Nat)} (h : Lines has m c l) (hq : Runs a n n q)
    (hm : ∀ r : Rn, r ∈ q.map (fun p => ⟨(a p.1).toNat + m, (c : Int), p.1, p.2⟩) ↔ maxR has r ∧ (r.d = m + 1 ∨ r.d = m + 2) ∧ r.c = c) : Lines has m (c + 1) (l ++ q.map (fun p => ⟨(a p.1).toNat + m, (c : Int), p.1, p.2⟩)) := by
  refine ⟨fun r => ?_, ?_⟩
  · rw [List.mem_append, h.mem, hm]
    constructor
    · rintro (⟨h1, h2, h3, h4⟩ | ⟨h1, h2, h3⟩)
      · exact ⟨h1, h2, h3, by omega⟩
      · exact ⟨h1, h2, by omega, by omega⟩
    · rintro ⟨h1, h2, h3, h4⟩
      by_cases hc : r.c < c
      · exact .inl ⟨h1, h2, h3, hc⟩
      · exact .inr ⟨h1, h2, by omega⟩
  · refine List.pairwise_append.2 ⟨h.nodup, ?_, ?_⟩
    · rw [List.pairwise_map]
      refine List.Pairwise.imp_of_mem ?_ hq.ord
      intro p p' hp _ hpp e
      have h1 := ((hq.mem p).1 hp).1
      injection e with _ _ e _
      omega
    · intro x hx y hy e
      have h1 := ((h.mem x).1 hx).2.2.2
      have h2 := ((hm y).1 hy).2.2
      rw [e] at h1
      omega
/-- Sorted: in order. -/
theorem Lines.sorted {has : Int → Int → Bool} {m n : Nat} {l : List Rn} (h : Lines has m n l) (cf : SegZ → SegZ → Int) (hcf : ∀ x y : Rn, (x.d = m + 1 ∨ x.d = m + 2) → (y.d = m + 1 ∨ y.d = m + 2) → (cf (segOf x) (segOf y) < 0 ↔ aheadR x y))
    {s : List SegZ} (hp : s.Perm (l.map segOf)) (hs : s.Pairwise fun p q => ¬ cf q p < 0) : ∃ k : List Rn, s = k.map segOf ∧ k.Pairwise aheadR ∧ ∀ r, r ∈ k ↔ r ∈ l := by
  obtain ⟨k, hk, rfl⟩ := perm_map segOf hp l rfl
  refine ⟨k, rfl, ?_, fun r => hk.mem_iff⟩
  rw [List.pairwise_map] at hs
  have hnd : k.Nodup := hk.nodup_iff.2 h.nodup
  refine List.Pairwise.imp_of_mem ?_ (hs.and hnd)
  intro x y hx hy hxy
  obtain ⟨mx, dx, -⟩ := (h.mem x).1 (hk.mem_iff.1 hx)
  obtain ⟨my, dy, -⟩ := (h.mem y).1 (hk.mem_iff.1 hy)
  rcases aheadR_tri mx.dir my.dir mx.1 my.1 hxy.2 with c | c
  · exact c
  · exact absurd ((hcf y x dy dx).2 c) hxy.1
theorem cfL_ahead (x y : Rn) (hx : x.d = 0 + 1 ∨ x.d = 0 + 2) (hy : y.d = 0 + 1 ∨ y.d = 0 + 2) : cfL (segOf x) (segOf y) < 0 ↔ aheadR x y := by
  unfold cfL
  rw [or3_neg]
  unfold segOf aheadR Rn.a Rn.b
  rcases hx with e | e <;> rcases hy with e' | e' <;> simp [e, e'] <;> omega
theorem cfU_ahead (x y : Rn) (hx : x.d = 2 + 1 ∨ x.d = 2 + 2) (hy : y.d = 2 + 1 ∨ y.d = 2 + 2) : cfU (segOf x) (segOf y) < 0 ↔ aheadR x y := by
  unfold cfU
  rw [or3_neg]
  unfold segOf aheadR Rn.a Rn.b
  rcases hx with e | e <;> rcases hy with e' | e' <;> simp [e, e'] <;> omega
/-- Rows, then columns. -/
theorem ways_append {has : Int → Int → Bool} {W H : Nat} (hfin : ∀ x y, has x y = true → 0 ≤ x ∧ x < W ∧ 0 ≤ y ∧ y < H) {l k l' k' : List Rn} (hl : Lines has 0 (H + 1) l) (hk : Lines has 2 (W + 1) k)
    (h1 : l'.Pairwise aheadR) (h2 : ∀ r, r ∈ l' ↔ r ∈ l) (h3 : k'.Pairwise aheadR) (h4 : ∀ r, r ∈ k' ↔ r ∈ k) : IsWays has (l' ++ k') := by
  refine ⟨List.pairwise_append.2 ⟨h1, h3, fun x hx y hy => ?_⟩, fun r => ?_⟩
  · have e1 := ((hl.mem x).1 ((h2 x).1 hx)).2.1
    have e2 := ((hk.mem y).1 ((h4 y).1 hy)).2.1
    unfold aheadR
    omega
  · rw [List.mem_append, h2, h4, hl.mem, hk.mem]
    constructor
    · rintro (h | h) <;> exact h.1
    · intro h
      have hd := h.dir
      have hs := h.2.1 r.f (Int.le_refl _) h.1
      have hb : (r.d ≤ 2 → 0 ≤ r.c ∧ r.c < H + 1) ∧ (2 < r.d → 0 ≤ r.c ∧ r.c < W + 1) := by
        unfold sideB at hs
        rcases (show r.d = 1 ∨ r.d = 2 ∨ r.d = 3 ∨ r.d = 4 by omega) with e | e | e | e <;> simp [e] at hs
        · have := hfin _ _ hs.1; exact ⟨fun _ => by omega, fun _ => by omega⟩
        · have := hfin _ _ hs.1; exact ⟨fun _ => by omega, fun _ => by omega⟩
        · have := hfin _ _ hs.1; exact ⟨fun _ => by omega, fun _ => by omega⟩
        · have := hfin _ _ hs.1; exact ⟨fun _ => by omega, fun _ => by omega⟩
      by_cases c : r.d ≤ 2
      · have := hb.1 c; exact .inl ⟨h, by omega, by omega, by omega⟩
      · have := hb.2 (by omega); exact .inr ⟨h, by omega, by omega, by omega⟩
end Go.Proofs.YtngbcbncllfblaaGreat
namespace Go.Proofs.YtngbcbncllfblaaGreat
open Go.RowKit

set_option maxRecDepth 100000 in
theorem isnan_any (x : Int) (w : World) : Calls Tryz.prog 130 #[.int .i64 x] w fun e w' => e = .returned (.bool false) ∧ w' = w := by
  go_enter Tryz.func130, Tryz.ntmps130
  go_wp2_with fail
  go_ret
  exact ⟨by simp, rfl⟩
set_option maxRecDepth 100000 in
set_option maxHeartbeats 4000000 in
theorem compare_w (x y : Int) (w : World) : Calls Tryz.prog 91 #[.int .i64 x, .int .i64 y] w fun e w' => e = .returned (.int .i64 (cmpI x y)) ∧ w' = w := by
  by_cases h0 : x < y
  · have e := Lib.hid (show cmpI x y = -1 from if_pos h0)
    go_enter Tryz.func91, Tryz.ntmps91
    go_wp2_with fail
    refine (isnan_any x _).mono ?_
    rintro e1 w1 ⟨rfl, rfl⟩
    go_wp2_with fail
    refine (isnan_any y _).mono ?_
    rintro e1 w1 ⟨rfl, rfl⟩
    go_wp2_with fail
    go_ret
    exact ⟨by rw [e.out]; rfl, rfl⟩
  · by_cases h1 : y < x
    · have e := Lib.hid (show cmpI x y = 1 from by unfold cmpI; rw [if_neg h0, if_pos h1])
      go_enter Tryz.func91, Tryz.ntmps91
      go_wp2_with fail
      refine (isnan_any x _).mono ?_
      rintro e1 w1 ⟨rfl, rfl⟩
      go_wp2_with fail
      refine (isnan_any y _).mono ?_
      rintro e1 w1 ⟨rfl, rfl⟩
      go_wp2_with fail
      go_ret
      exact ⟨by rw [e.out]; rfl, rfl⟩
    · have e := Lib.hid (show cmpI x y = 0 from by unfold cmpI; rw [if_neg h0, if_neg h1])
      go_enter Tryz.func91, Tryz.ntmps91
      go_wp2_with fail
      refine (isnan_any x _).mono ?_
      rintro e1 w1 ⟨rfl, rfl⟩
      go_wp2_with fail
      refine (isnan_any y _).mono ?_
      rintro e1 w1 ⟨rfl, rfl⟩
      go_wp2_with fail
      go_ret
      exact ⟨by rw [e.out]; rfl, rfl⟩
theorem compare_any (x y : Int) (w : World) : Calls Tryz.prog 91 #[.int .i64 x, .int .i64 y] w fun e w' => e = .returned (.int .i64 (cmpI x y)) ∧ Grew w w' :=
  (compare_w x y w).mono fun _ _ ⟨h, e⟩ => ⟨h, by rw [e]; exact Grew.refl w⟩
set_option maxRecDepth 100000 in
set_option maxHeartbeats 4000000 in
theorem or_any (g : Nat) (a b c : Int) (w : World) (h0 : w.cell? ⟨g, 0, none⟩ = some (.int .i64 a)) (h1 : w.cell? ⟨g, 1, none⟩ = some (.int .i64 b)) (h2 : w.cell? ⟨g, 2, none⟩ = some (.int .i64 c)) :
    Calls Tryz.prog 90 #[.slice (some ⟨g, 0, none⟩) 3 3] w fun e w' => e = .returned (.int .i64 (or3 a b c)) ∧ Grew w w' := by
  have key : ∀ (i : Nat) (z : Int), [a, b, c][i]? = some z → Hid (w.cell? ⟨g, i, none⟩ = some (.int .i64 z)) := by
    intro i z hz
    have hi := (List.getElem?_eq_some_iff.1 hz).1
    rcases (show i = 0 ∨ i = 1 ∨ i = 2 by simp at hi; omega) with rfl | rfl | rfl
    · simp at hz; subst hz; exact h0
    · simp at hz; subst hz; exact h1
    · simp at hz; subst hz; exact h2
  replace key := Lib.hid key
  clear h0 h1 h2
  go_enter Tryz.func90, Tryz.ntmps90
  go_wp2_with fail
  go_loopg [8] 3 (fun gk s8 wr => ∃ i : Nat, gk + i = 3 ∧ s8 = .int .i64 i ∧ Hid (∀ j z, j < i → [a, b, c][j]? = some z → z = 0) ∧ Grew w wr)
  case atStart => exact ⟨0, rfl, rfl, Lib.hid (fun j z h => by omega), Grew.refl _⟩
  case round =>
    obtain ⟨i, hi, rfl, hz, hG⟩ := hrel
    by_cases hlt : i < 3
    · obtain ⟨z, hzi⟩ : ∃ z, [a, b, c][i]? = some z := ⟨[a, b, c][i]'(by simpa using hlt), List.getElem?_eq_getElem _⟩
      have hc := hG.cell (key.out i z hzi).out
      have hil : (i : Int) < 3 := by omega
      have hzi' := Lib.hid hzi
      have hG' := Lib.hid hG
      clear hzi hG
      by_cases hz0 : z = 0
      · have hz2 := Lib.hid (show ∀ j y, j < i + 1 → [a, b, c][j]? = some y → y = 0 from fun j y hj hy => by
          by_cases h : j = i
          · subst h; rw [hzi'.out] at hy; injection hy with hy; rw [← hy]; exact hz0
          · exact hz.out j y (by omega) hy)
        go_wp2_with fail
        go_roundg (gk - 1)
        case rel => exact ⟨i + 1, by omega, by go_num, hz2, hG'.out⟩
        case measure => omega
      · have e := Lib.hid (show or3 a b c = z by
          have h9 := hz.out
          have h8 := hzi'.out
          unfold or3
          rcases (show i = 0 ∨ i = 1 ∨ i = 2 by omega) with rfl | rfl | rfl
          · simp at h8; subst h8; rw [if_pos hz0]
          · simp at h8; subst h8
            have := h9 0 a (by omega) rfl
            rw [if_neg (by simp [this]), if_pos hz0]
          · simp at h8; subst h8
            have e0 := h9 0 a (by omega) rfl
            have e1 := h9 1 b (by omega) rfl
            rw [if_neg (by simp [e0]), if_neg (by simp [e1])])
        go_wp2_with fail
        go_ret
        exact ⟨by rw [e.out]; rfl, hG'.out⟩
    · obtain rfl : i = 3 := by omega
      have e := Lib.hid (show or3 a b c = 0 by
        have h9 := hz.out
        have e0 := h9 0 a (by omega) rfl
        have e1 := h9 1 b (by omega) rfl
        have e2 := h9 2 c (by omega) rfl
        unfold or3
        rw [if_neg (by simp [e0]), if_neg (by simp [e1])]; exact e2)
      have hG' := Lib.hid hG
      clear hG hz
      go_wp2_with fail
      go_ret
      exact ⟨by rw [e.out]; rfl, hG'.out⟩
set_option maxRecDepth 100000 in
set_option maxHeartbeats 8000000 in
theorem lev3_any (w : World) (x y : SegZ) : Calls Tryz.prog 89 (#[.agg (encS x).toArray, .agg (encS y).toArray] ++ #[]) w fun e w' => e = .returned (.int .i64 (cfL x y)) ∧ Grew w w' := by
  show Calls Tryz.prog 89 #[segV x.1.1 x.1.2 x.2.1 x.2.2, segV y.1.1 y.1.2 y.2.1 y.2.2] w _
  go_enter Tryz.func89, Tryz.ntmps89
  go_upto_region 1 with fail
  refine gen_wp ?_
  intro W1 hW1
  have p0 : Hid (W1.cell? ⟨w.heap.size, 0, none⟩ = some (.int .i64 x.1.1)) := Lib.hid (by rw [hW1]; simp [go_sem])
  have p1 : Hid (W1.cell? ⟨w.heap.size, 1, none⟩ = some (.int .i64 x.1.2)) := Lib.hid (by rw [hW1]; simp [go_sem])
  have p2 : Hid (W1.cell? ⟨w.heap.size, 2, none⟩ = some (.int .i64 x.2.1)) := Lib.hid (by rw [hW1]; simp [go_sem])
  have p3 : Hid (W1.cell? ⟨w.heap.size, 3, none⟩ = some (.int .i64 x.2.2)) := Lib.hid (by rw [hW1]; simp [go_sem])
  have q0 : Hid (W1.cell? ⟨w.heap.size + 1, 0, none⟩ = some (.int .i64 y.1.1)) := Lib.hid (by rw [hW1]; simp [go_sem])
  have q1 : Hid (W1.cell? ⟨w.heap.size + 1, 1, none⟩ = some (.int .i64 y.1.2)) := Lib.hid (by rw [hW1]; simp [go_sem])
  have q2 : Hid (W1.cell? ⟨w.heap.size + 1, 2, none⟩ = some (.int .i64 y.2.1)) := Lib.hid (by rw [hW1]; simp [go_sem])
  have q3 : Hid (W1.cell? ⟨w.heap.size + 1, 3, none⟩ = some (.int .i64 y.2.2)) := Lib.hid (by rw [hW1]; simp [go_sem])
  have G1 : Grew w W1 := by rw [hW1]; exact ((Grew.refl _).alloc _).alloc _
  replace G1 := Lib.hid G1
  clear hW1
  go_wp2_with fail
  refine wp_region_held_drew (S := fun wv => Grew W1 wv) (by kernel_rfl) ((Grew.refl W1).drew) (fun hHeld => ?_)
  replace hHeld := Lib.hid hHeld
  try simp only [Act.put, List.setIfInBounds_toArray, List.set_cons_zero, List.set_cons_succ]
  refine wpAnyH_takeD (i := 0) (d := 5) (v := ?_) rfl rfl (by kernel_rfl) (by kernel_rfl) (by kernel_rfl) (fun _ _ _ h => h) (Or.inl ⟨by rfl, ?_⟩) hHeld.out ?_
  rotate_left
  · intro wv hSw
    replace hSw : Hid (Grew W1 wv) := Lib.hid hSw
    go_simp
    try with_reducible rfl
  try simp only [Act.put, List.setIfInBounds_toArray, List.set_cons_zero, List.set_cons_succ]
  refine wpAnyH_takeD (i := 1) (d := 6) (v := ?_) rfl rfl (by kernel_rfl) (by kernel_rfl) (by kernel_rfl) (fun _ _ _ h => h) (Or.inl ⟨by rfl, ?_⟩) hHeld.out ?_
  rotate_left
  · intro wv hSw
    replace hSw : Hid (Grew W1 wv) := Lib.hid hSw
    go_simp
    try with_reducible rfl
  try simp only [Act.put, List.setIfInBounds_toArray, List.set_cons_zero, List.set_cons_succ]
  refine wpAnyH_takeD (i := 2) (d := 7) (v := ?_) rfl rfl (by kernel_rfl) (by kernel_rfl) (by kernel_rfl) (fun _ _ _ h => h) (Or.inl ⟨by rfl, ?_⟩) hHeld.out ?_
  rotate_left
  · intro wv hSw
    replace hSw : Hid (Grew W1 wv) := Lib.hid hSw
    have t0 := hSw.out.cell p1.out
    go_simp
    try with_reducible rfl
  try simp only [Act.put, List.setIfInBounds_toArray, List.set_cons_zero, List.set_cons_succ]
  refine wpAnyH_takeD (i := 3) (d := 8) (v := ?_) rfl rfl (by kernel_rfl) (by kernel_rfl) (by kernel_rfl) (fun _ _ _ h => h) (Or.inl ⟨by rfl, ?_⟩) hHeld.out ?_
  rotate_left
  · intro wv hSw
    replace hSw : Hid (Grew W1 wv) := Lib.hid hSw
    go_simp
    try with_reducible rfl
  try simp only [Act.put, List.setIfInBounds_toArray, List.set_cons_zero, List.set_cons_succ]
  refine wpAnyH_takeD (i := 4) (d := 9) (v := ?_) rfl rfl (by kernel_rfl) (by kernel_rfl) (by kernel_rfl) (fun _ _ _ h => h) (Or.inl ⟨by rfl, ?_⟩) hHeld.out ?_
  rotate_left
  · intro wv hSw
    replace hSw : Hid (Grew W1 wv) := Lib.hid hSw
    go_simp
    try with_reducible rfl
  try simp only [Act.put, List.setIfInBounds_toArray, List.set_cons_zero, List.set_cons_succ]
  refine wpAnyH_takeD (i := 5) (d := 10) (v := ?_) rfl rfl (by kernel_rfl) (by kernel_rfl) (by kernel_rfl) (fun _ _ _ h => h) (Or.inl ⟨by rfl, ?_⟩) hHeld.out ?_
  rotate_left
  · intro wv hSw
    replace hSw : Hid (Grew W1 wv) := Lib.hid hSw
    have t0 := hSw.out.cell q1.out
    go_simp
    try with_reducible rfl
  try simp only [Act.put, List.setIfInBounds_toArray, List.set_cons_zero, List.set_cons_succ]
  refine wpAnyH_takeD (i := 7) (d := 12) (v := ?_) rfl rfl (by kernel_rfl) (by kernel_rfl) (by kernel_rfl) (fun _ _ _ h => h) (Or.inl ⟨by rfl, ?_⟩) hHeld.out ?_
  rotate_left
  · intro wv hSw
    replace hSw : Hid (Grew W1 wv) := Lib.hid hSw
    go_simp
    try with_reducible rfl
  try simp only [Act.put, List.setIfInBounds_toArray, List.set_cons_zero, List.set_cons_succ]
  refine wpAnyH_takeD (i := 8) (d := 13) (v := ?_) rfl rfl (by kernel_rfl) (by kernel_rfl) (by kernel_rfl) (fun _ _ _ h => h) (Or.inl ⟨by rfl, ?_⟩) hHeld.out ?_
  rotate_left
  · intro wv hSw
    replace hSw : Hid (Grew W1 wv) := Lib.hid hSw
    go_simp
    try with_reducible rfl
  try simp only [Act.put, List.setIfInBounds_toArray, List.set_cons_zero, List.set_cons_succ]
  refine wpAnyH_takeD (i := 9) (d := 14) (v := ?_) rfl rfl (by kernel_rfl) (by kernel_rfl) (by kernel_rfl) (fun _ _ _ h => h) (Or.inl ⟨by rfl, ?_⟩) hHeld.out ?_
  rotate_left
  · intro wv hSw
    replace hSw : Hid (Grew W1 wv) := Lib.hid hSw
    have t0 := hSw.out.cell p0.out
    go_simp
    try with_reducible rfl
  try simp only [Act.put, List.setIfInBounds_toArray, List.set_cons_zero, List.set_cons_succ]
  refine wpAnyH_takeD (i := 10) (d := 15) (v := ?_) rfl rfl (by kernel_rfl) (by kernel_rfl) (by kernel_rfl) (fun _ _ _ h => h) (Or.inl ⟨by rfl, ?_⟩) hHeld.out ?_
  rotate_left
  · intro wv hSw
    replace hSw : Hid (Grew W1 wv) := Lib.hid hSw
    go_simp
    try with_reducible rfl
  try simp only [Act.put, List.setIfInBounds_toArray, List.set_cons_zero, List.set_cons_succ]
  refine wpAnyH_takeD (i := 11) (d := 16) (v := ?_) rfl rfl (by kernel_rfl) (by kernel_rfl) (by kernel_rfl) (fun _ _ _ h => h) (Or.inl ⟨by rfl, ?_⟩) hHeld.out ?_
  rotate_left
  · intro wv hSw
    replace hSw : Hid (Grew W1 wv) := Lib.hid hSw
    go_simp
    try with_reducible rfl
  try simp only [Act.put, List.setIfInBounds_toArray, List.set_cons_zero, List.set_cons_succ]
  refine wpAnyH_takeD (i := 12) (d := 17) (v := ?_) rfl rfl (by kernel_rfl) (by kernel_rfl) (by kernel_rfl) (fun _ _ _ h => h) (Or.inl ⟨by rfl, ?_⟩) hHeld.out ?_
  rotate_left
  · intro wv hSw
    replace hSw : Hid (Grew W1 wv) := Lib.hid hSw
    have t0 := hSw.out.cell q0.out
    go_simp
    try with_reducible rfl
  try simp only [Act.put, List.setIfInBounds_toArray, List.set_cons_zero, List.set_cons_succ]
  refine wpAnyH_takeD (i := 14) (d := 19) (v := ?_) rfl rfl (by kernel_rfl) (by kernel_rfl) (by kernel_rfl) (fun _ _ _ h => h) (Or.inl ⟨by rfl, ?_⟩) hHeld.out ?_
  rotate_left
  · intro wv hSw
    replace hSw : Hid (Grew W1 wv) := Lib.hid hSw
    go_simp
    try with_reducible rfl
  try simp only [Act.put, List.setIfInBounds_toArray, List.set_cons_zero, List.set_cons_succ]
  refine wpAnyH_takeD (i := 15) (d := 20) (v := ?_) rfl rfl (by kernel_rfl) (by kernel_rfl) (by kernel_rfl) (fun _ _ _ h => h) (Or.inl ⟨by rfl, ?_⟩) hHeld.out ?_
  rotate_left
  · intro wv hSw
    replace hSw : Hid (Grew W1 wv) := Lib.hid hSw
    go_simp
    try with_reducible rfl
  try simp only [Act.put, List.setIfInBounds_toArray, List.set_cons_zero, List.set_cons_succ]
  refine wpAnyH_takeD (i := 16) (d := 21) (v := ?_) rfl rfl (by kernel_rfl) (by kernel_rfl) (by kernel_rfl) (fun _ _ _ h => h) (Or.inl ⟨by rfl, ?_⟩) hHeld.out ?_
  rotate_left
  · intro wv hSw
    replace hSw : Hid (Grew W1 wv) := Lib.hid hSw
    have t0 := hSw.out.cell p2.out
    go_simp
    try with_reducible rfl
  try simp only [Act.put, List.setIfInBounds_toArray, List.set_cons_zero, List.set_cons_succ]
  refine wpAnyH_takeD (i := 17) (d := 22) (v := ?_) rfl rfl (by kernel_rfl) (by kernel_rfl) (by kernel_rfl) (fun _ _ _ h => h) (Or.inl ⟨by rfl, ?_⟩) hHeld.out ?_
  rotate_left
  · intro wv hSw
    replace hSw : Hid (Grew W1 wv) := Lib.hid hSw
    go_simp
    try with_reducible rfl
  try simp only [Act.put, List.setIfInBounds_toArray, List.set_cons_zero, List.set_cons_succ]
  refine wpAnyH_takeD (i := 18) (d := 23) (v := ?_) rfl rfl (by kernel_rfl) (by kernel_rfl) (by kernel_rfl) (fun _ _ _ h => h) (Or.inl ⟨by rfl, ?_⟩) hHeld.out ?_
  rotate_left
  · intro wv hSw
    replace hSw : Hid (Grew W1 wv) := Lib.hid hSw
    go_simp
    try with_reducible rfl
  try simp only [Act.put, List.setIfInBounds_toArray, List.set_cons_zero, List.set_cons_succ]
  refine wpAnyH_takeD (i := 19) (d := 24) (v := ?_) rfl rfl (by kernel_rfl) (by kernel_rfl) (by kernel_rfl) (fun _ _ _ h => h) (Or.inl ⟨by rfl, ?_⟩) hHeld.out ?_
  rotate_left
  · intro wv hSw
    replace hSw : Hid (Grew W1 wv) := Lib.hid hSw
    have t0 := hSw.out.cell q2.out
    go_simp
    try with_reducible rfl
  try simp only [Act.put, List.setIfInBounds_toArray, List.set_cons_zero, List.set_cons_succ]
  refine wpAnyH_ready (rs := [6]) (by kernel_rfl) (by simp) ?_
  refine AllReadyH.cons rfl (fun KK hKK => ?_) AllReadyH.nil
  go_simp
  refine (compare_any x.1.2 y.1.2 _).mono ?_
  rintro e wk1 ⟨rfl, g⟩
  have gk := hHeld.out.trans g
  clear hHeld
  try dsimp only
  refine hKK.out _ _ gk (fun hHeld => ?_)
  clear gk hKK KK
  replace hHeld := Lib.hid (show Grew W1 wk1 from hHeld)
  try simp only [Act.put, List.setIfInBounds_toArray, List.set_cons_zero, List.set_cons_succ]
  refine wpAnyH_ready (rs := [13]) (by kernel_rfl) (by simp) ?_
  refine AllReadyH.cons rfl (fun KK hKK => ?_) AllReadyH.nil
  go_simp
  refine (compare_any x.1.1 y.1.1 _).mono ?_
  rintro e wk2 ⟨rfl, g⟩
  have gk := hHeld.out.trans g
  clear hHeld
  try dsimp only
  refine hKK.out _ _ gk (fun hHeld => ?_)
  clear gk hKK KK
  replace hHeld := Lib.hid (show Grew W1 wk2 from hHeld)
  try simp only [Act.put, List.setIfInBounds_toArray, List.set_cons_zero, List.set_cons_succ]
  refine wpAnyH_ready (rs := [20]) (by kernel_rfl) (by simp) ?_
  refine AllReadyH.cons rfl (fun KK hKK => ?_) AllReadyH.nil
  go_simp
  refine (compare_any x.2.1 y.2.1 _).mono ?_
  rintro e wk3 ⟨rfl, g⟩
  have gk := hHeld.out.trans g
  clear hHeld
  try dsimp only
  refine hKK.out _ _ gk (fun hHeld => ?_)
  clear gk hKK KK
  replace hHeld := Lib.hid (show Grew W1 wk3 from hHeld)
  try simp only [Act.put, List.setIfInBounds_toArray, List.set_cons_zero, List.set_cons_succ]
  refine wpAnyH_ready (rs := [21]) (by kernel_rfl) (by simp) ?_
  refine AllReadyH.cons rfl (fun KK hKK => ?_) AllReadyH.nil
  go_simp
  have gP := hHeld
  clear hHeld
  try dsimp only
  refine hKK.out _ _ (gP.out.alloc _) (fun hHeld => ?_)
  clear hKK KK
  replace hHeld := Lib.hid hHeld
  try simp only [Act.put, List.setIfInBounds_toArray, List.set_cons_zero, List.set_cons_succ]
  have o0 := Lib.hid (show (wk3.alloc (.cells #[.int .i64 (cmpI x.1.2 y.1.2), .int .i64 (cmpI x.1.1 y.1.1), .int .i64 (cmpI x.2.1 y.2.1)] 3)).cell? ⟨wk3.heap.size, 0, none⟩ = some (.int .i64 (cmpI x.1.2 y.1.2)) by simp [go_sem])
  have o1 := Lib.hid (show (wk3.alloc (.cells #[.int .i64 (cmpI x.1.2 y.1.2), .int .i64 (cmpI x.1.1 y.1.1), .int .i64 (cmpI x.2.1 y.2.1)] 3)).cell? ⟨wk3.heap.size, 1, none⟩ = some (.int .i64 (cmpI x.1.1 y.1.1)) by simp [go_sem])
  have o2 := Lib.hid (show (wk3.alloc (.cells #[.int .i64 (cmpI x.1.2 y.1.2), .int .i64 (cmpI x.1.1 y.1.1), .int .i64 (cmpI x.2.1 y.2.1)] 3)).cell? ⟨wk3.heap.size, 2, none⟩ = some (.int .i64 (cmpI x.2.1 y.2.1)) by simp [go_sem])
  refine wpAnyH_ready (rs := [22]) (by kernel_rfl) (by simp) ?_
  refine AllReadyH.cons rfl (fun KK hKK => ?_) AllReadyH.nil
  go_simp
  refine (or_any _ _ _ _ _ o0.out o1.out o2.out).mono ?_
  rintro e wk4 ⟨rfl, g⟩
  have gk := hHeld.out.trans g
  clear o0 o1 o2
  clear hHeld
  try dsimp only
  refine hKK.out _ _ gk (fun hHeld => ?_)
  clear gk hKK KK
  replace hHeld := Lib.hid (show Grew W1 wk4 from hHeld)
  try simp only [Act.put, List.setIfInBounds_toArray, List.set_cons_zero, List.set_cons_succ]
  refine wpAnyH_takeD (i := 23) (d := 4) (v := ?_) rfl rfl (by kernel_rfl) (by kernel_rfl) (by kernel_rfl) (fun _ _ _ h => h) (Or.inl ⟨by rfl, ?_⟩) hHeld.out ?_
  rotate_left
  · intro wv hSw
    replace hSw : Hid (Grew W1 wv) := Lib.hid hSw
    go_simp
    try with_reducible rfl
  try simp only [Act.put, List.setIfInBounds_toArray, List.set_cons_zero, List.set_cons_succ]
  refine wpAnyH_done (by kernel_rfl) ?_ _
  go_wp2_with fail
  go_ret
  exact ⟨rfl, G1.out.trans hHeld.out⟩
set_option maxRecDepth 100000 in
set_option maxHeartbeats 8000000 in
theorem upr3_any (w : World) (x y : SegZ) : Calls Tryz.prog 94 (#[.agg (encS x).toArray, .agg (encS y).toArray] ++ #[]) w fun e w' => e = .returned (.int .i64 (cfU x y)) ∧ Grew w w' := by
  show Calls Tryz.prog 94 #[segV x.1.1 x.1.2 x.2.1 x.2.2, segV y.1.1 y.1.2 y.2.1 y.2.2] w _
  go_enter Tryz.func94, Tryz.ntmps94
  go_upto_region 1 with fail
  refine gen_wp ?_
  intro W1 hW1
  have p0 : Hid (W1.cell? ⟨w.heap.size, 0, none⟩ = some (.int .i64 x.1.1)) := Lib.hid (by rw [hW1]; simp [go_sem])
  have p1 : Hid (W1.cell? ⟨w.heap.size, 1, none⟩ = some (.int .i64 x.1.2)) := Lib.hid (by rw [hW1]; simp [go_sem])
  have p2 : Hid (W1.cell? ⟨w.heap.size, 2, none⟩ = some (.int .i64 x.2.1)) := Lib.hid (by rw [hW1]; simp [go_sem])
  have p3 : Hid (W1.cell? ⟨w.heap.size, 3, none⟩ = some (.int .i64 x.2.2)) := Lib.hid (by rw [hW1]; simp [go_sem])
  have q0 : Hid (W1.cell? ⟨w.heap.size + 1, 0, none⟩ = some (.int .i64 y.1.1)) := Lib.hid (by rw [hW1]; simp [go_sem])
  have q1 : Hid (W1.cell? ⟨w.heap.size + 1, 1, none⟩ = some (.int .i64 y.1.2)) := Lib.hid (by rw [hW1]; simp [go_sem])
  have q2 : Hid (W1.cell? ⟨w.heap.size + 1, 2, none⟩ = some (.int .i64 y.2.1)) := Lib.hid (by rw [hW1]; simp [go_sem])
  have q3 : Hid (W1.cell? ⟨w.heap.size + 1, 3, none⟩ = some (.int .i64 y.2.2)) := Lib.hid (by rw [hW1]; simp [go_sem])
  have G1 : Grew w W1 := by rw [hW1]; exact ((Grew.refl _).alloc _).alloc _
  replace G1 := Lib.hid G1
  clear hW1
  go_wp2_with fail
  refine wp_region_held_drew (S := fun wv => Grew W1 wv) (by kernel_rfl) ((Grew.refl W1).drew) (fun hHeld => ?_)
  replace hHeld := Lib.hid hHeld
  try simp only [Act.put, List.setIfInBounds_toArray, List.set_cons_zero, List.set_cons_succ]
  refine wpAnyH_takeD (i := 0) (d := 5) (v := ?_) rfl rfl (by kernel_rfl) (by kernel_rfl) (by kernel_rfl) (fun _ _ _ h => h) (Or.inl ⟨by rfl, ?_⟩) hHeld.out ?_
  rotate_left
  · intro wv hSw
    replace hSw : Hid (Grew W1 wv) := Lib.hid hSw
    go_simp
    try with_reducible rfl
  try simp only [Act.put, List.setIfInBounds_toArray, List.set_cons_zero, List.set_cons_succ]
  refine wpAnyH_takeD (i := 1) (d := 6) (v := ?_) rfl rfl (by kernel_rfl) (by kernel_rfl) (by kernel_rfl) (fun _ _ _ h => h) (Or.inl ⟨by rfl, ?_⟩) hHeld.out ?_
  rotate_left
  · intro wv hSw
    replace hSw : Hid (Grew W1 wv) := Lib.hid hSw
    go_simp
    try with_reducible rfl
  try simp only [Act.put, List.setIfInBounds_toArray, List.set_cons_zero, List.set_cons_succ]
  refine wpAnyH_takeD (i := 2) (d := 7) (v := ?_) rfl rfl (by kernel_rfl) (by kernel_rfl) (by kernel_rfl) (fun _ _ _ h => h) (Or.inl ⟨by rfl, ?_⟩) hHeld.out ?_
  rotate_left
  · intro wv hSw
    replace hSw : Hid (Grew W1 wv) := Lib.hid hSw
    have t0 := hSw.out.cell p0.out
    go_simp
    try with_reducible rfl
  try simp only [Act.put, List.setIfInBounds_toArray, List.set_cons_zero, List.set_cons_succ]
  refine wpAnyH_takeD (i := 3) (d := 8) (v := ?_) rfl rfl (by kernel_rfl) (by kernel_rfl) (by kernel_rfl) (fun _ _ _ h => h) (Or.inl ⟨by rfl, ?_⟩) hHeld.out ?_
  rotate_left
  · intro wv hSw
    replace hSw : Hid (Grew W1 wv) := Lib.hid hSw
    go_simp
    try with_reducible rfl
  try simp only [Act.put, List.setIfInBounds_toArray, List.set_cons_zero, List.set_cons_succ]
  refine wpAnyH_takeD (i := 4) (d := 9) (v := ?_) rfl rfl (by kernel_rfl) (by kernel_rfl) (by kernel_rfl) (fun _ _ _ h => h) (Or.inl ⟨by rfl, ?_⟩) hHeld.out ?_
  rotate_left
  · intro wv hSw
    replace hSw : Hid (Grew W1 wv) := Lib.hid hSw
    go_simp
    try with_reducible rfl
  try simp only [Act.put, List.setIfInBounds_toArray, List.set_cons_zero, List.set_cons_succ]
  refine wpAnyH_takeD (i := 5) (d := 10) (v := ?_) rfl rfl (by kernel_rfl) (by kernel_rfl) (by kernel_rfl) (fun _ _ _ h => h) (Or.inl ⟨by rfl, ?_⟩) hHeld.out ?_
  rotate_left
  · intro wv hSw
    replace hSw : Hid (Grew W1 wv) := Lib.hid hSw
    have t0 := hSw.out.cell q0.out
    go_simp
    try with_reducible rfl
  try simp only [Act.put, List.setIfInBounds_toArray, List.set_cons_zero, List.set_cons_succ]
  refine wpAnyH_takeD (i := 7) (d := 12) (v := ?_) rfl rfl (by kernel_rfl) (by kernel_rfl) (by kernel_rfl) (fun _ _ _ h => h) (Or.inl ⟨by rfl, ?_⟩) hHeld.out ?_
  rotate_left
  · intro wv hSw
    replace hSw : Hid (Grew W1 wv) := Lib.hid hSw
    go_simp
    try with_reducible rfl
  try simp only [Act.put, List.setIfInBounds_toArray, List.set_cons_zero, List.set_cons_succ]
  refine wpAnyH_takeD (i := 8) (d := 13) (v := ?_) rfl rfl (by kernel_rfl) (by kernel_rfl) (by kernel_rfl) (fun _ _ _ h => h) (Or.inl ⟨by rfl, ?_⟩) hHeld.out ?_
  rotate_left
  · intro wv hSw
    replace hSw : Hid (Grew W1 wv) := Lib.hid hSw
    go_simp
    try with_reducible rfl
  try simp only [Act.put, List.setIfInBounds_toArray, List.set_cons_zero, List.set_cons_succ]
  refine wpAnyH_takeD (i := 9) (d := 14) (v := ?_) rfl rfl (by kernel_rfl) (by kernel_rfl) (by kernel_rfl) (fun _ _ _ h => h) (Or.inl ⟨by rfl, ?_⟩) hHeld.out ?_
  rotate_left
  · intro wv hSw
    replace hSw : Hid (Grew W1 wv) := Lib.hid hSw
    have t0 := hSw.out.cell p1.out
    go_simp
    try with_reducible rfl
  try simp only [Act.put, List.setIfInBounds_toArray, List.set_cons_zero, List.set_cons_succ]
  refine wpAnyH_takeD (i := 10) (d := 15) (v := ?_) rfl rfl (by kernel_rfl) (by kernel_rfl) (by kernel_rfl) (fun _ _ _ h => h) (Or.inl ⟨by rfl, ?_⟩) hHeld.out ?_
  rotate_left
  · intro wv hSw
    replace hSw : Hid (Grew W1 wv) := Lib.hid hSw
    go_simp
    try with_reducible rfl
  try simp only [Act.put, List.setIfInBounds_toArray, List.set_cons_zero, List.set_cons_succ]
  refine wpAnyH_takeD (i := 11) (d := 16) (v := ?_) rfl rfl (by kernel_rfl) (by kernel_rfl) (by kernel_rfl) (fun _ _ _ h => h) (Or.inl ⟨by rfl, ?_⟩) hHeld.out ?_
  rotate_left
  · intro wv hSw
    replace hSw : Hid (Grew W1 wv) := Lib.hid hSw
    go_simp
    try with_reducible rfl
  try simp only [Act.put, List.setIfInBounds_toArray, List.set_cons_zero, List.set_cons_succ]
  refine wpAnyH_takeD (i := 12) (d := 17) (v := ?_) rfl rfl (by kernel_rfl) (by kernel_rfl) (by kernel_rfl) (fun _ _ _ h => h) (Or.inl ⟨by rfl, ?_⟩) hHeld.out ?_
  rotate_left
  · intro wv hSw
    replace hSw : Hid (Grew W1 wv) := Lib.hid hSw
    have t0 := hSw.out.cell q1.out
    go_simp
    try with_reducible rfl
  try simp only [Act.put, List.setIfInBounds_toArray, List.set_cons_zero, List.set_cons_succ]
  refine wpAnyH_takeD (i := 14) (d := 19) (v := ?_) rfl rfl (by kernel_rfl) (by kernel_rfl) (by kernel_rfl) (fun _ _ _ h => h) (Or.inl ⟨by rfl, ?_⟩) hHeld.out ?_
  rotate_left
  · intro wv hSw
    replace hSw : Hid (Grew W1 wv) := Lib.hid hSw
    go_simp
    try with_reducible rfl
  try simp only [Act.put, List.setIfInBounds_toArray, List.set_cons_zero, List.set_cons_succ]
  refine wpAnyH_takeD (i := 15) (d := 20) (v := ?_) rfl rfl (by kernel_rfl) (by kernel_rfl) (by kernel_rfl) (fun _ _ _ h => h) (Or.inl ⟨by rfl, ?_⟩) hHeld.out ?_
  rotate_left
  · intro wv hSw
    replace hSw : Hid (Grew W1 wv) := Lib.hid hSw
    go_simp
    try with_reducible rfl
  try simp only [Act.put, List.setIfInBounds_toArray, List.set_cons_zero, List.set_cons_succ]
  refine wpAnyH_takeD (i := 16) (d := 21) (v := ?_) rfl rfl (by kernel_rfl) (by kernel_rfl) (by kernel_rfl) (fun _ _ _ h => h) (Or.inl ⟨by rfl, ?_⟩) hHeld.out ?_
  rotate_left
  · intro wv hSw
    replace hSw : Hid (Grew W1 wv) := Lib.hid hSw
    have t0 := hSw.out.cell p3.out
    go_simp
    try with_reducible rfl
  try simp only [Act.put, List.setIfInBounds_toArray, List.set_cons_zero, List.set_cons_succ]
  refine wpAnyH_takeD (i := 17) (d := 22) (v := ?_) rfl rfl (by kernel_rfl) (by kernel_rfl) (by kernel_rfl) (fun _ _ _ h => h) (Or.inl ⟨by rfl, ?_⟩) hHeld.out ?_
  rotate_left
  · intro wv hSw
    replace hSw : Hid (Grew W1 wv) := Lib.hid hSw
    go_simp
    try with_reducible rfl
  try simp only [Act.put, List.setIfInBounds_toArray, List.set_cons_zero, List.set_cons_succ]
  refine wpAnyH_takeD (i := 18) (d := 23) (v := ?_) rfl rfl (by kernel_rfl) (by kernel_rfl) (by kernel_rfl) (fun _ _ _ h => h) (Or.inl ⟨by rfl, ?_⟩) hHeld.out ?_
  rotate_left
  · intro wv hSw
    replace hSw : Hid (Grew W1 wv) := Lib.hid hSw
    go_simp
    try with_reducible rfl
  try simp only [Act.put, List.setIfInBounds_toArray, List.set_cons_zero, List.set_cons_succ]
  refine wpAnyH_takeD (i := 19) (d := 24) (v := ?_) rfl rfl (by kernel_rfl) (by kernel_rfl) (by kernel_rfl) (fun _ _ _ h => h) (Or.inl ⟨by rfl, ?_⟩) hHeld.out ?_
  rotate_left
  · intro wv hSw
    replace hSw : Hid (Grew W1 wv) := Lib.hid hSw
    have t0 := hSw.out.cell q3.out
    go_simp
    try with_reducible rfl
  try simp only [Act.put, List.setIfInBounds_toArray, List.set_cons_zero, List.set_cons_succ]
  refine wpAnyH_ready (rs := [6]) (by kernel_rfl) (by simp) ?_
  refine AllReadyH.cons rfl (fun KK hKK => ?_) AllReadyH.nil
  go_simp
  refine (compare_any x.1.1 y.1.1 _).mono ?_
  rintro e wk1 ⟨rfl, g⟩
  have gk := hHeld.out.trans g
  clear hHeld
  try dsimp only
  refine hKK.out _ _ gk (fun hHeld => ?_)
  clear gk hKK KK
  replace hHeld := Lib.hid (show Grew W1 wk1 from hHeld)
  try simp only [Act.put, List.setIfInBounds_toArray, List.set_cons_zero, List.set_cons_succ]
  refine wpAnyH_ready (rs := [13]) (by kernel_rfl) (by simp) ?_
  refine AllReadyH.cons rfl (fun KK hKK => ?_) AllReadyH.nil
  go_simp
  refine (compare_any x.1.2 y.1.2 _).mono ?_
  rintro e wk2 ⟨rfl, g⟩
  have gk := hHeld.out.trans g
  clear hHeld
  try dsimp only
  refine hKK.out _ _ gk (fun hHeld => ?_)
  clear gk hKK KK
  replace hHeld := Lib.hid (show Grew W1 wk2 from hHeld)
  try simp only [Act.put, List.setIfInBounds_toArray, List.set_cons_zero, List.set_cons_succ]
  refine wpAnyH_ready (rs := [20]) (by kernel_rfl) (by simp) ?_
  refine AllReadyH.cons rfl (fun KK hKK => ?_) AllReadyH.nil
  go_simp
  refine (compare_any x.2.2 y.2.2 _).mono ?_
  rintro e wk3 ⟨rfl, g⟩
  have gk := hHeld.out.trans g
  clear hHeld
  try dsimp only
  refine hKK.out _ _ gk (fun hHeld => ?_)
  clear gk hKK KK
  replace hHeld := Lib.hid (show Grew W1 wk3 from hHeld)
  try simp only [Act.put, List.setIfInBounds_toArray, List.set_cons_zero, List.set_cons_succ]
  refine wpAnyH_ready (rs := [21]) (by kernel_rfl) (by simp) ?_
  refine AllReadyH.cons rfl (fun KK hKK => ?_) AllReadyH.nil
  go_simp
  have gP := hHeld
  clear hHeld
  try dsimp only
  refine hKK.out _ _ (gP.out.alloc _) (fun hHeld => ?_)
  clear hKK KK
  replace hHeld := Lib.hid hHeld
  try simp only [Act.put, List.setIfInBounds_toArray, List.set_cons_zero, List.set_cons_succ]
  have o0 := Lib.hid (show (wk3.alloc (.cells #[.int .i64 (cmpI x.1.1 y.1.1), .int .i64 (cmpI x.1.2 y.1.2), .int .i64 (cmpI x.2.2 y.2.2)] 3)).cell? ⟨wk3.heap.size, 0, none⟩ = some (.int .i64 (cmpI x.1.1 y.1.1)) by simp [go_sem])
  have o1 := Lib.hid (show (wk3.alloc (.cells #[.int .i64 (cmpI x.1.1 y.1.1), .int .i64 (cmpI x.1.2 y.1.2), .int .i64 (cmpI x.2.2 y.2.2)] 3)).cell? ⟨wk3.heap.size, 1, none⟩ = some (.int .i64 (cmpI x.1.2 y.1.2)) by simp [go_sem])
  have o2 := Lib.hid (show (wk3.alloc (.cells #[.int .i64 (cmpI x.1.1 y.1.1), .int .i64 (cmpI x.1.2 y.1.2), .int .i64 (cmpI x.2.2 y.2.2)] 3)).cell? ⟨wk3.heap.size, 2, none⟩ = some (.int .i64 (cmpI x.2.2 y.2.2)) by simp [go_sem])
  refine wpAnyH_ready (rs := [22]) (by kernel_rfl) (by simp) ?_
  refine AllReadyH.cons rfl (fun KK hKK => ?_) AllReadyH.nil
  go_simp
  refine (or_any _ _ _ _ _ o0.out o1.out o2.out).mono ?_
  rintro e wk4 ⟨rfl, g⟩
  have gk := hHeld.out.trans g
  clear o0 o1 o2
  clear hHeld
  try dsimp only
  refine hKK.out _ _ gk (fun hHeld => ?_)
  clear gk hKK KK
  replace hHeld := Lib.hid (show Grew W1 wk4 from hHeld)
  try simp only [Act.put, List.setIfInBounds_toArray, List.set_cons_zero, List.set_cons_succ]
  refine wpAnyH_takeD (i := 23) (d := 4) (v := ?_) rfl rfl (by kernel_rfl) (by kernel_rfl) (by kernel_rfl) (fun _ _ _ h => h) (Or.inl ⟨by rfl, ?_⟩) hHeld.out ?_
  rotate_left
  · intro wv hSw
    replace hSw : Hid (Grew W1 wv) := Lib.hid hSw
    go_simp
    try with_reducible rfl
  try simp only [Act.put, List.setIfInBounds_toArray, List.set_cons_zero, List.set_cons_succ]
  refine wpAnyH_done (by kernel_rfl) ?_ _
  go_wp2_with fail
  go_ret
  exact ⟨rfl, G1.out.trans hHeld.out⟩
end Go.Proofs.YtngbcbncllfblaaGreat
namespace Go.Proofs.YtngbcbncllfblaaGreat
open Go.RowKit

theorem segVals_append : ∀ l m : List SegZ, segVals (l ++ m) = segVals l ++ segVals m
  | [], m => rfl
  | s :: l, m => by simp only [List.cons_append, segVals, segVals_append l m]
theorem ownsRow_low {e : TypeId} {w : World} {base b size n : Nat} {v : Value} {xs : List Value} (h : w.ownsRow base e size v n xs) (hb : b ≤ base) : w.ownsRow b e size v n xs := by
  refine ⟨h.1, ?_⟩
  rcases h.2 with h | ⟨g, cap, cur, rfl, hbg, h⟩
  · exact .inl h
  · exact .inr ⟨g, cap, cur, rfl, Nat.le_trans hb hbg, h⟩
theorem ownsRow_set {e : TypeId} {w : World} {base size n r : Nat} {v u : Value} {xs : List Value} (h : w.ownsRow base e size v n xs) (hr : v.ownBlock ≠ some r) : (w.setCell ⟨r, 0, none⟩ u).ownsRow base e size v n xs := by
  refine ⟨h.1, ?_⟩
  rcases h.2 with h | ⟨g, cap, cur, rfl, hbg, hg, h⟩
  · exact .inl h
  · refine .inr ⟨g, cap, cur, rfl, hbg, ?_, h⟩
    rw [heap_setCell_other _ _ _ _ (fun e => hr (by simp only at e; rw [← e]; rfl))]
    exact hg
/-- append of ways to ways that a call owns. -/
theorem run_appWays {w : World} {base b : Nat} {v X : Value} {l m : List SegZ} (hO : w.ownsRow base 76 4 v l.length (segVals l)) (hX : w.ownsRow b 76 4 X m.length (segVals m)) (hlen : l.length + m.length ≤ 1048576) (hbase : base ≤ w.heap.size) (ty : TypeId) :
    ∃ v' w', (Builtin.append_ #[29, 29] ty #[v, X]).run Tryz.prog w = .ok v' w' ∧ w'.ownsRow base 76 4 v' (l ++ m).length (segVals (l ++ m)) ∧ (∀ k p u, v.ownBlock ≠ some k → w.cell? ⟨k, p, none⟩ = some u → w'.cell? ⟨k, p, none⟩ = some u) ∧ ∀ W, W.heap.size ≤ base → Grew W w → Grew W w' := by
  obtain ⟨i, hi, hz, hsize, hbyt⟩ := info_parts info_seg
  by_cases h0 : m.length = 0
  · obtain rfl : m = [] := List.eq_nil_of_length_eq_zero h0
    refine ⟨v, w, ?_, by rw [List.append_nil]; exact hO, fun _ _ _ _ h => h, fun _ _ h => h⟩
    obtain ⟨-, ⟨rfl, hn⟩ | ⟨g, cap, cur, rfl, -, hg, hnc, hcm, hcs, htake⟩⟩ := hO
    · obtain ⟨-, ⟨rfl, -⟩ | ⟨g2, cap2, cur2, rfl, -⟩⟩ := hX <;> simp [Builtin.append_, run_underlying Tryz.underlying29, sizeOf, typeInfo, hi, Builtin.lenOf, Builtin.firstCells, loadCells, loadCellsFrom]
    · obtain ⟨-, ⟨rfl, -⟩ | ⟨g2, cap2, cur2, rfl, -⟩⟩ := hX <;> simp [Builtin.append_, run_underlying Tryz.underlying29, sizeOf, typeInfo, hi, Builtin.lenOf, Builtin.firstCells, loadCells, loadCellsFrom, storeCells, hnc]
  · obtain ⟨-, ⟨rfl, hn⟩ | ⟨g, cap, cur, rfl, -, hg, hnc, hcm, hcs, htake⟩⟩ := hX
    · exact absurd hn h0
    have hnews : ∀ j u, (segVals m)[j]? = some u → w.cell? ((⟨g, 0, none⟩ : Addr).add j) = some u := by
      intro j u hu
      have hadd : (⟨g, 0, none⟩ : Addr).add j = ⟨g, j, none⟩ := by unfold Addr.add; split <;> simp_all
      have hj := (List.getElem?_eq_some_iff.1 hu).1
      rw [segVals_len] at hj
      rw [hadd, cell_of_row w g j cur 76 (0, 0) hg, ← hu, ← htake, List.getElem?_take, if_pos hj, Array.getElem?_toList]
    obtain ⟨v', w', hr, h2, h3, h4⟩ := run_append_own (P := Tryz.prog) w base 29 ty 76 i _ 4 32 Tryz.underlying29 hi hz hsize hbyt rfl (by omega) v l.length _ hO ⟨g, 0, none⟩ m.length cap (segVals m) (segVals_len _) hnews (segVals_one _) (by unfold maxLen; omega) (by omega) hbase
    have hd := drawn_append (P := Tryz.prog) w base 29 ty 76 i _ 4 32 Tryz.underlying29 hi hz hsize hbyt (by omega) v l.length _ hO ⟨g, 0, none⟩ m.length cap (segVals m) (segVals_len _) hnews (segVals_one _) (by unfold maxLen; omega) (by omega) v' w' hr
    refine ⟨v', w', hr, ?_, fun k p u hk hu => h3.cell hu (fun e => hk e.symm), fun W hW hG => hG.grown h3 hd fun b hb => Nat.le_trans hW (hO.lt b hb).1⟩
    rw [segVals_append, List.length_append]
    exact h2
section
variable {w : World} {base b : Nat} {v X : Value} {l m : List SegZ}
theorem wpList_appWays {ops : Array Oper} {rest : List Oper} {o : Oper} {a : Act} {Q : Exit → Act → World → Prop} (hgd : o.guard = none) (s x : Operand)
    (ho : o.op = .call { callee := .builtin .append, args := #[s, x], argTypes := #[29, 29] }) (hs : a.eval s = v) (hx : a.eval x = X)
    (hO : w.ownsRow base 76 4 v l.length (segVals l)) (hX : w.ownsRow b 76 4 X m.length (segVals m)) (hlen : l.length + m.length ≤ 1048576) (hbase : base ≤ w.heap.size)
    (h : ∀ v' w', w'.ownsRow base 76 4 v' (l ++ m).length (segVals (l ++ m)) → (∀ k p u, v.ownBlock ≠ some k → w.cell? ⟨k, p, none⟩ = some u → w'.cell? ⟨k, p, none⟩ = some u) → (∀ W, W.heap.size ≤ base → Grew W w → Grew W w') → wpList Tryz.prog ops Q rest (a.put o.dst v') w') : wpList Tryz.prog ops Q (o :: rest) a w := by
  refine wpList_plain hgd fun _ hK => ?_
  obtain ⟨v', w', hr, h1, h2, h3⟩ := run_appWays hO hX hlen hbase o.type
  unfold Oper.wp execOp
  simp only [ho, resolve, invoke, builtin, Sem.run_bind, Sem.run_pure, Result.andThen_ok, List.map_toArray, List.map_cons, List.map_nil, hs, hx, hr]
  exact hK _ _ (h v' w' h1 h2 h3)
theorem wp_appWays {o : Oper} {a : Act} {K : Act → World → Prop} {Q : Exit → Act → World → Prop} (s x : Operand)
    (ho : o.op = .call { callee := .builtin .append, args := #[s, x], argTypes := #[29, 29] }) (hs : a.eval s = v) (hx : a.eval x = X)
    (hO : w.ownsRow base 76 4 v l.length (segVals l)) (hX : w.ownsRow b 76 4 X m.length (segVals m)) (hlen : l.length + m.length ≤ 1048576) (hbase : base ≤ w.heap.size)
    (h : ∀ v' w', w'.ownsRow base 76 4 v' (l ++ m).length (segVals (l ++ m)) → (∀ k p u, v.ownBlock ≠ some k → w.cell? ⟨k, p, none⟩ = some u → w'.cell? ⟨k, p, none⟩ = some u) → (∀ W, W.heap.size ≤ base → Grew W w → Grew W w') → K (a.put o.dst v') w') : Oper.wp Tryz.prog o a w K Q := by
  obtain ⟨v', w', hr, h1, h2, h3⟩ := run_appWays hO hX hlen hbase o.type
  unfold Oper.wp execOp
  simp only [ho, resolve, invoke, builtin, Sem.run_bind, Sem.run_pure, Result.andThen_ok, List.map_toArray, List.map_cons, List.map_nil, hs, hx, hr]
  exact h v' w' h1 h2 h3
end

set_option maxRecDepth 100000 in
set_option maxHeartbeats 16000000 in
theorem level_any (W H : Nat) (A : Option Addr) (c : Nat) (bs : List Bool) (w : World) (hb : BoolsR w (.slice A bs.length c) bs) (hW : W ≤ 64) (hH : H ≤ 64) :
    Calls Tryz.prog 44 #[cellV W H A bs.length c] w fun e w' => ∃ v', e = .returned v' ∧ ∃ l k : List Rn, Lines (hasC W H bs) 0 (H + 1) l ∧ l.length ≤ 65 * 64 ∧ k.Pairwise aheadR ∧ (∀ r, r ∈ k ↔ r ∈ l) ∧ k.length = l.length ∧ w'.ownsRow w.heap.size 76 4 v' (k.map segOf).length (segVals (k.map segOf)) ∧ Grew w w' := by
  have hmf : ∀ (fn : Fn) (first cap : Array Value) (w : World), (Instr.makeFunc fn first cap).run Tryz.prog w = .ok (.func fn first cap) w := fun _ _ _ _ => rfl
  have e1 : ∀ args w, (callFunc 82 args).run Tryz.prog w = .ok (.enter 82 args) w := enters_of Tryz.func82 (by kernel_rfl) rfl
  have e2 : ∀ args w, (callFunc 86 args).run Tryz.prog w = .ok (.enter 86 args) w := enters_of Tryz.func86 (by kernel_rfl) rfl
  have e3 : ∀ args w, (callFunc 89 args).run Tryz.prog w = .ok (.enter 89 args) w := enters_of Tryz.func89 (by kernel_rfl) rfl
  have hz : ∀ w : World, (Go.sizeOf 76).run Tryz.prog w = .ok 4 w := Tryz.sizeOf76
  have ht : ∀ w : World, (isAgg 76).run Tryz.prog w = .ok true w := Tryz.isAgg76
  have hin := Lib.hid (fun (x y : Int) (h : hasC W H bs x y = true) => hasC_in h)
  replace e1 := Lib.hid e1
  replace e2 := Lib.hid e2
  replace e3 := Lib.hid e3
  replace hz := Lib.hid hz
  replace ht := Lib.hid ht
  go_enter Tryz.func44, Tryz.ntmps44
  go_upto_region 1 with fail
  refine gen_wp ?_
  intro W1 hW1
  have p0 : W1.cell? ⟨w.heap.size, 0, none⟩ = some (.int .i64 W) := by rw [hW1]; simp [go_sem]
  have p1 : W1.cell? ⟨w.heap.size, 1, none⟩ = some (.int .i64 H) := by rw [hW1]; simp [go_sem]
  have p2 : W1.cell? ⟨w.heap.size, 2, none⟩ = some (.slice A bs.length c) := by rw [hW1]; simp [go_sem]
  have G1 : Grew w W1 := by rw [hW1]; exact (Grew.refl _).alloc _
  obtain ⟨B, hB⟩ : ∃ B, w.heap.size = B := ⟨_, rfl⟩
  rw [hB] at p0 p1 p2 ⊢
  have hbW := Lib.hid (hb.grew G1)
  replace hB := Lib.hid hB
  replace G1 := Lib.hid G1
  replace p0 := Lib.hid p0
  replace p1 := Lib.hid p1
  replace p2 := Lib.hid p2
  clear hW1 hb
  go_wp2_with fail
  go_loopg [3, 4] (H + 1) (fun gk s3 s4 wr => ∃ (y Y : Nat) (l : List Rn), gk + y = H + 1 ∧ s4 = .pointer (some ⟨Y, 0, none⟩) ∧ wr.cell? ⟨Y, 0, none⟩ = some (.int .i64 y) ∧ wr.frozen? ⟨Y, 0, none⟩ = false ∧ W1.heap.size ≤ Y ∧ Hid (Lines (hasC W H bs) 0 y l) ∧ l.length ≤ y * 64 ∧ wr.ownsRow W1.heap.size 76 4 s3 (l.map segOf).length (segVals (l.map segOf)) ∧ (∀ g, s3.ownBlock = some g → g < Y) ∧ Grew W1 wr)
  case atStart => exact ⟨0, W1.heap.size, [], rfl, rfl, by simp [go_sem], by simp [go_sem], Nat.le_refl _, Lib.hid (Lines.nil _ _), by simp, World.ownsRow_nil _ _ _ _, fun g h => by simp [Value.ownBlock] at h, by
    repeat (first | exact Grew.refl _ | refine Grew.setCell ?_ (by simp <;> omega) _ | refine Grew.alloc ?_ _)⟩
  case round =>
    obtain ⟨y, Y, l, hgy, rfl, yc, yf, hYB, hL, hll, hO, hbY, hG⟩ := hrel
    have q0 := hG.cell p0.out
    have q1 := hG.cell p1.out
    have q2 := hG.cell p2.out
    by_cases hy : y ≤ H
    · have hyl : (y : Int) ≤ (H : Int) := by omega
      have hbr := Lib.hid (hbW.out.grew hG)
      have yc' := Lib.hid yc
      have q0' := Lib.hid q0
      have q1' := Lib.hid q1
      have q2' := Lib.hid q2
      have hO' := Lib.hid hO
      have hG' := Lib.hid hG
      have hbY' := Lib.hid hbY
      clear hO hG hbY
      have e1' := e1.out
      have e2' := e2.out
      go_wp2_with fail
      refine (rows_any (rowStep (hasC W H bs) y) (fun p => segOf (rowWay (hasC W H bs) y p)) W (by omega) 82 86 #[.pointer (some ⟨B, 0, none⟩), .pointer (some ⟨Y, 0, none⟩)] #[.pointer (some ⟨Y, 0, none⟩)] _ e1.out e2.out
        (fun W' i hi g => lev1_any W H A c bs i y B Y W' (hbr.out.grew g) (g.cell q0'.out) (g.cell q1'.out) (g.cell q2'.out) (g.cell yc'.out) (by omega) (by omega))
        (fun W' f t hft htn hne g => (lev2_any f t y (rowStep (hasC W H bs) y f) Y W' (g.cell yc'.out) (by have := kindZ_bd; have h9 : rowStep (hasC W H bs) y f = 0 ∨ rowStep (hasC W H bs) y f = 1 ∨ rowStep (hasC W H bs) y f = 2 := kindZ_bd _ _; omega) (by omega) (by omega) (by omega)).mono fun e w' ⟨h1, h2⟩ => ⟨by
          rw [h1]
          have h9 : rowStep (hasC W H bs) y f = 0 ∨ rowStep (hasC W H bs) y f = 1 ∨ rowStep (hasC W H bs) y f = 2 := kindZ_bd _ _
          rcases h9 with h9 | h9 | h9
          · exact absurd h9 hne
          · simp [rowWay, segOf, h9]
          · simp [rowWay, segOf, h9], h2⟩)).mono ?_
      rintro e w2 ⟨V2, q, rfl, hR, hO2, g2⟩
      have hq := hR.len
      have hO3 := Lib.hid (ownsRow_grew hO'.out g2)
      have hI := Lib.hid (hG'.out.trans g2)
      have yc2 := Lib.hid (g2.cell yc'.out)
      have hsz := hI.out.size
      have hYs := World.block_lt_of_cell? w2 _ yc2.out
      have hle : (l.map segOf).length + (q.map (fun p => segOf (rowWay (hasC W H bs) y p))).length ≤ 1048576 := by rw [List.length_map, List.length_map]; omega
      have hlm := Lib.hid (show l.map segOf ++ q.map (fun p => segOf (rowWay (hasC W H bs) y p)) = (l ++ q.map (fun p => (⟨(rowStep (hasC W H bs) y p.1).toNat + 0, (y : Int), p.1, p.2⟩ : Rn))).map segOf by rw [List.map_append, List.map_map]; rfl)
      have hL2 := Lib.hid (hL.out.next hR (line_max (m := 0) (c := (y : Int)) (fun i => row_side _ _ i) (fun i => kindZ_bd _ _) (fun d k hd hs => by
        have h1 := sideB_dir hs
        unfold sideB at hs
        rcases hd with rfl | rfl <;> simp at hs <;> (have := hin.out _ _ hs.1; omega)) hR))
      have hll2 : (l ++ q.map (fun p => (⟨(rowStep (hasC W H bs) y p.1).toNat + 0, (y : Int), p.1, p.2⟩ : Rn))).length ≤ (y + 1) * 64 := by rw [List.length_append, List.length_map]; omega
      clear hO' hG' g2 hR hL yc yf q0 q1 q2 e1' e2'
      replace hO2 := Lib.hid hO2
      go_wp2_with (first | fail | (at_builtin; (refine wpList_appWays rfl (.tmp 13) (.tmp 18) rfl rfl rfl hO3.out hO2.out hle hsz ?_); intro vB wzB hOB hCB hGB; have yc3 := hCB Y 0 _ (fun h => Nat.lt_irrefl _ (hbY'.out Y h)) yc2.out))
      have gzB := Lib.hid (hGB W1 (Nat.le_refl _) hI.out)
      rw [hlm.out] at hOB
      have hblt := fun g (hg : vB.ownBlock = some g) => (hOB.lt g hg).2
      replace hOB := Lib.hid hOB
      replace hblt := Lib.hid hblt
      clear hCB hGB hO2 hO3 hI yc2
      go_wp2_with fail
      go_roundg (gk - 1)
      case rel => exact ⟨y + 1, wzB.heap.size, _, by omega, rfl, by simp [go_sem] <;> omega, by simp [go_sem], gzB.out.size, hL2, hll2, by
        repeat (first | exact hOB.out | refine ownsRow_set ?_ (fun h => Nat.lt_irrefl _ (hblt.out _ h)) | exact hOB.out.alloc _), fun g hg => hblt.out g hg, by
        repeat (first | exact gzB.out | refine Grew.setCell ?_ gzB.out.size _ | refine Grew.alloc ?_ _)⟩
      case measure => omega
    · have ey : y = H + 1 := by omega
      have hyl : ¬ (y : Int) ≤ (H : Int) := by omega
      have hll2 : l.length ≤ 65 * 64 := by omega
      replace ey := Lib.hid ey
      have hO' := Lib.hid hO
      have hG' := Lib.hid hG
      have hls : (l.map segOf).length < 4611686018427387904 := by rw [List.length_map]; omega
      clear hO hG hbY
      have e3' := e3.out
      go_wp2_with fail
      refine (sort_segs Tryz.sortSeg ht.out hz.out cfL swoL 89 #[] e3.out lev3_any W1.heap.size _ _ 76 _ hO'.out hls).mono ?_
      rintro e w3 ⟨rfl, s, hp, hs, hO3, hG3⟩
      obtain ⟨k, rfl, hk1, hk2⟩ := hL.out.sorted cfL cfL_ahead hp hs
      have hkl : k.length = l.length := by have := hp.length_eq; rw [List.length_map, List.length_map] at this; exact this
      have gz := Lib.hid (G1.out.trans (hG3 W1 (Nat.le_refl _) hG'.out))
      have hO4 := Lib.hid (ownsRow_low hO3 (show w.heap.size ≤ W1.heap.size from G1.out.size))
      replace hkl := Lib.hid hkl
      clear hG3 hO3 hO' hG' hp hs e3'
      go_wp2_with fail
      go_ret
      exact ⟨_, rfl, l, k, by rw [← ey.out]; exact hL.out, hll2, hk1, hk2, hkl.out, by first | exact hO4.out | (have := hO4.out; rw [List.length_map] at this; exact this), gz.out⟩
set_option maxRecDepth 100000 in
set_option maxHeartbeats 16000000 in
theorem upright_any (W H : Nat) (A : Option Addr) (c : Nat) (bs : List Bool) (w : World) (hb : BoolsR w (.slice A bs.length c) bs) (hW : W ≤ 64) (hH : H ≤ 64) :
    Calls Tryz.prog 45 #[cellV W H A bs.length c] w fun e w' => ∃ v', e = .returned v' ∧ ∃ l k : List Rn, Lines (hasC W H bs) 2 (W + 1) l ∧ l.length ≤ 65 * 64 ∧ k.Pairwise aheadR ∧ (∀ r, r ∈ k ↔ r ∈ l) ∧ k.length = l.length ∧ w'.ownsRow w.heap.size 76 4 v' (k.map segOf).length (segVals (k.map segOf)) ∧ Grew w w' := by
  have hmf : ∀ (fn : Fn) (first cap : Array Value) (w : World), (Instr.makeFunc fn first cap).run Tryz.prog w = .ok (.func fn first cap) w := fun _ _ _ _ => rfl
  have e1 : ∀ args w, (callFunc 92 args).run Tryz.prog w = .ok (.enter 92 args) w := enters_of Tryz.func92 (by kernel_rfl) rfl
  have e2 : ∀ args w, (callFunc 93 args).run Tryz.prog w = .ok (.enter 93 args) w := enters_of Tryz.func93 (by kernel_rfl) rfl
  have e3 : ∀ args w, (callFunc 94 args).run Tryz.prog w = .ok (.enter 94 args) w := enters_of Tryz.func94 (by kernel_rfl) rfl
  have hz : ∀ w : World, (Go.sizeOf 76).run Tryz.prog w = .ok 4 w := Tryz.sizeOf76
  have ht : ∀ w : World, (isAgg 76).run Tryz.prog w = .ok true w := Tryz.isAgg76
  have hin := Lib.hid (fun (x y : Int) (h : hasC W H bs x y = true) => hasC_in h)
  replace e1 := Lib.hid e1
  replace e2 := Lib.hid e2
  replace e3 := Lib.hid e3
  replace hz := Lib.hid hz
  replace ht := Lib.hid ht
  go_enter Tryz.func45, Tryz.ntmps45
  go_upto_region 1 with fail
  refine gen_wp ?_
  intro W1 hW1
  have p0 : W1.cell? ⟨w.heap.size, 0, none⟩ = some (.int .i64 W) := by rw [hW1]; simp [go_sem]
  have p1 : W1.cell? ⟨w.heap.size, 1, none⟩ = some (.int .i64 H) := by rw [hW1]; simp [go_sem]
  have p2 : W1.cell? ⟨w.heap.size, 2, none⟩ = some (.slice A bs.length c) := by rw [hW1]; simp [go_sem]
  have G1 : Grew w W1 := by rw [hW1]; exact (Grew.refl _).alloc _
  obtain ⟨B, hB⟩ : ∃ B, w.heap.size = B := ⟨_, rfl⟩
  rw [hB] at p0 p1 p2 ⊢
  have hbW := Lib.hid (hb.grew G1)
  replace hB := Lib.hid hB
  replace G1 := Lib.hid G1
  replace p0 := Lib.hid p0
  replace p1 := Lib.hid p1
  replace p2 := Lib.hid p2
  clear hW1 hb
  go_wp2_with fail
  go_loopg [3, 4] (W + 1) (fun gk s3 s4 wr => ∃ (y Y : Nat) (l : List Rn), gk + y = W + 1 ∧ s4 = .pointer (some ⟨Y, 0, none⟩) ∧ wr.cell? ⟨Y, 0, none⟩ = some (.int .i64 y) ∧ wr.frozen? ⟨Y, 0, none⟩ = false ∧ W1.heap.size ≤ Y ∧ Hid (Lines (hasC W H bs) 2 y l) ∧ l.length ≤ y * 64 ∧ wr.ownsRow W1.heap.size 76 4 s3 (l.map segOf).length (segVals (l.map segOf)) ∧ (∀ g, s3.ownBlock = some g → g < Y) ∧ Grew W1 wr)
  case atStart => exact ⟨0, W1.heap.size, [], rfl, rfl, by simp [go_sem], by simp [go_sem], Nat.le_refl _, Lib.hid (Lines.nil _ _), by simp, World.ownsRow_nil _ _ _ _, fun g h => by simp [Value.ownBlock] at h, by
    repeat (first | exact Grew.refl _ | refine Grew.setCell ?_ (by simp <;> omega) _ | refine Grew.alloc ?_ _)⟩
  case round =>
    obtain ⟨y, Y, l, hgy, rfl, yc, yf, hYB, hL, hll, hO, hbY, hG⟩ := hrel
    have q0 := hG.cell p0.out
    have q1 := hG.cell p1.out
    have q2 := hG.cell p2.out
    by_cases hy : y ≤ W
    · have hyl : (y : Int) ≤ (W : Int) := by omega
      have hbr := Lib.hid (hbW.out.grew hG)
      have yc' := Lib.hid yc
      have q0' := Lib.hid q0
      have q1' := Lib.hid q1
      have q2' := Lib.hid q2
      have hO' := Lib.hid hO
      have hG' := Lib.hid hG
      have hbY' := Lib.hid hbY
      clear hO hG hbY
      have e1' := e1.out
      have e2' := e2.out
      go_wp2_with fail
      refine (rows_any (colStep (hasC W H bs) y) (fun p => segOf (colWay (hasC W H bs) y p)) H (by omega) 92 93 #[.pointer (some ⟨B, 0, none⟩), .pointer (some ⟨Y, 0, none⟩)] #[.pointer (some ⟨Y, 0, none⟩)] _ e1.out e2.out
        (fun W' i hi g => upr1_any W H A c bs i y B Y W' (hbr.out.grew g) (g.cell q0'.out) (g.cell q1'.out) (g.cell q2'.out) (g.cell yc'.out) (by omega) (by omega))
        (fun W' f t hft htn hne g => (upr2_any f t y (colStep (hasC W H bs) y f) Y W' (g.cell yc'.out) (by have := kindZ_bd; have h9 : colStep (hasC W H bs) y f = 0 ∨ colStep (hasC W H bs) y f = 1 ∨ colStep (hasC W H bs) y f = 2 := kindZ_bd _ _; omega) (by omega) (by omega) (by omega)).mono fun e w' ⟨h1, h2⟩ => ⟨by
          rw [h1]
          have h9 : colStep (hasC W H bs) y f = 0 ∨ colStep (hasC W H bs) y f = 1 ∨ colStep (hasC W H bs) y f = 2 := kindZ_bd _ _
          rcases h9 with h9 | h9 | h9
          · exact absurd h9 hne
          · simp [colWay, segOf, h9]
          · simp [colWay, segOf, h9], h2⟩)).mono ?_
      rintro e w2 ⟨V2, q, rfl, hR, hO2, g2⟩
      have hq := hR.len
      have hO3 := Lib.hid (ownsRow_grew hO'.out g2)
      have hI := Lib.hid (hG'.out.trans g2)
      have yc2 := Lib.hid (g2.cell yc'.out)
      have hsz := hI.out.size
      have hYs := World.block_lt_of_cell? w2 _ yc2.out
      have hle : (l.map segOf).length + (q.map (fun p => segOf (colWay (hasC W H bs) y p))).length ≤ 1048576 := by rw [List.length_map, List.length_map]; omega
      have hlm := Lib.hid (show l.map segOf ++ q.map (fun p => segOf (colWay (hasC W H bs) y p)) = (l ++ q.map (fun p => (⟨(colStep (hasC W H bs) y p.1).toNat + 2, (y : Int), p.1, p.2⟩ : Rn))).map segOf by rw [List.map_append, List.map_map]; rfl)
      have hL2 := Lib.hid (hL.out.next hR (line_max (m := 2) (c := (y : Int)) (fun i => col_side _ _ i) (fun i => kindZ_bd _ _) (fun d k hd hs => by
        have h1 := sideB_dir hs
        unfold sideB at hs
        rcases hd with rfl | rfl <;> simp at hs <;> (have := hin.out _ _ hs.1; omega)) hR))
      have hll2 : (l ++ q.map (fun p => (⟨(colStep (hasC W H bs) y p.1).toNat + 2, (y : Int), p.1, p.2⟩ : Rn))).length ≤ (y + 1) * 64 := by rw [List.length_append, List.length_map]; omega
      clear hO' hG' g2 hR hL yc yf q0 q1 q2 e1' e2'
      replace hO2 := Lib.hid hO2
      go_wp2_with (first | fail | (at_builtin; (refine wpList_appWays rfl (.tmp 13) (.tmp 18) rfl rfl rfl hO3.out hO2.out hle hsz ?_); intro vB wzB hOB hCB hGB; have yc3 := hCB Y 0 _ (fun h => Nat.lt_irrefl _ (hbY'.out Y h)) yc2.out))
      have gzB := Lib.hid (hGB W1 (Nat.le_refl _) hI.out)
      rw [hlm.out] at hOB
      have hblt := fun g (hg : vB.ownBlock = some g) => (hOB.lt g hg).2
      replace hOB := Lib.hid hOB
      replace hblt := Lib.hid hblt
      clear hCB hGB hO2 hO3 hI yc2
      go_wp2_with fail
      go_roundg (gk - 1)
      case rel => exact ⟨y + 1, wzB.heap.size, _, by omega, rfl, by simp [go_sem] <;> omega, by simp [go_sem], gzB.out.size, hL2, hll2, by
        repeat (first | exact hOB.out | refine ownsRow_set ?_ (fun h => Nat.lt_irrefl _ (hblt.out _ h)) | exact hOB.out.alloc _), fun g hg => hblt.out g hg, by
        repeat (first | exact gzB.out | refine Grew.setCell ?_ gzB.out.size _ | refine Grew.alloc ?_ _)⟩
      case measure => omega
    · have ey : y = W + 1 := by omega
      have hyl : ¬ (y : Int) ≤ (W : Int) := by omega
      have hll2 : l.length ≤ 65 * 64 := by omega
      replace ey := Lib.hid ey
      have hO' := Lib.hid hO
      have hG' := Lib.hid hG
      have hls : (l.map segOf).length < 4611686018427387904 := by rw [List.length_map]; omega
      clear hO hG hbY
      have e3' := e3.out
      go_wp2_with fail
      refine (sort_segs Tryz.sortSeg ht.out hz.out cfU swoU 94 #[] e3.out upr3_any W1.heap.size _ _ 76 _ hO'.out hls).mono ?_
      rintro e w3 ⟨rfl, s, hp, hs, hO3, hG3⟩
      obtain ⟨k, rfl, hk1, hk2⟩ := hL.out.sorted cfU cfU_ahead hp hs
      have hkl : k.length = l.length := by have := hp.length_eq; rw [List.length_map, List.length_map] at this; exact this
      have gz := Lib.hid (G1.out.trans (hG3 W1 (Nat.le_refl _) hG'.out))
      have hO4 := Lib.hid (ownsRow_low hO3 (show w.heap.size ≤ W1.heap.size from G1.out.size))
      replace hkl := Lib.hid hkl
      clear hG3 hO3 hO' hG' hp hs e3'
      go_wp2_with fail
      go_ret
      exact ⟨_, rfl, l, k, by rw [← ey.out]; exact hL.out, hll2, hk1, hk2, hkl.out, by first | exact hO4.out | (have := hO4.out; rw [List.length_map] at this; exact this), gz.out⟩
end Go.Proofs.YtngbcbncllfblaaGreat
