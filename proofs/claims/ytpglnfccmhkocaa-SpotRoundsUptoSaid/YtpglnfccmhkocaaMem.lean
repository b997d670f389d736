/- Words for memory: growth of the world; a slice of digits that reads as a number; append, with the draws counted. Conditions: none. -/
import Derived.WalkKit
import Derived.Lib.Hide
import Derived.Deep.Draws
import Derived.Laws.CopyOwn
import Derived.Test.YtpglnfccmhkocaaNum
namespace Go.Proofs.Ytpglnfccmhkocaa
open Go.RowKit

theorem ret_int {k : IntKind} {a b : Int} (h : a = b) : Ending.returned (.int k a) = .returned (.int k b) := by rw [h]

theorem ret_ints {k j : IntKind} {a b c d : Int} (h : a = b) (h' : c = d) : Ending.returned (.tuple #[.int k a, .int j c]) = .returned (.tuple #[.int k b, .int j d]) := by rw [h, h']

theorem ret_ib {k : IntKind} {a b : Int} {c d : Bool} (h : a = b) (h' : c = d) : Ending.returned (.tuple #[.int k a, .bool c]) = .returned (.tuple #[.int k b, .bool d]) := by rw [h, h']

/-- What was there is as it was; new blocks and draws alone. -/
structure Grew (w w' : World) : Prop where
  below : Below w.heap.size w w'
  drawn : w.drawn ≤ w'.drawn

theorem Grew.refl (w : World) : Grew w w := ⟨Below.refl _ _, Nat.le_refl _⟩
theorem Grew.trans {a b c : World} (h : Grew a b) (k : Grew b c) : Grew a c :=
  ⟨h.below.trans (k.below.mono h.below.size), Nat.le_trans h.drawn k.drawn⟩
theorem Grew.size {a b : World} (h : Grew a b) : a.heap.size ≤ b.heap.size := h.below.size
theorem Grew.drew {a w : World} (h : Grew a w) : Grew a w.drew := ⟨h.below.drew, Nat.le_succ_of_le h.drawn⟩
theorem Grew.drewN {a w : World} (h : Grew a w) (n : Nat) : Grew a (w.drewN n) :=
  ⟨⟨h.below.os, h.below.tape, h.below.output, h.below.size, h.below.block⟩, Nat.le_trans h.drawn (Nat.le_add_right _ _)⟩
theorem Grew.alloc {a w : World} (h : Grew a w) (o : Obj) : Grew a (w.alloc o) := ⟨h.below.alloc h.size o, h.drawn⟩
theorem Grew.setCell {a w : World} (h : Grew a w) {p : Addr} (hp : a.heap.size ≤ p.block) (u : Value) : Grew a (w.setCell p u) := ⟨h.below.setCell hp u, h.drawn⟩
theorem Grew.grown {a w w' : World} {row : Option Nat} (h : Grew a w) (hg : w.grownBy w' row) (hd : w.drawn ≤ w'.drawn) (hr : ∀ k, row = some k → a.heap.size ≤ k) : Grew a w' :=
  ⟨h.below.grown hg h.size hr, Nat.le_trans h.drawn hd⟩
theorem Grew.cell {a w : World} (h : Grew a w) {p : Addr} {v : Value} (hp : a.cell? p = some v) : w.cell? p = some v :=
  (h.below.cell (World.block_lt_of_cell? a p hp)).trans hp

/-- All cells and marks of before, as the walk wants them. -/
theorem Grew.olds {W w : World} (h : Grew W w) : (∀ b o, b < W.heap.size → w.cell? ⟨b, o, none⟩ = W.cell? ⟨b, o, none⟩) ∧ (∀ b o, b < W.heap.size → w.frozen? ⟨b, o, none⟩ = W.frozen? ⟨b, o, none⟩) :=
  ⟨fun b o hb => h.below.cell (p := ⟨b, o, none⟩) hb, fun b o hb => h.below.frozen (p := ⟨b, o, none⟩) hb⟩

/-- A slice of n digits of kind K to the base B that reads as N. -/
def Num (B : Nat) (K : IntKind) (w : World) (v : Value) (N n : Nat) : Prop :=
  ∃ A c, v = .slice A n c ∧ n ≤ c ∧ c ≤ 9223372036854775807 ∧ N < B ^ n ∧
    (0 < n → ∃ b off, A = some ⟨b, off, none⟩ ∧ ∀ i, i < n → w.cell? ⟨b, off + i, none⟩ = some (.int K (dig B N i : Nat)))

/-- The first n digits of N as values. -/
def dvals (B : Nat) (K : IntKind) (N n : Nat) : List Value := (digs B N n).map fun (d : Nat) => Value.int K d
theorem dvals_zero (B : Nat) (K : IntKind) (N : Nat) : dvals B K N 0 = [] := rfl
theorem dvals_succ (B : Nat) (K : IntKind) (N n : Nat) : dvals B K N (n + 1) = dvals B K N n ++ [.int K (dig B N n : Nat)] := by simp [dvals, digs_succ]
theorem dvals_length (B : Nat) (K : IntKind) (N n : Nat) : (dvals B K N n).length = n := by simp [dvals, digs_length]

section
variable {w w' : World} {B : Nat} {K : IntKind} {v : Value} {N n : Nat}

theorem Num.grew (h : Num B K w v N n) (g : Grew w w') : Num B K w' v N n := by
  obtain ⟨A, c, hv, h1, h2, h4, h3⟩ := h
  refine ⟨A, c, hv, h1, h2, h4, fun hn => ?_⟩
  obtain ⟨b, off, hA, hc⟩ := h3 hn
  exact ⟨b, off, hA, fun i hi => g.cell (hc i hi)⟩

theorem Num.nil (w : World) (B : Nat) (K : IntKind) : Num B K w (.slice none 0 0) 0 0 := ⟨none, 0, rfl, by simp, by omega, by simp, by simp⟩

theorem Num.len_le (hB : 0 < B) (h : Num B K w v N n) : len B N ≤ n := by
  obtain ⟨A, c, hv, h1, h2, h4, h3⟩ := h
  exact Go.Proofs.Ytpglnfccmhkocaa.len_le hB h4

/-- A shorter cut of the same digits. -/
theorem Num.cut {A : Option Addr} {c k : Nat} (h : Num B K w (.slice A n c) N n) (hk : k ≤ n) (hl : N < B ^ k) : Num B K w (.slice A k c) N k := by
  obtain ⟨A', c', hv, h1, h2, h4, h3⟩ := h
  injection hv with e1 e2 e3
  subst e1; subst e3
  refine ⟨A, c, rfl, by omega, h2, hl, fun hn => ?_⟩
  obtain ⟨b, off, hA, hc⟩ := h3 (by omega)
  exact ⟨b, off, hA, fun i hi => hc i (by omega)⟩

/-- What the call owns, as a number. -/
theorem Num.of_own {base e : Nat} (h : w.ownsRow base e 1 v n (dvals B K N n)) (hN : N < B ^ n) : Num B K w v N n := by
  rcases h.2 with ⟨rfl, rfl⟩ | ⟨g, cap, cur, rfl, hb, hg, h1, h2, h3, h4⟩
  · exact ⟨none, 0, rfl, by omega, by omega, hN, by simp⟩
  · refine ⟨_, cap, rfl, h1, h2, hN, fun _ => ⟨g, 0, rfl, fun i hi => ?_⟩⟩
    have := h.cells (g := g) rfl i (.int K (dig B N i : Nat)) (by rw [dvals, List.getElem?_map, digs_get? N n i hi]; rfl)
    unfold Addr.add at this
    split at this
    · rename_i hi0
      subst hi0
      simpa using this
    · simpa using this
end

theorem Grew.setRow {a w : World} (h : Grew a w) {g : Nat} (hg : a.heap.size ≤ g) (cs : Array Value) : Grew a (w.setRow g cs) := ⟨below_setRow h.below hg cs, h.drawn⟩

/-- A block known whole, as a number. -/
theorem Num.of_blk {w : World} {B : Nat} {K : IntKind} {N n g c : Nat} {t : TypeId} {cur : Array Value} (hg : w.heap[g]? = some (.cells cur t (0, 0))) (hn : n ≤ c) (hc : c ≤ 9223372036854775807) (hN : N < B ^ n)
    (h : ∀ i, i < n → cur[i]? = some (.int K (dig B N i : Nat))) : Num B K w (.slice (some ⟨g, 0, none⟩) n c) N n :=
  ⟨_, c, rfl, hn, hc, hN, fun _ => ⟨g, 0, rfl, fun i hi => by rw [Nat.zero_add, cell_of_row w g i cur t (0, 0) hg]; exact h i hi⟩⟩

/-- A block known whole: L digits f of kind K. -/
def Row (w : World) (g : Nat) (t : TypeId) (K : IntKind) (f : Nat → Nat) (L : Nat) : Prop :=
  w.heap[g]? = some (.cells ((List.range L).map fun p => Value.int K (f p : Nat)).toArray t (0, 0))

section
variable {w w' : World} {g : Nat} {t : TypeId} {K : IntKind} {f f' : Nat → Nat} {L : Nat}
theorem Row.cell (h : Row w g t K f L) {p : Nat} (hp : p < L) : w.cell? ⟨g, p, none⟩ = some (.int K (f p : Nat)) := by
  rw [cell_of_row w g p _ t (0, 0) h]; simp [hp]
theorem Row.frozen (h : Row w g t K f L) (p : Nat) : w.frozen? ⟨g, p, none⟩ = false := by
  unfold Row at h; simp [World.frozen?, h]
theorem Row.lt (h : Row w g t K f L) : g < w.heap.size := (Array.getElem?_eq_some_iff.1 h).1
theorem Row.congr (h : Row w g t K f L) (e : ∀ p, p < L → f p = f' p) : Row w g t K f' L := by
  unfold Row at *
  rw [h]
  congr 3
  exact List.map_congr_left fun p hp => by rw [e p (List.mem_range.1 hp)]
theorem Row.set (h : Row w g t K f L) (p x : Nat) : Row (w.setCell ⟨g, p, none⟩ (.int K (x : Nat))) g t K (fun q => if q = p then x else f q) L := by
  unfold Row at *
  simp only [World.setCell, Array.getElem?_modify, if_true, h, Option.map_some]
  rw [if_neg (by simp), List.setIfInBounds_toArray]
  congr 3
  refine List.ext_getElem (by simp) fun q h1 h2 => ?_
  simp only [List.getElem_set, List.getElem_map, List.getElem_range]
  by_cases e : q = p
  · subst e; simp
  · rw [if_neg (fun h => e h.symm), if_neg e]
theorem Row.far (h : Row w g t K f L) {p : Addr} (hp : g ≠ p.block) (u : Value) : Row (w.setCell p u) g t K f L := (Below.heap_setCell w p u g hp).trans h
theorem Row.alloc (h : Row w g t K f L) (o : Obj) : Row (w.alloc o) g t K f L := (Below.heap_alloc w o g h.lt).trans h
theorem Row.drew (h : Row w g t K f L) : Row w.drew g t K f L := h
theorem Row.drewN (h : Row w g t K f L) (n : Nat) : Row (w.drewN n) g t K f L := h
theorem Row.grew (h : Row w g t K f L) (hg : Grew w w') : Row w' g t K f L := (hg.below.block g h.lt).trans h
theorem Row.made (w : World) (t : TypeId) (K : IntKind) (L : Nat) : Row (w.alloc (.cells (madeCells #[.int K 0] L) t)) w.heap.size t K (fun _ => 0) L := by
  unfold Row
  rw [heap_alloc_new]
  congr 2
  apply Array.ext'
  rw [toList_madeCells_one]
  apply List.ext_getElem?
  intro q
  by_cases hq : q < L
  · simp [hq]
  · rw [List.getElem?_eq_none (by simp; omega), List.getElem?_eq_none (by simp; omega)]
theorem Row.num {B N n c : Nat} (h : Row w g t K f L) (hn : n ≤ L) (hc : n ≤ c) (hc' : c ≤ 9223372036854775807) (hN : N < B ^ n) (e : ∀ p, p < n → f p = dig B N p) : Num B K w (.slice (some ⟨g, 0, none⟩) n c) N n :=
  ⟨_, c, rfl, hc, hc', hN, fun _ => ⟨g, 0, rfl, fun i hi => by rw [Nat.zero_add, h.cell (by omega), e i hi]⟩⟩
end

/-- Only block g has turned, and what is new. -/
structure Wrote (g : Nat) (w w' : World) : Prop where
  os : w'.os = w.os
  tape : w'.tape = w.tape
  output : w'.output = w.output
  size : w.heap.size ≤ w'.heap.size
  drawn : w.drawn ≤ w'.drawn
  block : ∀ k, k < w.heap.size → k ≠ g → w'.heap[k]? = w.heap[k]?

section
variable {g : Nat} {a b c w : World}
theorem Wrote.refl (g : Nat) (w : World) : Wrote g w w := ⟨rfl, rfl, rfl, Nat.le_refl _, Nat.le_refl _, fun _ _ _ => rfl⟩
theorem Wrote.trans (h : Wrote g a b) (k : Wrote g b c) : Wrote g a c :=
  ⟨k.os.trans h.os, k.tape.trans h.tape, k.output.trans h.output, Nat.le_trans h.size k.size, Nat.le_trans h.drawn k.drawn, fun i hi hg => (k.block i (Nat.lt_of_lt_of_le hi h.size) hg).trans (h.block i hi hg)⟩
theorem Wrote.of_grew (h : Grew a b) (g : Nat) : Wrote g a b := ⟨h.below.os, h.below.tape, h.below.output, h.below.size, h.drawn, fun k hk _ => h.below.block k hk⟩
theorem Wrote.setCell (h : Wrote g a w) (p : Nat) (u : Value) : Wrote g a (w.setCell ⟨g, p, none⟩ u) :=
  ⟨h.os, h.tape, h.output, by simpa [World.setCell] using h.size, h.drawn, fun k hk hg => (Below.heap_setCell w ⟨g, p, none⟩ u k hg).trans (h.block k hk hg)⟩
theorem Wrote.drewN (h : Wrote g a w) (n : Nat) : Wrote g a (w.drewN n) := ⟨h.os, h.tape, h.output, h.size, Nat.le_trans h.drawn (Nat.le_add_right _ _), h.block⟩
theorem Wrote.drew (h : Wrote g a w) : Wrote g a w.drew := ⟨h.os, h.tape, h.output, h.size, Nat.le_succ_of_le h.drawn, h.block⟩
theorem Wrote.cell (h : Wrote g a b) {p : Addr} {v : Value} (hp : a.cell? p = some v) (hg : p.block ≠ g) : b.cell? p = some v :=
  (World.cell?_of_block (w := a) (h.block p.block (World.block_lt_of_cell? a p hp) hg)).trans hp
theorem Grew.wrote (h : Grew a b) (k : Wrote g b c) (hg : a.heap.size ≤ g) : Grew a c :=
  ⟨⟨k.os.trans h.below.os, k.tape.trans h.below.tape, k.output.trans h.below.output, Nat.le_trans h.size k.size, fun i hi => (k.block i (Nat.lt_of_lt_of_le hi h.size) (by omega)).trans (h.below.block i hi)⟩, Nat.le_trans h.drawn k.drawn⟩
theorem Wrote.row {t : TypeId} {K : IntKind} {f : Nat → Nat} {L r : Nat} (h : Wrote g a b) (hr : Row a r t K f L) (hne : r ≠ g) : Row b r t K f L := (h.block r hr.lt hne).trans hr
end

section
variable {P : Program} (w : World)

/-- copy into the head of a row that is known whole, as many as fit. -/
theorem wpList_copy1 {ops : Array Oper} {rest : List Oper} {o : Oper} {a : Act} {Q : Exit → Act → World → Prop} (hgd : o.guard = none) (d s : Operand) (dT sT : TypeId)
    (ho : o.op = .call { callee := .builtin .copy, args := #[d, s], argTypes := #[dT, sT] }) (elem : TypeId) (hu : P.underlying dT = some (.slice elem)) (hsz : (P.info? elem).map (·.size) = some 1)
    (g dLen dCap : Nat) (ad : Addr) (sLen sCap : Nat) (hd : a.eval d = .slice (some ⟨g, 0, none⟩) dLen dCap) (hs : a.eval s = .slice (some ad) sLen sCap)
    (cur : Array Value) (t : TypeId) (hg : w.heap[g]? = some (.cells cur t (0, 0))) (cs : List Value) (hn : cs.length = Nat.min sLen dLen)
    (hsrc : ∀ j v, cs[j]? = some v → w.cell? (ad.add j) = some v) (hfit : cs.length ≤ cur.size) (h1 : ∀ v ∈ cs, v.oneCell' = true)
    (h : ∀ w', w'.heap[g]? = some (.cells (cs ++ cur.toList.drop cs.length).toArray t (0, 0)) → (∀ W, W.heap.size ≤ g → Grew W w → Grew W w') → wpList P ops Q rest (a.put o.dst (goInt cs.length)) w') : wpList P ops Q (o :: rest) a w := by
  refine wpList_copy_own hgd d s dT sT ho elem hu hsz g 0 dLen dCap ad sLen sCap hd hs cur t hg cs hn hsrc (by omega) h1 ?_
  refine h _ ?_ fun W hW hG => hG.setRow hW _
  have := setRow_heap w g cur (cur.toList.take 0 ++ (cs ++ cur.toList.drop (0 + cs.length))).toArray t _ hg
  simpa using this

theorem drawn_append (base : Nat) (t ty e : TypeId) (i : TypeInfo) (z : Value) (size bytes : Nat) (ht : P.underlying t = some (.slice e)) (hi : P.info? e = some i) (hz : i.zero = some z)
    (hsize : i.size = size) (hby : i.bytes = bytes) (hsz : 0 < size)
    (v : Value) (n : Nat) (xs : List Value) (hown : w.ownsRow base e size v n xs)
    (a : Addr) (m c : Nat) (news : List Value) (hl : news.length = m * size) (hnews : ∀ j u, news[j]? = some u → w.cell? (a.add j) = some u) (h1 : ∀ u ∈ news, u.oneCell' = true)
    (h63 : n + m ≤ maxLen) (hbytes : (n + m) * bytes ≤ 140737488355328) (v' : Value) (w' : World)
    (hr : (Builtin.append_ #[t, t] ty #[v, .slice (some a) m c]).run P w = .ok v' w') : w.drawn ≤ w'.drawn := by
  subst hsize
  subst hby
  have hsmall : n + m ≤ 9223372036854775807 := by simp only [maxLen] at h63; omega
  rcases hown.2 with ⟨rfl, rfl⟩ | ⟨g, cap, cur, rfl, hbg, hg, hnc, hcm, hcs, htake⟩
  · by_cases hm : m = 0
    · subst hm
      have hn : news = [] := List.eq_nil_of_length_eq_zero (by simpa using hl)
      subst hn
      have e1 : (Builtin.append_ #[t, t] ty #[.slice none 0 0, .slice (some a) 0 c]).run P w = .ok (.slice none 0 0) w := by
        simp [Builtin.append_, run_underlying ht, sizeOf, typeInfo, hi, Builtin.lenOf, Builtin.firstCells, loadCells, loadCellsFrom]
      rw [e1] at hr
      injection hr with _ hr
      subst hr
      exact Nat.le_refl _
    · have e1 := run_append_nil (P := P) w t ty e i z ht hi hz a m c news hl hnews (by omega) (by omega) (by have hb := hbytes; simp only [Nat.zero_add] at hb; omega)
      rw [e1] at hr
      injection hr with _ hr
      subst hr
      exact Nat.le_succ _
  · by_cases hroom : n + m ≤ cap
    · have hfit : n * i.size + news.length ≤ cur.size := by rw [hl, hcs, ← Nat.add_mul]; exact Nat.mul_le_mul_right _ hroom
      have e1 := run_append_room (P := P) w t ty e i ht hi g n cap cur hg a m c news hl hnews h1 hroom hfit
      rw [e1] at hr
      injection hr with _ hr
      subst hr
      exact Nat.le_refl _
    · have holds : ∀ j u, xs[j]? = some u → w.cell? ((⟨g, 0, none⟩ : Addr).add j) = some u := hown.cells (g := g) rfl
      have e1 := run_append_grow (P := P) w t ty e i z ht hi hz ⟨g, 0, none⟩ n cap xs hown.1 holds a m c news hl hnews (by omega) (by omega) (growslice_fits (by omega) hbytes)
      rw [e1] at hr
      injection hr with _ hr
      subst hr
      exact Nat.le_succ _

/-- append, for the walk: the row that the call owns is longer; what was there when the call began is as it was. -/
theorem wpList_app {ops : Array Oper} {rest : List Oper} {o : Oper} {a : Act} {Q : Exit → Act → World → Prop} (hgd : o.guard = none) (s x : Operand) (t : TypeId)
    (ho : o.op = .call { callee := .builtin .append, args := #[s, x], argTypes := #[t, t] })
    (base : Nat) (e : TypeId) (z : Value) (size bytes : Nat) (ht : P.underlying t = some (.slice e)) (hi : (P.info? e).map (fun i => (i.zero, i.size, i.bytes)) = some (some z, size, bytes))
    (hzs : z.cells.size = size) (hsz : 0 < size)
    (v : Value) (n : Nat) (xs : List Value) (hs : a.eval s = v) (hown : w.ownsRow base e size v n xs)
    (ad : Addr) (m c : Nat) (news : List Value) (hx : a.eval x = .slice (some ad) m c) (hl : news.length = m * size) (hnews : ∀ j u, news[j]? = some u → w.cell? (ad.add j) = some u) (h1 : ∀ u ∈ news, u.oneCell' = true)
    (hbytes : (n + m) * bytes ≤ 140737488355328) (hby : 0 < bytes) (hbase : base ≤ w.heap.size)
    (h : ∀ v' w', w'.ownsRow base e size v' (n + m) (xs ++ news) → (∀ W, W.heap.size ≤ base → Grew W w → Grew W w') → wpList P ops Q rest (a.put o.dst v') w') : wpList P ops Q (o :: rest) a w := by
  obtain ⟨i, hi, hz, hsize, hbyt⟩ := info_parts hi
  have h63 : n + m ≤ maxLen := by
    have : (n + m) * 1 ≤ (n + m) * bytes := Nat.mul_le_mul_left _ hby
    simp only [maxLen]; omega
  refine wpList_plain hgd fun _ hK => ?_
  obtain ⟨v', w', hr, h2, h3, h4⟩ := run_append_own (P := P) w base t o.type e i z size bytes ht hi hz hsize hbyt hzs hsz v n xs hown ad m c news hl hnews h1 h63 hbytes hbase
  have hd := drawn_append (P := P) w base t o.type e i z size bytes ht hi hz hsize hbyt hsz v n xs hown ad m c news hl hnews h1 h63 hbytes v' w' hr
  unfold Oper.wp execOp
  simp only [ho, resolve, invoke, builtin, Sem.run_bind, Sem.run_pure, Result.andThen_ok, List.map_toArray, List.map_cons, List.map_nil, hs, hx, hr]
  exact hK _ _ (h v' w' h2 fun W hW hG => hG.grown h3 hd fun k hk => Nat.le_trans hW (hown.lt k hk).1)

/-- append of one element, which the walk has laid into a block of its own. -/
theorem wpList_app1 {ops : Array Oper} {rest : List Oper} {o : Oper} {a : Act} {Q : Exit → Act → World → Prop} (hgd : o.guard = none) (s x : Operand) (t : TypeId)
    (ho : o.op = .call { callee := .builtin .append, args := #[s, x], argTypes := #[t, t] })
    (base : Nat) (e : TypeId) (z : Value) (size bytes : Nat) (ht : P.underlying t = some (.slice e)) (hi : (P.info? e).map (fun i => (i.zero, i.size, i.bytes)) = some (some z, size, bytes))
    (hzs : z.cells.size = size) (hsz : 0 < size)
    (v : Value) (n : Nat) (xs : List Value) (hs : a.eval s = v) (hown : w.ownsRow base e size v n xs)
    (us : Array Value) (hus : us.size = size) (h1 : ∀ u ∈ us.toList, u.oneCell' = true) (hx : a.eval x = .slice (some ⟨w.heap.size, 0, none⟩) 1 1)
    (hbytes : (n + 1) * bytes ≤ 140737488355328) (hby : 0 < bytes) (hbase : base ≤ w.heap.size)
    (h : ∀ v' w', w'.ownsRow base e size v' (n + 1) (xs ++ us.toList) → (∀ W, W.heap.size ≤ base → Grew W w → Grew W w') → wpList P ops Q rest (a.put o.dst v') w') : wpList P ops Q (o :: rest) a (w.alloc (.cells us e)) := by
  refine wpList_app (w.alloc (.cells us e)) hgd s x t ho base e z size bytes ht hi hzs hsz v n xs hs (hown.alloc _) ⟨w.heap.size, 0, none⟩ 1 1 us.toList hx (by simp [hus]) ?_ h1 hbytes hby (by simp; omega) fun v' w' h2 h3 => h v' w' h2 fun W hW hG => h3 W hW (hG.alloc _)
  intro j u hu
  have hadd : (⟨w.heap.size, 0, none⟩ : Addr).add j = ⟨w.heap.size, j, none⟩ := by unfold Addr.add; split <;> simp_all
  rw [hadd, cell_of_row _ w.heap.size j us e (0, 0) (heap_alloc_new w _)]
  simpa using hu
end

end Go.Proofs.Ytpglnfccmhkocaa
