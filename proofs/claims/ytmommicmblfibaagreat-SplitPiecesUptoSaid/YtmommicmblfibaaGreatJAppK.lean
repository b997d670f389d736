/- Growth of a world, as an equation. Conditions: none. slices.SortFunc on a row of structs of k cells that the caller owns, whatever the order. Condition: fewer than 2^62 elements. split.row at edges and at spots. Condition: fewer than 2^26 words, at most 2^40 elements. append of elements that the walk has laid into a block of their own, to a row that a call owns. Conditions: none. -/
import Derived.Test.YtmommicmblfibaaGreatJKit
import Derived.Sort.Grow
import Derived.Test.YtmommicmblfibaaGreatJOwnK
import Derived.Shelf.SlSortCmp.WholeK
import Derived.Shelf.SlSortCmp.NoneTotal
import Derived.Test.YtmommicmblfibaaGreatJCompS
import Derived.Test.YtmommicmblfibaaGreatSortS
import Derived.Test.YtmommicmblfibaaGreatSortE
set_option maxRecDepth 100000
namespace Go.Proofs.YtmommicmblfibaaGreat
open Go.RowKit
theorem world_eq : ∀ {a b : World}, a.heap = b.heap → a.tape = b.tape → a.drawn = b.drawn → a.os = b.os → a.output = b.output → a = b
 | ⟨_, _, _, _, _⟩, ⟨_, _, _, _, _⟩, rfl, rfl, rfl, rfl, rfl => rfl
theorem Grew.grow {w w' : World} (g : Grew w w') : ∃ q os, w' = Go.Sort.grow (w.drewN q) os := by
 refine ⟨w'.drawn - w.drawn, w'.heap.extract w.heap.size w'.heap.size, world_eq ?_ g.below.tape ?_ g.below.os g.below.output⟩
 ·show w'.heap = w.heap ++ w'.heap.extract w.heap.size w'.heap.size
  apply Array.ext_getElem?
  intro k
  by_cases hk : k < w.heap.size
  ·rw [Array.getElem?_append_left hk]; exact g.below.block k hk
  ·rw [Array.getElem?_append_right (by omega), Array.getElem?_extract]
   have hs := g.size
   by_cases h2 : k < w'.heap.size
   ·rw [if_pos (by omega), show w.heap.size + (k - w.heap.size) = k by omega]
   ·rw [if_neg (by omega)]; simp [Array.getElem?_eq_none (Nat.le_of_not_lt h2)]
 ·show w'.drawn = w.drawn + (w'.drawn - w.drawn)
  have := g.drawn
  omega
def ElIn {V : Type} (R : World → Array Value → V → Prop) (B : V → Prop) (W : World) : Type := { x : Array Value × V // R W x.1 x.2 ∧ B x.2 }
section
variable {V : Type} {k : Nat} {R : World → Array Value → V → Prop} {B : V → Prop} {W : World} {cf : V → V → Int} {lt : V → V → Prop}
def ElIn.enc (x : ElIn R B W) : List Value := x.1.1.toList
def ElIn.val (x : ElIn R B W) : V := x.1.2
theorem ElIn.len (S : Says k R) (x : ElIn R B W) : x.enc.length = k := by unfold ElIn.enc; rw [Array.length_toList]; exact S.size x.2.1
def ElIn.cmp (cf : V → V → Int) (x y : ElIn R B W) : Int := cf x.val y.val
theorem ElIn.lt' (H : Ordr cf lt) (x y : ElIn R B W) : Go.Proofs.ltOf (ElIn.cmp cf) x y = true ↔ lt x.val y.val := by
 unfold Go.Proofs.ltOf ElIn.cmp
 rw [decide_eq_true_eq]; exact H.neg _ _
theorem ElIn.nlt (H : Ordr cf lt) (x y : ElIn R B W) : Go.Proofs.ltOf (ElIn.cmp cf) x y = false ↔ ¬ lt x.val y.val := by
 rw [← ElIn.lt' H]; simp
theorem ElIn.swo (H : Ordr cf lt) : Go.Sort.SWO (Go.Proofs.ltOf (ElIn.cmp (R := R) (B := B) (W := W) cf)) where
 irrefl x := (ElIn.nlt H _ _).2 fun h => H.irr _ _ h h
 trans x y z h1 h2 := (ElIn.lt' H _ _).2 (H.trans _ _ _ ((ElIn.lt' H _ _).1 h1) ((ElIn.lt' H _ _).1 h2))
 ntrans x y z h1 h2 := (ElIn.nlt H _ _).2 fun h => by
  have k1 := (ElIn.nlt H _ _).1 h1
  have k2 := (ElIn.nlt H _ _).1 h2
  rcases H.tri y.val z.val with h3 | h3 | h3
  ·exact k2 h3
  ·exact k1 (by rw [h3]; exact h)
  ·exact k1 (H.trans _ _ _ h h3)
theorem elemsK {w : World} {g : Nat} {e : TypeId} {cur : Array Value} {l : List V} (S : Says k R) (hg : w.heap[g]? = some (.cells cur e (0, 0))) (hl : 0 < l.length) (hB : ∀ x ∈ l, B x)
  (hel : ∀ i x, l[i]? = some x → CellsR k R w (fun j => cur[i * k + j]?) x) :
  ∃ d : Array (ElIn R B w), d.size = l.length ∧ d.toList.map ElIn.val = l ∧ Nonempty (ElIn R B w) ∧ ∀ [Inhabited (ElIn R B w)], Go.Sort.HoldsK ElIn.enc k w g 0 d := by
 have key : ∀ i : Fin l.length, ∃ x : ElIn R B w, x.val = l[i.1] ∧ ∀ j, j < k → cur[i.1 * k + j]? = x.enc[j]? := by
  rintro ⟨i, hi⟩
  obtain ⟨us, h1, h2⟩ := hel i _ (List.getElem?_eq_getElem hi)
  exact ⟨⟨(us, l[i]), h2, hB _ (List.getElem_mem hi)⟩, rfl, fun j hj => (h1 j hj).trans (by unfold ElIn.enc; rw [Array.getElem?_toList])⟩
 have hd : ∀ i (hi : i < l.length), (Array.ofFn fun i => Classical.choose (key i))[i]? = some (Classical.choose (key ⟨i, hi⟩)) := by
  intro i hi
  rw [Array.getElem?_eq_getElem (by simpa using hi)]
  simp
 refine ⟨Array.ofFn fun i => Classical.choose (key i), by simp, ?_, ⟨Classical.choose (key ⟨0, hl⟩)⟩, ?_⟩
 ·apply List.ext_getElem?
  intro i
  rw [List.getElem?_map, Array.getElem?_toList]
  by_cases hi : i < l.length
  ·rw [hd i hi, List.getElem?_eq_getElem hi]
   exact congrArg some (Classical.choose_spec (key ⟨i, hi⟩)).1
  ·rw [Array.getElem?_eq_none (by simpa using hi), List.getElem?_eq_none (by simpa using hi)]; rfl
 ·intro inst j hj
  rw [Go.Sort.size_flatK, Array.size_ofFn] at hj
  rw [Go.Sort.get_flatK _ _ _ _ (by rw [Array.size_ofFn]; exact hj)]
  have hk : 0 < k := by
   rcases Nat.eq_zero_or_pos k with h | h
   ·rw [h, Nat.mul_zero] at hj; omega
   ·exact h
  have hi : j / k < l.length := Nat.div_lt_of_lt_mul (by rw [Nat.mul_comm]; exact hj)
  have hjm : j % k < k := Nat.mod_lt _ hk
  have e1 : (Array.ofFn fun i => Classical.choose (key i))[j / k]! = Classical.choose (key ⟨j / k, hi⟩) := by
   rw [getElem!_pos _ _ (by simpa using hi)]
   have := hd _ hi
   rw [Array.getElem?_eq_getElem (by simpa using hi)] at this
   injection this
  have e2 := (Classical.choose_spec (key ⟨j / k, hi⟩)).2 (j % k) hjm
  have e3 : j / k * k + j % k = j := Nat.div_add_mod' j k
  simp only [e3] at e2
  rw [e1]
  generalize Classical.choose (key ⟨j / k, hi⟩) = x at e2 ⊢
  have hlen := ElIn.len S x
  rw [List.getElem?_eq_getElem (by omega)] at e2
  refine ⟨?_, ?_⟩
  ·rw [Nat.zero_add, cell_of_row w g j cur e (0, 0) hg, e2, getElem!_pos _ _ (by omega)]
   rfl
  ·rw [Nat.zero_add]
   unfold World.frozen?
   rw [hg]
   simp
section
variable {w : World} [Inhabited (ElIn R B w)] {g cap : Nat} {e : TypeId} {cur : Array Value}
theorem sortK_block (hg : w.heap[g]? = some (.cells cur e (0, 0))) (m : Nat) (dk : Array (ElIn R B w)) (os : Array Obj) :
  (sortWorldK ElIn.enc k w g 0 m dk os).heap[g]? = some (.cells (Go.Sort.putCells id 0 (Go.Sort.flatK ElIn.enc k dk) cur) e (0, 0)) := by
 have hlt : g < w.heap.size := by
  rcases Nat.lt_or_ge g w.heap.size with h | h
  ·exact h
  ·rw [Array.getElem?_eq_none h] at hg; simp at hg
 unfold sortWorldK
 rw [Go.Sort.heap_grow_old _ _ (by rw [Go.Sort.size_putRowK]; exact hlt)]
 unfold Go.Sort.putRowK Go.Sort.putRow Go.Sort.mapBlock
 simp only [Array.getElem?_modify, if_true]
 show Option.map _ w.heap[g]? = _
 rw [hg]; rfl
theorem sortK_wrote (m : Nat) (dk : Array (ElIn R B w)) (os : Array Obj) : Wrote g w (sortWorldK ElIn.enc k w g 0 m dk os) := by
 refine ⟨rfl, rfl, rfl, size_sortWorldK_c _ _ _ _ _ _ _ _, Nat.le_add_right _ _, fun b hb hne => ?_⟩
 unfold sortWorldK
 rw [Go.Sort.heap_grow_old _ _ (by rw [Go.Sort.size_putRowK]; exact hb)]
 unfold Go.Sort.putRowK Go.Sort.putRow Go.Sort.mapBlock
 simp only [Array.getElem?_modify, if_neg (Ne.symm hne)]
 rfl
theorem sortK_own {base : Nat} (S : Says k R) (hbg : base ≤ g) (hg : w.heap[g]? = some (.cells cur e (0, 0))) (hN : NoInts w g) (hcm : cap ≤ maxLen) (hcs : cur.size = cap * k) (m : Nat) (dk : Array (ElIn R B w)) (os : Array Obj) (hn : dk.size ≤ cap) :
  OwnK k R e (sortWorldK ElIn.enc k w g 0 m dk os) base (.slice (some ⟨g, 0, none⟩) dk.size cap) (dk.toList.map ElIn.val) := by
 have hb := sortK_block (k := k) hg m dk os
 have hk := keepsK hN (sortK_wrote (k := k) m dk os)
 generalize sortWorldK ElIn.enc k w g 0 m dk os = W at hb hk
 have hfs : (Go.Sort.flatK ElIn.enc k dk).size = dk.size * k := Go.Sort.size_flatK _ _ _
 have hmul : dk.size * k ≤ cap * k := Nat.mul_le_mul_right _ hn
 have hel : ∀ t, t < dk.size * k → ∃ x : ElIn R B w, dk.toList[t / k]? = some x ∧ (Go.Sort.flatK ElIn.enc k dk)[t]? = x.enc[t % k]? := by
  intro t ht
  have hk0 : 0 < k := by
   rcases Nat.eq_zero_or_pos k with h | h
   ·rw [h, Nat.mul_zero] at ht; omega
   ·exact h
  have hi : t / k < dk.size := Nat.div_lt_of_lt_mul (by rw [Nat.mul_comm]; exact ht)
  have hm := Nat.mod_lt t hk0
  refine ⟨dk[t / k], by simp [hi], ?_⟩
  have e1 := Go.Sort.get_flatK ElIn.enc k dk t ht
  have hlen := ElIn.len S (dk[t / k])
  rw [getElem!_pos _ _ (by omega), getElem!_pos dk _ hi, getElem!_pos _ _ (by omega)] at e1
  rw [Array.getElem?_eq_getElem (by omega), List.getElem?_eq_getElem (by omega), e1]
 have hget : ∀ t, t < cap * k → (Go.Sort.putCells id 0 (Go.Sort.flatK ElIn.enc k dk) cur)[t]? = if t < dk.size * k then (Go.Sort.flatK ElIn.enc k dk)[t]? else cur[t]? := by
  intro t ht
  unfold Go.Sort.putCells
  rw [Array.getElem?_mapIdx, Array.getElem?_eq_getElem (by omega)]
  simp only [Option.map_some, id]
  by_cases h : t < dk.size * k
  ·rw [if_pos (by omega), if_pos h, Array.getElem?_eq_getElem (by omega), Nat.sub_zero, getElem!_pos _ _ (by omega)]
  ·rw [if_neg (by omega), if_neg h]
 refine .inr ⟨g, cap, _, by simp, hbg, fun p u hu => ?_, hb, by simpa using hn, hcm, by simp [Go.Sort.putCells, hcs], fun i p hp => ?_⟩
 ·rw [cell_of_row W g p _ e (0, 0) hb] at hu
  have hp : p < cap * k := by
   rcases Nat.lt_or_ge p (cap * k) with h | h
   ·exact h
   ·rw [Array.getElem?_eq_none (by simp [Go.Sort.putCells, hcs]; exact h)] at hu; simp at hu
  rw [hget p hp] at hu
  split at hu
  ·next h =>
   obtain ⟨x, -, h2⟩ := hel p h
   rw [h2] at hu
   exact S.noint x.2.1 u (List.mem_of_getElem? hu)
  ·exact hN p u (by rw [cell_of_row w g p cur e (0, 0) hg]; exact hu)
 ·rw [List.getElem?_map] at hp
  obtain ⟨x, hx, rfl⟩ := Option.map_eq_some_iff.1 hp
  have hi : i < dk.size := by
   have := (List.getElem?_eq_some_iff.1 hx).1
   simpa using this
  refine ⟨x.1.1, fun j hj => ?_, S.kept x.2.1 hk⟩
  have hij := idx_lt hi hj
  dsimp only
  rw [hget _ (by omega), if_pos hij]
  obtain ⟨y, h3, h4⟩ := hel (i * k + j) hij
  have e1 : (i * k + j) / k = i := by rw [Nat.mul_comm, Nat.mul_add_div (by omega), Nat.div_eq_of_lt hj, Nat.add_zero]
  have e2 : (i * k + j) % k = j := by rw [Nat.mul_comm, Nat.mul_add_mod, Nat.mod_eq_of_lt hj]
  rw [e1, hx] at h3
  injection h3 with h3
  rw [h4, e2, ← h3]
  unfold ElIn.enc
  rw [Array.getElem?_toList]
end
theorem sort_gen {P : Program} {ρ : Go.Shelf.Ren} (L : SlLaysF0.n6 P ρ) (aE : ∀ w : World, (isAgg (ρ.t 24)).run P w = .ok true w) (zE : ∀ w : World, (Go.sizeOf (ρ.t 24)).run P w = .ok k w)
  (S : Says k R) (H : Ordr cf lt) (g : Nat) (cb : Array Value) (eg : ∀ args w, (callFunc g args).run P w = .ok (.enter g args) w)
  (hcmp : ∀ (W : World) (us vs : Array Value) (x y : V), R W us x → R W vs y → B x → B y → Calls P g (#[.agg us, .agg vs] ++ cb) W fun e w' => e = .returned (.int .i64 (cf x y)) ∧ Grew W w')
  (base : Nat) (v : Value) (l : List V) (e : TypeId) (w : World) (hO : OwnK k R e w base v l) (hB : ∀ x ∈ l, B x) (hl : l.length < 4611686018427387904) :
  Calls P (ρ.f 6) #[v, .func (.func g) #[] cb] w fun e' w' => e' = .returned (.tuple #[]) ∧ ∃ m, (∀ q, q ∈ m ↔ q ∈ l) ∧ m.length = l.length ∧ m.Pairwise (fun p q => ¬ lt q p) ∧ OwnK k R e w' base v m ∧ (∀ b p u, v.ownBlock ≠ some b → w.cell? ⟨b, p, none⟩ = some u → w'.cell? ⟨b, p, none⟩ = some u) ∧ ∀ W, W.heap.size ≤ base → Grew W w → Grew W w' := by
 by_cases h0 : l.length = 0
 ·obtain rfl : l = [] := List.eq_nil_of_length_eq_zero h0
  obtain ⟨A, c, rfl, -, -, -⟩ := hO.row
  exact (Go.Proofs.AnyF.slices_SortFunc_none { L with } A c _ w).mono fun e' w' ⟨he, hw⟩ => by
   subst hw
   exact ⟨he, [], fun _ => Iff.rfl, rfl, List.Pairwise.nil, hO, fun _ _ _ _ h => h, fun _ _ h => h⟩
 rcases hO with ⟨-, rfl⟩ | ⟨gb, cap, cur, rfl, hbg, hN, hg, hnc, hcm, hcs, hel⟩
 ·exact absurd rfl h0
 obtain ⟨d, hds, hdl, ⟨x0⟩, hH⟩ := elemsK S hg (by omega) hB hel
 letI : Inhabited (ElIn R B w) := ⟨x0⟩
 have hblk : gb < w.heap.size := by
  rcases Nat.lt_or_ge gb w.heap.size with h | h
  ·exact h
  ·rw [Array.getElem?_eq_none h] at hg; simp at hg
 have hc : CmpLays P g cb (ElIn.enc (R := R) (B := B) (W := w)) k (ElIn.cmp cf) gb 0 d.size w := by
  intro m os dk _ x y
  have hK := keepsK hN (sortK_wrote (k := k) (g := gb) m dk os)
  generalize sortWorldK (ElIn.enc (R := R) (B := B) (W := w)) k w gb 0 m dk os = W at hK ⊢
  have h := hcmp W x.1.1 y.1.1 x.1.2 y.1.2 (S.kept x.2.1 hK) (S.kept y.2.1 hK) x.2.2 y.2.2
  have e : (#[Value.agg x.enc.toArray, .agg y.enc.toArray] ++ cb : Array Value) = #[.agg x.1.1, .agg y.1.1] ++ cb := by
   unfold ElIn.enc; simp
  rw [e]
  exact h.mono fun e w' ⟨he, hG⟩ => ⟨he, hG.grow⟩
 have h := Go.Proofs.AnyQ.slices_SortFunc L k aE zE ElIn.enc (ElIn.len S) (fun x => S.one x.2.1) (ElIn.cmp cf) (ElIn.swo H) g cb gb 0 cap d w eg hc hH hblk (by omega)
 rw [hds] at h
 refine h.mono fun e' w' ⟨he, d', n, os, hp, hsd, hw⟩ => ⟨he, d'.toList.map ElIn.val, ?_⟩
 obtain ⟨hsz, -, hperm⟩ := hp
 have e1 : (d'.extract 0 l.length).toList = d'.toList := by rw [← hds, ← hsz]; simp
 have e2 : (d.extract 0 l.length).toList = d.toList := by rw [← hds]; simp
 rw [e1, e2] at hperm
 have hlen : (d'.toList.map ElIn.val).length = l.length := by rw [List.length_map, Array.length_toList]; omega
 have ho := sortK_own (e := e) S hbg hg hN hcm hcs n d' os (by omega)
 rw [show d'.size = l.length by omega] at ho
 refine ⟨fun q => ?_, hlen, ?_, by rw [hw]; exact ho, fun b p u hb hu => by rw [hw]; exact (sortK_wrote n d' os).cell hu (fun e => hb (by simp only at e; rw [e]; rfl)), fun W h1 h2 => by rw [hw]; exact h2.wrote (sortK_wrote n d' os) (Nat.le_trans h1 hbg)⟩
 ·rw [← hdl]
  simp only [List.mem_map]
  constructor
  ·rintro ⟨x, hx, rfl⟩; exact ⟨x, hperm.mem_iff.1 hx, rfl⟩
  ·rintro ⟨x, hx, rfl⟩; exact ⟨x, hperm.mem_iff.2 hx, rfl⟩
 ·rw [List.pairwise_iff_getElem]
  intro i j hi hj hij
  rw [List.length_map, Array.length_toList] at hi hj
  have h1 := hsd i j (Nat.zero_le _) hij (by omega)
  rw [getElem!_pos d' j hj, getElem!_pos d' i hi, ElIn.nlt H] at h1
  simpa using h1
end
set_option maxHeartbeats 8000000 in
theorem erow1_any (us vs : Array Value) (x y : EdgeQ) (k : Nat) (w : World) (B : Nat) (ha : EdgeR k w us x) (hb : EdgeR k w vs y) (hB : w.cell? ⟨B, 0, none⟩ = some (.func (.func 10) #[] #[])) (hk : 1 ≤ k) (hs : k < 67108864) :
  Calls Tryz.prog 50 (#[.agg us, .agg vs] ++ #[.pointer (some ⟨B, 0, none⟩)]) w fun e w' => e = .returned (.bool (decide (x = y))) ∧ Grew w w' := by
 show Calls Tryz.prog 50 #[.agg us, .agg vs, .pointer (some ⟨B, 0, none⟩)] w _
 have hz : (edgeCmp x y == 0) = decide (x = y) := by
  rw [Bool.eq_iff_iff, beq_iff_eq, decide_eq_true_eq]; exact ord_edge.zero x y
 obtain ⟨cc, hcc⟩ : ∃ cc, edgeCmp x y = cc := ⟨_, rfl⟩
 rw [hcc] at hz
 replace hcc := hZ hcc
 obtain ⟨dd, hdd⟩ : ∃ dd, decide (x = y) = dd := ⟨_, rfl⟩
 rw [hdd] at hz ⊢
 replace hz := hZ hz
 clear hdd
 obtain ⟨b1, A1, n1, c1, C1, m1, d1, b2, A2, n2, c2, C2, m2, d2, b3, A3, n3, c3, C3, m3, d3, b4, A4, n4, c4, C4, m4, d4, rfl, -, -⟩ := ha.laid
 obtain ⟨b5, A5, n5, c5, C5, m5, d5, b6, A6, n6, c6, C6, m6, d6, b7, A7, n7, c7, C7, m7, d7, b8, A8, n8, c8, C8, m8, d8, rfl, -, -⟩ := hb.laid
 go_enter Tryz.func50, Tryz.ntmps50
 go_upto_region 1 with fail
 refine gen_wp ?_
 intro W1 hW1
 have P0 : W1.cell? ⟨w.heap.size, 0, none⟩ = some (.bool b1) := by rw [hW1]; simp [go_sem]
 have P1 : W1.cell? ⟨w.heap.size, 1, none⟩ = some (.slice A1 n1 c1) := by rw [hW1]; simp [go_sem]
 have P2 : W1.cell? ⟨w.heap.size, 2, none⟩ = some (.slice C1 m1 d1) := by rw [hW1]; simp [go_sem]
 have P3 : W1.cell? ⟨w.heap.size, 3, none⟩ = some (.bool b2) := by rw [hW1]; simp [go_sem]
 have P4 : W1.cell? ⟨w.heap.size, 4, none⟩ = some (.slice A2 n2 c2) := by rw [hW1]; simp [go_sem]
 have P5 : W1.cell? ⟨w.heap.size, 5, none⟩ = some (.slice C2 m2 d2) := by rw [hW1]; simp [go_sem]
 have P6 : W1.cell? ⟨w.heap.size, 6, none⟩ = some (.bool b3) := by rw [hW1]; simp [go_sem]
 have P7 : W1.cell? ⟨w.heap.size, 7, none⟩ = some (.slice A3 n3 c3) := by rw [hW1]; simp [go_sem]
 have P8 : W1.cell? ⟨w.heap.size, 8, none⟩ = some (.slice C3 m3 d3) := by rw [hW1]; simp [go_sem]
 have P9 : W1.cell? ⟨w.heap.size, 9, none⟩ = some (.bool b4) := by rw [hW1]; simp [go_sem]
 have P10 : W1.cell? ⟨w.heap.size, 10, none⟩ = some (.slice A4 n4 c4) := by rw [hW1]; simp [go_sem]
 have P11 : W1.cell? ⟨w.heap.size, 11, none⟩ = some (.slice C4 m4 d4) := by rw [hW1]; simp [go_sem]
 have Q0 : W1.cell? ⟨w.heap.size + 1, 0, none⟩ = some (.bool b5) := by rw [hW1]; simp [go_sem]
 have Q1 : W1.cell? ⟨w.heap.size + 1, 1, none⟩ = some (.slice A5 n5 c5) := by rw [hW1]; simp [go_sem]
 have Q2 : W1.cell? ⟨w.heap.size + 1, 2, none⟩ = some (.slice C5 m5 d5) := by rw [hW1]; simp [go_sem]
 have Q3 : W1.cell? ⟨w.heap.size + 1, 3, none⟩ = some (.bool b6) := by rw [hW1]; simp [go_sem]
 have Q4 : W1.cell? ⟨w.heap.size + 1, 4, none⟩ = some (.slice A6 n6 c6) := by rw [hW1]; simp [go_sem]
 have Q5 : W1.cell? ⟨w.heap.size + 1, 5, none⟩ = some (.slice C6 m6 d6) := by rw [hW1]; simp [go_sem]
 have Q6 : W1.cell? ⟨w.heap.size + 1, 6, none⟩ = some (.bool b7) := by rw [hW1]; simp [go_sem]
 have Q7 : W1.cell? ⟨w.heap.size + 1, 7, none⟩ = some (.slice A7 n7 c7) := by rw [hW1]; simp [go_sem]
 have Q8 : W1.cell? ⟨w.heap.size + 1, 8, none⟩ = some (.slice C7 m7 d7) := by rw [hW1]; simp [go_sem]
 have Q9 : W1.cell? ⟨w.heap.size + 1, 9, none⟩ = some (.bool b8) := by rw [hW1]; simp [go_sem]
 have Q10 : W1.cell? ⟨w.heap.size + 1, 10, none⟩ = some (.slice A8 n8 c8) := by rw [hW1]; simp [go_sem]
 have Q11 : W1.cell? ⟨w.heap.size + 1, 11, none⟩ = some (.slice C8 m8 d8) := by rw [hW1]; simp [go_sem]
 have G1 : Grew w W1 := by rw [hW1]; exact ((Grew.refl w).alloc _).alloc _
 have hB1 := G1.cell hB
 have ha1 := hZ (edgeR_kept ha G1.keeps)
 have hb1 := hZ (edgeR_kept hb G1.keeps)
 replace G1 := hZ G1
 clear hW1 ha hb hB
 go_wp2_with fail
 refine (ecmp_any _ _ x y k _ ha1.out hb1.out hk hs).mono ?_
 rintro e w2 ⟨rfl, g2⟩
 rw [hcc.out]
 have gE := hZ (G1.out.trans g2)
 clear g2 G1 ha1 hb1 hB1 P0 Q0 P1 Q1 P2 Q2 P3 Q3 P4 Q4 P5 Q5 P6 Q6 P7 Q7 P8 Q8 P9 Q9 P10 Q10 P11 Q11
 go_wp2_with fail
 go_ret
 exact ⟨by rw [← hz.out]; rfl, gE.out⟩
set_option maxHeartbeats 8000000 in
theorem erow_any (base : Nat) (v : Value) (l : List EdgeQ) (k : Nat) (w : World) (hO : OwnK 12 Edge12R 37 w base v l) (hq : ∀ x ∈ l, EB k x) (hk : 1 ≤ k) (hs : k < 67108864) (hl : l.length ≤ 1099511627776) :
  Calls Tryz.prog 26 #[v, .func (.func 10) #[] #[]] w fun e w' => ∃ v', e = .returned v' ∧ OwnK 12 Edge12R 37 w' base v' (rowG edgeCmp l) ∧ ∀ W, W.heap.size ≤ base → Grew W w → Grew W w' := by
 have hlt := hZ (fun g (hg : v.ownBlock = some g) => hO.lt hg)
 obtain ⟨A, c, rfl, -, -, -⟩ := hO.row
 have eg : ∀ args w, (callFunc 10 args).run Tryz.prog w = .ok (.enter 10 args) w := enters_of Tryz.func10 (by kernel_rfl) rfl
 have eg1 : ∀ args w, (callFunc 50 args).run Tryz.prog w = .ok (.enter 50 args) w := enters_of Tryz.func50 (by kernel_rfl) rfl
 have hc : ∀ (W : World) (us vs : Array Value) (x y : EdgeQ), Edge12R W us x → Edge12R W vs y → EB k x → EB k y → Calls Tryz.prog 10 (#[.agg us, .agg vs] ++ #[]) W fun e w' => e = .returned (.int .i64 (edgeCmp x y)) ∧ Grew W w' :=
  fun W us vs x y h1 h2 b1 b2 => ecmp_any us vs x y k W (edge_r h1 b1) (edge_r h2 b2) hk hs
 have hz : ∀ w : World, (Go.sizeOf 37).run Tryz.prog w = .ok 12 w := Tryz.sizeOf37
 have ht : ∀ w : World, (isAgg 37).run Tryz.prog w = .ok true w := Tryz.isAgg37
 obtain ⟨B, hBs⟩ : ∃ B, w.heap.size = B := ⟨_, rfl⟩
 have he : ∀ (W : World) (us vs : Array Value) (x y : EdgeQ), Edge12R W us x → Edge12R W vs y → EB k x → EB k y → W.cell? ⟨B, 0, none⟩ = some (.func (.func 10) #[] #[]) → Calls Tryz.prog 50 (#[.agg us, .agg vs] ++ #[.pointer (some ⟨B, 0, none⟩)]) W fun e w' => e = .returned (.bool (decide (x = y))) ∧ Grew W w' :=
  fun W us vs x y h1 h2 b1 b2 hI => erow1_any us vs x y k W B (edge_r h1 b1) (edge_r h2 b2) hI hk hs
 rw [hBs] at hlt
 replace hO := hZ hO
 replace hq := hZ hq
 replace hc := hZ hc
 replace he := hZ he
 replace hz := hZ hz
 replace ht := hZ ht
 replace eg := hZ eg
 replace eg1 := hZ eg1
 go_enter Tryz.func26, Tryz.ntmps26
 go_upto_region 1 with fail
 refine gen_wp ?_
 intro W1 hW1
 have hB1 : W1.cell? ⟨B, 0, none⟩ = some (.func (.func 10) #[] #[]) := by rw [hW1, ← hBs]; simp [go_sem]
 have G1 : Grew w W1 := by rw [hW1]; exact (Grew.refl w).alloc _
 replace hO := hZ (OwnK.grew says_edge hO.out G1)
 replace G1 := hZ G1
 clear hW1
 go_wp2_with fail
 refine (sort_gen (k := 12) (R := Edge12R) (B := EB k) (cf := edgeCmp) (lt := edgeLt) Tryz.sortEdge ht.out hz.out says_edge ord_edge 10 #[] eg.out hc.out base _ l 37 _ hO.out hq.out (by omega)).mono ?_
 rintro e w2 ⟨rfl, m, hm1, hm2, hm3, hO2, hcell, hG2⟩
 have hB2 := hcell B 0 _ (fun h => Nat.lt_irrefl _ (hlt.out _ h)) hB1
 have hrow := hZ (compG_row ord_edge hm3 hm1)
 have hq2 := hZ (fun x (hx : x ∈ m) => hq.out x ((hm1 x).1 hx))
 have hG := hZ (fun (W : World) (h1 : W.heap.size ≤ base) (h2 : Grew W w) => hG2 W h1 (h2.trans G1.out))
 replace hO2 := hZ hO2
 clear hcell hG2 hm1 hm3 hB1 hO
 go_wp2_with fail
 refine (compE_any (EB k) (fun W => W.cell? ⟨B, 0, none⟩ = some (.func (.func 10) #[] #[])) (fun W W' h g => g.cell h) 50 #[.pointer (some ⟨B, 0, none⟩)] eg1.out he.out base _ m _ hO2.out hq2.out (by omega) hB2 (fun g hg W W' h hw => hw.cell h (fun e => Nat.lt_irrefl B (by simp only at e; have := hlt.out g hg; omega)))).mono ?_
 rintro e w3 ⟨V3, rfl, hO3, hG3⟩
 rw [hrow.out] at hO3
 replace hO3 := hZ hO3
 have hG9 := hZ (fun (W : World) (h1 : W.heap.size ≤ base) (h2 : Grew W w) => hG3 W h1 (hG.out W h1 h2))
 clear hG3 hG hO2 hq2 hB2
 go_wp2_with fail
 go_ret
 exact ⟨_, rfl, hO3.out, hG9.out⟩
set_option maxHeartbeats 8000000 in
theorem prow1_any (us vs : Array Value) (x y : (Rat × Rat)) (k : Nat) (w : World) (B : Nat) (ha : SpotV w (.agg us) x.1 x.2 k) (hb : SpotV w (.agg vs) y.1 y.2 k) (hB : w.cell? ⟨B, 0, none⟩ = some (.func (.func 19) #[] #[])) (hk : 1 ≤ k) (hs : k < 67108864) :
  Calls Tryz.prog 60 (#[.agg us, .agg vs] ++ #[.pointer (some ⟨B, 0, none⟩)]) w fun e w' => e = .returned (.bool (decide (x = y))) ∧ Grew w w' := by
 show Calls Tryz.prog 60 #[.agg us, .agg vs, .pointer (some ⟨B, 0, none⟩)] w _
 have hz : (spotCmp x.1 x.2 y.1 y.2 == 0) = decide (x = y) := by
  rw [Bool.eq_iff_iff, beq_iff_eq, decide_eq_true_eq]; exact (fun x y => ord_spot.zero x y) x y
 obtain ⟨cc, hcc⟩ : ∃ cc, spotCmp x.1 x.2 y.1 y.2 = cc := ⟨_, rfl⟩
 rw [hcc] at hz
 replace hcc := hZ hcc
 obtain ⟨dd, hdd⟩ : ∃ dd, decide (x = y) = dd := ⟨_, rfl⟩
 rw [hdd] at hz ⊢
 replace hz := hZ hz
 clear hdd
 obtain ⟨b1, A1, n1, c1, C1, m1, d1, b2, A2, n2, c2, C2, m2, d2, e9, -, -⟩ := id ha
 injection e9 with e9
 subst e9
 obtain ⟨b3, A3, n3, c3, C3, m3, d3, b4, A4, n4, c4, C4, m4, d4, e9, -, -⟩ := id hb
 injection e9 with e9
 subst e9
 go_enter Tryz.func60, Tryz.ntmps60
 go_upto_region 1 with fail
 refine gen_wp ?_
 intro W1 hW1
 have P0 : W1.cell? ⟨w.heap.size, 0, none⟩ = some (.bool b1) := by rw [hW1]; simp [go_sem]
 have P1 : W1.cell? ⟨w.heap.size, 1, none⟩ = some (.slice A1 n1 c1) := by rw [hW1]; simp [go_sem]
 have P2 : W1.cell? ⟨w.heap.size, 2, none⟩ = some (.slice C1 m1 d1) := by rw [hW1]; simp [go_sem]
 have P3 : W1.cell? ⟨w.heap.size, 3, none⟩ = some (.bool b2) := by rw [hW1]; simp [go_sem]
 have P4 : W1.cell? ⟨w.heap.size, 4, none⟩ = some (.slice A2 n2 c2) := by rw [hW1]; simp [go_sem]
 have P5 : W1.cell? ⟨w.heap.size, 5, none⟩ = some (.slice C2 m2 d2) := by rw [hW1]; simp [go_sem]
 have Q0 : W1.cell? ⟨w.heap.size + 1, 0, none⟩ = some (.bool b3) := by rw [hW1]; simp [go_sem]
 have Q1 : W1.cell? ⟨w.heap.size + 1, 1, none⟩ = some (.slice A3 n3 c3) := by rw [hW1]; simp [go_sem]
 have Q2 : W1.cell? ⟨w.heap.size + 1, 2, none⟩ = some (.slice C3 m3 d3) := by rw [hW1]; simp [go_sem]
 have Q3 : W1.cell? ⟨w.heap.size + 1, 3, none⟩ = some (.bool b4) := by rw [hW1]; simp [go_sem]
 have Q4 : W1.cell? ⟨w.heap.size + 1, 4, none⟩ = some (.slice A4 n4 c4) := by rw [hW1]; simp [go_sem]
 have Q5 : W1.cell? ⟨w.heap.size + 1, 5, none⟩ = some (.slice C4 m4 d4) := by rw [hW1]; simp [go_sem]
 have G1 : Grew w W1 := by rw [hW1]; exact ((Grew.refl w).alloc _).alloc _
 have hB1 := G1.cell hB
 have ha1 := hZ (SpotV.kept ha G1.keeps)
 have hb1 := hZ (SpotV.kept hb G1.keeps)
 replace G1 := hZ G1
 clear hW1 ha hb hB
 go_wp2_with fail
 refine (scmp_any _ _ x.1 x.2 y.1 y.2 k _ ha1.out hb1.out hk hs).mono ?_
 rintro e w2 ⟨rfl, g2⟩
 rw [hcc.out]
 have gE := hZ (G1.out.trans g2)
 clear g2 G1 ha1 hb1 hB1 P0 Q0 P1 Q1 P2 Q2 P3 Q3 P4 Q4 P5 Q5
 go_wp2_with fail
 go_ret
 exact ⟨by rw [← hz.out]; rfl, gE.out⟩
set_option maxHeartbeats 8000000 in
theorem prow_any (base : Nat) (v : Value) (l : List (Rat × Rat)) (k : Nat) (w : World) (hO : OwnK 6 Spot6R 35 w base v l) (hq : ∀ x ∈ l, (fun p : Rat × Rat => QB p.1 k ∧ QB p.2 k) x) (hk : 1 ≤ k) (hs : k < 67108864) (hl : l.length ≤ 1099511627776) :
  Calls Tryz.prog 34 #[v, .func (.func 19) #[] #[]] w fun e w' => ∃ v', e = .returned v' ∧ OwnK 6 Spot6R 35 w' base v' (rowG (fun p q : Rat × Rat => spotCmp p.1 p.2 q.1 q.2) l) ∧ ∀ W, W.heap.size ≤ base → Grew W w → Grew W w' := by
 have hlt := hZ (fun g (hg : v.ownBlock = some g) => hO.lt hg)
 obtain ⟨A, c, rfl, -, -, -⟩ := hO.row
 have eg : ∀ args w, (callFunc 19 args).run Tryz.prog w = .ok (.enter 19 args) w := enters_of Tryz.func19 (by kernel_rfl) rfl
 have eg1 : ∀ args w, (callFunc 60 args).run Tryz.prog w = .ok (.enter 60 args) w := enters_of Tryz.func60 (by kernel_rfl) rfl
 have hc : ∀ (W : World) (us vs : Array Value) (x y : (Rat × Rat)), Spot6R W us x → Spot6R W vs y → (fun p : Rat × Rat => QB p.1 k ∧ QB p.2 k) x → (fun p : Rat × Rat => QB p.1 k ∧ QB p.2 k) y → Calls Tryz.prog 19 (#[.agg us, .agg vs] ++ #[]) W fun e w' => e = .returned (.int .i64 ((fun p q : Rat × Rat => spotCmp p.1 p.2 q.1 q.2) x y)) ∧ Grew W w' :=
  fun W us vs x y h1 h2 b1 b2 => scmp_any _ _ x.1 x.2 y.1 y.2 k W (SpotC.v h1 b1.1 b1.2) (SpotC.v h2 b2.1 b2.2) hk hs
 have hz : ∀ w : World, (Go.sizeOf 35).run Tryz.prog w = .ok 6 w := Tryz.sizeOf35
 have ht : ∀ w : World, (isAgg 35).run Tryz.prog w = .ok true w := Tryz.isAgg35
 obtain ⟨B, hBs⟩ : ∃ B, w.heap.size = B := ⟨_, rfl⟩
 have he : ∀ (W : World) (us vs : Array Value) (x y : (Rat × Rat)), Spot6R W us x → Spot6R W vs y → (fun p : Rat × Rat => QB p.1 k ∧ QB p.2 k) x → (fun p : Rat × Rat => QB p.1 k ∧ QB p.2 k) y → W.cell? ⟨B, 0, none⟩ = some (.func (.func 19) #[] #[]) → Calls Tryz.prog 60 (#[.agg us, .agg vs] ++ #[.pointer (some ⟨B, 0, none⟩)]) W fun e w' => e = .returned (.bool (decide (x = y))) ∧ Grew W w' :=
  fun W us vs x y h1 h2 b1 b2 hI => prow1_any us vs x y k W B (SpotC.v h1 b1.1 b1.2) (SpotC.v h2 b2.1 b2.2) hI hk hs
 rw [hBs] at hlt
 replace hO := hZ hO
 replace hq := hZ hq
 replace hc := hZ hc
 replace he := hZ he
 replace hz := hZ hz
 replace ht := hZ ht
 replace eg := hZ eg
 replace eg1 := hZ eg1
 go_enter Tryz.func34, Tryz.ntmps34
 go_upto_region 1 with fail
 refine gen_wp ?_
 intro W1 hW1
 have hB1 : W1.cell? ⟨B, 0, none⟩ = some (.func (.func 19) #[] #[]) := by rw [hW1, ← hBs]; simp [go_sem]
 have G1 : Grew w W1 := by rw [hW1]; exact (Grew.refl w).alloc _
 replace hO := hZ (OwnK.grew says_spot hO.out G1)
 replace G1 := hZ G1
 clear hW1
 go_wp2_with fail
 refine (sort_gen (k := 6) (R := Spot6R) (B := (fun p : Rat × Rat => QB p.1 k ∧ QB p.2 k)) (cf := (fun p q : Rat × Rat => spotCmp p.1 p.2 q.1 q.2)) (lt := spotLt) Tryz.sortSpot ht.out hz.out says_spot ord_spot 19 #[] eg.out hc.out base _ l 35 _ hO.out hq.out (by omega)).mono ?_
 rintro e w2 ⟨rfl, m, hm1, hm2, hm3, hO2, hcell, hG2⟩
 have hB2 := hcell B 0 _ (fun h => Nat.lt_irrefl _ (hlt.out _ h)) hB1
 have hrow := hZ (compG_row ord_spot hm3 hm1)
 have hq2 := hZ (fun x (hx : x ∈ m) => hq.out x ((hm1 x).1 hx))
 have hG := hZ (fun (W : World) (h1 : W.heap.size ≤ base) (h2 : Grew W w) => hG2 W h1 (h2.trans G1.out))
 replace hO2 := hZ hO2
 clear hcell hG2 hm1 hm3 hB1 hO
 go_wp2_with fail
 refine (compS_any ((fun p : Rat × Rat => QB p.1 k ∧ QB p.2 k)) (fun W => W.cell? ⟨B, 0, none⟩ = some (.func (.func 19) #[] #[])) (fun W W' h g => g.cell h) 60 #[.pointer (some ⟨B, 0, none⟩)] eg1.out he.out base _ m _ hO2.out hq2.out (by omega) hB2 (fun g hg W W' h hw => hw.cell h (fun e => Nat.lt_irrefl B (by simp only at e; have := hlt.out g hg; omega)))).mono ?_
 rintro e w3 ⟨V3, rfl, hO3, hG3⟩
 rw [hrow.out] at hO3
 replace hO3 := hZ hO3
 have hG9 := hZ (fun (W : World) (h1 : W.heap.size ≤ base) (h2 : Grew W w) => hG3 W h1 (hG.out W h1 h2))
 clear hG3 hG hO2 hq2 hB2
 go_wp2_with fail
 go_ret
 exact ⟨_, rfl, hO3.out, hG9.out⟩
section
variable {V : Type} {k : Nat} {R : World → Array Value → V → Prop} {e : TypeId} {w : World} {base : Nat} {v : Value} {l m : List V} {P : Program}
theorem app_block {w : World} {base : Nat} {t ty e : TypeId} {i : TypeInfo} {z : Value} {size bytes : Nat} (ht : P.underlying t = some (.slice e)) (hi : P.info? e = some i) (hz : i.zero = some z)
  (hsize : i.size = size) (hby : i.bytes = bytes)
  {v : Value} {n : Nat} {xs : List Value} (hown : OwnS w base e size v n xs)
  {a : Addr} {m c : Nat} {news : List Value} (hl : news.length = m * size) (hnews : ∀ j u, news[j]? = some u → w.cell? (a.add j) = some u) (h1 : ∀ u ∈ news, u.oneCell' = true)
  (h63 : n + m ≤ maxLen) (hbytes : (n + m) * bytes ≤ 140737488355328) {v' : Value} {w' : World} (hr : (Builtin.append_ #[t, t] ty #[v, .slice (some a) m c]).run P w = .ok v' w') :
  ∀ g, v'.ownBlock = some g → v.ownBlock = some g ∨ w.heap.size ≤ g := by
 obtain ⟨hown, hni⟩ := hown
 subst hsize
 subst hby
 have hsmall : n + m ≤ 9223372036854775807 := by simp only [maxLen] at h63; omega
 intro g' hg'
 rcases hown.2 with ⟨rfl, rfl⟩ | ⟨g, cap, cur, rfl, hbg, hg, hnc, hcm, hcs, htake⟩
 ·by_cases hm : m = 0
  ·subst hm
   have e1 : (Builtin.append_ #[t, t] ty #[.slice none 0 0, .slice (some a) 0 c]).run P w = .ok (.slice none 0 0) w := by
    simp [Builtin.append_, run_underlying ht, sizeOf, typeInfo, hi, Builtin.lenOf, Builtin.firstCells, loadCells, loadCellsFrom]
   rw [e1] at hr
   injection hr with hv _
   subst hv
   simp [Value.ownBlock] at hg'
  ·have e1 := run_append_nil (P := P) w t ty e i z ht hi hz a m c news hl hnews (by omega) (by omega) (by have hb := hbytes; simp only [Nat.zero_add] at hb; omega)
   rw [e1] at hr
   injection hr with hv hw
   subst hv
   simp only [Value.ownBlock, Option.some.injEq] at hg'
   exact .inr (by rw [← hg']; simp)
 ·by_cases hroom : n + m ≤ cap
  ·have hfit : n * i.size + news.length ≤ cur.size := by rw [hl, hcs, ← Nat.add_mul]; exact Nat.mul_le_mul_right _ hroom
   have e1 := run_append_room (P := P) w t ty e i ht hi g n cap cur hg a m c news hl hnews h1 hroom hfit
   rw [e1] at hr
   injection hr with hv hw
   subst hv
   exact .inl hg'
  ·have holds : ∀ j u, xs[j]? = some u → w.cell? ((⟨g, 0, none⟩ : Addr).add j) = some u := hown.cells (g := g) rfl
   have e1 := run_append_grow (P := P) w t ty e i z ht hi hz ⟨g, 0, none⟩ n cap xs hown.1 holds a m c news hl hnews (by omega) (by omega) (growslice_fits (by omega) hbytes)
   rw [e1] at hr
   injection hr with hv hw
   subst hv
   simp only [Value.ownBlock, Option.some.injEq] at hg'
   exact .inr (by rw [← hg']; simp)
theorem run_appK (S : Says k R) (hO : OwnK k R e w base v l) (us : Array Value) (hus : us.size = m.length * k) (h1 : ∀ u ∈ us.toList, u.oneCell' = true) (hnn : ∀ u ∈ us.toList, NoInt u) (hel : ∀ i x, m[i]? = some x → CellsR k R w (fun j => us[i * k + j]?) x)
  (t : TypeId) (z : Value) (bytes : Nat) (ht : P.underlying t = some (.slice e)) (hi : (P.info? e).map (fun i => (i.zero, i.size, i.bytes)) = some (some z, k, bytes)) (hzs : z.cells.size = k) (hsz : 0 < k) (hzn : ∀ u ∈ z.cells, NoInt u)
  (hbytes : (l.length + m.length) * bytes ≤ 140737488355328) (hby : 0 < bytes) (hbase : base ≤ w.heap.size) (ty : TypeId) :
  ∃ v' w', (Builtin.append_ #[t, t] ty #[v, .slice (some ⟨w.heap.size, 0, none⟩) m.length m.length]).run P (w.alloc (.cells us e)) = .ok v' w' ∧ OwnK k R e w' base v' (l ++ m) ∧ Keeps w w' ∧ (∀ b p u, v.ownBlock ≠ some b → w.cell? ⟨b, p, none⟩ = some u → w'.cell? ⟨b, p, none⟩ = some u) ∧ (∀ g, v'.ownBlock = some g → v.ownBlock = some g ∨ w.heap.size ≤ g) ∧ ∀ W, W.heap.size ≤ base → Grew W w → Grew W w' := by
 obtain ⟨i, hi, hz, hsize, hbyt⟩ := info_parts hi
 obtain ⟨xs, hown, hF⟩ := hO.ownS
 have h63 : l.length + m.length ≤ maxLen := by
  have : (l.length + m.length) * 1 ≤ (l.length + m.length) * bytes := Nat.mul_le_mul_left _ hby
  simp only [maxLen]; omega
 have hnews : ∀ j u, us.toList[j]? = some u → (w.alloc (.cells us e)).cell? ((⟨w.heap.size, 0, none⟩ : Addr).add j) = some u := by
  intro j u hu
  have hadd : (⟨w.heap.size, 0, none⟩ : Addr).add j = ⟨w.heap.size, j, none⟩ := by unfold Addr.add; split <;> simp_all
  rw [hadd, cell_of_row _ w.heap.size j us e (0, 0) (heap_alloc_new w _)]
  simpa using hu
 have hown' : OwnS (w.alloc (.cells us e)) base e k v l.length xs := by
  refine ⟨hown.1.alloc _, fun g hg p u hu => ?_⟩
  have hlt := (hown.1.lt g hg).2
  rw [World.cell?_of_block (w := w) (Below.heap_alloc w _ g hlt)] at hu
  exact hown.2 g hg p u hu
 obtain ⟨v', w', hr, h2, h3, hd, h4⟩ := run_appS (P := P) (w.alloc (.cells us e)) base t ty e i z k bytes ht hi hz hsize hbyt hzs hsz hzn v l.length xs hown' ⟨w.heap.size, 0, none⟩ m.length m.length us.toList (by simpa using hus) hnews h1 hnn h63 hbytes (by simp; omega)
 have hK : Keeps w w' := ((Grew.refl w).alloc _).keeps.trans h4
 refine ⟨v', w', hr, OwnK.of_ownS (xs := xs ++ us.toList) (by rw [List.length_append]; exact h2) fun j y hy => ?_, hK, fun b p u hb hu => h3.cell (((Grew.refl w).alloc _).cell hu) (fun e => hb e.symm), fun g hg => (app_block ht hi hz hsize hbyt hown' (by simpa using hus) hnews h1 h63 hbytes hr g hg).imp id (fun h => Nat.le_trans (by simp) h), fun W hW hG => (hG.alloc _).grown h3 hd fun b hb => Nat.le_trans hW (hown.1.lt b hb).1⟩
 have hxl : xs.length = l.length * k := hown.1.1
 by_cases hj : j < l.length
 ·rw [List.getElem?_append_left hj] at hy
  refine (hF j y hy).mono S hK fun c u hc hu => ?_
  have := idx_lt hj hc
  rw [List.getElem?_append_left (by omega)]; exact hu
 ·rw [List.getElem?_append_right (by omega)] at hy
  refine (hel _ y hy).mono S hK fun c u hc hu => ?_
  have e1 : j * k + c = l.length * k + ((j - l.length) * k + c) := by
   rw [← Nat.add_assoc, ← Nat.add_mul, show l.length + (j - l.length) = j by omega]
  rw [e1, List.getElem?_append_right (by omega), show l.length * k + ((j - l.length) * k + c) - xs.length = (j - l.length) * k + c by omega, Array.getElem?_toList]; exact hu
theorem cells_one (S : Says k R) {us : Array Value} {x : V} (h : R w us x) : us.size = [x].length * k ∧ (∀ u ∈ us.toList, u.oneCell' = true) ∧ (∀ u ∈ us.toList, NoInt u) ∧ ∀ i y, [x][i]? = some y → CellsR k R w (fun j => us[i * k + j]?) y := by
 refine ⟨by simp [S.size h], S.one h, S.noint h, fun i y hy => ?_⟩
 have hi := (List.getElem?_eq_some_iff.1 hy).1
 obtain rfl : i = 0 := by simp at hi; omega
 obtain rfl : x = y := by simpa using hy
 exact ⟨us, fun j hj => by dsimp only; rw [Nat.zero_mul, Nat.zero_add], h⟩
theorem cells_two (S : Says k R) {us vs : Array Value} {x y : V} (h : R w us x) (g : R w vs y) : (us ++ vs).size = [x, y].length * k ∧ (∀ u ∈ (us ++ vs).toList, u.oneCell' = true) ∧ (∀ u ∈ (us ++ vs).toList, NoInt u) ∧ ∀ i z, [x, y][i]? = some z → CellsR k R w (fun j => (us ++ vs)[i * k + j]?) z := by
 have h1 := S.size h
 have h2 := S.size g
 refine ⟨by simp [h1, h2]; omega, fun u hu => ?_, fun u hu => ?_, fun i z hz => ?_⟩
 ·rw [Array.toList_append, List.mem_append] at hu
  rcases hu with hu | hu
  ·exact S.one h u hu
  ·exact S.one g u hu
 ·rw [Array.toList_append, List.mem_append] at hu
  rcases hu with hu | hu
  ·exact S.noint h u hu
  ·exact S.noint g u hu
 ·have hi := (List.getElem?_eq_some_iff.1 hz).1
  rcases (show i = 0 ∨ i = 1 by simp at hi; omega) with rfl | rfl
  ·obtain rfl : x = z := by simpa using hz
   exact ⟨us, fun j hj => by dsimp only; rw [Nat.zero_mul, Nat.zero_add, Array.getElem?_append_left (by omega)], h⟩
  ·obtain rfl : y = z := by simpa using hz
   exact ⟨vs, fun j hj => by dsimp only; rw [Nat.one_mul, Array.getElem?_append_right (by omega), h1, Nat.add_sub_cancel_left], g⟩
theorem wp_appK {o : Oper} {a : Act} {K : Act → World → Prop} {Q : Exit → Act → World → Prop} (s x : Operand) (t : TypeId) (ho : o.op = .call { callee := .builtin .append, args := #[s, x], argTypes := #[t, t] }) (hs : a.eval s = v)
  (S : Says k R) (hO : OwnK k R e w base v l) (us : Array Value) (hc : us.size = m.length * k ∧ (∀ u ∈ us.toList, u.oneCell' = true) ∧ (∀ u ∈ us.toList, NoInt u) ∧ ∀ i x, m[i]? = some x → CellsR k R w (fun j => us[i * k + j]?) x) (hx : a.eval x = .slice (some ⟨w.heap.size, 0, none⟩) m.length m.length)
  (z : Value) (bytes : Nat) (ht : P.underlying t = some (.slice e)) (hi : (P.info? e).map (fun i => (i.zero, i.size, i.bytes)) = some (some z, k, bytes)) (hzs : z.cells.size = k) (hsz : 0 < k) (hzn : ∀ u ∈ z.cells, NoInt u)
  (hbytes : (l.length + m.length) * bytes ≤ 140737488355328) (hby : 0 < bytes) (hbase : base ≤ w.heap.size)
  (h : ∀ v' w', OwnK k R e w' base v' (l ++ m) → Keeps w w' → (∀ b p u, v.ownBlock ≠ some b → w.cell? ⟨b, p, none⟩ = some u → w'.cell? ⟨b, p, none⟩ = some u) → (∀ g, v'.ownBlock = some g → v.ownBlock = some g ∨ w.heap.size ≤ g) → (∀ W, W.heap.size ≤ base → Grew W w → Grew W w') → K (a.put o.dst v') w') : Oper.wp P o a (w.alloc (.cells us e)) K Q := by
 obtain ⟨v', w', hr, h1, h2, h9, h8, h3⟩ := run_appK S hO us hc.1 hc.2.1 hc.2.2.1 hc.2.2.2 t z bytes ht hi hzs hsz hzn hbytes hby hbase o.type
 unfold Oper.wp execOp
 simp only [ho, resolve, invoke, builtin, Sem.run_bind, Sem.run_pure, Result.andThen_ok, List.map_toArray, List.map_cons, List.map_nil, hs, hx, hr]
 exact h v' w' h1 h2 h9 h8 h3
theorem wpList_appK {ops : Array Oper} {rest : List Oper} {o : Oper} {a : Act} {Q : Exit → Act → World → Prop} (hgd : o.guard = none) (s x : Operand) (t : TypeId) (ho : o.op = .call { callee := .builtin .append, args := #[s, x], argTypes := #[t, t] }) (hs : a.eval s = v)
  (S : Says k R) (hO : OwnK k R e w base v l) (us : Array Value) (hc : us.size = m.length * k ∧ (∀ u ∈ us.toList, u.oneCell' = true) ∧ (∀ u ∈ us.toList, NoInt u) ∧ ∀ i x, m[i]? = some x → CellsR k R w (fun j => us[i * k + j]?) x) (hx : a.eval x = .slice (some ⟨w.heap.size, 0, none⟩) m.length m.length)
  (z : Value) (bytes : Nat) (ht : P.underlying t = some (.slice e)) (hi : (P.info? e).map (fun i => (i.zero, i.size, i.bytes)) = some (some z, k, bytes)) (hzs : z.cells.size = k) (hsz : 0 < k) (hzn : ∀ u ∈ z.cells, NoInt u)
  (hbytes : (l.length + m.length) * bytes ≤ 140737488355328) (hby : 0 < bytes) (hbase : base ≤ w.heap.size)
  (h : ∀ v' w', OwnK k R e w' base v' (l ++ m) → Keeps w w' → (∀ b p u, v.ownBlock ≠ some b → w.cell? ⟨b, p, none⟩ = some u → w'.cell? ⟨b, p, none⟩ = some u) → (∀ g, v'.ownBlock = some g → v.ownBlock = some g ∨ w.heap.size ≤ g) → (∀ W, W.heap.size ≤ base → Grew W w → Grew W w') → wpList P ops Q rest (a.put o.dst v') w') : wpList P ops Q (o :: rest) a (w.alloc (.cells us e)) := by
 refine wpList_plain hgd fun _ hK => ?_
 exact wp_appK s x t ho hs S hO us hc hx z bytes ht hi hzs hsz hzn hbytes hby hbase fun v' w' h1 h2 h9 h8 h3 => hK _ _ (h v' w' h1 h2 h9 h8 h3)
end
def LocN (w : World) (D : Nat) (us : List Value) (wv : World) : Prop := Grew w wv ∧ ∀ j u, us[j]? = some u → wv.cell? ⟨D, j, none⟩ = some u
theorem LocN.trans {w a b : World} {D : Nat} {us : List Value} (h : LocN w D us a) (g : Grew a b) : LocN w D us b := ⟨h.1.trans g, fun j u hu => g.cell (h.2 j u hu)⟩
theorem LocN.drew {w a : World} {D : Nat} {us : List Value} (h : LocN w D us a) : LocN w D us a.drew := h.trans ((Grew.refl a).drew)
theorem LocN.alloc {w a : World} {D : Nat} {us : List Value} (h : LocN w D us a) (o : Obj) : LocN w D us (a.alloc o) := h.trans ((Grew.refl a).alloc o)
end Go.Proofs.YtmommicmblfibaaGreat
