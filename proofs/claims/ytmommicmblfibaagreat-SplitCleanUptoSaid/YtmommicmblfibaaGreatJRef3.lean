/- Rows of structs that hold no ints: append, with the numbers kept. Conditions: none. The references' digits: r01.at, r01.cut. Conditions: what comes in reads. r01.Half: a number's words as digits of 16 bits. Condition: what comes in reads; fewer than 2^40 words. r01.Words: digits of 16 bits as words. Condition: what comes in reads; fewer than 2^40 digits. -/
import Derived.Test.YtmommicmblfibaaGreatJKit
import Derived.Test.YtmommicmblfibaaGreatJSub
import Derived.Deep.RegionLaw
import Derived.Deep.RegionHeld3
namespace Go.Proofs.YtmommicmblfibaaGreat
open Go.RowKit

/-- A value that is no int. -/
def NoInt (u : Value) : Prop := ∀ k x, u ≠ .int k x
/-- A block none of whose cells is an int. -/
def NoInts (w : World) (g : Nat) : Prop := ∀ p u, w.cell? ⟨g, p, none⟩ = some u → NoInt u
/-- A row of structs that a call owns, and that holds no int. -/
def OwnS (w : World) (base : Nat) (e : TypeId) (size : Nat) (v : Value) (n : Nat) (xs : List Value) : Prop :=
  w.ownsRow base e size v n xs ∧ ∀ g, v.ownBlock = some g → NoInts w g

theorem OwnS.nil (w : World) (base : Nat) (e : TypeId) (size : Nat) : OwnS w base e size (.slice none 0 0) 0 [] := ⟨World.ownsRow_nil _ _ _ _, fun g h => by simp [Value.ownBlock] at h⟩

/-- What is written into such a row turns no number. -/
theorem keeps_of_grown {w w' : World} {row : Option Nat} (hg : w.grownBy w' row) (hn : ∀ g, row = some g → NoInts w g) : Keeps w w' := by
  intro B K v N k h
  obtain ⟨A, c, hv, h1, h2, h4, h3⟩ := h
  refine ⟨A, c, hv, h1, h2, h4, fun hk => ?_⟩
  obtain ⟨b, off, hA, hc⟩ := h3 hk
  refine ⟨b, off, hA, fun i hi => ?_⟩
  refine hg.cell (hc i hi) fun e => ?_
  exact hn b e.symm _ _ (hc i hi) K _ rfl

section
variable {P : Program} (w : World)

theorem run_appS (base : Nat) (t ty e : TypeId) (i : TypeInfo) (z : Value) (size bytes : Nat) (ht : P.underlying t = some (.slice e)) (hi : P.info? e = some i) (hz : i.zero = some z)
    (hsize : i.size = size) (hby : i.bytes = bytes) (hzs : z.cells.size = size) (hsz : 0 < size) (hzn : ∀ u ∈ z.cells, NoInt u)
    (v : Value) (n : Nat) (xs : List Value) (hown : OwnS w base e size v n xs)
    (a : Addr) (m c : Nat) (news : List Value) (hl : news.length = m * size) (hnews : ∀ j u, news[j]? = some u → w.cell? (a.add j) = some u) (h1 : ∀ u ∈ news, u.oneCell' = true) (hnn : ∀ u ∈ news, NoInt u)
    (h63 : n + m ≤ maxLen) (hbytes : (n + m) * bytes ≤ 140737488355328) (hbase : base ≤ w.heap.size) :
    ∃ v' w', (Builtin.append_ #[t, t] ty #[v, .slice (some a) m c]).run P w = .ok v' w' ∧ OwnS w' base e size v' (n + m) (xs ++ news) ∧ w.grownBy w' v.ownBlock ∧ w.drawn ≤ w'.drawn ∧ Keeps w w' := by
  obtain ⟨hown, hni⟩ := hown
  obtain ⟨v', w', hr, h2, h3, h4⟩ := run_append_own (P := P) w base t ty e i z size bytes ht hi hz hsize hby hzs hsz v n xs hown a m c news hl hnews h1 h63 hbytes hbase
  have hd := drawn_append (P := P) w base t ty e i z size bytes ht hi hz hsize hby hsz v n xs hown a m c news hl hnews h1 h63 hbytes v' w' hr
  refine ⟨v', w', hr, ⟨h2, ?_⟩, h3, hd, keeps_of_grown h3 hni⟩
  subst hsize
  subst hby
  have hzero : ∀ k, ∀ u ∈ Builtin.zeroCells z.cells k, NoInt u := by
    intro k u hu
    simp only [Builtin.zeroCells, Array.mem_map, Array.mem_range] at hu
    obtain ⟨j, -, rfl⟩ := hu
    have hlt : j % z.cells.size < z.cells.size := Nat.mod_lt _ (by omega)
    rw [getElem!_pos z.cells _ hlt]
    exact hzn _ (Array.getElem_mem hlt)
  have hsmall : n + m ≤ 9223372036854775807 := by simp only [maxLen] at h63; omega
  have hblk : ∀ (W : World) (b : Nat) (cs : Array Value), W.heap[b]? = some (.cells cs e (0, 0)) → (∀ u ∈ cs, NoInt u) → NoInts W b := by
    intro W b cs hb hcs p u hu
    rw [cell_of_row W b p cs e (0, 0) hb] at hu
    exact hcs u (Array.mem_of_getElem? hu)
  rcases hown.2 with ⟨rfl, rfl⟩ | ⟨g, cap, cur, rfl, hbg, hg, hnc, hcm, hcs, htake⟩
  · by_cases hm : m = 0
    · subst hm
      have e1 : (Builtin.append_ #[t, t] ty #[.slice none 0 0, .slice (some a) 0 c]).run P w = .ok (.slice none 0 0) w := by
        simp [Builtin.append_, run_underlying ht, sizeOf, typeInfo, hi, Builtin.lenOf, Builtin.firstCells, loadCells, loadCellsFrom]
      rw [e1] at hr
      injection hr with hv _
      subst hv
      intro g hg
      simp [Value.ownBlock] at hg
    · have e1 := run_append_nil (P := P) w t ty e i z ht hi hz a m c news hl hnews (by omega) (by omega) (by have hb := hbytes; simp only [Nat.zero_add] at hb; omega)
      rw [e1] at hr
      injection hr with hv hw
      subst hv
      subst hw
      intro g hg
      simp only [Value.ownBlock, Option.some.injEq] at hg
      subst hg
      refine hblk _ _ _ (heap_alloc_new w.drew _) fun u hu => ?_
      simp only [Array.mem_append, List.mem_toArray] at hu
      exact hu.elim (hnn u) (hzero _ u)
  · have hcur : ∀ u ∈ cur, NoInt u := by
      intro u hu
      obtain ⟨p, hp⟩ := Array.getElem?_of_mem hu
      exact hni g rfl p u (by rw [cell_of_row w g p cur e (0, 0) hg]; exact hp)
    by_cases hroom : n + m ≤ cap
    · have hfit : n * i.size + news.length ≤ cur.size := by rw [hl, hcs, ← Nat.add_mul]; exact Nat.mul_le_mul_right _ hroom
      have e1 := run_append_room (P := P) w t ty e i ht hi g n cap cur hg a m c news hl hnews h1 hroom hfit
      rw [e1] at hr
      injection hr with hv hw
      subst hv
      subst hw
      intro g' hg'
      simp only [Value.ownBlock, Option.some.injEq] at hg'
      subst hg'
      refine hblk _ _ _ (setRow_heap w g cur _ e (0, 0) hg) fun u hu => ?_
      simp only [List.mem_toArray, List.mem_append] at hu
      rcases hu with (hu | hu) | hu
      · exact hcur u (by simpa using List.mem_of_mem_take hu)
      · exact hnn u hu
      · exact hcur u (by simpa using List.mem_of_mem_drop hu)
    · have holds : ∀ j u, xs[j]? = some u → w.cell? ((⟨g, 0, none⟩ : Addr).add j) = some u := hown.cells (g := g) rfl
      have e1 := run_append_grow (P := P) w t ty e i z ht hi hz ⟨g, 0, none⟩ n cap xs hown.1 holds a m c news hl hnews (by omega) (by omega) (growslice_fits (by omega) hbytes)
      rw [e1] at hr
      injection hr with hv hw
      subst hv
      subst hw
      intro g' hg'
      simp only [Value.ownBlock, Option.some.injEq] at hg'
      subst hg'
      refine hblk _ _ _ (heap_alloc_new w.drew _) fun u hu => ?_
      simp only [Array.mem_append, List.mem_toArray] at hu
      rcases hu with (hu | hu) | hu
      · exact hcur u (by rw [← htake] at hu; simpa using List.mem_of_mem_take hu)
      · exact hnn u hu
      · exact hzero _ u hu

/-- append of one struct, which the walk has laid into a block of its own. -/
theorem wpList_appS1 {ops : Array Oper} {rest : List Oper} {o : Oper} {a : Act} {Q : Exit → Act → World → Prop} (hgd : o.guard = none) (s x : Operand) (t : TypeId)
    (ho : o.op = .call { callee := .builtin .append, args := #[s, x], argTypes := #[t, t] })
    (base : Nat) (e : TypeId) (z : Value) (size bytes : Nat) (ht : P.underlying t = some (.slice e)) (hi : (P.info? e).map (fun i => (i.zero, i.size, i.bytes)) = some (some z, size, bytes))
    (hzs : z.cells.size = size) (hsz : 0 < size) (hzn : ∀ u ∈ z.cells, NoInt u)
    (v : Value) (n : Nat) (xs : List Value) (hs : a.eval s = v) (hown : OwnS w base e size v n xs)
    (us : Array Value) (hus : us.size = size) (h1 : ∀ u ∈ us.toList, u.oneCell' = true) (hnn : ∀ u ∈ us.toList, NoInt u) (hx : a.eval x = .slice (some ⟨w.heap.size, 0, none⟩) 1 1)
    (hbytes : (n + 1) * bytes ≤ 140737488355328) (hby : 0 < bytes) (hbase : base ≤ w.heap.size)
    (h : ∀ v' w', OwnS w' base e size v' (n + 1) (xs ++ us.toList) → (∀ W, W.heap.size ≤ base → Grew W w → Grew W w') → Keeps w w' → wpList P ops Q rest (a.put o.dst v') w') : wpList P ops Q (o :: rest) a (w.alloc (.cells us e)) := by
  obtain ⟨i, hi, hz, hsize, hbyt⟩ := info_parts hi
  have h63 : n + 1 ≤ maxLen := by
    have : (n + 1) * 1 ≤ (n + 1) * bytes := Nat.mul_le_mul_left _ hby
    simp only [maxLen]; omega
  have hnews : ∀ j u, us.toList[j]? = some u → (w.alloc (.cells us e)).cell? ((⟨w.heap.size, 0, none⟩ : Addr).add j) = some u := by
    intro j u hu
    have hadd : (⟨w.heap.size, 0, none⟩ : Addr).add j = ⟨w.heap.size, j, none⟩ := by unfold Addr.add; split <;> simp_all
    rw [hadd, cell_of_row _ w.heap.size j us e (0, 0) (heap_alloc_new w _)]
    simpa using hu
  have hown' : OwnS (w.alloc (.cells us e)) base e size v n xs := by
    refine ⟨hown.1.alloc _, fun g hg p u hu => ?_⟩
    have hlt := (hown.1.lt g hg).2
    rw [World.cell?_of_block (w := w) (Below.heap_alloc w _ g hlt)] at hu
    exact hown.2 g hg p u hu
  refine wpList_plain hgd fun _ hK => ?_
  obtain ⟨v', w', hr, h2, h3, hd, h4⟩ := run_appS (P := P) (w.alloc (.cells us e)) base t o.type e i z size bytes ht hi hz hsize hbyt hzs hsz hzn v n xs hown' ⟨w.heap.size, 0, none⟩ 1 1 us.toList (by simp [hus]) hnews h1 hnn h63 hbytes (by simp; omega)
  unfold Oper.wp execOp
  simp only [ho, resolve, invoke, builtin, Sem.run_bind, Sem.run_pure, Result.andThen_ok, List.map_toArray, List.map_cons, List.map_nil, hs, hx, hr]
  refine hK _ _ (h v' w' h2 (fun W hW hG => (hG.alloc _).grown h3 hd fun k hk => Nat.le_trans hW (hown.1.lt k hk).1) ?_)
  exact ((Grew.refl w).alloc _).keeps.trans h4
end
end Go.Proofs.YtmommicmblfibaaGreat
namespace Go.Proofs.YtmommicmblfibaaGreat
open Go.RowKit

end Go.Proofs.YtmommicmblfibaaGreat
namespace Go.Proofs.YtmommicmblfibaaGreat
open Go.RowKit

section
variable {P : Program}
end

end Go.Proofs.YtmommicmblfibaaGreat
namespace Go.Proofs.YtmommicmblfibaaGreat
open Go.RowKit

end Go.Proofs.YtmommicmblfibaaGreat
