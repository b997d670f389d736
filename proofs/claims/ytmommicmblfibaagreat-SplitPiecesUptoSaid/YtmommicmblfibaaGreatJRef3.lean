/- Rows of structs that hold no ints: append, with the numbers kept. Conditions: none. The references' digits: r01.at, r01.cut. Conditions: what comes in reads. r01.Half: a number's words as digits of 16 bits. Condition: what comes in reads; fewer than 2^40 words. r01.Words: digits of 16 bits as words. Condition: what comes in reads; fewer than 2^40 digits. -/
import Derived.Test.YtmommicmblfibaaGreatJKit
import Derived.Test.YtmommicmblfibaaGreatJSub
import Derived.Deep.RegionLaw
import Derived.Deep.RegionHeld3
set_option maxRecDepth 100000
namespace Go.Proofs.YtmommicmblfibaaGreat
open Go.RowKit
def NoInt (u : Value) : Prop := ∀ k x, u ≠ .int k x
def NoInts (w : World) (g : Nat) : Prop := ∀ p u, w.cell? ⟨g, p, none⟩ = some u → NoInt u
def OwnS (w : World) (base : Nat) (e : TypeId) (size : Nat) (v : Value) (n : Nat) (xs : List Value) : Prop :=
 w.ownsRow base e size v n xs ∧ ∀ g, v.ownBlock = some g → NoInts w g
theorem OwnS.nil (w : World) (base : Nat) (e : TypeId) (size : Nat) : OwnS w base e size (.slice none 0 0) 0 [] := ⟨World.ownsRow_nil _ _ _ _, fun g h => by simp [Value.ownBlock] at h⟩
theorem keeps_of_grown {w w' : World} {row : Option Nat} (hg : w.grownBy w' row) (hn : ∀ g, row = some g → NoInts w g) : Keeps w w' := by
 intro B K v N k h
 obtain ⟨A, c, hv, h1, h2, h4, h3⟩ := h
 refine ⟨A, c, hv, h1, h2, h4, fun hk => ?_⟩
 obtain ⟨b, off, hA, hc⟩ := h3 hk
 refine ⟨b, off, hA, fun i hi => ?_⟩
 refine hg.cell (hc i hi) fun e => ?_
 exact hn b e.symm _ _ (hc i hi) K _ rfl
section
variable {P : Program} (w : World)
theorem run_appS (base : Nat) (t ty e : TypeId) (i : TypeInfo) (z : Value) (size bytes : Nat) (ht : P.underlying t = some (.slice e)) (hi : P.info? e = some i) (hz : i.zero = some z)
  (hsize : i.size = size) (hby : i.bytes = bytes) (hzs : z.cells.size = size) (hsz : 0 < size) (hzn : ∀ u ∈ z.cells, NoInt u)
  (v : Value) (n : Nat) (xs : List Value) (hown : OwnS w base e size v n xs)
  (a : Addr) (m c : Nat) (news : List Value) (hl : news.length = m * size) (hnews : ∀ j u, news[j]? = some u → w.cell? (a.add j) = some u) (h1 : ∀ u ∈ news, u.oneCell' = true) (hnn : ∀ u ∈ news, NoInt u)
  (h63 : n + m ≤ maxLen) (hbytes : (n + m) * bytes ≤ 140737488355328) (hbase : base ≤ w.heap.size) :
  ∃ v' w', (Builtin.append_ #[t, t] ty #[v, .slice (some a) m c]).run P w = .ok v' w' ∧ OwnS w' base e size v' (n + m) (xs ++ news) ∧ w.grownBy w' v.ownBlock ∧ w.drawn ≤ w'.drawn ∧ Keeps w w' := by
 obtain ⟨hown, hni⟩ := hown
 obtain ⟨v', w', hr, h2, h3, h4⟩ := run_append_own (P := P) w base t ty e i z size bytes ht hi hz hsize hby hzs hsz v n xs hown a m c news hl hnews h1 h63 hbytes hbase
 have hd := drawn_append (P := P) w base t ty e i z size bytes ht hi hz hsize hby hsz v n xs hown a m c news hl hnews h1 h63 hbytes v' w' hr
 refine ⟨v', w', hr, ⟨h2, ?_⟩, h3, hd, keeps_of_grown h3 hni⟩
 subst hsize
 subst hby
 have hzero : ∀ k, ∀ u ∈ Builtin.zeroCells z.cells k, NoInt u := by
  intro k u hu
  simp only [Builtin.zeroCells, Array.mem_map, Array.mem_range] at hu
  obtain ⟨j, -, rfl⟩ := hu
  have hlt : j % z.cells.size < z.cells.size := Nat.mod_lt _ (by omega)
  rw [getElem!_pos z.cells _ hlt]
  exact hzn _ (Array.getElem_mem hlt)
 have hsmall : n + m ≤ 9223372036854775807 := by simp only [maxLen] at h63; omega
 have hblk : ∀ (W : World) (b : Nat) (cs : Array Value), W.heap[b]? = some (.cells cs e (0, 0)) → (∀ u ∈ cs, NoInt u) → NoInts W b := by
  intro W b cs hb hcs p u hu
  rw [cell_of_row W b p cs e (0, 0) hb] at hu
  exact hcs u (Array.mem_of_getElem? hu)
 rcases hown.2 with ⟨rfl, rfl⟩ | ⟨g, cap, cur, rfl, hbg, hg, hnc, hcm, hcs, htake⟩
 ·by_cases hm : m = 0
  ·subst hm
   have e1 : (Builtin.append_ #[t, t] ty #[.slice none 0 0, .slice (some a) 0 c]).run P w = .ok (.slice none 0 0) w := by
    simp [Builtin.append_, run_underlying ht, sizeOf, typeInfo, hi, Builtin.lenOf, Builtin.firstCells, loadCells, loadCellsFrom]
   rw [e1] at hr
   injection hr with hv _
   subst hv
   intro g hg
   simp [Value.ownBlock] at hg
  ·have e1 := run_append_nil (P := P) w t ty e i z ht hi hz a m c news hl hnews (by omega) (by omega) (by have hb := hbytes; simp only [Nat.zero_add] at hb; omega)
   rw [e1] at hr
   injection hr with hv hw
   subst hv
   subst hw
   intro g hg
   simp only [Value.ownBlock, Option.some.injEq] at hg
   subst hg
   refine hblk _ _ _ (heap_alloc_new w.drew _) fun u hu => ?_
   simp only [Array.mem_append, List.mem_toArray] at hu
   exact hu.elim (hnn u) (hzero _ u)
 ·have hcur : ∀ u ∈ cur, NoInt u := by
   intro u hu
   obtain ⟨p, hp⟩ := Array.getElem?_of_mem hu
   exact hni g rfl p u (by rw [cell_of_row w g p cur e (0, 0) hg]; exact hp)
  by_cases hroom : n + m ≤ cap
  ·have hfit : n * i.size + news.length ≤ cur.size := by rw [hl, hcs, ← Nat.add_mul]; exact Nat.mul_le_mul_right _ hroom
   have e1 := run_append_room (P := P) w t ty e i ht hi g n cap cur hg a m c news hl hnews h1 hroom hfit
   rw [e1] at hr
   injection hr with hv hw
   subst hv
   subst hw
   intro g' hg'
   simp only [Value.ownBlock, Option.some.injEq] at hg'
   subst hg'
   refine hblk _ _ _ (setRow_heap w g cur _ e (0, 0) hg) fun u hu => ?_
   simp only [List.mem_toArray, List.mem_append] at hu
   rcases hu with (hu | hu) | hu
   ·exact hcur u (by simpa using List.mem_of_mem_take hu)
   ·exact hnn u hu
   ·exact hcur u (by simpa using List.mem_of_mem_drop hu)
  ·have holds : ∀ j u, xs[j]? = some u → w.cell? ((⟨g, 0, none⟩ : Addr).add j) = some u := hown.cells (g := g) rfl
   have e1 := run_append_grow (P := P) w t ty e i z ht hi hz ⟨g, 0, none⟩ n cap xs hown.1 holds a m c news hl hnews (by omega) (by omega) (growslice_fits (by omega) hbytes)
   rw [e1] at hr
   injection hr with hv hw
   subst hv
   subst hw
   intro g' hg'
   simp only [Value.ownBlock, Option.some.injEq] at hg'
   subst hg'
   refine hblk _ _ _ (heap_alloc_new w.drew _) fun u hu => ?_
   simp only [Array.mem_append, List.mem_toArray] at hu
   rcases hu with (hu | hu) | hu
   ·exact hcur u (by rw [← htake] at hu; simpa using List.mem_of_mem_take hu)
   ·exact hnn u hu
   ·exact hzero _ u hu
theorem wpList_appS1 {ops : Array Oper} {rest : List Oper} {o : Oper} {a : Act} {Q : Exit → Act → World → Prop} (hgd : o.guard = none) (s x : Operand) (t : TypeId)
  (ho : o.op = .call { callee := .builtin .append, args := #[s, x], argTypes := #[t, t] })
  (base : Nat) (e : TypeId) (z : Value) (size bytes : Nat) (ht : P.underlying t = some (.slice e)) (hi : (P.info? e).map (fun i => (i.zero, i.size, i.bytes)) = some (some z, size, bytes))
  (hzs : z.cells.size = size) (hsz : 0 < size) (hzn : ∀ u ∈ z.cells, NoInt u)
  (v : Value) (n : Nat) (xs : List Value) (hs : a.eval s = v) (hown : OwnS w base e size v n xs)
  (us : Array Value) (hus : us.size = size) (h1 : ∀ u ∈ us.toList, u.oneCell' = true) (hnn : ∀ u ∈ us.toList, NoInt u) (hx : a.eval x = .slice (some ⟨w.heap.size, 0, none⟩) 1 1)
  (hbytes : (n + 1) * bytes ≤ 140737488355328) (hby : 0 < bytes) (hbase : base ≤ w.heap.size)
  (h : ∀ v' w', OwnS w' base e size v' (n + 1) (xs ++ us.toList) → (∀ W, W.heap.size ≤ base → Grew W w → Grew W w') → Keeps w w' → wpList P ops Q rest (a.put o.dst v') w') : wpList P ops Q (o :: rest) a (w.alloc (.cells us e)) := by
 obtain ⟨i, hi, hz, hsize, hbyt⟩ := info_parts hi
 have h63 : n + 1 ≤ maxLen := by
  have : (n + 1) * 1 ≤ (n + 1) * bytes := Nat.mul_le_mul_left _ hby
  simp only [maxLen]; omega
 have hnews : ∀ j u, us.toList[j]? = some u → (w.alloc (.cells us e)).cell? ((⟨w.heap.size, 0, none⟩ : Addr).add j) = some u := by
  intro j u hu
  have hadd : (⟨w.heap.size, 0, none⟩ : Addr).add j = ⟨w.heap.size, j, none⟩ := by unfold Addr.add; split <;> simp_all
  rw [hadd, cell_of_row _ w.heap.size j us e (0, 0) (heap_alloc_new w _)]
  simpa using hu
 have hown' : OwnS (w.alloc (.cells us e)) base e size v n xs := by
  refine ⟨hown.1.alloc _, fun g hg p u hu => ?_⟩
  have hlt := (hown.1.lt g hg).2
  rw [World.cell?_of_block (w := w) (Below.heap_alloc w _ g hlt)] at hu
  exact hown.2 g hg p u hu
 refine wpList_plain hgd fun _ hK => ?_
 obtain ⟨v', w', hr, h2, h3, hd, h4⟩ := run_appS (P := P) (w.alloc (.cells us e)) base t o.type e i z size bytes ht hi hz hsize hbyt hzs hsz hzn v n xs hown' ⟨w.heap.size, 0, none⟩ 1 1 us.toList (by simp [hus]) hnews h1 hnn h63 hbytes (by simp; omega)
 unfold Oper.wp execOp
 simp only [ho, resolve, invoke, builtin, Sem.run_bind, Sem.run_pure, Result.andThen_ok, List.map_toArray, List.map_cons, List.map_nil, hs, hx, hr]
 refine hK _ _ (h v' w' h2 (fun W hW hG => (hG.alloc _).grown h3 hd fun k hk => Nat.le_trans hW (hown.1.lt k hk).1) ?_)
 exact ((Grew.refl w).alloc _).keeps.trans h4
end
set_option maxHeartbeats 1000000 in
theorem rat_any (v : Value) (N n j : Nat) (w : World) (hv : Num 65536 .u64 w v N n) (hj : j ≤ 4611686018427387904) :
  Calls Tryz.prog 168 #[v, .int .i64 (j : Int)] w fun e w' => e = .returned (.int .u64 (dig 65536 N j : Nat)) ∧ w = w' := by
 obtain ⟨A, c, rfl, h1, h2, h4, h3⟩ := hv
 have hm : n ≤ 9223372036854775807 := by omega
 by_cases hlt : j < n
 ·obtain ⟨b, off, rfl, hc⟩ := h3 (by omega)
  have hcell := hc j hlt
  clear hc h3 h4
  generalize dig 65536 N j = x at *
  go_enter Tryz.func168, Tryz.ntmps168
  go_wp2
  go_ret
  exact ⟨rfl, rfl⟩
 ·have hz : dig 65536 N j = 0 := dig_zero_of_lt (by omega) h4 (by omega)
  replace hz := hZ hz
  clear h3 h4
  go_enter Tryz.func168, Tryz.ntmps168
  go_wp2
  go_ret
  exact ⟨by rw [hz.out]; rfl, rfl⟩
set_option maxHeartbeats 1000000 in
theorem rcut_any (v : Value) (N n : Nat) (w : World) (hv : Num 65536 .u64 w v N n) :
  Calls Tryz.prog 167 #[v] w fun e w' => ∃ v', e = .returned v' ∧ Num 65536 .u64 w v' N (len 65536 N) ∧ w = w' := by
 have hv' := hZ hv
 obtain ⟨A, c, rfl, h1, h2, h4, h3⟩ := hv
 have hm : n ≤ 9223372036854775807 := by omega
 have HS : Hid (lenN 65536 N n = len 65536 N) := hZ (lenN_eq (by omega) h4)
 clear h4
 have fin : ∀ k : Nat, k ≤ n → len 65536 N = k → Num 65536 .u64 w (.slice A k c) N (len 65536 N) := fun k hk e => by
  rw [e]; exact hv'.out.cut hk (by rw [← e]; exact lt_len (by omega) N)
 replace fin := hZ fin
 go_enter Tryz.func167, Tryz.ntmps167
 go_wp2
 go_loop [3] (fun t => ∃ k : Nat, k ≤ n ∧ t = .int .i64 k ∧ Hid (lenN 65536 N k = len 65536 N)) (fun t => (intOf t).toNat)
 case atStart => exact ⟨n, Nat.le_refl _, rfl, HS⟩
 case round =>
  obtain ⟨k, hk, rfl, hs⟩ := hrel
  rcases k with _ | j
  ·have e0 := hZ (fin.out 0 (Nat.zero_le _) hs.out.symm)
   go_wp2
   go_ret
   exact ⟨_, rfl, e0.out, rfl⟩
  ·obtain ⟨b, off, rfl, hc⟩ := h3 (by omega)
   have hcell := hc j (by omega)
   clear hc h3
   by_cases hz : dig 65536 N j = 0
   ·rw [hz] at hcell
    go_wp2
    go_round
    case rel => exact ⟨j, by omega, by go_num, hZ (by rw [← hs.out]; simp only [lenN, hz, if_true])⟩
    case measure => simp [intOf]
   ·have hp : 0 < dig 65536 N j := by omega
    have hs' : Hid (lenN 65536 N (j + 1) = j + 1) := hZ (by simp only [lenN, if_neg hz])
    have e0 := hZ (fin.out (j + 1) hk (hs.out.symm.trans hs'.out))
    generalize hx : dig 65536 N j = x at *
    have hpb : ((x : Int) == 0) = false := by simp; omega
    have hjc : (j : Int) + 1 ≤ (c : Int) := by omega
    clear hx
    go_wp2
    go_ret
    exact ⟨_, rfl, e0.out, rfl⟩
theorem info_u64 : (Tryz.prog.info? 136).map (fun i => (i.zero, i.size, i.bytes)) = some (some (.int .u64 0), 1, 8) := by kernel_rfl
section
variable {P : Program}
theorem step_appN {ops : Array Oper} {o : Oper} {a : Act} {w : World} {K : Act → World → Prop} {Q : Exit → Act → World → Prop} {E : Prop} (hg : o.guard = none) (s x : Operand) (t : TypeId)
  (ho : o.op = .call { callee := .builtin .append, args := #[s, x], argTypes := #[t, t] })
  (base : Nat) (e : TypeId) (z : Value) (size bytes : Nat) (ht : P.underlying t = some (.slice e)) (hi : (P.info? e).map (fun i => (i.zero, i.size, i.bytes)) = some (some z, size, bytes))
  (hzs : z.cells.size = size) (hsz : 0 < size)
  (v : Value) (n m c : Nat) (xs : List Value) (hs : a.eval s = v) (hown : w.ownsRow base e size v n xs)
  (us : Array Value) (hus : us.size = m * size) (h1 : ∀ u ∈ us.toList, u.oneCell' = true) (hx : a.eval x = .slice (some ⟨w.heap.size, 0, none⟩) m c)
  (hbytes : (n + m) * bytes ≤ 140737488355328) (hby : 0 < bytes) (hbase : base ≤ w.heap.size)
  (h : ∀ v' w', w'.ownsRow base e size v' (n + m) (xs ++ us.toList) → (∀ W, W.heap.size ≤ base → Grew W w → Grew W w') → K (a.put o.dst v') w') :
  if Region.wanted o (yielded ops a.tmps) = true then Oper.wp P o a (w.alloc (.cells us e)).drew K Q else E := by
 have hw : Region.wanted o (yielded ops a.tmps) = true := by simp [Region.wanted, hg]
 rw [if_pos hw]
 have h63 : n + m ≤ maxLen := by
  have : (n + m) * 1 ≤ (n + m) * bytes := Nat.mul_le_mul_left _ hby
  simp only [maxLen]; omega
 obtain ⟨i, hi, hz, hsize, hbyt⟩ := info_parts hi
 have hown' : (w.alloc (.cells us e)).drew.ownsRow base e size v n xs := hown.alloc _
 have hnews : ∀ j u, us.toList[j]? = some u → (w.alloc (.cells us e)).drew.cell? ((⟨w.heap.size, 0, none⟩ : Addr).add j) = some u := by
  intro j u hu
  have hadd : (⟨w.heap.size, 0, none⟩ : Addr).add j = ⟨w.heap.size, j, none⟩ := by unfold Addr.add; split <;> simp_all
  rw [hadd]
  exact (cell_of_row (w.alloc (.cells us e)) w.heap.size j us e (0, 0) (heap_alloc_new w _)).trans (by simpa using hu)
 have hb' : base ≤ (w.alloc (.cells us e)).drew.heap.size := by simp; omega
 obtain ⟨v', w', hr, h2, h3, h4⟩ := run_append_own (P := P) (w.alloc (.cells us e)).drew base t o.type e i z size bytes ht hi hz hsize hbyt hzs hsz v n xs hown' ⟨w.heap.size, 0, none⟩ m c us.toList (by simpa using hus) hnews h1 h63 hbytes hb'
 have hd := drawn_append (P := P) (w.alloc (.cells us e)).drew base t o.type e i z size bytes ht hi hz hsize hbyt hsz v n xs hown' ⟨w.heap.size, 0, none⟩ m c us.toList (by simpa using hus) hnews h1 h63 hbytes v' w' hr
 unfold Oper.wp execOp
 simp only [ho, resolve, invoke, builtin, Sem.run_bind, Sem.run_pure, Result.andThen_ok, List.map_toArray, List.map_cons, List.map_nil, hs, hx, hr]
 exact h v' w' h2 fun W hW hG => ((hG.alloc _).drew).grown h3 hd fun k hk => Nat.le_trans hW (hown.lt k hk).1
end
theorem dig_half_lo (N k : Nat) : dig 65536 N (2 * k) = dig 4294967296 N k % 65536 := by
 unfold dig
 rw [show (4294967296 : Nat) = 65536 ^ 2 from rfl, ← Nat.pow_mul]
 rw [Nat.mod_mod_of_dvd _ (by exact ⟨65536, rfl⟩)]
theorem dig_half_hi (N k : Nat) : dig 65536 N (2 * k + 1) = dig 4294967296 N k / 65536 := by
 unfold dig
 rw [show (4294967296 : Nat) = 65536 ^ 2 from rfl, ← Nat.pow_mul, Nat.pow_succ, ← Nat.div_div_eq_div_mul]
 generalize N / 65536 ^ (2 * k) = x
 rw [show (65536 ^ 2 : Nat) = 65536 * 65536 from rfl, Nat.mod_mul_right_div_self]
theorem dvals_half (N k : Nat) : dvals 65536 .u64 N (2 * (k + 1)) = dvals 65536 .u64 N (2 * k) ++ [.int .u64 ((dig 4294967296 N k % 65536 : Nat) : Int), .int .u64 ((dig 4294967296 N k / 65536 : Nat) : Int)] := by
 rw [show 2 * (k + 1) = 2 * k + 1 + 1 from by omega, dvals_succ, dvals_succ, dig_half_hi, dig_half_lo, List.append_assoc]
 rfl
theorem wrap_lo (x : Nat) (h : x < 4294967296) : IntKind.u64.wrap ((x : Int).tmod 65536) = ((x % 65536 : Nat) : Int) := by
 rw [Int.tmod_eq_emod_of_nonneg (by omega), IntWalk.u64_in _ ⟨by omega, by omega⟩]; omega
theorem wrap_hi (x : Nat) (h : x < 4294967296) : IntKind.u64.wrap (IntKind.u32.wrap ((x : Int) / 65536)) = ((x / 65536 : Nat) : Int) := by
 rw [IntWalk.u32_in _ ⟨by omega, by omega⟩, IntWalk.u64_in _ ⟨by omega, by omega⟩]; omega
theorem pow_half (k : Nat) : 4294967296 ^ k = 65536 ^ (2 * k) := by rw [Nat.pow_mul]
set_option maxHeartbeats 4000000 in
theorem rhalf_any (va : Value) (N n : Nat) (w : World) (ha : Num 4294967296 .u32 w va N n) (hsz : n < 1099511627776) :
  Calls Tryz.prog 135 #[va] w fun e w' => ∃ v, e = .returned v ∧ Num 65536 .u64 w' v N (len 65536 N) ∧ Grew w w' := by
 obtain ⟨A, ca, rfl, a1, a2, a3, a4⟩ := id ha
 have hN2 := hZ (show N < 65536 ^ (2 * n) by rw [← pow_half]; exact a3)
 clear a3 ha
 go_enter Tryz.func135, Tryz.ntmps135
 go_wp2_with fail
 go_loopg [3, 4] n (fun gk out i wr => ∃ j : Nat, gk + j = n ∧ i = .int .i64 j ∧ wr.ownsRow w.heap.size 136 1 out (2 * j) (dvals 65536 .u64 N (2 * j)) ∧ Grew w wr)
 case atStart => exact ⟨0, rfl, rfl, World.ownsRow_nil _ _ _ _, Grew.refl _⟩
 case round =>
  obtain ⟨j, hj, rfl, hown, hG⟩ := hrel
  by_cases hlt : j < n
  ·obtain ⟨ba, oa, rfl, hca⟩ := a4 (by omega)
   have hcx := hG.cell (hca j (by omega))
   have hx := dig_lt (B := 4294967296) (by omega) N j
   have hsucc := hZ (dvals_half N j)
   have q1 := hZ hG
   have q2 := hZ hown
   have hcw := hZ (hca j hlt)
   have hsz1 := hG.size
   clear hG hown hca
   generalize dig 4294967296 N j = x at *
   go_wp2_with fail
   go_region_held3 (fun w' => w'.cell? ⟨ba, oa + j, none⟩ = some (.int .u32 (x : Int)))
    (first | (with_reducible exact q1.out.drew.cell hcw.out) | (with_reducible exact (q1.out.alloc _).drew.cell hcw.out) | (with_reducible exact (hG1 _ (Nat.le_refl _) q1.out).cell hcw.out))
    (first | (refine step_appN rfl (.tmp 11) (.tmp 24) 141 rfl w.heap.size 136 (.int .u64 0) 1 8 Tryz.underlying141 info_u64 rfl (by omega) _ (2 * j) 2 2 _ rfl q2.out _ rfl (by simp [Value.oneCell']) rfl (by omega) (by omega) hsz1 ?_; intro v1 w1 hown1 hG1))
   go_wp2_with fail
   go_roundg (gk - 1)
   case rel => exact ⟨j + 1, by omega, by go_num, by rw [hsucc.out, ← wrap_lo x hx, ← wrap_hi x hx]; exact hown1, hG1 _ (Nat.le_refl _) q1.out⟩
   case measure => omega
  ·obtain rfl : j = n := by omega
   have hnum := Num.of_own hown hN2.out
   obtain ⟨D, cd, rfl, d1, d2, d3, d4⟩ := id hnum
   replace hnum := hZ hnum
   clear d3 d4 hown
   go_wp2_with fail
   refine (rcut_any _ _ _ _ hnum.out).mono ?_
   rintro e w' ⟨v', rfl, hv', rfl⟩
   replace hv' := hZ hv'
   go_wp2_with fail
   go_ret
   exact ⟨_, rfl, hv'.out, hG⟩
theorem dig_words (N k : Nat) : dig 4294967296 N k = dig 65536 N (2 * k) + dig 65536 N (2 * k + 1) * 65536 := by
 rw [dig_half_lo, dig_half_hi]; omega
theorem len_half (N : Nat) : len 4294967296 N = (len 65536 N + 1) / 2 := by
 have e : ∀ k, len 4294967296 N ≤ k ↔ len 65536 N ≤ 2 * k := fun k => by
  rw [len_le_iff (by omega), len_le_iff (by omega), pow_half]
 have h1 := (e ((len 65536 N + 1) / 2)).2 (by omega)
 have h2 := (e (len 4294967296 N)).1 (Nat.le_refl _)
 omega
set_option maxHeartbeats 4000000 in
theorem rwords_any (va : Value) (N n : Nat) (w : World) (ha : Num 65536 .u64 w va N n) (hsz : n < 1099511627776) :
  Calls Tryz.prog 139 #[va] w fun e w' => ∃ v, e = .returned v ∧ Num 4294967296 .u32 w' v N (len 4294967296 N) ∧ Grew w w' := by
 obtain ⟨A, ca, rfl, a1, a2, a3, a4⟩ := id ha
 have hN := lt_len (B := 65536) (by omega) N
 have hl := hZ (len_half N)
 have hln := ha.len_le (by omega)
 have hN2 := hZ (lt_len (B := 4294967296) (by omega) N)
 replace ha := hZ ha
 clear a3
 go_enter Tryz.func139, Tryz.ntmps139
 go_wp2_with fail
 refine (rcut_any _ _ _ _ ha.out).mono ?_
 rintro e w' ⟨v', rfl, hv', rfl⟩
 obtain ⟨D, cd, rfl, -⟩ := id hv'
 generalize hL : len 65536 N = L at *
 replace hL := hZ hL
 replace hN := hZ hN
 clear hv' ha
 go_wp2_with fail
 go_loopg [3, 5] ((L + 1) / 2) (fun gk out i wr => ∃ j : Nat, gk + j = (L + 1) / 2 ∧ i = .int .i64 ((2 * j : Nat) : Int) ∧ wr.ownsRow w.heap.size 107 1 out j (dvals 4294967296 .u32 N j) ∧ Grew w wr)
 case atStart => exact ⟨0, rfl, rfl, World.ownsRow_nil _ _ _ _, Grew.refl _⟩
 case round =>
  obtain ⟨j, hj, rfl, hown, hG⟩ := hrel
  by_cases hlt : 2 * j < L
  ·obtain ⟨ba, oa, rfl, hca⟩ := a4 (by omega)
   have hcx := hG.cell (hca (2 * j) (by omega))
   have hx := dig_lt (B := 65536) (by omega) N (2 * j)
   have hy := dig_lt (B := 65536) (by omega) N (2 * j + 1)
   have hsucc := hZ (dvals_succ 4294967296 .u32 N j)
   have hdw := hZ (dig_words N j)
   have hsz1 := hG.size
   have q1 := hZ hG
   have q2 := hZ hown
   have hgk := hZ (show gk - 1 + (j + 1) = (L + 1) / 2 by omega)
   have hgl := hZ (show gk - 1 < gk by omega)
   by_cases hl2 : 2 * j + 1 < L
   ·have hcy := hG.cell (hca (2 * j + 1) (by omega))
    clear hG hown hca
    generalize dig 65536 N (2 * j) = x at *
    generalize dig 65536 N (2 * j + 1) = y at *
    generalize hi2 : 2 * j = i at *
    replace hi2 := hZ hi2
    go_wp2_with (first | fail | (at_builtin; refine wpList_app1 _ rfl (.tmp 31) (.tmp 34) 29 rfl w.heap.size 107 (.int .u32 0) 1 4 Tryz.underlying29 info_u32 rfl (by omega) _ j _ rfl q2.out _ rfl (by simp [Value.oneCell']) rfl (by omega) (by omega) hsz1 ?_; intro v1 w2 hown1 hG2))
    go_roundg (gk - 1)
    case rel => exact ⟨j + 1, hgk.out, by rw [show 2 * (j + 1) = i + 2 from by have := hi2.out; omega]; go_num, by rw [hsucc.out, hdw.out]; exact hown1, hG2 _ (Nat.le_refl _) q1.out⟩
    case measure => exact hgl.out
   ·have hz : dig 65536 N (2 * j + 1) = 0 := dig_zero_of_lt (by omega) hN.out (by omega)
    have hd2 : dig 4294967296 N j = dig 65536 N (2 * j) := by rw [dig_words, hz, Nat.zero_mul, Nat.add_zero]
    replace hd2 := hZ hd2
    clear hdw hG hown hca hy hz
    generalize dig 65536 N (2 * j) = x at *
    generalize hi2 : 2 * j = i at *
    replace hi2 := hZ hi2
    have hl3 : L = i + 1 := by omega
    clear hl2
    subst hl3
    have hll : (i : Int) < (i : Int) + 1 := by omega
    go_wp2_with (first | fail | (at_builtin; refine wpList_app1 _ rfl (.tmp 31) (.tmp 34) 29 rfl w.heap.size 107 (.int .u32 0) 1 4 Tryz.underlying29 info_u32 rfl (by omega) _ j _ rfl q2.out _ rfl (by simp [Value.oneCell']) rfl (by omega) (by omega) hsz1 ?_; intro v1 w2 hown1 hG2))
    go_roundg (gk - 1)
    case rel => exact ⟨j + 1, hgk.out, by rw [show 2 * (j + 1) = i + 2 from by have := hi2.out; omega]; go_num, by rw [hsucc.out, hd2.out]; exact hown1, hG2 _ (Nat.le_refl _) q1.out⟩
    case measure => exact hgl.out
  ·have hjl : j = (L + 1) / 2 := by omega
   have hle : len 4294967296 N = j := by rw [hl.out, hjl]
   have hnum := Num.of_own hown (by rw [← hle]; exact hN2.out)
   rw [← hle] at hnum
   replace hnum := hZ hnum
   replace hG := hZ hG
   clear hown hle hjl
   go_wp2_with fail
   go_ret
   exact ⟨_, rfl, hnum.out, hG.out⟩
end Go.Proofs.YtmommicmblfibaaGreat
