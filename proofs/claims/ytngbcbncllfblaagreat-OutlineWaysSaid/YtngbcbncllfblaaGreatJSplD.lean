/- split.row at edges and at spots. Condition: fewer than 2^26 words, at most 2^40 elements. append of elements that the walk has laid into a block of their own, to a row that a call owns. Conditions: none. split.Row, split.Ends. Condition: what comes in reads; fewer than 2^26 words, at most 2^39 edges. r18.put: one more edge, in its place, once. Condition: what comes in reads; fewer than 2^26 words, at most 2^39 edges. -/
import Derived.Test.YtngbcbncllfblaaGreatJSplA
import Derived.Test.YtngbcbncllfblaaGreatJSortK
import Derived.Test.YtngbcbncllfblaaGreatSortE
import Derived.Test.YtngbcbncllfblaaGreatJGrowE
import Derived.Test.YtngbcbncllfblaaGreatJRow1
import Derived.Test.YtngbcbncllfblaaGreatJElE
import Derived.Deep.LoopGhost
import Derived.Deep.RegionHeld3
namespace Go.Proofs.YtngbcbncllfblaaGreat
open Go.RowKit

set_option maxRecDepth 100000 in
set_option maxHeartbeats 8000000 in
theorem erow1_any (us vs : Array Value) (x y : EdgeQ) (k : Nat) (w : World) (B : Nat) (ha : EdgeR k w us x) (hb : EdgeR k w vs y) (hB : w.cell? ⟨B, 0, none⟩ = some (.func (.func 68) #[] #[])) (hk : 1 ≤ k) (hs : k < 67108864) :
    Calls Tryz.prog 136 (#[.agg us, .agg vs] ++ #[.pointer (some ⟨B, 0, none⟩)]) w fun e w' => e = .returned (.bool (decide (x = y))) ∧ Grew w w' := by
  show Calls Tryz.prog 136 #[.agg us, .agg vs, .pointer (some ⟨B, 0, none⟩)] w _
  have hz : (edgeCmp x y == 0) = decide (x = y) := by
    rw [Bool.eq_iff_iff, beq_iff_eq, decide_eq_true_eq]; exact ord_edge.zero x y
  obtain ⟨cc, hcc⟩ : ∃ cc, edgeCmp x y = cc := ⟨_, rfl⟩
  rw [hcc] at hz
  replace hcc := Lib.hid hcc
  obtain ⟨dd, hdd⟩ : ∃ dd, decide (x = y) = dd := ⟨_, rfl⟩
  rw [hdd] at hz ⊢
  replace hz := Lib.hid hz
  clear hdd
  obtain ⟨b1, A1, n1, c1, C1, m1, d1, b2, A2, n2, c2, C2, m2, d2, b3, A3, n3, c3, C3, m3, d3, b4, A4, n4, c4, C4, m4, d4, rfl, -, -⟩ := ha.laid
  obtain ⟨b5, A5, n5, c5, C5, m5, d5, b6, A6, n6, c6, C6, m6, d6, b7, A7, n7, c7, C7, m7, d7, b8, A8, n8, c8, C8, m8, d8, rfl, -, -⟩ := hb.laid
  go_enter Tryz.func136, Tryz.ntmps136
  go_upto_region 1 with fail
  refine gen_wp ?_
  intro W1 hW1
  have P0 : W1.cell? ⟨w.heap.size, 0, none⟩ = some (.bool b1) := by rw [hW1]; simp [go_sem]
  have P1 : W1.cell? ⟨w.heap.size, 1, none⟩ = some (.slice A1 n1 c1) := by rw [hW1]; simp [go_sem]
  have P2 : W1.cell? ⟨w.heap.size, 2, none⟩ = some (.slice C1 m1 d1) := by rw [hW1]; simp [go_sem]
  have P3 : W1.cell? ⟨w.heap.size, 3, none⟩ = some (.bool b2) := by rw [hW1]; simp [go_sem]
  have P4 : W1.cell? ⟨w.heap.size, 4, none⟩ = some (.slice A2 n2 c2) := by rw [hW1]; simp [go_sem]
  have P5 : W1.cell? ⟨w.heap.size, 5, none⟩ = some (.slice C2 m2 d2) := by rw [hW1]; simp [go_sem]
  have P6 : W1.cell? ⟨w.heap.size, 6, none⟩ = some (.bool b3) := by rw [hW1]; simp [go_sem]
  have P7 : W1.cell? ⟨w.heap.size, 7, none⟩ = some (.slice A3 n3 c3) := by rw [hW1]; simp [go_sem]
  have P8 : W1.cell? ⟨w.heap.size, 8, none⟩ = some (.slice C3 m3 d3) := by rw [hW1]; simp [go_sem]
  have P9 : W1.cell? ⟨w.heap.size, 9, none⟩ = some (.bool b4) := by rw [hW1]; simp [go_sem]
  have P10 : W1.cell? ⟨w.heap.size, 10, none⟩ = some (.slice A4 n4 c4) := by rw [hW1]; simp [go_sem]
  have P11 : W1.cell? ⟨w.heap.size, 11, none⟩ = some (.slice C4 m4 d4) := by rw [hW1]; simp [go_sem]
  have Q0 : W1.cell? ⟨w.heap.size + 1, 0, none⟩ = some (.bool b5) := by rw [hW1]; simp [go_sem]
  have Q1 : W1.cell? ⟨w.heap.size + 1, 1, none⟩ = some (.slice A5 n5 c5) := by rw [hW1]; simp [go_sem]
  have Q2 : W1.cell? ⟨w.heap.size + 1, 2, none⟩ = some (.slice C5 m5 d5) := by rw [hW1]; simp [go_sem]
  have Q3 : W1.cell? ⟨w.heap.size + 1, 3, none⟩ = some (.bool b6) := by rw [hW1]; simp [go_sem]
  have Q4 : W1.cell? ⟨w.heap.size + 1, 4, none⟩ = some (.slice A6 n6 c6) := by rw [hW1]; simp [go_sem]
  have Q5 : W1.cell? ⟨w.heap.size + 1, 5, none⟩ = some (.slice C6 m6 d6) := by rw [hW1]; simp [go_sem]
  have Q6 : W1.cell? ⟨w.heap.size + 1, 6, none⟩ = some (.bool b7) := by rw [hW1]; simp [go_sem]
  have Q7 : W1.cell? ⟨w.heap.size + 1, 7, none⟩ = some (.slice A7 n7 c7) := by rw [hW1]; simp [go_sem]
  have Q8 : W1.cell? ⟨w.heap.size + 1, 8, none⟩ = some (.slice C7 m7 d7) := by rw [hW1]; simp [go_sem]
  have Q9 : W1.cell? ⟨w.heap.size + 1, 9, none⟩ = some (.bool b8) := by rw [hW1]; simp [go_sem]
  have Q10 : W1.cell? ⟨w.heap.size + 1, 10, none⟩ = some (.slice A8 n8 c8) := by rw [hW1]; simp [go_sem]
  have Q11 : W1.cell? ⟨w.heap.size + 1, 11, none⟩ = some (.slice C8 m8 d8) := by rw [hW1]; simp [go_sem]
  have G1 : Grew w W1 := by rw [hW1]; exact ((Grew.refl w).alloc _).alloc _
  have hB1 := G1.cell hB
  have ha1 := Lib.hid (edgeR_kept ha G1.keeps)
  have hb1 := Lib.hid (edgeR_kept hb G1.keeps)
  replace G1 := Lib.hid G1
  clear hW1 ha hb hB
  go_wp2_with fail
  refine (ecmp_any _ _ x y k _ ha1.out hb1.out hk hs).mono ?_
  rintro e w2 ⟨rfl, g2⟩
  rw [hcc.out]
  have gE := Lib.hid (G1.out.trans g2)
  clear g2 G1 ha1 hb1 hB1 P0 Q0 P1 Q1 P2 Q2 P3 Q3 P4 Q4 P5 Q5 P6 Q6 P7 Q7 P8 Q8 P9 Q9 P10 Q10 P11 Q11
  go_wp2_with fail
  go_ret
  exact ⟨by rw [← hz.out]; rfl, gE.out⟩

set_option maxRecDepth 100000 in
set_option maxHeartbeats 8000000 in
theorem erow_any (base : Nat) (v : Value) (l : List EdgeQ) (k : Nat) (w : World) (hO : OwnK 12 Edge12R 84 w base v l) (hq : ∀ x ∈ l, EB k x) (hk : 1 ≤ k) (hs : k < 67108864) (hl : l.length ≤ 1099511627776) :
    Calls Tryz.prog 99 #[v, .func (.func 68) #[] #[]] w fun e w' => ∃ v', e = .returned v' ∧ OwnK 12 Edge12R 84 w' base v' (rowG edgeCmp l) ∧ ∀ W, W.heap.size ≤ base → Grew W w → Grew W w' := by
  have hlt := Lib.hid (fun g (hg : v.ownBlock = some g) => hO.lt hg)
  obtain ⟨A, c, rfl, -, -, -⟩ := hO.row
  have eg : ∀ args w, (callFunc 68 args).run Tryz.prog w = .ok (.enter 68 args) w := enters_of Tryz.func68 (by kernel_rfl) rfl
  have eg1 : ∀ args w, (callFunc 136 args).run Tryz.prog w = .ok (.enter 136 args) w := enters_of Tryz.func136 (by kernel_rfl) rfl
  have hc : ∀ (W : World) (us vs : Array Value) (x y : EdgeQ), Edge12R W us x → Edge12R W vs y → EB k x → EB k y → Calls Tryz.prog 68 (#[.agg us, .agg vs] ++ #[]) W fun e w' => e = .returned (.int .i64 (edgeCmp x y)) ∧ Grew W w' :=
    fun W us vs x y h1 h2 b1 b2 => ecmp_any us vs x y k W (edge_r h1 b1) (edge_r h2 b2) hk hs
  have hz : ∀ w : World, (Go.sizeOf 84).run Tryz.prog w = .ok 12 w := Tryz.sizeOf84
  have ht : ∀ w : World, (isAgg 84).run Tryz.prog w = .ok true w := Tryz.isAgg84
  obtain ⟨B, hBs⟩ : ∃ B, w.heap.size = B := ⟨_, rfl⟩
  have he : ∀ (W : World) (us vs : Array Value) (x y : EdgeQ), Edge12R W us x → Edge12R W vs y → EB k x → EB k y → W.cell? ⟨B, 0, none⟩ = some (.func (.func 68) #[] #[]) → Calls Tryz.prog 136 (#[.agg us, .agg vs] ++ #[.pointer (some ⟨B, 0, none⟩)]) W fun e w' => e = .returned (.bool (decide (x = y))) ∧ Grew W w' :=
    fun W us vs x y h1 h2 b1 b2 hI => erow1_any us vs x y k W B (edge_r h1 b1) (edge_r h2 b2) hI hk hs
  rw [hBs] at hlt
  replace hO := Lib.hid hO
  replace hq := Lib.hid hq
  replace hc := Lib.hid hc
  replace he := Lib.hid he
  replace hz := Lib.hid hz
  replace ht := Lib.hid ht
  replace eg := Lib.hid eg
  replace eg1 := Lib.hid eg1
  go_enter Tryz.func99, Tryz.ntmps99
  go_upto_region 1 with fail
  refine gen_wp ?_
  intro W1 hW1
  have hB1 : W1.cell? ⟨B, 0, none⟩ = some (.func (.func 68) #[] #[]) := by rw [hW1, ← hBs]; simp [go_sem]
  have G1 : Grew w W1 := by rw [hW1]; exact (Grew.refl w).alloc _
  replace hO := Lib.hid (OwnK.grew says_edge hO.out G1)
  replace G1 := Lib.hid G1
  clear hW1
  go_wp2_with fail
  refine (sort_gen (k := 12) (R := Edge12R) (B := EB k) (cf := edgeCmp) (lt := edgeLt) Tryz.sortEdge ht.out hz.out says_edge ord_edge 68 #[] eg.out hc.out base _ l 84 _ hO.out hq.out (by omega)).mono ?_
  rintro e w2 ⟨rfl, m, hm1, hm2, hm3, hO2, hcell, hG2⟩
  have hB2 := hcell B 0 _ (fun h => Nat.lt_irrefl _ (hlt.out _ h)) hB1
  have hrow := Lib.hid (compG_row ord_edge hm3 hm1)
  have hq2 := Lib.hid (fun x (hx : x ∈ m) => hq.out x ((hm1 x).1 hx))
  have hG := Lib.hid (fun (W : World) (h1 : W.heap.size ≤ base) (h2 : Grew W w) => hG2 W h1 (h2.trans G1.out))
  replace hO2 := Lib.hid hO2
  clear hcell hG2 hm1 hm3 hB1 hO
  go_wp2_with fail
  refine (compE_any (EB k) (fun W => W.cell? ⟨B, 0, none⟩ = some (.func (.func 68) #[] #[])) (fun W W' h g => g.cell h) 136 #[.pointer (some ⟨B, 0, none⟩)] eg1.out he.out base _ m _ hO2.out hq2.out (by omega) hB2 (fun g hg W W' h hw => hw.cell h (fun e => Nat.lt_irrefl B (by simp only at e; have := hlt.out g hg; omega)))).mono ?_
  rintro e w3 ⟨V3, rfl, hO3, hG3⟩
  rw [hrow.out] at hO3
  replace hO3 := Lib.hid hO3
  have hG9 := Lib.hid (fun (W : World) (h1 : W.heap.size ≤ base) (h2 : Grew W w) => hG3 W h1 (hG.out W h1 h2))
  clear hG3 hG hO2 hq2 hB2
  go_wp2_with fail
  go_ret
  exact ⟨_, rfl, hO3.out, hG9.out⟩

end Go.Proofs.YtngbcbncllfblaaGreat
namespace Go.Proofs.YtngbcbncllfblaaGreat
open Go.RowKit

section
variable {V : Type} {k : Nat} {R : World → Array Value → V → Prop} {e : TypeId} {w : World} {base : Nat} {v : Value} {l m : List V} {P : Program}
theorem app_block {w : World} {base : Nat} {t ty e : TypeId} {i : TypeInfo} {z : Value} {size bytes : Nat} (ht : P.underlying t = some (.slice e)) (hi : P.info? e = some i) (hz : i.zero = some z)
    (hsize : i.size = size) (hby : i.bytes = bytes)
    {v : Value} {n : Nat} {xs : List Value} (hown : OwnS w base e size v n xs)
    {a : Addr} {m c : Nat} {news : List Value} (hl : news.length = m * size) (hnews : ∀ j u, news[j]? = some u → w.cell? (a.add j) = some u) (h1 : ∀ u ∈ news, u.oneCell' = true)
    (h63 : n + m ≤ maxLen) (hbytes : (n + m) * bytes ≤ 140737488355328) {v' : Value} {w' : World} (hr : (Builtin.append_ #[t, t] ty #[v, .slice (some a) m c]).run P w = .ok v' w') :
    ∀ g, v'.ownBlock = some g → v.ownBlock = some g ∨ w.heap.size ≤ g := by
  obtain ⟨hown, hni⟩ := hown
  subst hsize
  subst hby
  have hsmall : n + m ≤ 9223372036854775807 := by simp only [maxLen] at h63; omega
  intro g' hg'
  rcases hown.2 with ⟨rfl, rfl⟩ | ⟨g, cap, cur, rfl, hbg, hg, hnc, hcm, hcs, htake⟩
  · by_cases hm : m = 0
    · subst hm
      have e1 : (Builtin.append_ #[t, t] ty #[.slice none 0 0, .slice (some a) 0 c]).run P w = .ok (.slice none 0 0) w := by
        simp [Builtin.append_, run_underlying ht, sizeOf, typeInfo, hi, Builtin.lenOf, Builtin.firstCells, loadCells, loadCellsFrom]
      rw [e1] at hr
      injection hr with hv _
      subst hv
      simp [Value.ownBlock] at hg'
    · have e1 := run_append_nil (P := P) w t ty e i z ht hi hz a m c news hl hnews (by omega) (by omega) (by have hb := hbytes; simp only [Nat.zero_add] at hb; omega)
      rw [e1] at hr
      injection hr with hv hw
      subst hv
      simp only [Value.ownBlock, Option.some.injEq] at hg'
      exact .inr (by rw [← hg']; simp)
  · by_cases hroom : n + m ≤ cap
    · have hfit : n * i.size + news.length ≤ cur.size := by rw [hl, hcs, ← Nat.add_mul]; exact Nat.mul_le_mul_right _ hroom
      have e1 := run_append_room (P := P) w t ty e i ht hi g n cap cur hg a m c news hl hnews h1 hroom hfit
      rw [e1] at hr
      injection hr with hv hw
      subst hv
      exact .inl hg'
    · have holds : ∀ j u, xs[j]? = some u → w.cell? ((⟨g, 0, none⟩ : Addr).add j) = some u := hown.cells (g := g) rfl
      have e1 := run_append_grow (P := P) w t ty e i z ht hi hz ⟨g, 0, none⟩ n cap xs hown.1 holds a m c news hl hnews (by omega) (by omega) (growslice_fits (by omega) hbytes)
      rw [e1] at hr
      injection hr with hv hw
      subst hv
      simp only [Value.ownBlock, Option.some.injEq] at hg'
      exact .inr (by rw [← hg']; simp)
theorem run_appK (S : Says k R) (hO : OwnK k R e w base v l) (us : Array Value) (hus : us.size = m.length * k) (h1 : ∀ u ∈ us.toList, u.oneCell' = true) (hnn : ∀ u ∈ us.toList, NoInt u) (hel : ∀ i x, m[i]? = some x → CellsR k R w (fun j => us[i * k + j]?) x)
    (t : TypeId) (z : Value) (bytes : Nat) (ht : P.underlying t = some (.slice e)) (hi : (P.info? e).map (fun i => (i.zero, i.size, i.bytes)) = some (some z, k, bytes)) (hzs : z.cells.size = k) (hsz : 0 < k) (hzn : ∀ u ∈ z.cells, NoInt u)
    (hbytes : (l.length + m.length) * bytes ≤ 140737488355328) (hby : 0 < bytes) (hbase : base ≤ w.heap.size) (ty : TypeId) :
    ∃ v' w', (Builtin.append_ #[t, t] ty #[v, .slice (some ⟨w.heap.size, 0, none⟩) m.length m.length]).run P (w.alloc (.cells us e)) = .ok v' w' ∧ OwnK k R e w' base v' (l ++ m) ∧ Keeps w w' ∧ (∀ b p u, v.ownBlock ≠ some b → w.cell? ⟨b, p, none⟩ = some u → w'.cell? ⟨b, p, none⟩ = some u) ∧ (∀ g, v'.ownBlock = some g → v.ownBlock = some g ∨ w.heap.size ≤ g) ∧ ∀ W, W.heap.size ≤ base → Grew W w → Grew W w' := by
  obtain ⟨i, hi, hz, hsize, hbyt⟩ := info_parts hi
  obtain ⟨xs, hown, hF⟩ := hO.ownS
  have h63 : l.length + m.length ≤ maxLen := by
    have : (l.length + m.length) * 1 ≤ (l.length + m.length) * bytes := Nat.mul_le_mul_left _ hby
    simp only [maxLen]; omega
  have hnews : ∀ j u, us.toList[j]? = some u → (w.alloc (.cells us e)).cell? ((⟨w.heap.size, 0, none⟩ : Addr).add j) = some u := by
    intro j u hu
    have hadd : (⟨w.heap.size, 0, none⟩ : Addr).add j = ⟨w.heap.size, j, none⟩ := by unfold Addr.add; split <;> simp_all
    rw [hadd, cell_of_row _ w.heap.size j us e (0, 0) (heap_alloc_new w _)]
    simpa using hu
  have hown' : OwnS (w.alloc (.cells us e)) base e k v l.length xs := by
    refine ⟨hown.1.alloc _, fun g hg p u hu => ?_⟩
    have hlt := (hown.1.lt g hg).2
    rw [World.cell?_of_block (w := w) (Below.heap_alloc w _ g hlt)] at hu
    exact hown.2 g hg p u hu
  obtain ⟨v', w', hr, h2, h3, hd, h4⟩ := run_appS (P := P) (w.alloc (.cells us e)) base t ty e i z k bytes ht hi hz hsize hbyt hzs hsz hzn v l.length xs hown' ⟨w.heap.size, 0, none⟩ m.length m.length us.toList (by simpa using hus) hnews h1 hnn h63 hbytes (by simp; omega)
  have hK : Keeps w w' := ((Grew.refl w).alloc _).keeps.trans h4
  refine ⟨v', w', hr, OwnK.of_ownS (xs := xs ++ us.toList) (by rw [List.length_append]; exact h2) fun j y hy => ?_, hK, fun b p u hb hu => h3.cell (((Grew.refl w).alloc _).cell hu) (fun e => hb e.symm), fun g hg => (app_block ht hi hz hsize hbyt hown' (by simpa using hus) hnews h1 h63 hbytes hr g hg).imp id (fun h => Nat.le_trans (by simp) h), fun W hW hG => (hG.alloc _).grown h3 hd fun b hb => Nat.le_trans hW (hown.1.lt b hb).1⟩
  have hxl : xs.length = l.length * k := hown.1.1
  by_cases hj : j < l.length
  · rw [List.getElem?_append_left hj] at hy
    refine (hF j y hy).mono S hK fun c u hc hu => ?_
    have := idx_lt hj hc
    rw [List.getElem?_append_left (by omega)]; exact hu
  · rw [List.getElem?_append_right (by omega)] at hy
    refine (hel _ y hy).mono S hK fun c u hc hu => ?_
    have e1 : j * k + c = l.length * k + ((j - l.length) * k + c) := by
      rw [← Nat.add_assoc, ← Nat.add_mul, show l.length + (j - l.length) = j by omega]
    rw [e1, List.getElem?_append_right (by omega), show l.length * k + ((j - l.length) * k + c) - xs.length = (j - l.length) * k + c by omega, Array.getElem?_toList]; exact hu
theorem cells_one (S : Says k R) {us : Array Value} {x : V} (h : R w us x) : us.size = [x].length * k ∧ (∀ u ∈ us.toList, u.oneCell' = true) ∧ (∀ u ∈ us.toList, NoInt u) ∧ ∀ i y, [x][i]? = some y → CellsR k R w (fun j => us[i * k + j]?) y := by
  refine ⟨by simp [S.size h], S.one h, S.noint h, fun i y hy => ?_⟩
  have hi := (List.getElem?_eq_some_iff.1 hy).1
  obtain rfl : i = 0 := by simp at hi; omega
  obtain rfl : x = y := by simpa using hy
  exact ⟨us, fun j hj => by dsimp only; rw [Nat.zero_mul, Nat.zero_add], h⟩
theorem wp_appK {o : Oper} {a : Act} {K : Act → World → Prop} {Q : Exit → Act → World → Prop} (s x : Operand) (t : TypeId) (ho : o.op = .call { callee := .builtin .append, args := #[s, x], argTypes := #[t, t] }) (hs : a.eval s = v)
    (S : Says k R) (hO : OwnK k R e w base v l) (us : Array Value) (hc : us.size = m.length * k ∧ (∀ u ∈ us.toList, u.oneCell' = true) ∧ (∀ u ∈ us.toList, NoInt u) ∧ ∀ i x, m[i]? = some x → CellsR k R w (fun j => us[i * k + j]?) x) (hx : a.eval x = .slice (some ⟨w.heap.size, 0, none⟩) m.length m.length)
    (z : Value) (bytes : Nat) (ht : P.underlying t = some (.slice e)) (hi : (P.info? e).map (fun i => (i.zero, i.size, i.bytes)) = some (some z, k, bytes)) (hzs : z.cells.size = k) (hsz : 0 < k) (hzn : ∀ u ∈ z.cells, NoInt u)
    (hbytes : (l.length + m.length) * bytes ≤ 140737488355328) (hby : 0 < bytes) (hbase : base ≤ w.heap.size)
    (h : ∀ v' w', OwnK k R e w' base v' (l ++ m) → Keeps w w' → (∀ b p u, v.ownBlock ≠ some b → w.cell? ⟨b, p, none⟩ = some u → w'.cell? ⟨b, p, none⟩ = some u) → (∀ g, v'.ownBlock = some g → v.ownBlock = some g ∨ w.heap.size ≤ g) → (∀ W, W.heap.size ≤ base → Grew W w → Grew W w') → K (a.put o.dst v') w') : Oper.wp P o a (w.alloc (.cells us e)) K Q := by
  obtain ⟨v', w', hr, h1, h2, h9, h8, h3⟩ := run_appK S hO us hc.1 hc.2.1 hc.2.2.1 hc.2.2.2 t z bytes ht hi hzs hsz hzn hbytes hby hbase o.type
  unfold Oper.wp execOp
  simp only [ho, resolve, invoke, builtin, Sem.run_bind, Sem.run_pure, Result.andThen_ok, List.map_toArray, List.map_cons, List.map_nil, hs, hx, hr]
  exact h v' w' h1 h2 h9 h8 h3
theorem wpList_appK {ops : Array Oper} {rest : List Oper} {o : Oper} {a : Act} {Q : Exit → Act → World → Prop} (hgd : o.guard = none) (s x : Operand) (t : TypeId) (ho : o.op = .call { callee := .builtin .append, args := #[s, x], argTypes := #[t, t] }) (hs : a.eval s = v)
    (S : Says k R) (hO : OwnK k R e w base v l) (us : Array Value) (hc : us.size = m.length * k ∧ (∀ u ∈ us.toList, u.oneCell' = true) ∧ (∀ u ∈ us.toList, NoInt u) ∧ ∀ i x, m[i]? = some x → CellsR k R w (fun j => us[i * k + j]?) x) (hx : a.eval x = .slice (some ⟨w.heap.size, 0, none⟩) m.length m.length)
    (z : Value) (bytes : Nat) (ht : P.underlying t = some (.slice e)) (hi : (P.info? e).map (fun i => (i.zero, i.size, i.bytes)) = some (some z, k, bytes)) (hzs : z.cells.size = k) (hsz : 0 < k) (hzn : ∀ u ∈ z.cells, NoInt u)
    (hbytes : (l.length + m.length) * bytes ≤ 140737488355328) (hby : 0 < bytes) (hbase : base ≤ w.heap.size)
    (h : ∀ v' w', OwnK k R e w' base v' (l ++ m) → Keeps w w' → (∀ b p u, v.ownBlock ≠ some b → w.cell? ⟨b, p, none⟩ = some u → w'.cell? ⟨b, p, none⟩ = some u) → (∀ g, v'.ownBlock = some g → v.ownBlock = some g ∨ w.heap.size ≤ g) → (∀ W, W.heap.size ≤ base → Grew W w → Grew W w') → wpList P ops Q rest (a.put o.dst v') w') : wpList P ops Q (o :: rest) a (w.alloc (.cells us e)) := by
  refine wpList_plain hgd fun _ hK => ?_
  exact wp_appK s x t ho hs S hO us hc hx z bytes ht hi hzs hsz hzn hbytes hby hbase fun v' w' h1 h2 h9 h8 h3 => hK _ _ (h v' w' h1 h2 h9 h8 h3)
end
/-- The world has grown, and a block holds these cells. -/
def LocN (w : World) (D : Nat) (us : List Value) (wv : World) : Prop := Grew w wv ∧ ∀ j u, us[j]? = some u → wv.cell? ⟨D, j, none⟩ = some u
theorem LocN.trans {w a b : World} {D : Nat} {us : List Value} (h : LocN w D us a) (g : Grew a b) : LocN w D us b := ⟨h.1.trans g, fun j u hu => g.cell (h.2 j u hu)⟩
theorem LocN.drew {w a : World} {D : Nat} {us : List Value} (h : LocN w D us a) : LocN w D us a.drew := h.trans ((Grew.refl a).drew)
theorem LocN.alloc {w a : World} {D : Nat} {us : List Value} (h : LocN w D us a) (o : Obj) : LocN w D us (a.alloc o) := h.trans ((Grew.refl a).alloc o)
end Go.Proofs.YtngbcbncllfblaaGreat
namespace Go.Proofs.YtngbcbncllfblaaGreat
open Go.RowKit

theorem info_edge : (Tryz.prog.info? 84).map (fun i => (i.zero, i.size, i.bytes)) = some (some (Value.agg #[.bool false, .slice none 0 0, .slice none 0 0, .bool false, .slice none 0 0, .slice none 0 0, .bool false, .slice none 0 0, .slice none 0 0, .bool false, .slice none 0 0, .slice none 0 0]), 12, 224) := by kernel_rfl
theorem make_edges (c : Nat) (hc : c ≤ 1099511627776) (u : World) : (Instr.makeSlice 36 (.int .i64 0) (.int .i64 (c : Int))).run Tryz.prog u =
    .ok (.slice (some ⟨u.heap.size, 0, none⟩) 0 c) (u.alloc (.cells (madeCells (Value.agg #[.bool false, .slice none 0 0, .slice none 0 0, .bool false, .slice none 0 0, .slice none 0 0, .bool false, .slice none 0 0, .slice none 0 0, .bool false, .slice none 0 0, .slice none 0 0]).cells (c * 12)) 84)) := by
  obtain ⟨i0, hi, hz0, hz1, hz2⟩ := info_parts info_edge
  have h := run_make (P := Tryz.prog) u 36 84 i0 _ Tryz.underlying36 hi hz0 .i64 .i64 (0 : Int) (c : Int) (by omega) (by omega) (by rw [hz2]; omega) (by omega)
  rw [hz1] at h
  simpa using h
/-- The cells of an edge, written out. -/
theorem cellsE {k : Nat} {w : World} {c : Nat → Option Value} {x : EdgeQ} (h : CellsR 12 (EdgeR k) w c x) :
    ∃ b1 A1 n1 c1 C1 m1 d1 b2 A2 n2 c2 C2 m2 d2 b3 A3 n3 c3 C3 m3 d3 b4 A4 n4 c4 C4 m4 d4, (c 0 = some (.bool b1) ∧ c 1 = some (.slice A1 n1 c1) ∧ c 2 = some (.slice C1 m1 d1) ∧ c 3 = some (.bool b2) ∧ c 4 = some (.slice A2 n2 c2) ∧ c 5 = some (.slice C2 m2 d2) ∧ c 6 = some (.bool b3) ∧ c 7 = some (.slice A3 n3 c3) ∧ c 8 = some (.slice C3 m3 d3) ∧ c 9 = some (.bool b4) ∧ c 10 = some (.slice A4 n4 c4) ∧ c 11 = some (.slice C4 m4 d4)) ∧ Hid (EdgeR k w #[.bool b1, .slice A1 n1 c1, .slice C1 m1 d1, .bool b2, .slice A2 n2 c2, .slice C2 m2 d2, .bool b3, .slice A3 n3 c3, .slice C3 m3 d3, .bool b4, .slice A4 n4 c4, .slice C4 m4 d4] x) := by
  obtain ⟨us, h1, h2⟩ := h
  obtain ⟨b1, A1, n1, c1, C1, m1, d1, b2, A2, n2, c2, C2, m2, d2, b3, A3, n3, c3, C3, m3, d3, b4, A4, n4, c4, C4, m4, d4, rfl, -, -⟩ := EdgeR.laid h2
  exact ⟨b1, A1, n1, c1, C1, m1, d1, b2, A2, n2, c2, C2, m2, d2, b3, A3, n3, c3, C3, m3, d3, b4, A4, n4, c4, C4, m4, d4, ⟨h1 0 (by omega), h1 1 (by omega), h1 2 (by omega), h1 3 (by omega), h1 4 (by omega), h1 5 (by omega), h1 6 (by omega), h1 7 (by omega), h1 8 (by omega), h1 9 (by omega), h1 10 (by omega), h1 11 (by omega)⟩, h2⟩
set_option maxRecDepth 100000 in
set_option maxHeartbeats 16000000 in
theorem xrow_any (v : Value) (l : List EdgeQ) (k : Nat) (w : World) (hr : RowK 12 (EdgeR k) w v l) (hq : ∀ x ∈ l, EB k x) (hk : 1 ≤ k) (hs : k < 67108864) (hl : l.length ≤ 549755813888) :
    Calls Tryz.prog 52 #[v] w fun e w' => ∃ v', e = .returned v' ∧ RowK 12 Edge12R w' v' (rowG edgeCmp l) ∧ Grew w w' := by
  obtain ⟨A, c, rfl, h1, h2, h3⟩ := hr
  obtain ⟨L, hL⟩ : ∃ L, l.length = L := ⟨_, rfl⟩
  rw [hL] at h1 hl h3
  rw [hL]
  have hm : L ≤ 9223372036854775807 := by omega
  replace h3 := Lib.hid h3
  replace hq := Lib.hid hq
  have hmk := make_edges (L) (by omega) w
  have hO0 := Lib.hid (OwnK.made 12 Edge12R 84 w w.heap.size (L) (Nat.le_refl _) (by unfold maxLen; omega) _ (madeK_mem (z := (Value.agg #[.bool false, .slice none 0 0, .slice none 0 0, .bool false, .slice none 0 0, .slice none 0 0, .bool false, .slice none 0 0, .slice none 0 0, .bool false, .slice none 0 0, .slice none 0 0])) (k := 12) rfl (by omega) (n := L * 12) znoE) (size_madeCells _ _))
  have hG0 := Lib.hid ((Grew.refl w).alloc (.cells (madeCells (Value.agg #[.bool false, .slice none 0 0, .slice none 0 0, .bool false, .slice none 0 0, .slice none 0 0, .bool false, .slice none 0 0, .slice none 0 0, .bool false, .slice none 0 0, .slice none 0 0]).cells (L * 12)) 84))
  generalize w.alloc (.cells (madeCells (Value.agg #[.bool false, .slice none 0 0, .slice none 0 0, .bool false, .slice none 0 0, .slice none 0 0, .bool false, .slice none 0 0, .slice none 0 0, .bool false, .slice none 0 0, .slice none 0 0]).cells (L * 12)) 84) = W1 at hmk hO0 hG0
  go_enter Tryz.func52, Tryz.ntmps52
  go_wp2_with fail
  go_loopg [3, 11] L (fun gk ov ii wr => ∃ j : Nat, gk + j = L ∧ ii = .int .i64 j ∧ OwnK 12 Edge12R 84 wr w.heap.size ov (l.take j) ∧ Grew w wr)
  case atStart => exact ⟨0, rfl, rfl, by rw [List.take_zero]; exact hO0.out, hG0.out⟩
  case round =>
    obtain ⟨j, hj, rfl, hO, hG⟩ := hrel
    clear hO0 hG0 hmk
    by_cases hlt : j < L
    · obtain ⟨b, o, rfl, he⟩ := h3.out (by omega)
      obtain ⟨x, hx⟩ : ∃ x, l[j]? = some x := ⟨l[j]'(by omega), List.getElem?_eq_getElem _⟩
      have htk := Lib.hid (takeG_snoc hx)
      obtain ⟨b1, A1, n1, c1, C1, m1, d1, b2, A2, n2, c2, C2, m2, d2, b3, A3, n3, c3, C3, m3, d3, b4, A4, n4, c4, C4, m4, d4, ⟨e0, e1, e2, e3, e4, e5, e6, e7, e8, e9, e10, e11⟩, S1⟩ := cellsE (he j x hx)
      obtain ⟨b21, A21, n21, c21, C21, m21, d21, b22, A22, n22, c22, C22, m22, d22, b23, A23, n23, c23, C23, m23, d23, b24, A24, n24, c24, C24, m24, d24, e9, Fa, Fb⟩ := EdgeR.laid S1.out
      injection e9 with e9
      simp only [List.cons.injEq, Value.bool.injEq, Value.slice.injEq, and_true] at e9
      obtain ⟨rfl, ⟨rfl, rfl, rfl⟩, ⟨rfl, rfl, rfl⟩, rfl, ⟨rfl, rfl, rfl⟩, ⟨rfl, rfl, rfl⟩, rfl, ⟨rfl, rfl, rfl⟩, ⟨rfl, rfl, rfl⟩, rfl, ⟨rfl, rfl, rfl⟩, rfl, rfl, rfl⟩ := e9
      have f0 : wr.cell? ⟨b, o + j * 12, none⟩ = some (.bool b1) := hG.cell e0
      have f1 : wr.cell? ⟨b, o + j * 12 + 1, none⟩ = some (.slice A1 n1 c1) := hG.cell e1
      have f2 : wr.cell? ⟨b, o + j * 12 + 2, none⟩ = some (.slice C1 m1 d1) := hG.cell e2
      have f3 : wr.cell? ⟨b, o + j * 12 + 3, none⟩ = some (.bool b2) := hG.cell e3
      have f4 : wr.cell? ⟨b, o + j * 12 + 4, none⟩ = some (.slice A2 n2 c2) := hG.cell e4
      have f5 : wr.cell? ⟨b, o + j * 12 + 5, none⟩ = some (.slice C2 m2 d2) := hG.cell e5
      have f6 : wr.cell? ⟨b, o + j * 12 + 6, none⟩ = some (.bool b3) := hG.cell e6
      have f7 : wr.cell? ⟨b, o + j * 12 + 7, none⟩ = some (.slice A3 n3 c3) := hG.cell e7
      have f8 : wr.cell? ⟨b, o + j * 12 + 8, none⟩ = some (.slice C3 m3 d3) := hG.cell e8
      have f9 : wr.cell? ⟨b, o + j * 12 + 9, none⟩ = some (.bool b4) := hG.cell e9
      have f10 : wr.cell? ⟨b, o + j * 12 + 10, none⟩ = some (.slice A4 n4 c4) := hG.cell e10
      have f11 : wr.cell? ⟨b, o + j * 12 + 11, none⟩ = some (.slice C4 m4 d4) := hG.cell e11
      have hO' := Lib.hid hO
      have hG' := Lib.hid hG
      have hne : Hid (u3.ownBlock ≠ some wr.heap.size) := Lib.hid fun e => Nat.lt_irrefl _ (hO.lt e)
      have hlen : (l.take j).length = j := by rw [List.length_take]; omega
      have hjl : (j : Int) < (L : Int) := by omega
      clear e0 e1 e2 e3 e4 e5 e6 e7 e8 e9 e10 e11 he hO hG hx S1
      go_upto_region 5 with fail
      refine gen_wp ?_
      intro W9 hW9
      have gl : Grew wr W9 := by rw [hW9]; exact (Grew.refl _).alloc _
      have hloc : LocN w wr.heap.size [.bool b1, .slice A1 n1 c1, .slice C1 m1 d1, .bool b2, .slice A2 n2 c2, .slice C2 m2 d2, .bool b3, .slice A3 n3 c3, .slice C3 m3 d3, .bool b4, .slice A4 n4 c4, .slice C4 m4 d4] W9 := ⟨hG'.out.trans gl, by
        intro j u hu
        rw [hW9, cell_of_row _ wr.heap.size j _ _ (0, 0) (heap_alloc_new wr _), ← Array.getElem?_toList]; exact hu⟩
      have og := Lib.hid (OwnK.grew says_edge hO'.out gl)
      replace hloc := Lib.hid hloc
      clear hW9 gl hO' hG' f0 f1 f2 f3 f4 f5 f6 f7 f8 f9 f10 f11
      go_wp2_with fail
      refine wp_region_held_drew (S := fun wv => LocN w wr.heap.size [.bool b1, .slice A1 n1 c1, .slice C1 m1 d1, .bool b2, .slice A2 n2 c2, .slice C2 m2 d2, .bool b3, .slice A3 n3 c3, .slice C3 m3 d3, .bool b4, .slice A4 n4 c4, .slice C4 m4 d4] wv) (by kernel_rfl) (hloc.out.drew) (fun hHeld => ?_)
      replace hHeld := Lib.hid hHeld
      try simp only [Act.put, List.setIfInBounds_toArray, List.set_cons_zero, List.set_cons_succ]
      refine wpAnyH_takeD (i := 0) (d := 15) (v := ?_) rfl rfl (by kernel_rfl) (by kernel_rfl) (by kernel_rfl) (fun _ _ _ h => h) (Or.inl ⟨by rfl, ?_⟩) hHeld.out ?_
      rotate_left
      · intro wv hSw
        replace hSw : Hid (LocN w wr.heap.size [.bool b1, .slice A1 n1 c1, .slice C1 m1 d1, .bool b2, .slice A2 n2 c2, .slice C2 m2 d2, .bool b3, .slice A3 n3 c3, .slice C3 m3 d3, .bool b4, .slice A4 n4 c4, .slice C4 m4 d4] wv) := Lib.hid hSw
        go_simp
        try with_reducible rfl
      try simp only [Act.put, List.setIfInBounds_toArray, List.set_cons_zero, List.set_cons_succ]
      refine wpAnyH_takeD (i := 1) (d := 16) (v := ?_) rfl rfl (by kernel_rfl) (by kernel_rfl) (by kernel_rfl) (fun _ _ _ h => h) (Or.inl ⟨by rfl, ?_⟩) hHeld.out ?_
      rotate_left
      · intro wv hSw
        replace hSw : Hid (LocN w wr.heap.size [.bool b1, .slice A1 n1 c1, .slice C1 m1 d1, .bool b2, .slice A2 n2 c2, .slice C2 m2 d2, .bool b3, .slice A3 n3 c3, .slice C3 m3 d3, .bool b4, .slice A4 n4 c4, .slice C4 m4 d4] wv) := Lib.hid hSw
        go_simp
        try with_reducible rfl
      try simp only [Act.put, List.setIfInBounds_toArray, List.set_cons_zero, List.set_cons_succ]
      refine wpAnyH_takeD (i := 2) (d := 17) (v := ?_) rfl rfl (by kernel_rfl) (by kernel_rfl) (by kernel_rfl) (fun _ _ _ h => h) (Or.inl ⟨by rfl, ?_⟩) hHeld.out ?_
      rotate_left
      · intro wv hSw
        replace hSw : Hid (LocN w wr.heap.size [.bool b1, .slice A1 n1 c1, .slice C1 m1 d1, .bool b2, .slice A2 n2 c2, .slice C2 m2 d2, .bool b3, .slice A3 n3 c3, .slice C3 m3 d3, .bool b4, .slice A4 n4 c4, .slice C4 m4 d4] wv) := Lib.hid hSw
        have t0 := hSw.out.2 0 _ rfl
        have t1 := hSw.out.2 1 _ rfl
        have t2 := hSw.out.2 2 _ rfl
        have t3 := hSw.out.2 3 _ rfl
        have t4 := hSw.out.2 4 _ rfl
        have t5 := hSw.out.2 5 _ rfl
        go_simp
        try with_reducible rfl
      try simp only [Act.put, List.setIfInBounds_toArray, List.set_cons_zero, List.set_cons_succ]
      refine wpAnyH_takeD (i := 4) (d := 19) (v := ?_) rfl rfl (by kernel_rfl) (by kernel_rfl) (by kernel_rfl) (fun _ _ _ h => h) (Or.inl ⟨by rfl, ?_⟩) hHeld.out ?_
      rotate_left
      · intro wv hSw
        replace hSw : Hid (LocN w wr.heap.size [.bool b1, .slice A1 n1 c1, .slice C1 m1 d1, .bool b2, .slice A2 n2 c2, .slice C2 m2 d2, .bool b3, .slice A3 n3 c3, .slice C3 m3 d3, .bool b4, .slice A4 n4 c4, .slice C4 m4 d4] wv) := Lib.hid hSw
        go_simp
        try with_reducible rfl
      try simp only [Act.put, List.setIfInBounds_toArray, List.set_cons_zero, List.set_cons_succ]
      refine wpAnyH_takeD (i := 5) (d := 20) (v := ?_) rfl rfl (by kernel_rfl) (by kernel_rfl) (by kernel_rfl) (fun _ _ _ h => h) (Or.inl ⟨by rfl, ?_⟩) hHeld.out ?_
      rotate_left
      · intro wv hSw
        replace hSw : Hid (LocN w wr.heap.size [.bool b1, .slice A1 n1 c1, .slice C1 m1 d1, .bool b2, .slice A2 n2 c2, .slice C2 m2 d2, .bool b3, .slice A3 n3 c3, .slice C3 m3 d3, .bool b4, .slice A4 n4 c4, .slice C4 m4 d4] wv) := Lib.hid hSw
        have t6 := hSw.out.2 6 _ rfl
        have t7 := hSw.out.2 7 _ rfl
        have t8 := hSw.out.2 8 _ rfl
        have t9 := hSw.out.2 9 _ rfl
        have t10 := hSw.out.2 10 _ rfl
        have t11 := hSw.out.2 11 _ rfl
        go_simp
        try with_reducible rfl
      try simp only [Act.put, List.setIfInBounds_toArray, List.set_cons_zero, List.set_cons_succ]
      refine wpAnyH_ready (rs := [3]) (by kernel_rfl) (by simp) ?_
      refine AllReadyH.cons rfl (fun KK hKK => ?_) AllReadyH.nil
      go_simp
      refine (xclean_any _ x.1.1 x.1.2 k _ (SpotR.kept Fa.out hHeld.out.1.keeps).v hk hs).mono ?_
      rintro e wk1 ⟨V1, rfl, hV1, g⟩
      have gk := hHeld.out.trans g
      obtain ⟨b13, A13, n13, c13, C13, m13, d13, b14, A14, n14, c14, C14, m14, d14, rfl, -, -, X1⟩ := hV1.laid
      clear hV1
      have o1 := Lib.hid (OwnK.grew says_edge og.out (((Grew.refl W9).drew).trans g))
      clear hHeld
      try dsimp only
      refine hKK.out _ _ gk (fun hHeld => ?_)
      clear gk hKK KK
      replace hHeld := Lib.hid (show LocN w wr.heap.size [.bool b1, .slice A1 n1 c1, .slice C1 m1 d1, .bool b2, .slice A2 n2 c2, .slice C2 m2 d2, .bool b3, .slice A3 n3 c3, .slice C3 m3 d3, .bool b4, .slice A4 n4 c4, .slice C4 m4 d4] wk1 from hHeld)
      try simp only [Act.put, List.setIfInBounds_toArray, List.set_cons_zero, List.set_cons_succ]
      refine wpAnyH_ready (rs := [6]) (by kernel_rfl) (by simp) ?_
      refine AllReadyH.cons rfl (fun KK hKK => ?_) AllReadyH.nil
      go_simp
      refine (xclean_any _ x.2.1 x.2.2 k _ (SpotR.kept Fb.out hHeld.out.1.keeps).v hk hs).mono ?_
      rintro e wk2 ⟨V2, rfl, hV2, g⟩
      have gk := hHeld.out.trans g
      obtain ⟨b15, A15, n15, c15, C15, m15, d15, b16, A16, n16, c16, C16, m16, d16, rfl, -, -, X2⟩ := hV2.laid
      clear hV2
      replace X1 := Lib.hid (SpotC.kept X1.out g.keeps)
      replace o1 := Lib.hid (OwnK.grew says_edge o1.out g)
      clear hHeld
      try dsimp only
      refine hKK.out _ _ gk (fun hHeld => ?_)
      clear gk hKK KK
      replace hHeld := Lib.hid (show LocN w wr.heap.size [.bool b1, .slice A1 n1 c1, .slice C1 m1 d1, .bool b2, .slice A2 n2 c2, .slice C2 m2 d2, .bool b3, .slice A3 n3 c3, .slice C3 m3 d3, .bool b4, .slice A4 n4 c4, .slice C4 m4 d4] wk2 from hHeld)
      try simp only [Act.put, List.setIfInBounds_toArray, List.set_cons_zero, List.set_cons_succ]
      refine wpAnyH_takeD (i := 7) (d := 22) (v := ?_) rfl rfl (by kernel_rfl) (by kernel_rfl) (by kernel_rfl) (fun _ _ _ h => h) (Or.inl ⟨by rfl, ?_⟩) hHeld.out ?_
      rotate_left
      · intro wv hSw
        replace hSw : Hid (LocN w wr.heap.size [.bool b1, .slice A1 n1 c1, .slice C1 m1 d1, .bool b2, .slice A2 n2 c2, .slice C2 m2 d2, .bool b3, .slice A3 n3 c3, .slice C3 m3 d3, .bool b4, .slice A4 n4 c4, .slice C4 m4 d4] wv) := Lib.hid hSw
        go_simp
        try with_reducible rfl
      try simp only [Act.put, List.setIfInBounds_toArray, List.set_cons_zero, List.set_cons_succ]
      refine wpAnyH_ready (rs := [8]) (by kernel_rfl) (by simp) ?_
      refine AllReadyH.cons rfl (fun KK hKK => ?_) AllReadyH.nil
      go_simp
      have gP := hHeld
      clear hHeld
      try dsimp only
      refine hKK.out _ _ (gP.out.alloc _) (fun hHeld => ?_)
      clear hKK KK
      replace hHeld := Lib.hid hHeld
      try simp only [Act.put, List.setIfInBounds_toArray, List.set_cons_zero, List.set_cons_succ]
      refine wpAnyH_ready (rs := [9]) (by kernel_rfl) (by simp) ?_
      refine AllReadyH.cons rfl (fun KK hKK => ?_) AllReadyH.nil
      refine wp_appK (m := [x]) (.tmp 15) (.tmp 23) 36 rfl rfl says_edge o1.out _ (cells_one says_edge (edge_mk (e := x) X1.out X2.out)) rfl _ 224 Tryz.underlying36 info_edge rfl (by omega) znoE (by simp only [List.length_cons, List.length_nil]; omega) (by omega) gP.out.1.size ?_
      intro vk3 wk3 hO9 hK9 hC9 hB9 hG9
      have gk : LocN w wr.heap.size [.bool b1, .slice A1 n1 c1, .slice C1 m1 d1, .bool b2, .slice A2 n2 c2, .slice C2 m2 d2, .bool b3, .slice A3 n3 c3, .slice C3 m3 d3, .bool b4, .slice A4 n4 c4, .slice C4 m4 d4] wk3 := ⟨hG9 w (Nat.le_refl _) gP.out.1, fun j u hu => hC9 _ _ _ hne.out (gP.out.2 j u hu)⟩
      clear hK9 hC9 hB9 hG9 o1 X1 X2 gP
      clear hHeld
      try dsimp only
      refine hKK.out _ _ gk (fun hHeld => ?_)
      clear gk hKK KK
      replace hHeld := Lib.hid (show LocN w wr.heap.size [.bool b1, .slice A1 n1 c1, .slice C1 m1 d1, .bool b2, .slice A2 n2 c2, .slice C2 m2 d2, .bool b3, .slice A3 n3 c3, .slice C3 m3 d3, .bool b4, .slice A4 n4 c4, .slice C4 m4 d4] wk3 from hHeld)
      try simp only [Act.put, List.setIfInBounds_toArray]
      refine wpAnyH_takeD (i := 10) (d := 3) (v := ?_) rfl rfl (by kernel_rfl) (by kernel_rfl) (by kernel_rfl) (fun _ _ _ h => h) (Or.inl ⟨by rfl, ?_⟩) hHeld.out ?_
      rotate_left
      · intro wv hSw
        replace hSw : Hid (LocN w wr.heap.size [.bool b1, .slice A1 n1 c1, .slice C1 m1 d1, .bool b2, .slice A2 n2 c2, .slice C2 m2 d2, .bool b3, .slice A3 n3 c3, .slice C3 m3 d3, .bool b4, .slice A4 n4 c4, .slice C4 m4 d4] wv) := Lib.hid hSw
        go_simp
        try with_reducible rfl
      try simp only [Act.put]
      refine wpAnyH_done (by kernel_rfl) ?_ _
      rw [← htk.out] at hO9
      replace hO9 := Lib.hid hO9
      go_wp2_with fail
      go_roundg (gk - 1)
      case rel => exact ⟨j + 1, by omega, by go_num, hO9.out, hHeld.out.1⟩
      case measure => omega
    · obtain rfl : j = L := by omega
      have hall : l.take j = l := by rw [← hL]; exact List.take_length
      rw [hall] at hO
      have hO' := Lib.hid hO
      have hG' := Lib.hid hG
      clear hO hG
      go_wp2_with fail
      refine (erow_any w.heap.size _ l k _ hO'.out hq.out hk hs (by omega)).mono ?_
      rintro e w2 ⟨V2, rfl, hO2, hG2⟩
      have hg := Lib.hid (hG2 w (Nat.le_refl _) hG'.out)
      have hrow := Lib.hid hO2.row
      clear hO2 hG2 hG' hO'
      go_wp2_with fail
      go_ret
      exact ⟨_, rfl, hrow.out, hg.out⟩

end Go.Proofs.YtngbcbncllfblaaGreat
namespace Go.Proofs.YtngbcbncllfblaaGreat
open Go.RowKit

/-- The cells of a reduced edge, written out. -/
theorem cellsC {w : World} {c : Nat → Option Value} {x : EdgeQ} (h : CellsR 12 Edge12R w c x) :
    ∃ b1 A1 n1 c1 C1 m1 d1 b2 A2 n2 c2 C2 m2 d2 b3 A3 n3 c3 C3 m3 d3 b4 A4 n4 c4 C4 m4 d4, (c 0 = some (.bool b1) ∧ c 1 = some (.slice A1 n1 c1) ∧ c 2 = some (.slice C1 m1 d1) ∧ c 3 = some (.bool b2) ∧ c 4 = some (.slice A2 n2 c2) ∧ c 5 = some (.slice C2 m2 d2) ∧ c 6 = some (.bool b3) ∧ c 7 = some (.slice A3 n3 c3) ∧ c 8 = some (.slice C3 m3 d3) ∧ c 9 = some (.bool b4) ∧ c 10 = some (.slice A4 n4 c4) ∧ c 11 = some (.slice C4 m4 d4)) ∧ Hid (Edge12R w #[.bool b1, .slice A1 n1 c1, .slice C1 m1 d1, .bool b2, .slice A2 n2 c2, .slice C2 m2 d2, .bool b3, .slice A3 n3 c3, .slice C3 m3 d3, .bool b4, .slice A4 n4 c4, .slice C4 m4 d4] x) := by
  obtain ⟨us, h1, h2⟩ := h
  have h3 := h2
  obtain ⟨us1, us2, rfl, h4, h5⟩ := h3
  obtain ⟨b1, A1, n1, c1, C1, m1, d1, b2, A2, n2, c2, C2, m2, d2, e, -, -⟩ := h4
  injection e with e
  subst e
  obtain ⟨b3, A3, n3, c3, C3, m3, d3, b4, A4, n4, c4, C4, m4, d4, e, -, -⟩ := h5
  injection e with e
  subst e
  exact ⟨b1, A1, n1, c1, C1, m1, d1, b2, A2, n2, c2, C2, m2, d2, b3, A3, n3, c3, C3, m3, d3, b4, A4, n4, c4, C4, m4, d4, ⟨h1 0 (by omega), h1 1 (by omega), h1 2 (by omega), h1 3 (by omega), h1 4 (by omega), h1 5 (by omega), h1 6 (by omega), h1 7 (by omega), h1 8 (by omega), h1 9 (by omega), h1 10 (by omega), h1 11 (by omega)⟩, h2⟩

set_option maxRecDepth 100000 in
set_option maxHeartbeats 16000000 in
theorem rput_any (v : Value) (l : List EdgeQ) (us : Array Value) (x : EdgeQ) (k : Nat) (w : World) (hr : RowK 12 Edge12R w v l) (hu : Edge12R w us x) (hq : ∀ y ∈ l, EB k y) (hx : EB k x) (hk : 1 ≤ k) (hs : k < 67108864) (hl : l.length ≤ 549755813888) :
    Calls Tryz.prog 101 #[v, .agg us] w fun e w' => ∃ v', e = .returned v' ∧ RowK 12 Edge12R w' v' (putG edgeCmp x l) ∧ Grew w w' := by
  obtain ⟨A, c, rfl, k1, k2, k3⟩ := hr
  obtain ⟨M, hM⟩ : ∃ M, l.length = M := ⟨_, rfl⟩
  rw [hM] at k1 k3 hl
  rw [hM]
  have hm : M ≤ 9223372036854775807 := by omega
  obtain ⟨b1, A1, n1, c1, C1, m1, d1, b2, A2, n2, c2, C2, m2, d2, b3, A3, n3, c3, C3, m3, d3, b4, A4, n4, c4, C4, m4, d4, ⟨e0, e1, e2, e3, e4, e5, e6, e7, e8, e9, e10, e11⟩, S0⟩ := cellsC (w := w) (c := fun j => us[j]?) (x := x) ⟨us, fun j hj => by first | (rw [Nat.zero_mul, Nat.zero_add]) | rfl, hu⟩
  have hus := says_edge.size hu
  obtain rfl : us = #[.bool b1, .slice A1 n1 c1, .slice C1 m1 d1, .bool b2, .slice A2 n2 c2, .slice C2 m2 d2, .bool b3, .slice A3 n3 c3, .slice C3 m3 d3, .bool b4, .slice A4 n4 c4, .slice C4 m4 d4] := by
    apply Array.ext_getElem?
    intro i
    by_cases hi : i < 12
    · have h9 : i = 0 ∨ i = 1 ∨ i = 2 ∨ i = 3 ∨ i = 4 ∨ i = 5 ∨ i = 6 ∨ i = 7 ∨ i = 8 ∨ i = 9 ∨ i = 10 ∨ i = 11 := by omega
      rcases h9 with rfl | rfl | rfl | rfl | rfl | rfl | rfl | rfl | rfl | rfl | rfl | rfl
      · exact e0
      · exact e1
      · exact e2
      · exact e3
      · exact e4
      · exact e5
      · exact e6
      · exact e7
      · exact e8
      · exact e9
      · exact e10
      · exact e11
    · rw [Array.getElem?_eq_none (by omega), Array.getElem?_eq_none (by simp; omega)]
  clear e0 e1 e2 e3 e4 e5 e6 e7 e8 e9 e10 e11 hus S0
  replace k3 := Lib.hid k3
  replace hq := Lib.hid hq
  replace hx := Lib.hid hx
  go_enter Tryz.func101, Tryz.ntmps101
  go_upto_region 1 with fail
  refine gen_wp ?_
  intro W1 hW1
  have p0 : Hid (W1.cell? ⟨w.heap.size, 0, none⟩ = some (.bool b1)) := Lib.hid (by rw [hW1]; simp [go_sem])
  have p1 : Hid (W1.cell? ⟨w.heap.size, 1, none⟩ = some (.slice A1 n1 c1)) := Lib.hid (by rw [hW1]; simp [go_sem])
  have p2 : Hid (W1.cell? ⟨w.heap.size, 2, none⟩ = some (.slice C1 m1 d1)) := Lib.hid (by rw [hW1]; simp [go_sem])
  have p3 : Hid (W1.cell? ⟨w.heap.size, 3, none⟩ = some (.bool b2)) := Lib.hid (by rw [hW1]; simp [go_sem])
  have p4 : Hid (W1.cell? ⟨w.heap.size, 4, none⟩ = some (.slice A2 n2 c2)) := Lib.hid (by rw [hW1]; simp [go_sem])
  have p5 : Hid (W1.cell? ⟨w.heap.size, 5, none⟩ = some (.slice C2 m2 d2)) := Lib.hid (by rw [hW1]; simp [go_sem])
  have p6 : Hid (W1.cell? ⟨w.heap.size, 6, none⟩ = some (.bool b3)) := Lib.hid (by rw [hW1]; simp [go_sem])
  have p7 : Hid (W1.cell? ⟨w.heap.size, 7, none⟩ = some (.slice A3 n3 c3)) := Lib.hid (by rw [hW1]; simp [go_sem])
  have p8 : Hid (W1.cell? ⟨w.heap.size, 8, none⟩ = some (.slice C3 m3 d3)) := Lib.hid (by rw [hW1]; simp [go_sem])
  have p9 : Hid (W1.cell? ⟨w.heap.size, 9, none⟩ = some (.bool b4)) := Lib.hid (by rw [hW1]; simp [go_sem])
  have p10 : Hid (W1.cell? ⟨w.heap.size, 10, none⟩ = some (.slice A4 n4 c4)) := Lib.hid (by rw [hW1]; simp [go_sem])
  have p11 : Hid (W1.cell? ⟨w.heap.size, 11, none⟩ = some (.slice C4 m4 d4)) := Lib.hid (by rw [hW1]; simp [go_sem])
  have G1 : Grew w W1 := by rw [hW1]; exact (Grew.refl w).alloc _
  have S1 := Lib.hid (says_edge.kept hu G1.keeps)
  have zw : w.heap.size < W1.heap.size := by rw [hW1]; simp
  replace G1 := Lib.hid G1
  clear hW1 hu
  go_wp2_with fail
  go_loopg [5, 6, 7] M (fun gk nv inn kk wr => ∃ m : Nat, gk + m = M ∧ kk = .int .i64 m ∧ inn = .bool ((l.take m).foldl (stepG edgeCmp x) ([], false)).2 ∧ OwnK 12 Edge12R 84 wr W1.heap.size nv ((l.take m).foldl (stepG edgeCmp x) ([], false)).1 ∧ Grew W1 wr)
  case atStart => exact ⟨0, rfl, rfl, rfl, OwnK.nil _ _ _ _ _, Grew.refl _⟩
  case round =>
    obtain ⟨m, hj2, rfl, rfl, hN, hGr⟩ := hrel
    by_cases hml : m < M
    · obtain ⟨g, o9, rfl, ke⟩ := k3.out (by omega)
      obtain ⟨q, hq9⟩ : ∃ q, l[m]? = some q := ⟨l[m]'(by omega), List.getElem?_eq_getElem _⟩
      obtain ⟨b5, A5, n5, c5, C5, m5, d5, b6, A6, n6, c6, C6, m6, d6, b7, A7, n7, c7, C7, m7, d7, b8, A8, n8, c8, C8, m8, d8, ⟨e0, e1, e2, e3, e4, e5, e6, e7, e8, e9, e10, e11⟩, S2⟩ := cellsC (ke m q hq9)
      replace e0 : Hid (W1.cell? ⟨g, o9 + m * 12, none⟩ = some (.bool b5)) := Lib.hid (G1.out.cell e0)
      replace e1 : Hid (W1.cell? ⟨g, o9 + m * 12 + 1, none⟩ = some (.slice A5 n5 c5)) := Lib.hid (G1.out.cell e1)
      replace e2 : Hid (W1.cell? ⟨g, o9 + m * 12 + 2, none⟩ = some (.slice C5 m5 d5)) := Lib.hid (G1.out.cell e2)
      replace e3 : Hid (W1.cell? ⟨g, o9 + m * 12 + 3, none⟩ = some (.bool b6)) := Lib.hid (G1.out.cell e3)
      replace e4 : Hid (W1.cell? ⟨g, o9 + m * 12 + 4, none⟩ = some (.slice A6 n6 c6)) := Lib.hid (G1.out.cell e4)
      replace e5 : Hid (W1.cell? ⟨g, o9 + m * 12 + 5, none⟩ = some (.slice C6 m6 d6)) := Lib.hid (G1.out.cell e5)
      replace e6 : Hid (W1.cell? ⟨g, o9 + m * 12 + 6, none⟩ = some (.bool b7)) := Lib.hid (G1.out.cell e6)
      replace e7 : Hid (W1.cell? ⟨g, o9 + m * 12 + 7, none⟩ = some (.slice A7 n7 c7)) := Lib.hid (G1.out.cell e7)
      replace e8 : Hid (W1.cell? ⟨g, o9 + m * 12 + 8, none⟩ = some (.slice C7 m7 d7)) := Lib.hid (G1.out.cell e8)
      replace e9 : Hid (W1.cell? ⟨g, o9 + m * 12 + 9, none⟩ = some (.bool b8)) := Lib.hid (G1.out.cell e9)
      replace e10 : Hid (W1.cell? ⟨g, o9 + m * 12 + 10, none⟩ = some (.slice A8 n8 c8)) := Lib.hid (G1.out.cell e10)
      replace e11 : Hid (W1.cell? ⟨g, o9 + m * 12 + 11, none⟩ = some (.slice C8 m8 d8)) := Lib.hid (G1.out.cell e11)
      replace S2 := Lib.hid (says_edge.kept S2.out G1.out.keeps)
      have g0 := hGr.cell e0.out
      have h0 := hGr.cell p0.out
      have g1 := hGr.cell e1.out
      have h1 := hGr.cell p1.out
      have g2 := hGr.cell e2.out
      have h2 := hGr.cell p2.out
      have g3 := hGr.cell e3.out
      have h3 := hGr.cell p3.out
      have g4 := hGr.cell e4.out
      have h4 := hGr.cell p4.out
      have g5 := hGr.cell e5.out
      have h5 := hGr.cell p5.out
      have g6 := hGr.cell e6.out
      have h6 := hGr.cell p6.out
      have g7 := hGr.cell e7.out
      have h7 := hGr.cell p7.out
      have g8 := hGr.cell e8.out
      have h8 := hGr.cell p8.out
      have g9 := hGr.cell e9.out
      have h9 := hGr.cell p9.out
      have g10 := hGr.cell e10.out
      have h10 := hGr.cell p10.out
      have g11 := hGr.cell e11.out
      have h11 := hGr.cell p11.out
      have q1 := Lib.hid (hq.out q (List.mem_of_getElem? hq9))
      have hml2 : (m : Int) < (M : Int) := by omega
      clear ke
      go_wp2_with fail
      go_region_held3 (fun w' => w'.cell? ⟨w.heap.size, 0, none⟩ = some (.bool b1) ∧ w'.cell? ⟨w.heap.size, 1, none⟩ = some (.slice A1 n1 c1) ∧ w'.cell? ⟨w.heap.size, 2, none⟩ = some (.slice C1 m1 d1) ∧ w'.cell? ⟨w.heap.size, 3, none⟩ = some (.bool b2) ∧ w'.cell? ⟨w.heap.size, 4, none⟩ = some (.slice A2 n2 c2) ∧ w'.cell? ⟨w.heap.size, 5, none⟩ = some (.slice C2 m2 d2) ∧ w'.cell? ⟨w.heap.size, 6, none⟩ = some (.bool b3) ∧ w'.cell? ⟨w.heap.size, 7, none⟩ = some (.slice A3 n3 c3) ∧ w'.cell? ⟨w.heap.size, 8, none⟩ = some (.slice C3 m3 d3) ∧ w'.cell? ⟨w.heap.size, 9, none⟩ = some (.bool b4) ∧ w'.cell? ⟨w.heap.size, 10, none⟩ = some (.slice A4 n4 c4) ∧ w'.cell? ⟨w.heap.size, 11, none⟩ = some (.slice C4 m4 d4) ∧ w'.cell? ⟨g, o9 + m * 12, none⟩ = some (.bool b5) ∧ w'.cell? ⟨g, o9 + m * 12 + 1, none⟩ = some (.slice A5 n5 c5) ∧ w'.cell? ⟨g, o9 + m * 12 + 2, none⟩ = some (.slice C5 m5 d5) ∧ w'.cell? ⟨g, o9 + m * 12 + 3, none⟩ = some (.bool b6) ∧ w'.cell? ⟨g, o9 + m * 12 + 4, none⟩ = some (.slice A6 n6 c6) ∧ w'.cell? ⟨g, o9 + m * 12 + 5, none⟩ = some (.slice C6 m6 d6) ∧ w'.cell? ⟨g, o9 + m * 12 + 6, none⟩ = some (.bool b7) ∧ w'.cell? ⟨g, o9 + m * 12 + 7, none⟩ = some (.slice A7 n7 c7) ∧ w'.cell? ⟨g, o9 + m * 12 + 8, none⟩ = some (.slice C7 m7 d7) ∧ w'.cell? ⟨g, o9 + m * 12 + 9, none⟩ = some (.bool b8) ∧ w'.cell? ⟨g, o9 + m * 12 + 10, none⟩ = some (.slice A8 n8 c8) ∧ w'.cell? ⟨g, o9 + m * 12 + 11, none⟩ = some (.slice C8 m8 d8))
        (first | exact ⟨h0, h1, h2, h3, h4, h5, h6, h7, h8, h9, h10, h11, g0, g1, g2, g3, g4, g5, g6, g7, g8, g9, g10, g11⟩ | exact ⟨gc.cell h0, gc.cell h1, gc.cell h2, gc.cell h3, gc.cell h4, gc.cell h5, gc.cell h6, gc.cell h7, gc.cell h8, gc.cell h9, gc.cell h10, gc.cell h11, gc.cell g0, gc.cell g1, gc.cell g2, gc.cell g3, gc.cell g4, gc.cell g5, gc.cell g6, gc.cell g7, gc.cell g8, gc.cell g9, gc.cell g10, gc.cell g11⟩)
        (first | (go_at_call 138; refine (recmp_any _ _ x q k _ (edge_r (says_edge.kept S1.out ((hGr.drew).keeps)) hx.out) (edge_r (says_edge.kept S2.out ((hGr.drew).keeps)) q1.out) hk hs).mono ?_; rintro e wx ⟨rfl, gc⟩))
      have gA := (hGr.drew).trans gc
      have oA := OwnK.grew says_edge hN (((Grew.refl wr).drew).trans gc)
      have hfl := stepG_fold_len (cf := edgeCmp) x (l.take m) ([], false)
      have hstep := foldG_succ (cf := edgeCmp) x l m q hq9 ([], false)
      obtain ⟨⟨a, bo⟩, hst⟩ : ∃ s, (l.take m).foldl (stepG edgeCmp x) ([], false) = s := ⟨_, rfl⟩
      rw [hst] at oA hstep hfl ⊢
      replace oA : OwnK 12 Edge12R 84 wx W1.heap.size _ a := oA
      have hal : a.length ≤ m + 1 := by simp only [List.length_take, List.length_nil] at hfl; simp at hfl; omega
      obtain ⟨cc, hcc⟩ : ∃ cc, edgeCmp x q = cc := ⟨_, rfl⟩
      rw [hcc]
      have c1' := fun h : cc < 0 => stepG_lt (cf := edgeCmp) (p := x) (q := q) a (by rw [hcc]; exact h)
      have c2' := fun h : cc = 0 => stepG_eq (cf := edgeCmp) (p := x) (q := q) a bo (by rw [hcc]; exact h)
      have c3' := fun h : 0 < cc => stepG_gt (cf := edgeCmp) (p := x) (q := q) a bo (by rw [hcc]; exact h)
      replace hstep := Lib.hid hstep
      replace c1' := Lib.hid c1'
      replace c2' := Lib.hid c2'
      replace c3' := Lib.hid c3'
      clear hst hN hGr gc hfl hcc h0 h1 h2 h3 h4 h5 h6 h7 h8 h9 h10 h11 g0 g1 g2 g3 g4 g5 g6 g7 g8 g9 g10 g11 q1 hq9
      rcases Int.lt_trichotomy cc 0 with hc | hc | hc
      · cases bo
        · skip
          have st9 := Lib.hid (hstep.out.trans (c1'.out hc))
          clear c1' c2' c3' hstep
          have t0 := gA.cell p0.out
          have t1 := gA.cell p1.out
          have t2 := gA.cell p2.out
          have t3 := gA.cell p3.out
          have t4 := gA.cell p4.out
          have t5 := gA.cell p5.out
          have t6 := gA.cell p6.out
          have t7 := gA.cell p7.out
          have t8 := gA.cell p8.out
          have t9 := gA.cell p9.out
          have t10 := gA.cell p10.out
          have t11 := gA.cell p11.out
          have X8 := Lib.hid (says_edge.kept S1.out gA.keeps)
          have hsz8 := gA.size
          have ho8 := Lib.hid oA
          have gwp := Lib.hid gA
          clear oA gA
          go_wp2_with (first | fail | (at_builtin; (refine wpList_appK (m := [x]) rfl (.tmp 27) (.tmp 29) 36 rfl rfl says_edge ho8.out _ (cells_one says_edge X8.out) rfl _ 224 Tryz.underlying36 info_edge rfl (by omega) znoE (by simp only [List.length_cons, List.length_nil]; omega) (by omega) hsz8 ?_); intro vA wzA hOA hKA hCA hWA hGA; have gzA := hGA W1 (Nat.le_refl _) gwp.out; have hsz9 := gzA.size; have ho9 := Lib.hid hOA; have X9 := Lib.hid (says_edge.kept S2.out gzA.keeps); have t0 := gzA.cell e0.out; have t1 := gzA.cell e1.out; have t2 := gzA.cell e2.out; have t3 := gzA.cell e3.out; have t4 := gzA.cell e4.out; have t5 := gzA.cell e5.out; have t6 := gzA.cell e6.out; have t7 := gzA.cell e7.out; have t8 := gzA.cell e8.out; have t9 := gzA.cell e9.out; have t10 := gzA.cell e10.out; have t11 := gzA.cell e11.out; have gwq := Lib.hid gzA; clear hOA hKA hCA hWA hGA ho8 X8 gwp hsz8 gzA; have hal2 : (a ++ [x]).length ≤ m + 2 := (by rw [List.length_append, List.length_cons, List.length_nil]; omega)) | (at_builtin; (refine wpList_appK (m := [q]) rfl (.tmp 33) (.tmp 38) 36 rfl rfl says_edge ho9.out _ (cells_one says_edge X9.out) rfl _ 224 Tryz.underlying36 info_edge rfl (by omega) znoE (by simp only [List.length_cons, List.length_nil]; omega) (by omega) hsz9 ?_); intro vB wzB hOB hKB hCB hWB hGB))
          have gzB := hGB W1 (Nat.le_refl _) gwq.out
          have ozB := hOB
          clear hOB hKB hCB hWB hGB ho9 X9 gwq hsz9 t0 t1 t2 t3 t4 t5 t6 t7 t8 t9 t10 t11
          go_wp2_with fail
          go_roundg (gk - 1)
          case rel => exact ⟨m + 1, by omega, by go_num, by rw [st9.out], by rw [st9.out]; exact ozB, gzB⟩
          case measure => omega
        · skip
          have st9 := Lib.hid (hstep.out.trans (stepG_in (cf := edgeCmp) (p := x) (q := q) a))
          clear c1' c2' c3' hstep
          have X9 := Lib.hid (says_edge.kept S2.out gA.keeps)
          have t0 := gA.cell e0.out
          have t1 := gA.cell e1.out
          have t2 := gA.cell e2.out
          have t3 := gA.cell e3.out
          have t4 := gA.cell e4.out
          have t5 := gA.cell e5.out
          have t6 := gA.cell e6.out
          have t7 := gA.cell e7.out
          have t8 := gA.cell e8.out
          have t9 := gA.cell e9.out
          have t10 := gA.cell e10.out
          have t11 := gA.cell e11.out
          have hsz9 := gA.size
          have ho9 := Lib.hid oA
          have gwq := Lib.hid gA
          clear oA gA
          go_wp2_with (first | fail | (at_builtin; (refine wpList_appK (m := [q]) rfl (.tmp 33) (.tmp 38) 36 rfl rfl says_edge ho9.out _ (cells_one says_edge X9.out) rfl _ 224 Tryz.underlying36 info_edge rfl (by omega) znoE (by simp only [List.length_cons, List.length_nil]; omega) (by omega) hsz9 ?_); intro vB wzB hOB hKB hCB hWB hGB))
          have gzB := hGB W1 (Nat.le_refl _) gwq.out
          have ozB := hOB
          clear hOB hKB hCB hWB hGB ho9 X9 gwq hsz9 t0 t1 t2 t3 t4 t5 t6 t7 t8 t9 t10 t11
          go_wp2_with fail
          go_roundg (gk - 1)
          case rel => exact ⟨m + 1, by omega, by go_num, by rw [st9.out], by rw [st9.out]; exact ozB, gzB⟩
          case measure => omega
      · skip
        have st9 := Lib.hid (hstep.out.trans (c2'.out hc))
        clear c1' c2' c3' hstep
        subst hc
        have X9 := Lib.hid (says_edge.kept S2.out gA.keeps)
        have t0 := gA.cell e0.out
        have t1 := gA.cell e1.out
        have t2 := gA.cell e2.out
        have t3 := gA.cell e3.out
        have t4 := gA.cell e4.out
        have t5 := gA.cell e5.out
        have t6 := gA.cell e6.out
        have t7 := gA.cell e7.out
        have t8 := gA.cell e8.out
        have t9 := gA.cell e9.out
        have t10 := gA.cell e10.out
        have t11 := gA.cell e11.out
        have hsz9 := gA.size
        have ho9 := Lib.hid oA
        have gwq := Lib.hid gA
        clear oA gA
        go_wp2_with (first | fail | (at_builtin; (refine wpList_appK (m := [q]) rfl (.tmp 33) (.tmp 38) 36 rfl rfl says_edge ho9.out _ (cells_one says_edge X9.out) rfl _ 224 Tryz.underlying36 info_edge rfl (by omega) znoE (by simp only [List.length_cons, List.length_nil]; omega) (by omega) hsz9 ?_); intro vB wzB hOB hKB hCB hWB hGB))
        have gzB := hGB W1 (Nat.le_refl _) gwq.out
        have ozB := hOB
        clear hOB hKB hCB hWB hGB ho9 X9 gwq hsz9 t0 t1 t2 t3 t4 t5 t6 t7 t8 t9 t10 t11
        go_wp2_with fail
        go_roundg (gk - 1)
        case rel => exact ⟨m + 1, by omega, by go_num, by rw [st9.out], by rw [st9.out]; exact ozB, gzB⟩
        case measure => omega
      · skip
        have st9 := Lib.hid (hstep.out.trans (c3'.out hc))
        clear c1' c2' c3' hstep
        have X9 := Lib.hid (says_edge.kept S2.out gA.keeps)
        have t0 := gA.cell e0.out
        have t1 := gA.cell e1.out
        have t2 := gA.cell e2.out
        have t3 := gA.cell e3.out
        have t4 := gA.cell e4.out
        have t5 := gA.cell e5.out
        have t6 := gA.cell e6.out
        have t7 := gA.cell e7.out
        have t8 := gA.cell e8.out
        have t9 := gA.cell e9.out
        have t10 := gA.cell e10.out
        have t11 := gA.cell e11.out
        have hsz9 := gA.size
        have ho9 := Lib.hid oA
        have gwq := Lib.hid gA
        clear oA gA
        go_wp2_with (first | fail | (at_builtin; (refine wpList_appK (m := [q]) rfl (.tmp 33) (.tmp 38) 36 rfl rfl says_edge ho9.out _ (cells_one says_edge X9.out) rfl _ 224 Tryz.underlying36 info_edge rfl (by omega) znoE (by simp only [List.length_cons, List.length_nil]; omega) (by omega) hsz9 ?_); intro vB wzB hOB hKB hCB hWB hGB))
        have gzB := hGB W1 (Nat.le_refl _) gwq.out
        have ozB := hOB
        clear hOB hKB hCB hWB hGB ho9 X9 gwq hsz9 t0 t1 t2 t3 t4 t5 t6 t7 t8 t9 t10 t11
        go_wp2_with fail
        go_roundg (gk - 1)
        case rel => exact ⟨m + 1, by omega, by go_num, by rw [st9.out], by rw [st9.out]; exact ozB, gzB⟩
        case measure => omega
    · obtain rfl : m = M := by omega
      have hall : l.take m = l := by rw [← hM]; exact List.take_length
      rw [hall] at hN ⊢
      have hia := putG_fold (cf := edgeCmp) x l
      have hfl := stepG_fold_len (cf := edgeCmp) x l ([], false)
      obtain ⟨⟨a, bo⟩, hst⟩ : ∃ s, l.foldl (stepG edgeCmp x) ([], false) = s := ⟨_, rfl⟩
      rw [hst] at hN hfl ⊢
      replace hN : OwnK 12 Edge12R 84 wr W1.heap.size _ a := hN
      have hal : a.length ≤ m + 1 := by simp at hfl; omega
      have hia2 := Lib.hid (hia a bo hst)
      clear hia hst hfl hall
      cases bo
      · skip
        have t0 := hGr.cell p0.out
        have t1 := hGr.cell p1.out
        have t2 := hGr.cell p2.out
        have t3 := hGr.cell p3.out
        have t4 := hGr.cell p4.out
        have t5 := hGr.cell p5.out
        have t6 := hGr.cell p6.out
        have t7 := hGr.cell p7.out
        have t8 := hGr.cell p8.out
        have t9 := hGr.cell p9.out
        have t10 := hGr.cell p10.out
        have t11 := hGr.cell p11.out
        have X8 := Lib.hid (says_edge.kept S1.out hGr.keeps)
        have hsz8 := hGr.size
        have ho8 := Lib.hid hN
        have gwp := Lib.hid hGr
        clear hN hGr
        go_wp2_with (first | fail | (at_builtin; (refine wpList_appK (m := [x]) rfl (.tmp 42) (.tmp 44) 36 rfl rfl says_edge ho8.out _ (cells_one says_edge X8.out) rfl _ 224 Tryz.underlying36 info_edge rfl (by omega) znoE (by simp only [List.length_cons, List.length_nil]; omega) (by omega) hsz8 ?_); intro vA wzA hOA hKA hCA hWA hGA))
        have gzA := Lib.hid (G1.out.trans (hGA W1 (Nat.le_refl _) gwp.out))
        have hrow := Lib.hid hOA.row
        clear hOA hKA hCA hWA hGA ho8 X8 gwp hsz8 t0 t1 t2 t3 t4 t5 t6 t7 t8 t9 t10 t11
        go_wp2_with fail
        go_ret
        exact ⟨_, rfl, by rw [hia2.out]; exact hrow.out, gzA.out⟩
      · have gzA := Lib.hid (G1.out.trans hGr)
        have hrow := Lib.hid hN.row
        clear hN hGr
        go_wp2_with fail
        go_ret
        exact ⟨_, rfl, by rw [hia2.out]; exact hrow.out, gzA.out⟩
end Go.Proofs.YtngbcbncllfblaaGreat
