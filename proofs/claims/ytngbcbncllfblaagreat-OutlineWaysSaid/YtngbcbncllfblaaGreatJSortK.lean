/- clear of a row's tail, at structs of k cells. Conditions: none. slices.CompactFunc at api.Edge, whatever the test, on a row that the caller owns. Condition: at most 2^40 elements. slices.CompactFunc at api.Spot, whatever the test, on a row that the caller owns. Condition: at most 2^40 elements. slices.SortFunc on a row of structs of k cells that the caller owns, whatever the order. Condition: fewer than 2^62 elements. -/
import Derived.Test.YtngbcbncllfblaaGreatJGrowE
import Derived.Test.YtngbcbncllfblaaGreatJElE
import Derived.BigFrame
import Derived.Deep.LoopGhost
import Derived.Deep.RegionHeld3
import Derived.Shelf.SlSortCmp.WholeK
import Derived.Shelf.SlSortCmp.NoneTotal
namespace Go.Proofs.YtngbcbncllfblaaGreat
open Go.RowKit

section
variable {z : Value} {k : Nat}
theorem zeroK_mem (hzs : z.cells.size = k) (hk : 0 < k) {n : Nat} {p : Value → Prop} (h : ∀ u ∈ z.cells, p u) : ∀ u ∈ (Builtin.zeroCells z.cells n).toList, p u := by
  intro u hu
  simp only [Builtin.zeroCells, Array.mem_toList_iff, Array.mem_map, Array.mem_range] at hu
  obtain ⟨j, -, rfl⟩ := hu
  have hlt : j % z.cells.size < z.cells.size := Nat.mod_lt _ (by omega)
  rw [getElem!_pos z.cells _ hlt]
  exact h _ (Array.getElem_mem hlt)
theorem zeroK_len (hzs : z.cells.size = k) (n : Nat) : (Builtin.zeroCells z.cells n).toList.length = n * k := by simp [Builtin.zeroCells, hzs]
theorem madeK_mem (hzs : z.cells.size = k) (hk : 0 < k) {n : Nat} {p : Value → Prop} (h : ∀ u ∈ z.cells, p u) : ∀ u ∈ madeCells z.cells n, p u := by
  intro u hu
  simp only [madeCells, Array.mem_map, Array.mem_range] at hu
  obtain ⟨j, -, rfl⟩ := hu
  have hlt : j % z.cells.size < z.cells.size := Nat.mod_lt _ (by omega)
  rw [getElem!_pos z.cells _ hlt]
  exact h _ (Array.getElem_mem hlt)
theorem run_clearK {P : Program} (W : World) (g o s n c : Nat) (cur : Array Value) (e t ty : TypeId) (ht : P.underlying t = some (.slice e)) (hz : ∀ w : World, (zeroValue e).run P w = .ok z w) (hzs : z.cells.size = k) (hk : 0 < k) (hone : ∀ u ∈ z.cells, u.oneCell' = true)
    (hg : W.heap[g]? = some (.cells cur e (0, 0))) (hn : 0 < n) (ho : o = s) (hs : s + n * k ≤ cur.size) :
    (Builtin.clear_ #[t] ty #[.slice (some ⟨g, o, none⟩) n c]).run P W = .ok (.tuple #[]) (W.setCells g s (Builtin.zeroCells z.cells n).toList) := by
  subst ho
  have h := stores_of_holds P (holdsK hg) o (Builtin.zeroCells z.cells n).toList (by rw [zeroK_len hzs]; exact hs) (zeroK_mem hzs hk hone)
  rw [Nat.zero_add] at h
  obtain ⟨m, rfl⟩ : ∃ m, n = m + 1 := ⟨n - 1, by omega⟩
  simp [Builtin.clear_, run_underlying ht, hz, h]
end
end Go.Proofs.YtngbcbncllfblaaGreat
namespace Go.Proofs.YtngbcbncllfblaaGreat
open Go.RowKit

theorem elE {e : TypeId} {w : World} {base g o n cap : Nat} {l : List EdgeQ} (h : OwnK 12 Edge12R e w base (.slice (some ⟨g, o, none⟩) n cap) l) {i : Nat} {x : EdgeQ} (hx : l[i]? = some x) :
    ∃ b11 A11 n11 c11 C11 m11 d11 b12 A12 n12 c12 C12 m12 d12 b13 A13 n13 c13 C13 m13 d13 b14 A14 n14 c14 C14 m14 d14, (w.cell? ⟨g, o + i * 12, none⟩ = some (.bool b11) ∧ w.cell? ⟨g, o + i * 12 + 1, none⟩ = some (.slice A11 n11 c11) ∧ w.cell? ⟨g, o + i * 12 + 2, none⟩ = some (.slice C11 m11 d11) ∧ w.cell? ⟨g, o + i * 12 + 3, none⟩ = some (.bool b12) ∧ w.cell? ⟨g, o + i * 12 + 4, none⟩ = some (.slice A12 n12 c12) ∧ w.cell? ⟨g, o + i * 12 + 5, none⟩ = some (.slice C12 m12 d12) ∧ w.cell? ⟨g, o + i * 12 + 6, none⟩ = some (.bool b13) ∧ w.cell? ⟨g, o + i * 12 + 7, none⟩ = some (.slice A13 n13 c13) ∧ w.cell? ⟨g, o + i * 12 + 8, none⟩ = some (.slice C13 m13 d13) ∧ w.cell? ⟨g, o + i * 12 + 9, none⟩ = some (.bool b14) ∧ w.cell? ⟨g, o + i * 12 + 10, none⟩ = some (.slice A14 n14 c14) ∧ w.cell? ⟨g, o + i * 12 + 11, none⟩ = some (.slice C14 m14 d14)) ∧ (∀ j, w.frozen? ⟨g, j, none⟩ = false) ∧ Hid (Edge12R w #[.bool b11, .slice A11 n11 c11, .slice C11 m11 d11, .bool b12, .slice A12 n12 c12, .slice C12 m12 d12, .bool b13, .slice A13 n13 c13, .slice C13 m13 d13, .bool b14, .slice A14 n14 c14, .slice C14 m14 d14] x) := by
  obtain ⟨-, hfz, us, hR, hc⟩ := h.el hx
  have h3 := hR
  obtain ⟨us1, us2, rfl, h4, h5⟩ := h3
  obtain ⟨b11, A11, n11, c11, C11, m11, d11, b12, A12, n12, c12, C12, m12, d12, e, -, -⟩ := h4
  injection e with e
  subst e
  obtain ⟨b13, A13, n13, c13, C13, m13, d13, b14, A14, n14, c14, C14, m14, d14, e, -, -⟩ := h5
  injection e with e
  subst e
  exact ⟨b11, A11, n11, c11, C11, m11, d11, b12, A12, n12, c12, C12, m12, d12, b13, A13, n13, c13, C13, m13, d13, b14, A14, n14, c14, C14, m14, d14, ⟨hc 0 (by omega), hc 1 (by omega), hc 2 (by omega), hc 3 (by omega), hc 4 (by omega), hc 5 (by omega), hc 6 (by omega), hc 7 (by omega), hc 8 (by omega), hc 9 (by omega), hc 10 (by omega), hc 11 (by omega)⟩, hfz, hR⟩
theorem zoneE : ∀ u ∈ (Value.agg #[.bool false, .slice none 0 0, .slice none 0 0, .bool false, .slice none 0 0, .slice none 0 0, .bool false, .slice none 0 0, .slice none 0 0, .bool false, .slice none 0 0, .slice none 0 0]).cells, u.oneCell' = true := by
  intro u hu
  simp only [Value.cells, List.mem_toArray, List.mem_cons, List.not_mem_nil, or_false] at hu
  rcases hu with rfl | rfl | rfl | rfl | rfl | rfl | rfl | rfl | rfl | rfl | rfl | rfl <;> rfl
theorem znoE : ∀ u ∈ (Value.agg #[.bool false, .slice none 0 0, .slice none 0 0, .bool false, .slice none 0 0, .slice none 0 0, .bool false, .slice none 0 0, .slice none 0 0, .bool false, .slice none 0 0, .slice none 0 0]).cells, NoInt u := by
  intro u hu k x e
  subst e
  simp [Value.cells] at hu

set_option maxRecDepth 100000 in
set_option maxHeartbeats 16000000 in
theorem compE_any (B : EdgeQ → Prop) (I : World → Prop) (hIg : ∀ W W', I W → Grew W W' → I W') (g9 : Nat) (cb : Array Value) (eg : ∀ args w, (callFunc g9 args).run Tryz.prog w = .ok (.enter g9 args) w)
    (heq : ∀ (W : World) (us vs : Array Value) (x y : EdgeQ), Edge12R W us x → Edge12R W vs y → B x → B y → I W → Calls Tryz.prog g9 (#[.agg us, .agg vs] ++ cb) W fun e w' => e = .returned (.bool (decide (x = y))) ∧ Grew W w')
    (base : Nat) (v : Value) (l : List EdgeQ) (w : World) (hO : OwnK 12 Edge12R 84 w base v l) (hB : ∀ x ∈ l, B x) (hl : l.length ≤ 1099511627776) (hI : I w) (hIw : ∀ g, v.ownBlock = some g → ∀ W W', I W → Wrote g W W' → I W') :
    Calls Tryz.prog 135 #[v, .func (.func g9) #[] cb] w fun e w' => ∃ v', e = .returned v' ∧ OwnK 12 Edge12R 84 w' base v' (compG l) ∧ ∀ W, W.heap.size ≤ base → Grew W w → Grew W w' := by
  obtain ⟨L, hL⟩ : ∃ L, l.length = L := ⟨_, rfl⟩
  rw [hL] at hl
  replace hB := Lib.hid hB
  replace heq := Lib.hid heq
  by_cases hsh : L < 2
  · have hc := compG_short (l := l) (by omega)
    obtain ⟨A, c, rfl, -, -, -⟩ := hO.row
    rw [hL] at hO ⊢
    replace hO := Lib.hid hO
    have h2 : (L : Int) < 2 := by omega
    have hm : L ≤ 9223372036854775807 := by omega
    go_enter Tryz.func135, Tryz.ntmps135
    go_wp2_with fail
    go_ret
    exact ⟨_, rfl, by rw [hc]; exact hO.out, fun _ _ h => h⟩
  obtain ⟨g, cap, rfl, hcap, hcm, hbg⟩ := hO.place (by omega)
  replace hIw := Lib.hid (hIw g rfl)
  replace hIg := Lib.hid hIg
  replace hI := Lib.hid hI
  rw [hL] at hO hcap ⊢
  have hm : cap ≤ 9223372036854775807 := by unfold maxLen at hcm; omega
  have h2 : ¬ (L : Int) < 2 := by omega
  have hc1 : compG (l.take 1) = l.take 1 := compG_short (by simp; omega)
  obtain ⟨o, ho⟩ : ∃ o, o = 0 := ⟨_, rfl⟩
  rw [← ho] at hO ⊢
  replace ho := Lib.hid ho
  replace hO := Lib.hid hO
  go_enter Tryz.func135, Tryz.ntmps135
  go_wp2_with fail
  go_loopg [5] (L - 1) (fun gk kk wr => ∃ j : Nat, gk + j = L ∧ 1 ≤ j ∧ kk = .int .i64 j ∧ compG (l.take j) = l.take j ∧ OwnK 12 Edge12R 84 wr base (.slice (some ⟨g, o, none⟩) L cap) l ∧ Grew w wr ∧ I wr)
  case atStart => exact ⟨1, by omega, by omega, rfl, hc1, hO.out, Grew.refl _, hI.out⟩
  case round =>
    obtain ⟨j, hj, hj1, rfl, hcj, hR, hG, hIr⟩ := hrel
    replace hIr := Lib.hid (hIg.out _ _ hIr ((Grew.refl wr).drew))
    by_cases hlt : j < L
    · obtain ⟨i, hi⟩ : ∃ i, i + 1 = j := ⟨j - 1, by omega⟩
      obtain ⟨p, hp⟩ : ∃ p, l[i]? = some p := ⟨l[i]'(by omega), List.getElem?_eq_getElem _⟩
      obtain ⟨q, hq9⟩ : ∃ q, l[j]? = some q := ⟨l[j]'(by omega), List.getElem?_eq_getElem _⟩
      have hct : compG (l.take (j + 1)) = if p = q then compG (l.take j) else compG (l.take j) ++ [q] := by subst hi; exact compG_take hp hq9
      have htk := takeG_snoc hq9
      obtain ⟨b11, A11, n11, c11, C11, m11, d11, b12, A12, n12, c12, C12, m12, d12, b13, A13, n13, c13, C13, m13, d13, b14, A14, n14, c14, C14, m14, d14, ⟨e0, e1, e2, e3, e4, e5, e6, e7, e8, e9, e10, e11⟩, -, S1⟩ := elE hR hq9
      obtain ⟨b21, A21, n21, c21, C21, m21, d21, b22, A22, n22, c22, C22, m22, d22, b23, A23, n23, c23, C23, m23, d23, b24, A24, n24, c24, C24, m24, d24, ⟨f0, f1, f2, f3, f4, f5, f6, f7, f8, f9, f10, f11⟩, -, S2⟩ := elE hR hp
      have q1 := Lib.hid (hB.out q (List.mem_of_getElem? hq9))
      have q2 := Lib.hid (hB.out p (List.mem_of_getElem? hp))
      have hwj : IntKind.i64.wrap ((j : Int) - 1) = (i : Int) := by rw [IntWalk.i64_in _ (by omega)]; omega
      have hjl : (j : Int) < (L : Int) := by omega
      have hil : (i : Int) < (L : Int) := by omega
      replace hct := Lib.hid hct
      replace htk := Lib.hid htk
      replace hcj := Lib.hid hcj
      replace hR := Lib.hid hR
      replace hG := Lib.hid hG
      clear hp hq9
      go_wp2_with fail
      go_region_held3 (fun w' => w'.cell? ⟨g, o + j * 12, none⟩ = some (.bool b11) ∧ w'.cell? ⟨g, o + j * 12 + 1, none⟩ = some (.slice A11 n11 c11) ∧ w'.cell? ⟨g, o + j * 12 + 2, none⟩ = some (.slice C11 m11 d11) ∧ w'.cell? ⟨g, o + j * 12 + 3, none⟩ = some (.bool b12) ∧ w'.cell? ⟨g, o + j * 12 + 4, none⟩ = some (.slice A12 n12 c12) ∧ w'.cell? ⟨g, o + j * 12 + 5, none⟩ = some (.slice C12 m12 d12) ∧ w'.cell? ⟨g, o + j * 12 + 6, none⟩ = some (.bool b13) ∧ w'.cell? ⟨g, o + j * 12 + 7, none⟩ = some (.slice A13 n13 c13) ∧ w'.cell? ⟨g, o + j * 12 + 8, none⟩ = some (.slice C13 m13 d13) ∧ w'.cell? ⟨g, o + j * 12 + 9, none⟩ = some (.bool b14) ∧ w'.cell? ⟨g, o + j * 12 + 10, none⟩ = some (.slice A14 n14 c14) ∧ w'.cell? ⟨g, o + j * 12 + 11, none⟩ = some (.slice C14 m14 d14) ∧ w'.cell? ⟨g, o + i * 12, none⟩ = some (.bool b21) ∧ w'.cell? ⟨g, o + i * 12 + 1, none⟩ = some (.slice A21 n21 c21) ∧ w'.cell? ⟨g, o + i * 12 + 2, none⟩ = some (.slice C21 m21 d21) ∧ w'.cell? ⟨g, o + i * 12 + 3, none⟩ = some (.bool b22) ∧ w'.cell? ⟨g, o + i * 12 + 4, none⟩ = some (.slice A22 n22 c22) ∧ w'.cell? ⟨g, o + i * 12 + 5, none⟩ = some (.slice C22 m22 d22) ∧ w'.cell? ⟨g, o + i * 12 + 6, none⟩ = some (.bool b23) ∧ w'.cell? ⟨g, o + i * 12 + 7, none⟩ = some (.slice A23 n23 c23) ∧ w'.cell? ⟨g, o + i * 12 + 8, none⟩ = some (.slice C23 m23 d23) ∧ w'.cell? ⟨g, o + i * 12 + 9, none⟩ = some (.bool b24) ∧ w'.cell? ⟨g, o + i * 12 + 10, none⟩ = some (.slice A24 n24 c24) ∧ w'.cell? ⟨g, o + i * 12 + 11, none⟩ = some (.slice C24 m24 d24))
        (first | exact ⟨e0, e1, e2, e3, e4, e5, e6, e7, e8, e9, e10, e11, f0, f1, f2, f3, f4, f5, f6, f7, f8, f9, f10, f11⟩ | exact ⟨gc.cell e0, gc.cell e1, gc.cell e2, gc.cell e3, gc.cell e4, gc.cell e5, gc.cell e6, gc.cell e7, gc.cell e8, gc.cell e9, gc.cell e10, gc.cell e11, gc.cell f0, gc.cell f1, gc.cell f2, gc.cell f3, gc.cell f4, gc.cell f5, gc.cell f6, gc.cell f7, gc.cell f8, gc.cell f9, gc.cell f10, gc.cell f11⟩)
        (first | (go_at_fn g9; refine (heq.out _ _ _ q p (says_edge.kept S1.out ((Grew.refl wr).drew).keeps) (says_edge.kept S2.out ((Grew.refl wr).drew).keeps) q1.out q2.out hIr.out).mono ?_; rintro e wx ⟨rfl, gc⟩))
      have gA := Lib.hid ((hG.out.drew).trans gc)
      have iA := Lib.hid (hIg.out _ _ hIr.out gc)
      have oA := Lib.hid (OwnK.grew says_edge hR.out (((Grew.refl wr).drew).trans gc))
      clear hR hG gc hIr e0 e1 e2 e3 e4 e5 e6 e7 e8 e9 e10 e11 f0 f1 f2 f3 f4 f5 f6 f7 f8 f9 f10 f11 S1 S2 q1 q2
      by_cases hpq : p = q
      · have hb : decide (q = p) = true := decide_eq_true hpq.symm
        rw [hb]
        have hj0 := Lib.hid ((hct.out.trans (if_pos hpq)).trans hcj.out)
        clear hct hcj htk hb
        go_wp2_with fail
        obtain ⟨G, rfl⟩ : ∃ G : Nat, G = gk := ⟨_, rfl⟩
        obtain ⟨D, hD⟩ : ∃ D, L - j = D := ⟨_, rfl⟩
        obtain ⟨E, hE⟩ : ∃ E, cap - j = E := ⟨_, rfl⟩
        rw [hD, hE]
        go_loopg [5, 7] (L - 1 - j) (fun gk kk k2 wr => ∃ (m n s : Nat) (r : List EdgeQ), gk + (j + s) = L ∧ kk = .int .i64 n ∧ m + 1 = s ∧ k2 = .int .i64 s ∧ 1 ≤ n ∧ n ≤ j + m ∧ r.length = L ∧ r.take n = compG (l.take (j + s)) ∧ (∀ i, j + m ≤ i → r[i]? = l[i]?) ∧ OwnK 12 Edge12R 84 wr base (.slice (some ⟨g, o, none⟩) L cap) r ∧ I wr ∧ ∀ W : World, W.heap.size ≤ base → Grew W w → Grew W wr)
        case atStart => exact ⟨0, j, 1, l, by omega, rfl, rfl, rfl, by omega, by omega, hL, hj0.out.symm, fun _ _ => rfl, oA.out, iA.out, fun _ _ h => h.trans gA.out⟩
        case round =>
          obtain ⟨m, n, s, r, hgk, rfl, hsm, rfl, hn1, hnm, hrl, hrt, hri, hR, hIr, hGf⟩ := hrel
          replace hIr := Lib.hid (hIg.out _ _ hIr ((Grew.refl wr).drew))
          by_cases hlt2 : s < D
          · obtain ⟨p2, hp2⟩ : ∃ p, l[j + m]? = some p := ⟨l[j + m]'(by omega), List.getElem?_eq_getElem _⟩
            obtain ⟨q2, hq2⟩ : ∃ q, l[j + s]? = some q := ⟨l[j + s]'(by omega), List.getElem?_eq_getElem _⟩
            have hct : compG (l.take (j + (s + 1))) = if p2 = q2 then compG (l.take (j + s)) else compG (l.take (j + s)) ++ [q2] := by subst hsm; exact compG_take hp2 hq2
            obtain ⟨b31, A31, n31, c31, C31, m31, d31, b32, A32, n32, c32, C32, m32, d32, b33, A33, n33, c33, C33, m33, d33, b34, A34, n34, c34, C34, m34, d34, ⟨e0, e1, e2, e3, e4, e5, e6, e7, e8, e9, e10, e11⟩, -, S1⟩ := elE hR ((hri _ (by omega)).trans hq2)
            obtain ⟨b41, A41, n41, c41, C41, m41, d41, b42, A42, n42, c42, C42, m42, d42, b43, A43, n43, c43, C43, m43, d43, b44, A44, n44, c44, C44, m44, d44, ⟨f0, f1, f2, f3, f4, f5, f6, f7, f8, f9, f10, f11⟩, -, S2⟩ := elE hR ((hri _ (by omega)).trans hp2)
            have ea : o + (j + s) * 12 = o + j * 12 + s * 12 := by omega
            have eb : o + (j + m) * 12 = o + j * 12 + m * 12 := by omega
            rw [ea] at e0 e1 e2 e3 e4 e5 e6 e7 e8 e9 e10 e11
            rw [eb] at f0 f1 f2 f3 f4 f5 f6 f7 f8 f9 f10 f11
            have q1 := Lib.hid (hB.out q2 (List.mem_of_getElem? hq2))
            have q3 := Lib.hid (hB.out p2 (List.mem_of_getElem? hp2))
            have hwj : IntKind.i64.wrap ((s : Int) - 1) = (m : Int) := by rw [IntWalk.i64_in _ (by omega)]; omega
            have hjl : (s : Int) < (D : Int) := by omega
            have hil : (m : Int) < (D : Int) := by omega
            have hnl : (n : Int) < (L : Int) := by omega
            replace hct := Lib.hid hct
            replace hrt := Lib.hid hrt
            replace hsm := Lib.hid hsm
            replace hri := Lib.hid hri
            replace hR := Lib.hid hR
            replace hGf := Lib.hid hGf
            clear hp2 hq2
            go_wp2_with fail
            go_region_held3 (fun w' => w'.cell? ⟨g, o + j * 12 + s * 12, none⟩ = some (.bool b31) ∧ w'.cell? ⟨g, o + j * 12 + s * 12 + 1, none⟩ = some (.slice A31 n31 c31) ∧ w'.cell? ⟨g, o + j * 12 + s * 12 + 2, none⟩ = some (.slice C31 m31 d31) ∧ w'.cell? ⟨g, o + j * 12 + s * 12 + 3, none⟩ = some (.bool b32) ∧ w'.cell? ⟨g, o + j * 12 + s * 12 + 4, none⟩ = some (.slice A32 n32 c32) ∧ w'.cell? ⟨g, o + j * 12 + s * 12 + 5, none⟩ = some (.slice C32 m32 d32) ∧ w'.cell? ⟨g, o + j * 12 + s * 12 + 6, none⟩ = some (.bool b33) ∧ w'.cell? ⟨g, o + j * 12 + s * 12 + 7, none⟩ = some (.slice A33 n33 c33) ∧ w'.cell? ⟨g, o + j * 12 + s * 12 + 8, none⟩ = some (.slice C33 m33 d33) ∧ w'.cell? ⟨g, o + j * 12 + s * 12 + 9, none⟩ = some (.bool b34) ∧ w'.cell? ⟨g, o + j * 12 + s * 12 + 10, none⟩ = some (.slice A34 n34 c34) ∧ w'.cell? ⟨g, o + j * 12 + s * 12 + 11, none⟩ = some (.slice C34 m34 d34) ∧ w'.cell? ⟨g, o + j * 12 + m * 12, none⟩ = some (.bool b41) ∧ w'.cell? ⟨g, o + j * 12 + m * 12 + 1, none⟩ = some (.slice A41 n41 c41) ∧ w'.cell? ⟨g, o + j * 12 + m * 12 + 2, none⟩ = some (.slice C41 m41 d41) ∧ w'.cell? ⟨g, o + j * 12 + m * 12 + 3, none⟩ = some (.bool b42) ∧ w'.cell? ⟨g, o + j * 12 + m * 12 + 4, none⟩ = some (.slice A42 n42 c42) ∧ w'.cell? ⟨g, o + j * 12 + m * 12 + 5, none⟩ = some (.slice C42 m42 d42) ∧ w'.cell? ⟨g, o + j * 12 + m * 12 + 6, none⟩ = some (.bool b43) ∧ w'.cell? ⟨g, o + j * 12 + m * 12 + 7, none⟩ = some (.slice A43 n43 c43) ∧ w'.cell? ⟨g, o + j * 12 + m * 12 + 8, none⟩ = some (.slice C43 m43 d43) ∧ w'.cell? ⟨g, o + j * 12 + m * 12 + 9, none⟩ = some (.bool b44) ∧ w'.cell? ⟨g, o + j * 12 + m * 12 + 10, none⟩ = some (.slice A44 n44 c44) ∧ w'.cell? ⟨g, o + j * 12 + m * 12 + 11, none⟩ = some (.slice C44 m44 d44))
              (first | exact ⟨e0, e1, e2, e3, e4, e5, e6, e7, e8, e9, e10, e11, f0, f1, f2, f3, f4, f5, f6, f7, f8, f9, f10, f11⟩ | exact ⟨gc.cell e0, gc.cell e1, gc.cell e2, gc.cell e3, gc.cell e4, gc.cell e5, gc.cell e6, gc.cell e7, gc.cell e8, gc.cell e9, gc.cell e10, gc.cell e11, gc.cell f0, gc.cell f1, gc.cell f2, gc.cell f3, gc.cell f4, gc.cell f5, gc.cell f6, gc.cell f7, gc.cell f8, gc.cell f9, gc.cell f10, gc.cell f11⟩)
              (first | (go_at_fn g9; refine (heq.out _ _ _ q2 p2 (says_edge.kept S1.out ((Grew.refl wr).drew).keeps) (says_edge.kept S2.out ((Grew.refl wr).drew).keeps) q1.out q3.out hIr.out).mono ?_; rintro e wy ⟨rfl, gc⟩))
            have gB := ((Grew.refl wr).drew).trans gc
            have oB := OwnK.grew says_edge hR.out gB
            have SB := Lib.hid (says_edge.kept S1.out gB.keeps)
            have iB := Lib.hid (hIg.out _ _ hIr.out gc)
            have hGB := Lib.hid (fun (W : World) (h1 : W.heap.size ≤ base) (h2 : Grew W w) => (hGf.out W h1 h2).trans gB)
            have e0' := gc.cell e0
            have e1' := gc.cell e1
            have e2' := gc.cell e2
            have e3' := gc.cell e3
            have e4' := gc.cell e4
            have e5' := gc.cell e5
            have e6' := gc.cell e6
            have e7' := gc.cell e7
            have e8' := gc.cell e8
            have e9' := gc.cell e9
            have e10' := gc.cell e10
            have e11' := gc.cell e11
            clear hR hGf gc gB hIr e0 e1 e2 e3 e4 e5 e6 e7 e8 e9 e10 e11 f0 f1 f2 f3 f4 f5 f6 f7 f8 f9 f10 f11 S1 S2 q1 q3 hwj
            by_cases hpq2 : p2 = q2
            · have hb : decide (q2 = p2) = true := decide_eq_true hpq2.symm
              rw [hb]
              have hj1 := Lib.hid (hct.out.trans (if_pos hpq2))
              replace oB := Lib.hid oB
              clear hct hb e0' e1' e2' e3' e4' e5' e6' e7' e8' e9' e10' e11'
              go_wp2_with fail
              go_roundg (gk - 1)
              case rel => have hsm' := hsm.out; exact ⟨m + 1, n, s + 1, r, by omega, rfl, by omega, by go_num, hn1, by omega, hrl, by rw [hj1.out]; exact hrt.out, fun i hi => hri.out i (by omega), oB.out, iB.out, hGB.out⟩
              case measure => omega
            · have hb : decide (q2 = p2) = false := decide_eq_false fun h => hpq2 h.symm
              rw [hb]
              have hj1 := Lib.hid (hct.out.trans (if_neg hpq2))
              obtain ⟨pn, hpn⟩ : ∃ p, r[n]? = some p := ⟨r[n]'(by omega), List.getElem?_eq_getElem _⟩
              obtain ⟨_, _, _, _, _, _, _, _, _, _, _, _, _, _, _, _, _, _, _, _, _, _, _, _, _, _, _, _, ⟨k0, k1, k2, k3, k4, k5, k6, k7, k8, k9, k10, k11⟩, hfz, -⟩ := elE oB hpn
              have z0 := hfz (o + n * 12)
              have z1 := hfz (o + n * 12 + 1)
              have z2 := hfz (o + n * 12 + 2)
              have z3 := hfz (o + n * 12 + 3)
              have z4 := hfz (o + n * 12 + 4)
              have z5 := hfz (o + n * 12 + 5)
              have z6 := hfz (o + n * 12 + 6)
              have z7 := hfz (o + n * 12 + 7)
              have z8 := hfz (o + n * 12 + 8)
              have z9 := hfz (o + n * 12 + 9)
              have z10 := hfz (o + n * 12 + 10)
              have z11 := hfz (o + n * 12 + 11)
              replace oB := Lib.hid oB
              clear hct hb hfz hpn
              go_upto_region 13 with fail
              refine gen_wp ?_
              intro W9 hW9
              replace hW9 : W9 = wy.setCells g (o + n * 12) #[.bool b31, .slice A31 n31 c31, .slice C31 m31 d31, .bool b32, .slice A32 n32 c32, .slice C32 m32 d32, .bool b33, .slice A33 n33 c33, .slice C33 m33 d33, .bool b34, .slice A34 n34 c34, .slice C34 m34 d34].toList := hW9
              obtain ⟨hS1, -, hS2, hS3⟩ := OwnK.store (i := n) says_edge oB.out (by omega) SB.out
              rw [← hW9] at hS1 hS2
              have hG9 := Lib.hid (fun (W : World) (h1 : W.heap.size ≤ base) (h2 : Grew W w) => (hGB.out W h1 h2).wrote hS2 (Nat.le_trans h1 hS3))
              have iS := Lib.hid (hIw.out _ _ iB.out hS2)
              replace hS1 := Lib.hid hS1
              have hsm' := hsm.out
              have htk : (r.set n q2).take (n + 1) = compG (l.take (j + (s + 1))) := by rw [setG_take (by omega), hrt.out, hj1.out]
              have hri' : ∀ i, j + (m + 1) ≤ i → (r.set n q2)[i]? = l[i]? := fun i hi => by rw [List.getElem?_set_ne (by omega)]; exact hri.out i (by omega)
              replace htk := Lib.hid htk
              replace hri' := Lib.hid hri'
              clear hW9 hS2 hGB oB SB e0' e1' e2' e3' e4' e5' e6' e7' e8' e9' e10' e11' k0 k1 k2 k3 k4 k5 k6 k7 k8 k9 k10 k11 z0 z1 z2 z3 z4 z5 z6 z7 z8 z9 z10 z11 hrt hri hj1
              go_wp2_with fail
              go_roundg (gk - 1)
              case rel => exact ⟨m + 1, n + 1, s + 1, r.set n q2, by omega, by go_num, by omega, by go_num, by omega, by omega, by rw [List.length_set]; exact hrl, htk.out, hri'.out, hS1.out, iS.out, hG9.out⟩
              case measure => omega
          · have hall : l.take (j + s) = l := by rw [show j + s = l.length by omega]; exact List.take_length
            rw [hall] at hrt
            obtain ⟨cur, hg9, hcs9⟩ := hR.cur
            have hmul : L * 12 ≤ cap * 12 := Nat.mul_le_mul_right _ hcap
            have ho0 := ho.out
            have hcl : ∀ ty, (Builtin.clear_ #[36] ty #[.slice (some ⟨g, o + n * 12, none⟩) (L - n) (cap - n)]).run Tryz.prog wr = .ok (.tuple #[]) (wr.setCells g (o + n * 12) (Builtin.zeroCells (Value.agg #[.bool false, .slice none 0 0, .slice none 0 0, .bool false, .slice none 0 0, .slice none 0 0, .bool false, .slice none 0 0, .slice none 0 0, .bool false, .slice none 0 0, .slice none 0 0]).cells (L - n)).toList) :=
              fun ty => run_clearK wr g (o + n * 12) (o + n * 12) (L - n) (cap - n) cur _ _ ty Tryz.underlying36 Tryz.zeroValue84 (k := 12) rfl (by omega) zoneE hg9 (by omega) rfl (by omega)
            obtain ⟨hS1, hS2, hS3⟩ := OwnK.clear (i := n) (Builtin.zeroCells (Value.agg #[.bool false, .slice none 0 0, .slice none 0 0, .bool false, .slice none 0 0, .slice none 0 0, .bool false, .slice none 0 0, .slice none 0 0, .bool false, .slice none 0 0, .slice none 0 0]).cells (L - n)).toList says_edge hR (by omega) (by rw [zeroK_len (k := 12) rfl]; omega) (zeroK_mem (k := 12) rfl (by omega) znoE)
            rw [hrt] at hS1
            generalize wr.setCells g (o + n * 12) (Builtin.zeroCells (Value.agg #[.bool false, .slice none 0 0, .slice none 0 0, .bool false, .slice none 0 0, .slice none 0 0, .bool false, .slice none 0 0, .slice none 0 0, .bool false, .slice none 0 0, .slice none 0 0]).cells (L - n)).toList = W9 at hcl hS1 hS2
            have hG9 := Lib.hid (fun (W : World) (h1 : W.heap.size ≤ base) (h2 : Grew W w) => (hGf W h1 h2).wrote hS2 (Nat.le_trans h1 hS3))
            replace hS1 := Lib.hid hS1
            have hnl : (n : Int) < (L : Int) := by omega
            have hsl : ¬ (s : Int) < (D : Int) := by omega
            clear hR hGf hrt hri hS2 hg9 hcs9 hall hmul ho0
            have hnL : n < L := by omega
            go_wp2_with (simp only [hcl])
            go_ret
            exact ⟨_, rfl, hS1.out, hG9.out⟩
      · have hb : decide (q = p) = false := decide_eq_false fun h => hpq h.symm
        rw [hb]
        have hj0 := Lib.hid (((hct.out.trans (if_neg hpq)).trans (by rw [hcj.out])).trans htk.out.symm)
        clear hct hcj htk hb
        go_wp2_with fail
        go_roundg (gk - 1)
        case rel => exact ⟨j + 1, by omega, by omega, by go_num, hj0.out, oA.out, gA.out, iA.out⟩
        case measure => omega
    · obtain rfl : j = L := by omega
      have hall : l.take j = l := by rw [← hL]; exact List.take_length
      rw [hall] at hcj
      have hcj' := Lib.hid hcj
      have hR' := Lib.hid hR
      have hG' := Lib.hid hG
      clear hcj hR hG
      go_wp2_with fail
      go_ret
      exact ⟨_, rfl, by rw [hcj'.out]; exact hR'.out, fun _ _ h => h.trans hG'.out⟩
end Go.Proofs.YtngbcbncllfblaaGreat
namespace Go.Proofs.YtngbcbncllfblaaGreat
open Go.RowKit

end Go.Proofs.YtngbcbncllfblaaGreat
namespace Go.Proofs.YtngbcbncllfblaaGreat
open Go.RowKit

/-- Cells that say something in a world, and what they say. -/
def ElIn {V : Type} (R : World → Array Value → V → Prop) (B : V → Prop) (W : World) : Type := { x : Array Value × V // R W x.1 x.2 ∧ B x.2 }
section
variable {V : Type} {k : Nat} {R : World → Array Value → V → Prop} {B : V → Prop} {W : World} {cf : V → V → Int} {lt : V → V → Prop}
def ElIn.enc (x : ElIn R B W) : List Value := x.1.1.toList
def ElIn.val (x : ElIn R B W) : V := x.1.2
theorem ElIn.len (S : Says k R) (x : ElIn R B W) : x.enc.length = k := by unfold ElIn.enc; rw [Array.length_toList]; exact S.size x.2.1
def ElIn.cmp (cf : V → V → Int) (x y : ElIn R B W) : Int := cf x.val y.val
theorem ElIn.lt' (H : Ordr cf lt) (x y : ElIn R B W) : Go.Proofs.ltOf (ElIn.cmp cf) x y = true ↔ lt x.val y.val := by
  unfold Go.Proofs.ltOf ElIn.cmp
  rw [decide_eq_true_eq]; exact H.neg _ _
theorem ElIn.nlt (H : Ordr cf lt) (x y : ElIn R B W) : Go.Proofs.ltOf (ElIn.cmp cf) x y = false ↔ ¬ lt x.val y.val := by
  rw [← ElIn.lt' H]; simp
theorem ElIn.swo (H : Ordr cf lt) : Go.Sort.SWO (Go.Proofs.ltOf (ElIn.cmp (R := R) (B := B) (W := W) cf)) where
  irrefl x := (ElIn.nlt H _ _).2 fun h => H.irr _ _ h h
  trans x y z h1 h2 := (ElIn.lt' H _ _).2 (H.trans _ _ _ ((ElIn.lt' H _ _).1 h1) ((ElIn.lt' H _ _).1 h2))
  ntrans x y z h1 h2 := (ElIn.nlt H _ _).2 fun h => by
    have k1 := (ElIn.nlt H _ _).1 h1
    have k2 := (ElIn.nlt H _ _).1 h2
    rcases H.tri y.val z.val with h3 | h3 | h3
    · exact k2 h3
    · exact k1 (by rw [h3]; exact h)
    · exact k1 (H.trans _ _ _ h h3)

/-- A row's elements. -/
theorem elemsK {w : World} {g : Nat} {e : TypeId} {cur : Array Value} {l : List V} (S : Says k R) (hg : w.heap[g]? = some (.cells cur e (0, 0))) (hl : 0 < l.length) (hB : ∀ x ∈ l, B x)
    (hel : ∀ i x, l[i]? = some x → CellsR k R w (fun j => cur[i * k + j]?) x) :
    ∃ d : Array (ElIn R B w), d.size = l.length ∧ d.toList.map ElIn.val = l ∧ Nonempty (ElIn R B w) ∧ ∀ [Inhabited (ElIn R B w)], Go.Sort.HoldsK ElIn.enc k w g 0 d := by
  have key : ∀ i : Fin l.length, ∃ x : ElIn R B w, x.val = l[i.1] ∧ ∀ j, j < k → cur[i.1 * k + j]? = x.enc[j]? := by
    rintro ⟨i, hi⟩
    obtain ⟨us, h1, h2⟩ := hel i _ (List.getElem?_eq_getElem hi)
    exact ⟨⟨(us, l[i]), h2, hB _ (List.getElem_mem hi)⟩, rfl, fun j hj => (h1 j hj).trans (by unfold ElIn.enc; rw [Array.getElem?_toList])⟩
  have hd : ∀ i (hi : i < l.length), (Array.ofFn fun i => Classical.choose (key i))[i]? = some (Classical.choose (key ⟨i, hi⟩)) := by
    intro i hi
    rw [Array.getElem?_eq_getElem (by simpa using hi)]
    simp
  refine ⟨Array.ofFn fun i => Classical.choose (key i), by simp, ?_, ⟨Classical.choose (key ⟨0, hl⟩)⟩, ?_⟩
  · apply List.ext_getElem?
    intro i
    rw [List.getElem?_map, Array.getElem?_toList]
    by_cases hi : i < l.length
    · rw [hd i hi, List.getElem?_eq_getElem hi]
      exact congrArg some (Classical.choose_spec (key ⟨i, hi⟩)).1
    · rw [Array.getElem?_eq_none (by simpa using hi), List.getElem?_eq_none (by simpa using hi)]; rfl
  · intro inst j hj
    rw [Go.Sort.size_flatK, Array.size_ofFn] at hj
    rw [Go.Sort.get_flatK _ _ _ _ (by rw [Array.size_ofFn]; exact hj)]
    have hk : 0 < k := by
      rcases Nat.eq_zero_or_pos k with h | h
      · rw [h, Nat.mul_zero] at hj; omega
      · exact h
    have hi : j / k < l.length := Nat.div_lt_of_lt_mul (by rw [Nat.mul_comm]; exact hj)
    have hjm : j % k < k := Nat.mod_lt _ hk
    have e1 : (Array.ofFn fun i => Classical.choose (key i))[j / k]! = Classical.choose (key ⟨j / k, hi⟩) := by
      rw [getElem!_pos _ _ (by simpa using hi)]
      have := hd _ hi
      rw [Array.getElem?_eq_getElem (by simpa using hi)] at this
      injection this
    have e2 := (Classical.choose_spec (key ⟨j / k, hi⟩)).2 (j % k) hjm
    have e3 : j / k * k + j % k = j := Nat.div_add_mod' j k
    simp only [e3] at e2
    rw [e1]
    generalize Classical.choose (key ⟨j / k, hi⟩) = x at e2 ⊢
    have hlen := ElIn.len S x
    rw [List.getElem?_eq_getElem (by omega)] at e2
    refine ⟨?_, ?_⟩
    · rw [Nat.zero_add, cell_of_row w g j cur e (0, 0) hg, e2, getElem!_pos _ _ (by omega)]
      rfl
    · rw [Nat.zero_add]
      unfold World.frozen?
      rw [hg]
      simp

section
variable {w : World} [Inhabited (ElIn R B w)] {g cap : Nat} {e : TypeId} {cur : Array Value}
theorem sortK_block (hg : w.heap[g]? = some (.cells cur e (0, 0))) (m : Nat) (dk : Array (ElIn R B w)) (os : Array Obj) :
    (sortWorldK ElIn.enc k w g 0 m dk os).heap[g]? = some (.cells (Go.Sort.putCells id 0 (Go.Sort.flatK ElIn.enc k dk) cur) e (0, 0)) := by
  have hlt : g < w.heap.size := by
    rcases Nat.lt_or_ge g w.heap.size with h | h
    · exact h
    · rw [Array.getElem?_eq_none h] at hg; simp at hg
  unfold sortWorldK
  rw [Go.Sort.heap_grow_old _ _ (by rw [Go.Sort.size_putRowK]; exact hlt)]
  unfold Go.Sort.putRowK Go.Sort.putRow Go.Sort.mapBlock
  simp only [Array.getElem?_modify, if_true]
  show Option.map _ w.heap[g]? = _
  rw [hg]; rfl
theorem sortK_wrote (m : Nat) (dk : Array (ElIn R B w)) (os : Array Obj) : Wrote g w (sortWorldK ElIn.enc k w g 0 m dk os) := by
  refine ⟨rfl, rfl, rfl, size_sortWorldK_c _ _ _ _ _ _ _ _, Nat.le_add_right _ _, fun b hb hne => ?_⟩
  unfold sortWorldK
  rw [Go.Sort.heap_grow_old _ _ (by rw [Go.Sort.size_putRowK]; exact hb)]
  unfold Go.Sort.putRowK Go.Sort.putRow Go.Sort.mapBlock
  simp only [Array.getElem?_modify, if_neg (Ne.symm hne)]
  rfl
theorem sortK_own {base : Nat} (S : Says k R) (hbg : base ≤ g) (hg : w.heap[g]? = some (.cells cur e (0, 0))) (hN : NoInts w g) (hcm : cap ≤ maxLen) (hcs : cur.size = cap * k) (m : Nat) (dk : Array (ElIn R B w)) (os : Array Obj) (hn : dk.size ≤ cap) :
    OwnK k R e (sortWorldK ElIn.enc k w g 0 m dk os) base (.slice (some ⟨g, 0, none⟩) dk.size cap) (dk.toList.map ElIn.val) := by
  have hb := sortK_block (k := k) hg m dk os
  have hk := keepsK hN (sortK_wrote (k := k) m dk os)
  generalize sortWorldK ElIn.enc k w g 0 m dk os = W at hb hk
  have hfs : (Go.Sort.flatK ElIn.enc k dk).size = dk.size * k := Go.Sort.size_flatK _ _ _
  have hmul : dk.size * k ≤ cap * k := Nat.mul_le_mul_right _ hn
  have hel : ∀ t, t < dk.size * k → ∃ x : ElIn R B w, dk.toList[t / k]? = some x ∧ (Go.Sort.flatK ElIn.enc k dk)[t]? = x.enc[t % k]? := by
    intro t ht
    have hk0 : 0 < k := by
      rcases Nat.eq_zero_or_pos k with h | h
      · rw [h, Nat.mul_zero] at ht; omega
      · exact h
    have hi : t / k < dk.size := Nat.div_lt_of_lt_mul (by rw [Nat.mul_comm]; exact ht)
    have hm := Nat.mod_lt t hk0
    refine ⟨dk[t / k], by simp [hi], ?_⟩
    have e1 := Go.Sort.get_flatK ElIn.enc k dk t ht
    have hlen := ElIn.len S (dk[t / k])
    rw [getElem!_pos _ _ (by omega), getElem!_pos dk _ hi, getElem!_pos _ _ (by omega)] at e1
    rw [Array.getElem?_eq_getElem (by omega), List.getElem?_eq_getElem (by omega), e1]
  have hget : ∀ t, t < cap * k → (Go.Sort.putCells id 0 (Go.Sort.flatK ElIn.enc k dk) cur)[t]? = if t < dk.size * k then (Go.Sort.flatK ElIn.enc k dk)[t]? else cur[t]? := by
    intro t ht
    unfold Go.Sort.putCells
    rw [Array.getElem?_mapIdx, Array.getElem?_eq_getElem (by omega)]
    simp only [Option.map_some, id]
    by_cases h : t < dk.size * k
    · rw [if_pos (by omega), if_pos h, Array.getElem?_eq_getElem (by omega), Nat.sub_zero, getElem!_pos _ _ (by omega)]
    · rw [if_neg (by omega), if_neg h]
  refine .inr ⟨g, cap, _, by simp, hbg, fun p u hu => ?_, hb, by simpa using hn, hcm, by simp [Go.Sort.putCells, hcs], fun i p hp => ?_⟩
  · rw [cell_of_row W g p _ e (0, 0) hb] at hu
    have hp : p < cap * k := by
      rcases Nat.lt_or_ge p (cap * k) with h | h
      · exact h
      · rw [Array.getElem?_eq_none (by simp [Go.Sort.putCells, hcs]; exact h)] at hu; simp at hu
    rw [hget p hp] at hu
    split at hu
    · next h =>
      obtain ⟨x, -, h2⟩ := hel p h
      rw [h2] at hu
      exact S.noint x.2.1 u (List.mem_of_getElem? hu)
    · exact hN p u (by rw [cell_of_row w g p cur e (0, 0) hg]; exact hu)
  · rw [List.getElem?_map] at hp
    obtain ⟨x, hx, rfl⟩ := Option.map_eq_some_iff.1 hp
    have hi : i < dk.size := by
      have := (List.getElem?_eq_some_iff.1 hx).1
      simpa using this
    refine ⟨x.1.1, fun j hj => ?_, S.kept x.2.1 hk⟩
    have hij := idx_lt hi hj
    dsimp only
    rw [hget _ (by omega), if_pos hij]
    obtain ⟨y, h3, h4⟩ := hel (i * k + j) hij
    have e1 : (i * k + j) / k = i := by rw [Nat.mul_comm, Nat.mul_add_div (by omega), Nat.div_eq_of_lt hj, Nat.add_zero]
    have e2 : (i * k + j) % k = j := by rw [Nat.mul_comm, Nat.mul_add_mod, Nat.mod_eq_of_lt hj]
    rw [e1, hx] at h3
    injection h3 with h3
    rw [h4, e2, ← h3]
    unfold ElIn.enc
    rw [Array.getElem?_toList]
end

/-- The sort's contract. -/
theorem sort_gen {P : Program} {ρ : Go.Shelf.Ren} (L : SlLaysF0.n6 P ρ) (aE : ∀ w : World, (isAgg (ρ.t 24)).run P w = .ok true w) (zE : ∀ w : World, (Go.sizeOf (ρ.t 24)).run P w = .ok k w)
    (S : Says k R) (H : Ordr cf lt) (g : Nat) (cb : Array Value) (eg : ∀ args w, (callFunc g args).run P w = .ok (.enter g args) w)
    (hcmp : ∀ (W : World) (us vs : Array Value) (x y : V), R W us x → R W vs y → B x → B y → Calls P g (#[.agg us, .agg vs] ++ cb) W fun e w' => e = .returned (.int .i64 (cf x y)) ∧ Grew W w')
    (base : Nat) (v : Value) (l : List V) (e : TypeId) (w : World) (hO : OwnK k R e w base v l) (hB : ∀ x ∈ l, B x) (hl : l.length < 4611686018427387904) :
    Calls P (ρ.f 6) #[v, .func (.func g) #[] cb] w fun e' w' => e' = .returned (.tuple #[]) ∧ ∃ m, (∀ q, q ∈ m ↔ q ∈ l) ∧ m.length = l.length ∧ m.Pairwise (fun p q => ¬ lt q p) ∧ OwnK k R e w' base v m ∧ (∀ b p u, v.ownBlock ≠ some b → w.cell? ⟨b, p, none⟩ = some u → w'.cell? ⟨b, p, none⟩ = some u) ∧ ∀ W, W.heap.size ≤ base → Grew W w → Grew W w' := by
  by_cases h0 : l.length = 0
  · obtain rfl : l = [] := List.eq_nil_of_length_eq_zero h0
    obtain ⟨A, c, rfl, -, -, -⟩ := hO.row
    exact (Go.Proofs.AnyF.slices_SortFunc_none { L with } A c _ w).mono fun e' w' ⟨he, hw⟩ => by
      subst hw
      exact ⟨he, [], fun _ => Iff.rfl, rfl, List.Pairwise.nil, hO, fun _ _ _ _ h => h, fun _ _ h => h⟩
  rcases hO with ⟨-, rfl⟩ | ⟨gb, cap, cur, rfl, hbg, hN, hg, hnc, hcm, hcs, hel⟩
  · exact absurd rfl h0
  obtain ⟨d, hds, hdl, ⟨x0⟩, hH⟩ := elemsK S hg (by omega) hB hel
  letI : Inhabited (ElIn R B w) := ⟨x0⟩
  have hblk : gb < w.heap.size := by
    rcases Nat.lt_or_ge gb w.heap.size with h | h
    · exact h
    · rw [Array.getElem?_eq_none h] at hg; simp at hg
  have hc : CmpLays P g cb (ElIn.enc (R := R) (B := B) (W := w)) k (ElIn.cmp cf) gb 0 d.size w := by
    intro m os dk _ x y
    have hK := keepsK hN (sortK_wrote (k := k) (g := gb) m dk os)
    generalize sortWorldK (ElIn.enc (R := R) (B := B) (W := w)) k w gb 0 m dk os = W at hK ⊢
    have h := hcmp W x.1.1 y.1.1 x.1.2 y.1.2 (S.kept x.2.1 hK) (S.kept y.2.1 hK) x.2.2 y.2.2
    have e : (#[Value.agg x.enc.toArray, .agg y.enc.toArray] ++ cb : Array Value) = #[.agg x.1.1, .agg y.1.1] ++ cb := by
      unfold ElIn.enc; simp
    rw [e]
    exact h.mono fun e w' ⟨he, hG⟩ => ⟨he, hG.grow⟩
  have h := Go.Proofs.AnyQ.slices_SortFunc L k aE zE ElIn.enc (ElIn.len S) (fun x => S.one x.2.1) (ElIn.cmp cf) (ElIn.swo H) g cb gb 0 cap d w eg hc hH hblk (by omega)
  rw [hds] at h
  refine h.mono fun e' w' ⟨he, d', n, os, hp, hsd, hw⟩ => ⟨he, d'.toList.map ElIn.val, ?_⟩
  obtain ⟨hsz, -, hperm⟩ := hp
  have e1 : (d'.extract 0 l.length).toList = d'.toList := by rw [← hds, ← hsz]; simp
  have e2 : (d.extract 0 l.length).toList = d.toList := by rw [← hds]; simp
  rw [e1, e2] at hperm
  have hlen : (d'.toList.map ElIn.val).length = l.length := by rw [List.length_map, Array.length_toList]; omega
  have ho := sortK_own (e := e) S hbg hg hN hcm hcs n d' os (by omega)
  rw [show d'.size = l.length by omega] at ho
  refine ⟨fun q => ?_, hlen, ?_, by rw [hw]; exact ho, fun b p u hb hu => by rw [hw]; exact (sortK_wrote n d' os).cell hu (fun e => hb (by simp only at e; rw [e]; rfl)), fun W h1 h2 => by rw [hw]; exact h2.wrote (sortK_wrote n d' os) (Nat.le_trans h1 hbg)⟩
  · rw [← hdl]
    simp only [List.mem_map]
    constructor
    · rintro ⟨x, hx, rfl⟩; exact ⟨x, hperm.mem_iff.1 hx, rfl⟩
    · rintro ⟨x, hx, rfl⟩; exact ⟨x, hperm.mem_iff.2 hx, rfl⟩
  · rw [List.pairwise_iff_getElem]
    intro i j hi hj hij
    rw [List.length_map, Array.length_toList] at hi hj
    have h1 := hsd i j (Nat.zero_le _) hij (by omega)
    rw [getElem!_pos d' j hj, getElem!_pos d' i hi, ElIn.nlt H] at h1
    simpa using h1
end
end Go.Proofs.YtngbcbncllfblaaGreat
