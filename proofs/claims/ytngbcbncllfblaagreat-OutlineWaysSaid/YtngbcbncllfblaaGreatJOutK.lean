/- r25.join. Conditions: at most 2^14 ways of a page; what comes in reads. -/
import Derived.Test.YtngbcbncllfblaaGreatJOutJ
namespace Go.Proofs.YtngbcbncllfblaaGreat
open Go.RowKit

theorem cov_bd {W H : Int} {bs : List Bool} {l : List Rn} (h : Cov (hasC W H bs) l) {r : Rn} (hr : r ∈ l) (hW : W ≤ 64) (hH : H ≤ 64) : 0 ≤ r.c ∧ r.c ≤ 64 ∧ 0 ≤ r.f ∧ r.f < 64 ∧ 0 < r.t ∧ r.t ≤ 64 := by
  obtain ⟨h3, h4⟩ := h.good r hr
  have h1 := h4 r.f (Int.le_refl _) h3
  have h2 := h4 (r.t - 1) (by omega) (by omega)
  have hd := sideB_dir h1
  unfold sideB at h1 h2
  rcases (show r.d = 1 ∨ r.d = 2 ∨ r.d = 3 ∨ r.d = 4 by omega) with e | e | e | e <;> simp [e] at h1 h2
  · have a := hasC_in h1.1; have b := hasC_in h2.1; omega
  · have a := hasC_in h1.1; have b := hasC_in h2.1; omega
  · have a := hasC_in h1.1; have b := hasC_in h2.1; omega
  · have a := hasC_in h1.1; have b := hasC_in h2.1; omega
theorem cov_dir {has : Int → Int → Bool} {l : List Rn} (h : Cov has l) {r : Rn} (hr : r ∈ l) : (1 ≤ r.d ∧ r.d ≤ 4) ∧ r.f < r.t := by
  obtain ⟨h3, h4⟩ := h.good r hr
  exact ⟨sideB_dir (h4 r.f (Int.le_refl _) h3), h3⟩
/-- One goes on where another one ends: as the document asks it. -/
theorem goesOn_seg {r s : Rn} (hr : (1 ≤ r.d ∧ r.d ≤ 4) ∧ r.f < r.t) (hs : (1 ≤ s.d ∧ s.d ≤ 4) ∧ s.f < s.t) : goesOn r s ↔ ((segOf s).1.1 = (segOf r).2.1 ∧ (segOf s).1.2 = (segOf r).2.2) ∧ dirZ (segOf s) = dirZ (segOf r) := by
  rw [dirZ_run hr.1 hr.2, dirZ_run hs.1 hs.2]
  unfold goesOn segOf Rn.a Rn.b
  rcases (show r.d = 1 ∨ r.d = 2 ∨ r.d = 3 ∨ r.d = 4 by omega) with e | e | e | e <;> rcases (show s.d = 1 ∨ s.d = 2 ∨ s.d = 3 ∨ s.d = 4 by omega) with e' | e' | e' | e' <;> simp [e, e'] <;> omega
theorem join_seg {r s : Rn} (hr : 1 ≤ r.d ∧ r.d ≤ 4) (hg : goesOn r s) : segOf (joinR r s) = ((segOf r).1, (segOf s).2) := by
  obtain ⟨e1, e2, -⟩ := hg
  unfold joinR segOf
  rcases (show r.d = 1 ∨ r.d = 2 ∨ r.d = 3 ∨ r.d = 4 by omega) with e | e | e | e <;> simp [e, ← e1, e2]
/-- One way in a block of its own. -/
theorem own_seg1 (w : World) (a b c d : Int) : (w.alloc (.cells #[.int .i64 a, .int .i64 b, .int .i64 c, .int .i64 d] 76)).ownsRow w.heap.size 76 4 (.slice (some ⟨w.heap.size, 0, none⟩) 1 1) 1 (segVals [((a, b), c, d)]) :=
  ⟨rfl, .inr ⟨w.heap.size, 1, _, rfl, Nat.le_refl _, heap_alloc_new w _, Nat.le_refl _, by unfold maxLen; omega, rfl, rfl⟩⟩

set_option maxRecDepth 100000 in
set_option maxHeartbeats 16000000 in
theorem join_any (W H : Int) (bs : List Bool) (v : Value) (l : List Rn) (w : World) (hl : SegsR w v (l.map segOf)) (hc : Cov (hasC W H bs) l) (hW : W ≤ 64) (hH : H ≤ 64) (hlen : l.length ≤ 16384) :
    Calls Tryz.prog 48 #[v] w fun e w' => ∃ v', e = .returned v' ∧ ∃ m : List Rn, Cov (hasC W H bs) m ∧ (∀ r ∈ m, ∀ s ∈ m, ¬ goesOn r s) ∧ m.length ≤ 16384 ∧ SegsR w' v' (m.map segOf) ∧ Grew w w' := by
  replace hl := Lib.hid hl
  replace hc := Lib.hid hc
  go_enter Tryz.func48, Tryz.ntmps48
  go_wp2_with fail
  go_loopg [0, 3] (l.length * 20000 + l.length) (fun gk s0 s3 wr => ∃ (m : List Rn) (i : Nat), gk = m.length * 20000 + (m.length - i) ∧ s3 = .int .i64 i ∧ i ≤ m.length ∧ m.length ≤ 16384 ∧ Hid (Cov (hasC W H bs) m) ∧ Hid (∀ j r, j < i → m[j]? = some r → ∀ s ∈ m, ¬ goesOn r s) ∧ SegsR wr s0 (m.map segOf) ∧ Grew w wr)
  case atStart => exact ⟨l, 0, by omega, rfl, Nat.zero_le _, hlen, hc, Lib.hid (fun j r h => by omega), hl.out, Grew.refl _⟩
  case round =>
    obtain ⟨m, i, hgk, rfl, him, hml, hC, hno, hS, hG⟩ := hrel
    obtain ⟨A, c, rfl, h1, h2, h3⟩ := id hS
    obtain ⟨M, hM⟩ : ∃ M, (m.map segOf).length = M := ⟨_, rfl⟩
    have hMm : m.length = M := by rw [← hM, List.length_map]
    rw [hM] at h1 h3 hS
    rw [hM]
    rw [hMm] at him hml hgk
    have hMx : M ≤ 9223372036854775807 := by omega
    replace h3 := Lib.hid h3
    replace hM := Lib.hid hM
    replace hMm := Lib.hid hMm
    by_cases hlt : i < M
    · obtain ⟨b, o, rfl, he⟩ := h3.out (by omega)
      obtain ⟨r, hr⟩ : ∃ r, m[i]? = some r := ⟨m[i]'(by rw [hMm.out]; omega), List.getElem?_eq_getElem _⟩
      obtain ⟨⟨⟨⟨cx, cy⟩, dx, dy⟩, hrs⟩⟩ : Nonempty { z : SegZ // segOf r = z } := ⟨⟨_, rfl⟩⟩
      obtain ⟨⟨r0, r1, r2, r3⟩, -⟩ := he i ((cx, cy), dx, dy) (by rw [List.getElem?_map, hr]; exact congrArg some hrs)
      dsimp only at r0 r1 r2 r3
      have hrd := Lib.hid (cov_dir hC.out (List.mem_of_getElem? hr))
      obtain ⟨dr, hdr⟩ : ∃ dr, dirZ ((cx, cy), dx, dy) = dr := ⟨_, rfl⟩
      have hil : (i : Int) < (M : Int) := by omega
      replace r0 := Lib.hid r0
      replace r1 := Lib.hid r1
      replace r2 := Lib.hid r2
      replace r3 := Lib.hid r3
      replace hr := Lib.hid hr
      replace hrs := Lib.hid hrs
      replace hdr := Lib.hid hdr
      replace hS := Lib.hid hS
      replace hG := Lib.hid hG
      replace he := Lib.hid he
      obtain ⟨G, rfl⟩ : ∃ G : Nat, G = gk := ⟨_, rfl⟩
      replace hgk := Lib.hid hgk
      obtain ⟨wo, rfl⟩ : ∃ wo : World, wo = wr := ⟨_, rfl⟩
      go_wp2_with fail
      go_loopg [4, 5] M (fun gk s4 s5 wx => ∃ (k : Nat) (F : Int), gk + k = M ∧ s5 = .int .i64 k ∧ s4 = .int .i64 F ∧ Hid ((F = -1 ∧ ∀ j s, j < k → m[j]? = some s → ¬ goesOn r s) ∨ (∃ (f : Nat) (s : Rn), F = (f : Int) ∧ f < k ∧ m[f]? = some s ∧ goesOn r s)) ∧ Grew wo wx)
      case atStart => exact ⟨0, -1, rfl, rfl, rfl, Lib.hid (.inl ⟨rfl, fun j s h => by omega⟩), Grew.refl _⟩
      case round =>
        obtain ⟨k, F, hk, rfl, rfl, hF, hI⟩ := hrel
        by_cases hkl : k < M
        · obtain ⟨s, hs⟩ : ∃ s, m[k]? = some s := ⟨m[k]'(by rw [hMm.out]; omega), List.getElem?_eq_getElem _⟩
          obtain ⟨⟨⟨⟨ax, ay⟩, bx, b_y⟩, hss⟩⟩ : Nonempty { z : SegZ // segOf s = z } := ⟨⟨_, rfl⟩⟩
          obtain ⟨⟨s0, s1, s2, s3⟩, -⟩ := he.out k ((ax, ay), bx, b_y) (by rw [List.getElem?_map, hs]; exact congrArg some hss)
          dsimp only at s0 s1 s2 s3
          have hgo := goesOn_seg hrd.out (cov_dir hC.out (List.mem_of_getElem? hs))
          rw [hss, hrs.out, hdr.out] at hgo
          obtain ⟨ds, hds⟩ : ∃ ds, dirZ ((ax, ay), bx, b_y) = ds := ⟨_, rfl⟩
          rw [hds] at hgo
          dsimp only at hgo
          replace hgo := Lib.hid hgo
          replace hds := Lib.hid hds
          replace s0 := Lib.hid (hI.cell s0)
          replace s1 := Lib.hid (hI.cell s1)
          replace s2 := Lib.hid (hI.cell s2)
          replace s3 := Lib.hid (hI.cell s3)
          have R0 := Lib.hid (hI.cell r0.out)
          have R1 := Lib.hid (hI.cell r1.out)
          have R2 := Lib.hid (hI.cell r2.out)
          have R3 := Lib.hid (hI.cell r3.out)
          have hkl2 : (k : Int) < (M : Int) := by omega
          have hI' := Lib.hid hI
          replace hs := Lib.hid hs
          clear hI
          have hnext := Lib.hid (fun (hn : ¬ goesOn r s) => show (F = -1 ∧ ∀ j s, j < k + 1 → m[j]? = some s → ¬ goesOn r s) ∨ (∃ (f : Nat) (s : Rn), F = (f : Int) ∧ f < k + 1 ∧ m[f]? = some s ∧ goesOn r s) from by
            rcases hF.out with ⟨e1, e2⟩ | ⟨f, s', e1, e2, e3⟩
            · refine .inl ⟨e1, fun j u hj hu => ?_⟩
              by_cases h : j = k
              · subst h; rw [hs.out] at hu; injection hu with hu; rw [← hu]; exact hn
              · exact e2 j u (by omega) hu
            · exact .inr ⟨f, s', e1, by omega, e3⟩)
          go_wp2_with fail
          by_cases hpt : ax = dx ∧ ay = dy
          · have hite := Lib.hid (show ∀ (α : Type) (x y : α), (if ax = dx then if ay = dy then x else y else y) = x from fun _ x y => by rw [if_pos hpt.1, if_pos hpt.2])
            by_cases hdd : ds = dr
            · have hgg := Lib.hid (hgo.out.2 ⟨hpt, hdd⟩)
              have hq := Lib.hid (show (ds == dr) = true by rw [hdd]; simp)
              clear hpt hdd
              refine wp_region_held_drew (S := fun wv => Grew wr wv) (by kernel_rfl) ((Grew.refl wr).drew) (fun hHeld => ?_)
              replace hHeld := Lib.hid hHeld
              try simp only [Act.put, List.setIfInBounds_toArray, List.set_cons_zero, List.set_cons_succ]
              refine wpAnyH_takeD (i := 0) (d := 18) (v := ?_) rfl rfl (by kernel_rfl) (by kernel_rfl) (by kernel_rfl) (fun _ _ _ h => h) (Or.inl ⟨by rfl, ?_⟩) hHeld.out ?_
              rotate_left
              · intro wv hSw
                replace hSw : Hid (Grew wr wv) := Lib.hid hSw
                go_simp
                try with_reducible rfl
              try simp only [Act.put, List.setIfInBounds_toArray, List.set_cons_zero, List.set_cons_succ]
              refine wpAnyH_takeD (i := 1) (d := 19) (v := ?_) rfl rfl (by kernel_rfl) (by kernel_rfl) (by kernel_rfl) (fun _ _ _ h => h) (Or.inl ⟨by rfl, ?_⟩) hHeld.out ?_
              rotate_left
              · intro wv hSw
                replace hSw : Hid (Grew wr wv) := Lib.hid hSw
                go_simp
                try with_reducible rfl
              try simp only [Act.put, List.setIfInBounds_toArray, List.set_cons_zero, List.set_cons_succ]
              refine wpAnyH_takeD (i := 2) (d := 20) (v := ?_) rfl rfl (by kernel_rfl) (by kernel_rfl) (by kernel_rfl) (fun _ _ _ h => h) (Or.inl ⟨by rfl, ?_⟩) hHeld.out ?_
              rotate_left
              · intro wv hSw
                replace hSw : Hid (Grew wr wv) := Lib.hid hSw
                go_simp
                try with_reducible rfl
              try simp only [Act.put, List.setIfInBounds_toArray, List.set_cons_zero, List.set_cons_succ]
              refine wpAnyH_takeD (i := 3) (d := 21) (v := ?_) rfl rfl (by kernel_rfl) (by kernel_rfl) (by kernel_rfl) (fun _ _ _ h => h) (Or.inl ⟨by rfl, ?_⟩) hHeld.out ?_
              rotate_left
              · intro wv hSw
                replace hSw : Hid (Grew wr wv) := Lib.hid hSw
                go_simp
                try with_reducible rfl
              try simp only [Act.put, List.setIfInBounds_toArray, List.set_cons_zero, List.set_cons_succ]
              refine wpAnyH_takeD (i := 4) (d := 22) (v := ?_) rfl rfl (by kernel_rfl) (by kernel_rfl) (by kernel_rfl) (fun _ _ _ h => h) (Or.inl ⟨by rfl, ?_⟩) hHeld.out ?_
              rotate_left
              · intro wv hSw
                replace hSw : Hid (Grew wr wv) := Lib.hid hSw
                have t0 := hSw.out.cell s0.out
                have t1 := hSw.out.cell s1.out
                go_simp
                try with_reducible rfl
              try simp only [Act.put, List.setIfInBounds_toArray, List.set_cons_zero, List.set_cons_succ]
              refine wpAnyH_takeD (i := 5) (d := 23) (v := ?_) rfl rfl (by kernel_rfl) (by kernel_rfl) (by kernel_rfl) (fun _ _ _ h => h) (Or.inl ⟨by rfl, ?_⟩) hHeld.out ?_
              rotate_left
              · intro wv hSw
                replace hSw : Hid (Grew wr wv) := Lib.hid hSw
                go_simp
                try with_reducible rfl
              try simp only [Act.put, List.setIfInBounds_toArray, List.set_cons_zero, List.set_cons_succ]
              refine wpAnyH_takeD (i := 6) (d := 24) (v := ?_) rfl rfl (by kernel_rfl) (by kernel_rfl) (by kernel_rfl) (fun _ _ _ h => h) (Or.inl ⟨by rfl, ?_⟩) hHeld.out ?_
              rotate_left
              · intro wv hSw
                replace hSw : Hid (Grew wr wv) := Lib.hid hSw
                go_simp
                try with_reducible rfl
              try simp only [Act.put, List.setIfInBounds_toArray, List.set_cons_zero, List.set_cons_succ]
              refine wpAnyH_takeD (i := 7) (d := 25) (v := ?_) rfl rfl (by kernel_rfl) (by kernel_rfl) (by kernel_rfl) (fun _ _ _ h => h) (Or.inl ⟨by rfl, ?_⟩) hHeld.out ?_
              rotate_left
              · intro wv hSw
                replace hSw : Hid (Grew wr wv) := Lib.hid hSw
                go_simp
                try with_reducible rfl
              try simp only [Act.put, List.setIfInBounds_toArray, List.set_cons_zero, List.set_cons_succ]
              refine wpAnyH_takeD (i := 8) (d := 26) (v := ?_) rfl rfl (by kernel_rfl) (by kernel_rfl) (by kernel_rfl) (fun _ _ _ h => h) (Or.inl ⟨by rfl, ?_⟩) hHeld.out ?_
              rotate_left
              · intro wv hSw
                replace hSw : Hid (Grew wr wv) := Lib.hid hSw
                go_simp
                try with_reducible rfl
              try simp only [Act.put, List.setIfInBounds_toArray, List.set_cons_zero, List.set_cons_succ]
              refine wpAnyH_takeD (i := 9) (d := 27) (v := ?_) rfl rfl (by kernel_rfl) (by kernel_rfl) (by kernel_rfl) (fun _ _ _ h => h) (Or.inl ⟨by rfl, ?_⟩) hHeld.out ?_
              rotate_left
              · intro wv hSw
                replace hSw : Hid (Grew wr wv) := Lib.hid hSw
                have t0 := hSw.out.cell R2.out
                have t1 := hSw.out.cell R3.out
                go_simp
                try with_reducible rfl
              try simp only [Act.put, List.setIfInBounds_toArray, List.set_cons_zero, List.set_cons_succ]
              refine wpAnyH_takeD (i := 10) (d := 28) (v := ?_) rfl rfl (by kernel_rfl) (by kernel_rfl) (by kernel_rfl) (fun _ _ _ h => h) (Or.inl ⟨by rfl, ?_⟩) hHeld.out ?_
              rotate_left
              · intro wv hSw
                replace hSw : Hid (Grew wr wv) := Lib.hid hSw
                go_simp
                rw [hite.out]
                try with_reducible rfl
              try simp only [Act.put, List.setIfInBounds_toArray, List.set_cons_zero, List.set_cons_succ]
              refine wpAnyH_takeD (i := 11) (d := 29) (v := ?_) rfl rfl (by kernel_rfl) (by kernel_rfl) (by kernel_rfl) (fun _ _ _ h => h) (Or.inl ⟨by rfl, ?_⟩) hHeld.out ?_
              rotate_left
              · intro wv hSw
                replace hSw : Hid (Grew wr wv) := Lib.hid hSw
                go_simp
                try with_reducible rfl
              try simp only [Act.put, List.setIfInBounds_toArray, List.set_cons_zero, List.set_cons_succ]
              refine wpAnyH_takeD (i := 12) (d := 30) (v := ?_) rfl rfl (by kernel_rfl) (by kernel_rfl) (by kernel_rfl) (fun _ _ _ h => h) (Or.inl ⟨by rfl, ?_⟩) hHeld.out ?_
              rotate_left
              · intro wv hSw
                replace hSw : Hid (Grew wr wv) := Lib.hid hSw
                go_simp
                try with_reducible rfl
              try simp only [Act.put, List.setIfInBounds_toArray, List.set_cons_zero, List.set_cons_succ]
              refine wpAnyH_takeD (i := 13) (d := 31) (v := ?_) rfl rfl (by kernel_rfl) (by kernel_rfl) (by kernel_rfl) (fun _ _ _ h => h) (Or.inl ⟨by rfl, ?_⟩) hHeld.out ?_
              rotate_left
              · intro wv hSw
                replace hSw : Hid (Grew wr wv) := Lib.hid hSw
                go_simp
                try with_reducible rfl
              try simp only [Act.put, List.setIfInBounds_toArray, List.set_cons_zero, List.set_cons_succ]
              refine wpAnyH_takeD (i := 14) (d := 32) (v := ?_) rfl rfl (by kernel_rfl) (by kernel_rfl) (by kernel_rfl) (fun _ _ _ h => h) (Or.inl ⟨by rfl, ?_⟩) hHeld.out ?_
              rotate_left
              · intro wv hSw
                replace hSw : Hid (Grew wr wv) := Lib.hid hSw
                go_simp
                try with_reducible rfl
              try simp only [Act.put, List.setIfInBounds_toArray, List.set_cons_zero, List.set_cons_succ]
              refine wpAnyH_takeD (i := 15) (d := 33) (v := ?_) rfl rfl (by kernel_rfl) (by kernel_rfl) (by kernel_rfl) (fun _ _ _ h => h) (Or.inl ⟨by rfl, ?_⟩) hHeld.out ?_
              rotate_left
              · intro wv hSw
                replace hSw : Hid (Grew wr wv) := Lib.hid hSw
                have t0 := hSw.out.cell s0.out
                have t1 := hSw.out.cell s1.out
                have t2 := hSw.out.cell s2.out
                have t3 := hSw.out.cell s3.out
                go_simp
                try with_reducible rfl
              try simp only [Act.put, List.setIfInBounds_toArray, List.set_cons_zero, List.set_cons_succ]
              refine wpAnyH_takeD (i := 17) (d := 35) (v := ?_) rfl rfl (by kernel_rfl) (by kernel_rfl) (by kernel_rfl) (fun _ _ _ h => h) (Or.inl ⟨by rfl, ?_⟩) hHeld.out ?_
              rotate_left
              · intro wv hSw
                replace hSw : Hid (Grew wr wv) := Lib.hid hSw
                go_simp
                try with_reducible rfl
              try simp only [Act.put, List.setIfInBounds_toArray, List.set_cons_zero, List.set_cons_succ]
              refine wpAnyH_takeD (i := 18) (d := 36) (v := ?_) rfl rfl (by kernel_rfl) (by kernel_rfl) (by kernel_rfl) (fun _ _ _ h => h) (Or.inl ⟨by rfl, ?_⟩) hHeld.out ?_
              rotate_left
              · intro wv hSw
                replace hSw : Hid (Grew wr wv) := Lib.hid hSw
                go_simp
                try with_reducible rfl
              try simp only [Act.put, List.setIfInBounds_toArray, List.set_cons_zero, List.set_cons_succ]
              refine wpAnyH_takeD (i := 19) (d := 37) (v := ?_) rfl rfl (by kernel_rfl) (by kernel_rfl) (by kernel_rfl) (fun _ _ _ h => h) (Or.inl ⟨by rfl, ?_⟩) hHeld.out ?_
              rotate_left
              · intro wv hSw
                replace hSw : Hid (Grew wr wv) := Lib.hid hSw
                go_simp
                try with_reducible rfl
              try simp only [Act.put, List.setIfInBounds_toArray, List.set_cons_zero, List.set_cons_succ]
              refine wpAnyH_takeD (i := 20) (d := 38) (v := ?_) rfl rfl (by kernel_rfl) (by kernel_rfl) (by kernel_rfl) (fun _ _ _ h => h) (Or.inl ⟨by rfl, ?_⟩) hHeld.out ?_
              rotate_left
              · intro wv hSw
                replace hSw : Hid (Grew wr wv) := Lib.hid hSw
                have t0 := hSw.out.cell R0.out
                have t1 := hSw.out.cell R1.out
                have t2 := hSw.out.cell R2.out
                have t3 := hSw.out.cell R3.out
                go_simp
                try with_reducible rfl
              try simp only [Act.put, List.setIfInBounds_toArray, List.set_cons_zero, List.set_cons_succ]
              refine wpAnyH_ready (rs := [16]) (by kernel_rfl) (by simp) ?_
              refine AllReadyH.cons rfl (fun KK hKK => ?_) AllReadyH.nil
              go_simp
              refine (dir_any ((ax, ay), bx, b_y) _).mono ?_
              rintro e wk1 ⟨rfl, g⟩
              have gk := hHeld.out.trans g
              rw [hds.out]
              clear hHeld
              try dsimp only
              refine hKK.out _ _ gk (fun hHeld => ?_)
              clear gk hKK KK
              replace hHeld := Lib.hid (show Grew wr wk1 from hHeld)
              try simp only [Act.put, List.setIfInBounds_toArray, List.set_cons_zero, List.set_cons_succ]
              refine wpAnyH_ready (rs := [21]) (by kernel_rfl) (by simp) ?_
              refine AllReadyH.cons rfl (fun KK hKK => ?_) AllReadyH.nil
              go_simp
              refine (dir_any ((cx, cy), dx, dy) _).mono ?_
              rintro e wk2 ⟨rfl, g⟩
              have gk := hHeld.out.trans g
              rw [hdr.out]
              clear hHeld
              try dsimp only
              refine hKK.out _ _ gk (fun hHeld => ?_)
              clear gk hKK KK
              replace hHeld := Lib.hid (show Grew wr wk2 from hHeld)
              try simp only [Act.put, List.setIfInBounds_toArray, List.set_cons_zero, List.set_cons_succ]
              refine wpAnyH_takeD (i := 22) (d := 40) (v := ?_) rfl rfl (by kernel_rfl) (by kernel_rfl) (by kernel_rfl) (fun _ _ _ h => h) (Or.inl ⟨by rfl, ?_⟩) hHeld.out ?_
              rotate_left
              · intro wv hSw
                replace hSw : Hid (Grew wr wv) := Lib.hid hSw
                have t9 := hq.out
                go_simp
                try with_reducible rfl
              try simp only [Act.put, List.setIfInBounds_toArray, List.set_cons_zero, List.set_cons_succ]
              refine wpAnyH_takeD (i := 23) (d := 41) (v := ?_) rfl rfl (by kernel_rfl) (by kernel_rfl) (by kernel_rfl) (fun _ _ _ h => h) (Or.inl ⟨by rfl, ?_⟩) hHeld.out ?_
              rotate_left
              · intro wv hSw
                replace hSw : Hid (Grew wr wv) := Lib.hid hSw
                go_simp
                try with_reducible rfl
              try simp only [Act.put, List.setIfInBounds_toArray, List.set_cons_zero, List.set_cons_succ]
              refine wpAnyH_done (by kernel_rfl) ?_ _
              go_wp2_with fail
              go_roundg (gk - 1)
              case rel => exact ⟨k + 1, (k : Int), by omega, by go_num, rfl, Lib.hid (.inr ⟨k, s, rfl, by omega, hs.out, hgg.out⟩), hI'.out.trans hHeld.out⟩
              case measure => omega
            · have hgg := Lib.hid (show ¬ goesOn r s from fun h => hdd (hgo.out.1 h).2)
              have hq := Lib.hid (show (ds == dr) = false by simp [hdd])
              clear hpt hdd
              refine wp_region_held_drew (S := fun wv => Grew wr wv) (by kernel_rfl) ((Grew.refl wr).drew) (fun hHeld => ?_)
              replace hHeld := Lib.hid hHeld
              try simp only [Act.put, List.setIfInBounds_toArray, List.set_cons_zero, List.set_cons_succ]
              refine wpAnyH_takeD (i := 0) (d := 18) (v := ?_) rfl rfl (by kernel_rfl) (by kernel_rfl) (by kernel_rfl) (fun _ _ _ h => h) (Or.inl ⟨by rfl, ?_⟩) hHeld.out ?_
              rotate_left
              · intro wv hSw
                replace hSw : Hid (Grew wr wv) := Lib.hid hSw
                go_simp
                try with_reducible rfl
              try simp only [Act.put, List.setIfInBounds_toArray, List.set_cons_zero, List.set_cons_succ]
              refine wpAnyH_takeD (i := 1) (d := 19) (v := ?_) rfl rfl (by kernel_rfl) (by kernel_rfl) (by kernel_rfl) (fun _ _ _ h => h) (Or.inl ⟨by rfl, ?_⟩) hHeld.out ?_
              rotate_left
              · intro wv hSw
                replace hSw : Hid (Grew wr wv) := Lib.hid hSw
                go_simp
                try with_reducible rfl
              try simp only [Act.put, List.setIfInBounds_toArray, List.set_cons_zero, List.set_cons_succ]
              refine wpAnyH_takeD (i := 2) (d := 20) (v := ?_) rfl rfl (by kernel_rfl) (by kernel_rfl) (by kernel_rfl) (fun _ _ _ h => h) (Or.inl ⟨by rfl, ?_⟩) hHeld.out ?_
              rotate_left
              · intro wv hSw
                replace hSw : Hid (Grew wr wv) := Lib.hid hSw
                go_simp
                try with_reducible rfl
              try simp only [Act.put, List.setIfInBounds_toArray, List.set_cons_zero, List.set_cons_succ]
              refine wpAnyH_takeD (i := 3) (d := 21) (v := ?_) rfl rfl (by kernel_rfl) (by kernel_rfl) (by kernel_rfl) (fun _ _ _ h => h) (Or.inl ⟨by rfl, ?_⟩) hHeld.out ?_
              rotate_left
              · intro wv hSw
                replace hSw : Hid (Grew wr wv) := Lib.hid hSw
                go_simp
                try with_reducible rfl
              try simp only [Act.put, List.setIfInBounds_toArray, List.set_cons_zero, List.set_cons_succ]
              refine wpAnyH_takeD (i := 4) (d := 22) (v := ?_) rfl rfl (by kernel_rfl) (by kernel_rfl) (by kernel_rfl) (fun _ _ _ h => h) (Or.inl ⟨by rfl, ?_⟩) hHeld.out ?_
              rotate_left
              · intro wv hSw
                replace hSw : Hid (Grew wr wv) := Lib.hid hSw
                have t0 := hSw.out.cell s0.out
                have t1 := hSw.out.cell s1.out
                go_simp
                try with_reducible rfl
              try simp only [Act.put, List.setIfInBounds_toArray, List.set_cons_zero, List.set_cons_succ]
              refine wpAnyH_takeD (i := 5) (d := 23) (v := ?_) rfl rfl (by kernel_rfl) (by kernel_rfl) (by kernel_rfl) (fun _ _ _ h => h) (Or.inl ⟨by rfl, ?_⟩) hHeld.out ?_
              rotate_left
              · intro wv hSw
                replace hSw : Hid (Grew wr wv) := Lib.hid hSw
                go_simp
                try with_reducible rfl
              try simp only [Act.put, List.setIfInBounds_toArray, List.set_cons_zero, List.set_cons_succ]
              refine wpAnyH_takeD (i := 6) (d := 24) (v := ?_) rfl rfl (by kernel_rfl) (by kernel_rfl) (by kernel_rfl) (fun _ _ _ h => h) (Or.inl ⟨by rfl, ?_⟩) hHeld.out ?_
              rotate_left
              · intro wv hSw
                replace hSw : Hid (Grew wr wv) := Lib.hid hSw
                go_simp
                try with_reducible rfl
              try simp only [Act.put, List.setIfInBounds_toArray, List.set_cons_zero, List.set_cons_succ]
              refine wpAnyH_takeD (i := 7) (d := 25) (v := ?_) rfl rfl (by kernel_rfl) (by kernel_rfl) (by kernel_rfl) (fun _ _ _ h => h) (Or.inl ⟨by rfl, ?_⟩) hHeld.out ?_
              rotate_left
              · intro wv hSw
                replace hSw : Hid (Grew wr wv) := Lib.hid hSw
                go_simp
                try with_reducible rfl
              try simp only [Act.put, List.setIfInBounds_toArray, List.set_cons_zero, List.set_cons_succ]
              refine wpAnyH_takeD (i := 8) (d := 26) (v := ?_) rfl rfl (by kernel_rfl) (by kernel_rfl) (by kernel_rfl) (fun _ _ _ h => h) (Or.inl ⟨by rfl, ?_⟩) hHeld.out ?_
              rotate_left
              · intro wv hSw
                replace hSw : Hid (Grew wr wv) := Lib.hid hSw
                go_simp
                try with_reducible rfl
              try simp only [Act.put, List.setIfInBounds_toArray, List.set_cons_zero, List.set_cons_succ]
              refine wpAnyH_takeD (i := 9) (d := 27) (v := ?_) rfl rfl (by kernel_rfl) (by kernel_rfl) (by kernel_rfl) (fun _ _ _ h => h) (Or.inl ⟨by rfl, ?_⟩) hHeld.out ?_
              rotate_left
              · intro wv hSw
                replace hSw : Hid (Grew wr wv) := Lib.hid hSw
                have t0 := hSw.out.cell R2.out
                have t1 := hSw.out.cell R3.out
                go_simp
                try with_reducible rfl
              try simp only [Act.put, List.setIfInBounds_toArray, List.set_cons_zero, List.set_cons_succ]
              refine wpAnyH_takeD (i := 10) (d := 28) (v := ?_) rfl rfl (by kernel_rfl) (by kernel_rfl) (by kernel_rfl) (fun _ _ _ h => h) (Or.inl ⟨by rfl, ?_⟩) hHeld.out ?_
              rotate_left
              · intro wv hSw
                replace hSw : Hid (Grew wr wv) := Lib.hid hSw
                go_simp
                rw [hite.out]
                try with_reducible rfl
              try simp only [Act.put, List.setIfInBounds_toArray, List.set_cons_zero, List.set_cons_succ]
              refine wpAnyH_takeD (i := 11) (d := 29) (v := ?_) rfl rfl (by kernel_rfl) (by kernel_rfl) (by kernel_rfl) (fun _ _ _ h => h) (Or.inl ⟨by rfl, ?_⟩) hHeld.out ?_
              rotate_left
              · intro wv hSw
                replace hSw : Hid (Grew wr wv) := Lib.hid hSw
                go_simp
                try with_reducible rfl
              try simp only [Act.put, List.setIfInBounds_toArray, List.set_cons_zero, List.set_cons_succ]
              refine wpAnyH_takeD (i := 12) (d := 30) (v := ?_) rfl rfl (by kernel_rfl) (by kernel_rfl) (by kernel_rfl) (fun _ _ _ h => h) (Or.inl ⟨by rfl, ?_⟩) hHeld.out ?_
              rotate_left
              · intro wv hSw
                replace hSw : Hid (Grew wr wv) := Lib.hid hSw
                go_simp
                try with_reducible rfl
              try simp only [Act.put, List.setIfInBounds_toArray, List.set_cons_zero, List.set_cons_succ]
              refine wpAnyH_takeD (i := 13) (d := 31) (v := ?_) rfl rfl (by kernel_rfl) (by kernel_rfl) (by kernel_rfl) (fun _ _ _ h => h) (Or.inl ⟨by rfl, ?_⟩) hHeld.out ?_
              rotate_left
              · intro wv hSw
                replace hSw : Hid (Grew wr wv) := Lib.hid hSw
                go_simp
                try with_reducible rfl
              try simp only [Act.put, List.setIfInBounds_toArray, List.set_cons_zero, List.set_cons_succ]
              refine wpAnyH_takeD (i := 14) (d := 32) (v := ?_) rfl rfl (by kernel_rfl) (by kernel_rfl) (by kernel_rfl) (fun _ _ _ h => h) (Or.inl ⟨by rfl, ?_⟩) hHeld.out ?_
              rotate_left
              · intro wv hSw
                replace hSw : Hid (Grew wr wv) := Lib.hid hSw
                go_simp
                try with_reducible rfl
              try simp only [Act.put, List.setIfInBounds_toArray, List.set_cons_zero, List.set_cons_succ]
              refine wpAnyH_takeD (i := 15) (d := 33) (v := ?_) rfl rfl (by kernel_rfl) (by kernel_rfl) (by kernel_rfl) (fun _ _ _ h => h) (Or.inl ⟨by rfl, ?_⟩) hHeld.out ?_
              rotate_left
              · intro wv hSw
                replace hSw : Hid (Grew wr wv) := Lib.hid hSw
                have t0 := hSw.out.cell s0.out
                have t1 := hSw.out.cell s1.out
                have t2 := hSw.out.cell s2.out
                have t3 := hSw.out.cell s3.out
                go_simp
                try with_reducible rfl
              try simp only [Act.put, List.setIfInBounds_toArray, List.set_cons_zero, List.set_cons_succ]
              refine wpAnyH_takeD (i := 17) (d := 35) (v := ?_) rfl rfl (by kernel_rfl) (by kernel_rfl) (by kernel_rfl) (fun _ _ _ h => h) (Or.inl ⟨by rfl, ?_⟩) hHeld.out ?_
              rotate_left
              · intro wv hSw
                replace hSw : Hid (Grew wr wv) := Lib.hid hSw
                go_simp
                try with_reducible rfl
              try simp only [Act.put, List.setIfInBounds_toArray, List.set_cons_zero, List.set_cons_succ]
              refine wpAnyH_takeD (i := 18) (d := 36) (v := ?_) rfl rfl (by kernel_rfl) (by kernel_rfl) (by kernel_rfl) (fun _ _ _ h => h) (Or.inl ⟨by rfl, ?_⟩) hHeld.out ?_
              rotate_left
              · intro wv hSw
                replace hSw : Hid (Grew wr wv) := Lib.hid hSw
                go_simp
                try with_reducible rfl
              try simp only [Act.put, List.setIfInBounds_toArray, List.set_cons_zero, List.set_cons_succ]
              refine wpAnyH_takeD (i := 19) (d := 37) (v := ?_) rfl rfl (by kernel_rfl) (by kernel_rfl) (by kernel_rfl) (fun _ _ _ h => h) (Or.inl ⟨by rfl, ?_⟩) hHeld.out ?_
              rotate_left
              · intro wv hSw
                replace hSw : Hid (Grew wr wv) := Lib.hid hSw
                go_simp
                try with_reducible rfl
              try simp only [Act.put, List.setIfInBounds_toArray, List.set_cons_zero, List.set_cons_succ]
              refine wpAnyH_takeD (i := 20) (d := 38) (v := ?_) rfl rfl (by kernel_rfl) (by kernel_rfl) (by kernel_rfl) (fun _ _ _ h => h) (Or.inl ⟨by rfl, ?_⟩) hHeld.out ?_
              rotate_left
              · intro wv hSw
                replace hSw : Hid (Grew wr wv) := Lib.hid hSw
                have t0 := hSw.out.cell R0.out
                have t1 := hSw.out.cell R1.out
                have t2 := hSw.out.cell R2.out
                have t3 := hSw.out.cell R3.out
                go_simp
                try with_reducible rfl
              try simp only [Act.put, List.setIfInBounds_toArray, List.set_cons_zero, List.set_cons_succ]
              refine wpAnyH_ready (rs := [16]) (by kernel_rfl) (by simp) ?_
              refine AllReadyH.cons rfl (fun KK hKK => ?_) AllReadyH.nil
              go_simp
              refine (dir_any ((ax, ay), bx, b_y) _).mono ?_
              rintro e wk1 ⟨rfl, g⟩
              have gk := hHeld.out.trans g
              rw [hds.out]
              clear hHeld
              try dsimp only
              refine hKK.out _ _ gk (fun hHeld => ?_)
              clear gk hKK KK
              replace hHeld := Lib.hid (show Grew wr wk1 from hHeld)
              try simp only [Act.put, List.setIfInBounds_toArray, List.set_cons_zero, List.set_cons_succ]
              refine wpAnyH_ready (rs := [21]) (by kernel_rfl) (by simp) ?_
              refine AllReadyH.cons rfl (fun KK hKK => ?_) AllReadyH.nil
              go_simp
              refine (dir_any ((cx, cy), dx, dy) _).mono ?_
              rintro e wk2 ⟨rfl, g⟩
              have gk := hHeld.out.trans g
              rw [hdr.out]
              clear hHeld
              try dsimp only
              refine hKK.out _ _ gk (fun hHeld => ?_)
              clear gk hKK KK
              replace hHeld := Lib.hid (show Grew wr wk2 from hHeld)
              try simp only [Act.put, List.setIfInBounds_toArray, List.set_cons_zero, List.set_cons_succ]
              refine wpAnyH_takeD (i := 22) (d := 40) (v := ?_) rfl rfl (by kernel_rfl) (by kernel_rfl) (by kernel_rfl) (fun _ _ _ h => h) (Or.inl ⟨by rfl, ?_⟩) hHeld.out ?_
              rotate_left
              · intro wv hSw
                replace hSw : Hid (Grew wr wv) := Lib.hid hSw
                have t9 := hq.out
                go_simp
                try with_reducible rfl
              try simp only [Act.put, List.setIfInBounds_toArray, List.set_cons_zero, List.set_cons_succ]
              refine wpAnyH_takeD (i := 23) (d := 41) (v := ?_) rfl rfl (by kernel_rfl) (by kernel_rfl) (by kernel_rfl) (fun _ _ _ h => h) (Or.inl ⟨by rfl, ?_⟩) hHeld.out ?_
              rotate_left
              · intro wv hSw
                replace hSw : Hid (Grew wr wv) := Lib.hid hSw
                go_simp
                try with_reducible rfl
              try simp only [Act.put, List.setIfInBounds_toArray, List.set_cons_zero, List.set_cons_succ]
              refine wpAnyH_done (by kernel_rfl) ?_ _
              go_wp2_with fail
              go_roundg (gk - 1)
              case rel => exact ⟨k + 1, F, by omega, by go_num, rfl, Lib.hid (hnext.out hgg.out), hI'.out.trans hHeld.out⟩
              case measure => omega
          · have hite := Lib.hid (show ∀ (α : Type) (x y : α), (if ax = dx then if ay = dy then x else y else y) = y from fun _ x y => by
              by_cases h1 : ax = dx
              · rw [if_pos h1, if_neg (fun h2 => hpt ⟨h1, h2⟩)]
              · rw [if_neg h1])
            have hgg := Lib.hid (show ¬ goesOn r s from fun h => hpt (hgo.out.1 h).1)
            clear hpt
            refine wp_region_held_drew (S := fun wv => Grew wr wv) (by kernel_rfl) ((Grew.refl wr).drew) (fun hHeld => ?_)
            replace hHeld := Lib.hid hHeld
            try simp only [Act.put, List.setIfInBounds_toArray, List.set_cons_zero, List.set_cons_succ]
            refine wpAnyH_takeD (i := 0) (d := 18) (v := ?_) rfl rfl (by kernel_rfl) (by kernel_rfl) (by kernel_rfl) (fun _ _ _ h => h) (Or.inl ⟨by rfl, ?_⟩) hHeld.out ?_
            rotate_left
            · intro wv hSw
              replace hSw : Hid (Grew wr wv) := Lib.hid hSw
              go_simp
              try with_reducible rfl
            try simp only [Act.put, List.setIfInBounds_toArray, List.set_cons_zero, List.set_cons_succ]
            refine wpAnyH_takeD (i := 1) (d := 19) (v := ?_) rfl rfl (by kernel_rfl) (by kernel_rfl) (by kernel_rfl) (fun _ _ _ h => h) (Or.inl ⟨by rfl, ?_⟩) hHeld.out ?_
            rotate_left
            · intro wv hSw
              replace hSw : Hid (Grew wr wv) := Lib.hid hSw
              go_simp
              try with_reducible rfl
            try simp only [Act.put, List.setIfInBounds_toArray, List.set_cons_zero, List.set_cons_succ]
            refine wpAnyH_takeD (i := 2) (d := 20) (v := ?_) rfl rfl (by kernel_rfl) (by kernel_rfl) (by kernel_rfl) (fun _ _ _ h => h) (Or.inl ⟨by rfl, ?_⟩) hHeld.out ?_
            rotate_left
            · intro wv hSw
              replace hSw : Hid (Grew wr wv) := Lib.hid hSw
              go_simp
              try with_reducible rfl
            try simp only [Act.put, List.setIfInBounds_toArray, List.set_cons_zero, List.set_cons_succ]
            refine wpAnyH_takeD (i := 3) (d := 21) (v := ?_) rfl rfl (by kernel_rfl) (by kernel_rfl) (by kernel_rfl) (fun _ _ _ h => h) (Or.inl ⟨by rfl, ?_⟩) hHeld.out ?_
            rotate_left
            · intro wv hSw
              replace hSw : Hid (Grew wr wv) := Lib.hid hSw
              go_simp
              try with_reducible rfl
            try simp only [Act.put, List.setIfInBounds_toArray, List.set_cons_zero, List.set_cons_succ]
            refine wpAnyH_takeD (i := 4) (d := 22) (v := ?_) rfl rfl (by kernel_rfl) (by kernel_rfl) (by kernel_rfl) (fun _ _ _ h => h) (Or.inl ⟨by rfl, ?_⟩) hHeld.out ?_
            rotate_left
            · intro wv hSw
              replace hSw : Hid (Grew wr wv) := Lib.hid hSw
              have t0 := hSw.out.cell s0.out
              have t1 := hSw.out.cell s1.out
              go_simp
              try with_reducible rfl
            try simp only [Act.put, List.setIfInBounds_toArray, List.set_cons_zero, List.set_cons_succ]
            refine wpAnyH_takeD (i := 5) (d := 23) (v := ?_) rfl rfl (by kernel_rfl) (by kernel_rfl) (by kernel_rfl) (fun _ _ _ h => h) (Or.inl ⟨by rfl, ?_⟩) hHeld.out ?_
            rotate_left
            · intro wv hSw
              replace hSw : Hid (Grew wr wv) := Lib.hid hSw
              go_simp
              try with_reducible rfl
            try simp only [Act.put, List.setIfInBounds_toArray, List.set_cons_zero, List.set_cons_succ]
            refine wpAnyH_takeD (i := 6) (d := 24) (v := ?_) rfl rfl (by kernel_rfl) (by kernel_rfl) (by kernel_rfl) (fun _ _ _ h => h) (Or.inl ⟨by rfl, ?_⟩) hHeld.out ?_
            rotate_left
            · intro wv hSw
              replace hSw : Hid (Grew wr wv) := Lib.hid hSw
              go_simp
              try with_reducible rfl
            try simp only [Act.put, List.setIfInBounds_toArray, List.set_cons_zero, List.set_cons_succ]
            refine wpAnyH_takeD (i := 7) (d := 25) (v := ?_) rfl rfl (by kernel_rfl) (by kernel_rfl) (by kernel_rfl) (fun _ _ _ h => h) (Or.inl ⟨by rfl, ?_⟩) hHeld.out ?_
            rotate_left
            · intro wv hSw
              replace hSw : Hid (Grew wr wv) := Lib.hid hSw
              go_simp
              try with_reducible rfl
            try simp only [Act.put, List.setIfInBounds_toArray, List.set_cons_zero, List.set_cons_succ]
            refine wpAnyH_takeD (i := 8) (d := 26) (v := ?_) rfl rfl (by kernel_rfl) (by kernel_rfl) (by kernel_rfl) (fun _ _ _ h => h) (Or.inl ⟨by rfl, ?_⟩) hHeld.out ?_
            rotate_left
            · intro wv hSw
              replace hSw : Hid (Grew wr wv) := Lib.hid hSw
              go_simp
              try with_reducible rfl
            try simp only [Act.put, List.setIfInBounds_toArray, List.set_cons_zero, List.set_cons_succ]
            refine wpAnyH_takeD (i := 9) (d := 27) (v := ?_) rfl rfl (by kernel_rfl) (by kernel_rfl) (by kernel_rfl) (fun _ _ _ h => h) (Or.inl ⟨by rfl, ?_⟩) hHeld.out ?_
            rotate_left
            · intro wv hSw
              replace hSw : Hid (Grew wr wv) := Lib.hid hSw
              have t0 := hSw.out.cell R2.out
              have t1 := hSw.out.cell R3.out
              go_simp
              try with_reducible rfl
            try simp only [Act.put, List.setIfInBounds_toArray, List.set_cons_zero, List.set_cons_succ]
            refine wpAnyH_takeD (i := 10) (d := 28) (v := ?_) rfl rfl (by kernel_rfl) (by kernel_rfl) (by kernel_rfl) (fun _ _ _ h => h) (Or.inl ⟨by rfl, ?_⟩) hHeld.out ?_
            rotate_left
            · intro wv hSw
              replace hSw : Hid (Grew wr wv) := Lib.hid hSw
              go_simp
              rw [hite.out]
              try with_reducible rfl
            try simp only [Act.put, List.setIfInBounds_toArray, List.set_cons_zero, List.set_cons_succ]
            refine wpAnyH_takeD (i := 11) (d := 29) (v := ?_) rfl rfl (by kernel_rfl) (by kernel_rfl) (by kernel_rfl) (fun _ _ _ h => h) (Or.inl ⟨by rfl, ?_⟩) hHeld.out ?_
            rotate_left
            · intro wv hSw
              replace hSw : Hid (Grew wr wv) := Lib.hid hSw
              go_simp
              try with_reducible rfl
            try simp only [Act.put, List.setIfInBounds_toArray, List.set_cons_zero, List.set_cons_succ]
            refine wpAnyH_takeD (i := 12) (d := 30) (v := undef) rfl rfl (by kernel_rfl) (by kernel_rfl) (by kernel_rfl) (fun _ _ _ h => h) (Or.inr ⟨by rfl, rfl⟩) hHeld.out ?_
            try simp only [Act.put, List.setIfInBounds_toArray, List.set_cons_zero, List.set_cons_succ]
            refine wpAnyH_takeD (i := 13) (d := 31) (v := undef) rfl rfl (by kernel_rfl) (by kernel_rfl) (by kernel_rfl) (fun _ _ _ h => h) (Or.inr ⟨by rfl, rfl⟩) hHeld.out ?_
            try simp only [Act.put, List.setIfInBounds_toArray, List.set_cons_zero, List.set_cons_succ]
            refine wpAnyH_takeD (i := 14) (d := 32) (v := undef) rfl rfl (by kernel_rfl) (by kernel_rfl) (by kernel_rfl) (fun _ _ _ h => h) (Or.inr ⟨by rfl, rfl⟩) hHeld.out ?_
            try simp only [Act.put, List.setIfInBounds_toArray, List.set_cons_zero, List.set_cons_succ]
            refine wpAnyH_takeD (i := 15) (d := 33) (v := undef) rfl rfl (by kernel_rfl) (by kernel_rfl) (by kernel_rfl) (fun _ _ _ h => h) (Or.inr ⟨by rfl, rfl⟩) hHeld.out ?_
            try simp only [Act.put, List.setIfInBounds_toArray, List.set_cons_zero, List.set_cons_succ]
            refine wpAnyH_takeD (i := 16) (d := 34) (v := undef) rfl rfl (by kernel_rfl) (by kernel_rfl) (by kernel_rfl) (fun _ _ _ h => h) (Or.inr ⟨by rfl, rfl⟩) hHeld.out ?_
            try simp only [Act.put, List.setIfInBounds_toArray, List.set_cons_zero, List.set_cons_succ]
            refine wpAnyH_takeD (i := 17) (d := 35) (v := undef) rfl rfl (by kernel_rfl) (by kernel_rfl) (by kernel_rfl) (fun _ _ _ h => h) (Or.inr ⟨by rfl, rfl⟩) hHeld.out ?_
            try simp only [Act.put, List.setIfInBounds_toArray, List.set_cons_zero, List.set_cons_succ]
            refine wpAnyH_takeD (i := 18) (d := 36) (v := undef) rfl rfl (by kernel_rfl) (by kernel_rfl) (by kernel_rfl) (fun _ _ _ h => h) (Or.inr ⟨by rfl, rfl⟩) hHeld.out ?_
            try simp only [Act.put, List.setIfInBounds_toArray, List.set_cons_zero, List.set_cons_succ]
            refine wpAnyH_takeD (i := 19) (d := 37) (v := undef) rfl rfl (by kernel_rfl) (by kernel_rfl) (by kernel_rfl) (fun _ _ _ h => h) (Or.inr ⟨by rfl, rfl⟩) hHeld.out ?_
            try simp only [Act.put, List.setIfInBounds_toArray, List.set_cons_zero, List.set_cons_succ]
            refine wpAnyH_takeD (i := 20) (d := 38) (v := undef) rfl rfl (by kernel_rfl) (by kernel_rfl) (by kernel_rfl) (fun _ _ _ h => h) (Or.inr ⟨by rfl, rfl⟩) hHeld.out ?_
            try simp only [Act.put, List.setIfInBounds_toArray, List.set_cons_zero, List.set_cons_succ]
            refine wpAnyH_takeD (i := 21) (d := 39) (v := undef) rfl rfl (by kernel_rfl) (by kernel_rfl) (by kernel_rfl) (fun _ _ _ h => h) (Or.inr ⟨by rfl, rfl⟩) hHeld.out ?_
            try simp only [Act.put, List.setIfInBounds_toArray, List.set_cons_zero, List.set_cons_succ]
            refine wpAnyH_takeD (i := 22) (d := 40) (v := undef) rfl rfl (by kernel_rfl) (by kernel_rfl) (by kernel_rfl) (fun _ _ _ h => h) (Or.inr ⟨by rfl, rfl⟩) hHeld.out ?_
            try simp only [Act.put, List.setIfInBounds_toArray, List.set_cons_zero, List.set_cons_succ]
            refine wpAnyH_takeD (i := 23) (d := 41) (v := ?_) rfl rfl (by kernel_rfl) (by kernel_rfl) (by kernel_rfl) (fun _ _ _ h => h) (Or.inl ⟨by rfl, ?_⟩) hHeld.out ?_
            rotate_left
            · intro wv hSw
              replace hSw : Hid (Grew wr wv) := Lib.hid hSw
              go_simp
              try with_reducible rfl
            try simp only [Act.put, List.setIfInBounds_toArray, List.set_cons_zero, List.set_cons_succ]
            refine wpAnyH_done (by kernel_rfl) ?_ _
            go_wp2_with fail
            go_roundg (gk - 1)
            case rel => exact ⟨k + 1, F, by omega, by go_num, rfl, Lib.hid (hnext.out hgg.out), hI'.out.trans hHeld.out⟩
            case measure => omega
        · have hkM : k = M := by omega
          have hGI := Lib.hid (hG.out.trans hI)
          have hSI := Lib.hid (hS.out.grew hI)
          have R0 := Lib.hid (hI.cell r0.out)
          have R1 := Lib.hid (hI.cell r1.out)
          have R2 := Lib.hid (hI.cell r2.out)
          have R3 := Lib.hid (hI.cell r3.out)
          have hI' := Lib.hid hI
          have hkl2 : ¬ (k : Int) < (M : Int) := by omega
          clear hI
          rcases hF.out with ⟨hF1, hF2⟩ | ⟨f, s, hF1, hf, hs, hg⟩
          · have hFn : F < 0 := by omega
            have hno2 := Lib.hid (show ∀ j r, j < i + 1 → m[j]? = some r → ∀ s ∈ m, ¬ goesOn r s from fun j u hj hu s hs => by
              by_cases h : j = i
              · subst h
                rw [hr.out] at hu; injection hu with hu; subst hu
                obtain ⟨q, hq, rfl⟩ := List.getElem_of_mem hs
                exact hF2 q _ (by rw [hkM]; rw [← hMm.out]; exact hq) (List.getElem?_eq_getElem hq)
              · exact hno.out j u (by omega) hu s hs)
            clear hF hF1 hF2
            go_wp2_with fail
            go_roundg (m.length * 20000 + (m.length - (i + 1)))
            case rel => exact ⟨m, i + 1, rfl, by go_num, by rw [hMm.out]; omega, by rw [hMm.out]; omega, hC, hno2, hSI.out, hGI.out⟩
            case measure => rw [hMm.out, hgk.out]; omega
          · subst hF1
            have hne := goesOn_ne hC.out hr.out hs hg
            have hfM : f < M := by omega
            obtain ⟨⟨⟨⟨ex, ey⟩, fx, fy⟩, hfs⟩⟩ : Nonempty { z : SegZ // segOf s = z } := ⟨⟨_, rfl⟩⟩
            obtain ⟨⟨f0, f1, f2, f3⟩, -⟩ := he.out f ((ex, ey), fx, fy) (by rw [List.getElem?_map, hs]; exact congrArg some hfs)
            dsimp only at f0 f1 f2 f3
            have F2 := Lib.hid (hI'.out.cell f2)
            have F3 := Lib.hid (hI'.out.cell f3)
            have hjs := Lib.hid (show segOf (joinR r s) = ((cx, cy), fx, fy) by rw [join_seg hrd.out.1 hg, hrs.out, hfs])
            have hcj := Lib.hid (hC.out.join hr.out hs hg)
            have hfl : (f : Int) < (M : Int) := by omega
            have hFn : ¬ (f : Int) < 0 := by omega
            have hlessM := Lib.hid (restR_less m hne M hlt hfM)
            have hne' : ¬ i = f := hne
            clear f0 f1 f2 f3 hF hs hg hne
            go_wp2_with fail
            refine wp_region_held_drew (S := fun wv => Grew wr wv) (by kernel_rfl) ((Grew.refl wr).drew) (fun hHeld => ?_)
            replace hHeld := Lib.hid hHeld
            try simp only [Act.put, List.setIfInBounds_toArray, List.set_cons_zero, List.set_cons_succ]
            refine wpAnyH_takeD (i := 0) (d := 47) (v := ?_) rfl rfl (by kernel_rfl) (by kernel_rfl) (by kernel_rfl) (fun _ _ _ h => h) (Or.inl ⟨by rfl, ?_⟩) hHeld.out ?_
            rotate_left
            · intro wv hSw
              replace hSw : Hid (Grew wr wv) := Lib.hid hSw
              go_simp
              try with_reducible rfl
            try simp only [Act.put, List.setIfInBounds_toArray, List.set_cons_zero, List.set_cons_succ]
            refine wpAnyH_takeD (i := 1) (d := 48) (v := ?_) rfl rfl (by kernel_rfl) (by kernel_rfl) (by kernel_rfl) (fun _ _ _ h => h) (Or.inl ⟨by rfl, ?_⟩) hHeld.out ?_
            rotate_left
            · intro wv hSw
              replace hSw : Hid (Grew wr wv) := Lib.hid hSw
              go_simp
              try with_reducible rfl
            try simp only [Act.put, List.setIfInBounds_toArray, List.set_cons_zero, List.set_cons_succ]
            refine wpAnyH_takeD (i := 2) (d := 49) (v := ?_) rfl rfl (by kernel_rfl) (by kernel_rfl) (by kernel_rfl) (fun _ _ _ h => h) (Or.inl ⟨by rfl, ?_⟩) hHeld.out ?_
            rotate_left
            · intro wv hSw
              replace hSw : Hid (Grew wr wv) := Lib.hid hSw
              go_simp
              try with_reducible rfl
            try simp only [Act.put, List.setIfInBounds_toArray, List.set_cons_zero, List.set_cons_succ]
            refine wpAnyH_takeD (i := 3) (d := 50) (v := ?_) rfl rfl (by kernel_rfl) (by kernel_rfl) (by kernel_rfl) (fun _ _ _ h => h) (Or.inl ⟨by rfl, ?_⟩) hHeld.out ?_
            rotate_left
            · intro wv hSw
              replace hSw : Hid (Grew wr wv) := Lib.hid hSw
              go_simp
              try with_reducible rfl
            try simp only [Act.put, List.setIfInBounds_toArray, List.set_cons_zero, List.set_cons_succ]
            refine wpAnyH_takeD (i := 4) (d := 51) (v := ?_) rfl rfl (by kernel_rfl) (by kernel_rfl) (by kernel_rfl) (fun _ _ _ h => h) (Or.inl ⟨by rfl, ?_⟩) hHeld.out ?_
            rotate_left
            · intro wv hSw
              replace hSw : Hid (Grew wr wv) := Lib.hid hSw
              have t0 := hSw.out.cell R0.out
              have t1 := hSw.out.cell R1.out
              go_simp
              try with_reducible rfl
            try simp only [Act.put, List.setIfInBounds_toArray, List.set_cons_zero, List.set_cons_succ]
            refine wpAnyH_takeD (i := 5) (d := 52) (v := ?_) rfl rfl (by kernel_rfl) (by kernel_rfl) (by kernel_rfl) (fun _ _ _ h => h) (Or.inl ⟨by rfl, ?_⟩) hHeld.out ?_
            rotate_left
            · intro wv hSw
              replace hSw : Hid (Grew wr wv) := Lib.hid hSw
              go_simp
              try with_reducible rfl
            try simp only [Act.put, List.setIfInBounds_toArray, List.set_cons_zero, List.set_cons_succ]
            refine wpAnyH_takeD (i := 6) (d := 53) (v := ?_) rfl rfl (by kernel_rfl) (by kernel_rfl) (by kernel_rfl) (fun _ _ _ h => h) (Or.inl ⟨by rfl, ?_⟩) hHeld.out ?_
            rotate_left
            · intro wv hSw
              replace hSw : Hid (Grew wr wv) := Lib.hid hSw
              go_simp
              try with_reducible rfl
            try simp only [Act.put, List.setIfInBounds_toArray, List.set_cons_zero, List.set_cons_succ]
            refine wpAnyH_takeD (i := 7) (d := 54) (v := ?_) rfl rfl (by kernel_rfl) (by kernel_rfl) (by kernel_rfl) (fun _ _ _ h => h) (Or.inl ⟨by rfl, ?_⟩) hHeld.out ?_
            rotate_left
            · intro wv hSw
              replace hSw : Hid (Grew wr wv) := Lib.hid hSw
              go_simp
              try with_reducible rfl
            try simp only [Act.put, List.setIfInBounds_toArray, List.set_cons_zero, List.set_cons_succ]
            refine wpAnyH_takeD (i := 8) (d := 55) (v := ?_) rfl rfl (by kernel_rfl) (by kernel_rfl) (by kernel_rfl) (fun _ _ _ h => h) (Or.inl ⟨by rfl, ?_⟩) hHeld.out ?_
            rotate_left
            · intro wv hSw
              replace hSw : Hid (Grew wr wv) := Lib.hid hSw
              go_simp
              try with_reducible rfl
            try simp only [Act.put, List.setIfInBounds_toArray, List.set_cons_zero, List.set_cons_succ]
            refine wpAnyH_takeD (i := 9) (d := 56) (v := ?_) rfl rfl (by kernel_rfl) (by kernel_rfl) (by kernel_rfl) (fun _ _ _ h => h) (Or.inl ⟨by rfl, ?_⟩) hHeld.out ?_
            rotate_left
            · intro wv hSw
              replace hSw : Hid (Grew wr wv) := Lib.hid hSw
              have t0 := hSw.out.cell F2.out
              have t1 := hSw.out.cell F3.out
              go_simp
              try with_reducible rfl
            try simp only [Act.put, List.setIfInBounds_toArray, List.set_cons_zero, List.set_cons_succ]
            refine wpAnyH_takeD (i := 10) (d := 57) (v := ?_) rfl rfl (by kernel_rfl) (by kernel_rfl) (by kernel_rfl) (fun _ _ _ h => h) (Or.inl ⟨by rfl, ?_⟩) hHeld.out ?_
            rotate_left
            · intro wv hSw
              replace hSw : Hid (Grew wr wv) := Lib.hid hSw
              go_simp
              try with_reducible rfl
            try simp only [Act.put, List.setIfInBounds_toArray, List.set_cons_zero, List.set_cons_succ]
            refine wpAnyH_ready (rs := [11]) (by kernel_rfl) (by simp) ?_
            refine AllReadyH.cons rfl (fun KK hKK => ?_) AllReadyH.nil
            go_simp
            have gP := hHeld
            clear hHeld
            try dsimp only
            refine hKK.out _ _ (gP.out.alloc _) (fun hHeld => ?_)
            clear hKK KK
            replace hHeld := Lib.hid hHeld
            try simp only [Act.put, List.setIfInBounds_toArray, List.set_cons_zero, List.set_cons_succ]
            refine wpAnyH_takeD (i := 12) (d := 6) (v := ?_) rfl rfl (by kernel_rfl) (by kernel_rfl) (by kernel_rfl) (fun _ _ _ h => h) (Or.inl ⟨by rfl, ?_⟩) hHeld.out ?_
            rotate_left
            · intro wv hSw
              replace hSw : Hid (Grew wr wv) := Lib.hid hSw
              go_simp
              try with_reducible rfl
            try simp only [Act.put, List.setIfInBounds_toArray, List.set_cons_zero, List.set_cons_succ]
            refine wpAnyH_done (by kernel_rfl) ?_ _
            obtain ⟨wa, hwa⟩ : ∃ wa, wr.alloc (.cells #[.int .i64 cx, .int .i64 cy, .int .i64 fx, .int .i64 fy] 76) = wa := ⟨_, rfl⟩
            have hown := own_seg1 wr cx cy fx fy
            rw [hwa] at hown hHeld ⊢
            have hGa := Lib.hid (hGI.out.trans hHeld.out)
            have hIa := Lib.hid (hI'.out.trans hHeld.out)
            have hIaw := Lib.hid hHeld.out
            replace hown := Lib.hid hown
            clear hwa hHeld
            go_wp2_with fail
            obtain ⟨wf, rfl⟩ : ∃ wf : World, wf = wr := ⟨_, rfl⟩
            go_loopg [6, 7] M (fun gk s6 s7 wx => ∃ k : Nat, gk + k = M ∧ s7 = .int .i64 k ∧ wx.ownsRow wf.heap.size 76 4 s6 ((joinR r s :: restR m i f k).map segOf).length (segVals ((joinR r s :: restR m i f k).map segOf)) ∧ Grew wo wx ∧ Grew wf wx)
            case atStart => exact ⟨0, rfl, rfl, by
              have := hown.out
              simp only [restR, List.map_cons, List.map_nil, hjs.out]
              exact this, hIa.out, hIaw.out⟩
            case round =>
              obtain ⟨k2, hk2, rfl, hO, hJ, hJr⟩ := hrel
              have hJs := Lib.hid hJr
              by_cases hk2l : k2 < M
              · obtain ⟨q, hq⟩ : ∃ q, m[k2]? = some q := ⟨m[k2]'(by rw [hMm.out]; omega), List.getElem?_eq_getElem _⟩
                obtain ⟨⟨⟨⟨gx, gy⟩, hx, hy⟩, hqs⟩⟩ : Nonempty { z : SegZ // segOf q = z } := ⟨⟨_, rfl⟩⟩
                obtain ⟨⟨q0, q1, q2, q3⟩, -⟩ := he.out k2 ((gx, gy), hx, hy) (by rw [List.getElem?_map, hq]; exact congrArg some hqs)
                dsimp only at q0 q1 q2 q3
                replace q0 := hJ.cell q0
                replace q1 := hJ.cell q1
                replace q2 := hJ.cell q2
                replace q3 := hJ.cell q3
                have hk3 : (k2 : Int) < (M : Int) := by omega
                have hO' := Lib.hid hO
                have hJ' := Lib.hid hJ
                have hrl := restR_len m i f k2
                clear hO hJ
                by_cases hki : k2 = i
                · have hsu := Lib.hid (show restR m i f (k2 + 1) = restR m i f k2 by rw [restR, if_pos (.inl hki), List.append_nil])
                  subst hki
                  clear q0 q1 q2 q3
                  go_wp2_with fail
                  go_roundg (gk - 1)
                  case rel => exact ⟨k2 + 1, by omega, by go_num, by rw [hsu.out]; exact hO'.out, hJ'.out, hJs.out⟩
                  case measure => omega
                · by_cases hkf : k2 = f
                  · have hsu := Lib.hid (show restR m i f (k2 + 1) = restR m i f k2 by rw [restR, if_pos (.inr hkf), List.append_nil])
                    have hki' : ¬ (k2 : Int) = (i : Int) := by omega
                    subst hkf
                    clear q0 q1 q2 q3
                    go_wp2_with fail
                    go_roundg (gk - 1)
                    case rel => exact ⟨k2 + 1, by omega, by go_num, by rw [hsu.out]; exact hO'.out, hJ'.out, hJs.out⟩
                    case measure => omega
                  · have hsu := Lib.hid (show (joinR r s :: restR m i f k2).map segOf ++ [((gx, gy), hx, hy)] = (joinR r s :: restR m i f (k2 + 1)).map segOf by
                      rw [restR, if_neg (fun h => h.elim hki hkf), hq]
                      simp [hqs])
                    have hki' : ¬ (k2 : Int) = (i : Int) := by omega
                    have hkf' : ¬ (k2 : Int) = (f : Int) := by omega
                    have hb1 : ((k2 : Int) != (i : Int)) = true := by simp [hki']
                    have hb2 : ((k2 : Int) != (f : Int)) = true := by simp [hkf']
                    have hml3 : ((joinR r s :: restR m i f k2).map segOf).length ≤ 1048576 := by rw [List.length_map, List.length_cons]; omega
                    have hsz := hJs.out.size
                    go_wp2_with (first | fail | (at_builtin; (refine wpList_appSeg rfl (.tmp 73) (.tmp 78) rfl rfl rfl hO'.out hml3 hsz ?_); intro vB wzB hOB hGB))
                    have gzB := Lib.hid (hGB wo hI'.out.size hJ'.out)
                    have hJs2 := Lib.hid (hGB wf (Nat.le_refl _) hJs.out)
                    rw [hsu.out] at hOB
                    replace hOB := Lib.hid hOB
                    clear hGB hO' hJ' q0 q1 q2 q3
                    go_wp2_with fail
                    go_roundg (gk - 1)
                    case rel => exact ⟨k2 + 1, by omega, by go_num, hOB.out, gzB.out, hJs2.out⟩
                    case measure => omega
              · have hkM2 : k2 = M := by omega
                have hk3 : ¬ (k2 : Int) < (M : Int) := by omega
                have hcj2 := Lib.hid (show Cov (hasC W H bs) (joinR r s :: restR m i f M) by rw [← hMm.out]; exact hcj.out)
                have hrl := hlessM.out
                have hl2 : (joinR r s :: restR m i f M).length ≤ M - 1 := by rw [List.length_cons]; omega
                have hSn := Lib.hid (segs_own (m := (joinR r s :: restR m i f M).map segOf) (by rw [← hkM2]; exact hO) (fun z hz => by
                  obtain ⟨u, hu, rfl⟩ := List.mem_map.1 hz
                  exact seg_bd (cov_bd hcj2.out hu hW hH)))
                have hGn := Lib.hid (hG.out.trans hJ)
                have hgk' := hgk.out
                clear hO hJ
                go_wp2_with fail
                go_roundg ((joinR r s :: restR m i f M).length * 20000 + ((joinR r s :: restR m i f M).length - 0))
                case rel => exact ⟨joinR r s :: restR m i f M, 0, rfl, rfl, Nat.zero_le _, by omega, hcj2, Lib.hid (fun j r h => by omega), hSn.out, hGn.out⟩
                case measure => omega
    · have hi : i = M := by omega
      have hno2 := Lib.hid (show ∀ r ∈ m, ∀ s ∈ m, ¬ goesOn r s from fun r hr s hs => by
        obtain ⟨q, hq, rfl⟩ := List.getElem_of_mem hr
        exact hno.out q _ (by rw [hi]; rw [← hMm.out]; exact hq) (List.getElem?_eq_getElem hq) s hs)
      have hml2 := Lib.hid (show m.length ≤ 16384 by rw [hMm.out]; omega)
      have hil : ¬ (i : Int) < (M : Int) := by omega
      have hS' := Lib.hid hS
      have hG' := Lib.hid hG
      clear hS hG hi
      go_wp2_with fail
      go_ret
      exact ⟨_, rfl, m, hC.out, hno2.out, hml2.out, hS'.out, hG'.out⟩
end Go.Proofs.YtngbcbncllfblaaGreat
