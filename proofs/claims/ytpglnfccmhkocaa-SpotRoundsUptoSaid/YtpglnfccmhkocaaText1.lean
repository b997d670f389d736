/- nat.Text of a number of one digit. Condition: the number is from 1 to 9. -/
import Derived.Test.YtpglnfccmhkocaaSpot3
import Derived.Laws.BytesString
namespace Go.Proofs.Ytpglnfccmhkocaa
open Go.RowKit

/-- The text of one digit. -/
def digS (d : Nat) : ByteArray := ⟨#[UInt8.ofNat (48 + d)]⟩

theorem info_u8 : (Try.prog.info? 5).map (fun i => (i.zero, i.size, i.bytes)) = some (some (.int .u8 0), 1, 1) := by kernel_rfl
theorem make_u8_1 (u : World) : (Instr.makeSlice 126 (.int .i64 1) (.int .i64 1)).run Try.prog u = .ok (.slice (some ⟨u.heap.size, 0, none⟩) 1 1) (u.alloc (.cells #[.int .u8 0] 5)) := by
  obtain ⟨i0, hi, hz0, hz1, hz2⟩ := info_parts info_u8
  have h := run_make (P := Try.prog) u 126 5 i0 (.int .u8 0) Try.underlying126 hi hz0 .i64 .i64 1 1 (by omega) (by omega) (by rw [hz2]; omega) (by omega)
  have e : madeCells #[.int .u8 0] 1 = #[.int .u8 0] := by kernel_rfl
  simpa [hz1, Value.cells, e] using h
theorem conv1 (w : World) (b d c : Nat) (h : w.cell? ⟨b, 0, none⟩ = some (.int .u8 ((48 + d : Nat) : Int))) : (convert 126 9 (.slice (some ⟨b, 0, none⟩) 1 c)).run Try.prog w = .ok (.string (digS d)) w := by
  rw [run_convert_bytes_string w _ _ 5 _ _ _ Try.underlying126 Try.underlying5 Try.underlying9]
  rw [run_bytesToString w _ 1 c [((48 + d : Nat) : Int)] (by simp [loadCells, h, go_sem])]
  rfl
theorem len_lt_base {d : Nat} (h0 : 0 < d) (h : d < 4294967296) : len 4294967296 d = 1 := by
  have h1 : len 4294967296 d ≤ 1 := len_le (by omega) (by simpa using h)
  have h2 : len 4294967296 d ≠ 0 := fun e => by have := (len_eq_zero (by omega)).1 e; omega
  omega

set_option maxRecDepth 100000 in
set_option maxHeartbeats 8000000 in
theorem text_digit (va : Value) (d n : Nat) (w : World) (ha : Num 4294967296 .u32 w va d n) (h0 : 0 < d) (h9 : d < 10) :
    Calls Try.prog 111 #[va] w fun e w' => e = .returned (.string (digS d)) ∧ Grew w w' := by
  have hl1 := len_lt_base h0 (by omega)
  have hq : d / 1000000000 = 0 := by omega
  have hr : d % 1000000000 = d := by omega
  have hd10 : (d : Int) % 10 = d := by omega
  have hd0 : (d : Int) / 10 = 0 := by omega
  replace hl1 := Lib.hid hl1
  replace hq := Lib.hid hq
  replace hr := Lib.hid hr
  replace hd10 := Lib.hid hd10
  replace hd0 := Lib.hid hd0
  go_enter Try.func111, Try.ntmps111
  go_wp2_with fail
  refine (trim_any _ _ _ _ ha (by rw [hl1.out]; omega)).mono ?_
  rintro e w1 ⟨v1, rfl, h1, hG1⟩
  obtain ⟨A1, c1, rfl, -⟩ := id h1
  rw [hl1.out] at h1 ⊢
  have H1 := Lib.hid h1
  replace hG1 := Lib.hid hG1
  clear h1 ha
  go_wp2_with fail
  go_loopg [0, 3] 1 (fun gk s0 s3 wr => (gk = 1 ∧ s0 = .slice A1 1 c1 ∧ s3 = .slice none 0 0 ∧ Grew w1 wr) ∨ (gk = 0 ∧ ∃ A2 c2, s0 = .slice A2 0 c2 ∧ wr.ownsRow w1.heap.size 5 1 s3 1 [.int .u8 ((48 + d : Nat) : Int)] ∧ Grew w1 wr))
  case atStart => exact .inl ⟨rfl, rfl, rfl, Grew.refl _⟩
  case round =>
    rcases hrel with ⟨rfl, rfl, rfl, hG2⟩ | ⟨rfl, A2, c2, rfl, hown, hG2⟩
    · replace hG2 := Lib.hid hG2
      go_wp2_with fail
      refine (small_any _ d 1 1000000000 _ (H1.out.grew hG2.out) (by omega) (by omega) (by rw [hl1.out]; omega)).mono ?_
      rintro e w2 ⟨v2, rfl, h2, hG3⟩
      rw [hq.out, len_zero] at h2
      rw [hr.out]
      obtain ⟨A2, c2, rfl, -⟩ := id h2
      replace hG2 := Lib.hid (hG2.out.trans hG3)
      clear h2 hG3
      go_wp2_with fail
      have hp0 : (0 : Int) < (d : Int) := by omega
      have hp9 : (d : Int) < 10 := by omega
      go_loopg [3, 4, 5] 1 (fun gj s3 s4 s5 wr => (gj = 1 ∧ s3 = .slice none 0 0 ∧ s4 = .int .u32 (d : Int) ∧ s5 = .int .i64 0 ∧ Grew w1 wr) ∨
        (gj = 0 ∧ wr.ownsRow w1.heap.size 5 1 s3 1 [.int .u8 ((48 + d : Nat) : Int)] ∧ s4 = .int .u32 0 ∧ s5 = .int .i64 1 ∧ Grew w1 wr))
      case atStart => exact .inl ⟨rfl, rfl, rfl, rfl, hG2.out⟩
      case round =>
        rcases hrel with ⟨rfl, rfl, rfl, rfl, hG4⟩ | ⟨rfl, hown, rfl, rfl, hG4⟩
        · have hsz := hG4.size
          go_wp2_with (first | fail | (at_builtin; refine wpList_app1 _ rfl (.tmp 32) (.tmp 37) 126 rfl w1.heap.size 5 (.int .u8 0) 1 1 Try.underlying126 info_u8 rfl (by omega) _ 0 [] rfl (World.ownsRow_nil _ _ _ _) _ rfl (by simp [Value.oneCell']) rfl (by omega) (by omega) (by exact hsz) ?_; intro v1 w3 hown1 hG5))
          go_roundg 0
          case rel => exact .inr ⟨rfl, by rw [hd10.out] at hown1; simpa using hown1, by rw [hd0.out], rfl, hG5 _ (Nat.le_refl _) hG4⟩
          case measure => omega
        · go_wp2_with fail
          go_roundg 0
          case rel => exact .inr ⟨rfl, A2, c2, rfl, hown, hG4⟩
          case measure => omega
    · obtain ⟨hlen, h | ⟨g, cap, cur, rfl, hg, hheap, hcap, hmax, hcs, htake⟩⟩ := hown
      · exact absurd h.2 (by omega)
      have hcur : cur[0]? = some (.int .u8 ((48 + d : Nat) : Int)) := by
        have := congrArg (fun l : List Value => l[0]?) htake
        simpa using this
      have hcell : wr.cell? ⟨g, 0, none⟩ = some (.int .u8 ((48 + d : Nat) : Int)) := by rw [cell_of_row wr g 0 cur _ (0, 0) hheap]; exact hcur
      have hgl : g < wr.heap.size := (Array.getElem?_eq_some_iff.1 hheap).1
      have hmk := make_u8_1
      replace hcell := Lib.hid hcell
      replace hG2 := Lib.hid (hG1.out.trans hG2)
      clear hlen hg hheap hcap hmax hcs htake hcur H1 hl1 hq hr hd10 hd0 hG1
      have hx0 : (0 : Int) ≤ ((48 + d : Nat) : Int) := by omega
      have hx9 : ((48 + d : Nat) : Int) < 256 := by omega
      have hS : (digS d) = digS d := rfl
      have hcv := fun (u : World) (b c : Nat) (h : u.cell? ⟨b, 0, none⟩ = some (.int .u8 ((48 + d : Nat) : Int))) => conv1 u b d c h
      replace hcv := Lib.hid hcv
      clear hS
      generalize ((48 + d : Nat) : Int) = x at *
      generalize hds : digS d = ds at *
      replace hds := Lib.hid hds
      go_wp2_with fail
      go_loopg [49] 1 (fun gi s49 wt => (gi = 1 ∧ s49 = .int .i64 0 ∧ wt.cell? ⟨wr.heap.size, 0, none⟩ = some (.int .u8 0) ∧ wt.frozen? ⟨wr.heap.size, 0, none⟩ = false ∧ Grew wr wt) ∨
        (gi = 0 ∧ s49 = .int .i64 1 ∧ wt.cell? ⟨wr.heap.size, 0, none⟩ = some (.int .u8 x) ∧ Grew wr wt))
      case atStart => exact .inl ⟨rfl, rfl, by simp [go_sem], by simp [go_sem], (Grew.refl _).alloc _⟩
      case round =>
        rename_i wt
        rcases hrel with ⟨rfl, rfl, hc0, hf0, hG5⟩ | ⟨rfl, rfl, hc0, hG5⟩
        · have hc1 := hG5.cell hcell.out
          replace hG5 := Lib.hid hG5
          go_wp2_with fail
          go_roundg 0
          case rel => exact .inr ⟨rfl, rfl, cell_set hc0 _, hG5.out.setCell (Nat.le_refl _) _⟩
          case measure => omega
        · have hcv2 := hcv.out _ _ 1 hc0
          replace hG5 := Lib.hid hG5
          go_wp2_with fail
          go_ret
          exact ⟨by rw [hds.out]; rfl, hG2.out.trans hG5.out⟩
end Go.Proofs.Ytpglnfccmhkocaa
