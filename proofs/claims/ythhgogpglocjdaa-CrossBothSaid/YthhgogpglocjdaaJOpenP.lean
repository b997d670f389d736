/- How points of the grid come in. Conditions: none. -/
import Derived.Test.YthhgogpglocjdaaJOpen
import Derived.Test.YthhgogpglocjdaaJGrid2
namespace Go.Proofs.Ythhgogpglocjdaa
open Go.ChangeShapes Go.WideShapes Go.ChangeAt Go.RowKit

section
variable {H : Type} {enc : TypeId × Value → H} {w : World} {base : Nat} {spare : Nat → Bool} {held : Bool}

theorem cells_int : Try.prog.cellsOf 3 = 1 := by kernel_rfl
theorem cells_point : Try.prog.cellsOf 23 = 2 := by kernel_rfl

theorem open_num {fuel : Nat} {cs : List Value} {x : DataW H × List MemPlace} (h : DataW.trod enc Try.prog w base spare held fuel 3 cs = some x) :
    ∃ n : Int, cs = [.int .i64 n] ∧ -9223372036854775808 ≤ n ∧ n ≤ 9223372036854775807 := by
  obtain ⟨n, rfl, -, hw⟩ := DataW.trod_int Try.underlying3 h
  have := bounds_i64 hw
  exact ⟨n, rfl, this⟩
set_option maxRecDepth 100000 in
theorem open_point {fuel : Nat} {cs : List Value} {x : DataW H × List MemPlace} (h : DataW.trod enc Try.prog w base spare held fuel 23 cs = some x) :
    ∃ a b : Int, cs = [.int .i64 a, .int .i64 b] ∧ In64 a b := by
  obtain ⟨y0, y1, n1, rfl, hl, h0, h1⟩ := trod_struct2 Try.underlying23 h
  rw [cells_point] at hl
  match cs, hl with
  | [a0, a1], _ =>
    simp only [cells_int, List.drop_zero, List.drop_succ_cons, List.take_succ_cons, List.take_zero] at h0 h1
    obtain ⟨a, ha, a1, a2⟩ := open_num h0
    obtain ⟨b, hb, b1, b2⟩ := open_num h1
    injection ha with ha
    injection hb with hb
    subst ha; subst hb
    exact ⟨a, b, rfl, a1, a2, b1, b2⟩
end
end Go.Proofs.Ythhgogpglocjdaa
