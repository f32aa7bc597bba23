/- The lengths of months and years, as the program reckons them. -/
import Derived.Test.YtdppkhimnhfjoaaDoorProg
import Derived.Test.YtdppkhimnhfjoaaDoorCal
import Derived.WalkKit
import Derived.KernelRfl
import Derived.Below
import Derived.Lib.Hide
import Derived.Outline
namespace Go.Proofs.YtdppkhimnhfjoaaDoor
open Go.RowKit
theorem tdiv_tmod {a b : Int} (ha : 0 ≤ a) : a.tmod b = a % b := Int.tmod_eq_emod_of_nonneg ha
set_option maxHeartbeats 400000 in
set_option maxRecDepth 100000 in
theorem lengths_calls (y : Int) (w : World) (h0 : 0 ≤ y) (h1 : y ≤ 20000) :
    Calls Tryd.prog 23 #[.int .i64 y] w fun e w' => e = .returned (.agg #[.int .i64 31, .int .i64 (Cal.feb y), .int .i64 31, .int .i64 30, .int .i64 31, .int .i64 30, .int .i64 31, .int .i64 31, .int .i64 30, .int .i64 31, .int .i64 30, .int .i64 31]) ∧ Below w.heap.size w w' := by
  have key : ∀ f : Int, Cal.feb y = f → (∃ b4 b100 b400, (y % 4 == 0) = b4 ∧ (y % 100 != 0) = b100 ∧ (y % 400 == 0) = b400 ∧ f = if b4 && (b100 || b400) then 29 else 28) := by
    intro f hf
    refine ⟨_, _, _, rfl, rfl, rfl, ?_⟩
    rw [← hf]; unfold Cal.feb Cal.leapB
    simp [bne]
  obtain ⟨b4, b100, b400, e4, e100, e400, ef⟩ := key _ rfl
  clear key
  rw [ef]
  clear ef
  cases b4 <;> cases b100 <;> cases b400
  all_goals
    go_enter Tryd.func23, Tryd.ntmps23
    go_wp2
    refine bodyPost_ret (by simp [results, Tryd.results23, go_sem]; rfl) rfl ⟨by rfl, ((Below.refl _ _).alloc (Nat.le_refl _) _).alloc (by simp) _⟩
set_option maxHeartbeats 400000 in
set_option maxRecDepth 100000 in
theorem length_calls (y : Int) (w : World) (h0 : 0 ≤ y) (h1 : y ≤ 20000) :
    Calls Tryd.prog 27 #[.int .i64 y] w fun e w' => e = .returned (.int .i64 (337 + Cal.feb y)) ∧ Below w.heap.size w w' := by
  have b := Cal.feb_bd y
  obtain ⟨b0, b1⟩ := b
  have i1 : ∀ (w : World) (f : Int), (Instr.index 50 (.agg #[.int .i64 31, .int .i64 f, .int .i64 31, .int .i64 30, .int .i64 31, .int .i64 30, .int .i64 31, .int .i64 31, .int .i64 30, .int .i64 31, .int .i64 30, .int .i64 31]) (.int .i64 1)).run Tryd.prog w = .ok (.int .i64 f) w := fun _ _ => by kernel_rfl
  go_enter Tryd.func27, Tryd.ntmps27
  go_wp2_with (go_at_call 23; refine (lengths_calls _ _ h0 h1).mono ?_; rintro e w' ⟨rfl, hb⟩)
  go_ret
  exact ⟨rfl, hb⟩
end Go.Proofs.YtdppkhimnhfjoaaDoor
