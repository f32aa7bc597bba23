/- The document's calendar (leap, days, before, Right, Number, Weekday), walked, and the program's Weekday. -/
import Derived.Test.YtdppkhimnhfjoaaDoorOf
namespace Go.Proofs.YtdppkhimnhfjoaaDoor
open Go.RowKit Go.Proofs.YtdppkhimnhfjoaaDoorW.PrintWords
set_option maxHeartbeats 400000 in
theorem leap_calls (y : Int) (w : World) (h0 : 0 ≤ y) :
    Calls Tryd.prog 37 #[.int .i64 y] w fun e w' => e = .returned (.bool (Cal.leapB y)) ∧ w = w' := by
  have key : ∀ f : Bool, Cal.leapB y = f → (∃ b4 b100 b400, (y % 4 == 0) = b4 ∧ (y % 100 != 0) = b100 ∧ (y % 400 == 0) = b400 ∧ (b400 = true → b4 = true) ∧ f = (b4 && (b100 || b400))) := by
    intro f hf
    refine ⟨_, _, _, rfl, rfl, rfl, ?_, ?_⟩
    · simp; omega
    · rw [← hf]; unfold Cal.leapB; simp [bne]
  obtain ⟨b4, b100, b400, e4, e100, e400, eb, ef⟩ := key _ rfl
  clear key
  rw [ef]
  clear ef
  cases b4 <;> cases b100 <;> cases b400 <;> simp at eb <;> (try clear eb)
  all_goals
    go_enter Tryd.func37, Tryd.ntmps37
    go_wp2
    go_ret
    exact ⟨rfl, rfl⟩
set_option maxHeartbeats 400000 in
theorem days_calls (y m : Int) (w : World) (h0 : 0 ≤ y) :
    Calls Tryd.prog 26 #[.int .i64 y, .int .i64 m] w fun e w' => e = .returned (.int .i64 (Cal.dim y m)) ∧ w = w' := by
  by_cases h4 : m = 4
  · subst h4
    go_enter Tryd.func26, Tryd.ntmps26
    go_wp2_with fail
    go_ret
    exact ⟨rfl, rfl⟩
  by_cases h6 : m = 6
  · subst h6
    go_enter Tryd.func26, Tryd.ntmps26
    go_wp2_with fail
    go_ret
    exact ⟨rfl, rfl⟩
  by_cases h9 : m = 9
  · subst h9
    go_enter Tryd.func26, Tryd.ntmps26
    go_wp2_with fail
    go_ret
    exact ⟨rfl, rfl⟩
  by_cases h11 : m = 11
  · subst h11
    go_enter Tryd.func26, Tryd.ntmps26
    go_wp2_with fail
    go_ret
    exact ⟨rfl, rfl⟩
  by_cases h2 : m = 2
  · subst h2
    clear h4 h6 h9 h11
    have hl := leap_calls y w h0
    have e : Cal.dim y 2 = if Cal.leapB y = true then 29 else 28 := rfl
    rw [e]; clear e
    generalize Cal.leapB y = L at hl ⊢
    have HL := Lib.hid hl
    clear hl
    cases L
    all_goals
      go_enter Tryd.func26, Tryd.ntmps26
      go_wp2_with (go_at_call 37; (with_reducible refine (HL.out).mono ?_); rintro e w' ⟨rfl, rfl⟩)
      go_ret
      exact ⟨rfl, rfl⟩
  · have e : Cal.dim y m = 31 := by
      unfold Cal.dim; rw [if_neg h2, if_neg (by omega)]
    rw [e]
    have b4 : (m == 4) = false := beq_eq_false_iff_ne.2 h4
    have b6 : (m == 6) = false := beq_eq_false_iff_ne.2 h6
    have b9 : (m == 9) = false := beq_eq_false_iff_ne.2 h9
    have b11 : (m == 11) = false := beq_eq_false_iff_ne.2 h11
    have b2 : (m == 2) = false := beq_eq_false_iff_ne.2 h2
    clear h4 h6 h9 h11 h2 e
    go_enter Tryd.func26, Tryd.ntmps26
    go_wp2_with fail
    go_ret
    exact ⟨rfl, rfl⟩
set_option maxHeartbeats 400000 in
theorem before_calls (y : Int) (w : World) (h0 : 0 ≤ y) (h1 : y ≤ 20000) :
    Calls Tryd.prog 25 #[.int .i64 y] w fun e w' => e = .returned (.int .i64 (Cal.dy y)) ∧ w = w' := by
  by_cases hy : y = 0
  · subst hy
    go_enter Tryd.func25, Tryd.ntmps25
    go_wp2_with fail
    go_ret
    exact ⟨rfl, rfl⟩
  · have b0 : (y == 0) = false := beq_eq_false_iff_ne.2 hy
    have y1 : 1 ≤ y := by omega
    have e : Cal.dy y = 365 * y + (y - 1) / 4 - (y - 1) / 100 + (y - 1) / 400 + 1 := by unfold Cal.dy; omega
    rw [e]
    clear hy e
    go_enter Tryd.func25, Tryd.ntmps25
    go_wp2_with fail
    go_ret
    exact ⟨rfl, rfl⟩
/-- A number's day of the week. -/
def wday (n : Int) : Int := if -62167219200 ≤ n ∧ n ≤ 253402300799 then ((n + 62167219200) / 86400 + 5) % 7 else 0
set_option maxHeartbeats 400000 in
theorem weekday_calls (n : Int) (w : World) :
    Calls Tryd.prog 15 #[.int .i64 n] w fun e w' => e = .returned (.int .i64 (wday n)) ∧ w = w' := by
  by_cases h : -62167219200 ≤ n ∧ n ≤ 253402300799
  · unfold wday
    rw [if_pos h]
    obtain ⟨h0, h1⟩ := h
    go_enter Tryd.func15, Tryd.ntmps15
    go_wp2_with (go_at_call 22; (with_reducible refine (within_true _ _ _ _ ⟨h0, h1⟩).mono ?_); rintro e w' ⟨rfl, rfl⟩)
    go_ret
    exact ⟨rfl, rfl⟩
  · unfold wday
    rw [if_neg h]
    have H := Lib.hid h
    clear h
    go_enter Tryd.func15, Tryd.ntmps15
    go_wp2_with (go_at_call 22; (with_reducible refine (within_false _ _ _ _ H.out).mono ?_); rintro e w' ⟨rfl, rfl⟩)
    go_ret
    exact ⟨rfl, rfl⟩
set_option maxHeartbeats 400000 in
theorem rweekday_calls (n : Int) (w : World) :
    Calls Tryd.prog 16 #[.int .i64 n] w fun e w' => e = .returned (.int .i64 (wday n)) ∧ w = w' := by
  by_cases h0 : -62167219200 ≤ n
  · by_cases h1 : n ≤ 253402300799
    · unfold wday
      rw [if_pos ⟨h0, h1⟩]
      go_enter Tryd.func16, Tryd.ntmps16
      go_wp2_with fail
      go_ret
      exact ⟨rfl, rfl⟩
    · unfold wday
      rw [if_neg (fun q => h1 q.2)]
      go_enter Tryd.func16, Tryd.ntmps16
      go_wp2_with fail
      go_ret
      exact ⟨rfl, rfl⟩
  · unfold wday
    rw [if_neg (fun q => h0 q.1)]
    go_enter Tryd.func16, Tryd.ntmps16
    go_wp2_with fail
    go_ret
    exact ⟨rfl, rfl⟩
end Go.Proofs.YtdppkhimnhfjoaaDoor
