/- DateTexts, walked: the text of any number and the number of any text are the reference's. -/
import Derived.Test.YtdppkhimnhfjoaaDoorRefParse
set_option linter.unusedSimpArgs false
set_option linter.unusedVariables false
namespace Go.Proofs.YtdppkhimnhfjoaaDoor
open Go.RowKit
theorem format_both (n : Int) : ∃ (t : List UInt8) (e : Int),
    (∀ w, Env w → Calls Tryd.prog 18 #[.int .i64 n] w fun r w' => r = .returned (.tuple #[.string ⟨t.toArray⟩, .int .i64 e]) ∧ Below w.heap.size w w') ∧
    (∀ w, Calls Tryd.prog 19 #[.int .i64 n] w fun r w' => r = .returned (.tuple #[.string ⟨t.toArray⟩, .int .i64 e]) ∧ Below w.heap.size w w') := by
  by_cases hr : -62167219200 ≤ n ∧ n ≤ 253402300799
  · obtain ⟨r0, r1⟩ := hr
    by_cases hx : ∃ t, IsText n t
    · obtain ⟨t, ht⟩ := hx
      refine ⟨t, 0, fun w hE => (format_yes n w hE r0 r1).mono ?_, fun w => (rformat_yes n w r0 r1).mono ?_⟩
      all_goals
        rintro e w' ⟨t', rfl, hT, hb⟩
        obtain rfl := text_one ht hT rfl
        exact ⟨rfl, hb⟩
    · refine ⟨[], 0, fun w hE => (format_yes n w hE r0 r1).mono ?_, fun w => (rformat_yes n w r0 r1).mono ?_⟩
      all_goals
        rintro e w' ⟨t', rfl, hT, hb⟩
        exact absurd ⟨t', hT⟩ hx
  · exact ⟨[], 1, fun w _ => format_no n w hr, fun w => rformat_no n w hr⟩
theorem parse_both (s : ByteArray) (hs : s.size < 4294967281) : ∃ (k e : Int),
    (∀ w, Env w → Calls Tryd.prog 20 #[.string s] w fun r w' => r = .returned (.tuple #[.int .i64 k, .int .i64 e]) ∧ Below w.heap.size w w') ∧
    (∀ w, Calls Tryd.prog 21 #[.string s] w fun r w' => r = .returned (.tuple #[.int .i64 k, .int .i64 e]) ∧ Below w.heap.size w w') := by
  by_cases hx : ∃ n, IsText n s.data.toList
  · obtain ⟨n, hn⟩ := hx
    refine ⟨n, 0, fun w hE => (parse_calls s w hE hs).mono ?_, fun w => (rparse_calls s w).mono ?_⟩
    all_goals
      rintro e w' ⟨⟨n', rfl, hT⟩ | ⟨_, hT⟩, hb⟩
      · obtain rfl := number_one hn hT
        exact ⟨rfl, hb⟩
      · exact absurd hn (hT n)
  · refine ⟨0, 15, fun w hE => (parse_calls s w hE hs).mono ?_, fun w => (rparse_calls s w).mono ?_⟩
    all_goals
      rintro e w' ⟨⟨n', rfl, hT⟩ | ⟨rfl, hT⟩, hb⟩
      · exact absurd ⟨n', hT⟩ hx
      · exact ⟨rfl, hb⟩
set_option maxHeartbeats 4000000 in
set_option maxRecDepth 100000 in
theorem texts_calls (n : Int) (s : ByteArray) (w : World) (hE : Env w) (hs : s.size ≤ 1048576) :
    Calls Tryd.prog 4 #[.int .i64 n, .string s] w fun e w' => e = .returned (.bool true) ∧ Below w.heap.size w w' := by
  have HE := Lib.hid hE
  clear hE
  obtain ⟨t, e, hF, hRF⟩ := format_both n
  obtain ⟨k, g, hP, hRP⟩ := parse_both s (by omega)
  have HF := Lib.hid hF
  have HRF := Lib.hid hRF
  have HP := Lib.hid hP
  have HRP := Lib.hid hRP
  clear hF hRF hP hRP
  go_enter Tryd.func4, Tryd.ntmps4
  go_wp2_with fail
  refine (HF.out _ HE.out).mono ?_
  rintro _ w1 ⟨rfl, HB⟩
  go_wp2_with fail
  refine (HRF.out _).mono ?_
  rintro _ w2 ⟨rfl, hb⟩
  replace HB := HB.trans (hb.mono HB.size)
  clear hb
  go_wp2_with fail
  refine (HP.out _ (HE.out.stays HB)).mono ?_
  rintro _ w3 ⟨rfl, hb⟩
  replace HB := HB.trans (hb.mono HB.size)
  clear hb
  go_wp2_with fail
  refine (HRP.out _).mono ?_
  rintro _ w4 ⟨rfl, hb⟩
  replace HB := HB.trans (hb.mono HB.size)
  clear hb
  have hE4 := HE.out.stays HB
  go_wp2_with fail
  refine (alive_calls _ hE4).mono ?_
  rintro _ w6 ⟨rfl, hb6⟩
  go_wp2_with fail
  go_ret
  exact ⟨rfl, HB.trans (hb6.mono HB.size)⟩
end Go.Proofs.YtdppkhimnhfjoaaDoor
