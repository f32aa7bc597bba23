/- DateDays, walked: a day later is 86400 more, a day of the week later, and the next day of the month, the first of the next month or of the next year. -/
import Derived.Test.YtdppkhimnhfjoaaDoorAlive
set_option linter.unusedSimpArgs false
set_option linter.unusedVariables false
namespace Go.Proofs.YtdppkhimnhfjoaaDoor
open Go.RowKit Go.Proofs.YtdppkhimnhfjoaaDoorW.PrintWords Go.Proofs.YtdppkhimnhfjoaaDoorW.PrintLast
theorem wday_next {n : Int} (h0 : -62167219200 ≤ n) (h1 : n ≤ 253402214399) : wday (n + 86400) = (wday n + 1) % 7 := by
  unfold wday
  rw [if_pos (by omega), if_pos (by omega)]
  omega
set_option maxHeartbeats 4000000 in
set_option maxRecDepth 100000 in
theorem daysLaw_calls (n : Int) (w : World) (hE : Env w) :
    Calls Tryd.prog 6 #[.int .i64 n] w fun e w' => e = .returned (.bool true) ∧ Below w.heap.size w w' := by
  have HE := Lib.hid hE
  clear hE
  by_cases hr : -62167219200 ≤ n ∧ n ≤ 253402300799
  · obtain ⟨r0, r1⟩ := hr
    go_enter Tryd.func6, Tryd.ntmps6
    go_wp2_with fail
    refine (of_yes _ _ r0 r1).mono ?_
    rintro _ w1 ⟨y, m, d, h, mi, s, rfl, hv, hn, hb1⟩
    have B3 := blk_new w1 (.cells #[.int .i64 y, .int .i64 m, .int .i64 d, .int .i64 h, .int .i64 mi, .int .i64 s] 27)
    have HB := hb1.alloc hb1.size (.cells #[.int .i64 y, .int .i64 m, .int .i64 d, .int .i64 h, .int .i64 mi, .int .i64 s] 27)
    clear hb1
    by_cases h2 : n ≤ 253402214399
    · have q1 : decide (253402214399 < n) = false := by simpa using h2
      have e1 : IntKind.i64.wrap (n + 86400) = n + 86400 := IntWalk.i64_in _ (by omega)
      obtain ⟨y', m', d', hv', hn', hc⟩ := Cal.next_day hv (by omega)
      have hb := Cal.num_bd hv
      obtain ⟨k, hk⟩ : ∃ k : Int, wday n = k := ⟨_, rfl⟩
      have hk7 := wday_bd n
      have hw2 := wday_next r0 h2
      rw [hk] at hk7 hw2
      have e2 : IntKind.i64.wrap (k + 1) = k + 1 := IntWalk.i64_in _ (by omega)
      obtain ⟨y0, y1, m0, m1, d0, d1, -⟩ := hv
      have db := Cal.dim_bd y m
      have e3 : IntKind.i64.wrap (d + 1) = d + 1 := IntWalk.i64_in _ (by omega)
      have e4 : IntKind.i64.wrap (m + 1) = m + 1 := IntWalk.i64_in _ (by omega)
      have e5 : IntKind.i64.wrap (y + 1) = y + 1 := IntWalk.i64_in _ (by omega)
      have HN := Lib.hid hn
      have HN' := Lib.hid hn'
      have HV' := Lib.hid hv'
      have HK := Lib.hid hk
      have HK7 := Lib.hid hk7
      have HW2 := Lib.hid hw2
      have HC := Lib.hid hc
      clear hn hn' hv' hk hk7 hw2 hc hb y0 y1 m0 m1 d0 d1 db
      go_wp2_with fail
      refine (of_yes (n + 86400) _ (by omega) (by omega)).mono ?_
      rintro _ w2 ⟨ya, ma, da, ha, mia, sa, rfl, hva, hna, hb2⟩
      obtain ⟨rfl, rfl, rfl, rfl, rfl, rfl⟩ := Cal.num_inj hva HV'.out (by rw [hna, HN'.out, HN.out])
      clear hva hna
      replace B3 := blk_below B3 hb2
      replace HB := HB.trans (hb2.mono HB.size)
      clear hb2
      have B5 := blk_new w2 (.cells #[.int .i64 ya, .int .i64 ma, .int .i64 da, .int .i64 ha, .int .i64 mia, .int .i64 sa] 27)
      replace B3 := blk_alloc B3 (.cells #[.int .i64 ya, .int .i64 ma, .int .i64 da, .int .i64 ha, .int .i64 mia, .int .i64 sa] 27)
      replace HB := HB.alloc HB.size (.cells #[.int .i64 ya, .int .i64 ma, .int .i64 da, .int .i64 ha, .int .i64 mia, .int .i64 sa] 27)
      go_wp2_with fail
      generalize w2.alloc _ = W at B3 B5 HB ⊢
      generalize w2.heap.size = b5 at B5 ⊢
      generalize w1.heap.size = b3 at B3 ⊢
      refine (weekday_calls _ _).mono ?_
      rintro _ _ ⟨rfl, rfl⟩
      rw [HW2.out]
      go_wp2_with fail
      refine (weekday_calls _ _).mono ?_
      rintro _ _ ⟨rfl, rfl⟩
      rw [HK.out]
      have et : (k + 1).tmod 7 = (k + 1) % 7 := Int.tmod_eq_emod_of_nonneg (by have := HK7.out; omega)
      have s0 := (blk_cell B3 0).trans rfl
      have u0 := (blk_cell B5 0).trans rfl
      have s1 := (blk_cell B3 1).trans rfl
      have u1 := (blk_cell B5 1).trans rfl
      have s2 := (blk_cell B3 2).trans rfl
      have u2 := (blk_cell B5 2).trans rfl
      have s3 := (blk_cell B3 3).trans rfl
      have u3 := (blk_cell B5 3).trans rfl
      have s4 := (blk_cell B3 4).trans rfl
      have u4 := (blk_cell B5 4).trans rfl
      have s5 := (blk_cell B3 5).trans rfl
      have u5 := (blk_cell B5 5).trans rfl
      simp at s0 s1 s2 s3 s4 s5 u0 u1 u2 u3 u4 u5
      have hE5 := HE.out.stays HB
      rcases HC.out with ⟨rfl, rfl, rfl⟩ | ⟨rfl, rfl, rfl, hd⟩ | ⟨rfl, rfl, rfl, rfl, rfl⟩
      · have b1 : (m == m + 1) = false := beq_eq_false_iff_ne.2 (by omega)
        have b2 : (y == y + 1) = false := beq_eq_false_iff_ne.2 (by omega)
        go_wp2_with fail
        refine (alive_calls _ hE5).mono ?_
        rintro _ w6 ⟨rfl, hb6⟩
        go_wp2_with fail
        go_ret
        exact ⟨rfl, HB.trans (hb6.mono HB.size)⟩
      · have b1 : (m == m + 1) = false := beq_eq_false_iff_ne.2 (by omega)
        have b2 : (y == y + 1) = false := beq_eq_false_iff_ne.2 (by omega)
        have b3 : decide (28 ≤ d) = true := by simpa using hd
        go_wp2_with fail
        refine (alive_calls _ hE5).mono ?_
        rintro _ w6 ⟨rfl, hb6⟩
        go_wp2_with fail
        go_ret
        exact ⟨rfl, HB.trans (hb6.mono HB.size)⟩
      · have b2 : (y == y + 1) = false := beq_eq_false_iff_ne.2 (by omega)
        go_wp2_with fail
        refine (alive_calls _ hE5).mono ?_
        rintro _ w6 ⟨rfl, hb6⟩
        go_wp2_with fail
        go_ret
        exact ⟨rfl, HB.trans (hb6.mono HB.size)⟩
    · have q1 : decide (253402214399 < n) = true := by simpa using h2
      have hE5 := HE.out.stays HB
      go_wp2_with fail
      refine (alive_calls _ hE5).mono ?_
      rintro _ w6 ⟨rfl, hb6⟩
      go_wp2_with fail
      go_ret
      exact ⟨rfl, HB.trans (hb6.mono HB.size)⟩
  · have HR := Lib.hid hr
    clear hr
    go_enter Tryd.func6, Tryd.ntmps6
    go_wp2_with fail
    refine (of_no _ _ HR.out).mono ?_
    rintro _ w1 ⟨rfl, hb1⟩
    have HB := hb1.alloc hb1.size (.cells #[.int .i64 0, .int .i64 0, .int .i64 0, .int .i64 0, .int .i64 0, .int .i64 0] 27)
    have hE5 := HE.out.stays HB
    go_wp2_with fail
    refine (alive_calls _ hE5).mono ?_
    rintro _ w6 ⟨rfl, hb6⟩
    go_wp2_with fail
    go_ret
    exact ⟨rfl, HB.trans (hb6.mono HB.size)⟩
end Go.Proofs.YtdppkhimnhfjoaaDoor
