/- The document's Right and Number, walked. -/
import Derived.Test.YtdppkhimnhfjoaaDoorRefDays
namespace Go.Proofs.YtdppkhimnhfjoaaDoor
open Go.RowKit Go.Proofs.YtdppkhimnhfjoaaDoorW.PrintWords
set_option maxHeartbeats 2000000 in
set_option maxRecDepth 100000 in
theorem right_true (y m d h mi s : Int) (w : World) (v : Cal.Valid y m d h mi s) :
    Calls Tryd.prog 24 #[.agg #[.int .i64 y, .int .i64 m, .int .i64 d, .int .i64 h, .int .i64 mi, .int .i64 s]] w fun e w' => e = .returned (.bool true) ∧ Below w.heap.size w w' := by
  obtain ⟨y0, y1, m0, m1, d0, d1, h0, h1, i0, i1, s0, s1⟩ := v
  have a1 : decide (y < 0) = false := by simp; omega
  have a2 : decide (9999 < y) = false := by simp; omega
  have a3 : decide (m < 1) = false := by simp; omega
  have a4 : decide (12 < m) = false := by simp; omega
  have a5 : decide (d < 1) = false := by simp; omega
  have a6 : decide (Cal.dim y m < d) = false := by simp; omega
  go_enter Tryd.func24, Tryd.ntmps24
  go_wp2_with fail
  go_quiet ((go_at_call 26; exact Calls.quiet_of_same ((days_calls _ _ _ y0).mono fun _ _ h => ⟨h.1, h.2.symm⟩)))
  go_wp2
  go_ret
  exact ⟨rfl, below_drewN ((Below.refl _ _).alloc (Nat.le_refl _) _) _⟩
set_option maxHeartbeats 4000000 in
set_option maxRecDepth 100000 in
theorem right_head (y m d h mi s : Int) (w : World)
    (hh : (decide (y < 0) = true) ∨ (decide (y < 0) = false ∧ decide (9999 < y) = true) ∨ (decide (y < 0) = false ∧ decide (9999 < y) = false ∧ decide (m < 1) = true) ∨
      (decide (y < 0) = false ∧ decide (9999 < y) = false ∧ decide (m < 1) = false ∧ decide (12 < m) = true) ∨
      (decide (y < 0) = false ∧ decide (9999 < y) = false ∧ decide (m < 1) = false ∧ decide (12 < m) = false ∧ decide (d < 1) = true) ∨
      (decide (y < 0) = false ∧ decide (9999 < y) = false ∧ decide (m < 1) = false ∧ decide (12 < m) = false ∧ decide (d < 1) = false ∧ decide (Cal.dim y m < d) = true)) :
    Calls Tryd.prog 24 #[.agg #[.int .i64 y, .int .i64 m, .int .i64 d, .int .i64 h, .int .i64 mi, .int .i64 s]] w fun e w' => e = .returned (.bool false) ∧ Below w.heap.size w w' := by
  rcases hh with a1 | ⟨a1, a2⟩ | ⟨a1, a2, a3⟩ | ⟨a1, a2, a3, a4⟩ | ⟨a1, a2, a3, a4, a5⟩ | ⟨a1, a2, a3, a4, a5, a6⟩
  all_goals
    go_enter Tryd.func24, Tryd.ntmps24
    go_wp2_with fail
    go_quiet ((go_at_call 26; exact Calls.quiet_of_same ((days_calls _ _ _ (by have := of_decide_eq_false a1; omega)).mono fun _ _ h => ⟨h.1, h.2.symm⟩)))
    go_wp2
    go_ret
    exact ⟨rfl, below_drewN ((Below.refl _ _).alloc (Nat.le_refl _) _) _⟩
set_option maxHeartbeats 4000000 in
set_option maxRecDepth 100000 in
theorem right_tail (y m d h mi s : Int) (w : World) (hv : 0 ≤ y ∧ y ≤ 9999 ∧ 1 ≤ m ∧ m ≤ 12 ∧ 1 ≤ d ∧ d ≤ Cal.dim y m)
    (hh : h < 0 ∨ (0 ≤ h ∧ 23 < h) ∨ (0 ≤ h ∧ h ≤ 23 ∧ mi < 0) ∨ (0 ≤ h ∧ h ≤ 23 ∧ 0 ≤ mi ∧ 59 < mi) ∨ (0 ≤ h ∧ h ≤ 23 ∧ 0 ≤ mi ∧ mi ≤ 59 ∧ s < 0) ∨ (0 ≤ h ∧ h ≤ 23 ∧ 0 ≤ mi ∧ mi ≤ 59 ∧ 0 ≤ s ∧ 59 < s)) :
    Calls Tryd.prog 24 #[.agg #[.int .i64 y, .int .i64 m, .int .i64 d, .int .i64 h, .int .i64 mi, .int .i64 s]] w fun e w' => e = .returned (.bool false) ∧ Below w.heap.size w w' := by
  obtain ⟨y0, y1, m0, m1, d0, d1⟩ := hv
  have a1 : decide (y < 0) = false := by simp; omega
  have a2 : decide (9999 < y) = false := by simp; omega
  have a3 : decide (m < 1) = false := by simp; omega
  have a4 : decide (12 < m) = false := by simp; omega
  have a5 : decide (d < 1) = false := by simp; omega
  have a6 : decide (Cal.dim y m < d) = false := by simp; omega
  clear y1 m0 m1 d0 d1
  rcases hh with b1 | ⟨b1, b2⟩ | ⟨b1, b2, b3⟩ | ⟨b1, b2, b3, b4⟩ | ⟨b1, b2, b3, b4, b5⟩ | ⟨b1, b2, b3, b4, b5, b6⟩
  all_goals
    go_enter Tryd.func24, Tryd.ntmps24
    go_wp2_with fail
    go_quiet ((go_at_call 26; exact Calls.quiet_of_same ((days_calls _ _ _ y0).mono fun _ _ h => ⟨h.1, h.2.symm⟩)))
    go_wp2
    go_ret
    exact ⟨by first | rfl | (show Ending.returned (.bool (decide (s ≤ 59))) = _; rw [decide_eq_false (by omega)]), below_drewN ((Below.refl _ _).alloc (Nat.le_refl _) _) _⟩
theorem right_false (y m d h mi s : Int) (w : World) (v : ¬ Cal.Valid y m d h mi s) :
    Calls Tryd.prog 24 #[.agg #[.int .i64 y, .int .i64 m, .int .i64 d, .int .i64 h, .int .i64 mi, .int .i64 s]] w fun e w' => e = .returned (.bool false) ∧ Below w.heap.size w w' := by
  by_cases hv : 0 ≤ y ∧ y ≤ 9999 ∧ 1 ≤ m ∧ m ≤ 12 ∧ 1 ≤ d ∧ d ≤ Cal.dim y m
  · refine right_tail y m d h mi s w hv ?_
    have : ¬ (0 ≤ h ∧ h ≤ 23 ∧ 0 ≤ mi ∧ mi ≤ 59 ∧ 0 ≤ s ∧ s ≤ 59) := fun ⟨a, b, c, d', e, f⟩ => v ⟨hv.1, hv.2.1, hv.2.2.1, hv.2.2.2.1, hv.2.2.2.2.1, hv.2.2.2.2.2, a, b, c, d', e, f⟩
    omega
  · refine right_head y m d h mi s w ?_
    simp only [decide_eq_true_eq, decide_eq_false_iff_not]
    omega
set_option maxHeartbeats 2000000 in
set_option maxRecDepth 100000 in
theorem rnumber_no (y m d h mi s : Int) (w : World) (v : ¬ Cal.Valid y m d h mi s) :
    Calls Tryd.prog 11 #[.agg #[.int .i64 y, .int .i64 m, .int .i64 d, .int .i64 h, .int .i64 mi, .int .i64 s]] w fun e w' => e = .returned (.tuple #[.int .i64 0, .int .i64 1]) ∧ Below w.heap.size w w' := by
  have V := Lib.hid v
  clear v
  go_enter Tryd.func11, Tryd.ntmps11
  go_wp2_with (go_at_call 24; (with_reducible refine (right_false _ _ _ _ _ _ _ V.out).mono ?_); rintro e w1 ⟨rfl, hb⟩)
  go_ret2
  exact ⟨rfl, ((Below.refl _ _).alloc (Nat.le_refl _) _).trans (hb.mono (by simp))⟩
set_option maxHeartbeats 2000000 in
set_option maxRecDepth 100000 in
theorem rnumber_valid (y m d h mi s : Int) (w : World) (v : Cal.Valid y m d h mi s) :
    Calls Tryd.prog 11 #[.agg #[.int .i64 y, .int .i64 m, .int .i64 d, .int .i64 h, .int .i64 mi, .int .i64 s]] w fun e w' => e = .returned (.tuple #[.int .i64 (Cal.num y m d h mi s), .int .i64 0]) ∧ Below w.heap.size w w' := by
  have V := Lib.hid v
  obtain ⟨y0, y1, m0, m1, d0, d1, h0, h1, i0, i1, s0, s1⟩ := v
  have db := (Cal.dim_bd y m).2
  have dl : d ≤ 31 := by omega
  have yb := Cal.dy_bd y y0 (by omega)
  obtain ⟨yb0, yb1⟩ := yb
  have cb : ∀ j : Int, 1 ≤ j → j ≤ m → 0 ≤ Cal.cum y j ∧ Cal.cum y j ≤ 366 := fun j a b => Cal.cum_bd y j a (by omega)
  have CB := Lib.hid cb
  have hnum : Cal.num y m d h mi s = -62167219200 + (Cal.dy y + d - 1 + Cal.cum y m) * 86400 + h * 3600 + mi * 60 + s := by
    unfold Cal.num Cal.dayOf; omega
  have HN := Lib.hid hnum
  clear d1 hnum cb db
  go_enter Tryd.func11, Tryd.ntmps11
  go_wp2_with (go_at_call 24; (with_reducible refine (right_true _ _ _ _ _ _ _ V.out).mono ?_); rintro e w1 ⟨rfl, hb⟩)
  have hd : w1.heap[w.heap.size]? = some (.cells #[.int .i64 y, .int .i64 m, .int .i64 d, .int .i64 h, .int .i64 mi, .int .i64 s] 23 (0, 0)) := blk_below (blk_new _ _) hb
  have hB : Below w.heap.size w w1 := ((Below.refl _ _).alloc (Nat.le_refl _) _).trans (hb.mono (by simp))
  clear hb
  have e0 := blk_cell hd 0
  have e1 := blk_cell hd 1
  have e2 := blk_cell hd 2
  have e3 := blk_cell hd 3
  have e4 := blk_cell hd 4
  have e5 := blk_cell hd 5
  simp at e0 e1 e2 e3 e4 e5
  clear hd
  have k1 : IntKind.i64.wrap (Cal.dy y + d) = Cal.dy y + d := IntWalk.i64_in _ (by omega)
  have k2 : IntKind.i64.wrap (Cal.dy y + d - 1) = Cal.dy y + d - 1 := IntWalk.i64_in _ (by omega)
  go_quiet ((go_at_call 25; exact Calls.quiet_of_same ((before_calls _ _ y0 (by omega)).mono fun _ _ h => ⟨h.1, h.2.symm⟩)))
  clear k1 k2
  obtain ⟨n, hn⟩ : ∃ n : Int, Cal.dy y + d - 1 = n := ⟨_, rfl⟩
  have n0 : 0 ≤ n := by omega
  have n1 : n ≤ 4000000 := by omega
  rw [hn] at HN
  have HE := Lib.hid hn
  clear hn
  go_wp2_with fail
  rw [HE.out]
  go_loop [4, 5] (fun t i => ∃ k : Int, 1 ≤ k ∧ k ≤ m ∧ i = .int .i64 k ∧ t = .int .i64 (n + Cal.cum y k)) (fun _ i => (m - intOf i).toNat)
  case atStart => exact ⟨1, by omega, by omega, rfl, by simp [Cal.cum_one]⟩
  case round =>
    obtain ⟨k, hk0, hk, rfl, rfl⟩ := hrel
    obtain ⟨q0, q1⟩ := CB.out k hk0 hk
    by_cases hlt : k < m
    · have dd := (Cal.dim_bd y k)
      obtain ⟨dd0, dd1⟩ := dd
      have cs := Cal.cum_succ y k (by omega) (by omega)
      have HS := Lib.hid cs
      clear cs
      go_wp2_with (go_at_call 26; (with_reducible refine (days_calls _ _ _ y0).mono ?_); rintro e w' ⟨rfl, rfl⟩)
      go_round
      case rel => exact ⟨k + 1, by omega, by omega, by go_num, by rw [HS.out]; go_num⟩
      case measure => simp [intOf]; omega
    · obtain rfl : k = m := by omega
      go_wp2_with fail
      go_ret2
      exact ⟨by rw [HN.out]; rfl, below_drewN hB _⟩
end Go.Proofs.YtdppkhimnhfjoaaDoor
