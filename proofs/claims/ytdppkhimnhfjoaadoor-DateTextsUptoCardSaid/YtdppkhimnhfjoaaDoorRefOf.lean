/- The document's Of, walked. -/
import Derived.Test.YtdppkhimnhfjoaaDoorRefNumber
import Derived.StillTailTactics
namespace Go.Proofs.YtdppkhimnhfjoaaDoor
open Go.RowKit Go.Proofs.YtdppkhimnhfjoaaDoorW.PrintWords
set_option maxHeartbeats 1000000 in
set_option maxRecDepth 100000 in
theorem rof_no (n : Int) (w : World) (hn : ¬ (-62167219200 ≤ n ∧ n ≤ 253402300799)) :
    Calls Tryd.prog 13 #[.int .i64 n] w fun e w' => e = .returned (.tuple #[.agg #[.int .i64 0, .int .i64 0, .int .i64 0, .int .i64 0, .int .i64 0, .int .i64 0], .int .i64 1]) ∧ Below w.heap.size w w' := by
  have hc : n < -62167219200 ∨ (-62167219200 ≤ n ∧ 253402300799 < n) := by omega
  clear hn
  rcases hc with c1 | ⟨c1, c2⟩
  all_goals
    go_enter Tryd.func13, Tryd.ntmps13
    go_wp2_with fail
    refine bodyPost_ret (v := .tuple #[.agg #[.int .i64 0, .int .i64 0, .int .i64 0, .int .i64 0, .int .i64 0, .int .i64 0], .int .i64 1]) (by simp [results, Tryd.results13, go_sem]) rfl ⟨rfl, ?_⟩
    exact (Below.refl _ _).alloc (Nat.le_refl _) _
theorem dy_366 (D : Int) (h : 0 ≤ D) : Cal.dy (D / 366) ≤ D := by
  have : Cal.dy (D / 366) ≤ 366 * (D / 366) := by
    have : 0 ≤ D / 366 := by omega
    generalize D / 366 = y at *
    unfold Cal.dy; omega
  omega
set_option maxHeartbeats 4000000 in
set_option maxRecDepth 100000 in
theorem rof_yes (n : Int) (w : World) (g0 : -62167219200 ≤ n) (g1 : n ≤ 253402300799) :
    Calls Tryd.prog 13 #[.int .i64 n] w (OfPost n w) := by
  obtain ⟨D, hD⟩ : ∃ D : Int, (n + 62167219200) / 86400 = D := ⟨_, rfl⟩
  obtain ⟨H, hH⟩ : ∃ H : Int, (n + 62167219200) % 86400 / 3600 = H := ⟨_, rfl⟩
  obtain ⟨M, hM⟩ : ∃ M : Int, (n + 62167219200) % 3600 / 60 = M := ⟨_, rfl⟩
  obtain ⟨S, hS⟩ : ∃ S : Int, (n + 62167219200) % 60 = S := ⟨_, rfl⟩
  have D0 : 0 ≤ D := by omega
  have D1 : D ≤ 3652424 := by omega
  have HD := Lib.hid hD
  have HH := Lib.hid hH
  have HM := Lib.hid hM
  have HS := Lib.hid hS
  clear hD hS hH hM
  go_enter Tryd.func13, Tryd.ntmps13
  go_wp2_with fail
  rw [HD.out, HH.out, HM.out, HS.out]
  obtain ⟨b, hb⟩ : ∃ b : Nat, w.heap.size + 1 = b := ⟨_, rfl⟩
  have hB0 : Below (w.heap.size + 1) (w.alloc (.cells #[.int .i64 0, .int .i64 0, .int .i64 0, .int .i64 0, .int .i64 0, .int .i64 0] 23)) ((w.alloc (.cells #[.int .i64 0, .int .i64 0, .int .i64 0, .int .i64 0, .int .i64 0, .int .i64 0] 23)).alloc (.cells #[.int .i64 (D / 366), .int .i64 1, .int .i64 D, .int .i64 H, .int .i64 M, .int .i64 S] 23)) :=
    (Below.refl _ _).alloc (by simp) _
  have hd0 : ((w.alloc (.cells #[.int .i64 0, .int .i64 0, .int .i64 0, .int .i64 0, .int .i64 0, .int .i64 0] 23)).alloc (.cells #[.int .i64 (D / 366), .int .i64 1, .int .i64 D, .int .i64 H, .int .i64 M, .int .i64 S] 23)).heap[b]? = some (.cells #[.int .i64 (D / 366), .int .i64 1, .int .i64 D, .int .i64 H, .int .i64 M, .int .i64 S] 23 (0, 0)) := by
    have := blk_new (w.alloc (.cells #[.int .i64 0, .int .i64 0, .int .i64 0, .int .i64 0, .int .i64 0, .int .i64 0] 23)) (.cells #[.int .i64 (D / 366), .int .i64 1, .int .i64 D, .int .i64 H, .int .i64 M, .int .i64 S] 23)
    rwa [show (w.alloc (.cells #[.int .i64 0, .int .i64 0, .int .i64 0, .int .i64 0, .int .i64 0, .int .i64 0] 23)).heap.size = b from by simp [← hb]] at this
  have hbl : w.heap.size + 1 ≤ b := by omega
  rw [hb]
  clear hb
  go_loopg [40] (9999 - D / 366).toNat (fun g _ W => ∃ y : Int, 0 ≤ y ∧ y ≤ 9999 ∧ Cal.dy y ≤ D ∧ g = (9999 - y).toNat ∧ W.heap[b]? = some (.cells #[.int .i64 y, .int .i64 1, .int .i64 D, .int .i64 H, .int .i64 M, .int .i64 S] 23 (0, 0)) ∧ Below (w.heap.size + 1) (w.alloc (.cells #[.int .i64 0, .int .i64 0, .int .i64 0, .int .i64 0, .int .i64 0, .int .i64 0] 23)) W)
  case atStart => exact ⟨D / 366, by omega, by omega, dy_366 D D0, rfl, hd0, hB0⟩
  case round =>
    clear hd0 hB0
    obtain ⟨y, y0, y1, yd, rfl, hd, hB⟩ := hrel
    have e0 := blk_cell hd 0
    have e2 := blk_cell hd 2
    simp at e0 e2
    have fz := blk_frozen hd
    have HD2 := Lib.hid hd
    clear hd
    have es := Cal.dy_succ y y0
    obtain ⟨f0, f1⟩ := Cal.feb_bd y
    have yb := Cal.dy_bd y y0 (by omega)
    obtain ⟨yb0, yb1⟩ := yb
    have w1 : IntKind.i64.wrap (y + 1) = y + 1 := IntWalk.i64_in _ (by omega)
    have ES := Lib.hid es
    clear es
    by_cases hc : y < 9999 ∧ Cal.dy (y + 1) ≤ D
    · obtain ⟨hc1, hc2⟩ := hc
      go_wp2_with fail
      go_quiet ((go_at_call 25; exact Calls.quiet_of_same ((before_calls _ _ (by omega) (by omega)).mono fun _ _ h => ⟨h.1, h.2.symm⟩)))
      clear w1
      go_wp2_with fail
      go_roundg (9999 - (y + 1)).toNat
      case measure => omega
      case rel => exact ⟨y + 1, by omega, by omega, hc2, rfl, blk_put (blk_drewN HD2.out _) 0 _ rfl, (below_drewN hB _).setCell (by omega) _⟩
    · have hz : D < Cal.dy (y + 1) := by
        by_cases e : y = 9999
        · subst e; have : Cal.dy (9999 + 1) = 3652425 := rfl; omega
        · omega
      have hc' : (decide (y < 9999) = false) ∨ (decide (y < 9999) = true ∧ decide (Cal.dy (y + 1) ≤ D) = false) := by simp; omega
      clear hc
      rcases hc' with b1 | ⟨b1, b2⟩
      all_goals
        go_wp2_with fail
        go_quiet ((go_at_call 25; exact Calls.quiet_of_same ((before_calls _ _ (by omega) (by omega)).mono fun _ _ h => ⟨h.1, h.2.symm⟩)))
        go_wp2_with fail
        have hd := blk_drewN HD2.out nq
        have hB' := below_drewN hB nq
        clear fz e0 e2 hB HD2
        generalize wr.drewN nq = W at hd hB' ⊢
        have e0 := blk_cell hd 0
        have e2 := blk_cell hd 2
        simp at e0 e2
        have fz := blk_frozen hd
        have HD2 := Lib.hid hd
        clear hd
        have k1 : IntKind.i64.wrap (D - Cal.dy y) = D - Cal.dy y := IntWalk.i64_in _ (by omega)
        refine wp_region_still_tail 7 (by kernel_rfl) (by kernel_rfl) ?_
        simp only [List.take_succ_cons, List.take_zero, List.drop_succ_cons, List.drop_zero]
        still_step
        still_step
        still_step
        still_step
        still_call ((before_calls _ _ y0 (by omega)).mono fun _ _ h => ⟨h.1, h.2.symm⟩)
        still_step
        still_step
        refine wpStill_nil ?_
        change wpList _ _ _ _ _ W.drew
        clear k1
        go_wp2_with fail
        have hd1 : (W.setCell ⟨b, 2, none⟩ (.int .i64 (D - Cal.dy y))).drew.heap[b]? = some (.cells #[.int .i64 y, .int .i64 1, .int .i64 (D - Cal.dy y), .int .i64 H, .int .i64 M, .int .i64 S] 23 (0, 0)) := blk_drew (blk_put HD2.out 2 _ rfl)
        have hB1 := (hB'.setCell (p := ⟨b, 2, none⟩) (by omega) (.int .i64 (D - Cal.dy y))).drew
        clear fz e0 e2 hB' HD2
        have c13 : Cal.cum y 13 = 337 + Cal.feb y := Cal.cum_13 y
        have HC13 := Lib.hid c13
        clear c13
        first | go_wp2_with fail | skip
        go_loopg [59] 11 (fun g _ W => ∃ m : Int, 1 ≤ m ∧ m ≤ 12 ∧ g = (12 - m).toNat ∧ 0 ≤ D - Cal.dy y - Cal.cum y m ∧ W.heap[b]? = some (.cells #[.int .i64 y, .int .i64 m, .int .i64 (D - Cal.dy y - Cal.cum y m), .int .i64 H, .int .i64 M, .int .i64 S] 23 (0, 0)) ∧ Below (w.heap.size + 1) (w.alloc (.cells #[.int .i64 0, .int .i64 0, .int .i64 0, .int .i64 0, .int .i64 0, .int .i64 0] 23)) W)
        case atStart => exact ⟨1, by omega, by omega, by omega, by rw [Cal.cum_one]; omega, by rw [Cal.cum_one]; simpa using hd1, hB1⟩
        case round =>
          clear hd1 hB1
          obtain ⟨m, m0, m1, rfl, hl, hd, hB⟩ := hrel
          have e0 := blk_cell hd 0
          have e1 := blk_cell hd 1
          have e2 := blk_cell hd 2
          simp at e0 e1 e2
          have HD3 := Lib.hid hd
          clear hd
          obtain ⟨dd0, dd1⟩ := Cal.dim_bd y m
          obtain ⟨q0, q1⟩ := Cal.cum_bd y m m0 (by omega)
          have cs := Cal.cum_succ y m m0 m1
          have CS := Lib.hid cs
          clear cs
          by_cases hc : Cal.dim y m ≤ D - Cal.dy y - Cal.cum y m
          · have m10 : m + 1 ≤ 12 := by
              by_cases e : m = 12
              · subst e; have := HC13.out; have := CS.out; rw [show ((12 : Int) + 1) = 13 from rfl] at this; have := ES.out; omega
              · omega
            go_wp2_with fail
            go_quiet ((go_at_call 26; exact Calls.quiet_of_same ((days_calls _ _ _ y0).mono fun _ _ h => ⟨h.1, h.2.symm⟩)))
            go_wp2_with fail
            have hd := blk_drewN HD3.out nq
            have hB' := below_drewN hB nq
            clear e0 e1 e2 hB HD3
            generalize wr.drewN nq = W at hd hB' ⊢
            have e0 := blk_cell hd 0
            have e1 := blk_cell hd 1
            have e2 := blk_cell hd 2
            simp at e0 e1 e2
            have fz := blk_frozen hd
            have HD2 := Lib.hid hd
            clear hd
            have k1 : IntKind.i64.wrap (D - Cal.dy y - Cal.cum y m - Cal.dim y m) = D - Cal.dy y - Cal.cum y m - Cal.dim y m := IntWalk.i64_in _ (by omega)
            refine wp_region_still_tail 9 (by kernel_rfl) (by kernel_rfl) ?_
            simp only [List.take_succ_cons, List.take_zero, List.drop_succ_cons, List.drop_zero]
            still_step
            still_step
            still_step
            still_step
            still_step
            still_step
            still_call ((days_calls _ _ _ y0).mono fun _ _ h => ⟨h.1, h.2.symm⟩)
            still_step
            still_step
            refine wpStill_nil ?_
            change wpList _ _ _ _ _ W.drew
            clear k1
            go_wp2_with fail
            go_roundg (12 - (m + 1)).toNat
            case measure => omega
            case rel => exact ⟨m + 1, by omega, m10, rfl, by rw [CS.out]; omega, by rw [CS.out, show D - Cal.dy y - (Cal.cum y m + Cal.dim y m) = D - Cal.dy y - Cal.cum y m - Cal.dim y m from by omega]; exact blk_put (blk_put (blk_drew HD2.out) 2 _ rfl) 1 _ rfl, ((hB'.drew).setCell (by omega) _).setCell (by omega) _⟩
          · have hlt : D - Cal.dy y - Cal.cum y m < Cal.dim y m := by omega
            clear hc
            go_wp2_with fail
            go_quiet ((go_at_call 26; exact Calls.quiet_of_same ((days_calls _ _ _ y0).mono fun _ _ h => ⟨h.1, h.2.symm⟩)))
            have hd := blk_drewN HD3.out nq
            have hB' := below_drewN hB nq
            clear e0 e1 e2 hB HD3
            generalize wr.drewN nq = W at hd hB' ⊢
            have e0 := blk_cell hd 0
            have e1 := blk_cell hd 1
            have e2 := blk_cell hd 2
            have e3 := blk_cell hd 3
            have e4 := blk_cell hd 4
            have e5 := blk_cell hd 5
            simp at e0 e1 e2 e3 e4 e5
            have fz := blk_frozen hd
            have HD2 := Lib.hid hd
            clear hd
            have hR : W.heap[w.heap.size]? = some (.cells #[.int .i64 0, .int .i64 0, .int .i64 0, .int .i64 0, .int .i64 0, .int .i64 0] 23 (0, 0)) := (hB'.block _ (by omega)).trans (blk_new _ _)
            have r0 := blk_cell hR 0
            have r1 := blk_cell hR 1
            have r2 := blk_cell hR 2
            have r3 := blk_cell hR 3
            have r4 := blk_cell hR 4
            have r5 := blk_cell hR 5
            simp at r0 r1 r2 r3 r4 r5
            have fr := blk_frozen hR
            have HR2 := Lib.hid hR
            clear hR
            have ne1 : ¬ b = w.heap.size := by omega
            have ne2 : ¬ w.heap.size = b := by omega
            go_wp2_with fail
            refine bodyPost_ret (results_list (rs := [.cell 2 23, .tmp 3]) rfl (by simp) (.cell w.heap.size 23 #[.int .i64 y, .int .i64 m, .int .i64 (D - Cal.dy y - Cal.cum y m + 1), .int .i64 H, .int .i64 M, .int .i64 S] (0, 0) _ rfl ?_ Tryd.underlying23 rfl (by kernel_rfl) (.tmp .nil))) rfl ?_
            · refine blk_put (cs := #[.int .i64 y, .int .i64 m, .int .i64 (D - Cal.dy y - Cal.cum y m + 1), .int .i64 H, .int .i64 M, .int .i64 0]) ?_ 5 _ rfl
              refine blk_put (cs := #[.int .i64 y, .int .i64 m, .int .i64 (D - Cal.dy y - Cal.cum y m + 1), .int .i64 H, .int .i64 0, .int .i64 0]) ?_ 4 _ rfl
              refine blk_put (cs := #[.int .i64 y, .int .i64 m, .int .i64 (D - Cal.dy y - Cal.cum y m + 1), .int .i64 0, .int .i64 0, .int .i64 0]) ?_ 3 _ rfl
              refine blk_put (cs := #[.int .i64 y, .int .i64 m, .int .i64 0, .int .i64 0, .int .i64 0, .int .i64 0]) ?_ 2 _ rfl
              refine blk_put (cs := #[.int .i64 y, .int .i64 0, .int .i64 0, .int .i64 0, .int .i64 0, .int .i64 0]) ?_ 1 _ rfl
              refine blk_put (cs := #[.int .i64 0, .int .i64 0, .int .i64 0, .int .i64 0, .int .i64 0, .int .i64 0]) ?_ 0 _ rfl
              exact blk_far HR2.out ne2 _
            · have e1 := HD.out
              have e2 := HH.out
              have e3 := HM.out
              have e4 := HS.out
              have vv := Cal.valid_of (n := n) (y := y) (m := m) g0 y0 y1 (by omega) (by omega) (by omega) (by omega)
              rw [show n - -62167219200 = n + 62167219200 from by omega, HD.out, HH.out, show (n + 62167219200) % 86400 / 60 % 60 = M from by omega, show (n + 62167219200) % 86400 % 60 = S from by omega] at vv
              exact ⟨y, m, _, _, _, _, rfl, vv.1, vv.2, ((((((below_two (hB'.setCell (by omega) _)).setCell (Nat.le_refl _) _).setCell (Nat.le_refl _) _).setCell (Nat.le_refl _) _).setCell (Nat.le_refl _) _).setCell (Nat.le_refl _) _).setCell (Nat.le_refl _) _⟩
end Go.Proofs.YtdppkhimnhfjoaaDoor
