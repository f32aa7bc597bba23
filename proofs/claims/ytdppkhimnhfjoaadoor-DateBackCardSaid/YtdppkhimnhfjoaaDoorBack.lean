/- DateBack, walked: numbers and dates go over into one another. -/
import Derived.Test.YtdppkhimnhfjoaaDoorAlive
set_option linter.unusedSimpArgs false
set_option linter.unusedVariables false
namespace Go.Proofs.YtdppkhimnhfjoaaDoor
open Go.RowKit Go.Proofs.YtdppkhimnhfjoaaDoorW.PrintWords Go.Proofs.YtdppkhimnhfjoaaDoorW.PrintLast
set_option maxHeartbeats 4000000 in
set_option maxRecDepth 100000 in
theorem back_calls (y m d h mi s n : Int) (w : World) (hE : Env w) :
    Calls Tryd.prog 5 #[.agg #[.int .i64 y, .int .i64 m, .int .i64 d, .int .i64 h, .int .i64 mi, .int .i64 s], .int .i64 n] w fun e w' => e = .returned (.bool true) ∧ Below w.heap.size w w' := by
  have HE := Lib.hid hE
  clear hE
  by_cases hv : Cal.Valid y m d h mi s
  · have HV := Lib.hid hv
    have nb := Cal.num_bd hv
    clear hv
    go_enter Tryd.func5, Tryd.ntmps5
    go_wp2_with fail
    refine (theirs_calls _ _ _ _ _ _ _).mono ?_
    rintro e w1 ⟨rfl, hb1⟩
    go_wp2_with fail
    refine (number_valid _ _ _ _ _ _ _ HV.out).mono ?_
    rintro e w2 ⟨rfl, hb2⟩
    go_wp2_with fail
    refine (of_yes _ _ nb.1 nb.2).mono ?_
    rintro e w3 ⟨y1, m1, d1, h1, i1, s1, rfl, hv1, hn1, hb3⟩
    obtain ⟨rfl, rfl, rfl, rfl, rfl, rfl⟩ := Cal.num_inj hv1 HV.out hn1
    clear hn1 hv1 nb
    go_wp2_with fail
    have B2 := blk_new w (.cells #[.int .i64 y1, .int .i64 m1, .int .i64 d1, .int .i64 h1, .int .i64 i1, .int .i64 s1] 23)
    replace B2 := blk_below B2 hb1
    replace B2 := blk_below B2 hb2
    replace B2 := blk_below B2 hb3
    replace B2 := blk_alloc B2 (.cells #[.int .i64 y1, .int .i64 m1, .int .i64 d1, .int .i64 h1, .int .i64 i1, .int .i64 s1] 27)
    have B7 := blk_new w3 (.cells #[.int .i64 y1, .int .i64 m1, .int .i64 d1, .int .i64 h1, .int .i64 i1, .int .i64 s1] 27)
    have HB : Below w.heap.size w (w3.alloc (.cells #[.int .i64 y1, .int .i64 m1, .int .i64 d1, .int .i64 h1, .int .i64 i1, .int .i64 s1] 27)) := by
      have q1 := ((Below.refl _ w).alloc (Nat.le_refl _) (.cells #[.int .i64 y1, .int .i64 m1, .int .i64 d1, .int .i64 h1, .int .i64 i1, .int .i64 s1] 23)).trans (hb1.mono (by simp))
      have q2 := q1.trans (hb2.mono q1.size)
      have q3 := q2.trans (hb3.mono q2.size)
      exact q3.alloc q3.size _
    clear hb1 hb2 hb3
    generalize w3.heap.size = b7 at B7 ⊢
    obtain ⟨b2, hb2⟩ : ∃ b2 : Nat, w.heap.size = b2 := ⟨_, rfl⟩
    rw [hb2] at B2 ⊢
    clear hb2
    replace B2 := blk_drew B2
    replace B7 := blk_drew B7
    replace HB := HB.drew
    refine start_ (n := 8) (S := fun w' => w'.cell? ⟨b7, 0, none⟩ = some (.int .i64 y1) ∧ w'.cell? ⟨b7, 1, none⟩ = some (.int .i64 m1) ∧ w'.cell? ⟨b7, 2, none⟩ = some (.int .i64 d1) ∧ w'.cell? ⟨b7, 3, none⟩ = some (.int .i64 h1) ∧ w'.cell? ⟨b7, 4, none⟩ = some (.int .i64 i1) ∧ w'.cell? ⟨b7, 5, none⟩ = some (.int .i64 s1) ∧ w'.cell? ⟨b2, 0, none⟩ = some (.int .i64 y1) ∧ w'.cell? ⟨b2, 1, none⟩ = some (.int .i64 m1) ∧ w'.cell? ⟨b2, 2, none⟩ = some (.int .i64 d1) ∧ w'.cell? ⟨b2, 3, none⟩ = some (.int .i64 h1) ∧ w'.cell? ⟨b2, 4, none⟩ = some (.int .i64 i1) ∧ w'.cell? ⟨b2, 5, none⟩ = some (.int .i64 s1)) (ds := []) #[false, false, false, false, false, false, false, false] (by kernel_rfl) rfl rfl ⟨(blk_cell B7 0).trans rfl, (blk_cell B7 1).trans rfl, (blk_cell B7 2).trans rfl, (blk_cell B7 3).trans rfl, (blk_cell B7 4).trans rfl, (blk_cell B7 5).trans rfl, (blk_cell B2 0).trans rfl, (blk_cell B2 1).trans rfl, (blk_cell B2 2).trans rfl, (blk_cell B2 3).trans rfl, (blk_cell B2 4).trans rfl, (blk_cell B2 5).trans rfl⟩ (fun hHeld => ?_)
    generalize World.drew _ = W at B2 B7 HB hHeld ⊢
    refine pure_ (i := 0) (N := some 26) (v := ?_) (a' := ?_) #[true, false, false, false, false, false, false, false] rfl rfl (by kernel_rfl) (fun _ _ _ h => h) (Or.inl ⟨by rfl, ?_⟩) ?_ ?_
    rotate_left
    · intro w'
      go_simp
      with_reducible rfl
    rotate_left
    · simp only [Act.put, List.setIfInBounds_toArray, List.set_cons_zero, List.set_cons_succ]
      rfl
    refine pure_ (i := 1) (N := some 27) (v := ?_) (a' := ?_) #[true, true, false, false, false, false, false, false] rfl rfl (by kernel_rfl) (fun _ _ _ h => h) (Or.inl ⟨by rfl, ?_⟩) ?_ ?_
    rotate_left
    · intro w'
      go_simp
      with_reducible rfl
    rotate_left
    · simp only [Act.put, List.setIfInBounds_toArray, List.set_cons_zero, List.set_cons_succ]
      rfl
    refine pure_ (i := 2) (N := some 28) (v := ?_) (a' := ?_) #[true, true, true, false, false, false, false, false] rfl rfl (by kernel_rfl) (fun _ _ _ h => h) (Or.inl ⟨by rfl, ?_⟩) ?_ ?_
    rotate_left
    · intro w'
      go_simp
      with_reducible rfl
    rotate_left
    · simp only [Act.put, List.setIfInBounds_toArray, List.set_cons_zero, List.set_cons_succ]
      rfl
    refine take_ (i := 3) (N := some 29) (v := ?_) (a' := ?_) #[true, true, true, true, false, false, false, false] rfl rfl (by kernel_rfl) (fun _ _ _ h => h) (Or.inl ⟨by rfl, ?_⟩) hHeld ?_ ?_
    rotate_left
    · rintro w' ⟨s0_, s1_, s2_, s3_, s4_, s5_, s6_, s7_, s8_, s9_, s10_, s11_⟩
      go_simp
      with_reducible rfl
    rotate_left
    · simp only [Act.put, List.setIfInBounds_toArray, List.set_cons_zero, List.set_cons_succ]
      rfl
    refine take_ (i := 5) (N := some 31) (v := ?_) (a' := ?_) #[true, true, true, true, false, true, false, false] rfl rfl (by kernel_rfl) (fun _ _ _ h => h) (Or.inl ⟨by rfl, ?_⟩) hHeld ?_ ?_
    rotate_left
    · rintro w' ⟨s0_, s1_, s2_, s3_, s4_, s5_, s6_, s7_, s8_, s9_, s10_, s11_⟩
      go_simp
      with_reducible rfl
    rotate_left
    · simp only [Act.put, List.setIfInBounds_toArray, List.set_cons_zero, List.set_cons_succ]
      rfl
    refine one_ (i := 4) (N := some 30) #[true, true, true, true, true, true, false, false] rfl rfl (by kernel_rfl) (by decide) (fun K hK => ?_)
    refine goes_ Tryd.func14 (by kernel_rfl) rfl #[.agg #[.int .i64 y1, .int .i64 m1, .int .i64 d1, .int .i64 h1, .int .i64 i1, .int .i64 s1]] (by rfl) rfl rfl (by (try simp only [List.map_toArray, List.map_cons, List.map_nil]); first | done | rfl) ?_
    refine (ours_calls _ _ _ _ _ _ _).mono ?_
    rintro e w' ⟨rfl, hb⟩
    replace B2 := blk_below B2 hb
    replace B7 := blk_below B7 hb
    replace HB := HB.trans (hb.mono HB.size)
    clear hb
    refine ⟨_, rfl, ?_⟩
    refine hK.out _ _ ⟨(blk_cell B7 0).trans rfl, (blk_cell B7 1).trans rfl, (blk_cell B7 2).trans rfl, (blk_cell B7 3).trans rfl, (blk_cell B7 4).trans rfl, (blk_cell B7 5).trans rfl, (blk_cell B2 0).trans rfl, (blk_cell B2 1).trans rfl, (blk_cell B2 2).trans rfl, (blk_cell B2 3).trans rfl, (blk_cell B2 4).trans rfl, (blk_cell B2 5).trans rfl⟩ (fun hHeld => ?_)
    clear hK K
    refine norm_ (a' := ?_) ?_ ?_
    rotate_left
    · show Act.put _ (some 30) _ = _
      simp only [Act.put, List.setIfInBounds_toArray, List.set_cons_zero, List.set_cons_succ]
      rfl
    refine pure_ (i := 6) (N := some 32) (v := ?_) (a' := ?_) #[true, true, true, true, true, true, true, false] rfl rfl (by kernel_rfl) (fun _ _ _ h => h) (Or.inl ⟨by rfl, ?_⟩) ?_ ?_
    rotate_left
    · intro w'
      go_simp
      with_reducible rfl
    rotate_left
    · simp only [Act.put, List.setIfInBounds_toArray, List.set_cons_zero, List.set_cons_succ]
      rfl
    refine pure_ (i := 7) (N := some 33) (v := ?_) (a' := ?_) #[true, true, true, true, true, true, true, true] rfl rfl (by kernel_rfl) (fun _ _ _ h => h) (Or.inl ⟨by rfl, ?_⟩) ?_ ?_
    rotate_left
    · intro w'
      go_simp
      with_reducible rfl
    rotate_left
    · simp only [Act.put, List.setIfInBounds_toArray, List.set_cons_zero, List.set_cons_succ]
      rfl
    refine done_ (by kernel_rfl) ?_
    clear hHeld B2 B7
    have hEW : Env w' := HE.out.stays HB
    by_cases hr : -62167219200 ≤ n ∧ n ≤ 253402300799
    · obtain ⟨r0, r1⟩ := hr
      go_wp2_with fail
      refine (of_yes _ _ r0 r1).mono ?_
      rintro e w4 ⟨y2, m2, d2, h2, i2, s2, rfl, hv2, hn2, hb4⟩
      have HV2 := Lib.hid hv2
      have HN2 := Lib.hid hn2
      have HB4 := HB.trans (hb4.mono HB.size)
      clear hv2 hn2 hb4
      have HB4' := HB4.alloc HB4.size (.cells #[.int .i64 y2, .int .i64 m2, .int .i64 d2, .int .i64 h2, .int .i64 i2, .int .i64 s2] 27)
      go_wp2_with fail
      refine (number_valid _ _ _ _ _ _ _ HV2.out).mono ?_
      rintro e w5 ⟨rfl, hb5⟩
      rw [HN2.out]
      have HB5 := HB4'.trans (hb5.mono HB4'.size)
      have hE5 := HE.out.stays HB5
      clear hb5 HB4 HB4' hEW
      go_wp2_with fail
      refine (alive_calls _ hE5).mono ?_
      rintro e w6 ⟨rfl, hb6⟩
      go_wp2_with fail
      go_ret
      exact ⟨rfl, HB5.trans (hb6.mono HB5.size)⟩
    · have HR := Lib.hid hr
      have hr2 : (decide (-62167219200 ≤ n) = false) ∨ (decide (-62167219200 ≤ n) = true ∧ decide (n ≤ 253402300799) = false) := by
        simp only [decide_eq_true_eq, decide_eq_false_iff_not]; omega
      clear hr
      go_wp2_with fail
      refine (of_no _ _ HR.out).mono ?_
      rintro e w4 ⟨rfl, hb4⟩
      have HB4 := (HB.trans (hb4.mono HB.size))
      have HB5 := HB4.alloc HB4.size (.cells #[.int .i64 0, .int .i64 0, .int .i64 0, .int .i64 0, .int .i64 0, .int .i64 0] 27)
      have hE5 := HE.out.stays HB5
      clear hb4 HB4 hEW
      rcases hr2 with q1 | ⟨q1, q2⟩
      all_goals
        go_wp2_with fail
        refine (alive_calls _ hE5).mono ?_
        rintro e w6 ⟨rfl, hb6⟩
        go_wp2_with fail
        go_ret
        exact ⟨rfl, HB5.trans (hb6.mono HB5.size)⟩
  · have HV := Lib.hid hv
    clear hv
    go_enter Tryd.func5, Tryd.ntmps5
    go_wp2_with fail
    refine (theirs_calls _ _ _ _ _ _ _).mono ?_
    rintro e w1 ⟨rfl, hb1⟩
    go_wp2_with fail
    refine (number_no _ _ _ _ _ _ _ HV.out).mono ?_
    rintro e w2 ⟨rfl, hb2⟩
    have HB : Below w.heap.size w w2 := by
      have q1 := ((Below.refl _ w).alloc (Nat.le_refl _) (.cells #[.int .i64 y, .int .i64 m, .int .i64 d, .int .i64 h, .int .i64 mi, .int .i64 s] 23)).trans (hb1.mono (by simp))
      exact q1.trans (hb2.mono q1.size)
    clear hb1 hb2
    have hEW : Env w2 := HE.out.stays HB
    by_cases hr : -62167219200 ≤ n ∧ n ≤ 253402300799
    · obtain ⟨r0, r1⟩ := hr
      go_wp2_with fail
      refine (of_yes _ _ r0 r1).mono ?_
      rintro e w4 ⟨y2, m2, d2, h2, i2, s2, rfl, hv2, hn2, hb4⟩
      have HV2 := Lib.hid hv2
      have HN2 := Lib.hid hn2
      have HB4 := HB.trans (hb4.mono HB.size)
      clear hv2 hn2 hb4
      have HB4' := HB4.alloc HB4.size (.cells #[.int .i64 y2, .int .i64 m2, .int .i64 d2, .int .i64 h2, .int .i64 i2, .int .i64 s2] 27)
      go_wp2_with fail
      refine (number_valid _ _ _ _ _ _ _ HV2.out).mono ?_
      rintro e w5 ⟨rfl, hb5⟩
      rw [HN2.out]
      have HB5 := HB4'.trans (hb5.mono HB4'.size)
      have hE5 := HE.out.stays HB5
      clear hb5 HB4 HB4' hEW
      go_wp2_with fail
      refine (alive_calls _ hE5).mono ?_
      rintro e w6 ⟨rfl, hb6⟩
      go_wp2_with fail
      go_ret
      exact ⟨rfl, HB5.trans (hb6.mono HB5.size)⟩
    · have HR := Lib.hid hr
      have hr2 : (decide (-62167219200 ≤ n) = false) ∨ (decide (-62167219200 ≤ n) = true ∧ decide (n ≤ 253402300799) = false) := by
        simp only [decide_eq_true_eq, decide_eq_false_iff_not]; omega
      clear hr
      go_wp2_with fail
      refine (of_no _ _ HR.out).mono ?_
      rintro e w4 ⟨rfl, hb4⟩
      have HB4 := (HB.trans (hb4.mono HB.size))
      have HB5 := HB4.alloc HB4.size (.cells #[.int .i64 0, .int .i64 0, .int .i64 0, .int .i64 0, .int .i64 0, .int .i64 0] 27)
      have hE5 := HE.out.stays HB5
      clear hb4 HB4 hEW
      rcases hr2 with q1 | ⟨q1, q2⟩
      all_goals
        go_wp2_with fail
        refine (alive_calls _ hE5).mono ?_
        rintro e w6 ⟨rfl, hb6⟩
        go_wp2_with fail
        go_ret
        exact ⟨rfl, HB5.trans (hb6.mono HB5.size)⟩
end Go.Proofs.YtdppkhimnhfjoaaDoor
