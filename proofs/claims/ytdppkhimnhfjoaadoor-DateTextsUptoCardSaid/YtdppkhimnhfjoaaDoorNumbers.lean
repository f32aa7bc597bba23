/- DateNumbers, walked: the number of any date, the date of any number and its day of the week are the reference's. -/
import Derived.Test.YtdppkhimnhfjoaaDoorAlive
import Derived.Test.YtdppkhimnhfjoaaDoorRefNumber
import Derived.Test.YtdppkhimnhfjoaaDoorRefOf
set_option linter.unusedSimpArgs false
set_option linter.unusedVariables false
namespace Go.Proofs.YtdppkhimnhfjoaaDoor
open Go.RowKit Go.Proofs.YtdppkhimnhfjoaaDoorW.PrintWords Go.Proofs.YtdppkhimnhfjoaaDoorW.PrintLast
/-- One number and one answer, the program's and the reference's. -/
theorem number_both (y m d h mi s : Int) : ∃ a e : Int,
    (∀ w, Calls Tryd.prog 9 #[.agg #[.int .i64 y, .int .i64 m, .int .i64 d, .int .i64 h, .int .i64 mi, .int .i64 s]] w fun r w' => r = .returned (.tuple #[.int .i64 a, .int .i64 e]) ∧ Below w.heap.size w w') ∧
    (∀ w, Calls Tryd.prog 11 #[.agg #[.int .i64 y, .int .i64 m, .int .i64 d, .int .i64 h, .int .i64 mi, .int .i64 s]] w fun r w' => r = .returned (.tuple #[.int .i64 a, .int .i64 e]) ∧ Below w.heap.size w w') := by
  by_cases v : Cal.Valid y m d h mi s
  · exact ⟨_, _, fun w => number_valid y m d h mi s w v, fun w => rnumber_valid y m d h mi s w v⟩
  · exact ⟨_, _, fun w => number_no y m d h mi s w v, fun w => rnumber_no y m d h mi s w v⟩
theorem of_both (n : Int) : ∃ z0 z1 z2 z3 z4 z5 g : Int,
    (∀ w, Calls Tryd.prog 12 #[.int .i64 n] w fun r w' => r = .returned (.tuple #[.agg #[.int .i64 z0, .int .i64 z1, .int .i64 z2, .int .i64 z3, .int .i64 z4, .int .i64 z5], .int .i64 g]) ∧ Below w.heap.size w w') ∧
    (∀ w, Calls Tryd.prog 13 #[.int .i64 n] w fun r w' => r = .returned (.tuple #[.agg #[.int .i64 z0, .int .i64 z1, .int .i64 z2, .int .i64 z3, .int .i64 z4, .int .i64 z5], .int .i64 g]) ∧ Below w.heap.size w w') := by
  by_cases hr : -62167219200 ≤ n ∧ n ≤ 253402300799
  · obtain ⟨r0, r1⟩ := hr
    by_cases hx : ∃ y m d h mi s : Int, Cal.Valid y m d h mi s ∧ Cal.num y m d h mi s = n
    · obtain ⟨y, m, d, h, mi, s, hv, hn⟩ := hx
      refine ⟨y, m, d, h, mi, s, 0, fun w => (of_yes n w r0 r1).mono ?_, fun w => (rof_yes n w r0 r1).mono ?_⟩
      all_goals
        rintro e w' ⟨y1, m1, d1, h1, i1, s1, rfl, hv1, hn1, hb⟩
        obtain ⟨rfl, rfl, rfl, rfl, rfl, rfl⟩ := Cal.num_inj hv1 hv (hn1.trans hn.symm)
        exact ⟨rfl, hb⟩
    · refine ⟨0, 0, 0, 0, 0, 0, 0, fun w => (of_yes n w r0 r1).mono ?_, fun w => (rof_yes n w r0 r1).mono ?_⟩
      all_goals
        rintro e w' ⟨y1, m1, d1, h1, i1, s1, rfl, hv1, hn1, hb⟩
        exact absurd ⟨y1, m1, d1, h1, i1, s1, hv1, hn1⟩ hx
  · exact ⟨0, 0, 0, 0, 0, 0, 1, fun w => of_no n w hr, fun w => rof_no n w hr⟩
set_option maxHeartbeats 4000000 in
set_option maxRecDepth 100000 in
theorem numbers_calls (y m d h mi s n : Int) (w : World) (hE : Env w) :
    Calls Tryd.prog 3 #[.agg #[.int .i64 y, .int .i64 m, .int .i64 d, .int .i64 h, .int .i64 mi, .int .i64 s], .int .i64 n] w fun e w' => e = .returned (.bool true) ∧ Below w.heap.size w w' := by
  have HE := Lib.hid hE
  clear hE
  obtain ⟨a, e, hN, hRN⟩ := number_both y m d h mi s
  obtain ⟨z0, z1, z2, z3, z4, z5, g, hO, hRO⟩ := of_both n
  have HN := Lib.hid hN
  have HRN := Lib.hid hRN
  have HO := Lib.hid hO
  have HRO := Lib.hid hRO
  clear hN hRN hO hRO
  go_enter Tryd.func3, Tryd.ntmps3
  go_wp2_with fail
  refine (theirs_calls _ _ _ _ _ _ _).mono ?_
  rintro _ w1 ⟨rfl, hb1⟩
  go_wp2_with fail
  refine (HN.out _).mono ?_
  rintro _ w2 ⟨rfl, hb2⟩
  have B2 := blk_new w (.cells #[.int .i64 y, .int .i64 m, .int .i64 d, .int .i64 h, .int .i64 mi, .int .i64 s] 23)
  replace B2 := blk_below B2 hb1
  replace B2 := blk_below B2 hb2
  have HB : Below w.heap.size w w2 := by
    have q1 := ((Below.refl _ w).alloc (Nat.le_refl _) (.cells #[.int .i64 y, .int .i64 m, .int .i64 d, .int .i64 h, .int .i64 mi, .int .i64 s] 23)).trans (hb1.mono (by simp))
    exact q1.trans (hb2.mono q1.size)
  clear hb1 hb2
  obtain ⟨b2, hb2⟩ : ∃ b2 : Nat, w.heap.size = b2 := ⟨_, rfl⟩
  rw [hb2] at B2 ⊢
  clear hb2
  have c0 := (blk_cell B2 0).trans rfl
  have c1 := (blk_cell B2 1).trans rfl
  have c2 := (blk_cell B2 2).trans rfl
  have c3 := (blk_cell B2 3).trans rfl
  have c4 := (blk_cell B2 4).trans rfl
  have c5 := (blk_cell B2 5).trans rfl
  simp at c0 c1 c2 c3 c4 c5
  go_wp2_with fail
  refine (HRN.out _).mono ?_
  rintro _ w3 ⟨rfl, hb3⟩
  replace HB := HB.trans (hb3.mono HB.size)
  clear hb3 c0 c1 c2 c3 c4 c5 B2
  go_wp2_with fail
  refine (HO.out _).mono ?_
  rintro _ w4 ⟨rfl, hb4⟩
  replace HB := HB.trans (hb4.mono HB.size)
  clear hb4
  go_wp2_with fail
  have B9 := blk_new w4 (.cells #[.int .i64 z0, .int .i64 z1, .int .i64 z2, .int .i64 z3, .int .i64 z4, .int .i64 z5] 27)
  replace HB := HB.alloc HB.size (.cells #[.int .i64 z0, .int .i64 z1, .int .i64 z2, .int .i64 z3, .int .i64 z4, .int .i64 z5] 27)
  generalize w4.alloc _ = W4 at B9 HB ⊢
  generalize w4.heap.size = b9 at B9 ⊢
  refine (HRO.out _).mono ?_
  rintro _ w5 ⟨rfl, hb5⟩
  replace HB := HB.trans (hb5.mono HB.size)
  replace B9 := blk_below B9 hb5
  clear hb5
  go_wp2_with fail
  have B11 := blk_new w5 (.cells #[.int .i64 z0, .int .i64 z1, .int .i64 z2, .int .i64 z3, .int .i64 z4, .int .i64 z5] 23)
  replace B9 := blk_alloc B9 (.cells #[.int .i64 z0, .int .i64 z1, .int .i64 z2, .int .i64 z3, .int .i64 z4, .int .i64 z5] 23)
  replace HB := HB.alloc HB.size (.cells #[.int .i64 z0, .int .i64 z1, .int .i64 z2, .int .i64 z3, .int .i64 z4, .int .i64 z5] 23)
  generalize w5.alloc _ = W5 at B9 B11 HB ⊢
  generalize w5.heap.size = b11 at B11 ⊢
  replace B9 := blk_drew B9
  replace B11 := blk_drew B11
  replace HB := HB.drew
  refine start_ (n := 30) (S := fun w' => w'.cell? ⟨b9, 0, none⟩ = some (.int .i64 z0) ∧ w'.cell? ⟨b9, 1, none⟩ = some (.int .i64 z1) ∧ w'.cell? ⟨b9, 2, none⟩ = some (.int .i64 z2) ∧ w'.cell? ⟨b9, 3, none⟩ = some (.int .i64 z3) ∧ w'.cell? ⟨b9, 4, none⟩ = some (.int .i64 z4) ∧ w'.cell? ⟨b9, 5, none⟩ = some (.int .i64 z5) ∧ w'.cell? ⟨b11, 0, none⟩ = some (.int .i64 z0) ∧ w'.cell? ⟨b11, 1, none⟩ = some (.int .i64 z1) ∧ w'.cell? ⟨b11, 2, none⟩ = some (.int .i64 z2) ∧ w'.cell? ⟨b11, 3, none⟩ = some (.int .i64 z3) ∧ w'.cell? ⟨b11, 4, none⟩ = some (.int .i64 z4) ∧ w'.cell? ⟨b11, 5, none⟩ = some (.int .i64 z5) ∧ Env w') (ds := []) #[false, false, false, false, false, false, false, false, false, false, false, false, false, false, false, false, false, false, false, false, false, false, false, false, false, false, false, false, false, false] (by kernel_rfl) rfl rfl ⟨(blk_cell B9 0).trans rfl, (blk_cell B9 1).trans rfl, (blk_cell B9 2).trans rfl, (blk_cell B9 3).trans rfl, (blk_cell B9 4).trans rfl, (blk_cell B9 5).trans rfl, (blk_cell B11 0).trans rfl, (blk_cell B11 1).trans rfl, (blk_cell B11 2).trans rfl, (blk_cell B11 3).trans rfl, (blk_cell B11 4).trans rfl, (blk_cell B11 5).trans rfl, HE.out.stays HB⟩ (fun hHeld => ?_)
  generalize World.drew _ = W at B9 B11 HB hHeld ⊢
  refine pure_ (i := 0) (N := some 34) (v := ?_) (a' := ?_) #[true, false, false, false, false, false, false, false, false, false, false, false, false, false, false, false, false, false, false, false, false, false, false, false, false, false, false, false, false, false] rfl rfl (by kernel_rfl) (fun _ _ _ h => h) (Or.inl ⟨by rfl, ?_⟩) ?_ ?_
  rotate_left
  · intro w'
    go_simp
    with_reducible rfl
  rotate_left
  · simp only [Act.put, List.setIfInBounds_toArray, List.set_cons_zero, List.set_cons_succ]
    rfl
  refine pure_ (i := 1) (N := some 35) (v := ?_) (a' := ?_) #[true, true, false, false, false, false, false, false, false, false, false, false, false, false, false, false, false, false, false, false, false, false, false, false, false, false, false, false, false, false] rfl rfl (by kernel_rfl) (fun _ _ _ h => h) (Or.inl ⟨by rfl, ?_⟩) ?_ ?_
  rotate_left
  · intro w'
    go_simp
    with_reducible rfl
  rotate_left
  · simp only [Act.put, List.setIfInBounds_toArray, List.set_cons_zero, List.set_cons_succ]
    rfl
  refine pure_ (i := 2) (N := some 36) (v := ?_) (a' := ?_) #[true, true, true, false, false, false, false, false, false, false, false, false, false, false, false, false, false, false, false, false, false, false, false, false, false, false, false, false, false, false] rfl rfl (by kernel_rfl) (fun _ _ _ h => h) (Or.inl ⟨by rfl, ?_⟩) ?_ ?_
  rotate_left
  · intro w'
    go_simp
    with_reducible rfl
  rotate_left
  · simp only [Act.put, List.setIfInBounds_toArray, List.set_cons_zero, List.set_cons_succ]
    rfl
  refine pure_ (i := 3) (N := some 37) (v := ?_) (a' := ?_) #[true, true, true, true, false, false, false, false, false, false, false, false, false, false, false, false, false, false, false, false, false, false, false, false, false, false, false, false, false, false] rfl rfl (by kernel_rfl) (fun _ _ _ h => h) (Or.inl ⟨by rfl, ?_⟩) ?_ ?_
  rotate_left
  · intro w'
    go_simp
    with_reducible rfl
  rotate_left
  · simp only [Act.put, List.setIfInBounds_toArray, List.set_cons_zero, List.set_cons_succ]
    rfl
  refine pure_ (i := 4) (N := some 38) (v := ?_) (a' := ?_) #[true, true, true, true, true, false, false, false, false, false, false, false, false, false, false, false, false, false, false, false, false, false, false, false, false, false, false, false, false, false] rfl rfl (by kernel_rfl) (fun _ _ _ h => h) (Or.inl ⟨by rfl, ?_⟩) ?_ ?_
  rotate_left
  · intro w'
    go_simp
    with_reducible rfl
  rotate_left
  · simp only [Act.put, List.setIfInBounds_toArray, List.set_cons_zero, List.set_cons_succ]
    rfl
  refine pure_ (i := 5) (N := some 39) (v := ?_) (a' := ?_) #[true, true, true, true, true, true, false, false, false, false, false, false, false, false, false, false, false, false, false, false, false, false, false, false, false, false, false, false, false, false] rfl rfl (by kernel_rfl) (fun _ _ _ h => h) (Or.inl ⟨by rfl, ?_⟩) ?_ ?_
  rotate_left
  · intro w'
    go_simp
    with_reducible rfl
  rotate_left
  · simp only [Act.put, List.setIfInBounds_toArray, List.set_cons_zero, List.set_cons_succ]
    rfl
  refine pure_ (i := 6) (N := some 40) (v := ?_) (a' := ?_) #[true, true, true, true, true, true, true, false, false, false, false, false, false, false, false, false, false, false, false, false, false, false, false, false, false, false, false, false, false, false] rfl rfl (by kernel_rfl) (fun _ _ _ h => h) (Or.inl ⟨by rfl, ?_⟩) ?_ ?_
  rotate_left
  · intro w'
    go_simp
    with_reducible rfl
  rotate_left
  · simp only [Act.put, List.setIfInBounds_toArray, List.set_cons_zero, List.set_cons_succ]
    rfl
  refine pure_ (i := 7) (N := some 41) (v := ?_) (a' := ?_) #[true, true, true, true, true, true, true, true, false, false, false, false, false, false, false, false, false, false, false, false, false, false, false, false, false, false, false, false, false, false] rfl rfl (by kernel_rfl) (fun _ _ _ h => h) (Or.inl ⟨by rfl, ?_⟩) ?_ ?_
  rotate_left
  · intro w'
    go_simp
    with_reducible rfl
  rotate_left
  · simp only [Act.put, List.setIfInBounds_toArray, List.set_cons_zero, List.set_cons_succ]
    rfl
  refine pure_ (i := 8) (N := some 42) (v := ?_) (a' := ?_) #[true, true, true, true, true, true, true, true, true, false, false, false, false, false, false, false, false, false, false, false, false, false, false, false, false, false, false, false, false, false] rfl rfl (by kernel_rfl) (fun _ _ _ h => h) (Or.inl ⟨by rfl, ?_⟩) ?_ ?_
  rotate_left
  · intro w'
    go_simp
    with_reducible rfl
  rotate_left
  · simp only [Act.put, List.setIfInBounds_toArray, List.set_cons_zero, List.set_cons_succ]
    rfl
  refine take_ (i := 9) (N := some 43) (v := ?_) (a' := ?_) #[true, true, true, true, true, true, true, true, true, true, false, false, false, false, false, false, false, false, false, false, false, false, false, false, false, false, false, false, false, false] rfl rfl (by kernel_rfl) (fun _ _ _ h => h) (Or.inl ⟨by rfl, ?_⟩) hHeld ?_ ?_
  rotate_left
  · rintro w' ⟨s0_, s1_, s2_, s3_, s4_, s5_, s6_, s7_, s8_, s9_, s10_, s11_, sE_⟩
    go_simp
    with_reducible rfl
  rotate_left
  · simp only [Act.put, List.setIfInBounds_toArray, List.set_cons_zero, List.set_cons_succ]
    rfl
  refine take_ (i := 11) (N := some 45) (v := ?_) (a' := ?_) #[true, true, true, true, true, true, true, true, true, true, false, true, false, false, false, false, false, false, false, false, false, false, false, false, false, false, false, false, false, false] rfl rfl (by kernel_rfl) (fun _ _ _ h => h) (Or.inl ⟨by rfl, ?_⟩) hHeld ?_ ?_
  rotate_left
  · rintro w' ⟨s0_, s1_, s2_, s3_, s4_, s5_, s6_, s7_, s8_, s9_, s10_, s11_, sE_⟩
    go_simp
    with_reducible rfl
  rotate_left
  · simp only [Act.put, List.setIfInBounds_toArray, List.set_cons_zero, List.set_cons_succ]
    rfl
  refine one_ (i := 10) (N := some 44) #[true, true, true, true, true, true, true, true, true, true, true, true, false, false, false, false, false, false, false, false, false, false, false, false, false, false, false, false, false, false] rfl rfl (by kernel_rfl) (by decide) (fun K hK => ?_)
  refine goes_ Tryd.func14 (by kernel_rfl) rfl #[.agg #[.int .i64 z0, .int .i64 z1, .int .i64 z2, .int .i64 z3, .int .i64 z4, .int .i64 z5]] (by rfl) rfl rfl (by (try simp only [List.map_toArray, List.map_cons, List.map_nil]); first | done | rfl) ?_
  refine (ours_calls _ _ _ _ _ _ _).mono ?_
  rintro e w' ⟨rfl, hb⟩
  replace B9 := blk_below B9 hb
  replace B11 := blk_below B11 hb
  replace HB := HB.trans (hb.mono HB.size)
  clear hb
  refine ⟨_, rfl, ?_⟩
  refine hK.out _ _ ⟨(blk_cell B9 0).trans rfl, (blk_cell B9 1).trans rfl, (blk_cell B9 2).trans rfl, (blk_cell B9 3).trans rfl, (blk_cell B9 4).trans rfl, (blk_cell B9 5).trans rfl, (blk_cell B11 0).trans rfl, (blk_cell B11 1).trans rfl, (blk_cell B11 2).trans rfl, (blk_cell B11 3).trans rfl, (blk_cell B11 4).trans rfl, (blk_cell B11 5).trans rfl, HE.out.stays HB⟩ (fun hHeld => ?_)
  clear hK K
  refine norm_ (a' := ?_) ?_ ?_
  rotate_left
  · show Act.put _ (some 44) _ = _
    simp only [Act.put, List.setIfInBounds_toArray, List.set_cons_zero, List.set_cons_succ]
    rfl
  refine pure_ (i := 12) (N := some 46) (v := ?_) (a' := ?_) #[true, true, true, true, true, true, true, true, true, true, true, true, true, false, false, false, false, false, false, false, false, false, false, false, false, false, false, false, false, false] rfl rfl (by kernel_rfl) (fun _ _ _ h => h) (Or.inl ⟨by rfl, ?_⟩) ?_ ?_
  rotate_left
  · intro w'
    go_simp
    with_reducible rfl
  rotate_left
  · simp only [Act.put, List.setIfInBounds_toArray, List.set_cons_zero, List.set_cons_succ]
    rfl
  refine pure_ (i := 13) (N := some 47) (v := ?_) (a' := ?_) #[true, true, true, true, true, true, true, true, true, true, true, true, true, true, false, false, false, false, false, false, false, false, false, false, false, false, false, false, false, false] rfl rfl (by kernel_rfl) (fun _ _ _ h => h) (Or.inl ⟨by rfl, ?_⟩) ?_ ?_
  rotate_left
  · intro w'
    go_simp
    with_reducible rfl
  rotate_left
  · simp only [Act.put, List.setIfInBounds_toArray, List.set_cons_zero, List.set_cons_succ]
    rfl
  refine pure_ (i := 14) (N := some 48) (v := ?_) (a' := ?_) #[true, true, true, true, true, true, true, true, true, true, true, true, true, true, true, false, false, false, false, false, false, false, false, false, false, false, false, false, false, false] rfl rfl (by kernel_rfl) (fun _ _ _ h => h) (Or.inl ⟨by rfl, ?_⟩) ?_ ?_
  rotate_left
  · intro w'
    go_simp
    with_reducible rfl
  rotate_left
  · simp only [Act.put, List.setIfInBounds_toArray, List.set_cons_zero, List.set_cons_succ]
    rfl
  refine pure_ (i := 15) (N := some 49) (v := ?_) (a' := ?_) #[true, true, true, true, true, true, true, true, true, true, true, true, true, true, true, true, false, false, false, false, false, false, false, false, false, false, false, false, false, false] rfl rfl (by kernel_rfl) (fun _ _ _ h => h) (Or.inl ⟨by rfl, ?_⟩) ?_ ?_
  rotate_left
  · intro w'
    go_simp
    with_reducible rfl
  rotate_left
  · simp only [Act.put, List.setIfInBounds_toArray, List.set_cons_zero, List.set_cons_succ]
    rfl
  refine pure_ (i := 16) (N := some 50) (v := ?_) (a' := ?_) #[true, true, true, true, true, true, true, true, true, true, true, true, true, true, true, true, true, false, false, false, false, false, false, false, false, false, false, false, false, false] rfl rfl (by kernel_rfl) (fun _ _ _ h => h) (Or.inl ⟨by rfl, ?_⟩) ?_ ?_
  rotate_left
  · intro w'
    go_simp
    with_reducible rfl
  rotate_left
  · simp only [Act.put, List.setIfInBounds_toArray, List.set_cons_zero, List.set_cons_succ]
    rfl
  refine pure_ (i := 17) (N := some 51) (v := ?_) (a' := ?_) #[true, true, true, true, true, true, true, true, true, true, true, true, true, true, true, true, true, true, false, false, false, false, false, false, false, false, false, false, false, false] rfl rfl (by kernel_rfl) (fun _ _ _ h => h) (Or.inl ⟨by rfl, ?_⟩) ?_ ?_
  rotate_left
  · intro w'
    go_simp
    with_reducible rfl
  rotate_left
  · simp only [Act.put, List.setIfInBounds_toArray, List.set_cons_zero, List.set_cons_succ]
    rfl
  refine pure_ (i := 18) (N := some 52) (v := ?_) (a' := ?_) #[true, true, true, true, true, true, true, true, true, true, true, true, true, true, true, true, true, true, true, false, false, false, false, false, false, false, false, false, false, false] rfl rfl (by kernel_rfl) (fun _ _ _ h => h) (Or.inl ⟨by rfl, ?_⟩) ?_ ?_
  rotate_left
  · intro w'
    go_simp
    with_reducible rfl
  rotate_left
  · simp only [Act.put, List.setIfInBounds_toArray, List.set_cons_zero, List.set_cons_succ]
    rfl
  refine pure_ (i := 19) (N := some 53) (v := ?_) (a' := ?_) #[true, true, true, true, true, true, true, true, true, true, true, true, true, true, true, true, true, true, true, true, false, false, false, false, false, false, false, false, false, false] rfl rfl (by kernel_rfl) (fun _ _ _ h => h) (Or.inl ⟨by rfl, ?_⟩) ?_ ?_
  rotate_left
  · intro w'
    go_simp
    with_reducible rfl
  rotate_left
  · simp only [Act.put, List.setIfInBounds_toArray, List.set_cons_zero, List.set_cons_succ]
    rfl
  refine pure_ (i := 20) (N := some 54) (v := ?_) (a' := ?_) #[true, true, true, true, true, true, true, true, true, true, true, true, true, true, true, true, true, true, true, true, true, false, false, false, false, false, false, false, false, false] rfl rfl (by kernel_rfl) (fun _ _ _ h => h) (Or.inl ⟨by rfl, ?_⟩) ?_ ?_
  rotate_left
  · intro w'
    go_simp
    with_reducible rfl
  rotate_left
  · simp only [Act.put, List.setIfInBounds_toArray, List.set_cons_zero, List.set_cons_succ]
    rfl
  refine pure_ (i := 22) (N := some 56) (v := ?_) (a' := ?_) #[true, true, true, true, true, true, true, true, true, true, true, true, true, true, true, true, true, true, true, true, true, false, true, false, false, false, false, false, false, false] rfl rfl (by kernel_rfl) (fun _ _ _ h => h) (Or.inl ⟨by rfl, ?_⟩) ?_ ?_
  rotate_left
  · intro w'
    go_simp
    with_reducible rfl
  rotate_left
  · simp only [Act.put, List.setIfInBounds_toArray, List.set_cons_zero, List.set_cons_succ]
    rfl
  refine one_ (i := 21) (N := some 55) #[true, true, true, true, true, true, true, true, true, true, true, true, true, true, true, true, true, true, true, true, true, true, true, false, false, false, false, false, false, false] rfl rfl (by kernel_rfl) (by decide) (fun K hK => ?_)
  refine goes_ Tryd.func15 (by kernel_rfl) rfl #[.int .i64 n] (by rfl) rfl rfl (by (try simp only [List.map_toArray, List.map_cons, List.map_nil]); first | done | rfl) ?_
  refine (weekday_calls _ _).mono ?_
  rintro e w' ⟨rfl, hw⟩
  subst hw
  refine ⟨_, rfl, ?_⟩
  refine hK.out _ _ ⟨(blk_cell B9 0).trans rfl, (blk_cell B9 1).trans rfl, (blk_cell B9 2).trans rfl, (blk_cell B9 3).trans rfl, (blk_cell B9 4).trans rfl, (blk_cell B9 5).trans rfl, (blk_cell B11 0).trans rfl, (blk_cell B11 1).trans rfl, (blk_cell B11 2).trans rfl, (blk_cell B11 3).trans rfl, (blk_cell B11 4).trans rfl, (blk_cell B11 5).trans rfl, HE.out.stays HB⟩ (fun hHeld => ?_)
  clear hK K
  refine norm_ (a' := ?_) ?_ ?_
  rotate_left
  · show Act.put _ (some 55) _ = _
    simp only [Act.put, List.setIfInBounds_toArray, List.set_cons_zero, List.set_cons_succ]
    rfl
  refine one_ (i := 23) (N := some 57) #[true, true, true, true, true, true, true, true, true, true, true, true, true, true, true, true, true, true, true, true, true, true, true, true, false, false, false, false, false, false] rfl rfl (by kernel_rfl) (by decide) (fun K hK => ?_)
  refine goes_ Tryd.func16 (by kernel_rfl) rfl #[.int .i64 n] (by rfl) rfl rfl (by (try simp only [List.map_toArray, List.map_cons, List.map_nil]); first | done | rfl) ?_
  refine (rweekday_calls _ _).mono ?_
  rintro e w' ⟨rfl, hw⟩
  subst hw
  refine ⟨_, rfl, ?_⟩
  refine hK.out _ _ ⟨(blk_cell B9 0).trans rfl, (blk_cell B9 1).trans rfl, (blk_cell B9 2).trans rfl, (blk_cell B9 3).trans rfl, (blk_cell B9 4).trans rfl, (blk_cell B9 5).trans rfl, (blk_cell B11 0).trans rfl, (blk_cell B11 1).trans rfl, (blk_cell B11 2).trans rfl, (blk_cell B11 3).trans rfl, (blk_cell B11 4).trans rfl, (blk_cell B11 5).trans rfl, HE.out.stays HB⟩ (fun hHeld => ?_)
  clear hK K
  refine norm_ (a' := ?_) ?_ ?_
  rotate_left
  · show Act.put _ (some 57) _ = _
    simp only [Act.put, List.setIfInBounds_toArray, List.set_cons_zero, List.set_cons_succ]
    rfl
  refine pure_ (i := 24) (N := some 58) (v := ?_) (a' := ?_) #[true, true, true, true, true, true, true, true, true, true, true, true, true, true, true, true, true, true, true, true, true, true, true, true, true, false, false, false, false, false] rfl rfl (by kernel_rfl) (fun _ _ _ h => h) (Or.inl ⟨by rfl, ?_⟩) ?_ ?_
  rotate_left
  · intro w'
    go_simp
    with_reducible rfl
  rotate_left
  · simp only [Act.put, List.setIfInBounds_toArray, List.set_cons_zero, List.set_cons_succ]
    rfl
  refine pure_ (i := 25) (N := some 59) (v := ?_) (a' := ?_) #[true, true, true, true, true, true, true, true, true, true, true, true, true, true, true, true, true, true, true, true, true, true, true, true, true, true, false, false, false, false] rfl rfl (by kernel_rfl) (fun _ _ _ h => h) (Or.inl ⟨by rfl, ?_⟩) ?_ ?_
  rotate_left
  · intro w'
    go_simp
    with_reducible rfl
  rotate_left
  · simp only [Act.put, List.setIfInBounds_toArray, List.set_cons_zero, List.set_cons_succ]
    rfl
  refine pure_ (i := 26) (N := some 60) (v := ?_) (a' := ?_) #[true, true, true, true, true, true, true, true, true, true, true, true, true, true, true, true, true, true, true, true, true, true, true, true, true, true, true, false, false, false] rfl rfl (by kernel_rfl) (fun _ _ _ h => h) (Or.inl ⟨by rfl, ?_⟩) ?_ ?_
  rotate_left
  · intro w'
    go_simp
    with_reducible rfl
  rotate_left
  · simp only [Act.put, List.setIfInBounds_toArray, List.set_cons_zero, List.set_cons_succ]
    rfl
  refine one_ (i := 27) (N := some 61) #[true, true, true, true, true, true, true, true, true, true, true, true, true, true, true, true, true, true, true, true, true, true, true, true, true, true, true, true, false, false] rfl rfl (by kernel_rfl) (by decide) (fun K hK => ?_)
  refine goes_ Tryd.func17 (by kernel_rfl) rfl #[] (by rfl) rfl rfl (by (try simp only [List.map_toArray, List.map_cons, List.map_nil]); first | done | rfl) ?_
  refine (alive_calls _ (HE.out.stays HB)).mono ?_
  rintro e w' ⟨rfl, hb⟩
  have B9' := blk_below B9 hb
  have B11' := blk_below B11 hb
  have HB' := HB.trans (hb.mono HB.size)
  clear hb
  refine ⟨_, rfl, ?_⟩
  refine hK.out _ _ ⟨(blk_cell B9' 0).trans rfl, (blk_cell B9' 1).trans rfl, (blk_cell B9' 2).trans rfl, (blk_cell B9' 3).trans rfl, (blk_cell B9' 4).trans rfl, (blk_cell B9' 5).trans rfl, (blk_cell B11' 0).trans rfl, (blk_cell B11' 1).trans rfl, (blk_cell B11' 2).trans rfl, (blk_cell B11' 3).trans rfl, (blk_cell B11' 4).trans rfl, (blk_cell B11' 5).trans rfl, HE.out.stays HB'⟩ (fun hHeld => ?_)
  clear hK K
  refine norm_ (a' := ?_) ?_ ?_
  rotate_left
  · show Act.put _ (some 61) _ = _
    simp only [Act.put, List.setIfInBounds_toArray, List.set_cons_zero, List.set_cons_succ]
    rfl
  refine pure_ (i := 28) (N := some 62) (v := ?_) (a' := ?_) #[true, true, true, true, true, true, true, true, true, true, true, true, true, true, true, true, true, true, true, true, true, true, true, true, true, true, true, true, true, false] rfl rfl (by kernel_rfl) (fun _ _ _ h => h) (Or.inl ⟨by rfl, ?_⟩) ?_ ?_
  rotate_left
  · intro w'
    go_simp
    with_reducible rfl
  rotate_left
  · simp only [Act.put, List.setIfInBounds_toArray, List.set_cons_zero, List.set_cons_succ]
    rfl
  refine pure_ (i := 29) (N := some 4) (v := ?_) (a' := ?_) #[true, true, true, true, true, true, true, true, true, true, true, true, true, true, true, true, true, true, true, true, true, true, true, true, true, true, true, true, true, true] rfl rfl (by kernel_rfl) (fun _ _ _ h => h) (Or.inl ⟨by rfl, ?_⟩) ?_ ?_
  rotate_left
  · intro w'
    go_simp
    with_reducible rfl
  rotate_left
  · simp only [Act.put, List.setIfInBounds_toArray, List.set_cons_zero, List.set_cons_succ]
    rfl
  refine done_ (by kernel_rfl) ?_
  clear hHeld B9 B11 B9' B11'
  go_wp2_with fail
  go_ret
  exact ⟨rfl, HB'⟩
end Go.Proofs.YtdppkhimnhfjoaaDoor
