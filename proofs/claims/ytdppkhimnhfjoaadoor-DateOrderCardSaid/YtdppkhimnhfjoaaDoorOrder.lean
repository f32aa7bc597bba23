/- DateOrder, walked: of two dates the later one has the greater number. -/
import Derived.Test.YtdppkhimnhfjoaaDoorAlive
set_option linter.unusedSimpArgs false
set_option linter.unusedVariables false
namespace Go.Proofs.YtdppkhimnhfjoaaDoor
open Go.RowKit Go.Proofs.YtdppkhimnhfjoaaDoorW.PrintWords Go.Proofs.YtdppkhimnhfjoaaDoorW.PrintLast
/-- A date's fields, in their order. -/
def flds (y m d h mi s : Int) : List Int := [y, m, d, h, mi, s]
theorem six_cell {W : World} {b t : Nat} {y m d h mi s : Int} (B : W.heap[b]? = some (.cells #[.int .i64 y, .int .i64 m, .int .i64 d, .int .i64 h, .int .i64 mi, .int .i64 s] t (0, 0))) (k : Nat) (hk : k < 6) :
    W.cell? ⟨b, k, none⟩ = some (.int .i64 ((flds y m d h mi s).getD k 0)) := by
  rw [blk_cell B k]
  match k, hk with
  | 0, _ => rfl
  | 1, _ => rfl
  | 2, _ => rfl
  | 3, _ => rfl
  | 4, _ => rfl
  | 5, _ => rfl
theorem lex_at {y m d h mi s y2 m2 d2 h2 i2 s2 : Int} (k : Nat) (hk : k < 6) (hp : ∀ j, j < k → (flds y m d h mi s).getD j 0 = (flds y2 m2 d2 h2 i2 s2).getD j 0)
    (hlt : (flds y m d h mi s).getD k 0 < (flds y2 m2 d2 h2 i2 s2).getD k 0) : Cal.Lex y m d h mi s y2 m2 d2 h2 i2 s2 := by
  unfold Cal.Lex
  have p0 := hp 0
  have p1 := hp 1
  have p2 := hp 2
  have p3 := hp 3
  have p4 := hp 4
  simp only [flds] at p0 p1 p2 p3 p4 hlt
  match k, hk with
  | 0, _ => simp at hlt; omega
  | 1, _ => simp at hlt p0; omega
  | 2, _ => simp at hlt p0 p1; omega
  | 3, _ => simp at hlt p0 p1 p2; omega
  | 4, _ => simp at hlt p0 p1 p2 p3; omega
  | 5, _ => simp at hlt p0 p1 p2 p3 p4; omega
theorem six_all {y m d h mi s y2 m2 d2 h2 i2 s2 : Int} (hp : ∀ j, j < 6 → (flds y m d h mi s).getD j 0 = (flds y2 m2 d2 h2 i2 s2).getD j 0) :
    y = y2 ∧ m = m2 ∧ d = d2 ∧ h = h2 ∧ mi = i2 ∧ s = s2 := by
  have p0 := hp 0 (by omega)
  have p1 := hp 1 (by omega)
  have p2 := hp 2 (by omega)
  have p3 := hp 3 (by omega)
  have p4 := hp 4 (by omega)
  have p5 := hp 5 (by omega)
  simp [flds] at p0 p1 p2 p3 p4 p5
  exact ⟨p0, p1, p2, p3, p4, p5⟩
set_option maxHeartbeats 4000000 in
set_option maxRecDepth 100000 in
theorem order_calls (y m d h mi s y2 m2 d2 h2 i2 s2 : Int) (w : World) (hE : Env w) :
    Calls Tryd.prog 8 #[.agg #[.int .i64 y, .int .i64 m, .int .i64 d, .int .i64 h, .int .i64 mi, .int .i64 s], .agg #[.int .i64 y2, .int .i64 m2, .int .i64 d2, .int .i64 h2, .int .i64 i2, .int .i64 s2]] w fun e w' => e = .returned (.bool true) ∧ Below w.heap.size w w' := by
  have HE := Lib.hid hE
  clear hE
  obtain ⟨n, e, hN⟩ : ∃ n e : Int, ∀ w, Calls Tryd.prog 9 #[.agg #[.int .i64 y, .int .i64 m, .int .i64 d, .int .i64 h, .int .i64 mi, .int .i64 s]] w fun r w' => r = .returned (.tuple #[.int .i64 n, .int .i64 e]) ∧ Below w.heap.size w w' ∧ ((e = 0 ∧ Cal.Valid y m d h mi s ∧ n = Cal.num y m d h mi s) ∨ e = 1) := by
    by_cases v : Cal.Valid y m d h mi s
    · exact ⟨_, _, fun w => (number_valid _ _ _ _ _ _ w v).mono fun _ _ hh => ⟨hh.1, hh.2, .inl ⟨rfl, v, rfl⟩⟩⟩
    · exact ⟨_, _, fun w => (number_no _ _ _ _ _ _ w v).mono fun _ _ hh => ⟨hh.1, hh.2, .inr rfl⟩⟩
  obtain ⟨n2, e2, hN2⟩ : ∃ n e : Int, ∀ w, Calls Tryd.prog 9 #[.agg #[.int .i64 y2, .int .i64 m2, .int .i64 d2, .int .i64 h2, .int .i64 i2, .int .i64 s2]] w fun r w' => r = .returned (.tuple #[.int .i64 n, .int .i64 e]) ∧ Below w.heap.size w w' ∧ ((e = 0 ∧ Cal.Valid y2 m2 d2 h2 i2 s2 ∧ n = Cal.num y2 m2 d2 h2 i2 s2) ∨ e = 1) := by
    by_cases v : Cal.Valid y2 m2 d2 h2 i2 s2
    · exact ⟨_, _, fun w => (number_valid _ _ _ _ _ _ w v).mono fun _ _ hh => ⟨hh.1, hh.2, .inl ⟨rfl, v, rfl⟩⟩⟩
    · exact ⟨_, _, fun w => (number_no _ _ _ _ _ _ w v).mono fun _ _ hh => ⟨hh.1, hh.2, .inr rfl⟩⟩
  have HN := Lib.hid hN
  have HN2 := Lib.hid hN2
  clear hN hN2
  go_enter Tryd.func8, Tryd.ntmps8
  go_wp2_with fail
  refine (theirs_calls _ _ _ _ _ _ _).mono ?_
  rintro _ w1 ⟨rfl, hb1⟩
  have B2 := blk_new w (.cells #[.int .i64 y, .int .i64 m, .int .i64 d, .int .i64 h, .int .i64 mi, .int .i64 s] 23)
  replace B2 := blk_alloc B2 (.cells #[.int .i64 y2, .int .i64 m2, .int .i64 d2, .int .i64 h2, .int .i64 i2, .int .i64 s2] 23)
  have B3 := blk_new (w.alloc (.cells #[.int .i64 y, .int .i64 m, .int .i64 d, .int .i64 h, .int .i64 mi, .int .i64 s] 23)) (.cells #[.int .i64 y2, .int .i64 m2, .int .i64 d2, .int .i64 h2, .int .i64 i2, .int .i64 s2] 23)
  replace B2 := blk_below B2 hb1
  replace B3 := blk_below B3 hb1
  have HB : Below w.heap.size w w1 := by
    have q0 := ((Below.refl _ w).alloc (Nat.le_refl _) (.cells #[.int .i64 y, .int .i64 m, .int .i64 d, .int .i64 h, .int .i64 mi, .int .i64 s] 23))
    have q1 := q0.alloc q0.size (.cells #[.int .i64 y2, .int .i64 m2, .int .i64 d2, .int .i64 h2, .int .i64 i2, .int .i64 s2] 23)
    exact q1.trans (hb1.mono q1.size)
  clear hb1
  rw [show (w.alloc (.cells #[.int .i64 y, .int .i64 m, .int .i64 d, .int .i64 h, .int .i64 mi, .int .i64 s] 23)).heap.size = w.heap.size + 1 from by simp] at B3
  generalize w.heap.size = b2 at B2 B3 ⊢
  go_wp2_with fail
  refine (HN.out _).mono ?_
  rintro _ w2 ⟨rfl, hb2, hc1⟩
  have HC1 := Lib.hid hc1
  replace B2 := blk_below B2 hb2
  replace B3 := blk_below B3 hb2
  replace HB := HB.trans (hb2.mono HB.size)
  clear hb2 hc1
  have c0 := (blk_cell B3 0).trans rfl
  have c1 := (blk_cell B3 1).trans rfl
  have c2 := (blk_cell B3 2).trans rfl
  have c3 := (blk_cell B3 3).trans rfl
  have c4 := (blk_cell B3 4).trans rfl
  have c5 := (blk_cell B3 5).trans rfl
  simp at c0 c1 c2 c3 c4 c5
  go_wp2_with fail
  refine (theirs_calls _ _ _ _ _ _ _).mono ?_
  rintro _ w3 ⟨rfl, hb3⟩
  clear c0 c1 c2 c3 c4 c5
  replace B2 := blk_below B2 hb3
  replace B3 := blk_below B3 hb3
  replace HB := HB.trans (hb3.mono HB.size)
  clear hb3
  go_wp2_with fail
  refine (HN2.out _).mono ?_
  rintro _ w4 ⟨rfl, hb4, hc2⟩
  have HC2 := Lib.hid hc2
  replace B2 := blk_below B2 hb4
  replace B3 := blk_below B3 hb4
  replace HB := HB.trans (hb4.mono HB.size)
  clear hb4 hc2
  have hE5 := HE.out.stays HB
  rcases HC1.out with ⟨rfl, hv1, hn1⟩ | rfl
  · rcases HC2.out with ⟨rfl, hv2, hn2⟩ | rfl
    · have HV1 := Lib.hid hv1
      have HV2 := Lib.hid hv2
      have HN1 := Lib.hid hn1
      have HNN2 := Lib.hid hn2
      clear hv1 hv2 hn1 hn2
      have c0 := (blk_cell B2 0).trans rfl
      have c1 := (blk_cell B2 1).trans rfl
      have c2 := (blk_cell B2 2).trans rfl
      have c3 := (blk_cell B2 3).trans rfl
      have c4 := (blk_cell B2 4).trans rfl
      have c5 := (blk_cell B2 5).trans rfl
      have B3' := blk_alloc B3 (.cells #[.int .i64 y, .int .i64 m, .int .i64 d, .int .i64 h, .int .i64 mi, .int .i64 s] 3)
      have e0 := (blk_cell B3' 0).trans rfl
      have e1 := (blk_cell B3' 1).trans rfl
      have e2 := (blk_cell B3' 2).trans rfl
      have e3 := (blk_cell B3' 3).trans rfl
      have e4 := (blk_cell B3' 4).trans rfl
      have e5 := (blk_cell B3' 5).trans rfl
      simp at c0 c1 c2 c3 c4 c5 e0 e1 e2 e3 e4 e5
      go_wp2_with fail
      clear c0 c1 c2 c3 c4 c5 e0 e1 e2 e3 e4 e5 hE5 B2 B3 B3'
      have BX := blk_alloc (blk_new w4 (.cells #[.int .i64 y, .int .i64 m, .int .i64 d, .int .i64 h, .int .i64 mi, .int .i64 s] 3)) (.cells #[.int .i64 y2, .int .i64 m2, .int .i64 d2, .int .i64 h2, .int .i64 i2, .int .i64 s2] 3)
      have BY := blk_new (w4.alloc (.cells #[.int .i64 y, .int .i64 m, .int .i64 d, .int .i64 h, .int .i64 mi, .int .i64 s] 3)) (.cells #[.int .i64 y2, .int .i64 m2, .int .i64 d2, .int .i64 h2, .int .i64 i2, .int .i64 s2] 3)
      replace HB := (HB.alloc HB.size (.cells #[.int .i64 y, .int .i64 m, .int .i64 d, .int .i64 h, .int .i64 mi, .int .i64 s] 3))
      replace HB := (HB.alloc HB.size (.cells #[.int .i64 y2, .int .i64 m2, .int .i64 d2, .int .i64 h2, .int .i64 i2, .int .i64 s2] 3))
      rw [show (w4.alloc (.cells #[.int .i64 y, .int .i64 m, .int .i64 d, .int .i64 h, .int .i64 mi, .int .i64 s] 3)).heap.size = w4.heap.size + 1 from by simp] at BY
      try rw [show (w4.alloc (.cells #[.int .i64 y, .int .i64 m, .int .i64 d, .int .i64 h, .int .i64 mi, .int .i64 s] 3)).heap.size = w4.heap.size + 1 from by simp]
      generalize (w4.alloc (.cells #[.int .i64 y, .int .i64 m, .int .i64 d, .int .i64 h, .int .i64 mi, .int .i64 s] 3)).alloc (.cells #[.int .i64 y2, .int .i64 m2, .int .i64 d2, .int .i64 h2, .int .i64 i2, .int .i64 s2] 3) = W0 at BX BY HB ⊢
      generalize w4.heap.size = bx at BX BY ⊢
      go_loopw [59] (fun iv W => ∃ k : Nat, k ≤ 6 ∧ iv = .int .i64 k ∧ (∀ j, j < k → (flds y m d h mi s).getD j 0 = (flds y2 m2 d2 h2 i2 s2).getD j 0) ∧ W.heap[bx]? = some (.cells #[.int .i64 y, .int .i64 m, .int .i64 d, .int .i64 h, .int .i64 mi, .int .i64 s] 3 (0, 0)) ∧ W.heap[bx + 1]? = some (.cells #[.int .i64 y2, .int .i64 m2, .int .i64 d2, .int .i64 h2, .int .i64 i2, .int .i64 s2] 3 (0, 0)) ∧ Below w.heap.size w W) (fun iv _ => 6 - (intOf iv).toNat)
      case atStart => exact ⟨0, by omega, rfl, fun j hj => by omega, BX, BY, HB⟩
      case round =>
        clear BX BY HB
        obtain ⟨k, hk, rfl, hp, BX, BY, HB⟩ := hrel
        by_cases hk6 : k < 6
        · have cx := six_cell BX k hk6
          have cy := six_cell BY k hk6
          have HP := Lib.hid hp
          clear hp
          by_cases hq : (flds y m d h mi s).getD k 0 = (flds y2 m2 d2 h2 i2 s2).getD k 0
          · obtain ⟨X, hX⟩ : ∃ X : Int, (flds y m d h mi s).getD k 0 = X := ⟨_, rfl⟩
            rw [hX] at cx hq
            rw [← hq] at cy
            have HX := Lib.hid hX
            have HQ := Lib.hid hq
            clear hX hq
            go_wp2_with fail
            have kx : (0 : Int) ≤ (k : Int) := by omega
            have ky : (k : Int) < 6 := by omega
            go_region
            go_wp2_with fail
            refine ⟨⟨k + 1, by omega, by simp, fun j hj => ?_, blk_drew BX, blk_drew BY, HB.drew⟩, by simp [intOf]; omega⟩
            by_cases hjk : j < k
            · exact HP.out j hjk
            · obtain rfl : j = k := by omega
              exact HX.out.trans HQ.out
          · obtain ⟨X, hX⟩ : ∃ X : Int, (flds y m d h mi s).getD k 0 = X := ⟨_, rfl⟩
            obtain ⟨Y, hY⟩ : ∃ Y : Int, (flds y2 m2 d2 h2 i2 s2).getD k 0 = Y := ⟨_, rfl⟩
            have hcmp : (X < Y ∧ n < n2) ∨ (Y < X ∧ n2 < n) := by
              rw [HN1.out, HNN2.out]
              rw [hX, hY] at hq
              rcases Int.lt_or_gt_of_ne hq with hl | hl
              · exact .inl ⟨hl, Cal.num_lt HV1.out HV2.out (lex_at k hk6 HP.out (by rw [hX, hY]; exact hl))⟩
              · exact .inr ⟨hl, Cal.num_lt HV2.out HV1.out (lex_at k hk6 (fun j hj => (HP.out j hj).symm) (by rw [hX, hY]; exact hl))⟩
            have b1 : (X != Y) = true := by
              rw [hX, hY] at hq
              simpa using hq
            have b2 : (n != n2) = true := by simp; omega
            rw [hX] at cx
            rw [hY] at cy
            have kx : (0 : Int) ≤ (k : Int) := by omega
            have ky : (k : Int) < 6 := by omega
            have HXX := Lib.hid hX
            have HYY := Lib.hid hY
            clear hX hY hq
            have HE5 := HE.out.stays HB
            go_wp2_with fail
            go_region
            go_wp2_with fail
            clear HE5
            generalize hWr : World.drew _ = Wr
            replace BX := blk_drew BX
            replace BY := blk_drew BY
            replace HB := HB.drew
            rw [hWr] at BX BY HB
            obtain ⟨B, q1, q2⟩ : ∃ B : Bool, decide (X < Y) = B ∧ decide (n < n2) = B := by
              rcases hcmp with ⟨l1, l2⟩ | ⟨l1, l2⟩
              · exact ⟨true, by simpa using l1, by simpa using l2⟩
              · exact ⟨false, by simp; omega, by simp; omega⟩
            clear hcmp b1 hWr HP HC1 HC2 HV1 HV2 HN1 HNN2
            replace BX := blk_drew BX
            replace BY := blk_drew BY
            replace HB := HB.drew
            have sx : ∀ W : World, W.heap[bx]? = some (.cells #[.int .i64 y, .int .i64 m, .int .i64 d, .int .i64 h, .int .i64 mi, .int .i64 s] 3 (0, 0)) → W.cell? ⟨bx, k, none⟩ = some (.int .i64 X) := fun W B => by rw [six_cell B k hk6, HXX.out]
            have sy : ∀ W : World, W.heap[bx + 1]? = some (.cells #[.int .i64 y2, .int .i64 m2, .int .i64 d2, .int .i64 h2, .int .i64 i2, .int .i64 s2] 3 (0, 0)) → W.cell? ⟨bx + 1, k, none⟩ = some (.int .i64 Y) := fun W B => by rw [six_cell B k hk6, HYY.out]
            have SX := Lib.hid sx
            have SY := Lib.hid sy
            clear sx sy cx cy
            refine start_ (n := 22) (S := fun w' => w'.cell? ⟨bx, k, none⟩ = some (.int .i64 X) ∧ w'.cell? ⟨bx + 1, k, none⟩ = some (.int .i64 Y)) (ds := []) #[false, false, false, false, false, false, false, false, false, false, false, false, false, false, false, false, false, false, false, false, false, false] (by kernel_rfl) rfl rfl ⟨SX.out _ BX, SY.out _ BY⟩ (fun hHeld => ?_)
            generalize World.drew _ = W at BX BY HB hHeld ⊢
            refine pure_ (i := 0) (N := some 71) (v := ?_) (a' := ?_) #[true, false, false, false, false, false, false, false, false, false, false, false, false, false, false, false, false, false, false, false, false, false] rfl rfl (by kernel_rfl) (fun _ _ _ h => h) (Or.inl ⟨by rfl, ?_⟩) ?_ ?_
            rotate_left
            · intro w'
              go_simp
              with_reducible rfl
            rotate_left
            · simp only [Act.put, List.setIfInBounds_toArray, List.set_cons_zero, List.set_cons_succ]
              rfl
            refine pure_ (i := 1) (N := some 72) (v := ?_) (a' := ?_) #[true, true, false, false, false, false, false, false, false, false, false, false, false, false, false, false, false, false, false, false, false, false] rfl rfl (by kernel_rfl) (fun _ _ _ h => h) (Or.inl ⟨by rfl, ?_⟩) ?_ ?_
            rotate_left
            · intro w'
              go_simp
              with_reducible rfl
            rotate_left
            · simp only [Act.put, List.setIfInBounds_toArray, List.set_cons_zero, List.set_cons_succ]
              rfl
            refine pure_ (i := 2) (N := some 73) (v := ?_) (a' := ?_) #[true, true, true, false, false, false, false, false, false, false, false, false, false, false, false, false, false, false, false, false, false, false] rfl rfl (by kernel_rfl) (fun _ _ _ h => h) (Or.inl ⟨by rfl, ?_⟩) ?_ ?_
            rotate_left
            · intro w'
              go_simp
              with_reducible rfl
            rotate_left
            · simp only [Act.put, List.setIfInBounds_toArray, List.set_cons_zero, List.set_cons_succ]
              rfl
            refine take_ (i := 3) (N := some 74) (v := ?_) (a' := ?_) #[true, true, true, true, false, false, false, false, false, false, false, false, false, false, false, false, false, false, false, false, false, false] rfl rfl (by kernel_rfl) (fun _ _ _ h => h) (Or.inl ⟨by rfl, ?_⟩) hHeld ?_ ?_
            rotate_left
            · rintro w' ⟨sx_, sy_⟩
              go_simp
              with_reducible rfl
            rotate_left
            · simp only [Act.put, List.setIfInBounds_toArray, List.set_cons_zero, List.set_cons_succ]
              rfl
            refine pure_ (i := 4) (N := some 75) (v := ?_) (a' := ?_) #[true, true, true, true, true, false, false, false, false, false, false, false, false, false, false, false, false, false, false, false, false, false] rfl rfl (by kernel_rfl) (fun _ _ _ h => h) (Or.inl ⟨by rfl, ?_⟩) ?_ ?_
            rotate_left
            · intro w'
              go_simp
              with_reducible rfl
            rotate_left
            · simp only [Act.put, List.setIfInBounds_toArray, List.set_cons_zero, List.set_cons_succ]
              rfl
            refine pure_ (i := 5) (N := some 76) (v := ?_) (a' := ?_) #[true, true, true, true, true, true, false, false, false, false, false, false, false, false, false, false, false, false, false, false, false, false] rfl rfl (by kernel_rfl) (fun _ _ _ h => h) (Or.inl ⟨by rfl, ?_⟩) ?_ ?_
            rotate_left
            · intro w'
              go_simp
              with_reducible rfl
            rotate_left
            · simp only [Act.put, List.setIfInBounds_toArray, List.set_cons_zero, List.set_cons_succ]
              rfl
            refine pure_ (i := 6) (N := some 77) (v := ?_) (a' := ?_) #[true, true, true, true, true, true, true, false, false, false, false, false, false, false, false, false, false, false, false, false, false, false] rfl rfl (by kernel_rfl) (fun _ _ _ h => h) (Or.inl ⟨by rfl, ?_⟩) ?_ ?_
            rotate_left
            · intro w'
              go_simp
              with_reducible rfl
            rotate_left
            · simp only [Act.put, List.setIfInBounds_toArray, List.set_cons_zero, List.set_cons_succ]
              rfl
            refine take_ (i := 7) (N := some 78) (v := ?_) (a' := ?_) #[true, true, true, true, true, true, true, true, false, false, false, false, false, false, false, false, false, false, false, false, false, false] rfl rfl (by kernel_rfl) (fun _ _ _ h => h) (Or.inl ⟨by rfl, ?_⟩) hHeld ?_ ?_
            rotate_left
            · rintro w' ⟨sx_, sy_⟩
              go_simp
              with_reducible rfl
            rotate_left
            · simp only [Act.put, List.setIfInBounds_toArray, List.set_cons_zero, List.set_cons_succ]
              rfl
            refine pure_ (i := 8) (N := some 79) (v := ?_) (a' := ?_) #[true, true, true, true, true, true, true, true, true, false, false, false, false, false, false, false, false, false, false, false, false, false] rfl rfl (by kernel_rfl) (fun _ _ _ h => h) (Or.inl ⟨by rfl, ?_⟩) ?_ ?_
            rotate_left
            · intro w'
              go_simp
              with_reducible rfl
            rotate_left
            · simp only [Act.put, List.setIfInBounds_toArray, List.set_cons_zero, List.set_cons_succ]
              rfl
            refine pure_ (i := 9) (N := some 80) (v := ?_) (a' := ?_) #[true, true, true, true, true, true, true, true, true, true, false, false, false, false, false, false, false, false, false, false, false, false] rfl rfl (by kernel_rfl) (fun _ _ _ h => h) (Or.inl ⟨by rfl, ?_⟩) ?_ ?_
            rotate_left
            · intro w'
              go_simp
              with_reducible rfl
            rotate_left
            · simp only [Act.put, List.setIfInBounds_toArray, List.set_cons_zero, List.set_cons_succ]
              rfl
            refine pure_ (i := 10) (N := some 81) (v := ?_) (a' := ?_) #[true, true, true, true, true, true, true, true, true, true, true, false, false, false, false, false, false, false, false, false, false, false] rfl rfl (by kernel_rfl) (fun _ _ _ h => h) (Or.inl ⟨by rfl, ?_⟩) ?_ ?_
            rotate_left
            · intro w'
              go_simp
              with_reducible rfl
            rotate_left
            · simp only [Act.put, List.setIfInBounds_toArray, List.set_cons_zero, List.set_cons_succ]
              rfl
            refine pure_ (i := 11) (N := some 82) (v := ?_) (a' := ?_) #[true, true, true, true, true, true, true, true, true, true, true, true, false, false, false, false, false, false, false, false, false, false] rfl rfl (by kernel_rfl) (fun _ _ _ h => h) (Or.inl ⟨by rfl, ?_⟩) ?_ ?_
            rotate_left
            · intro w'
              go_simp
              with_reducible rfl
            rotate_left
            · simp only [Act.put, List.setIfInBounds_toArray, List.set_cons_zero, List.set_cons_succ]
              rfl
            refine pure_ (i := 12) (N := some 83) (v := ?_) (a' := ?_) #[true, true, true, true, true, true, true, true, true, true, true, true, true, false, false, false, false, false, false, false, false, false] rfl rfl (by kernel_rfl) (fun _ _ _ h => h) (Or.inl ⟨by rfl, ?_⟩) ?_ ?_
            rotate_left
            · intro w'
              go_simp
              with_reducible rfl
            rotate_left
            · simp only [Act.put, List.setIfInBounds_toArray, List.set_cons_zero, List.set_cons_succ]
              rfl
            refine pure_ (i := 13) (N := some 84) (v := ?_) (a' := ?_) #[true, true, true, true, true, true, true, true, true, true, true, true, true, true, false, false, false, false, false, false, false, false] rfl rfl (by kernel_rfl) (fun _ _ _ h => h) (Or.inl ⟨by rfl, ?_⟩) ?_ ?_
            rotate_left
            · intro w'
              go_simp
              with_reducible rfl
            rotate_left
            · simp only [Act.put, List.setIfInBounds_toArray, List.set_cons_zero, List.set_cons_succ]
              rfl
            refine pure_ (i := 14) (N := some 85) (v := ?_) (a' := ?_) #[true, true, true, true, true, true, true, true, true, true, true, true, true, true, true, false, false, false, false, false, false, false] rfl rfl (by kernel_rfl) (fun _ _ _ h => h) (Or.inl ⟨by rfl, ?_⟩) ?_ ?_
            rotate_left
            · intro w'
              go_simp
              with_reducible rfl
            rotate_left
            · simp only [Act.put, List.setIfInBounds_toArray, List.set_cons_zero, List.set_cons_succ]
              rfl
            refine pure_ (i := 15) (N := some 86) (v := ?_) (a' := ?_) #[true, true, true, true, true, true, true, true, true, true, true, true, true, true, true, true, false, false, false, false, false, false] rfl rfl (by kernel_rfl) (fun _ _ _ h => h) (Or.inl ⟨by rfl, ?_⟩) ?_ ?_
            rotate_left
            · intro w'
              go_simp
              with_reducible rfl
            rotate_left
            · simp only [Act.put, List.setIfInBounds_toArray, List.set_cons_zero, List.set_cons_succ]
              rfl
            refine pure_ (i := 16) (N := some 87) (v := ?_) (a' := ?_) #[true, true, true, true, true, true, true, true, true, true, true, true, true, true, true, true, true, false, false, false, false, false] rfl rfl (by kernel_rfl) (fun _ _ _ h => h) (Or.inl ⟨by rfl, ?_⟩) ?_ ?_
            rotate_left
            · intro w'
              go_simp
              with_reducible rfl
            rotate_left
            · simp only [Act.put, List.setIfInBounds_toArray, List.set_cons_zero, List.set_cons_succ]
              rfl
            refine pure_ (i := 17) (N := some 88) (v := ?_) (a' := ?_) #[true, true, true, true, true, true, true, true, true, true, true, true, true, true, true, true, true, true, false, false, false, false] rfl rfl (by kernel_rfl) (fun _ _ _ h => h) (Or.inl ⟨by rfl, ?_⟩) ?_ ?_
            rotate_left
            · intro w'
              go_simp
              with_reducible rfl
            rotate_left
            · simp only [Act.put, List.setIfInBounds_toArray, List.set_cons_zero, List.set_cons_succ]
              rfl
            refine pure_ (i := 18) (N := some 89) (v := ?_) (a' := ?_) #[true, true, true, true, true, true, true, true, true, true, true, true, true, true, true, true, true, true, true, false, false, false] rfl rfl (by kernel_rfl) (fun _ _ _ h => h) (Or.inl ⟨by rfl, ?_⟩) ?_ ?_
            rotate_left
            · intro w'
              go_simp
              with_reducible rfl
            rotate_left
            · simp only [Act.put, List.setIfInBounds_toArray, List.set_cons_zero, List.set_cons_succ]
              rfl
            refine one_ (i := 19) (N := some 90) #[true, true, true, true, true, true, true, true, true, true, true, true, true, true, true, true, true, true, true, true, false, false] rfl rfl (by kernel_rfl) (by decide) (fun K hK => ?_)
            refine goes_ Tryd.func17 (by kernel_rfl) rfl #[] (by rfl) rfl rfl (by (try simp only [List.map_toArray, List.map_cons, List.map_nil]); first | done | rfl) ?_
            refine (alive_calls _ (HE.out.stays HB)).mono ?_
            rintro e w' ⟨rfl, hb⟩
            have BX' := blk_below BX hb
            have BY' := blk_below BY hb
            have HB' := HB.trans (hb.mono HB.size)
            clear hb
            refine ⟨_, rfl, ?_⟩
            refine hK.out _ _ ⟨SX.out _ BX', SY.out _ BY'⟩ (fun hHeld => ?_)
            clear hK K
            refine norm_ (a' := ?_) ?_ ?_
            rotate_left
            · show Act.put _ (some 90) _ = _
              simp only [Act.put, List.setIfInBounds_toArray, List.set_cons_zero, List.set_cons_succ]
              rfl
            refine pure_ (i := 20) (N := some 91) (v := ?_) (a' := ?_) #[true, true, true, true, true, true, true, true, true, true, true, true, true, true, true, true, true, true, true, true, true, false] rfl rfl (by kernel_rfl) (fun _ _ _ h => h) (Or.inl ⟨by rfl, ?_⟩) ?_ ?_
            rotate_left
            · intro w'
              go_simp
              with_reducible rfl
            rotate_left
            · simp only [Act.put, List.setIfInBounds_toArray, List.set_cons_zero, List.set_cons_succ]
              rfl
            refine pure_ (i := 21) (N := some 4) (v := ?_) (a' := ?_) #[true, true, true, true, true, true, true, true, true, true, true, true, true, true, true, true, true, true, true, true, true, true] rfl rfl (by kernel_rfl) (fun _ _ _ h => h) (Or.inl ⟨by rfl, ?_⟩) ?_ ?_
            rotate_left
            · intro w'
              go_simp
              with_reducible rfl
            rotate_left
            · simp only [Act.put, List.setIfInBounds_toArray, List.set_cons_zero, List.set_cons_succ]
              rfl
            refine done_ (by kernel_rfl) ?_
            clear hHeld BX BY BX' BY'
            go_wp2_with fail
            go_ret
            exact ⟨rfl, HB'⟩
        · obtain rfl : k = 6 := by omega
          obtain ⟨g1, g2, g3, g4, g5, g6⟩ := six_all hp
          have hnn : n = n2 := by rw [HN1.out, HNN2.out, g1, g2, g3, g4, g5, g6]
          have b0 : (n == n2) = true := by simp [hnn]
          have hE5 := HE.out.stays HB
          clear g1 g2 g3 g4 g5 g6 hnn hp
          go_wp2_with fail
          refine (alive_calls _ hE5).mono ?_
          rintro _ w6 ⟨rfl, hb6⟩
          go_wp2_with fail
          go_ret
          exact ⟨rfl, HB.trans (hb6.mono HB.size)⟩
    · go_wp2_with fail
      refine (alive_calls _ hE5).mono ?_
      rintro _ w6 ⟨rfl, hb6⟩
      go_wp2_with fail
      go_ret
      exact ⟨rfl, HB.trans (hb6.mono HB.size)⟩
  · go_wp2_with fail
    refine (alive_calls _ hE5).mono ?_
    rintro _ w6 ⟨rfl, hb6⟩
    go_wp2_with fail
    go_ret
    exact ⟨rfl, HB.trans (hb6.mono HB.size)⟩

end Go.Proofs.YtdppkhimnhfjoaaDoor
