/- The reference's Parse, walked: the number of a text. -/
import Derived.Test.YtdppkhimnhfjoaaDoorTold
import Derived.Test.YtdppkhimnhfjoaaDoorRefFormat
import Derived.Test.YtdppkhimnhfjoaaDoorRefParseNum
import Derived.Test.YtdppkhimnhfjoaaDoorRefNumber
import Derived.Test.YtdppkhimnhfjoaaDoorNumbers
set_option linter.unusedSimpArgs false
set_option linter.unusedVariables false
namespace Go.Proofs.YtdppkhimnhfjoaaDoor
open Go.RowKit Go.Proofs.YtdppkhimnhfjoaaDoorW.PrintWords Go.Proofs.YtdppkhimnhfjoaaDoorW.PrintLast
theorem two_of_len {l : List UInt8} (h : l.length = 2) : ∃ a b, l = [a, b] := by
  match l, h with
  | [a, b], _ => exact ⟨a, b, rfl⟩
theorem three_of_len {l : List UInt8} (h : l.length = 3) : ∃ a b c, l = [a, b, c] := by
  match l, h with
  | [a, b, c], _ => exact ⟨a, b, c, rfl⟩
theorem four_of_len {l : List UInt8} (h : l.length = 4) : ∃ a b c d, l = [a, b, c, d] := by
  match l, h with
  | [a, b, c, d], _ => exact ⟨a, b, c, d, rfl⟩
theorem cut_list (s : ByteArray) (a b : Nat) : (s.extract a b).data.toList = (s.data.toList.take b).drop a := by
  simp [ByteArray.data_extract, List.extract_eq_take_drop, List.drop_take]
theorem months_distinct : ∀ i : Fin 12, ∀ j : Fin 12, monthNames.getD i.1 [] = monthNames.getD j.1 [] → i = j := by decide
/-- What the parts of a text tell. -/
theorem fields_of {n : Int} {s : ByteArray} (hT : IsText n s.data.toList) : ∃ y m d h mi t : Nat, Cal.Valid y (m + 1) d h mi t ∧ Cal.num y (m + 1) d h mi t = n ∧ m < 12 ∧
    Text.numAt (s.extract 12 16).data.toList 0 = y ∧ Text.numAt (s.extract 5 7).data.toList 0 = d ∧ Text.numAt (s.extract 17 19).data.toList 0 = h ∧ Text.numAt (s.extract 20 22).data.toList 0 = mi ∧ Text.numAt (s.extract 23 25).data.toList 0 = t ∧
    (s.extract 8 11).data.toList = monthNames.getD m [] := by
  obtain ⟨y, m, d, h, mi, t, v, hn, ht⟩ := hT
  have w := wday_bd n
  have m0 := v.m0
  have m1 := v.m1
  obtain ⟨k, rfl⟩ : ∃ k : Nat, m = k + 1 := ⟨m - 1, by omega⟩
  refine ⟨y, k, d, h, mi, t, v, hn, by omega, ?_⟩
  have e1 := Text.numAt_digs 4 y (by have := v.y1; omega)
  have e2 := Text.numAt_digs 2 d (by have := v.d1; have := Cal.dim_bd y ((k + 1 : Nat) : Int); omega)
  have e3 := Text.numAt_digs 2 h (by have := v.h1; omega)
  have e4 := Text.numAt_digs 2 mi (by have := v.i1; omega)
  have e5 := Text.numAt_digs 2 t (by have := v.s1; omega)
  obtain ⟨a1, a2, a3, ha⟩ := three_of_len (dayName_three (wday n).toNat (by omega))
  obtain ⟨b1, b2, b3, hb⟩ := three_of_len (monthName_three k (by omega))
  obtain ⟨c1, c2, c3, c4, hc⟩ := four_of_len (Text.digs_length 4 y)
  obtain ⟨d1, d2, hd⟩ := two_of_len (Text.digs_length 2 d)
  obtain ⟨f1, f2, hf⟩ := two_of_len (Text.digs_length 2 h)
  obtain ⟨g1, g2, hg⟩ := two_of_len (Text.digs_length 2 mi)
  obtain ⟨i1, i2, hi⟩ := two_of_len (Text.digs_length 2 t)
  rw [hc] at e1
  rw [hd] at e2
  rw [hf] at e3
  rw [hg] at e4
  rw [hi] at e5
  unfold textOf at ht
  rw [show k + 1 - 1 = k from rfl, ha, hb, hc, hd, hf, hg, hi] at ht
  simp only [cut_list, ht]
  exact ⟨e1, e2, e3, e4, e5, hb.symm⟩
set_option maxHeartbeats 4000000 in
set_option maxRecDepth 100000 in
theorem rparse_calls (s : ByteArray) (w : World) : Calls Tryd.prog 21 #[.string s] w (ParsePost s w) := by
  by_cases hz : s.size = 29
  · go_enter Tryd.func21, Tryd.ntmps21
    have hz2 : (s.size : Int) = 29 := by omega
    go_wp2_with fail
    obtain ⟨Y, hY⟩ : ∃ Y : Int, Text.numAt (s.extract 12 16).data.toList 0 = Y := ⟨_, rfl⟩
    have cY : ∀ w, Calls Tryd.prog 36 #[.string (s.extract 12 16)] w fun e w' => e = .returned (.int .i64 Y) ∧ w = w' := fun w => by rw [← hY]; exact rnum_calls _ (by rw [ByteArray.size_extract]; omega) w
    have CY := Lib.hid cY
    have QY := Lib.hid hY
    clear cY hY
    obtain ⟨D, hD⟩ : ∃ D : Int, Text.numAt (s.extract 5 7).data.toList 0 = D := ⟨_, rfl⟩
    have cD : ∀ w, Calls Tryd.prog 36 #[.string (s.extract 5 7)] w fun e w' => e = .returned (.int .i64 D) ∧ w = w' := fun w => by rw [← hD]; exact rnum_calls _ (by rw [ByteArray.size_extract]; omega) w
    have CD := Lib.hid cD
    have QD := Lib.hid hD
    clear cD hD
    obtain ⟨H, hH⟩ : ∃ H : Int, Text.numAt (s.extract 17 19).data.toList 0 = H := ⟨_, rfl⟩
    have cH : ∀ w, Calls Tryd.prog 36 #[.string (s.extract 17 19)] w fun e w' => e = .returned (.int .i64 H) ∧ w = w' := fun w => by rw [← hH]; exact rnum_calls _ (by rw [ByteArray.size_extract]; omega) w
    have CH := Lib.hid cH
    have QH := Lib.hid hH
    clear cH hH
    obtain ⟨I, hI⟩ : ∃ I : Int, Text.numAt (s.extract 20 22).data.toList 0 = I := ⟨_, rfl⟩
    have cI : ∀ w, Calls Tryd.prog 36 #[.string (s.extract 20 22)] w fun e w' => e = .returned (.int .i64 I) ∧ w = w' := fun w => by rw [← hI]; exact rnum_calls _ (by rw [ByteArray.size_extract]; omega) w
    have CI := Lib.hid cI
    have QI := Lib.hid hI
    clear cI hI
    obtain ⟨T, hT⟩ : ∃ T : Int, Text.numAt (s.extract 23 25).data.toList 0 = T := ⟨_, rfl⟩
    have cT : ∀ w, Calls Tryd.prog 36 #[.string (s.extract 23 25)] w fun e w' => e = .returned (.int .i64 T) ∧ w = w' := fun w => by rw [← hT]; exact rnum_calls _ (by rw [ByteArray.size_extract]; omega) w
    have CT := Lib.hid cT
    have QT := Lib.hid hT
    clear cT hT
    have HB : Below w.heap.size w w.drew := (Below.refl _ _).drew
    refine start_ (n := 18) (S := fun w' => True) (ds := []) #[false, false, false, false, false, false, false, false, false, false, false, false, false, false, false, false, false, false] (by kernel_rfl) rfl rfl trivial (fun hHeld => ?_)
    clear hHeld
    generalize World.drew _ = W at HB ⊢
    refine pure_ (i := 0) (N := some 13) (v := ?_) (a' := ?_) #[true, false, false, false, false, false, false, false, false, false, false, false, false, false, false, false, false, false] rfl rfl (by kernel_rfl) (fun _ _ _ h => h) (Or.inl ⟨by rfl, ?_⟩) ?_ ?_
    rotate_left
    · intro w'
      go_simp
      with_reducible rfl
    rotate_left
    · simp only [Act.put, List.setIfInBounds_toArray, List.set_cons_zero, List.set_cons_succ]
      rfl
    refine pure_ (i := 1) (N := some 14) (v := ?_) (a' := ?_) #[true, true, false, false, false, false, false, false, false, false, false, false, false, false, false, false, false, false] rfl rfl (by kernel_rfl) (fun _ _ _ h => h) (Or.inl ⟨by rfl, ?_⟩) ?_ ?_
    rotate_left
    · intro w'
      go_simp
      with_reducible rfl
    rotate_left
    · simp only [Act.put, List.setIfInBounds_toArray, List.set_cons_zero, List.set_cons_succ]
      rfl
    refine pure_ (i := 3) (N := some 16) (v := ?_) (a' := ?_) #[true, true, false, true, false, false, false, false, false, false, false, false, false, false, false, false, false, false] rfl rfl (by kernel_rfl) (fun _ _ _ h => h) (Or.inl ⟨by rfl, ?_⟩) ?_ ?_
    rotate_left
    · intro w'
      go_simp
      with_reducible rfl
    rotate_left
    · simp only [Act.put, List.setIfInBounds_toArray, List.set_cons_zero, List.set_cons_succ]
      rfl
    refine pure_ (i := 4) (N := some 17) (v := ?_) (a' := ?_) #[true, true, false, true, true, false, false, false, false, false, false, false, false, false, false, false, false, false] rfl rfl (by kernel_rfl) (fun _ _ _ h => h) (Or.inl ⟨by rfl, ?_⟩) ?_ ?_
    rotate_left
    · intro w'
      go_simp
      with_reducible rfl
    rotate_left
    · simp only [Act.put, List.setIfInBounds_toArray, List.set_cons_zero, List.set_cons_succ]
      rfl
    refine pure_ (i := 6) (N := some 19) (v := ?_) (a' := ?_) #[true, true, false, true, true, false, true, false, false, false, false, false, false, false, false, false, false, false] rfl rfl (by kernel_rfl) (fun _ _ _ h => h) (Or.inl ⟨by rfl, ?_⟩) ?_ ?_
    rotate_left
    · intro w'
      go_simp
      with_reducible rfl
    rotate_left
    · simp only [Act.put, List.setIfInBounds_toArray, List.set_cons_zero, List.set_cons_succ]
      rfl
    refine pure_ (i := 7) (N := some 20) (v := ?_) (a' := ?_) #[true, true, false, true, true, false, true, true, false, false, false, false, false, false, false, false, false, false] rfl rfl (by kernel_rfl) (fun _ _ _ h => h) (Or.inl ⟨by rfl, ?_⟩) ?_ ?_
    rotate_left
    · intro w'
      go_simp
      with_reducible rfl
    rotate_left
    · simp only [Act.put, List.setIfInBounds_toArray, List.set_cons_zero, List.set_cons_succ]
      rfl
    refine pure_ (i := 9) (N := some 22) (v := ?_) (a' := ?_) #[true, true, false, true, true, false, true, true, false, true, false, false, false, false, false, false, false, false] rfl rfl (by kernel_rfl) (fun _ _ _ h => h) (Or.inl ⟨by rfl, ?_⟩) ?_ ?_
    rotate_left
    · intro w'
      go_simp
      with_reducible rfl
    rotate_left
    · simp only [Act.put, List.setIfInBounds_toArray, List.set_cons_zero, List.set_cons_succ]
      rfl
    refine pure_ (i := 10) (N := some 23) (v := ?_) (a' := ?_) #[true, true, false, true, true, false, true, true, false, true, true, false, false, false, false, false, false, false] rfl rfl (by kernel_rfl) (fun _ _ _ h => h) (Or.inl ⟨by rfl, ?_⟩) ?_ ?_
    rotate_left
    · intro w'
      go_simp
      with_reducible rfl
    rotate_left
    · simp only [Act.put, List.setIfInBounds_toArray, List.set_cons_zero, List.set_cons_succ]
      rfl
    refine pure_ (i := 12) (N := some 25) (v := ?_) (a' := ?_) #[true, true, false, true, true, false, true, true, false, true, true, false, true, false, false, false, false, false] rfl rfl (by kernel_rfl) (fun _ _ _ h => h) (Or.inl ⟨by rfl, ?_⟩) ?_ ?_
    rotate_left
    · intro w'
      go_simp
      with_reducible rfl
    rotate_left
    · simp only [Act.put, List.setIfInBounds_toArray, List.set_cons_zero, List.set_cons_succ]
      rfl
    refine pure_ (i := 13) (N := some 26) (v := ?_) (a' := ?_) #[true, true, false, true, true, false, true, true, false, true, true, false, true, true, false, false, false, false] rfl rfl (by kernel_rfl) (fun _ _ _ h => h) (Or.inl ⟨by rfl, ?_⟩) ?_ ?_
    rotate_left
    · intro w'
      go_simp
      with_reducible rfl
    rotate_left
    · simp only [Act.put, List.setIfInBounds_toArray, List.set_cons_zero, List.set_cons_succ]
      rfl
    refine join_ 1 #[true, true, true, true, true, true, true, true, true, true, true, true, true, true, true, true, true, false] (fun (_ : Unit) => [(15, .int .i64 Y), (18, .int .i64 D), (21, .int .i64 H), (24, .int .i64 I), (27, .int .i64 T), (28, .agg #[.int .i64 Y, .int .i64 0, .int .i64 D, .int .i64 H, .int .i64 I, .int .i64 T]), (4, .pointer (some ⟨W.heap.size, 0, none⟩))]) (fun _ W2 => W2 = W.alloc (.cells #[.int .i64 0, .int .i64 0, .int .i64 0, .int .i64 0, .int .i64 0, .int .i64 0] 23)) ?cont (fun hcont => ?orders)
    case orders =>
      refine two_ (i := 2) (j := 16) (Ni := some 15) (Nj := some 4) #[true, true, true, true, true, false, true, true, false, true, true, false, true, true, false, false, false, false] #[true, true, false, true, true, false, true, true, false, true, true, false, true, true, false, false, true, false] rfl rfl rfl rfl (by kernel_rfl) (by decide) (by decide) (fun K hK => ?_) (fun K hK => ?_)
      · refine goes_ Tryd.func36 (by kernel_rfl) rfl #[.string (s.extract 12 16)] (by rfl) rfl rfl (by (try simp only [List.map_toArray, List.map_cons, List.map_nil]); first | done | rfl) ?_
        refine (CY.out _).mono ?_
        rintro e w' ⟨rfl, hw⟩
        subst hw
        refine ⟨_, rfl, ?_⟩
        refine hK.out _ _ trivial (fun hHeld => ?_)
        clear hK K
        refine norm_ (a' := ?_) ?_ ?_
        rotate_left
        · show Act.put _ (some 15) _ = _
          simp only [Act.put, List.setIfInBounds_toArray, List.set_cons_zero, List.set_cons_succ]
          rfl
        refine two_ (i := 5) (j := 16) (Ni := some 18) (Nj := some 4) #[true, true, true, true, true, true, true, true, false, true, true, false, true, true, false, false, false, false] #[true, true, true, true, true, false, true, true, false, true, true, false, true, true, false, false, true, false] rfl rfl rfl rfl (by kernel_rfl) (by decide) (by decide) (fun K hK => ?_) (fun K hK => ?_)
        · refine goes_ Tryd.func36 (by kernel_rfl) rfl #[.string (s.extract 5 7)] (by rfl) rfl rfl (by (try simp only [List.map_toArray, List.map_cons, List.map_nil]); first | done | rfl) ?_
          refine (CD.out _).mono ?_
          rintro e w' ⟨rfl, hw⟩
          subst hw
          refine ⟨_, rfl, ?_⟩
          refine hK.out _ _ trivial (fun hHeld => ?_)
          clear hK K
          refine norm_ (a' := ?_) ?_ ?_
          rotate_left
          · show Act.put _ (some 18) _ = _
            simp only [Act.put, List.setIfInBounds_toArray, List.set_cons_zero, List.set_cons_succ]
            rfl
          refine two_ (i := 8) (j := 16) (Ni := some 21) (Nj := some 4) #[true, true, true, true, true, true, true, true, true, true, true, false, true, true, false, false, false, false] #[true, true, true, true, true, true, true, true, false, true, true, false, true, true, false, false, true, false] rfl rfl rfl rfl (by kernel_rfl) (by decide) (by decide) (fun K hK => ?_) (fun K hK => ?_)
          · refine goes_ Tryd.func36 (by kernel_rfl) rfl #[.string (s.extract 17 19)] (by rfl) rfl rfl (by (try simp only [List.map_toArray, List.map_cons, List.map_nil]); first | done | rfl) ?_
            refine (CH.out _).mono ?_
            rintro e w' ⟨rfl, hw⟩
            subst hw
            refine ⟨_, rfl, ?_⟩
            refine hK.out _ _ trivial (fun hHeld => ?_)
            clear hK K
            refine norm_ (a' := ?_) ?_ ?_
            rotate_left
            · show Act.put _ (some 21) _ = _
              simp only [Act.put, List.setIfInBounds_toArray, List.set_cons_zero, List.set_cons_succ]
              rfl
            refine two_ (i := 11) (j := 16) (Ni := some 24) (Nj := some 4) #[true, true, true, true, true, true, true, true, true, true, true, true, true, true, false, false, false, false] #[true, true, true, true, true, true, true, true, true, true, true, false, true, true, false, false, true, false] rfl rfl rfl rfl (by kernel_rfl) (by decide) (by decide) (fun K hK => ?_) (fun K hK => ?_)
            · refine goes_ Tryd.func36 (by kernel_rfl) rfl #[.string (s.extract 20 22)] (by rfl) rfl rfl (by (try simp only [List.map_toArray, List.map_cons, List.map_nil]); first | done | rfl) ?_
              refine (CI.out _).mono ?_
              rintro e w' ⟨rfl, hw⟩
              subst hw
              refine ⟨_, rfl, ?_⟩
              refine hK.out _ _ trivial (fun hHeld => ?_)
              clear hK K
              refine norm_ (a' := ?_) ?_ ?_
              rotate_left
              · show Act.put _ (some 24) _ = _
                simp only [Act.put, List.setIfInBounds_toArray, List.set_cons_zero, List.set_cons_succ]
                rfl
              refine two_ (i := 14) (j := 16) (Ni := some 27) (Nj := some 4) #[true, true, true, true, true, true, true, true, true, true, true, true, true, true, true, false, false, false] #[true, true, true, true, true, true, true, true, true, true, true, true, true, true, false, false, true, false] rfl rfl rfl rfl (by kernel_rfl) (by decide) (by decide) (fun K hK => ?_) (fun K hK => ?_)
              · refine goes_ Tryd.func36 (by kernel_rfl) rfl #[.string (s.extract 23 25)] (by rfl) rfl rfl (by (try simp only [List.map_toArray, List.map_cons, List.map_nil]); first | done | rfl) ?_
                refine (CT.out _).mono ?_
                rintro e w' ⟨rfl, hw⟩
                subst hw
                refine ⟨_, rfl, ?_⟩
                refine hK.out _ _ trivial (fun hHeld => ?_)
                clear hK K
                refine norm_ (a' := ?_) ?_ ?_
                rotate_left
                · show Act.put _ (some 27) _ = _
                  simp only [Act.put, List.setIfInBounds_toArray, List.set_cons_zero, List.set_cons_succ]
                  rfl
                refine pure_ (i := 15) (N := some 28) (v := ?_) (a' := ?_) #[true, true, true, true, true, true, true, true, true, true, true, true, true, true, true, true, false, false] rfl rfl (by kernel_rfl) (fun _ _ _ h => h) (Or.inl ⟨by rfl, ?_⟩) ?_ ?_
                rotate_left
                · intro w'
                  go_simp
                  with_reducible rfl
                rotate_left
                · simp only [Act.put, List.setIfInBounds_toArray, List.set_cons_zero, List.set_cons_succ]
                  rfl
                refine one_ (i := 16) (N := some 4) #[true, true, true, true, true, true, true, true, true, true, true, true, true, true, true, true, true, false] rfl rfl (by kernel_rfl) (by decide) (fun K hK => ?_)
                refine value_ (v := .pointer (some ⟨W.heap.size, 0, none⟩)) (w1 := W.alloc (.cells #[.int .i64 0, .int .i64 0, .int .i64 0, .int .i64 0, .int .i64 0, .int .i64 0] 23)) (by rfl) rfl (by go_simp) ?_
                refine hK.out _ _ trivial (fun hHeld => ?_)
                clear hK K
                refine norm_ (a' := ?_) ?_ ?_
                rotate_left
                · show Act.put _ (some 4) _ = _
                  simp only [Act.put, List.setIfInBounds_toArray, List.set_cons_zero, List.set_cons_succ]
                  rfl
                refine norm_ (a' := _) ?_ (hcont () _ rfl)
                simp only [putAll, Act.put, List.setIfInBounds_toArray, List.set_cons_zero, List.set_cons_succ]
                try rfl
              · refine value_ (v := .pointer (some ⟨W.heap.size, 0, none⟩)) (w1 := W.alloc (.cells #[.int .i64 0, .int .i64 0, .int .i64 0, .int .i64 0, .int .i64 0, .int .i64 0] 23)) (by rfl) rfl (by go_simp) ?_
                refine hK.out _ _ trivial (fun hHeld => ?_)
                clear hK K
                refine norm_ (a' := ?_) ?_ ?_
                rotate_left
                · show Act.put _ (some 4) _ = _
                  simp only [Act.put, List.setIfInBounds_toArray, List.set_cons_zero, List.set_cons_succ]
                  rfl
                refine one_ (i := 14) (N := some 27) #[true, true, true, true, true, true, true, true, true, true, true, true, true, true, true, false, true, false] rfl rfl (by kernel_rfl) (by decide) (fun K hK => ?_)
                refine goes_ Tryd.func36 (by kernel_rfl) rfl #[.string (s.extract 23 25)] (by rfl) rfl rfl (by (try simp only [List.map_toArray, List.map_cons, List.map_nil]); first | done | rfl) ?_
                refine (CT.out _).mono ?_
                rintro e w' ⟨rfl, hw⟩
                subst hw
                refine ⟨_, rfl, ?_⟩
                refine hK.out _ _ trivial (fun hHeld => ?_)
                clear hK K
                refine norm_ (a' := ?_) ?_ ?_
                rotate_left
                · show Act.put _ (some 27) _ = _
                  simp only [Act.put, List.setIfInBounds_toArray, List.set_cons_zero, List.set_cons_succ]
                  rfl
                refine pure_ (i := 15) (N := some 28) (v := ?_) (a' := ?_) #[true, true, true, true, true, true, true, true, true, true, true, true, true, true, true, true, true, false] rfl rfl (by kernel_rfl) (fun _ _ _ h => h) (Or.inl ⟨by rfl, ?_⟩) ?_ ?_
                rotate_left
                · intro w'
                  go_simp
                  with_reducible rfl
                rotate_left
                · simp only [Act.put, List.setIfInBounds_toArray, List.set_cons_zero, List.set_cons_succ]
                  rfl
                refine norm_ (a' := _) ?_ (hcont () _ rfl)
                simp only [putAll, Act.put, List.setIfInBounds_toArray, List.set_cons_zero, List.set_cons_succ]
                try rfl
            · refine value_ (v := .pointer (some ⟨W.heap.size, 0, none⟩)) (w1 := W.alloc (.cells #[.int .i64 0, .int .i64 0, .int .i64 0, .int .i64 0, .int .i64 0, .int .i64 0] 23)) (by rfl) rfl (by go_simp) ?_
              refine hK.out _ _ trivial (fun hHeld => ?_)
              clear hK K
              refine norm_ (a' := ?_) ?_ ?_
              rotate_left
              · show Act.put _ (some 4) _ = _
                simp only [Act.put, List.setIfInBounds_toArray, List.set_cons_zero, List.set_cons_succ]
                rfl
              refine one_ (i := 11) (N := some 24) #[true, true, true, true, true, true, true, true, true, true, true, true, true, true, false, false, true, false] rfl rfl (by kernel_rfl) (by decide) (fun K hK => ?_)
              refine goes_ Tryd.func36 (by kernel_rfl) rfl #[.string (s.extract 20 22)] (by rfl) rfl rfl (by (try simp only [List.map_toArray, List.map_cons, List.map_nil]); first | done | rfl) ?_
              refine (CI.out _).mono ?_
              rintro e w' ⟨rfl, hw⟩
              subst hw
              refine ⟨_, rfl, ?_⟩
              refine hK.out _ _ trivial (fun hHeld => ?_)
              clear hK K
              refine norm_ (a' := ?_) ?_ ?_
              rotate_left
              · show Act.put _ (some 24) _ = _
                simp only [Act.put, List.setIfInBounds_toArray, List.set_cons_zero, List.set_cons_succ]
                rfl
              refine one_ (i := 14) (N := some 27) #[true, true, true, true, true, true, true, true, true, true, true, true, true, true, true, false, true, false] rfl rfl (by kernel_rfl) (by decide) (fun K hK => ?_)
              refine goes_ Tryd.func36 (by kernel_rfl) rfl #[.string (s.extract 23 25)] (by rfl) rfl rfl (by (try simp only [List.map_toArray, List.map_cons, List.map_nil]); first | done | rfl) ?_
              refine (CT.out _).mono ?_
              rintro e w' ⟨rfl, hw⟩
              subst hw
              refine ⟨_, rfl, ?_⟩
              refine hK.out _ _ trivial (fun hHeld => ?_)
              clear hK K
              refine norm_ (a' := ?_) ?_ ?_
              rotate_left
              · show Act.put _ (some 27) _ = _
                simp only [Act.put, List.setIfInBounds_toArray, List.set_cons_zero, List.set_cons_succ]
                rfl
              refine pure_ (i := 15) (N := some 28) (v := ?_) (a' := ?_) #[true, true, true, true, true, true, true, true, true, true, true, true, true, true, true, true, true, false] rfl rfl (by kernel_rfl) (fun _ _ _ h => h) (Or.inl ⟨by rfl, ?_⟩) ?_ ?_
              rotate_left
              · intro w'
                go_simp
                with_reducible rfl
              rotate_left
              · simp only [Act.put, List.setIfInBounds_toArray, List.set_cons_zero, List.set_cons_succ]
                rfl
              refine norm_ (a' := _) ?_ (hcont () _ rfl)
              simp only [putAll, Act.put, List.setIfInBounds_toArray, List.set_cons_zero, List.set_cons_succ]
              try rfl
          · refine value_ (v := .pointer (some ⟨W.heap.size, 0, none⟩)) (w1 := W.alloc (.cells #[.int .i64 0, .int .i64 0, .int .i64 0, .int .i64 0, .int .i64 0, .int .i64 0] 23)) (by rfl) rfl (by go_simp) ?_
            refine hK.out _ _ trivial (fun hHeld => ?_)
            clear hK K
            refine norm_ (a' := ?_) ?_ ?_
            rotate_left
            · show Act.put _ (some 4) _ = _
              simp only [Act.put, List.setIfInBounds_toArray, List.set_cons_zero, List.set_cons_succ]
              rfl
            refine one_ (i := 8) (N := some 21) #[true, true, true, true, true, true, true, true, true, true, true, false, true, true, false, false, true, false] rfl rfl (by kernel_rfl) (by decide) (fun K hK => ?_)
            refine goes_ Tryd.func36 (by kernel_rfl) rfl #[.string (s.extract 17 19)] (by rfl) rfl rfl (by (try simp only [List.map_toArray, List.map_cons, List.map_nil]); first | done | rfl) ?_
            refine (CH.out _).mono ?_
            rintro e w' ⟨rfl, hw⟩
            subst hw
            refine ⟨_, rfl, ?_⟩
            refine hK.out _ _ trivial (fun hHeld => ?_)
            clear hK K
            refine norm_ (a' := ?_) ?_ ?_
            rotate_left
            · show Act.put _ (some 21) _ = _
              simp only [Act.put, List.setIfInBounds_toArray, List.set_cons_zero, List.set_cons_succ]
              rfl
            refine one_ (i := 11) (N := some 24) #[true, true, true, true, true, true, true, true, true, true, true, true, true, true, false, false, true, false] rfl rfl (by kernel_rfl) (by decide) (fun K hK => ?_)
            refine goes_ Tryd.func36 (by kernel_rfl) rfl #[.string (s.extract 20 22)] (by rfl) rfl rfl (by (try simp only [List.map_toArray, List.map_cons, List.map_nil]); first | done | rfl) ?_
            refine (CI.out _).mono ?_
            rintro e w' ⟨rfl, hw⟩
            subst hw
            refine ⟨_, rfl, ?_⟩
            refine hK.out _ _ trivial (fun hHeld => ?_)
            clear hK K
            refine norm_ (a' := ?_) ?_ ?_
            rotate_left
            · show Act.put _ (some 24) _ = _
              simp only [Act.put, List.setIfInBounds_toArray, List.set_cons_zero, List.set_cons_succ]
              rfl
            refine one_ (i := 14) (N := some 27) #[true, true, true, true, true, true, true, true, true, true, true, true, true, true, true, false, true, false] rfl rfl (by kernel_rfl) (by decide) (fun K hK => ?_)
            refine goes_ Tryd.func36 (by kernel_rfl) rfl #[.string (s.extract 23 25)] (by rfl) rfl rfl (by (try simp only [List.map_toArray, List.map_cons, List.map_nil]); first | done | rfl) ?_
            refine (CT.out _).mono ?_
            rintro e w' ⟨rfl, hw⟩
            subst hw
            refine ⟨_, rfl, ?_⟩
            refine hK.out _ _ trivial (fun hHeld => ?_)
            clear hK K
            refine norm_ (a' := ?_) ?_ ?_
            rotate_left
            · show Act.put _ (some 27) _ = _
              simp only [Act.put, List.setIfInBounds_toArray, List.set_cons_zero, List.set_cons_succ]
              rfl
            refine pure_ (i := 15) (N := some 28) (v := ?_) (a' := ?_) #[true, true, true, true, true, true, true, true, true, true, true, true, true, true, true, true, true, false] rfl rfl (by kernel_rfl) (fun _ _ _ h => h) (Or.inl ⟨by rfl, ?_⟩) ?_ ?_
            rotate_left
            · intro w'
              go_simp
              with_reducible rfl
            rotate_left
            · simp only [Act.put, List.setIfInBounds_toArray, List.set_cons_zero, List.set_cons_succ]
              rfl
            refine norm_ (a' := _) ?_ (hcont () _ rfl)
            simp only [putAll, Act.put, List.setIfInBounds_toArray, List.set_cons_zero, List.set_cons_succ]
            try rfl
        · refine value_ (v := .pointer (some ⟨W.heap.size, 0, none⟩)) (w1 := W.alloc (.cells #[.int .i64 0, .int .i64 0, .int .i64 0, .int .i64 0, .int .i64 0, .int .i64 0] 23)) (by rfl) rfl (by go_simp) ?_
          refine hK.out _ _ trivial (fun hHeld => ?_)
          clear hK K
          refine norm_ (a' := ?_) ?_ ?_
          rotate_left
          · show Act.put _ (some 4) _ = _
            simp only [Act.put, List.setIfInBounds_toArray, List.set_cons_zero, List.set_cons_succ]
            rfl
          refine one_ (i := 5) (N := some 18) #[true, true, true, true, true, true, true, true, false, true, true, false, true, true, false, false, true, false] rfl rfl (by kernel_rfl) (by decide) (fun K hK => ?_)
          refine goes_ Tryd.func36 (by kernel_rfl) rfl #[.string (s.extract 5 7)] (by rfl) rfl rfl (by (try simp only [List.map_toArray, List.map_cons, List.map_nil]); first | done | rfl) ?_
          refine (CD.out _).mono ?_
          rintro e w' ⟨rfl, hw⟩
          subst hw
          refine ⟨_, rfl, ?_⟩
          refine hK.out _ _ trivial (fun hHeld => ?_)
          clear hK K
          refine norm_ (a' := ?_) ?_ ?_
          rotate_left
          · show Act.put _ (some 18) _ = _
            simp only [Act.put, List.setIfInBounds_toArray, List.set_cons_zero, List.set_cons_succ]
            rfl
          refine one_ (i := 8) (N := some 21) #[true, true, true, true, true, true, true, true, true, true, true, false, true, true, false, false, true, false] rfl rfl (by kernel_rfl) (by decide) (fun K hK => ?_)
          refine goes_ Tryd.func36 (by kernel_rfl) rfl #[.string (s.extract 17 19)] (by rfl) rfl rfl (by (try simp only [List.map_toArray, List.map_cons, List.map_nil]); first | done | rfl) ?_
          refine (CH.out _).mono ?_
          rintro e w' ⟨rfl, hw⟩
          subst hw
          refine ⟨_, rfl, ?_⟩
          refine hK.out _ _ trivial (fun hHeld => ?_)
          clear hK K
          refine norm_ (a' := ?_) ?_ ?_
          rotate_left
          · show Act.put _ (some 21) _ = _
            simp only [Act.put, List.setIfInBounds_toArray, List.set_cons_zero, List.set_cons_succ]
            rfl
          refine one_ (i := 11) (N := some 24) #[true, true, true, true, true, true, true, true, true, true, true, true, true, true, false, false, true, false] rfl rfl (by kernel_rfl) (by decide) (fun K hK => ?_)
          refine goes_ Tryd.func36 (by kernel_rfl) rfl #[.string (s.extract 20 22)] (by rfl) rfl rfl (by (try simp only [List.map_toArray, List.map_cons, List.map_nil]); first | done | rfl) ?_
          refine (CI.out _).mono ?_
          rintro e w' ⟨rfl, hw⟩
          subst hw
          refine ⟨_, rfl, ?_⟩
          refine hK.out _ _ trivial (fun hHeld => ?_)
          clear hK K
          refine norm_ (a' := ?_) ?_ ?_
          rotate_left
          · show Act.put _ (some 24) _ = _
            simp only [Act.put, List.setIfInBounds_toArray, List.set_cons_zero, List.set_cons_succ]
            rfl
          refine one_ (i := 14) (N := some 27) #[true, true, true, true, true, true, true, true, true, true, true, true, true, true, true, false, true, false] rfl rfl (by kernel_rfl) (by decide) (fun K hK => ?_)
          refine goes_ Tryd.func36 (by kernel_rfl) rfl #[.string (s.extract 23 25)] (by rfl) rfl rfl (by (try simp only [List.map_toArray, List.map_cons, List.map_nil]); first | done | rfl) ?_
          refine (CT.out _).mono ?_
          rintro e w' ⟨rfl, hw⟩
          subst hw
          refine ⟨_, rfl, ?_⟩
          refine hK.out _ _ trivial (fun hHeld => ?_)
          clear hK K
          refine norm_ (a' := ?_) ?_ ?_
          rotate_left
          · show Act.put _ (some 27) _ = _
            simp only [Act.put, List.setIfInBounds_toArray, List.set_cons_zero, List.set_cons_succ]
            rfl
          refine pure_ (i := 15) (N := some 28) (v := ?_) (a' := ?_) #[true, true, true, true, true, true, true, true, true, true, true, true, true, true, true, true, true, false] rfl rfl (by kernel_rfl) (fun _ _ _ h => h) (Or.inl ⟨by rfl, ?_⟩) ?_ ?_
          rotate_left
          · intro w'
            go_simp
            with_reducible rfl
          rotate_left
          · simp only [Act.put, List.setIfInBounds_toArray, List.set_cons_zero, List.set_cons_succ]
            rfl
          refine norm_ (a' := _) ?_ (hcont () _ rfl)
          simp only [putAll, Act.put, List.setIfInBounds_toArray, List.set_cons_zero, List.set_cons_succ]
          try rfl
      · refine value_ (v := .pointer (some ⟨W.heap.size, 0, none⟩)) (w1 := W.alloc (.cells #[.int .i64 0, .int .i64 0, .int .i64 0, .int .i64 0, .int .i64 0, .int .i64 0] 23)) (by rfl) rfl (by go_simp) ?_
        refine hK.out _ _ trivial (fun hHeld => ?_)
        clear hK K
        refine norm_ (a' := ?_) ?_ ?_
        rotate_left
        · show Act.put _ (some 4) _ = _
          simp only [Act.put, List.setIfInBounds_toArray, List.set_cons_zero, List.set_cons_succ]
          rfl
        refine one_ (i := 2) (N := some 15) #[true, true, true, true, true, false, true, true, false, true, true, false, true, true, false, false, true, false] rfl rfl (by kernel_rfl) (by decide) (fun K hK => ?_)
        refine goes_ Tryd.func36 (by kernel_rfl) rfl #[.string (s.extract 12 16)] (by rfl) rfl rfl (by (try simp only [List.map_toArray, List.map_cons, List.map_nil]); first | done | rfl) ?_
        refine (CY.out _).mono ?_
        rintro e w' ⟨rfl, hw⟩
        subst hw
        refine ⟨_, rfl, ?_⟩
        refine hK.out _ _ trivial (fun hHeld => ?_)
        clear hK K
        refine norm_ (a' := ?_) ?_ ?_
        rotate_left
        · show Act.put _ (some 15) _ = _
          simp only [Act.put, List.setIfInBounds_toArray, List.set_cons_zero, List.set_cons_succ]
          rfl
        refine one_ (i := 5) (N := some 18) #[true, true, true, true, true, true, true, true, false, true, true, false, true, true, false, false, true, false] rfl rfl (by kernel_rfl) (by decide) (fun K hK => ?_)
        refine goes_ Tryd.func36 (by kernel_rfl) rfl #[.string (s.extract 5 7)] (by rfl) rfl rfl (by (try simp only [List.map_toArray, List.map_cons, List.map_nil]); first | done | rfl) ?_
        refine (CD.out _).mono ?_
        rintro e w' ⟨rfl, hw⟩
        subst hw
        refine ⟨_, rfl, ?_⟩
        refine hK.out _ _ trivial (fun hHeld => ?_)
        clear hK K
        refine norm_ (a' := ?_) ?_ ?_
        rotate_left
        · show Act.put _ (some 18) _ = _
          simp only [Act.put, List.setIfInBounds_toArray, List.set_cons_zero, List.set_cons_succ]
          rfl
        refine one_ (i := 8) (N := some 21) #[true, true, true, true, true, true, true, true, true, true, true, false, true, true, false, false, true, false] rfl rfl (by kernel_rfl) (by decide) (fun K hK => ?_)
        refine goes_ Tryd.func36 (by kernel_rfl) rfl #[.string (s.extract 17 19)] (by rfl) rfl rfl (by (try simp only [List.map_toArray, List.map_cons, List.map_nil]); first | done | rfl) ?_
        refine (CH.out _).mono ?_
        rintro e w' ⟨rfl, hw⟩
        subst hw
        refine ⟨_, rfl, ?_⟩
        refine hK.out _ _ trivial (fun hHeld => ?_)
        clear hK K
        refine norm_ (a' := ?_) ?_ ?_
        rotate_left
        · show Act.put _ (some 21) _ = _
          simp only [Act.put, List.setIfInBounds_toArray, List.set_cons_zero, List.set_cons_succ]
          rfl
        refine one_ (i := 11) (N := some 24) #[true, true, true, true, true, true, true, true, true, true, true, true, true, true, false, false, true, false] rfl rfl (by kernel_rfl) (by decide) (fun K hK => ?_)
        refine goes_ Tryd.func36 (by kernel_rfl) rfl #[.string (s.extract 20 22)] (by rfl) rfl rfl (by (try simp only [List.map_toArray, List.map_cons, List.map_nil]); first | done | rfl) ?_
        refine (CI.out _).mono ?_
        rintro e w' ⟨rfl, hw⟩
        subst hw
        refine ⟨_, rfl, ?_⟩
        refine hK.out _ _ trivial (fun hHeld => ?_)
        clear hK K
        refine norm_ (a' := ?_) ?_ ?_
        rotate_left
        · show Act.put _ (some 24) _ = _
          simp only [Act.put, List.setIfInBounds_toArray, List.set_cons_zero, List.set_cons_succ]
          rfl
        refine one_ (i := 14) (N := some 27) #[true, true, true, true, true, true, true, true, true, true, true, true, true, true, true, false, true, false] rfl rfl (by kernel_rfl) (by decide) (fun K hK => ?_)
        refine goes_ Tryd.func36 (by kernel_rfl) rfl #[.string (s.extract 23 25)] (by rfl) rfl rfl (by (try simp only [List.map_toArray, List.map_cons, List.map_nil]); first | done | rfl) ?_
        refine (CT.out _).mono ?_
        rintro e w' ⟨rfl, hw⟩
        subst hw
        refine ⟨_, rfl, ?_⟩
        refine hK.out _ _ trivial (fun hHeld => ?_)
        clear hK K
        refine norm_ (a' := ?_) ?_ ?_
        rotate_left
        · show Act.put _ (some 27) _ = _
          simp only [Act.put, List.setIfInBounds_toArray, List.set_cons_zero, List.set_cons_succ]
          rfl
        refine pure_ (i := 15) (N := some 28) (v := ?_) (a' := ?_) #[true, true, true, true, true, true, true, true, true, true, true, true, true, true, true, true, true, false] rfl rfl (by kernel_rfl) (fun _ _ _ h => h) (Or.inl ⟨by rfl, ?_⟩) ?_ ?_
        rotate_left
        · intro w'
          go_simp
          with_reducible rfl
        rotate_left
        · simp only [Act.put, List.setIfInBounds_toArray, List.set_cons_zero, List.set_cons_succ]
          rfl
        refine norm_ (a' := _) ?_ (hcont () _ rfl)
        simp only [putAll, Act.put, List.setIfInBounds_toArray, List.set_cons_zero, List.set_cons_succ]
        try rfl
    case cont =>
      rintro _ W2 hWW
      rw [hWW]
      clear hWW W2
      have hHeld : True := trivial
      refine norm_ (a' := ?_) ?_ ?_
      rotate_left
      · simp only [putAll, Act.put, List.setIfInBounds_toArray, List.set_cons_zero, List.set_cons_succ]
        rfl
      have BZ := blk_new W (.cells #[.int .i64 0, .int .i64 0, .int .i64 0, .int .i64 0, .int .i64 0, .int .i64 0] 23)
      have hbd := HB.size
      replace HB := HB.alloc HB.size (.cells #[.int .i64 0, .int .i64 0, .int .i64 0, .int .i64 0, .int .i64 0, .int .i64 0] 23)
      generalize W.alloc _ = W1 at BZ HB ⊢
      generalize W.heap.size = bd at BZ hbd ⊢
      have z0 := blk_cell BZ 0
      have z1 := blk_cell BZ 1
      have z2 := blk_cell BZ 2
      have z3 := blk_cell BZ 3
      have z4 := blk_cell BZ 4
      have z5 := blk_cell BZ 5
      simp at z0 z1 z2 z3 z4 z5
      have fz := blk_frozen BZ
      refine one_ (i := 17) (N := none) #[true, true, true, true, true, true, true, true, true, true, true, true, true, true, true, true, true, true] rfl rfl (by kernel_rfl) (by decide) (fun K hK => ?_)
      refine skip_ (w1 := ((((((W1.setCell ⟨bd, 0, none⟩ (.int .i64 Y)).setCell ⟨bd, 1, none⟩ (.int .i64 0)).setCell ⟨bd, 2, none⟩ (.int .i64 D)).setCell ⟨bd, 3, none⟩ (.int .i64 H)).setCell ⟨bd, 4, none⟩ (.int .i64 I)).setCell ⟨bd, 5, none⟩ (.int .i64 T))) (by rfl) rfl (by go_simp) ?_
      replace BZ := blk_put (cs := #[.int .i64 Y, .int .i64 0, .int .i64 D, .int .i64 H, .int .i64 I, .int .i64 0]) (blk_put (cs := #[.int .i64 Y, .int .i64 0, .int .i64 D, .int .i64 H, .int .i64 0, .int .i64 0]) (blk_put (cs := #[.int .i64 Y, .int .i64 0, .int .i64 D, .int .i64 0, .int .i64 0, .int .i64 0]) (blk_put (cs := #[.int .i64 Y, .int .i64 0, .int .i64 0, .int .i64 0, .int .i64 0, .int .i64 0]) (blk_put (cs := #[.int .i64 Y, .int .i64 0, .int .i64 0, .int .i64 0, .int .i64 0, .int .i64 0]) (blk_put (cs := #[.int .i64 0, .int .i64 0, .int .i64 0, .int .i64 0, .int .i64 0, .int .i64 0]) (BZ) 0 (.int .i64 Y) rfl) 1 (.int .i64 0) rfl) 2 (.int .i64 D) rfl) 3 (.int .i64 H) rfl) 4 (.int .i64 I) rfl) 5 (.int .i64 T) rfl
      replace HB := ((((((HB).setCell (p := ⟨bd, 0, none⟩) hbd (.int .i64 Y)).setCell (p := ⟨bd, 1, none⟩) hbd (.int .i64 0)).setCell (p := ⟨bd, 2, none⟩) hbd (.int .i64 D)).setCell (p := ⟨bd, 3, none⟩) hbd (.int .i64 H)).setCell (p := ⟨bd, 4, none⟩) hbd (.int .i64 I)).setCell (p := ⟨bd, 5, none⟩) hbd (.int .i64 T)
      generalize World.setCell _ _ _ = W2 at BZ HB ⊢
      refine hK.out _ _ trivial (fun hHeld => ?_)
      clear hK K z0 z1 z2 z3 z4 z5 fz hHeld
      refine done_ (by kernel_rfl) ?_
      go_wp2_with fail
      obtain ⟨x, hx⟩ : ∃ x : ByteArray, s.extract 8 11 = x := ⟨_, rfl⟩
      have HX := Lib.hid hx
      clear hx
      go_loopw [5] (fun iv W => ∃ (j : Nat) (M : Int), j ≤ 12 ∧ iv = .int .i64 ((j : Int) + 1) ∧ (∀ m, m < j → x.data.toList = monthNames.getD m [] → M = m + 1) ∧ W.heap[bd]? = some (.cells #[.int .i64 Y, .int .i64 M, .int .i64 D, .int .i64 H, .int .i64 I, .int .i64 T] 23 (0, 0)) ∧ Below w.heap.size w W) (fun iv _ => 13 - (intOf iv).toNat)
      case atStart => exact ⟨0, 0, by omega, rfl, fun m hm => absurd hm (by omega), BZ, HB⟩
      case round =>
        clear BZ HB
        obtain ⟨j, M, hj, rfl, hM, BZ, HB⟩ := hrel
        have hx := HX.out
        have HM := Lib.hid hM
        clear hM
        by_cases hj12 : j < 12
        · have j1 : (j : Int) + 1 ≤ 12 := by omega
          have j2 : (j : Int) ≤ 11 := by omega
          have e1 : IntKind.i64.wrap (3 * ((j : Int) + 1)) = 3 * (j : Int) + 3 := by rw [IntWalk.i64_in _ (by omega)]; omega
          have e2 : IntKind.i64.wrap (3 * (j : Int) + 3 - 3) = 3 * (j : Int) := by rw [IntWalk.i64_in _ (by omega)]; omega
          have e3 : IntKind.i64.wrap (3 * (j : Int)) = 3 * (j : Int) := IntWalk.i64_in _ (by omega)
          have e4 : IntKind.i64.wrap ((j : Int) + 1 + 1) = (j : Int) + 1 + 1 := IntWalk.i64_in _ (by omega)
          have sm := slice_month j hj12
          obtain ⟨mn, hmn⟩ : ∃ mn, monthNames.getD j [] = mn := ⟨_, rfl⟩
          rw [hmn] at sm
          have HMN := Lib.hid hmn
          clear hmn
          by_cases hq : x.data.toList = mn
          · have q1 : (mn == x.toList) = true := by rw [bytes_toList]; simp [hq]
            have HQ := Lib.hid hq
            clear hq
            go_wp2_with fail
            go_region
            have BZ' := blk_drew BZ
            have z1 := blk_cell BZ' 1
            simp at z1
            have fz := blk_frozen BZ'
            go_wp2_with fail
            refine ⟨⟨j + 1, (j : Int) + 1, by omega, by simp, fun m hm he => ?_, blk_put (cs := #[.int .i64 Y, .int .i64 M, .int .i64 D, .int .i64 H, .int .i64 I, .int .i64 T]) BZ' 1 (.int .i64 ((j : Int) + 1)) rfl, (HB.drew).setCell (p := ⟨bd, 1, none⟩) hbd _⟩, by simp [intOf]; omega⟩
            have hd := months_distinct ⟨m, by omega⟩ ⟨j, hj12⟩ (by show monthNames.getD m [] = monthNames.getD j []; rw [← he, HQ.out, HMN.out])
            have := congrArg Fin.val hd
            simp at this
            omega
          · have q1 : (mn == x.toList) = false := by rw [bytes_toList]; simp; exact fun e => hq e.symm
            have HQ := Lib.hid hq
            clear hq
            go_wp2_with fail
            go_region
            go_wp2_with fail
            refine ⟨⟨j + 1, M, by omega, by simp, fun m hm he => ?_, blk_drew BZ, HB.drew⟩, by simp [intOf]; omega⟩
            by_cases hmj : m < j
            · exact HM.out m hmj he
            · obtain rfl : m = j := by omega
              exact absurd (he.trans HMN.out) HQ.out
        · obtain rfl : j = 12 := by omega
          have z0 := blk_cell BZ 0
          have z1 := blk_cell BZ 1
          have z2 := blk_cell BZ 2
          have z3 := blk_cell BZ 3
          have z4 := blk_cell BZ 4
          have z5 := blk_cell BZ 5
          simp at z0 z1 z2 z3 z4 z5
          have hF : ∀ n, IsText n s.data.toList → Cal.Valid Y M D H I T ∧ Cal.num Y M D H I T = n := by
            intro n hT
            obtain ⟨y, m, d, h, mi, t, v, hn, hm, g1, g2, g3, g4, g5, g6⟩ := fields_of hT
            rw [hx] at g6
            have gM := HM.out m hm g6
            rw [← QY.out, ← QD.out, ← QH.out, ← QI.out, ← QT.out, g1, g2, g3, g4, g5, gM]
            exact ⟨by simpa using v, by simpa using hn⟩
          have HF := Lib.hid hF
          clear hF hx
          by_cases hv : Cal.Valid Y M D H I T
          · go_wp2_with fail
            refine (rnumber_valid _ _ _ _ _ _ _ hv).mono ?_
            rintro e w1 ⟨rfl, hb1⟩
            have HB3 := HB.trans (hb1.mono HB.size)
            have nb := Cal.num_bd hv
            have HVV := Lib.hid hv
            clear hv hb1 z0 z1 z2 z3 z4 z5 BZ
            go_wp2_with fail
            refine (rformat_yes _ w1 nb.1 nb.2).mono ?_
            rintro e w2 ⟨t, rfl, hT, hb2⟩
            have HB4 := HB3.trans (hb2.mono HB3.size)
            have HT := Lib.hid hT
            clear hT hb2 HB3 nb
            by_cases ht : t = s.data.toList
            · have HTE := Lib.hid ht
              have c1 : (!t == s.toList) = false := by rw [bytes_toList]; simp [ht]
              have c2 : (t == s.toList) = true := by rw [bytes_toList]; simp [ht]
              clear ht
              go_wp2_with fail
              go_ret2
              exact ⟨.inl ⟨_, rfl, by rw [← HTE.out]; exact HT.out⟩, HB4⟩
            · have c1 : (!t == s.toList) = true := by rw [bytes_toList]; simp [ht]
              have c2 : (t == s.toList) = false := by rw [bytes_toList]; simp [ht]
              have HTE := Lib.hid ht
              clear ht
              go_wp2_with fail
              go_ret2
              refine ⟨.inr ⟨rfl, fun n hn => HTE.out ?_⟩, HB4⟩
              exact text_one HT.out hn (HF.out n hn).2
          · have HV := Lib.hid hv
            clear hv
            go_wp2_with fail
            refine (rnumber_no _ _ _ _ _ _ _ HV.out).mono ?_
            rintro e w1 ⟨rfl, hb1⟩
            have HB3 := HB.trans (hb1.mono HB.size)
            clear hb1 z0 z1 z2 z3 z4 z5 BZ
            go_wp2_with fail
            go_ret2
            exact ⟨.inr ⟨rfl, fun n hn => HV.out (HF.out n hn).1⟩, HB3⟩
  · have hno : ∀ n, ¬ IsText n s.data.toList := fun n h => hz (by simpa using isText_length h)
    have hz2 : (((s.size : Int)) != 29) = true := by simp; omega
    clear hz
    go_enter Tryd.func21, Tryd.ntmps21
    go_wp2_with fail
    go_ret2
    exact ⟨.inr ⟨rfl, hno⟩, Below.refl _ _⟩
end Go.Proofs.YtdppkhimnhfjoaaDoor
