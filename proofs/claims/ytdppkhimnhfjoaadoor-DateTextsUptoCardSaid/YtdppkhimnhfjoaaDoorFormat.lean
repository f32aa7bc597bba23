/- date.Format, walked: of a number of a date, its text. -/
import Derived.Test.YtdppkhimnhfjoaaDoorOf
import Derived.Test.YtdppkhimnhfjoaaDoorPad
import Derived.Test.YtdppkhimnhfjoaaDoorRegion
import Derived.Test.YtdppkhimnhfjoaaDoorRefDays
namespace Go.Proofs.YtdppkhimnhfjoaaDoor
open Go.RowKit Go.Proofs.YtdppkhimnhfjoaaDoorW.PrintWords Go.Proofs.YtdppkhimnhfjoaaDoorW.PrintLast
theorem pad2_calls (n : Nat) (w : World) (hE : Env w) (h : n < 100) :
    Calls Tryd.prog 29 #[.int .i64 n, .int .i64 2] w fun e w' => e = .returned (.string ⟨(Text.digs n 2).toArray⟩) ∧ Below w.heap.size w w' := pad_calls n 2 w hE (by omega) (by omega) (by omega) (by omega)
theorem pad4_calls (n : Nat) (w : World) (hE : Env w) (h : n < 10000) :
    Calls Tryd.prog 29 #[.int .i64 n, .int .i64 4] w fun e w' => e = .returned (.string ⟨(Text.digs n 4).toArray⟩) ∧ Below w.heap.size w w' := pad_calls n 4 w hE (by omega) (by omega) (by omega) (by omega)
theorem cells_strings {W : World} {bk : Nat} {xs : List ByteArray} {t : TypeId} (h : W.heap[bk]? = some (.cells (xs.map Value.string).toArray t (0, 0))) :
    ∀ (j : Nat) (x : ByteArray), xs[j]? = some x → W.cell? ⟨bk, 0 + j, none⟩ = some (.string x) := by
  intro j x hj
  rw [Nat.zero_add, blk_cell h j]
  simp [hj]
/-- The text of a date with its day of the week. -/
def textOf (y m d h mi s wd : Nat) : List UInt8 :=
  (dayNames.getD wd [] ++ [44]) ++ ([32] ++ (Text.digs d 2 ++ ([32] ++ (monthNames.getD (m - 1) [] ++ ([32] ++ (Text.digs y 4 ++ ([32] ++ ((Text.digs h 2 ++ ([58] ++ (Text.digs mi 2 ++ ([58] ++ Text.digs s 2)))) ++ ([32] ++ [71, 77, 84])))))))))
/-- t is the text of the date with the number n. -/
def IsText (n : Int) (t : List UInt8) : Prop :=
  ∃ y m d h mi s : Nat, Cal.Valid y m d h mi s ∧ Cal.num y m d h mi s = n ∧ t = textOf y m d h mi s (wday n).toNat
theorem wday_bd (n : Int) : 0 ≤ wday n ∧ wday n < 7 := by unfold wday; split <;> omega
theorem days_get (k : Nat) (h : k < 7) : dayCells[k]? = some (.string ⟨(dayNames.getD k []).toArray⟩) := by
  have hm : k = 0 ∨ k = 1 ∨ k = 2 ∨ k = 3 ∨ k = 4 ∨ k = 5 ∨ k = 6 := by omega
  rcases hm with rfl | rfl | rfl | rfl | rfl | rfl | rfl <;> rfl
theorem months_getS (k : Nat) (h : k < 12) : monthCellsS[k]? = some (.string ⟨(monthNames.getD k []).toArray⟩) := by
  have hm : k = 0 ∨ k = 1 ∨ k = 2 ∨ k = 3 ∨ k = 4 ∨ k = 5 ∨ k = 6 ∨ k = 7 ∨ k = 8 ∨ k = 9 ∨ k = 10 ∨ k = 11 := by omega
  rcases hm with rfl | rfl | rfl | rfl | rfl | rfl | rfl | rfl | rfl | rfl | rfl | rfl <;> rfl
theorem dayName_len (k : Nat) : (dayNames.getD k []).length ≤ 3 := by
  rcases Nat.lt_or_ge k 7 with h | h
  · have hm : k = 0 ∨ k = 1 ∨ k = 2 ∨ k = 3 ∨ k = 4 ∨ k = 5 ∨ k = 6 := by omega
    rcases hm with rfl | rfl | rfl | rfl | rfl | rfl | rfl <;> decide
  · rw [List.getD_eq_getElem?_getD, List.getElem?_eq_none (by simpa [dayNames] using h)]; simp
theorem monthName_len (k : Nat) : (monthNames.getD k []).length ≤ 3 := by
  rcases Nat.lt_or_ge k 12 with h | h
  · have hm : k = 0 ∨ k = 1 ∨ k = 2 ∨ k = 3 ∨ k = 4 ∨ k = 5 ∨ k = 6 ∨ k = 7 ∨ k = 8 ∨ k = 9 ∨ k = 10 ∨ k = 11 := by omega
    rcases hm with rfl | rfl | rfl | rfl | rfl | rfl | rfl | rfl | rfl | rfl | rfl | rfl <;> decide
  · rw [List.getD_eq_getElem?_getD, List.getElem?_eq_none (by simpa [monthNames] using h)]; simp
set_option maxHeartbeats 1000000 in
set_option maxRecDepth 100000 in
theorem format_no (n : Int) (w : World) (hn : ¬ (-62167219200 ≤ n ∧ n ≤ 253402300799)) :
    Calls Tryd.prog 18 #[.int .i64 n] w fun e w' => e = .returned (.tuple #[.string ⟨#[]⟩, .int .i64 1]) ∧ Below w.heap.size w w' := by
  have HN := Lib.hid hn
  clear hn
  go_enter Tryd.func18, Tryd.ntmps18
  go_wp2_with fail
  refine (of_no _ _ HN.out).mono ?_
  rintro e w1 ⟨rfl, hb⟩
  go_wp2_with fail
  go_ret2
  exact ⟨rfl, hb.alloc hb.size _⟩
def FormatPost (n : Int) (w : World) (e : Ending) (w' : World) : Prop :=
  ∃ t : List UInt8, e = .returned (.tuple #[.string ⟨t.toArray⟩, .int .i64 0]) ∧ IsText n t ∧ Below w.heap.size w w'
set_option maxHeartbeats 4000000 in
set_option maxRecDepth 100000 in
theorem format_yes (n : Int) (w : World) (hE : Env w) (g0 : -62167219200 ≤ n) (g1 : n ≤ 253402300799) :
    Calls Tryd.prog 18 #[.int .i64 n] w (FormatPost n w) := by
  have HE := Lib.hid hE
  clear hE
  obtain ⟨wd0, wd1⟩ := wday_bd n
  go_enter Tryd.func18, Tryd.ntmps18
  go_wp2_with fail
  refine (of_yes _ _ g0 g1).mono ?_
  rintro e w1 ⟨y, m, d, h, mi, s, rfl, V, hn, hb⟩
  obtain ⟨y, rfl⟩ := Int.eq_ofNat_of_zero_le V.y0
  obtain ⟨m, rfl⟩ := Int.eq_ofNat_of_zero_le (by have := V.m0; omega : (0 : Int) ≤ m)
  obtain ⟨d, rfl⟩ := Int.eq_ofNat_of_zero_le (by have := V.d0; omega : (0 : Int) ≤ d)
  obtain ⟨h, rfl⟩ := Int.eq_ofNat_of_zero_le V.h0
  obtain ⟨mi, rfl⟩ := Int.eq_ofNat_of_zero_le V.i0
  obtain ⟨s, rfl⟩ := Int.eq_ofNat_of_zero_le V.s0
  have HV := Lib.hid V
  have HNum := Lib.hid hn
  have dm := Cal.dim_bd y m
  have y1 : y < 10000 := by have := V.y1; omega
  have m0 : 1 ≤ m := by have := V.m0; omega
  have m1 : m ≤ 12 := by have := V.m1; omega
  have d1 : d < 100 := by have := V.d1; omega
  have h1 : h < 100 := by have := V.h1; omega
  have i1 : mi < 100 := by have := V.i1; omega
  have s1 : s < 100 := by have := V.s1; omega
  clear V hn dm
  go_wp2_with fail
  have BK := blk_drew (blk_new w1 (.cells #[.int .i64 (y : Int), .int .i64 (m : Int), .int .i64 (d : Int), .int .i64 (h : Int), .int .i64 (mi : Int), .int .i64 (s : Int)] 27))
  have HB : Below w.heap.size w (w1.alloc (.cells #[.int .i64 (y : Int), .int .i64 (m : Int), .int .i64 (d : Int), .int .i64 (h : Int), .int .i64 (mi : Int), .int .i64 (s : Int)] 27)).drew := (hb.alloc hb.size _).drew
  generalize w1.heap.size = b at BK ⊢
  clear hb
  refine start_ (n := 12) (S := fun w' => w'.cell? ⟨b, 3, none⟩ = some (.int .i64 (h : Int)) ∧ w'.cell? ⟨b, 4, none⟩ = some (.int .i64 (mi : Int)) ∧ w'.cell? ⟨b, 5, none⟩ = some (.int .i64 (s : Int))) (ds := []) #[false, false, false, false, false, false, false, false, false, false, false, false] (by kernel_rfl) rfl rfl ⟨(blk_cell BK 3).trans rfl, (blk_cell BK 4).trans rfl, (blk_cell BK 5).trans rfl⟩ (fun hHeld => ?_)
  generalize World.drew _ = W at BK HB hHeld ⊢
  refine pure_ (i := 0) (N := some 15) (v := ?_) (a' := ?_) #[true, false, false, false, false, false, false, false, false, false, false, false] rfl rfl (by kernel_rfl) (fun _ _ _ h => h) (Or.inl ⟨by rfl, ?_⟩) ?_ ?_
  rotate_left
  · intro w'
    go_simp
    with_reducible rfl
  rotate_left
  · simp only [Act.put, List.setIfInBounds_toArray, List.set_cons_zero, List.set_cons_succ]
    rfl
  refine take_ (i := 1) (N := some 16) (v := ?_) (a' := ?_) #[true, true, false, false, false, false, false, false, false, false, false, false] rfl rfl (by kernel_rfl) (fun _ _ _ h => h) (Or.inl ⟨by rfl, ?_⟩) hHeld ?_ ?_
  rotate_left
  · rintro w' ⟨s0, s1, s2⟩
    go_simp
    with_reducible rfl
  rotate_left
  · simp only [Act.put, List.setIfInBounds_toArray, List.set_cons_zero, List.set_cons_succ]
    rfl
  refine pure_ (i := 3) (N := some 18) (v := ?_) (a' := ?_) #[true, true, false, true, false, false, false, false, false, false, false, false] rfl rfl (by kernel_rfl) (fun _ _ _ h => h) (Or.inl ⟨by rfl, ?_⟩) ?_ ?_
  rotate_left
  · intro w'
    go_simp
    with_reducible rfl
  rotate_left
  · simp only [Act.put, List.setIfInBounds_toArray, List.set_cons_zero, List.set_cons_succ]
    rfl
  refine take_ (i := 4) (N := some 19) (v := ?_) (a' := ?_) #[true, true, false, true, true, false, false, false, false, false, false, false] rfl rfl (by kernel_rfl) (fun _ _ _ h => h) (Or.inl ⟨by rfl, ?_⟩) hHeld ?_ ?_
  rotate_left
  · rintro w' ⟨s0, s1, s2⟩
    go_simp
    with_reducible rfl
  rotate_left
  · simp only [Act.put, List.setIfInBounds_toArray, List.set_cons_zero, List.set_cons_succ]
    rfl
  refine pure_ (i := 6) (N := some 21) (v := ?_) (a' := ?_) #[true, true, false, true, true, false, true, false, false, false, false, false] rfl rfl (by kernel_rfl) (fun _ _ _ h => h) (Or.inl ⟨by rfl, ?_⟩) ?_ ?_
  rotate_left
  · intro w'
    go_simp
    with_reducible rfl
  rotate_left
  · simp only [Act.put, List.setIfInBounds_toArray, List.set_cons_zero, List.set_cons_succ]
    rfl
  refine take_ (i := 7) (N := some 22) (v := ?_) (a' := ?_) #[true, true, false, true, true, false, true, true, false, false, false, false] rfl rfl (by kernel_rfl) (fun _ _ _ h => h) (Or.inl ⟨by rfl, ?_⟩) hHeld ?_ ?_
  rotate_left
  · rintro w' ⟨s0, s1, s2⟩
    go_simp
    with_reducible rfl
  rotate_left
  · simp only [Act.put, List.setIfInBounds_toArray, List.set_cons_zero, List.set_cons_succ]
    rfl
  refine one_ (i := 2) (N := some 17) #[true, true, true, true, true, false, true, true, false, false, false, false] rfl rfl (by kernel_rfl) (by decide) (fun K hK => ?_)
  refine goes_ Tryd.func29 (by kernel_rfl) rfl #[.int .i64 (h : Int), .int .i64 2] (by rfl) rfl rfl (by (try simp only [List.map_toArray, List.map_cons, List.map_nil]); first | done | rfl) ?_
  refine (pad2_calls h _ (HE.out.stays HB) h1).mono ?_
  rintro e w' ⟨rfl, hb⟩
  replace BK := blk_below BK hb
  replace HB := HB.trans (hb.mono HB.size)
  clear hb
  refine ⟨_, rfl, ?_⟩
  refine hK.out _ _ ⟨(blk_cell BK 3).trans rfl, (blk_cell BK 4).trans rfl, (blk_cell BK 5).trans rfl⟩ (fun hHeld => ?_)
  clear hK K
  refine norm_ (a' := ?_) ?_ ?_
  rotate_left
  · show Act.put _ (some 17) _ = _
    simp only [Act.put, List.setIfInBounds_toArray, List.set_cons_zero, List.set_cons_succ]
    rfl
  refine one_ (i := 5) (N := some 20) #[true, true, true, true, true, true, true, true, false, false, false, false] rfl rfl (by kernel_rfl) (by decide) (fun K hK => ?_)
  refine goes_ Tryd.func29 (by kernel_rfl) rfl #[.int .i64 (mi : Int), .int .i64 2] (by rfl) rfl rfl (by (try simp only [List.map_toArray, List.map_cons, List.map_nil]); first | done | rfl) ?_
  refine (pad2_calls mi _ (HE.out.stays HB) i1).mono ?_
  rintro e w' ⟨rfl, hb⟩
  replace BK := blk_below BK hb
  replace HB := HB.trans (hb.mono HB.size)
  clear hb
  refine ⟨_, rfl, ?_⟩
  refine hK.out _ _ ⟨(blk_cell BK 3).trans rfl, (blk_cell BK 4).trans rfl, (blk_cell BK 5).trans rfl⟩ (fun hHeld => ?_)
  clear hK K
  refine norm_ (a' := ?_) ?_ ?_
  rotate_left
  · show Act.put _ (some 20) _ = _
    simp only [Act.put, List.setIfInBounds_toArray, List.set_cons_zero, List.set_cons_succ]
    rfl
  refine one_ (i := 8) (N := some 23) #[true, true, true, true, true, true, true, true, true, false, false, false] rfl rfl (by kernel_rfl) (by decide) (fun K hK => ?_)
  refine goes_ Tryd.func29 (by kernel_rfl) rfl #[.int .i64 (s : Int), .int .i64 2] (by rfl) rfl rfl (by (try simp only [List.map_toArray, List.map_cons, List.map_nil]); first | done | rfl) ?_
  refine (pad2_calls s _ (HE.out.stays HB) s1).mono ?_
  rintro e w' ⟨rfl, hb⟩
  replace BK := blk_below BK hb
  replace HB := HB.trans (hb.mono HB.size)
  clear hb
  refine ⟨_, rfl, ?_⟩
  refine hK.out _ _ ⟨(blk_cell BK 3).trans rfl, (blk_cell BK 4).trans rfl, (blk_cell BK 5).trans rfl⟩ (fun hHeld => ?_)
  clear hK K
  refine norm_ (a' := ?_) ?_ ?_
  rotate_left
  · show Act.put _ (some 23) _ = _
    simp only [Act.put, List.setIfInBounds_toArray, List.set_cons_zero, List.set_cons_succ]
    rfl
  refine one_ (i := 9) (N := some 24) #[true, true, true, true, true, true, true, true, true, true, false, false] rfl rfl (by kernel_rfl) (by decide) (fun K hK => ?_)
  refine value_ (v := .slice (some ⟨w'.heap.size, 0, none⟩) 3 3) (w1 := w'.alloc (.cells #[.string ⟨(Text.digs h 2).toArray⟩, .string ⟨(Text.digs mi 2).toArray⟩, .string ⟨(Text.digs s 2).toArray⟩] 9)) (by rfl) rfl (by go_simp) ?_
  have BS := blk_new w' (.cells #[.string ⟨(Text.digs h 2).toArray⟩, .string ⟨(Text.digs mi 2).toArray⟩, .string ⟨(Text.digs s 2).toArray⟩] 9)
  replace BK := blk_alloc BK (.cells #[.string ⟨(Text.digs h 2).toArray⟩, .string ⟨(Text.digs mi 2).toArray⟩, .string ⟨(Text.digs s 2).toArray⟩] 9)
  replace HB := HB.alloc HB.size (.cells #[.string ⟨(Text.digs h 2).toArray⟩, .string ⟨(Text.digs mi 2).toArray⟩, .string ⟨(Text.digs s 2).toArray⟩] 9)
  obtain ⟨bs, hbs⟩ : ∃ bs : Nat, w'.heap.size = bs := ⟨_, rfl⟩
  rw [hbs] at BS ⊢
  clear hbs
  generalize w'.alloc _ = w' at BK BS HB ⊢
  refine hK.out _ _ ⟨(blk_cell BK 3).trans rfl, (blk_cell BK 4).trans rfl, (blk_cell BK 5).trans rfl⟩ (fun hHeld => ?_)
  clear hK K
  refine norm_ (a' := ?_) ?_ ?_
  rotate_left
  · show Act.put _ (some 24) _ = _
    simp only [Act.put, List.setIfInBounds_toArray, List.set_cons_zero, List.set_cons_succ]
    rfl
  refine one_ (i := 10) (N := some 25) #[true, true, true, true, true, true, true, true, true, true, true, false] rfl rfl (by kernel_rfl) (by decide) (fun K hK => ?_)
  refine goes_ Tryd.func28 (by kernel_rfl) rfl #[.slice (some ⟨bs, 0, none⟩) 3 3, .string ⟨#[58]⟩] (by rfl) rfl rfl (by (try simp only [List.map_toArray, List.map_cons, List.map_nil]); first | done | rfl) ?_
  refine (Tryd.strings_Join bs 0 3 [⟨(Text.digs h 2).toArray⟩, ⟨(Text.digs mi 2).toArray⟩, ⟨(Text.digs s 2).toArray⟩] ⟨#[58]⟩ w' (cells_strings BS) (blk_lt BS) (by simp) (by simp) (by simp [Lib.join, List.intercalate, Text.digs_length])).mono ?_
  rintro e w' ⟨rfl, hb⟩
  replace BK := blk_below BK hb
  replace HB := HB.trans (hb.mono HB.size)
  clear hb
  refine ⟨_, rfl, ?_⟩
  refine hK.out _ _ ⟨(blk_cell BK 3).trans rfl, (blk_cell BK 4).trans rfl, (blk_cell BK 5).trans rfl⟩ (fun hHeld => ?_)
  clear hK K
  refine norm_ (a' := ?_) ?_ ?_
  rotate_left
  · show Act.put _ (some 25) _ = _
    simp only [Act.put, List.setIfInBounds_toArray, List.set_cons_zero, List.set_cons_succ]
    rfl
  refine pure_ (i := 11) (N := some 6) (v := ?_) (a' := ?_) #[true, true, true, true, true, true, true, true, true, true, true, true] rfl rfl (by kernel_rfl) (fun _ _ _ h => h) (Or.inl ⟨by rfl, ?_⟩) ?_ ?_
  rotate_left
  · intro w'
    go_simp
    with_reducible rfl
  rotate_left
  · simp only [Act.put, List.setIfInBounds_toArray, List.set_cons_zero, List.set_cons_succ]
    rfl
  refine done_ (by kernel_rfl) ?_
  have hck : Lib.join [Text.digs h 2, Text.digs mi 2, Text.digs s 2] [58] = Text.digs h 2 ++ ([58] ++ (Text.digs mi 2 ++ ([58] ++ Text.digs s 2))) := by simp [Lib.join, List.intercalate]
  obtain ⟨ck, hk⟩ : ∃ ck, Lib.join [Text.digs h 2, Text.digs mi 2, Text.digs s 2] [58] = ck := ⟨_, rfl⟩
  rw [hk] at hck ⊢
  have ckl : ck.length = 8 := by rw [hck]; simp [Text.digs_length]
  have HCK := Lib.hid hck
  have HK2 := Lib.hid hk
  clear hck hk hHeld
  go_wp2_with fail
  replace BK := blk_drew BK
  replace HB := HB.drew
  have mw : IntKind.i64.wrap ((m : Int) - 1) = (m : Int) - 1 := IntWalk.i64_in _ (by omega)
  obtain ⟨wd, hwd⟩ : ∃ wd : Nat, wday n = wd := ⟨(wday n).toNat, by omega⟩
  have wd7 : wd < 7 := by omega
  have HWD := Lib.hid hwd
  clear hwd wd0 wd1
  have hdg := days_get wd wd7
  have hmg := months_getS (m - 1) (by omega)
  have dnl := dayName_len wd
  have mnl := monthName_len (m - 1)
  obtain ⟨dn, hdn⟩ : ∃ dn, dayNames.getD wd [] = dn := ⟨_, rfl⟩
  obtain ⟨mn, hmn⟩ : ∃ mn, monthNames.getD (m - 1) [] = mn := ⟨_, rfl⟩
  rw [hdn] at hdg dnl
  rw [hmn] at hmg mnl
  have HDG := Lib.hid hdg
  have HMG := Lib.hid hmg
  have HDN := Lib.hid hdn
  have HMN := Lib.hid hmn
  clear hdg hmg hdn hmn
  have q1 : (0 : Int) ≤ (m : Int) - 1 := by omega
  have q6 : (1 : Int) ≤ (m : Int) := by omega
  have q7 : ¬ 9223372036854775807 < dn.length + 1 := by omega
  have q2 : (m : Int) - 1 < 12 := by omega
  have q3 : (wd : Int) < 7 := by omega
  have q4 : (0 : Int) ≤ (wd : Int) := by omega
  have q5 : ((m : Int) - 1).toNat = m - 1 := by omega
  refine start_ (n := 23) (S := fun w' => w'.cell? ⟨b, 0, none⟩ = some (.int .i64 (y : Int)) ∧ w'.cell? ⟨b, 1, none⟩ = some (.int .i64 (m : Int)) ∧ w'.cell? ⟨b, 2, none⟩ = some (.int .i64 (d : Int))) (ds := []) #[false, false, false, false, false, false, false, false, false, false, false, false, false, false, false, false, false, false, false, false, false, false, false] (by kernel_rfl) rfl rfl ⟨(blk_cell BK 0).trans rfl, (blk_cell BK 1).trans rfl, (blk_cell BK 2).trans rfl⟩ (fun hHeld => ?_)
  generalize World.drew _ = W at BK HB hHeld ⊢
  refine pure_ (i := 1) (N := some 27) (v := ?_) (a' := ?_) #[false, true, false, false, false, false, false, false, false, false, false, false, false, false, false, false, false, false, false, false, false, false, false] rfl rfl (by kernel_rfl) (fun _ _ _ h => h) (Or.inl ⟨by rfl, ?_⟩) ?_ ?_
  rotate_left
  · intro w'
    go_simp
    with_reducible rfl
  rotate_left
  · simp only [Act.put, List.setIfInBounds_toArray, List.set_cons_zero, List.set_cons_succ]
    rfl
  refine pure_ (i := 6) (N := some 32) (v := ?_) (a' := ?_) #[false, true, false, false, false, false, true, false, false, false, false, false, false, false, false, false, false, false, false, false, false, false, false] rfl rfl (by kernel_rfl) (fun _ _ _ h => h) (Or.inl ⟨by rfl, ?_⟩) ?_ ?_
  rotate_left
  · intro w'
    go_simp
    with_reducible rfl
  rotate_left
  · simp only [Act.put, List.setIfInBounds_toArray, List.set_cons_zero, List.set_cons_succ]
    rfl
  refine take_ (i := 7) (N := some 33) (v := ?_) (a' := ?_) #[false, true, false, false, false, false, true, true, false, false, false, false, false, false, false, false, false, false, false, false, false, false, false] rfl rfl (by kernel_rfl) (fun _ _ _ h => h) (Or.inl ⟨by rfl, ?_⟩) hHeld ?_ ?_
  rotate_left
  · rintro w' ⟨s0, s1, s2⟩
    go_simp
    with_reducible rfl
  rotate_left
  · simp only [Act.put, List.setIfInBounds_toArray, List.set_cons_zero, List.set_cons_succ]
    rfl
  refine pure_ (i := 10) (N := some 36) (v := ?_) (a' := ?_) #[false, true, false, false, false, false, true, true, false, false, true, false, false, false, false, false, false, false, false, false, false, false, false] rfl rfl (by kernel_rfl) (fun _ _ _ h => h) (Or.inl ⟨by rfl, ?_⟩) ?_ ?_
  rotate_left
  · intro w'
    go_simp
    with_reducible rfl
  rotate_left
  · simp only [Act.put, List.setIfInBounds_toArray, List.set_cons_zero, List.set_cons_succ]
    rfl
  refine take_ (i := 11) (N := some 37) (v := ?_) (a' := ?_) #[false, true, false, false, false, false, true, true, false, false, true, true, false, false, false, false, false, false, false, false, false, false, false] rfl rfl (by kernel_rfl) (fun _ _ _ h => h) (Or.inl ⟨by rfl, ?_⟩) hHeld ?_ ?_
  rotate_left
  · rintro w' ⟨s0, s1, s2⟩
    go_simp
    with_reducible rfl
  rotate_left
  · simp only [Act.put, List.setIfInBounds_toArray, List.set_cons_zero, List.set_cons_succ]
    rfl
  refine pure_ (i := 12) (N := some 38) (v := ?_) (a' := ?_) #[false, true, false, false, false, false, true, true, false, false, true, true, true, false, false, false, false, false, false, false, false, false, false] rfl rfl (by kernel_rfl) (fun _ _ _ h => h) (Or.inl ⟨by rfl, ?_⟩) ?_ ?_
  rotate_left
  · intro w'
    go_simp
    with_reducible rfl
  rotate_left
  · simp only [Act.put, List.setIfInBounds_toArray, List.set_cons_zero, List.set_cons_succ]
    rfl
  refine pure_ (i := 15) (N := some 41) (v := ?_) (a' := ?_) #[false, true, false, false, false, false, true, true, false, false, true, true, true, false, false, true, false, false, false, false, false, false, false] rfl rfl (by kernel_rfl) (fun _ _ _ h => h) (Or.inl ⟨by rfl, ?_⟩) ?_ ?_
  rotate_left
  · intro w'
    go_simp
    with_reducible rfl
  rotate_left
  · simp only [Act.put, List.setIfInBounds_toArray, List.set_cons_zero, List.set_cons_succ]
    rfl
  refine take_ (i := 16) (N := some 42) (v := ?_) (a' := ?_) #[false, true, false, false, false, false, true, true, false, false, true, true, true, false, false, true, true, false, false, false, false, false, false] rfl rfl (by kernel_rfl) (fun _ _ _ h => h) (Or.inl ⟨by rfl, ?_⟩) hHeld ?_ ?_
  rotate_left
  · rintro w' ⟨s0, s1, s2⟩
    go_simp
    with_reducible rfl
  rotate_left
  · simp only [Act.put, List.setIfInBounds_toArray, List.set_cons_zero, List.set_cons_succ]
    rfl
  refine pure_ (i := 18) (N := some 44) (v := ?_) (a' := ?_) #[false, true, false, false, false, false, true, true, false, false, true, true, true, false, false, true, true, false, true, false, false, false, false] rfl rfl (by kernel_rfl) (fun _ _ _ h => h) (Or.inl ⟨by rfl, ?_⟩) ?_ ?_
  rotate_left
  · intro w'
    go_simp
    with_reducible rfl
  rotate_left
  · simp only [Act.put, List.setIfInBounds_toArray, List.set_cons_zero, List.set_cons_succ]
    rfl
  refine one_ (i := 0) (N := some 26) #[true, true, false, false, false, false, true, true, false, false, true, true, true, false, false, true, true, false, true, false, false, false, false] rfl rfl (by kernel_rfl) (by decide) (fun K hK => ?_)
  refine goes_ Tryd.func30 (by kernel_rfl) rfl #[] (by rfl) rfl rfl (by (try simp only [List.map_toArray, List.map_cons, List.map_nil]); first | done | rfl) ?_
  refine (weekdays_calls _ (HE.out.stays HB)).mono ?_
  rintro e w' ⟨rfl, rfl⟩
  have BD := blk_new W (.cells dayCells 9)
  replace BK := blk_alloc BK (.cells dayCells 9)
  replace HB := HB.alloc HB.size (.cells dayCells 9)
  obtain ⟨bd, hbd⟩ : ∃ bd : Nat, W.heap.size = bd := ⟨_, rfl⟩
  rw [hbd] at BD ⊢
  clear hbd
  generalize W.alloc _ = W at BK BD HB ⊢
  refine ⟨_, rfl, ?_⟩
  refine hK.out _ _ ⟨(blk_cell BK 0).trans rfl, (blk_cell BK 1).trans rfl, (blk_cell BK 2).trans rfl⟩ (fun hHeld => ?_)
  clear hK K
  refine norm_ (a' := ?_) ?_ ?_
  rotate_left
  · show Act.put _ (some 26) _ = _
    simp only [Act.put, List.setIfInBounds_toArray, List.set_cons_zero, List.set_cons_succ]
    rfl
  refine stronger_ (S' := fun w' => w'.cell? ⟨b, 0, none⟩ = some (.int .i64 (y : Int)) ∧ w'.cell? ⟨b, 1, none⟩ = some (.int .i64 (m : Int)) ∧ w'.cell? ⟨b, 2, none⟩ = some (.int .i64 (d : Int)) ∧ w'.cell? ⟨bd, wd, none⟩ = some (.string ⟨dn.toArray⟩)) (fun w' hs => ⟨hs.1, hs.2.1, hs.2.2.1⟩) ⟨(blk_cell BK 0).trans rfl, (blk_cell BK 1).trans rfl, (blk_cell BK 2).trans rfl, (blk_cell BD wd).trans HDG.out⟩ (fun hHeld => ?_)
  refine one_ (i := 2) (N := some 28) #[true, true, true, false, false, false, true, true, false, false, true, true, true, false, false, true, true, false, true, false, false, false, false] rfl rfl (by kernel_rfl) (by decide) (fun K hK => ?_)
  refine goes_ Tryd.func15 (by kernel_rfl) rfl #[.int .i64 n] (by rfl) rfl rfl (by (try simp only [List.map_toArray, List.map_cons, List.map_nil]); first | done | rfl) ?_
  refine (weekday_calls n _).mono ?_
  rintro e w' ⟨rfl, rfl⟩
  rw [HWD.out]
  refine ⟨_, rfl, ?_⟩
  refine hK.out _ _ ⟨(blk_cell BK 0).trans rfl, (blk_cell BK 1).trans rfl, (blk_cell BK 2).trans rfl, (blk_cell BD wd).trans HDG.out⟩ (fun hHeld => ?_)
  clear hK K
  refine norm_ (a' := ?_) ?_ ?_
  rotate_left
  · show Act.put _ (some 28) _ = _
    simp only [Act.put, List.setIfInBounds_toArray, List.set_cons_zero, List.set_cons_succ]
    rfl
  refine pure_ (i := 3) (N := some 29) (v := ?_) (a' := ?_) #[true, true, true, true, false, false, true, true, false, false, true, true, true, false, false, true, true, false, true, false, false, false, false] rfl rfl (by kernel_rfl) (fun _ _ _ h => h) (Or.inl ⟨by rfl, ?_⟩) ?_ ?_
  rotate_left
  · intro w'
    go_simp
    with_reducible rfl
  rotate_left
  · simp only [Act.put, List.setIfInBounds_toArray, List.set_cons_zero, List.set_cons_succ]
    rfl
  refine take_ (i := 4) (N := some 30) (v := ?_) (a' := ?_) #[true, true, true, true, true, false, true, true, false, false, true, true, true, false, false, true, true, false, true, false, false, false, false] rfl rfl (by kernel_rfl) (fun _ _ _ h => h) (Or.inl ⟨by rfl, ?_⟩) hHeld ?_ ?_
  rotate_left
  · rintro w' ⟨s0, s1, s2, s3⟩
    go_simp
    with_reducible rfl
  rotate_left
  · simp only [Act.put, List.setIfInBounds_toArray, List.set_cons_zero, List.set_cons_succ]
    rfl
  refine pure_ (i := 5) (N := some 31) (v := ?_) (a' := ?_) #[true, true, true, true, true, true, true, true, false, false, true, true, true, false, false, true, true, false, true, false, false, false, false] rfl rfl (by kernel_rfl) (fun _ _ _ h => h) (Or.inl ⟨by rfl, ?_⟩) ?_ ?_
  rotate_left
  · intro w'
    go_simp
    with_reducible rfl
  rotate_left
  · simp only [Act.put, List.setIfInBounds_toArray, List.set_cons_zero, List.set_cons_succ]
    rfl
  refine one_ (i := 8) (N := some 34) #[true, true, true, true, true, true, true, true, true, false, true, true, true, false, false, true, true, false, true, false, false, false, false] rfl rfl (by kernel_rfl) (by decide) (fun K hK => ?_)
  refine goes_ Tryd.func29 (by kernel_rfl) rfl #[.int .i64 (d : Int), .int .i64 2] (by rfl) rfl rfl (by (try simp only [List.map_toArray, List.map_cons, List.map_nil]); first | done | rfl) ?_
  refine (pad2_calls d _ (HE.out.stays HB) d1).mono ?_
  rintro e w' ⟨rfl, hb⟩
  replace BK := blk_below BK hb
  replace BD := blk_below BD hb
  replace HB := HB.trans (hb.mono HB.size)
  clear hb
  refine ⟨_, rfl, ?_⟩
  refine hK.out _ _ ⟨(blk_cell BK 0).trans rfl, (blk_cell BK 1).trans rfl, (blk_cell BK 2).trans rfl, (blk_cell BD wd).trans HDG.out⟩ (fun hHeld => ?_)
  clear hK K
  refine norm_ (a' := ?_) ?_ ?_
  rotate_left
  · show Act.put _ (some 34) _ = _
    simp only [Act.put, List.setIfInBounds_toArray, List.set_cons_zero, List.set_cons_succ]
    rfl
  refine one_ (i := 9) (N := some 35) #[true, true, true, true, true, true, true, true, true, true, true, true, true, false, false, true, true, false, true, false, false, false, false] rfl rfl (by kernel_rfl) (by decide) (fun K hK => ?_)
  refine goes_ Tryd.func31 (by kernel_rfl) rfl #[] (by rfl) rfl rfl (by (try simp only [List.map_toArray, List.map_cons, List.map_nil]); first | done | rfl) ?_
  refine (months_calls _ (HE.out.stays HB)).mono ?_
  rintro e w' ⟨rfl, rfl⟩
  have BM := blk_new w' (.cells monthCellsS 9)
  replace BK := blk_alloc BK (.cells monthCellsS 9)
  replace BD := blk_alloc BD (.cells monthCellsS 9)
  replace HB := HB.alloc HB.size (.cells monthCellsS 9)
  obtain ⟨bm, hbm⟩ : ∃ bm : Nat, w'.heap.size = bm := ⟨_, rfl⟩
  rw [hbm] at BM ⊢
  clear hbm
  generalize w'.alloc _ = w' at BK BD BM HB ⊢
  refine ⟨_, rfl, ?_⟩
  refine hK.out _ _ ⟨(blk_cell BK 0).trans rfl, (blk_cell BK 1).trans rfl, (blk_cell BK 2).trans rfl, (blk_cell BD wd).trans HDG.out⟩ (fun hHeld => ?_)
  clear hK K
  refine norm_ (a' := ?_) ?_ ?_
  rotate_left
  · show Act.put _ (some 35) _ = _
    simp only [Act.put, List.setIfInBounds_toArray, List.set_cons_zero, List.set_cons_succ]
    rfl
  refine stronger_ (S' := fun w' => w'.cell? ⟨b, 0, none⟩ = some (.int .i64 (y : Int)) ∧ w'.cell? ⟨b, 1, none⟩ = some (.int .i64 (m : Int)) ∧ w'.cell? ⟨b, 2, none⟩ = some (.int .i64 (d : Int)) ∧ w'.cell? ⟨bd, wd, none⟩ = some (.string ⟨dn.toArray⟩) ∧ w'.cell? ⟨bm, m - 1, none⟩ = some (.string ⟨mn.toArray⟩)) (fun w' hs => ⟨hs.1, hs.2.1, hs.2.2.1, hs.2.2.2.1⟩) ⟨(blk_cell BK 0).trans rfl, (blk_cell BK 1).trans rfl, (blk_cell BK 2).trans rfl, (blk_cell BD wd).trans HDG.out, (blk_cell BM (m - 1)).trans HMG.out⟩ (fun hHeld => ?_)
  refine pure_ (i := 13) (N := some 39) (v := ?_) (a' := ?_) #[true, true, true, true, true, true, true, true, true, true, true, true, true, true, false, true, true, false, true, false, false, false, false] rfl rfl (by kernel_rfl) (fun _ _ _ h => h) (Or.inl ⟨by rfl, ?_⟩) ?_ ?_
  rotate_left
  · intro w'
    go_simp
    with_reducible rfl
  rotate_left
  · simp only [Act.put, List.setIfInBounds_toArray, List.set_cons_zero, List.set_cons_succ]
    rfl
  refine take_ (i := 14) (N := some 40) (v := ?_) (a' := ?_) #[true, true, true, true, true, true, true, true, true, true, true, true, true, true, true, true, true, false, true, false, false, false, false] rfl rfl (by kernel_rfl) (fun _ _ _ h => h) (Or.inl ⟨by rfl, ?_⟩) hHeld ?_ ?_
  rotate_left
  · rintro w' ⟨s0, s1, s2, s3, s4⟩
    go_simp
    with_reducible rfl
  rotate_left
  · simp only [Act.put, List.setIfInBounds_toArray, List.set_cons_zero, List.set_cons_succ]
    rfl
  refine one_ (i := 17) (N := some 43) #[true, true, true, true, true, true, true, true, true, true, true, true, true, true, true, true, true, true, true, false, false, false, false] rfl rfl (by kernel_rfl) (by decide) (fun K hK => ?_)
  refine goes_ Tryd.func29 (by kernel_rfl) rfl #[.int .i64 (y : Int), .int .i64 4] (by rfl) rfl rfl (by (try simp only [List.map_toArray, List.map_cons, List.map_nil]); first | done | rfl) ?_
  refine (pad4_calls y _ (HE.out.stays HB) y1).mono ?_
  rintro e w' ⟨rfl, hb⟩
  replace BK := blk_below BK hb
  replace BD := blk_below BD hb
  replace BM := blk_below BM hb
  replace HB := HB.trans (hb.mono HB.size)
  clear hb
  refine ⟨_, rfl, ?_⟩
  refine hK.out _ _ ⟨(blk_cell BK 0).trans rfl, (blk_cell BK 1).trans rfl, (blk_cell BK 2).trans rfl, (blk_cell BD wd).trans HDG.out, (blk_cell BM (m - 1)).trans HMG.out⟩ (fun hHeld => ?_)
  clear hK K
  refine norm_ (a' := ?_) ?_ ?_
  rotate_left
  · show Act.put _ (some 43) _ = _
    simp only [Act.put, List.setIfInBounds_toArray, List.set_cons_zero, List.set_cons_succ]
    rfl
  refine one_ (i := 19) (N := some 45) #[true, true, true, true, true, true, true, true, true, true, true, true, true, true, true, true, true, true, true, true, false, false, false] rfl rfl (by kernel_rfl) (by decide) (fun K hK => ?_)
  refine value_ (v := .slice (some ⟨w'.heap.size, 0, none⟩) 6 6) (w1 := w'.alloc (.cells #[.string ((⟨dn.toArray⟩ : ByteArray) ++ (⟨#[44]⟩ : ByteArray)), .string ⟨(Text.digs d 2).toArray⟩, .string ⟨mn.toArray⟩, .string ⟨(Text.digs y 4).toArray⟩, .string ⟨ck.toArray⟩, .string ⟨#[71, 77, 84]⟩] 9)) (by rfl) rfl (by go_simp) ?_
  have BS := blk_new w' (.cells #[.string ((⟨dn.toArray⟩ : ByteArray) ++ (⟨#[44]⟩ : ByteArray)), .string ⟨(Text.digs d 2).toArray⟩, .string ⟨mn.toArray⟩, .string ⟨(Text.digs y 4).toArray⟩, .string ⟨ck.toArray⟩, .string ⟨#[71, 77, 84]⟩] 9)
  replace BK := blk_alloc BK (.cells #[.string ((⟨dn.toArray⟩ : ByteArray) ++ (⟨#[44]⟩ : ByteArray)), .string ⟨(Text.digs d 2).toArray⟩, .string ⟨mn.toArray⟩, .string ⟨(Text.digs y 4).toArray⟩, .string ⟨ck.toArray⟩, .string ⟨#[71, 77, 84]⟩] 9)
  replace BD := blk_alloc BD (.cells #[.string ((⟨dn.toArray⟩ : ByteArray) ++ (⟨#[44]⟩ : ByteArray)), .string ⟨(Text.digs d 2).toArray⟩, .string ⟨mn.toArray⟩, .string ⟨(Text.digs y 4).toArray⟩, .string ⟨ck.toArray⟩, .string ⟨#[71, 77, 84]⟩] 9)
  replace BM := blk_alloc BM (.cells #[.string ((⟨dn.toArray⟩ : ByteArray) ++ (⟨#[44]⟩ : ByteArray)), .string ⟨(Text.digs d 2).toArray⟩, .string ⟨mn.toArray⟩, .string ⟨(Text.digs y 4).toArray⟩, .string ⟨ck.toArray⟩, .string ⟨#[71, 77, 84]⟩] 9)
  replace HB := HB.alloc HB.size (.cells #[.string ((⟨dn.toArray⟩ : ByteArray) ++ (⟨#[44]⟩ : ByteArray)), .string ⟨(Text.digs d 2).toArray⟩, .string ⟨mn.toArray⟩, .string ⟨(Text.digs y 4).toArray⟩, .string ⟨ck.toArray⟩, .string ⟨#[71, 77, 84]⟩] 9)
  obtain ⟨bs2, hbs⟩ : ∃ bs2 : Nat, w'.heap.size = bs2 := ⟨_, rfl⟩
  rw [hbs] at BS ⊢
  clear hbs
  generalize w'.alloc _ = w' at BK BD BM BS HB ⊢
  refine hK.out _ _ ⟨(blk_cell BK 0).trans rfl, (blk_cell BK 1).trans rfl, (blk_cell BK 2).trans rfl, (blk_cell BD wd).trans HDG.out, (blk_cell BM (m - 1)).trans HMG.out⟩ (fun hHeld => ?_)
  clear hK K
  refine norm_ (a' := ?_) ?_ ?_
  rotate_left
  · show Act.put _ (some 45) _ = _
    simp only [Act.put, List.setIfInBounds_toArray, List.set_cons_zero, List.set_cons_succ]
    rfl
  refine one_ (i := 20) (N := some 46) #[true, true, true, true, true, true, true, true, true, true, true, true, true, true, true, true, true, true, true, true, true, false, false] rfl rfl (by kernel_rfl) (by decide) (fun K hK => ?_)
  refine goes_ Tryd.func28 (by kernel_rfl) rfl #[.slice (some ⟨bs2, 0, none⟩) 6 6, .string ⟨#[32]⟩] (by rfl) rfl rfl (by (try simp only [List.map_toArray, List.map_cons, List.map_nil]); first | done | rfl) ?_
  refine (Tryd.strings_Join bs2 0 6 ([((⟨dn.toArray⟩ : ByteArray) ++ (⟨#[44]⟩ : ByteArray)), ⟨(Text.digs d 2).toArray⟩, ⟨mn.toArray⟩, ⟨(Text.digs y 4).toArray⟩, ⟨ck.toArray⟩, ⟨#[71, 77, 84]⟩] : List ByteArray) ⟨#[32]⟩ w' (cells_strings BS) (blk_lt BS) (by simp) (by simp) (by simp [Lib.join, List.intercalate, Text.digs_length, ckl]; omega)).mono ?_
  rintro e w' ⟨rfl, hb⟩
  replace BK := blk_below BK hb
  replace BD := blk_below BD hb
  replace BM := blk_below BM hb
  replace HB := HB.trans (hb.mono HB.size)
  clear hb
  refine ⟨_, rfl, ?_⟩
  refine hK.out _ _ ⟨(blk_cell BK 0).trans rfl, (blk_cell BK 1).trans rfl, (blk_cell BK 2).trans rfl, (blk_cell BD wd).trans HDG.out, (blk_cell BM (m - 1)).trans HMG.out⟩ (fun hHeld => ?_)
  clear hK K
  refine norm_ (a' := ?_) ?_ ?_
  rotate_left
  · show Act.put _ (some 46) _ = _
    simp only [Act.put, List.setIfInBounds_toArray, List.set_cons_zero, List.set_cons_succ]
    rfl
  refine pure_ (i := 21) (N := some 2) (v := ?_) (a' := ?_) #[true, true, true, true, true, true, true, true, true, true, true, true, true, true, true, true, true, true, true, true, true, true, false] rfl rfl (by kernel_rfl) (fun _ _ _ h => h) (Or.inl ⟨by rfl, ?_⟩) ?_ ?_
  rotate_left
  · intro w'
    go_simp
    with_reducible rfl
  rotate_left
  · simp only [Act.put, List.setIfInBounds_toArray, List.set_cons_zero, List.set_cons_succ]
    rfl
  refine pure_ (i := 22) (N := some 3) (v := ?_) (a' := ?_) #[true, true, true, true, true, true, true, true, true, true, true, true, true, true, true, true, true, true, true, true, true, true, true] rfl rfl (by kernel_rfl) (fun _ _ _ h => h) (Or.inl ⟨by rfl, ?_⟩) ?_ ?_
  rotate_left
  · intro w'
    go_simp
    with_reducible rfl
  rotate_left
  · simp only [Act.put, List.setIfInBounds_toArray, List.set_cons_zero, List.set_cons_succ]
    rfl
  refine done_ (by kernel_rfl) ?_
  go_wp2_with fail
  go_ret2
  refine ⟨_, rfl, ⟨y, m, d, h, mi, s, HV.out, HNum.out, ?_⟩, HB⟩
  have hwd : (wday n).toNat = wd := by have := HWD.out; omega
  rw [hwd]
  unfold textOf
  rw [HDN.out, HMN.out, ← HCK.out]
  simp [Lib.join, List.intercalate]
end Go.Proofs.YtdppkhimnhfjoaaDoor
