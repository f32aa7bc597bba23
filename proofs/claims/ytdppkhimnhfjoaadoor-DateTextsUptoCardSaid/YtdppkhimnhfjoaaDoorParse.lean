/- date.Parse, walked: it answers the number whose text it was given, and refuses what is no text. -/
import Derived.Test.YtdppkhimnhfjoaaDoorTextLaws
import Derived.Deep.RegionLawGrows
import Derived.WalkLawsBesides
import Derived.WideLaws
set_option linter.unusedSimpArgs false
set_option linter.unusedVariables false
namespace Go.Proofs.YtdppkhimnhfjoaaDoor
open Go.RowKit Go.Proofs.YtdppkhimnhfjoaaDoorW.PrintWords Go.Proofs.YtdppkhimnhfjoaaDoorW.PrintLast
def ParsePost (s : ByteArray) (w : World) (e : Ending) (w' : World) : Prop :=
  ((∃ n : Int, e = .returned (.tuple #[.int .i64 n, .int .i64 0]) ∧ IsText n s.data.toList) ∨ (e = .returned (.tuple #[.int .i64 0, .int .i64 15]) ∧ ∀ n, ¬ IsText n s.data.toList)) ∧ Below w.heap.size w w'
theorem number_no (y m d h mi s : Int) (w : World) (v : ¬ Cal.Valid y m d h mi s) :
    Calls Tryd.prog 9 #[.agg #[.int .i64 y, .int .i64 m, .int .i64 d, .int .i64 h, .int .i64 mi, .int .i64 s]] w fun e w' => e = .returned (.tuple #[.int .i64 0, .int .i64 1]) ∧ Below w.heap.size w w' := by
  by_cases hh : headOk y m h mi s
  · refine number_day y m d h mi s w hh (fun hd => v ?_)
    obtain ⟨⟨a1, a2⟩, ⟨b1, b2⟩, ⟨c1, c2⟩, ⟨d1, d2⟩, ⟨e1, e2⟩⟩ := hh
    exact ⟨a1, a2, b1, b2, hd.1, hd.2, c1, c2, d1, d2, e1, e2⟩
  · exact number_head y m d h mi s w hh
theorem data_inj {x y : ByteArray} (h : x.data.toList = y.data.toList) : x = y := by
  apply ByteArray.ext; exact Array.toList_inj.1 h
set_option maxHeartbeats 2000000 in
set_option maxRecDepth 100000 in
theorem parse_form (s : ByteArray) (w : World) (hE : Env w) (hs : s.size < 4294967281) (hf : ¬ (Lib.countB s ⟨#[32]⟩ + 1 = 6 ∧ s.size = 29)) :
    Calls Tryd.prog 20 #[.string s] w (ParsePost s w) := by
  have hno : ∀ n, ¬ IsText n s.data.toList := by
    intro n hT
    obtain ⟨y, m, d, h, mi, t, v, hn, hz, hp⟩ := text_parts hT
    have := pieces_len s 32
    rw [← List.length_map (f := fun x : ByteArray => x.data.toList), pieces_data, hp] at this
    exact hf ⟨this.symm, hz⟩
  have HNO := Lib.hid hno
  obtain ⟨ml, hml⟩ := hE.ml
  have hS := Tryd.strings_Split s ⟨#[32]⟩ ml w hs hml (by decide)
  generalize Lib.splitB ⟨#[32]⟩ 0 (Lib.countB s ⟨#[32]⟩) s = L at hS
  generalize Lib.countB s ⟨#[32]⟩ = c at hS hf
  have HS := Lib.hid hS
  have hf2 : (((c : Int) + 1 != 6) = true) ∨ ((((c : Int) + 1 != 6) = false) ∧ (((s.size : Int) != 29) = true)) := by
    by_cases q : c + 1 = 6
    · right
      have : ¬ s.size = 29 := fun z => hf ⟨q, z⟩
      exact ⟨by simp; omega, by simp; omega⟩
    · left; simp; omega
  clear hS hf hno hml hE
  rcases hf2 with f1 | ⟨f1, f2⟩
  all_goals
    go_enter Tryd.func20, Tryd.ntmps20
    go_wp2_with fail
    refine (HS.out).mono ?_
    rintro e w1 ⟨rfl, rfl⟩
    go_wp2_with fail
    go_ret2
    exact ⟨.inr ⟨rfl, HNO.out⟩, (Below.refl _ _).alloc (Nat.le_refl _) _⟩

theorem addr_add (b j : Nat) : (⟨b, 0, none⟩ : Addr).add j = ⟨b, j, none⟩ := by
  unfold Addr.add
  split
  · next h => subst h; rfl
  · simp
/-- The cells of a row that is owned. -/
theorem row_cells {W : World} {base : Nat} {t : TypeId} {v : Value} {n : Nat} {xs : List Value} (h : W.ownsRow base t 1 v n xs) (hn : 0 < n) :
    ∃ g cap cur, v = .slice (some ⟨g, 0, none⟩) n cap ∧ base ≤ g ∧ W.heap[g]? = some (.cells cur t (0, 0)) ∧ n ≤ cap ∧ ∀ (j : Nat) (u : Value), xs[j]? = some u → cur[j]? = some u := by
  obtain ⟨hl, ⟨_, h0⟩ | ⟨g, cap, cur, rfl, hg, hh, hc, _, hs, ht⟩⟩ := h
  · omega
  · refine ⟨g, cap, cur, rfl, hg, hh, hc, fun j u hj => ?_⟩
    rw [← ht, Nat.mul_one] at hj
    have hjn : j < n := by
      rcases Nat.lt_or_ge j n with q | q
      · exact q
      · rw [List.getElem?_eq_none (by simp; omega)] at hj; cases hj
    rw [List.getElem?_take_of_lt hjn] at hj
    simpa using hj
theorem ownsRow_below {W W' : World} {base : Nat} {t : TypeId} {sz : Nat} {v : Value} {n : Nat} {xs : List Value} (h : W.ownsRow base t sz v n xs) (hb : Below W.heap.size W W') : W'.ownsRow base t sz v n xs := by
  obtain ⟨hl, h0 | ⟨g, cap, cur, rfl, hg, hh, hr⟩⟩ := h
  · exact ⟨hl, .inl h0⟩
  · exact ⟨hl, .inr ⟨g, cap, cur, rfl, hg, blk_below hh hb, hr⟩⟩
theorem six {α : Type} {L : List α} (h : L.length = 6) : ∃ a b c d e f, L = [a, b, c, d, e, f] := by
  match L, h with
  | [a, b, c, d, e, f], _ => exact ⟨a, b, c, d, e, f, rfl⟩
theorem five {α : Type} {L : List α} (h : L.length = 5) : ∃ a b c d e, L = [a, b, c, d, e] := by
  match L, h with
  | [a, b, c, d, e], _ => exact ⟨a, b, c, d, e, rfl⟩
theorem parse_parts {s l0 l1 l2 l3 l4 l5 : ByteArray} {M : List ByteArray} (hp : [l0, l1, l2, l3, l4, l5].map (fun x : ByteArray => x.data.toList) = Lib.split s.data.toList [32])
    (hM : M.map (fun x : ByteArray => x.data.toList) = Lib.split l4.data.toList [58]) {n : Int} (hT : IsText n s.data.toList) :
    ∃ y m d h mi t : Nat, Cal.Valid y m d h mi t ∧ Cal.num y m d h mi t = n ∧ l2.data.toList = monthNames.getD (m - 1) [] ∧
      (l3 :: l1 :: M).map (fun x : ByteArray => x.data.toList) = [Text.digs y 4, Text.digs d 2, Text.digs h 2, Text.digs mi 2, Text.digs t 2] := by
  obtain ⟨y, m, d, h, mi, t, v, hn, _, hq⟩ := text_parts hT
  rw [hq] at hp
  simp only [List.map_cons, List.map_nil, List.cons.injEq, and_true] at hp
  obtain ⟨_, e1, e2, e3, e4, _⟩ := hp
  rw [e4, clock_split] at hM
  exact ⟨y, m, d, h, mi, t, v, hn, e2, by simp only [List.map_cons, e3, e1, hM]⟩
theorem digs_all {y m d h mi t : Nat} (v : Cal.Valid y m d h mi t) : Lib.atoiAll (Text.digs y 4) = .ok y ∧ Lib.atoiAll (Text.digs d 2) = .ok d ∧ Lib.atoiAll (Text.digs h 2) = .ok h ∧ Lib.atoiAll (Text.digs mi 2) = .ok mi ∧ Lib.atoiAll (Text.digs t 2) = .ok t := by
  have dm := Cal.dim_bd y m
  have h1 := v.y1; have h2 := v.d1; have h3 := v.h1; have h4 := v.i1; have h5 := v.s1
  exact ⟨Text.atoi_digs 4 y (by omega) (by omega) (by omega), Text.atoi_digs 2 d (by omega) (by omega) (by omega), Text.atoi_digs 2 h (by omega) (by omega) (by omega), Text.atoi_digs 2 mi (by omega) (by omega) (by omega), Text.atoi_digs 2 t (by omega) (by omega) (by omega)⟩
theorem map_at {R : List ByteArray} {Q : List (List UInt8)} (h : R.map (fun x : ByteArray => x.data.toList) = Q) {k : Nat} {x : ByteArray} (hx : R[k]? = some x) : Q[k]? = some x.data.toList := by rw [← h, List.getElem?_map, hx]; rfl
/-- Each part of a text's numbers is a numeral. -/
theorem parse_ok {y m d h mi t : Nat} (v : Cal.Valid y m d h mi t) {R : List ByteArray} (hR : R.map (fun x : ByteArray => x.data.toList) = [Text.digs y 4, Text.digs d 2, Text.digs h 2, Text.digs mi 2, Text.digs t 2]) {k : Nat} {x : ByteArray} (hx : R[k]? = some x) :
    ∃ u, Lib.atoiAll x.data.toList = .ok u := by
  have hq := map_at hR hx
  obtain ⟨a1, a2, a3, a4, a5⟩ := digs_all v
  have hk : k < 5 := by
    rcases Nat.lt_or_ge k 5 with q | q
    · exact q
    · rw [List.getElem?_eq_none (by simpa using q)] at hq; cases hq
  have hm : k = 0 ∨ k = 1 ∨ k = 2 ∨ k = 3 ∨ k = 4 := by omega
  rcases hm with rfl | rfl | rfl | rfl | rfl <;> simp only [List.getElem?_cons_zero, List.getElem?_cons_succ, Option.some.injEq] at hq <;> rw [← hq] <;> exact ⟨_, by assumption⟩
theorem parse_numbers {y m d h mi t : Nat} (v : Cal.Valid y m d h mi t) {R : List ByteArray} (hR : R.map (fun x : ByteArray => x.data.toList) = [Text.digs y 4, Text.digs d 2, Text.digs h 2, Text.digs mi 2, Text.digs t 2])
    {a b c e f : Int} (hV : ∀ (j : Nat) (x : ByteArray) (v : Int), R[j]? = some x → ([a, b, c, e, f] : List Int)[j]? = some v → Lib.atoiAll x.data.toList = .ok v) :
    a = y ∧ b = d ∧ c = h ∧ e = mi ∧ f = t := by
  obtain ⟨a1, a2, a3, a4, a5⟩ := digs_all v
  obtain ⟨x0, x1, x2, x3, x4, rfl⟩ := five (show R.length = 5 by rw [← List.length_map (f := fun x : ByteArray => x.data.toList), hR]; rfl)
  simp only [List.map_cons, List.map_nil, List.cons.injEq, and_true] at hR
  obtain ⟨e0, e1, e2, e3, e4⟩ := hR
  have q0 := hV 0 x0 a rfl rfl
  have q1 := hV 1 x1 b rfl rfl
  have q2 := hV 2 x2 c rfl rfl
  have q3 := hV 3 x3 e rfl rfl
  have q4 := hV 4 x4 f rfl rfl
  rw [e0, a1] at q0
  rw [e1, a2] at q1
  rw [e2, a3] at q2
  rw [e3, a4] at q3
  rw [e4, a5] at q4
  injection q0 with q0
  injection q1 with q1
  injection q2 with q2
  injection q3 with q3
  injection q4 with q4
  exact ⟨q0.symm, q1.symm, q2.symm, q3.symm, q4.symm⟩
theorem parse_date {s l0 l1 l2 l3 l4 l5 : ByteArray} {M R : List ByteArray} (hp : [l0, l1, l2, l3, l4, l5].map (fun x : ByteArray => x.data.toList) = Lib.split s.data.toList [32])
    (hM : M.map (fun x : ByteArray => x.data.toList) = Lib.split l4.data.toList [58]) (hR : l3 :: l1 :: M = R) {a b c e f ix : Int} (hix : Lib.idxOfS monthBytes l2 = ix)
    (hV : ∀ (j : Nat) (x : ByteArray) (v : Int), R[j]? = some x → ([a, b, c, e, f] : List Int)[j]? = some v → Lib.atoiAll x.data.toList = .ok v) {n : Int} (hT : IsText n s.data.toList) :
    Cal.Valid a (ix + 1) b c e f ∧ Cal.num a (ix + 1) b c e f = n := by
  obtain ⟨y, m, d, h, mi, t, v, hn, h2, hq⟩ := parse_parts hp hM hT
  rw [hR] at hq
  obtain ⟨rfl, rfl, rfl, rfl, rfl⟩ := parse_numbers v hq hV
  have m0 := v.m0
  have m1 := v.m1
  have hi := month_index (m - 1) (by omega) l2 h2
  rw [hix] at hi
  have e : ix + 1 = (m : Int) := by omega
  rw [e]
  exact ⟨v, hn⟩
theorem bytes_toList (s : ByteArray) : s.toList = s.data.toList := ByteArray.toList_eq s
theorem ints_snoc (V : List Int) (v : Int) : V.map (Value.int .i64) ++ [.int .i64 v] = (V ++ [v]).map (Value.int .i64) := by simp
theorem Tryd.infoStr : (Tryd.prog.info? 9).map (fun i => (i.zero, i.size, i.bytes)) = some (some (.string ⟨#[]⟩), 1, 16) := by kernel_rfl
theorem Tryd.infoInt : (Tryd.prog.info? 3).map (fun i => (i.zero, i.size, i.bytes)) = some (some (.int .i64 0), 1, 8) := by kernel_rfl
set_option maxHeartbeats 8000000 in
set_option maxRecDepth 100000 in
theorem parse_main (s : ByteArray) (w : World) (hE : Env w) (hs : s.size < 4294967281) (hc : Lib.countB s ⟨#[32]⟩ + 1 = 6) (hz : s.size = 29) :
    Calls Tryd.prog 20 #[.string s] w (ParsePost s w) := by
  obtain ⟨iS, hiS, hzS, hsS, hbS⟩ := info_parts Tryd.infoStr
  obtain ⟨iI, hiI, hzI, hsI, hbI⟩ := info_parts Tryd.infoInt
  have HE := Lib.hid hE
  obtain ⟨ml, hml⟩ := hE.ml
  have hS := Tryd.strings_Split s ⟨#[32]⟩ ml w hs hml (by decide)
  have hp := pieces_data s 32
  have hl := pieces_len s 32
  have hsh := pieces_short s 32
  rw [hc] at hl hS
  generalize Lib.splitB ⟨#[32]⟩ 0 (Lib.countB s ⟨#[32]⟩) s = L at *
  obtain ⟨l0, l1, l2, l3, l4, l5, rfl⟩ := six hl
  have z1 : l1.size ≤ 29 := by have := hsh l1 (by simp); omega
  have z2 : l2.size ≤ 29 := by have := hsh l2 (by simp); omega
  have z3 : l3.size ≤ 29 := by have := hsh l3 (by simp); omega
  have z4 : l4.size ≤ 29 := by have := hsh l4 (by simp); omega
  have HS := Lib.hid hS
  have HP := Lib.hid hp
  have HZ := Lib.hid hz
  have b1 : ((s.size : Int) != 29) = false := by simp; omega
  clear hS hp hl hsh hz hc hml hE
  go_enter Tryd.func20, Tryd.ntmps20
  go_wp2_with fail
  refine (HS.out).mono ?_
  rintro e w1 ⟨rfl, rfl⟩
  go_wp2_with fail
  have BL := blk_drew (blk_new w (.cells #[.string l0, .string l1, .string l2, .string l3, .string l4, .string l5] 9))
  have HB : Below w.heap.size w (w.alloc (.cells #[.string l0, .string l1, .string l2, .string l3, .string l4, .string l5] 9)).drew := ((Below.refl _ _).alloc (Nat.le_refl _) _).drew
  obtain ⟨b, hb⟩ : ∃ b : Nat, w.heap.size = b := ⟨_, rfl⟩
  have hbw : w.heap.size ≤ b := by omega
  rw [hb] at BL ⊢
  clear hb
  refine start_ (n := 14) (S := fun w' => w'.cell? ⟨b, 1, none⟩ = some (.string l1) ∧ w'.cell? ⟨b, 3, none⟩ = some (.string l3) ∧ w'.cell? ⟨b, 4, none⟩ = some (.string l4)) (ds := []) #[false, false, false, false, false, false, false, false, false, false, false, false, false, false] (by kernel_rfl) rfl rfl ⟨(blk_cell BL 1).trans rfl, (blk_cell BL 3).trans rfl, (blk_cell BL 4).trans rfl⟩ (fun hHeld => ?_)
  generalize World.drew _ = W at BL HB hHeld ⊢
  refine pure_ (i := 0) (N := some 25) (v := ?_) (a' := ?_) #[true, false, false, false, false, false, false, false, false, false, false, false, false, false] rfl rfl (by kernel_rfl) (fun _ _ _ h => h) (Or.inl ⟨by rfl, ?_⟩) ?_ ?_
  rotate_left
  · intro w'
    go_simp
    with_reducible rfl
  rotate_left
  · simp only [Act.put, List.setIfInBounds_toArray, List.set_cons_zero, List.set_cons_succ]
    rfl
  refine pure_ (i := 1) (N := some 26) (v := ?_) (a' := ?_) #[true, true, false, false, false, false, false, false, false, false, false, false, false, false] rfl rfl (by kernel_rfl) (fun _ _ _ h => h) (Or.inl ⟨by rfl, ?_⟩) ?_ ?_
  rotate_left
  · intro w'
    go_simp
    with_reducible rfl
  rotate_left
  · simp only [Act.put, List.setIfInBounds_toArray, List.set_cons_zero, List.set_cons_succ]
    rfl
  refine take_ (i := 2) (N := some 27) (v := ?_) (a' := ?_) #[true, true, true, false, false, false, false, false, false, false, false, false, false, false] rfl rfl (by kernel_rfl) (fun _ _ _ h => h) (Or.inl ⟨by rfl, ?_⟩) hHeld ?_ ?_
  rotate_left
  · rintro w' ⟨s0, s1, s2⟩
    go_simp
    with_reducible rfl
  rotate_left
  · simp only [Act.put, List.setIfInBounds_toArray, List.set_cons_zero, List.set_cons_succ]
    rfl
  refine pure_ (i := 3) (N := some 28) (v := ?_) (a' := ?_) #[true, true, true, true, false, false, false, false, false, false, false, false, false, false] rfl rfl (by kernel_rfl) (fun _ _ _ h => h) (Or.inl ⟨by rfl, ?_⟩) ?_ ?_
  rotate_left
  · intro w'
    go_simp
    with_reducible rfl
  rotate_left
  · simp only [Act.put, List.setIfInBounds_toArray, List.set_cons_zero, List.set_cons_succ]
    rfl
  refine pure_ (i := 4) (N := some 29) (v := ?_) (a' := ?_) #[true, true, true, true, true, false, false, false, false, false, false, false, false, false] rfl rfl (by kernel_rfl) (fun _ _ _ h => h) (Or.inl ⟨by rfl, ?_⟩) ?_ ?_
  rotate_left
  · intro w'
    go_simp
    with_reducible rfl
  rotate_left
  · simp only [Act.put, List.setIfInBounds_toArray, List.set_cons_zero, List.set_cons_succ]
    rfl
  refine take_ (i := 5) (N := some 30) (v := ?_) (a' := ?_) #[true, true, true, true, true, true, false, false, false, false, false, false, false, false] rfl rfl (by kernel_rfl) (fun _ _ _ h => h) (Or.inl ⟨by rfl, ?_⟩) hHeld ?_ ?_
  rotate_left
  · rintro w' ⟨s0, s1, s2⟩
    go_simp
    with_reducible rfl
  rotate_left
  · simp only [Act.put, List.setIfInBounds_toArray, List.set_cons_zero, List.set_cons_succ]
    rfl
  refine pure_ (i := 7) (N := some 32) (v := ?_) (a' := ?_) #[true, true, true, true, true, true, false, true, false, false, false, false, false, false] rfl rfl (by kernel_rfl) (fun _ _ _ h => h) (Or.inl ⟨by rfl, ?_⟩) ?_ ?_
  rotate_left
  · intro w'
    go_simp
    with_reducible rfl
  rotate_left
  · simp only [Act.put, List.setIfInBounds_toArray, List.set_cons_zero, List.set_cons_succ]
    rfl
  refine pure_ (i := 8) (N := some 33) (v := ?_) (a' := ?_) #[true, true, true, true, true, true, false, true, true, false, false, false, false, false] rfl rfl (by kernel_rfl) (fun _ _ _ h => h) (Or.inl ⟨by rfl, ?_⟩) ?_ ?_
  rotate_left
  · intro w'
    go_simp
    with_reducible rfl
  rotate_left
  · simp only [Act.put, List.setIfInBounds_toArray, List.set_cons_zero, List.set_cons_succ]
    rfl
  refine take_ (i := 9) (N := some 34) (v := ?_) (a' := ?_) #[true, true, true, true, true, true, false, true, true, true, false, false, false, false] rfl rfl (by kernel_rfl) (fun _ _ _ h => h) (Or.inl ⟨by rfl, ?_⟩) hHeld ?_ ?_
  rotate_left
  · rintro w' ⟨s0, s1, s2⟩
    go_simp
    with_reducible rfl
  rotate_left
  · simp only [Act.put, List.setIfInBounds_toArray, List.set_cons_zero, List.set_cons_succ]
    rfl
  refine pure_ (i := 13) (N := some 38) (v := ?_) (a' := ?_) #[true, true, true, true, true, true, false, true, true, true, false, false, false, true] rfl rfl (by kernel_rfl) (fun _ _ _ h => h) (Or.inl ⟨by rfl, ?_⟩) ?_ ?_
  rotate_left
  · intro w'
    go_simp
    with_reducible rfl
  rotate_left
  · simp only [Act.put, List.setIfInBounds_toArray, List.set_cons_zero, List.set_cons_succ]
    rfl
  have hM := pieces_data l4 58
  have hMl := pieces_len l4 58
  have hMs := pieces_short l4 58
  have hS4 := fun (W : World) (m : Int) (hm : W.cell? ⟨4, 0, none⟩ = some (.int .i64 m)) => Tryd.strings_Split l4 ⟨#[58]⟩ m W (by omega) hm (by decide)
  have hMb := Lib.countB_le ⟨#[58]⟩ (by decide) l4.size l4 (Nat.le_refl _)
  generalize Lib.splitB ⟨#[58]⟩ 0 (Lib.countB l4 ⟨#[58]⟩) l4 = M at hM hMl hMs hS4
  rw [← hMl] at hS4
  have m1 : 1 ≤ M.length := by omega
  have m2 : M.length ≤ 30 := by omega
  clear hMb hMl
  clear hHeld
  refine join_ 2 #[true, true, true, true, true, true, true, true, true, true, true, false, false, true] (fun (p : Nat × Nat) => [(31, .slice (some ⟨p.1, 0, none⟩) 2 2), (35, .slice (some ⟨p.2, 0, none⟩) M.length M.length)]) (fun (p : Nat × Nat) (W2 : World) => W2.heap[p.1]? = some (.cells #[.string l3, .string l1] 9 (0, 0)) ∧ W2.heap[p.2]? = some (.cells (M.map Value.string).toArray 9 (0, 0)) ∧ W2.heap[b]? = some (.cells #[.string l0, .string l1, .string l2, .string l3, .string l4, .string l5] 9 (0, 0)) ∧ Below w.heap.size w W2) ?cont (fun hcont => ?orders)
  case orders =>
    refine two_ (i := 6) (j := 10) (Ni := some 31) (Nj := some 35) #[true, true, true, true, true, true, true, true, true, true, false, false, false, true] #[true, true, true, true, true, true, false, true, true, true, true, false, false, true] rfl rfl rfl rfl (by kernel_rfl) (by decide) (by decide) (fun K hK => ?_) (fun K hK => ?_)
    · refine value_ (v := .slice (some ⟨W.heap.size, 0, none⟩) 2 2) (w1 := W.alloc (.cells #[.string l3, .string l1] 9)) (by rfl) rfl (by go_simp) ?_
      have B1 := blk_new W (.cells #[.string l3, .string l1] 9)
      replace BL := blk_alloc BL (.cells #[.string l3, .string l1] 9)
      replace HB := HB.alloc HB.size (.cells #[.string l3, .string l1] 9)
      generalize W.heap.size = b2 at B1 ⊢
      generalize W.alloc _ = W at BL HB B1 ⊢
      refine hK.out _ _ ⟨(blk_cell BL 1).trans rfl, (blk_cell BL 3).trans rfl, (blk_cell BL 4).trans rfl⟩ (fun hHeld => ?_)
      clear hK K
      refine one_ (i := 10) (N := some 35) #[true, true, true, true, true, true, true, true, true, true, true, false, false, true] rfl rfl (by kernel_rfl) (by decide) (fun K hK => ?_)
      refine goes_ Tryd.func33 (by kernel_rfl) rfl #[.string l4, .string ⟨#[58]⟩] (by rfl) rfl rfl (by (try simp only [List.map_toArray, List.map_cons, List.map_nil]); first | done | rfl) ?_
      obtain ⟨m4, hm4⟩ := (HE.out.stays HB).ml
      refine (hS4 _ m4 hm4).mono ?_
      rintro e w' ⟨rfl, rfl⟩
      refine ⟨_, rfl, ?_⟩
      have B2 := blk_new W (.cells (M.map Value.string).toArray 9)
      replace BL := blk_alloc BL (.cells (M.map Value.string).toArray 9)
      replace HB := HB.alloc HB.size (.cells (M.map Value.string).toArray 9)
      replace B1 := blk_alloc B1 (.cells (M.map Value.string).toArray 9)
      refine hK.out _ _ ⟨(blk_cell BL 1).trans rfl, (blk_cell BL 3).trans rfl, (blk_cell BL 4).trans rfl⟩ (fun hHeld => ?_)
      clear hK K
      refine norm_ (a' := _) ?_ (hcont (b2, W.heap.size) _ ⟨B1, B2, BL, HB⟩)
      simp only [putAll, Act.put, List.setIfInBounds_toArray, List.set_cons_zero, List.set_cons_succ]
      try rfl
    · refine goes_ Tryd.func33 (by kernel_rfl) rfl #[.string l4, .string ⟨#[58]⟩] (by rfl) rfl rfl (by (try simp only [List.map_toArray, List.map_cons, List.map_nil]); first | done | rfl) ?_
      obtain ⟨m4, hm4⟩ := (HE.out.stays HB).ml
      refine (hS4 _ m4 hm4).mono ?_
      rintro e w' ⟨rfl, rfl⟩
      refine ⟨_, rfl, ?_⟩
      have B2 := blk_new W (.cells (M.map Value.string).toArray 9)
      replace BL := blk_alloc BL (.cells (M.map Value.string).toArray 9)
      replace HB := HB.alloc HB.size (.cells (M.map Value.string).toArray 9)
      generalize W.heap.size = b3 at B2 ⊢
      generalize W.alloc _ = W at BL HB B2 ⊢
      refine hK.out _ _ ⟨(blk_cell BL 1).trans rfl, (blk_cell BL 3).trans rfl, (blk_cell BL 4).trans rfl⟩ (fun hHeld => ?_)
      clear hK K
      refine one_ (i := 6) (N := some 31) #[true, true, true, true, true, true, true, true, true, true, true, false, false, true] rfl rfl (by kernel_rfl) (by decide) (fun K hK => ?_)
      refine value_ (v := .slice (some ⟨W.heap.size, 0, none⟩) 2 2) (w1 := W.alloc (.cells #[.string l3, .string l1] 9)) (by rfl) rfl (by go_simp) ?_
      have B1 := blk_new W (.cells #[.string l3, .string l1] 9)
      replace BL := blk_alloc BL (.cells #[.string l3, .string l1] 9)
      replace HB := HB.alloc HB.size (.cells #[.string l3, .string l1] 9)
      replace B2 := blk_alloc B2 (.cells #[.string l3, .string l1] 9)
      refine hK.out _ _ ⟨(blk_cell BL 1).trans rfl, (blk_cell BL 3).trans rfl, (blk_cell BL 4).trans rfl⟩ (fun hHeld => ?_)
      clear hK K
      refine norm_ (a' := _) ?_ (hcont (W.heap.size, b3) _ ⟨B1, B2, BL, HB⟩)
      simp only [putAll, Act.put, List.setIfInBounds_toArray, List.set_cons_zero, List.set_cons_succ]
      try rfl
  case cont =>
    clear BL HB
    rintro ⟨b2, b3⟩ W ⟨B1, B2, BL, HB⟩
    have hHeld : W.cell? ⟨b, 1, none⟩ = some (.string l1) ∧ W.cell? ⟨b, 3, none⟩ = some (.string l3) ∧ W.cell? ⟨b, 4, none⟩ = some (.string l4) := ⟨(blk_cell BL 1).trans rfl, (blk_cell BL 3).trans rfl, (blk_cell BL 4).trans rfl⟩
    simp only [] at B1 B2
    refine norm_ (a' := ?_) ?_ ?_
    rotate_left
    · simp only [putAll, Act.put, List.setIfInBounds_toArray, List.set_cons_zero, List.set_cons_succ]
      rfl
    
    refine one_ (i := 11) (N := some 36) #[true, true, true, true, true, true, true, true, true, true, true, true, false, true] rfl rfl (by kernel_rfl) (by decide) (fun K hK => ?_)
    refine step_append_grows rfl (.tmp 31) (.tmp 35) 56 rfl 9 iS (.string ⟨#[]⟩) 1 16 Tryd.underlying56 hiS hzS hsS hbS rfl (by decide) (some ⟨b2, 0, none⟩) 2 2 [.string l3, .string l1] rfl (fun h => by cases h) rfl (fun a ha j u hj => ?_) ⟨b3, 0, none⟩ M.length M.length (M.map Value.string) rfl (by simp) (fun j u hj => ?_) (fun u hu => ?_) (by omega) (by unfold maxLen; omega) (by omega) (fun v' w' hown hgrow => ?_)
    · cases ha
      rw [addr_add, blk_cell B1 j]
      simpa using hj
    · rw [addr_add, blk_cell B2 j]
      simpa using hj
    · obtain ⟨x, _, rfl⟩ := List.mem_map.1 hu
      rfl
    replace BL := blk_grown BL hgrow (by simp)
    replace HB := pw_below_grown HB none HB.size hgrow (fun _ h => by cases h)
    obtain ⟨g, cap, cur, rfl, hg0, BR, hcap, hcur⟩ := row_cells hown (by omega)
    refine hK.out _ _ ⟨(blk_cell BL 1).trans rfl, (blk_cell BL 3).trans rfl, (blk_cell BL 4).trans rfl⟩ (fun hHeld => ?_)
    clear hK K
    refine norm_ (a' := ?_) ?_ ?_
    rotate_left
    · show Act.put _ (some 36) _ = _
      simp only [Act.put, List.setIfInBounds_toArray, List.set_cons_zero, List.set_cons_succ]
      rfl
    refine pure_ (i := 12) (N := some 37) (v := ?_) (a' := ?_) #[true, true, true, true, true, true, true, true, true, true, true, true, true, true] rfl rfl (by kernel_rfl) (fun _ _ _ h => h) (Or.inl ⟨by rfl, ?_⟩) ?_ ?_
    rotate_left
    · intro w'
      go_simp
      with_reducible rfl
    rotate_left
    · simp only [Act.put, List.setIfInBounds_toArray, List.set_cons_zero, List.set_cons_succ]
      rfl
    refine done_ (by kernel_rfl) ?_
    clear hown hgrow B1 B2 hHeld
    have hR : ∀ (j : Nat) (x : ByteArray), (l3 :: l1 :: M)[j]? = some x → cur[j]? = some (.string x) := fun j x hj => hcur j _ (by
      have : ([Value.string l3, Value.string l1] ++ M.map Value.string) = (l3 :: l1 :: M).map Value.string := rfl
      rw [this, List.getElem?_map, hj]; rfl)
    have hRs : ∀ x, x ∈ l3 :: l1 :: M → x.size ≤ 29 := by
      intro x hx
      simp only [List.mem_cons] at hx
      rcases hx with rfl | rfl | hx
      · exact z3
      · exact z1
      · have := hMs x hx; omega
    obtain ⟨R, hRe⟩ : ∃ R, l3 :: l1 :: M = R := ⟨_, rfl⟩
    have hRl : R.length = 2 + M.length := by rw [← hRe]; simp; omega
    rw [hRe] at hR hRs
    rw [← hRl] at hcap ⊢
    try rw [show (2 : Int) + (M.length : Int) = (R.length : Int) from by omega]
    have HRE := Lib.hid hRe
    have HRL := Lib.hid hRl
    have r0 : 0 < R.length := by omega
    have r1 : R.length ≤ 32 := by omega
    have HR := Lib.hid hR
    have HRS := Lib.hid hRs
    have HMM := Lib.hid hM
    clear hRe hRl hR hRs hM hMs hS4 hcur m1 m2
    go_wp2_with fail
    obtain ⟨W0, rfl⟩ : ∃ W0 : World, W0 = w' := ⟨_, rfl⟩
    have gl := blk_lt BR
    have bl := blk_lt BL
    go_loopw [5, 38] (fun v5 i W' => ∃ (k : Nat) (V : List Int), k ≤ R.length ∧ i = .int .i64 k ∧ V.length = k ∧ (∀ (j : Nat) (x : ByteArray) (v : Int), R[j]? = some x → V[j]? = some v → Lib.atoiAll x.data.toList = .ok v) ∧ W'.ownsRow W0.heap.size 3 1 v5 k (V.map (Value.int .i64)) ∧ Below W0.heap.size W0 W') (fun _ i _ => R.length - (intOf i).toNat)
    case atStart => exact ⟨0, [], by omega, rfl, rfl, (fun j x v _ h => by simp at h), ⟨rfl, .inl ⟨rfl, rfl⟩⟩, Below.refl _ _⟩
    case round =>
      obtain ⟨k, V, hk, rfl, hVl, hV, hown, hbW⟩ := hrel
      have HV := Lib.hid hV
      clear hV
      by_cases hlt : k < R.length
      · obtain ⟨x, hx⟩ : ∃ x, R[k]? = some x := ⟨_, List.getElem?_eq_getElem hlt⟩
        have hxs := HRS.out x (List.mem_of_getElem? hx)
        have cx := (blk_cell (blk_below BR hbW) k).trans (HR.out k x hx)
        have HX := Lib.hid hx
        clear hx
        have hE2 := (HE.out.stays HB).stays hbW
        rcases hA : Lib.atoiAll x.data.toList with v | _ | _
        · have hC := Tryd.strconv_Atoi_ok x (by omega) v hA wr
          have HC := Lib.hid hC
          have HA := Lib.hid hA
          clear hC hA
          go_wp2_with fail
          refine (HC.out).mono ?_
          rintro e w2 ⟨rfl, hw⟩
          have hb2 : Below wr.heap.size wr w2 := by
            rcases hw with rfl | ⟨t, rfl⟩
            · exact Below.refl _ _
            · exact Lib.bytesWorld_below _ _ _
          clear hw
          have hown2 := ownsRow_below hown hb2
          have hbW2 := hbW.trans (hb2.mono hbW.size)
          have hge := hbW2.size
          clear cx hown hbW hb2 hE2
          go_wp2_with (at_builtin; refine wpList_append_own _ rfl _ _ 47 rfl W0.heap.size 3 iI (.int .i64 0) 1 8 Tryd.underlying47 hiI hzI hsI hbI rfl (by decide) _ _ _ rfl (hown2.alloc _) ⟨w2.heap.size, 0, none⟩ 1 1 [.int .i64 v] rfl rfl ?c1 ?c2 ?c3 ?c4 ?c5 ?_)
          case c1 =>
            intro j u hj
            rw [addr_add, World.cell?_alloc_new]
            simpa using hj
          case c2 =>
            intro u hu
            simp only [List.mem_singleton] at hu
            subst hu
            rfl
          case c3 => unfold maxLen; omega
          case c4 => omega
          case c5 => simp; omega
          intro v' w3 hown3 hgrow hnil
          have hbW3 := pw_below_grown (hbW2.alloc hge (.cells #[.int .i64 v] 3)) _ (by simp; omega) hgrow (fun q hq => (hown2.lt q hq).1)
          have HO3 := Lib.hid hown3
          have HB3 := Lib.hid hbW3
          clear hown3 hgrow hnil hown2 hbW2 hge hbW3
          go_wp2_with fail
          go_roundw
          case rel =>
            refine ⟨k + 1, V ++ [v], by omega, by go_num, by simp; omega, ?_, by rw [← ints_snoc]; exact HO3.out, HB3.out⟩
            intro j y u hy hu
            rcases Nat.lt_or_ge j k with q | q
            · rw [List.getElem?_append_left (by omega)] at hu
              exact HV.out j y u hy hu
            · obtain rfl : j = k := by
                have : j < (V ++ [v]).length := by
                  rcases Nat.lt_or_ge j (V ++ [v]).length with z | z
                  · exact z
                  · rw [List.getElem?_eq_none z] at hu; cases hu
                simp at this; omega
              rw [List.getElem?_append_right (by omega), hVl] at hu
              simp at hu
              subst hu
              rw [HX.out] at hy
              cases hy
              exact HA.out
          case measure => simp [intOf]; omega
        · obtain ⟨tp, pv, hes⟩ := hE2.es
          have hC := atoi_bad x (by omega) (fun v e => by rw [e] at hA; cases hA) (fun e => by rw [e] at hA; cases hA) tp pv wr hes
          have HC := Lib.hid hC
          have HA := Lib.hid hA
          clear hC hA hes hE2
          go_wp2_with fail
          refine (HC.out).mono ?_
          rintro e w2 ⟨N, rfl, _, _, hb2⟩
          have hbW2 := hbW.trans (hb2.mono hbW.size)
          clear cx hown hbW hb2
          go_wp2_with fail
          go_ret2
          refine ⟨.inr ⟨rfl, fun n hT => ?_⟩, HB.trans (hbW2.mono HB.size)⟩
          obtain ⟨y, m, d, h, mi, t, v, _, _, hq⟩ := parse_parts HP.out HMM.out hT
          rw [HRE.out] at hq
          obtain ⟨u, hu⟩ := parse_ok v hq HX.out
          have := HA.out
          rw [hu] at this
          cases this
        · obtain ⟨tp, pv, her⟩ := hE2.er
          have hC := Tryd.strconv_Atoi_range_var x (by omega) hA tp pv wr her
          have HC := Lib.hid hC
          have HA := Lib.hid hA
          clear hC hA her hE2
          go_wp2_with fail
          refine (HC.out).mono ?_
          rintro e w2 ⟨N, rfl, _, _, hb2⟩
          have hbW2 := hbW.trans (hb2.mono hbW.size)
          clear cx hown hbW hb2
          go_wp2_with fail
          go_ret2
          refine ⟨.inr ⟨rfl, fun n hT => ?_⟩, HB.trans (hbW2.mono HB.size)⟩
          obtain ⟨y, m, d, h, mi, t, v, _, _, hq⟩ := parse_parts HP.out HMM.out hT
          rw [HRE.out] at hq
          obtain ⟨u, hu⟩ := parse_ok v hq HX.out
          have := HA.out
          rw [hu] at this
          cases this
      · obtain rfl : k = R.length := by omega
        obtain ⟨g5, cap5, cur5, rfl, hg5, B5, hc5, hcur5⟩ := row_cells hown r0
        have HB2 := HB.trans (hbW.mono HB.size)
        have BL2 := blk_below BL hbW
        by_cases h5 : R.length = 5
        · have b5 : ((R.length : Int) != 5) = false := by simp; omega
          obtain ⟨v0, v1, v2, v3, v4, rfl⟩ := five (hVl.trans h5)
          have n0 := (blk_cell B5 0).trans (hcur5 0 (.int .i64 v0) rfl)
          have n1 := (blk_cell B5 1).trans (hcur5 1 (.int .i64 v1) rfl)
          have n2 := (blk_cell B5 2).trans (hcur5 2 (.int .i64 v2) rfl)
          have n3 := (blk_cell B5 3).trans (hcur5 3 (.int .i64 v3) rfl)
          have n4 := (blk_cell B5 4).trans (hcur5 4 (.int .i64 v4) rfl)
          have k0 := hcur5 0 (.int .i64 v0) rfl
          have k1 := hcur5 1 (.int .i64 v1) rfl
          have k2 := hcur5 2 (.int .i64 v2) rfl
          have k3 := hcur5 3 (.int .i64 v3) rfl
          have k4 := hcur5 4 (.int .i64 v4) rfl
          have K0 := Lib.hid k0
          have K1 := Lib.hid k1
          have K2 := Lib.hid k2
          have K3 := Lib.hid k3
          have K4 := Lib.hid k4
          have ib := month_bd l2
          obtain ⟨ix, hix⟩ : ∃ ix, Lib.idxOfS monthBytes l2 = ix := ⟨_, rfl⟩
          rw [hix] at ib
          obtain ⟨ib0, ib1⟩ := ib
          have HIX := Lib.hid hix
          have iw : IntKind.i64.wrap (ix + 1) = ix + 1 := IntWalk.i64_in _ (by omega)
          have q0 : (0 : Int) < (R.length : Int) := by omega
          have q1 : (1 : Int) < (R.length : Int) := by omega
          have q2 : (2 : Int) < (R.length : Int) := by omega
          have q3 : (3 : Int) < (R.length : Int) := by omega
          have q4 : (4 : Int) < (R.length : Int) := by omega
          have p0 : (0 : Nat) < R.length := by omega
          have p1 : (1 : Nat) < R.length := by omega
          have p2 : (2 : Nat) < R.length := by omega
          have p3 : (3 : Nat) < R.length := by omega
          have p4 : (4 : Nat) < R.length := by omega
          have H5 := Lib.hid h5
          clear hown hcur5 hix h5 hVl k0 k1 k2 k3 k4 n0 n1 n2 n3 n4 hk hlt
          go_wp2_with fail
          replace BL2 := blk_drew BL2
          replace B5 := blk_drew B5
          replace HB2 := HB2.drew
    
          refine start_ (n := 24) (S := fun w' => w'.cell? ⟨g5, 0, none⟩ = some (.int .i64 v0) ∧ w'.cell? ⟨g5, 1, none⟩ = some (.int .i64 v1) ∧ w'.cell? ⟨g5, 2, none⟩ = some (.int .i64 v2) ∧ w'.cell? ⟨g5, 3, none⟩ = some (.int .i64 v3) ∧ w'.cell? ⟨g5, 4, none⟩ = some (.int .i64 v4) ∧ w'.cell? ⟨b, 2, none⟩ = some (.string l2)) (ds := []) #[false, false, false, false, false, false, false, false, false, false, false, false, false, false, false, false, false, false, false, false, false, false, false, false] (by kernel_rfl) rfl rfl ⟨(blk_cell B5 0).trans K0.out, (blk_cell B5 1).trans K1.out, (blk_cell B5 2).trans K2.out, (blk_cell B5 3).trans K3.out, (blk_cell B5 4).trans K4.out, (blk_cell BL2 2).trans rfl⟩ (fun hHeld => ?_)
          generalize World.drew _ = W at BL2 B5 HB2 hHeld ⊢
          refine pure_ (i := 0) (N := some 57) (v := ?_) (a' := ?_) #[true, false, false, false, false, false, false, false, false, false, false, false, false, false, false, false, false, false, false, false, false, false, false, false] rfl rfl (by kernel_rfl) (fun _ _ _ h => h) (Or.inl ⟨by rfl, ?_⟩) ?_ ?_
          rotate_left
          · intro w'
            go_simp
            with_reducible rfl
          rotate_left
          · simp only [Act.put, List.setIfInBounds_toArray, List.set_cons_zero, List.set_cons_succ]
            rfl
          refine pure_ (i := 1) (N := some 58) (v := ?_) (a' := ?_) #[true, true, false, false, false, false, false, false, false, false, false, false, false, false, false, false, false, false, false, false, false, false, false, false] rfl rfl (by kernel_rfl) (fun _ _ _ h => h) (Or.inl ⟨by rfl, ?_⟩) ?_ ?_
          rotate_left
          · intro w'
            go_simp
            with_reducible rfl
          rotate_left
          · simp only [Act.put, List.setIfInBounds_toArray, List.set_cons_zero, List.set_cons_succ]
            rfl
          refine take_ (i := 2) (N := some 59) (v := ?_) (a' := ?_) #[true, true, true, false, false, false, false, false, false, false, false, false, false, false, false, false, false, false, false, false, false, false, false, false] rfl rfl (by kernel_rfl) (fun _ _ _ h => h) (Or.inl ⟨by rfl, ?_⟩) hHeld ?_ ?_
          rotate_left
          · rintro w' ⟨s0, s1, s2, s3, s4, s5⟩
            go_simp
            with_reducible rfl
          rotate_left
          · simp only [Act.put, List.setIfInBounds_toArray, List.set_cons_zero, List.set_cons_succ]
            rfl
          refine pure_ (i := 4) (N := some 61) (v := ?_) (a' := ?_) #[true, true, true, false, true, false, false, false, false, false, false, false, false, false, false, false, false, false, false, false, false, false, false, false] rfl rfl (by kernel_rfl) (fun _ _ _ h => h) (Or.inl ⟨by rfl, ?_⟩) ?_ ?_
          rotate_left
          · intro w'
            go_simp
            with_reducible rfl
          rotate_left
          · simp only [Act.put, List.setIfInBounds_toArray, List.set_cons_zero, List.set_cons_succ]
            rfl
          refine pure_ (i := 5) (N := some 62) (v := ?_) (a' := ?_) #[true, true, true, false, true, true, false, false, false, false, false, false, false, false, false, false, false, false, false, false, false, false, false, false] rfl rfl (by kernel_rfl) (fun _ _ _ h => h) (Or.inl ⟨by rfl, ?_⟩) ?_ ?_
          rotate_left
          · intro w'
            go_simp
            with_reducible rfl
          rotate_left
          · simp only [Act.put, List.setIfInBounds_toArray, List.set_cons_zero, List.set_cons_succ]
            rfl
          refine take_ (i := 6) (N := some 63) (v := ?_) (a' := ?_) #[true, true, true, false, true, true, true, false, false, false, false, false, false, false, false, false, false, false, false, false, false, false, false, false] rfl rfl (by kernel_rfl) (fun _ _ _ h => h) (Or.inl ⟨by rfl, ?_⟩) hHeld ?_ ?_
          rotate_left
          · rintro w' ⟨s0, s1, s2, s3, s4, s5⟩
            go_simp
            with_reducible rfl
          rotate_left
          · simp only [Act.put, List.setIfInBounds_toArray, List.set_cons_zero, List.set_cons_succ]
            rfl
          refine pure_ (i := 9) (N := some 66) (v := ?_) (a' := ?_) #[true, true, true, false, true, true, true, false, false, true, false, false, false, false, false, false, false, false, false, false, false, false, false, false] rfl rfl (by kernel_rfl) (fun _ _ _ h => h) (Or.inl ⟨by rfl, ?_⟩) ?_ ?_
          rotate_left
          · intro w'
            go_simp
            with_reducible rfl
          rotate_left
          · simp only [Act.put, List.setIfInBounds_toArray, List.set_cons_zero, List.set_cons_succ]
            rfl
          refine pure_ (i := 10) (N := some 67) (v := ?_) (a' := ?_) #[true, true, true, false, true, true, true, false, false, true, true, false, false, false, false, false, false, false, false, false, false, false, false, false] rfl rfl (by kernel_rfl) (fun _ _ _ h => h) (Or.inl ⟨by rfl, ?_⟩) ?_ ?_
          rotate_left
          · intro w'
            go_simp
            with_reducible rfl
          rotate_left
          · simp only [Act.put, List.setIfInBounds_toArray, List.set_cons_zero, List.set_cons_succ]
            rfl
          refine take_ (i := 11) (N := some 68) (v := ?_) (a' := ?_) #[true, true, true, false, true, true, true, false, false, true, true, true, false, false, false, false, false, false, false, false, false, false, false, false] rfl rfl (by kernel_rfl) (fun _ _ _ h => h) (Or.inl ⟨by rfl, ?_⟩) hHeld ?_ ?_
          rotate_left
          · rintro w' ⟨s0, s1, s2, s3, s4, s5⟩
            go_simp
            with_reducible rfl
          rotate_left
          · simp only [Act.put, List.setIfInBounds_toArray, List.set_cons_zero, List.set_cons_succ]
            rfl
          refine pure_ (i := 12) (N := some 69) (v := ?_) (a' := ?_) #[true, true, true, false, true, true, true, false, false, true, true, true, true, false, false, false, false, false, false, false, false, false, false, false] rfl rfl (by kernel_rfl) (fun _ _ _ h => h) (Or.inl ⟨by rfl, ?_⟩) ?_ ?_
          rotate_left
          · intro w'
            go_simp
            with_reducible rfl
          rotate_left
          · simp only [Act.put, List.setIfInBounds_toArray, List.set_cons_zero, List.set_cons_succ]
            rfl
          refine pure_ (i := 13) (N := some 70) (v := ?_) (a' := ?_) #[true, true, true, false, true, true, true, false, false, true, true, true, true, true, false, false, false, false, false, false, false, false, false, false] rfl rfl (by kernel_rfl) (fun _ _ _ h => h) (Or.inl ⟨by rfl, ?_⟩) ?_ ?_
          rotate_left
          · intro w'
            go_simp
            with_reducible rfl
          rotate_left
          · simp only [Act.put, List.setIfInBounds_toArray, List.set_cons_zero, List.set_cons_succ]
            rfl
          refine take_ (i := 14) (N := some 71) (v := ?_) (a' := ?_) #[true, true, true, false, true, true, true, false, false, true, true, true, true, true, true, false, false, false, false, false, false, false, false, false] rfl rfl (by kernel_rfl) (fun _ _ _ h => h) (Or.inl ⟨by rfl, ?_⟩) hHeld ?_ ?_
          rotate_left
          · rintro w' ⟨s0, s1, s2, s3, s4, s5⟩
            go_simp
            with_reducible rfl
          rotate_left
          · simp only [Act.put, List.setIfInBounds_toArray, List.set_cons_zero, List.set_cons_succ]
            rfl
          refine pure_ (i := 15) (N := some 72) (v := ?_) (a' := ?_) #[true, true, true, false, true, true, true, false, false, true, true, true, true, true, true, true, false, false, false, false, false, false, false, false] rfl rfl (by kernel_rfl) (fun _ _ _ h => h) (Or.inl ⟨by rfl, ?_⟩) ?_ ?_
          rotate_left
          · intro w'
            go_simp
            with_reducible rfl
          rotate_left
          · simp only [Act.put, List.setIfInBounds_toArray, List.set_cons_zero, List.set_cons_succ]
            rfl
          refine pure_ (i := 16) (N := some 73) (v := ?_) (a' := ?_) #[true, true, true, false, true, true, true, false, false, true, true, true, true, true, true, true, true, false, false, false, false, false, false, false] rfl rfl (by kernel_rfl) (fun _ _ _ h => h) (Or.inl ⟨by rfl, ?_⟩) ?_ ?_
          rotate_left
          · intro w'
            go_simp
            with_reducible rfl
          rotate_left
          · simp only [Act.put, List.setIfInBounds_toArray, List.set_cons_zero, List.set_cons_succ]
            rfl
          refine take_ (i := 17) (N := some 74) (v := ?_) (a' := ?_) #[true, true, true, false, true, true, true, false, false, true, true, true, true, true, true, true, true, true, false, false, false, false, false, false] rfl rfl (by kernel_rfl) (fun _ _ _ h => h) (Or.inl ⟨by rfl, ?_⟩) hHeld ?_ ?_
          rotate_left
          · rintro w' ⟨s0, s1, s2, s3, s4, s5⟩
            go_simp
            with_reducible rfl
          rotate_left
          · simp only [Act.put, List.setIfInBounds_toArray, List.set_cons_zero, List.set_cons_succ]
            rfl
          refine pure_ (i := 18) (N := some 75) (v := ?_) (a' := ?_) #[true, true, true, false, true, true, true, false, false, true, true, true, true, true, true, true, true, true, true, false, false, false, false, false] rfl rfl (by kernel_rfl) (fun _ _ _ h => h) (Or.inl ⟨by rfl, ?_⟩) ?_ ?_
          rotate_left
          · intro w'
            go_simp
            with_reducible rfl
          rotate_left
          · simp only [Act.put, List.setIfInBounds_toArray, List.set_cons_zero, List.set_cons_succ]
            rfl
          refine pure_ (i := 19) (N := some 76) (v := ?_) (a' := ?_) #[true, true, true, false, true, true, true, false, false, true, true, true, true, true, true, true, true, true, true, true, false, false, false, false] rfl rfl (by kernel_rfl) (fun _ _ _ h => h) (Or.inl ⟨by rfl, ?_⟩) ?_ ?_
          rotate_left
          · intro w'
            go_simp
            with_reducible rfl
          rotate_left
          · simp only [Act.put, List.setIfInBounds_toArray, List.set_cons_zero, List.set_cons_succ]
            rfl
          refine take_ (i := 20) (N := some 77) (v := ?_) (a' := ?_) #[true, true, true, false, true, true, true, false, false, true, true, true, true, true, true, true, true, true, true, true, true, false, false, false] rfl rfl (by kernel_rfl) (fun _ _ _ h => h) (Or.inl ⟨by rfl, ?_⟩) hHeld ?_ ?_
          rotate_left
          · rintro w' ⟨s0, s1, s2, s3, s4, s5⟩
            go_simp
            with_reducible rfl
          rotate_left
          · simp only [Act.put, List.setIfInBounds_toArray, List.set_cons_zero, List.set_cons_succ]
            rfl
          refine join_ 1 #[true, true, true, true, true, true, true, true, true, true, true, true, true, true, true, true, true, true, true, true, true, true, true, false] (fun (p : Nat × Nat) => [(60, .slice (some ⟨p.1, 0, none⟩) 12 12), (64, .int .i64 ix), (65, .int .i64 (ix + 1)), (78, .agg #[.int .i64 v0, .int .i64 (ix + 1), .int .i64 v1, .int .i64 v2, .int .i64 v3, .int .i64 v4]), (10, .pointer (some ⟨p.2, 0, none⟩))]) (fun (p : Nat × Nat) (W2 : World) => W2.heap[p.2]? = some (.cells #[.int .i64 0, .int .i64 0, .int .i64 0, .int .i64 0, .int .i64 0, .int .i64 0] 27 (0, 0)) ∧ W2.heap[b]? = some (.cells #[.string l0, .string l1, .string l2, .string l3, .string l4, .string l5] 9 (0, 0)) ∧ W2.heap[g5]? = some (.cells cur5 3 (0, 0)) ∧ Below w.heap.size w W2 ∧ w.heap.size ≤ p.2) ?cont (fun hcont => ?orders)
          case orders =>
            refine two_ (i := 3) (j := 22) (Ni := some 60) (Nj := some 10) #[true, true, true, true, true, true, true, false, false, true, true, true, true, true, true, true, true, true, true, true, true, false, false, false] #[true, true, true, false, true, true, true, false, false, true, true, true, true, true, true, true, true, true, true, true, true, false, true, false] rfl rfl rfl rfl (by kernel_rfl) (by decide) (by decide) (fun K hK => ?_) (fun K hK => ?_)
            · refine goes_ Tryd.func31 (by kernel_rfl) rfl #[] (by rfl) rfl rfl (by (try simp only [List.map_toArray, List.map_cons, List.map_nil]); first | done | rfl) ?_
              refine (months_calls _ (HE.out.stays HB2)).mono ?_
              rintro e w' ⟨rfl, rfl⟩
              refine ⟨_, rfl, ?_⟩
              have BM := blk_new W (.cells monthCellsS 9)
              replace BL2 := blk_alloc BL2 (.cells monthCellsS 9)
              replace B5 := blk_alloc B5 (.cells monthCellsS 9)
              replace HB2 := HB2.alloc HB2.size (.cells monthCellsS 9)
              try (replace BZ := blk_alloc BZ (.cells monthCellsS 9))
              generalize W.heap.size = bm at BM ⊢
              generalize W.alloc _ = W at *
              refine hK.out _ _ ⟨(blk_cell B5 0).trans K0.out, (blk_cell B5 1).trans K1.out, (blk_cell B5 2).trans K2.out, (blk_cell B5 3).trans K3.out, (blk_cell B5 4).trans K4.out, (blk_cell BL2 2).trans rfl⟩ (fun hHeld => ?_)
              clear hK K
              refine norm_ (a' := ?_) ?_ ?_
              rotate_left
              · show Act.put _ (some 60) _ = _
                simp only [Act.put, List.setIfInBounds_toArray, List.set_cons_zero, List.set_cons_succ]
                rfl
              refine two_ (i := 7) (j := 22) (Ni := some 64) (Nj := some 10) #[true, true, true, true, true, true, true, true, false, true, true, true, true, true, true, true, true, true, true, true, true, false, false, false] #[true, true, true, true, true, true, true, false, false, true, true, true, true, true, true, true, true, true, true, true, true, false, true, false] rfl rfl rfl rfl (by kernel_rfl) (by decide) (by decide) (fun K hK => ?_) (fun K hK => ?_)
              · refine goes_ Tryd.func35 (by kernel_rfl) rfl #[.slice (some ⟨bm, 0, none⟩) 12 12, .string l2] (by rfl) rfl rfl (by (try simp only [List.map_toArray, List.map_cons, List.map_nil]); first | done | rfl) ?_
                refine (Tryd.slices_Index_string bm 0 12 12 monthBytes l2 W (by decide) (by decide) (fun j hj => by rw [Nat.zero_add, blk_cell BM j, months_getS j (by simpa [monthBytes, monthNames] using hj)]; simp only [monthBytes, List.getD_eq_getElem?_getD, List.getElem?_map]; rw [List.getElem?_eq_getElem (by simpa [monthBytes] using hj)]; rfl)).mono ?_
                rintro e w' ⟨rfl, hw⟩
                obtain rfl : W = w' := hw.symm
                rw [show List.take 12 monthBytes = monthBytes from rfl, HIX.out]
                refine ⟨_, rfl, ?_⟩
                refine hK.out _ _ ⟨(blk_cell B5 0).trans K0.out, (blk_cell B5 1).trans K1.out, (blk_cell B5 2).trans K2.out, (blk_cell B5 3).trans K3.out, (blk_cell B5 4).trans K4.out, (blk_cell BL2 2).trans rfl⟩ (fun hHeld => ?_)
                clear hK K
                refine norm_ (a' := ?_) ?_ ?_
                rotate_left
                · show Act.put _ (some 64) _ = _
                  simp only [Act.put, List.setIfInBounds_toArray, List.set_cons_zero, List.set_cons_succ]
                  rfl
                refine pure_ (i := 8) (N := some 65) (v := ?_) (a' := ?_) #[true, true, true, true, true, true, true, true, true, true, true, true, true, true, true, true, true, true, true, true, true, false, false, false] rfl rfl (by kernel_rfl) (fun _ _ _ h => h) (Or.inl ⟨by rfl, ?_⟩) ?_ ?_
                rotate_left
                · intro w'
                  go_simp
                  with_reducible rfl
                rotate_left
                · simp only [Act.put, List.setIfInBounds_toArray, List.set_cons_zero, List.set_cons_succ]
                  rfl
                refine pure_ (i := 21) (N := some 78) (v := ?_) (a' := ?_) #[true, true, true, true, true, true, true, true, true, true, true, true, true, true, true, true, true, true, true, true, true, true, false, false] rfl rfl (by kernel_rfl) (fun _ _ _ h => h) (Or.inl ⟨by rfl, ?_⟩) ?_ ?_
                rotate_left
                · intro w'
                  go_simp
                  with_reducible rfl
                rotate_left
                · simp only [Act.put, List.setIfInBounds_toArray, List.set_cons_zero, List.set_cons_succ]
                  rfl
                refine one_ (i := 22) (N := some 10) #[true, true, true, true, true, true, true, true, true, true, true, true, true, true, true, true, true, true, true, true, true, true, true, false] rfl rfl (by kernel_rfl) (by decide) (fun K hK => ?_)
                refine value_ (v := .pointer (some ⟨W.heap.size, 0, none⟩)) (w1 := W.alloc (.cells #[.int .i64 0, .int .i64 0, .int .i64 0, .int .i64 0, .int .i64 0, .int .i64 0] 27)) (by rfl) rfl (by go_simp) ?_
                have hbd := HB2.size
                have BZ := blk_new W (.cells #[.int .i64 0, .int .i64 0, .int .i64 0, .int .i64 0, .int .i64 0, .int .i64 0] 27)
                replace BL2 := blk_alloc BL2 (.cells #[.int .i64 0, .int .i64 0, .int .i64 0, .int .i64 0, .int .i64 0, .int .i64 0] 27)
                replace B5 := blk_alloc B5 (.cells #[.int .i64 0, .int .i64 0, .int .i64 0, .int .i64 0, .int .i64 0, .int .i64 0] 27)
                replace HB2 := HB2.alloc HB2.size (.cells #[.int .i64 0, .int .i64 0, .int .i64 0, .int .i64 0, .int .i64 0, .int .i64 0] 27)
                try (replace BM := blk_alloc BM (.cells #[.int .i64 0, .int .i64 0, .int .i64 0, .int .i64 0, .int .i64 0, .int .i64 0] 27))
                generalize W.heap.size = bd at BZ hbd ⊢
                generalize W.alloc _ = W at *
                refine hK.out _ _ ⟨(blk_cell B5 0).trans K0.out, (blk_cell B5 1).trans K1.out, (blk_cell B5 2).trans K2.out, (blk_cell B5 3).trans K3.out, (blk_cell B5 4).trans K4.out, (blk_cell BL2 2).trans rfl⟩ (fun hHeld => ?_)
                clear hK K
                refine norm_ (a' := ?_) ?_ ?_
                rotate_left
                · show Act.put _ (some 10) _ = _
                  simp only [Act.put, List.setIfInBounds_toArray, List.set_cons_zero, List.set_cons_succ]
                  rfl
                refine norm_ (a' := _) ?_ (hcont (bm, bd) _ ⟨BZ, BL2, B5, HB2, by first | assumption | omega⟩)
                simp only [putAll, Act.put, List.setIfInBounds_toArray, List.set_cons_zero, List.set_cons_succ]
                try rfl
              · refine value_ (v := .pointer (some ⟨W.heap.size, 0, none⟩)) (w1 := W.alloc (.cells #[.int .i64 0, .int .i64 0, .int .i64 0, .int .i64 0, .int .i64 0, .int .i64 0] 27)) (by rfl) rfl (by go_simp) ?_
                have hbd := HB2.size
                have BZ := blk_new W (.cells #[.int .i64 0, .int .i64 0, .int .i64 0, .int .i64 0, .int .i64 0, .int .i64 0] 27)
                replace BL2 := blk_alloc BL2 (.cells #[.int .i64 0, .int .i64 0, .int .i64 0, .int .i64 0, .int .i64 0, .int .i64 0] 27)
                replace B5 := blk_alloc B5 (.cells #[.int .i64 0, .int .i64 0, .int .i64 0, .int .i64 0, .int .i64 0, .int .i64 0] 27)
                replace HB2 := HB2.alloc HB2.size (.cells #[.int .i64 0, .int .i64 0, .int .i64 0, .int .i64 0, .int .i64 0, .int .i64 0] 27)
                try (replace BM := blk_alloc BM (.cells #[.int .i64 0, .int .i64 0, .int .i64 0, .int .i64 0, .int .i64 0, .int .i64 0] 27))
                generalize W.heap.size = bd at BZ hbd ⊢
                generalize W.alloc _ = W at *
                refine hK.out _ _ ⟨(blk_cell B5 0).trans K0.out, (blk_cell B5 1).trans K1.out, (blk_cell B5 2).trans K2.out, (blk_cell B5 3).trans K3.out, (blk_cell B5 4).trans K4.out, (blk_cell BL2 2).trans rfl⟩ (fun hHeld => ?_)
                clear hK K
                refine norm_ (a' := ?_) ?_ ?_
                rotate_left
                · show Act.put _ (some 10) _ = _
                  simp only [Act.put, List.setIfInBounds_toArray, List.set_cons_zero, List.set_cons_succ]
                  rfl
                refine one_ (i := 7) (N := some 64) #[true, true, true, true, true, true, true, true, false, true, true, true, true, true, true, true, true, true, true, true, true, false, true, false] rfl rfl (by kernel_rfl) (by decide) (fun K hK => ?_)
                refine goes_ Tryd.func35 (by kernel_rfl) rfl #[.slice (some ⟨bm, 0, none⟩) 12 12, .string l2] (by rfl) rfl rfl (by (try simp only [List.map_toArray, List.map_cons, List.map_nil]); first | done | rfl) ?_
                refine (Tryd.slices_Index_string bm 0 12 12 monthBytes l2 W (by decide) (by decide) (fun j hj => by rw [Nat.zero_add, blk_cell BM j, months_getS j (by simpa [monthBytes, monthNames] using hj)]; simp only [monthBytes, List.getD_eq_getElem?_getD, List.getElem?_map]; rw [List.getElem?_eq_getElem (by simpa [monthBytes] using hj)]; rfl)).mono ?_
                rintro e w' ⟨rfl, hw⟩
                obtain rfl : W = w' := hw.symm
                rw [show List.take 12 monthBytes = monthBytes from rfl, HIX.out]
                refine ⟨_, rfl, ?_⟩
                refine hK.out _ _ ⟨(blk_cell B5 0).trans K0.out, (blk_cell B5 1).trans K1.out, (blk_cell B5 2).trans K2.out, (blk_cell B5 3).trans K3.out, (blk_cell B5 4).trans K4.out, (blk_cell BL2 2).trans rfl⟩ (fun hHeld => ?_)
                clear hK K
                refine norm_ (a' := ?_) ?_ ?_
                rotate_left
                · show Act.put _ (some 64) _ = _
                  simp only [Act.put, List.setIfInBounds_toArray, List.set_cons_zero, List.set_cons_succ]
                  rfl
                refine pure_ (i := 8) (N := some 65) (v := ?_) (a' := ?_) #[true, true, true, true, true, true, true, true, true, true, true, true, true, true, true, true, true, true, true, true, true, false, true, false] rfl rfl (by kernel_rfl) (fun _ _ _ h => h) (Or.inl ⟨by rfl, ?_⟩) ?_ ?_
                rotate_left
                · intro w'
                  go_simp
                  with_reducible rfl
                rotate_left
                · simp only [Act.put, List.setIfInBounds_toArray, List.set_cons_zero, List.set_cons_succ]
                  rfl
                refine pure_ (i := 21) (N := some 78) (v := ?_) (a' := ?_) #[true, true, true, true, true, true, true, true, true, true, true, true, true, true, true, true, true, true, true, true, true, true, true, false] rfl rfl (by kernel_rfl) (fun _ _ _ h => h) (Or.inl ⟨by rfl, ?_⟩) ?_ ?_
                rotate_left
                · intro w'
                  go_simp
                  with_reducible rfl
                rotate_left
                · simp only [Act.put, List.setIfInBounds_toArray, List.set_cons_zero, List.set_cons_succ]
                  rfl
                refine norm_ (a' := _) ?_ (hcont (bm, bd) _ ⟨BZ, BL2, B5, HB2, by first | assumption | omega⟩)
                simp only [putAll, Act.put, List.setIfInBounds_toArray, List.set_cons_zero, List.set_cons_succ]
                try rfl
            · refine value_ (v := .pointer (some ⟨W.heap.size, 0, none⟩)) (w1 := W.alloc (.cells #[.int .i64 0, .int .i64 0, .int .i64 0, .int .i64 0, .int .i64 0, .int .i64 0] 27)) (by rfl) rfl (by go_simp) ?_
              have hbd := HB2.size
              have BZ := blk_new W (.cells #[.int .i64 0, .int .i64 0, .int .i64 0, .int .i64 0, .int .i64 0, .int .i64 0] 27)
              replace BL2 := blk_alloc BL2 (.cells #[.int .i64 0, .int .i64 0, .int .i64 0, .int .i64 0, .int .i64 0, .int .i64 0] 27)
              replace B5 := blk_alloc B5 (.cells #[.int .i64 0, .int .i64 0, .int .i64 0, .int .i64 0, .int .i64 0, .int .i64 0] 27)
              replace HB2 := HB2.alloc HB2.size (.cells #[.int .i64 0, .int .i64 0, .int .i64 0, .int .i64 0, .int .i64 0, .int .i64 0] 27)
              try (replace BM := blk_alloc BM (.cells #[.int .i64 0, .int .i64 0, .int .i64 0, .int .i64 0, .int .i64 0, .int .i64 0] 27))
              generalize W.heap.size = bd at BZ hbd ⊢
              generalize W.alloc _ = W at *
              refine hK.out _ _ ⟨(blk_cell B5 0).trans K0.out, (blk_cell B5 1).trans K1.out, (blk_cell B5 2).trans K2.out, (blk_cell B5 3).trans K3.out, (blk_cell B5 4).trans K4.out, (blk_cell BL2 2).trans rfl⟩ (fun hHeld => ?_)
              clear hK K
              refine norm_ (a' := ?_) ?_ ?_
              rotate_left
              · show Act.put _ (some 10) _ = _
                simp only [Act.put, List.setIfInBounds_toArray, List.set_cons_zero, List.set_cons_succ]
                rfl
              refine one_ (i := 3) (N := some 60) #[true, true, true, true, true, true, true, false, false, true, true, true, true, true, true, true, true, true, true, true, true, false, true, false] rfl rfl (by kernel_rfl) (by decide) (fun K hK => ?_)
              refine goes_ Tryd.func31 (by kernel_rfl) rfl #[] (by rfl) rfl rfl (by (try simp only [List.map_toArray, List.map_cons, List.map_nil]); first | done | rfl) ?_
              refine (months_calls _ (HE.out.stays HB2)).mono ?_
              rintro e w' ⟨rfl, rfl⟩
              refine ⟨_, rfl, ?_⟩
              have BM := blk_new W (.cells monthCellsS 9)
              replace BL2 := blk_alloc BL2 (.cells monthCellsS 9)
              replace B5 := blk_alloc B5 (.cells monthCellsS 9)
              replace HB2 := HB2.alloc HB2.size (.cells monthCellsS 9)
              try (replace BZ := blk_alloc BZ (.cells monthCellsS 9))
              generalize W.heap.size = bm at BM ⊢
              generalize W.alloc _ = W at *
              refine hK.out _ _ ⟨(blk_cell B5 0).trans K0.out, (blk_cell B5 1).trans K1.out, (blk_cell B5 2).trans K2.out, (blk_cell B5 3).trans K3.out, (blk_cell B5 4).trans K4.out, (blk_cell BL2 2).trans rfl⟩ (fun hHeld => ?_)
              clear hK K
              refine norm_ (a' := ?_) ?_ ?_
              rotate_left
              · show Act.put _ (some 60) _ = _
                simp only [Act.put, List.setIfInBounds_toArray, List.set_cons_zero, List.set_cons_succ]
                rfl
              refine one_ (i := 7) (N := some 64) #[true, true, true, true, true, true, true, true, false, true, true, true, true, true, true, true, true, true, true, true, true, false, true, false] rfl rfl (by kernel_rfl) (by decide) (fun K hK => ?_)
              refine goes_ Tryd.func35 (by kernel_rfl) rfl #[.slice (some ⟨bm, 0, none⟩) 12 12, .string l2] (by rfl) rfl rfl (by (try simp only [List.map_toArray, List.map_cons, List.map_nil]); first | done | rfl) ?_
              refine (Tryd.slices_Index_string bm 0 12 12 monthBytes l2 W (by decide) (by decide) (fun j hj => by rw [Nat.zero_add, blk_cell BM j, months_getS j (by simpa [monthBytes, monthNames] using hj)]; simp only [monthBytes, List.getD_eq_getElem?_getD, List.getElem?_map]; rw [List.getElem?_eq_getElem (by simpa [monthBytes] using hj)]; rfl)).mono ?_
              rintro e w' ⟨rfl, hw⟩
              obtain rfl : W = w' := hw.symm
              rw [show List.take 12 monthBytes = monthBytes from rfl, HIX.out]
              refine ⟨_, rfl, ?_⟩
              refine hK.out _ _ ⟨(blk_cell B5 0).trans K0.out, (blk_cell B5 1).trans K1.out, (blk_cell B5 2).trans K2.out, (blk_cell B5 3).trans K3.out, (blk_cell B5 4).trans K4.out, (blk_cell BL2 2).trans rfl⟩ (fun hHeld => ?_)
              clear hK K
              refine norm_ (a' := ?_) ?_ ?_
              rotate_left
              · show Act.put _ (some 64) _ = _
                simp only [Act.put, List.setIfInBounds_toArray, List.set_cons_zero, List.set_cons_succ]
                rfl
              refine pure_ (i := 8) (N := some 65) (v := ?_) (a' := ?_) #[true, true, true, true, true, true, true, true, true, true, true, true, true, true, true, true, true, true, true, true, true, false, true, false] rfl rfl (by kernel_rfl) (fun _ _ _ h => h) (Or.inl ⟨by rfl, ?_⟩) ?_ ?_
              rotate_left
              · intro w'
                go_simp
                with_reducible rfl
              rotate_left
              · simp only [Act.put, List.setIfInBounds_toArray, List.set_cons_zero, List.set_cons_succ]
                rfl
              refine pure_ (i := 21) (N := some 78) (v := ?_) (a' := ?_) #[true, true, true, true, true, true, true, true, true, true, true, true, true, true, true, true, true, true, true, true, true, true, true, false] rfl rfl (by kernel_rfl) (fun _ _ _ h => h) (Or.inl ⟨by rfl, ?_⟩) ?_ ?_
              rotate_left
              · intro w'
                go_simp
                with_reducible rfl
              rotate_left
              · simp only [Act.put, List.setIfInBounds_toArray, List.set_cons_zero, List.set_cons_succ]
                rfl
              refine norm_ (a' := _) ?_ (hcont (bm, bd) _ ⟨BZ, BL2, B5, HB2, by first | assumption | omega⟩)
              simp only [putAll, Act.put, List.setIfInBounds_toArray, List.set_cons_zero, List.set_cons_succ]
              try rfl
          case cont =>
            clear BL2 B5 HB2
            rintro ⟨bm, bd⟩ W ⟨BZ, BL2, B5, HB2, hbd⟩
            simp only [] at BZ hbd
            have hHeld : W.cell? ⟨g5, 0, none⟩ = some (.int .i64 v0) ∧ W.cell? ⟨g5, 1, none⟩ = some (.int .i64 v1) ∧ W.cell? ⟨g5, 2, none⟩ = some (.int .i64 v2) ∧ W.cell? ⟨g5, 3, none⟩ = some (.int .i64 v3) ∧ W.cell? ⟨g5, 4, none⟩ = some (.int .i64 v4) ∧ W.cell? ⟨b, 2, none⟩ = some (.string l2) := ⟨(blk_cell B5 0).trans K0.out, (blk_cell B5 1).trans K1.out, (blk_cell B5 2).trans K2.out, (blk_cell B5 3).trans K3.out, (blk_cell B5 4).trans K4.out, (blk_cell BL2 2).trans rfl⟩
            refine norm_ (a' := ?_) ?_ ?_
            rotate_left
            · simp only [putAll, Act.put, List.setIfInBounds_toArray, List.set_cons_zero, List.set_cons_succ]
              rfl
            have z0 := blk_cell BZ 0
            have z1' := blk_cell BZ 1
            have z2' := blk_cell BZ 2
            have z3' := blk_cell BZ 3
            have z4' := blk_cell BZ 4
            have z5' := blk_cell BZ 5
            simp at z0 z1' z2' z3' z4' z5'
            have fz := blk_frozen BZ
            have ne1 : b ≠ bd := blk_ne BL2 BZ (by decide)
            have ne2 : g5 ≠ bd := blk_ne B5 BZ (by decide)
            refine one_ (i := 23) (N := none) #[true, true, true, true, true, true, true, true, true, true, true, true, true, true, true, true, true, true, true, true, true, true, true, true] rfl rfl (by kernel_rfl) (by decide) (fun K hK => ?_)
            refine skip_ (w1 := (((((W.setCell ⟨bd, 0, none⟩ (.int .i64 v0)).setCell ⟨bd, 1, none⟩ (.int .i64 (ix + 1))).setCell ⟨bd, 2, none⟩ (.int .i64 v1)).setCell ⟨bd, 3, none⟩ (.int .i64 v2)).setCell ⟨bd, 4, none⟩ (.int .i64 v3)).setCell ⟨bd, 5, none⟩ (.int .i64 v4)) (by rfl) rfl (by go_simp) ?_
            replace BL2 := blk_far (blk_far (blk_far (blk_far (blk_far (blk_far BL2 (p := ⟨bd, 0, none⟩) ne1 (.int .i64 v0)) (p := ⟨bd, 1, none⟩) ne1 (.int .i64 (ix + 1))) (p := ⟨bd, 2, none⟩) ne1 (.int .i64 v1)) (p := ⟨bd, 3, none⟩) ne1 (.int .i64 v2)) (p := ⟨bd, 4, none⟩) ne1 (.int .i64 v3)) (p := ⟨bd, 5, none⟩) ne1 (.int .i64 v4)
            replace B5 := blk_far (blk_far (blk_far (blk_far (blk_far (blk_far B5 (p := ⟨bd, 0, none⟩) ne2 (.int .i64 v0)) (p := ⟨bd, 1, none⟩) ne2 (.int .i64 (ix + 1))) (p := ⟨bd, 2, none⟩) ne2 (.int .i64 v1)) (p := ⟨bd, 3, none⟩) ne2 (.int .i64 v2)) (p := ⟨bd, 4, none⟩) ne2 (.int .i64 v3)) (p := ⟨bd, 5, none⟩) ne2 (.int .i64 v4)
            replace BZ := blk_put (cs := #[.int .i64 v0, .int .i64 (ix + 1), .int .i64 v1, .int .i64 v2, .int .i64 v3, .int .i64 0]) (blk_put (cs := #[.int .i64 v0, .int .i64 (ix + 1), .int .i64 v1, .int .i64 v2, .int .i64 0, .int .i64 0]) (blk_put (cs := #[.int .i64 v0, .int .i64 (ix + 1), .int .i64 v1, .int .i64 0, .int .i64 0, .int .i64 0]) (blk_put (cs := #[.int .i64 v0, .int .i64 (ix + 1), .int .i64 0, .int .i64 0, .int .i64 0, .int .i64 0]) (blk_put (cs := #[.int .i64 v0, .int .i64 0, .int .i64 0, .int .i64 0, .int .i64 0, .int .i64 0]) (blk_put BZ 0 (.int .i64 v0) rfl) 1 (.int .i64 (ix + 1)) rfl) 2 (.int .i64 v1) rfl) 3 (.int .i64 v2) rfl) 4 (.int .i64 v3) rfl) 5 (.int .i64 v4) rfl
            replace HB2 := (((((HB2.setCell (p := ⟨bd, 0, none⟩) hbd (.int .i64 v0)).setCell (p := ⟨bd, 1, none⟩) hbd (.int .i64 (ix + 1))).setCell (p := ⟨bd, 2, none⟩) hbd (.int .i64 v1)).setCell (p := ⟨bd, 3, none⟩) hbd (.int .i64 v2)).setCell (p := ⟨bd, 4, none⟩) hbd (.int .i64 v3)).setCell (p := ⟨bd, 5, none⟩) hbd (.int .i64 v4)
            generalize World.setCell _ _ _ = W at BL2 B5 BZ HB2 ⊢
            refine hK.out _ _ ⟨(blk_cell B5 0).trans K0.out, (blk_cell B5 1).trans K1.out, (blk_cell B5 2).trans K2.out, (blk_cell B5 3).trans K3.out, (blk_cell B5 4).trans K4.out, (blk_cell BL2 2).trans rfl⟩ (fun hHeld => ?_)
            clear hK K z0 z1' z2' z3' z4' z5' fz
            refine done_ (by kernel_rfl) ?_
            replace BZ : W.heap[bd]? = some (.cells #[.int .i64 v0, .int .i64 (ix + 1), .int .i64 v1, .int .i64 v2, .int .i64 v3, .int .i64 v4] 27 (0, 0)) := BZ
            have d0 := blk_cell BZ 0
            have d1 := blk_cell BZ 1
            have d2 := blk_cell BZ 2
            have d3 := blk_cell BZ 3
            have d4 := blk_cell BZ 4
            have d5 := blk_cell BZ 5
            simp at d0 d1 d2 d3 d4 d5
            by_cases hv : Cal.Valid v0 (ix + 1) v1 v2 v3 v4
            · go_wp2_with fail
              refine (number_valid _ _ _ _ _ _ _ hv).mono ?_
              rintro e w1 ⟨rfl, hb1⟩
              have hE3 := (HE.out.stays HB2).stays hb1
              have HB3 := HB2.trans (hb1.mono HB2.size)
              have nb := Cal.num_bd hv
              have HVV := Lib.hid hv
              clear hv hb1
              go_wp2_with fail
              refine (format_yes _ w1 hE3 nb.1 nb.2).mono ?_
              rintro e w2 ⟨t, rfl, hT, hb2⟩
              have HB4 := HB3.trans (hb2.mono HB3.size)
              have HT := Lib.hid hT
              clear hT hb2 HB3 hE3 nb
              by_cases ht : t = s.data.toList
              · have HTE := Lib.hid ht
                have c1 : (!t == s.toList) = false := by rw [bytes_toList]; simp [ht]
                have c2 : (t == s.toList) = true := by rw [bytes_toList]; simp [ht]
                clear ht
                go_wp2_with fail
                go_ret2
                exact ⟨.inl ⟨_, rfl, by rw [← HTE.out]; exact HT.out⟩, HB4⟩
              · have c1 : (!t == s.toList) = true := by rw [bytes_toList]; simp [ht]
                have c2 : (t == s.toList) = false := by rw [bytes_toList]; simp [ht]
                have HTE := Lib.hid ht
                clear ht
                go_wp2_with fail
                go_ret2
                refine ⟨.inr ⟨rfl, fun n hn => ?_⟩, HB4⟩
                obtain ⟨_, he⟩ := parse_date HP.out HMM.out HRE.out HIX.out HV.out hn
                exact HTE.out (text_one HT.out hn he)
            · have HNV := Lib.hid hv
              clear hv
              go_wp2_with fail
              refine (number_no _ _ _ _ _ _ _ HNV.out).mono ?_
              rintro e w1 ⟨rfl, hb1⟩
              go_wp2_with fail
              go_ret2
              exact ⟨.inr ⟨rfl, fun n hn => HNV.out (parse_date HP.out HMM.out HRE.out HIX.out HV.out hn).1⟩, HB2.trans (hb1.mono HB2.size)⟩
        · have b5 : ((R.length : Int) != 5) = true := by simp; omega
          clear hown
          go_wp2_with fail
          go_ret2
          refine ⟨.inr ⟨rfl, fun n hT => ?_⟩, HB2⟩
          obtain ⟨y, m, d, h, mi, t, v, _, _, hq⟩ := parse_parts HP.out HMM.out hT
          rw [HRE.out] at hq
          apply h5
          rw [← List.length_map (f := fun x : ByteArray => x.data.toList), hq]; rfl
theorem parse_calls (s : ByteArray) (w : World) (hE : Env w) (hs : s.size < 4294967281) :
    Calls Tryd.prog 20 #[.string s] w (ParsePost s w) := by
  by_cases h : Lib.countB s ⟨#[32]⟩ + 1 = 6 ∧ s.size = 29
  · exact parse_main s w hE hs h.1 h.2
  · exact parse_form s w hE hs h
end Go.Proofs.YtdppkhimnhfjoaaDoor
