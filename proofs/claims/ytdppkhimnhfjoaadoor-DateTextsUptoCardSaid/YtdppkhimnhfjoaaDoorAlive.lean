/- alive, theirs and ours of the statements of layer 16. -/
import Derived.Test.YtdppkhimnhfjoaaDoorParse
set_option linter.unusedSimpArgs false
set_option linter.unusedVariables false
namespace Go.Proofs.YtdppkhimnhfjoaaDoor
open Go.RowKit Go.Proofs.YtdppkhimnhfjoaaDoorW.PrintWords
theorem digs_inj {k a b : Nat} (hk : 1 ≤ k) (hk18 : k ≤ 18) (ha : a < 10 ^ k) (hb : b < 10 ^ k) (h : Text.digs a k = Text.digs b k) : a = b := by
  have h1 := Text.atoi_digs k a hk hk18 ha
  rw [h, Text.atoi_digs k b hk hk18 hb] at h1
  injection h1 with h1
  omega
/-- A text is the text of one number. -/
theorem number_one {n n' : Int} {t : List UInt8} (h : IsText n t) (h' : IsText n' t) : n = n' := by
  obtain ⟨y, m, d, hh, mi, s, v, hn, ht⟩ := h
  obtain ⟨y', m', d', hh', mi', s', v', hn', ht'⟩ := h'
  have e := textOf_split y m d hh mi s (wday n).toNat
  have e' := textOf_split y' m' d' hh' mi' s' (wday n').toNat
  rw [← ht, ht', e'] at e
  simp only [List.cons.injEq, and_true] at e
  obtain ⟨_, e1, e2, e3, e4⟩ := e
  have c := clock_split hh mi s
  rw [← e4, clock_split] at c
  simp only [List.cons.injEq, and_true] at c
  obtain ⟨c1, c2, c3⟩ := c
  have dm := Cal.dim_bd y m
  have dm' := Cal.dim_bd y' m'
  have h1 := v.y1; have h2 := v.d1; have h3 := v.h1; have h4 := v.i1; have h5 := v.s1; have m0 := v.m0; have m1 := v.m1
  have h1' := v'.y1; have h2' := v'.d1; have h3' := v'.h1; have h4' := v'.i1; have h5' := v'.s1; have m0' := v'.m0; have m1' := v'.m1
  have q1 : d' = d := digs_inj (k := 2) (by omega) (by omega) (by omega) (by omega) e1
  have q2 : y' = y := digs_inj (k := 4) (by omega) (by omega) (by omega) (by omega) e3
  have q3 : hh' = hh := digs_inj (k := 2) (by omega) (by omega) (by omega) (by omega) c1
  have q4 : mi' = mi := digs_inj (k := 2) (by omega) (by omega) (by omega) (by omega) c2
  have q5 : s' = s := digs_inj (k := 2) (by omega) (by omega) (by omega) (by omega) c3
  have i1 := month_index (m - 1) (by omega) ⟨(monthNames.getD (m - 1) []).toArray⟩ rfl
  rw [← e2, month_index (m' - 1) (by omega) _ rfl] at i1
  have q6 : m' = m := by omega
  subst q1 q2 q3 q4 q5 q6
  rw [← hn, ← hn']
def aliveText : List UInt8 := [83, 117, 110, 44, 32, 48, 54, 32, 78, 111, 118, 32, 49, 57, 57, 52, 32, 48, 56, 58, 52, 57, 58, 51, 55, 32, 71, 77, 84]
theorem alive_text : IsText 784111777 aliveText :=
  ⟨1994, 11, 6, 8, 49, 37, ⟨by decide, by decide, by decide, by decide, by decide, by decide, by decide, by decide, by decide, by decide, by decide, by decide⟩, by decide, by decide⟩
set_option maxHeartbeats 1000000 in
set_option maxRecDepth 100000 in
theorem alive_calls (w : World) (hE : Env w) :
    Calls Tryd.prog 17 #[] w fun e w' => e = .returned (.bool true) ∧ Below w.heap.size w w' := by
  have HE := Lib.hid hE
  clear hE
  go_enter Tryd.func17, Tryd.ntmps17
  go_wp2_with fail
  refine (format_yes 784111777 w HE.out (by decide) (by decide)).mono ?_
  rintro e w1 ⟨t, rfl, hT, hb⟩
  obtain rfl : aliveText = t := (text_one hT alive_text rfl).symm
  clear hT
  go_wp2_with fail
  refine (parse_calls ⟨aliveText.toArray⟩ w1 (HE.out.stays hb) (by decide)).mono ?_
  rintro e w2 ⟨⟨n, rfl, hT⟩ | ⟨_, hT⟩, hb2⟩
  · obtain rfl : 784111777 = n := number_one alive_text hT
    clear hT
    go_wp2_with fail
    go_ret
    exact ⟨rfl, hb.trans (hb2.mono hb.size)⟩
  · exact absurd alive_text (hT _)
set_option maxHeartbeats 1000000 in
set_option maxRecDepth 100000 in
theorem theirs_calls (y m d h mi s : Int) (w : World) :
    Calls Tryd.prog 10 #[.agg #[.int .i64 y, .int .i64 m, .int .i64 d, .int .i64 h, .int .i64 mi, .int .i64 s]] w fun e w' => e = .returned (.agg #[.int .i64 y, .int .i64 m, .int .i64 d, .int .i64 h, .int .i64 mi, .int .i64 s]) ∧ Below w.heap.size w w' := by
  go_enter Tryd.func10, Tryd.ntmps10
  go_wp2
  refine bodyPost_ret (v := .agg #[.int .i64 y, .int .i64 m, .int .i64 d, .int .i64 h, .int .i64 mi, .int .i64 s]) (by simp [results, Tryd.results10, go_sem]) rfl ⟨rfl, ((Below.refl _ _).alloc (Nat.le_refl _) _).alloc (by simp) _⟩
set_option maxHeartbeats 1000000 in
set_option maxRecDepth 100000 in
theorem ours_calls (y m d h mi s : Int) (w : World) :
    Calls Tryd.prog 14 #[.agg #[.int .i64 y, .int .i64 m, .int .i64 d, .int .i64 h, .int .i64 mi, .int .i64 s]] w fun e w' => e = .returned (.agg #[.int .i64 y, .int .i64 m, .int .i64 d, .int .i64 h, .int .i64 mi, .int .i64 s]) ∧ Below w.heap.size w w' := by
  go_enter Tryd.func14, Tryd.ntmps14
  go_wp2
  refine bodyPost_ret (v := .agg #[.int .i64 y, .int .i64 m, .int .i64 d, .int .i64 h, .int .i64 mi, .int .i64 s]) (by simp [results, Tryd.results14, go_sem]) rfl ⟨rfl, ((Below.refl _ _).alloc (Nat.le_refl _) _).alloc (by simp) _⟩
end Go.Proofs.YtdppkhimnhfjoaaDoor
