/- DateTold, walked: texts and numbers go over into one another. -/
import Derived.Test.YtdppkhimnhfjoaaDoorAlive
set_option linter.unusedSimpArgs false
set_option linter.unusedVariables false
namespace Go.Proofs.YtdppkhimnhfjoaaDoor
open Go.RowKit
theorem isText_range {n : Int} {t : List UInt8} (h : IsText n t) : -62167219200 ≤ n ∧ n ≤ 253402300799 := by
  obtain ⟨y, m, d, h', mi, s, v, rfl, -⟩ := h
  exact Cal.num_bd v
theorem isText_length {n : Int} {t : List UInt8} (h : IsText n t) : t.length = 29 := by
  obtain ⟨y, m, d, h', mi, s, v, -, rfl⟩ := h
  have := wday_bd n
  have := v.m1
  exact textOf_length _ _ _ _ _ _ _ (by omega) (by omega)
theorem bytes_eq {s : ByteArray} {t : List UInt8} (h : s.data.toList = t) : s = ⟨t.toArray⟩ := by
  obtain ⟨⟨l⟩⟩ := s
  subst h
  rfl
set_option maxHeartbeats 4000000 in
set_option maxRecDepth 100000 in
set_option maxHeartbeats 4000000 in
set_option maxRecDepth 100000 in
theorem told_calls (n : Int) (s : ByteArray) (w : World) (hE : Env w) (hs : s.size ≤ 1048576) :
    Calls Tryd.prog 7 #[.int .i64 n, .string s] w fun e w' => e = .returned (.bool true) ∧ Below w.heap.size w w' := by
  have HE := Lib.hid hE
  clear hE
  by_cases hr : -62167219200 ≤ n ∧ n ≤ 253402300799
  · obtain ⟨r0, r1⟩ := hr
    go_enter Tryd.func7, Tryd.ntmps7
    go_wp2_with fail
    refine (format_yes n w HE.out r0 r1).mono ?_
    rintro e w1 ⟨t, rfl, hT, hb1⟩
    have HT := Lib.hid hT
    have hl := isText_length hT
    have hsz : (⟨t.toArray⟩ : ByteArray).size = 29 := hl
    clear hT
    go_wp2_with fail
    refine (parse_calls ⟨t.toArray⟩ w1 (HE.out.stays hb1) (by omega)).mono ?_
    rintro e w2 ⟨⟨n1, rfl, hT1⟩ | ⟨_, hT1⟩, hb2⟩
    · obtain rfl : n = n1 := number_one HT.out hT1
      clear hT1
      have HB := hb1.trans (hb2.mono hb1.size)
      clear hb1 hb2
      go_wp2_with fail
      refine (parse_calls s w2 (HE.out.stays HB) (by omega)).mono ?_
      rintro e w3 ⟨⟨k, rfl, hK⟩ | ⟨rfl, -⟩, hb3⟩
      · have HB3 := HB.trans (hb3.mono HB.size)
        have HK := Lib.hid hK
        obtain ⟨k0, k1⟩ := isText_range hK
        clear hb3 hK HB
        go_wp2_with fail
        refine (format_yes k w3 (HE.out.stays HB3) k0 k1).mono ?_
        rintro e w4 ⟨t2, rfl, hT2, hb4⟩
        obtain rfl : s = ⟨t2.toArray⟩ := bytes_eq (text_one HK.out hT2 rfl)
        clear hT2
        have HB4 := HB3.trans (hb4.mono HB3.size)
        have hE4 := HE.out.stays HB4
        clear hb4
        go_wp2_with fail
        refine (alive_calls _ hE4).mono ?_
        rintro _ w6 ⟨rfl, hb6⟩
        go_wp2_with fail
        go_ret
        exact ⟨rfl, HB4.trans (hb6.mono HB4.size)⟩
      · have HB3 := HB.trans (hb3.mono HB.size)
        have hE4 := HE.out.stays HB3
        clear hb3
        go_wp2_with fail
        refine (alive_calls _ hE4).mono ?_
        rintro _ w6 ⟨rfl, hb6⟩
        go_wp2_with fail
        go_ret
        exact ⟨rfl, HB3.trans (hb6.mono HB3.size)⟩
    · exact absurd HT.out (hT1 _)
  · have HR := Lib.hid hr
    clear hr
    go_enter Tryd.func7, Tryd.ntmps7
    go_wp2_with fail
    refine (format_no n w HR.out).mono ?_
    rintro e w2 ⟨rfl, HB⟩
    go_wp2_with fail
    refine (parse_calls s w2 (HE.out.stays HB) (by omega)).mono ?_
    rintro e w3 ⟨⟨k, rfl, hK⟩ | ⟨rfl, -⟩, hb3⟩
    · have HB3 := HB.trans (hb3.mono HB.size)
      have HK := Lib.hid hK
      obtain ⟨k0, k1⟩ := isText_range hK
      clear hb3 hK HB
      go_wp2_with fail
      refine (format_yes k w3 (HE.out.stays HB3) k0 k1).mono ?_
      rintro e w4 ⟨t2, rfl, hT2, hb4⟩
      obtain rfl : s = ⟨t2.toArray⟩ := bytes_eq (text_one HK.out hT2 rfl)
      clear hT2
      have HB4 := HB3.trans (hb4.mono HB3.size)
      have hE4 := HE.out.stays HB4
      clear hb4
      go_wp2_with fail
      refine (alive_calls _ hE4).mono ?_
      rintro _ w6 ⟨rfl, hb6⟩
      go_wp2_with fail
      go_ret
      exact ⟨rfl, HB4.trans (hb6.mono HB4.size)⟩
    · have HB3 := HB.trans (hb3.mono HB.size)
      have hE4 := HE.out.stays HB3
      clear hb3
      go_wp2_with fail
      refine (alive_calls _ hE4).mono ?_
      rintro _ w6 ⟨rfl, hb6⟩
      go_wp2_with fail
      go_ret
      exact ⟨rfl, HB3.trans (hb6.mono HB3.size)⟩
end Go.Proofs.YtdppkhimnhfjoaaDoor
