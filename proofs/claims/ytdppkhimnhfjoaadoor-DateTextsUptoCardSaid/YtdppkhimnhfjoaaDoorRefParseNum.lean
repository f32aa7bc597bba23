/- The reference's number, walked: of a text of digits, its number; else 0. -/
import Derived.Test.YtdppkhimnhfjoaaDoorText
import Derived.Test.YtdppkhimnhfjoaaDoorDays
import Derived.Test.YtdppkhimnhfjoaaDoorRefDays
set_option linter.unusedSimpArgs false
set_option linter.unusedVariables false
namespace Go.Proofs.YtdppkhimnhfjoaaDoor
open Go.RowKit
namespace Text
/-- The number that a text tells; 0, if it is no text of digits. -/
def numAt : List UInt8 → Int → Int
  | [], n => n
  | c :: r, n => if c.toNat < 48 ∨ 57 < c.toNat then 0 else numAt r (n * 10 + ((c.toNat : Int) - 48))
theorem numAt_append (b : List UInt8) : ∀ (a : List UInt8) (n : Int), (∀ c ∈ a, 48 ≤ c.toNat ∧ c.toNat ≤ 57) → numAt (a ++ b) n = numAt b (numAt a n)
  | [], _, _ => rfl
  | c :: a, n, h => by
    have := h c (by simp)
    rw [List.cons_append, numAt, if_neg (by omega), numAt, if_neg (by omega)]
    exact numAt_append b a _ (fun x hx => h x (by simp [hx]))
theorem digs_digit : ∀ (k v : Nat), ∀ c ∈ digs v k, 48 ≤ c.toNat ∧ c.toNat ≤ 57
  | 0, _, c, h => by cases h
  | k + 1, v, c, h => by
    rw [digs, List.mem_append] at h
    rcases h with h | h
    · exact digs_digit k _ c h
    · have e : c = UInt8.ofNat (48 + v % 10) := by simpa using h
      have : c.toNat = 48 + v % 10 := by rw [e]; simp; omega
      omega
theorem numAt_digs : ∀ (k v : Nat), v < 10 ^ k → numAt (digs v k) 0 = v
  | 0, v, h => by
    have : v = 0 := by simpa using h
    subst this; rfl
  | k + 1, v, h => by
    have hk : v / 10 < 10 ^ k := by rw [Nat.pow_succ] at h; omega
    rw [digs, numAt_append _ _ _ (digs_digit k _), numAt_digs k _ hk]
    have e : (UInt8.ofNat (48 + v % 10)).toNat = 48 + v % 10 := by simp; omega
    rw [numAt, e, if_neg (by omega), numAt]
    omega
end Text
set_option maxHeartbeats 4000000 in
set_option maxRecDepth 100000 in
theorem rnum_calls (s : ByteArray) (hs : s.size ≤ 18) (w : World) :
    Calls Tryd.prog 36 #[.string s] w fun e w' => e = .returned (.int .i64 (Text.numAt s.data.toList 0)) ∧ w = w' := by
  go_enter Tryd.func36, Tryd.ntmps36
  go_wp2_with fail
  go_loop [3, 4] (fun nv iv => ∃ (j : Nat) (n : Int), j ≤ s.size ∧ 0 ≤ n ∧ n < ((10 ^ j : Nat) : Int) ∧ nv = .int .i64 n ∧ iv = .int .i64 (j : Int) ∧ Text.numAt (s.data.toList.drop j) n = Text.numAt s.data.toList 0) (fun _ iv => s.size - (intOf iv).toNat)
  case atStart => exact ⟨0, 0, by omega, by omega, by simp, rfl, rfl, rfl⟩
  case round =>
    obtain ⟨j, n, hj, n0, n1, rfl, rfl, hN⟩ := hrel
    by_cases hjs : j < s.size
    · have js : (j : Int) < (s.size : Int) := by omega
      have hx : s.data.toList.drop j = s[j] :: s.data.toList.drop (j + 1) := List.drop_eq_getElem_cons (l := s.data.toList) (by simpa using hjs)
      obtain ⟨c, hc⟩ : ∃ c : UInt8, s[j] = c := ⟨_, rfl⟩
      rw [hc] at hx
      rw [hx] at hN
      have p10 : 10 ^ j ≤ 10 ^ 17 := Nat.pow_le_pow_right (by omega) (by omega)
      have p1 : n < 100000000000000000 := by omega
      have cb := c.toNat_lt
      by_cases c1 : c.toNat < 48
      · have q1 : ((c.toNat : Int) < 48) := by omega
        have he : Text.numAt s.data.toList 0 = 0 := by rw [← hN, Text.numAt, if_pos (.inl c1)]
        clear hN n1 hx p10
        go_wp2_with fail
        go_ret
        exact ⟨rfl, rfl⟩
      · by_cases c2 : 57 < c.toNat
        · have q1 : ¬ ((c.toNat : Int) < 48) := by omega
          have q2 : (57 < (c.toNat : Int)) := by omega
          have he : Text.numAt s.data.toList 0 = 0 := by rw [← hN, Text.numAt, if_pos (.inr c2)]
          clear hN n1 hx p10
          go_wp2_with fail
          go_ret
          exact ⟨rfl, rfl⟩
        · have q1 : ¬ ((c.toNat : Int) < 48) := by omega
          have q2 : ¬ (57 < (c.toNat : Int)) := by omega
          have w1 : IntKind.i64.wrap (n * 10) = n * 10 := IntWalk.i64_in _ (by omega)
          have w2 : IntKind.u8.wrap ((c.toNat : Int) - 48) = (c.toNat : Int) - 48 := by simp [IntKind.wrap, IntKind.signed, IntKind.bits]; omega
          have w3 : IntKind.i64.wrap ((c.toNat : Int) - 48) = (c.toNat : Int) - 48 := IntWalk.i64_in _ (by omega)
          have w4 : IntKind.i64.wrap (n * 10 + ((c.toNat : Int) - 48)) = n * 10 + ((c.toNat : Int) - 48) := IntWalk.i64_in _ (by omega)
          rw [Text.numAt, if_neg (by omega)] at hN
          have HN := Lib.hid hN
          have H1 := Lib.hid n1
          clear hN n1 hx p10
          go_wp2_with fail
          refine ⟨⟨j + 1, n * 10 + ((c.toNat : Int) - 48), by omega, by omega, ?_, rfl, by simp, HN.out⟩, by simp [intOf]; omega⟩
          have := H1.out
          rw [Nat.pow_succ]
          omega
    · obtain rfl : j = s.size := by omega
      have he : Text.numAt s.data.toList 0 = n := by
        rw [← hN, List.drop_eq_nil_of_le (by simp)]
        rfl
      clear hN n1
      go_wp2_with fail
      go_ret
      exact ⟨rfl, rfl⟩
end Go.Proofs.YtdppkhimnhfjoaaDoor
