/- Plain facts on the texts of dates: digits, names. No program in sight. -/
import Derived.Lib.ItoaNum
import Derived.Lib.Repeat
namespace Go.Proofs.YtdppkhimnhfjoaaDoor.Text
def digs : Nat → Nat → List UInt8
  | _, 0 => []
  | n, k + 1 => digs (n / 10) k ++ [UInt8.ofNat (48 + n % 10)]
theorem digs_length : ∀ (k n : Nat), (digs n k).length = k
  | 0, _ => rfl
  | k + 1, n => by simp [digs, digs_length k]
theorem digs_zero : ∀ k : Nat, digs 0 k = List.replicate k 48
  | 0 => rfl
  | k + 1 => by rw [digs, digs_zero k, List.replicate_succ']; rfl
theorem repeat_one (b : UInt8) : ∀ c : Nat, Lib.repeatL [b] c = List.replicate c b
  | 0 => rfl
  | c + 1 => by rw [Lib.repeatL, repeat_one b c, List.replicate_succ]; rfl
theorem pad_digs : ∀ (k n : Nat), 1 ≤ k → n < 10 ^ k → (Lib.decDigits n).length ≤ k ∧ List.replicate (k - (Lib.decDigits n).length) 48 ++ Lib.decDigits n = digs n k
  | 0, _, h, _ => absurd h (by omega)
  | k + 1, n, _, h => by
    by_cases h10 : n < 10
    · have e : Lib.decDigits n = [UInt8.ofNat (48 + n)] := Lib.decDigits_one h10
      rw [e]
      refine ⟨by simp, ?_⟩
      rw [digs, show n / 10 = 0 from by omega, show n % 10 = n from by omega, digs_zero]
      simp
    · have hk : 1 ≤ k := by
        rcases Nat.eq_zero_or_pos k with rfl | q
        · simp at h; omega
        · exact q
      have hn : n / 10 < 10 ^ k := by
        rw [Nat.pow_succ] at h; omega
      obtain ⟨i1, i2⟩ := pad_digs k (n / 10) hk hn
      have e : Lib.decDigits n = Lib.decDigits (n / 10) ++ [UInt8.ofNat (48 + n % 10)] := by rw [Lib.decDigits, dif_neg h10]
      rw [e]
      refine ⟨by simp; omega, ?_⟩
      rw [digs, ← i2]
      simp
end Go.Proofs.YtdppkhimnhfjoaaDoor.Text
