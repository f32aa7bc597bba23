/- Plain facts on texts: splitting at a byte, reading digits, the parts of a date's text. -/
import Derived.Test.YtdppkhimnhfjoaaDoorFormat
import Derived.Lib.SplitLaws
import Derived.Lib.AtoiAllCases
import Derived.Lib.IndexLaws
import Derived.Lib.IndexBytes
import Derived.Lib.SlicesS
namespace Go.Proofs.YtdppkhimnhfjoaaDoor.Text
/-! ### splitting at one byte -/
theorem indexByte_hit (c : UInt8) (r : List UInt8) : ∀ a : List UInt8, c ∉ a → Lib.indexByte (a ++ c :: r) c = a.length
  | [], _ => by simp [Lib.indexByte]
  | b :: a, h => by
    have hb : (b == c) = false := beq_eq_false_iff_ne.2 (fun e => h (by simp [e]))
    have ih := indexByte_hit c r a (fun q => h (by simp [q]))
    simp only [List.cons_append, Lib.indexByte, hb, ih]
    rw [if_neg (by simp), if_neg (by simp)]
    simp
theorem indexByte_miss (c : UInt8) : ∀ a : List UInt8, c ∉ a → Lib.indexByte a c = -1
  | [], _ => rfl
  | b :: a, h => by
    have hb : (b == c) = false := beq_eq_false_iff_ne.2 (fun e => h (by simp [e]))
    simp only [Lib.indexByte, hb, indexByte_miss c a (fun q => h (by simp [q]))]
    rfl
theorem splitK_hit (c : UInt8) (a r : List UInt8) (k : Nat) (h : c ∉ a) : Lib.splitK [c] 0 (k + 1) (a ++ c :: r) = a :: Lib.splitK [c] 0 k r := by
  have e : Lib.index (a ++ c :: r) [c] = a.length := by rw [Lib.index_one, indexByte_hit c r a h]
  simp only [Lib.splitK, e]
  rw [if_neg (by simp)]
  simp
theorem splitK_miss (c : UInt8) (a : List UInt8) (k : Nat) (h : c ∉ a) : Lib.splitK [c] 0 k a = [a] := by
  cases k with
  | zero => rfl
  | succ k => simp only [Lib.splitK, Lib.index_one, indexByte_miss c a h]; rfl
theorem split_cons (c : UInt8) (a r : List UInt8) (h : c ∉ a) : Lib.split (a ++ c :: r) [c] = a :: Lib.split r [c] := by
  have e : Lib.count (a ++ c :: r) [c] = Lib.count r [c] + 1 := by
    rw [Lib.count_one, Lib.count_one, List.count_append, List.count_cons_self, List.count_eq_zero.2 h]; omega
  unfold Lib.split
  rw [e, splitK_hit c a r _ h]
theorem split_last (c : UInt8) (a : List UInt8) (h : c ∉ a) : Lib.split a [c] = [a] := splitK_miss c a _ h
/-! ### digits -/
theorem digs_byte : ∀ (k n : Nat) (b : UInt8), b ∈ digs n k → 48 ≤ b.toNat ∧ b.toNat ≤ 57
  | 0, _, _, h => by simp [digs] at h
  | k + 1, n, b, h => by
    rw [digs, List.mem_append] at h
    rcases h with h | h
    · exact digs_byte k _ b h
    · simp only [List.mem_singleton] at h
      subst h
      have : (UInt8.ofNat (48 + n % 10)).toNat = 48 + n % 10 := by rw [UInt8.toNat_ofNat']; omega
      omega
theorem digs_no (k n : Nat) (b : UInt8) (h : b.toNat < 48 ∨ 57 < b.toNat) : b ∉ digs n k := fun q => by have := digs_byte k n b q; omega
theorem parse_append : ∀ (l r : List UInt8) (acc u : Nat), Lib.parseUint10 acc l = .ok u → Lib.parseUint10 acc (l ++ r) = Lib.parseUint10 u r
  | [], _, _, _, h => by simp only [Lib.parseUint10] at h; injection h with h; rw [h]; rfl
  | c :: l, r, acc, u, h => by
    simp only [Lib.parseUint10, List.cons_append] at h ⊢
    split at h
    · rename_i h1
      rw [if_pos h1]
      split at h
      · cases h
      · rename_i h2
        rw [if_neg h2]
        split at h
        · cases h
        · rename_i h3
          rw [if_neg h3]
          exact parse_append l r _ u h
    · cases h
theorem parse_digs : ∀ (k n : Nat), n < 10 ^ k → k ≤ 18 → Lib.parseUint10 0 (digs n k) = .ok n
  | 0, n, h, _ => by simp at h; subst h; rfl
  | k + 1, n, h, hk => by
    have h1 : n / 10 < 10 ^ k := by rw [Nat.pow_succ] at h; omega
    have hp : 10 ^ k ≤ 10 ^ 17 := Nat.pow_le_pow_right (by decide) (by omega)
    have e17 : (10 : Nat) ^ 17 = 100000000000000000 := by decide
    rw [digs, parse_append _ _ 0 (n / 10) (parse_digs k (n / 10) h1 (by omega))]
    have e : (UInt8.ofNat (48 + n % 10)).toNat = 48 + n % 10 := by rw [UInt8.toNat_ofNat']; omega
    simp only [Lib.parseUint10, e]
    rw [if_pos (by omega), if_neg (by omega), if_neg (by omega)]
    congr 1; omega
theorem atoi_digs (k n : Nat) (hk : 1 ≤ k) (hk18 : k ≤ 18) (h : n < 10 ^ k) : Lib.atoiAll (digs n k) = .ok (n : Int) := by
  have hp : 10 ^ k ≤ 10 ^ 18 := Nat.pow_le_pow_right (by decide) (by omega)
  have e18 : (10 : Nat) ^ 18 = 1000000000000000000 := by decide
  obtain ⟨c, r, e⟩ : ∃ c r, digs n k = c :: r := by
    cases hd : digs n k with
    | nil => have := digs_length k n; rw [hd] at this; simp at this; omega
    | cons c r => exact ⟨c, r, rfl⟩
  have hc := digs_byte k n c (by rw [e]; simp)
  rw [e, Lib.atoiAll_plain c r (by omega) (by omega), ← e]
  have hm : Lib.parseMag (digs n k) = .ok n := by
    unfold Lib.parseMag
    rw [if_neg (by rw [e]; simp), parse_digs k n h hk18]
  rw [hm]
  simp only [Lib.signless]
  rw [if_neg (by omega)]
end Go.Proofs.YtdppkhimnhfjoaaDoor.Text
namespace Go.Proofs.YtdppkhimnhfjoaaDoor
/-! ### a date's text -/
theorem dayName_mem (k : Nat) (b : UInt8) (h : b ∈ dayNames.getD k []) : 65 ≤ b.toNat := by
  rcases Nat.lt_or_ge k 7 with q | q
  · have hm : k = 0 ∨ k = 1 ∨ k = 2 ∨ k = 3 ∨ k = 4 ∨ k = 5 ∨ k = 6 := by omega
    rcases hm with rfl | rfl | rfl | rfl | rfl | rfl | rfl <;> simp [dayNames] at h <;> rcases h with rfl | rfl | rfl <;> decide
  · rw [List.getD_eq_getElem?_getD, List.getElem?_eq_none (by simpa [dayNames] using q)] at h; simp at h
theorem monthName_mem (k : Nat) (b : UInt8) (h : b ∈ monthNames.getD k []) : 65 ≤ b.toNat := by
  rcases Nat.lt_or_ge k 12 with q | q
  · have hm : k = 0 ∨ k = 1 ∨ k = 2 ∨ k = 3 ∨ k = 4 ∨ k = 5 ∨ k = 6 ∨ k = 7 ∨ k = 8 ∨ k = 9 ∨ k = 10 ∨ k = 11 := by omega
    rcases hm with rfl | rfl | rfl | rfl | rfl | rfl | rfl | rfl | rfl | rfl | rfl | rfl <;> simp [monthNames] at h <;> rcases h with rfl | rfl | rfl <;> decide
  · rw [List.getD_eq_getElem?_getD, List.getElem?_eq_none (by simpa [monthNames] using q)] at h; simp at h
theorem dayName_three (k : Nat) (h : k < 7) : (dayNames.getD k []).length = 3 := by
  have hm : k = 0 ∨ k = 1 ∨ k = 2 ∨ k = 3 ∨ k = 4 ∨ k = 5 ∨ k = 6 := by omega
  rcases hm with rfl | rfl | rfl | rfl | rfl | rfl | rfl <;> rfl
theorem monthName_three (k : Nat) (h : k < 12) : (monthNames.getD k []).length = 3 := by
  have hm : k = 0 ∨ k = 1 ∨ k = 2 ∨ k = 3 ∨ k = 4 ∨ k = 5 ∨ k = 6 ∨ k = 7 ∨ k = 8 ∨ k = 9 ∨ k = 10 ∨ k = 11 := by omega
  rcases hm with rfl | rfl | rfl | rfl | rfl | rfl | rfl | rfl | rfl | rfl | rfl | rfl <;> rfl
theorem textOf_length (y m d h mi s wd : Nat) (h1 : wd < 7) (h2 : m - 1 < 12) : (textOf y m d h mi s wd).length = 29 := by
  unfold textOf
  simp only [List.length_append, dayName_three wd h1, monthName_three _ h2, Text.digs_length, List.length_cons, List.length_nil]
theorem textOf_split (y m d h mi s wd : Nat) : Lib.split (textOf y m d h mi s wd) [32] =
    [dayNames.getD wd [] ++ [44], Text.digs d 2, monthNames.getD (m - 1) [], Text.digs y 4, Text.digs h 2 ++ ([58] ++ (Text.digs mi 2 ++ ([58] ++ Text.digs s 2))), [71, 77, 84]] := by
  have hd : ∀ k n, (32 : UInt8) ∉ Text.digs n k := fun k n => Text.digs_no k n 32 (by decide)
  have h1 : (32 : UInt8) ∉ dayNames.getD wd [] ++ [44] := by
    intro q; rw [List.mem_append] at q
    rcases q with q | q
    · exact absurd (dayName_mem wd 32 q) (by decide)
    · simp at q
  have h2 : (32 : UInt8) ∉ monthNames.getD (m - 1) [] := fun q => absurd (monthName_mem _ 32 q) (by decide)
  have h3 : (32 : UInt8) ∉ Text.digs h 2 ++ ([58] ++ (Text.digs mi 2 ++ ([58] ++ Text.digs s 2))) := by
    simp only [List.mem_append, not_or]
    exact ⟨hd _ _, by decide, hd _ _, by decide, hd _ _⟩
  unfold textOf
  simp only [List.cons_append, List.nil_append]
  rw [Text.split_cons 32 _ _ (by simpa using h1), Text.split_cons 32 _ _ (hd _ _), Text.split_cons 32 _ _ h2, Text.split_cons 32 _ _ (hd _ _), Text.split_cons 32 _ _ (by simpa using h3), Text.split_last 32 _ (by decide)]
theorem clock_split (h mi s : Nat) : Lib.split (Text.digs h 2 ++ ([58] ++ (Text.digs mi 2 ++ ([58] ++ Text.digs s 2)))) [58] = [Text.digs h 2, Text.digs mi 2, Text.digs s 2] := by
  have hd : ∀ k n, (58 : UInt8) ∉ Text.digs n k := fun k n => Text.digs_no k n 58 (by decide)
  simp only [List.singleton_append]
  rw [Text.split_cons 58 _ _ (hd _ _), Text.split_cons 58 _ _ (hd _ _), Text.split_last 58 _ (hd _ _)]
theorem splitK_len (sep : List UInt8) : ∀ (k : Nat) (s p : List UInt8), p ∈ Lib.splitK sep 0 k s → p.length ≤ s.length
  | 0, s, p, h => by simp only [Lib.splitK, List.mem_singleton] at h; subst h; exact Nat.le_refl _
  | k + 1, s, p, h => by
    simp only [Lib.splitK] at h
    split at h
    · simp only [List.mem_singleton] at h; subst h; exact Nat.le_refl _
    · rcases List.mem_cons.1 h with h | h
      · subst h; exact List.length_take_le' _ _
      · have := splitK_len sep k _ p h
        simp only [List.length_drop] at this
        omega
/-- The pieces of a text, as the program has them. -/
theorem pieces_data (s : ByteArray) (c : UInt8) : (Lib.splitB ⟨#[c]⟩ 0 (Lib.countB s ⟨#[c]⟩) s).map (·.data.toList) = Lib.split s.data.toList [c] := by
  rw [Lib.splitB_data]; rfl
theorem pieces_len (s : ByteArray) (c : UInt8) : (Lib.splitB ⟨#[c]⟩ 0 (Lib.countB s ⟨#[c]⟩) s).length = Lib.countB s ⟨#[c]⟩ + 1 := Lib.splitB_all _ (by simp [ByteArray.size]) 0 _ _ rfl
theorem pieces_short (s : ByteArray) (c : UInt8) (p : ByteArray) (h : p ∈ Lib.splitB ⟨#[c]⟩ 0 (Lib.countB s ⟨#[c]⟩) s) : p.size ≤ s.size := by
  have h1 : p.data.toList ∈ Lib.split s.data.toList [c] := by rw [← pieces_data]; exact List.mem_map_of_mem h
  have := splitK_len _ _ _ _ h1
  simpa using this
def monthBytes : List ByteArray := monthNames.map fun l => ⟨l.toArray⟩
theorem month_index (k : Nat) (hk : k < 12) (x : ByteArray) (hx : x.data.toList = monthNames.getD k []) : Lib.idxOfS monthBytes x = k := by
  have e : x = ⟨(monthNames.getD k []).toArray⟩ := by apply ByteArray.ext; rw [← hx]
  subst e
  have hm : k = 0 ∨ k = 1 ∨ k = 2 ∨ k = 3 ∨ k = 4 ∨ k = 5 ∨ k = 6 ∨ k = 7 ∨ k = 8 ∨ k = 9 ∨ k = 10 ∨ k = 11 := by omega
  rcases hm with rfl | rfl | rfl | rfl | rfl | rfl | rfl | rfl | rfl | rfl | rfl | rfl <;> decide +kernel
theorem idx_bd : ∀ (l : List ByteArray) (x : ByteArray) (i : Nat), Lib.idxFromS l x i = -1 ∨ (i : Int) ≤ Lib.idxFromS l x i ∧ Lib.idxFromS l x i < i + l.length
  | [], _, _ => .inl rfl
  | z :: l, x, i => by
    simp only [Lib.idxFromS]
    split
    · right; simp; omega
    · rcases idx_bd l x (i + 1) with h | ⟨h1, h2⟩
      · exact .inl h
      · right; simp; omega
theorem month_bd (x : ByteArray) : -1 ≤ Lib.idxOfS monthBytes x ∧ Lib.idxOfS monthBytes x < 12 := by
  rcases idx_bd monthBytes x 0 with h | ⟨h1, h2⟩
  · unfold Lib.idxOfS; omega
  · unfold Lib.idxOfS; simp [monthBytes, monthNames] at h1 h2 ⊢; omega
/-- What a text of a date has for parts. -/
theorem text_parts {n : Int} {s : ByteArray} (hT : IsText n s.data.toList) :
    ∃ y m d h mi t : Nat, Cal.Valid y m d h mi t ∧ Cal.num y m d h mi t = n ∧ s.size = 29 ∧
      Lib.split s.data.toList [32] = [dayNames.getD (wday n).toNat [] ++ [44], Text.digs d 2, monthNames.getD (m - 1) [], Text.digs y 4, Text.digs h 2 ++ ([58] ++ (Text.digs mi 2 ++ ([58] ++ Text.digs t 2))), [71, 77, 84]] := by
  obtain ⟨y, m, d, h, mi, t, v, hn, ht⟩ := hT
  have hw := wday_bd n
  have m0 := v.m0
  have m1 := v.m1
  refine ⟨y, m, d, h, mi, t, v, hn, ?_, by rw [ht]; exact textOf_split _ _ _ _ _ _ _⟩
  have := textOf_length y m d h mi t (wday n).toNat (by omega) (by omega)
  rw [← ht] at this
  simpa using this
theorem text_one {n n' : Int} {t t' : List UInt8} (h : IsText n t) (h' : IsText n' t') (e : n = n') : t = t' := by
  obtain ⟨y, m, d, hh, mi, s, v, hn, ht⟩ := h
  obtain ⟨y', m', d', hh', mi', s', v', hn', ht'⟩ := h'
  subst e
  obtain ⟨e1, e2, e3, e4, e5, e6⟩ := Cal.num_inj v v' (hn.trans hn'.symm)
  rw [ht, ht']
  have e1 := Int.ofNat.inj e1
  have e2 := Int.ofNat.inj e2
  have e3 := Int.ofNat.inj e3
  have e4 := Int.ofNat.inj e4
  have e5 := Int.ofNat.inj e5
  have e6 := Int.ofNat.inj e6
  subst e1 e2 e3 e4 e5 e6
  rfl
end Go.Proofs.YtdppkhimnhfjoaaDoor
