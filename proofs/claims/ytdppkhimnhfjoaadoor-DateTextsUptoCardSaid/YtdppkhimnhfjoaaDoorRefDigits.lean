/- The reference's digits, walked: the last k digits of a number. -/
import Derived.Test.YtdppkhimnhfjoaaDoorRefDays
import Derived.Test.YtdppkhimnhfjoaaDoorText
import Derived.Test.YtdppkhimnhfjoaaDoorPad
import Derived.Test.YtdppkhimnhfjoaaDoorOf
import Derived.Laws.IdiomStrings
set_option linter.unusedSimpArgs false
set_option linter.unusedVariables false
namespace Go.Proofs.YtdppkhimnhfjoaaDoor
open Go.RowKit Go.Proofs.YtdppkhimnhfjoaaDoorW.PrintWords
set_option maxRecDepth 100000 in
theorem byte_string (W : World) (d : Nat) (hd : d < 10) :
    (convert 66 9 (.slice (some ⟨W.heap.size, 0, none⟩) 1 1)).run Tryd.prog (W.alloc (.cells #[.int .u8 (48 + (d : Int))] 5)) = .ok (.string ⟨#[UInt8.ofNat (48 + d)]⟩) (W.alloc (.cells #[.int .u8 (48 + (d : Int))] 5)) := by
  have h := run_convert_bytes_back (P := Tryd.prog) (W.alloc (.cells #[.int .u8 (48 + (d : Int))] 5)) 66 9 5 ⟨W.heap.size, 0, none⟩ 1 [UInt8.ofNat (48 + d)] Tryd.underlying66 Tryd.underlying5 Tryd.underlying9 (fun j hj => by
    have : j = 0 := by simpa using hj
    subst this
    have e : (UInt8.ofNat (48 + d)).toNat = 48 + d := by simp; omega
    have e2 : (((UInt8.ofNat (48 + d)).toNat : Nat) : Int) = 48 + (d : Int) := by rw [e]; omega
    show World.cell? _ ⟨_, 0 + 0, none⟩ = some (.int .u8 (((UInt8.ofNat (48 + d)).toNat : Nat) : Int))
    rw [e2]
    exact (blk_cell (blk_new W (.cells #[.int .u8 (48 + (d : Int))] 5)) 0).trans rfl)
  exact h
set_option maxHeartbeats 4000000 in
set_option maxRecDepth 100000 in
theorem rdigits_calls (n k : Nat) (hn : n ≤ 1000000) (hk : k ≤ 18) (w : World) :
    Calls Tryd.prog 32 #[.int .i64 (n : Int), .int .i64 (k : Int)] w fun e w' => e = .returned (.string ⟨(Text.digs n k).toArray⟩) ∧ Below w.heap.size w w' := by
  go_enter Tryd.func32, Tryd.ntmps32
  go_wp2_with fail
  go_loopw [0, 5, 6] (fun nv sv iv W => ∃ (m j : Nat) (l : List UInt8), j ≤ k ∧ m ≤ 1000000 ∧ nv = .int .i64 (m : Int) ∧ sv = .string ⟨l.toArray⟩ ∧ iv = .int .i64 (j : Int) ∧ l.length = j ∧ Text.digs m (k - j) ++ l = Text.digs n k ∧ Below w.heap.size w W) (fun _ _ iv _ => k - (intOf iv).toNat)
  case atStart => exact ⟨n, 0, [], by omega, hn, rfl, rfl, rfl, rfl, by simp, Below.refl _ _⟩
  case round =>
    obtain ⟨m, j, l, hj, hm, rfl, rfl, rfl, hl, hd, HB⟩ := hrel
    by_cases hjk : j < k
    · obtain ⟨d, hdd⟩ : ∃ d : Nat, m % 10 = d := ⟨_, rfl⟩
      have d10 : d < 10 := by omega
      have t1 : (m : Int).tmod 10 = (d : Int) := by rw [Int.tmod_eq_emod_of_nonneg (by omega)]; omega
      have t2 : IntKind.i64.wrap (48 + (d : Int)) = 48 + (d : Int) := IntWalk.i64_in _ (by omega)
      have t3 : IntKind.u8.wrap (48 + (d : Int)) = 48 + (d : Int) := by simp [IntKind.wrap, IntKind.signed, IntKind.bits]; omega
      have t4 : (m : Int).tdiv 10 = ((m / 10 : Nat) : Int) := by rw [Int.tdiv_eq_ediv_of_nonneg (by omega)]; omega
      have hb := byte_string wr d d10
      have HD := Lib.hid hd
      have jk : (j : Int) < (k : Int) := by omega
      have sz : ¬ 9223372036854775807 < 1 + l.length := by omega
      go_wp2_with fail
      refine ⟨⟨m / 10, j + 1, UInt8.ofNat (48 + d) :: l, by omega, by omega, by simp, by simp; rfl, by simp, by simp [hl], ?_, HB.alloc HB.size _⟩, by simp [intOf]; omega⟩
      rw [← HD.out, show k - j = (k - (j + 1)) + 1 from by omega, Text.digs, hdd]
      simp
    · obtain rfl : j = k := by omega
      have hd' : l = Text.digs n j := by simpa [Text.digs] using hd
      subst hd'
      go_wp2_with fail
      go_ret
      exact ⟨rfl, HB⟩
end Go.Proofs.YtdppkhimnhfjoaaDoor
