/- date.pad, weekdays and months, walked. -/
import Derived.Test.YtdppkhimnhfjoaaDoorEnv
import Derived.Test.YtdppkhimnhfjoaaDoorText
import Derived.Lib.AppendIntMem
import Derived.OwnWalk
import Derived.Outline
import Derived.Lib.Hide
import Derived.IntWalk
namespace Go.Proofs.YtdppkhimnhfjoaaDoor
open Go.RowKit
set_option maxHeartbeats 1000000 in
theorem pad_calls (n k : Nat) (w : World) (hE : Env w) (hk : 1 ≤ k) (hk18 : k ≤ 18) (h : n < 10 ^ k) (hn : n ≤ 1000000000000) :
    Calls Tryd.prog 29 #[.int .i64 n, .int .i64 k] w fun e w' => e = .returned (.string ⟨(Text.digs n k).toArray⟩) ∧ Below w.heap.size w w' := by
  obtain ⟨pl, pe⟩ := Text.pad_digs k n hk h
  rw [← pe, ← Text.repeat_one]
  have hit := Lib.itoa_nonneg n
  have hI := Tryd.strconv_Itoa n (by omega) (by omega) w hE.pw
  rw [hit] at hI
  clear pe hit h
  have hl := Lib.decDigits_length n
  generalize Lib.decDigits n = D at *
  have HI := Lib.hid hI
  have HL := Lib.hid hl
  clear hI hE hl
  go_enter Tryd.func29, Tryd.ntmps29
  go_wp2_with fail
  refine (HI.out).mono ?_
  rintro e w1 ⟨rfl, q, os, rfl⟩
  have hb : Below w.heap.size w («Sort».grow (w.drewN q) os) := Lib.below_grow _ w (Nat.le_refl _) q os
  generalize «Sort».grow (w.drewN q) os = w1 at hb ⊢
  go_wp2_with fail
  rw [show (k : Int) - (D.length : Int) = ((k - D.length : Nat) : Int) from by omega]
  refine (Tryd.strings_Repeat ⟨#[48]⟩ (k - D.length) w1 (by omega) (by simp [ByteArray.size]; omega)).mono ?_
  rintro e w2 ⟨rfl, hb2⟩
  have hr : (Lib.repeatL [48] (k - D.length)).length + D.length ≤ 9223372036854775807 := by rw [Lib.repeatL_length]; simp; omega
  obtain ⟨R, hR⟩ : ∃ R, Lib.repeatL [48] (k - D.length) = R := ⟨_, rfl⟩
  rw [hR] at hr ⊢
  have HR := Lib.hid hR
  clear hR
  go_wp2_with fail
  go_ret
  exact ⟨congrArg (fun b => Ending.returned (.string b)) (by apply ByteArray.ext; simp [HR.out]), hb.trans (hb2.mono hb.size)⟩
/-- The names of the days, and of the months. -/
def dayNames : List (List UInt8) := [[77, 111, 110], [84, 117, 101], [87, 101, 100], [84, 104, 117], [70, 114, 105], [83, 97, 116], [83, 117, 110]]
def monthNames : List (List UInt8) := [[74, 97, 110], [70, 101, 98], [77, 97, 114], [65, 112, 114], [77, 97, 121], [74, 117, 110], [74, 117, 108], [65, 117, 103], [83, 101, 112], [79, 99, 116], [78, 111, 118], [68, 101, 99]]
def dayCells : Array Value := (dayNames.map fun l => Value.string ⟨l.toArray⟩).toArray
def monthCellsS : Array Value := (monthNames.map fun l => Value.string ⟨l.toArray⟩).toArray
theorem fields_days : Lib.fields (⟨#[77, 111, 110, 32, 84, 117, 101, 32, 87, 101, 100, 32, 84, 104, 117, 32, 70, 114, 105, 32, 83, 97, 116, 32, 83, 117, 110]⟩ : ByteArray).data.toList = dayNames := by decide +kernel
theorem fields_months : Lib.fields (⟨#[74, 97, 110, 32, 70, 101, 98, 32, 77, 97, 114, 32, 65, 112, 114, 32, 77, 97, 121, 32, 74, 117, 110, 32, 74, 117, 108, 32, 65, 117, 103, 32, 83, 101, 112, 32, 79, 99, 116, 32, 78, 111, 118, 32, 68, 101, 99]⟩ : ByteArray).data.toList = monthNames := by decide +kernel
theorem ascii_of {l : List UInt8} (h : (l.all fun b => decide (b.toNat < 128)) = true) : ∀ (j : Nat) (b : UInt8), l[j]? = some b → b.toNat < 128 := fun _ b hj => of_decide_eq_true (List.all_eq_true.1 h b (List.mem_of_getElem? hj))
set_option maxHeartbeats 400000 in
theorem weekdays_calls (w : World) (hE : Env w) :
    Calls Tryd.prog 30 #[] w fun e w' => e = .returned (.slice (some ⟨w.heap.size, 0, none⟩) 7 7) ∧ w' = w.alloc (.cells dayCells 9) := by
  have hF := Tryd.strings_Fields_laid ⟨#[77, 111, 110, 32, 84, 117, 101, 32, 87, 101, 100, 32, 84, 104, 117, 32, 70, 114, 105, 32, 83, 97, 116, 32, 83, 117, 110]⟩ w (by decide) (ascii_of (by decide)) hE.sp
  rw [fields_days] at hF
  have HF := Lib.hid hF
  clear hF hE
  go_enter Tryd.func30, Tryd.ntmps30
  go_wp2_with fail
  refine (HF.out).mono ?_
  rintro e w1 ⟨rfl, rfl⟩
  go_wp2_with fail
  go_ret
  exact ⟨rfl, rfl⟩
set_option maxHeartbeats 400000 in
theorem months_calls (w : World) (hE : Env w) :
    Calls Tryd.prog 31 #[] w fun e w' => e = .returned (.slice (some ⟨w.heap.size, 0, none⟩) 12 12) ∧ w' = w.alloc (.cells monthCellsS 9) := by
  have hF := Tryd.strings_Fields_laid ⟨#[74, 97, 110, 32, 70, 101, 98, 32, 77, 97, 114, 32, 65, 112, 114, 32, 77, 97, 121, 32, 74, 117, 110, 32, 74, 117, 108, 32, 65, 117, 103, 32, 83, 101, 112, 32, 79, 99, 116, 32, 78, 111, 118, 32, 68, 101, 99]⟩ w (by decide) (ascii_of (by decide)) hE.sp
  rw [fields_months] at hF
  have HF := Lib.hid hF
  clear hF hE
  go_enter Tryd.func31, Tryd.ntmps31
  go_wp2_with fail
  refine (HF.out).mono ?_
  rintro e w1 ⟨rfl, rfl⟩
  go_wp2_with fail
  go_ret
  exact ⟨rfl, rfl⟩
end Go.Proofs.YtdppkhimnhfjoaaDoor
