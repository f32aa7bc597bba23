/- date.Of, walked: of a number of a date, the date. -/
import Derived.Test.YtdppkhimnhfjoaaDoorNumber
import Derived.Test.YtdppkhimnhfjoaaDoorWWords
namespace Go.Proofs.YtdppkhimnhfjoaaDoor
open Go.RowKit Go.Proofs.YtdppkhimnhfjoaaDoorW.PrintWords
/-- What date.Of answers: the date whose number it was asked of. -/
def OfPost (n : Int) (w : World) (e : Ending) (w' : World) : Prop :=
  ∃ y m d h mi s : Int, e = .returned (.tuple #[.agg #[.int .i64 y, .int .i64 m, .int .i64 d, .int .i64 h, .int .i64 mi, .int .i64 s], .int .i64 0]) ∧ Cal.Valid y m d h mi s ∧ Cal.num y m d h mi s = n ∧ Below w.heap.size w w'
set_option maxHeartbeats 1000000 in
set_option maxRecDepth 100000 in
theorem of_no (n : Int) (w : World) (hn : ¬ (-62167219200 ≤ n ∧ n ≤ 253402300799)) :
    Calls Tryd.prog 12 #[.int .i64 n] w fun e w' => e = .returned (.tuple #[.agg #[.int .i64 0, .int .i64 0, .int .i64 0, .int .i64 0, .int .i64 0, .int .i64 0], .int .i64 1]) ∧ Below w.heap.size w w' := by
  have HN := Lib.hid hn
  clear hn
  go_enter Tryd.func12, Tryd.ntmps12
  go_wp2_with (go_at_call 22; with_reducible refine (within_false _ _ _ _ HN.out).mono ?_; rintro e w' ⟨rfl, rfl⟩)
  refine bodyPost_ret (v := .tuple #[.agg #[.int .i64 0, .int .i64 0, .int .i64 0, .int .i64 0, .int .i64 0, .int .i64 0], .int .i64 1]) (by simp [results, Tryd.results12, go_sem]) rfl ⟨rfl, ?_⟩
  exact (Below.refl _ _).alloc (Nat.le_refl _) _
theorem months_get : ∀ k : Nat, k < 12 → ∀ (f : Int) (w : World), (Instr.index 50 (.agg (monthCells f)) (.int .i64 (k : Nat))).run Tryd.prog w = .ok ((monthCells f).getD k (.int .i64 0)) w
  | 0, _ => fun _ _ => by kernel_rfl
  | 1, _ => fun _ _ => by kernel_rfl
  | 2, _ => fun _ _ => by kernel_rfl
  | 3, _ => fun _ _ => by kernel_rfl
  | 4, _ => fun _ _ => by kernel_rfl
  | 5, _ => fun _ _ => by kernel_rfl
  | 6, _ => fun _ _ => by kernel_rfl
  | 7, _ => fun _ _ => by kernel_rfl
  | 8, _ => fun _ _ => by kernel_rfl
  | 9, _ => fun _ _ => by kernel_rfl
  | 10, _ => fun _ _ => by kernel_rfl
  | 11, _ => fun _ _ => by kernel_rfl
  | k + 12, h => absurd h (by omega)
theorem months_index (w : World) (y : Int) (k : Nat) (hk : k < 12) :
    (Instr.index 50 (.agg (monthCells (Cal.feb y))) (.int .i64 k)).run Tryd.prog w = .ok (.int .i64 (Cal.dim y (k + 1))) w := by
  rw [months_get k hk]
  have := monthCells_all y k hk
  rw [Array.getD_eq_getD_getElem?, this]; rfl
theorem dy_400 (k : Int) : Cal.dy (k * 400) = 146097 * k := by unfold Cal.dy; omega
theorem below_two {w : World} {o : Obj} {W : World} (h : Below (w.heap.size + 1) (w.alloc o) W) : Below w.heap.size w W :=
  ((Below.refl _ _).alloc (Nat.le_refl _) _).trans (h.mono (by omega))
set_option maxHeartbeats 2000000 in
set_option maxRecDepth 100000 in
theorem of_yes (n : Int) (w : World) (g0 : -62167219200 ≤ n) (g1 : n ≤ 253402300799) :
    Calls Tryd.prog 12 #[.int .i64 n] w (OfPost n w) := by
  obtain ⟨D, hD⟩ : ∃ D : Int, (n + 62167219200) / 86400 = D := ⟨_, rfl⟩
  obtain ⟨S, hS⟩ : ∃ S : Int, (n + 62167219200) % 86400 = S := ⟨_, rfl⟩
  have D0 : 0 ≤ D := by omega
  have D1 : D ≤ 3652424 := by omega
  have S0 : 0 ≤ S := by omega
  have S1 : S < 86400 := by omega
  have HD := Lib.hid hD
  have HS := Lib.hid hS
  clear hD hS
  go_enter Tryd.func12, Tryd.ntmps12
  go_wp2_with (first | (go_at_call 22; (with_reducible refine (within_true _ _ _ _ ?_).mono ?_); omega; rintro e w' ⟨rfl, rfl⟩))
  rw [HD.out, HS.out]
  go_loopw [5, 6] (fun l yv W => ∃ y : Int, 0 ≤ y ∧ y ≤ 9999 ∧ Cal.dy y ≤ D ∧ l = .int .i64 (D - Cal.dy y) ∧ yv = .int .i64 y ∧ Below (w.heap.size + 1) (w.alloc (.cells #[.int .i64 0, .int .i64 0, .int .i64 0, .int .i64 0, .int .i64 0, .int .i64 0] 27)) W) (fun _ yv _ => (9999 - intOf yv).toNat)
  case atStart =>
    have e := dy_400 (D / 146097)
    exact ⟨D / 146097 * 400, by omega, by omega, by omega, by rw [e]; congr 1; omega, rfl, Below.refl _ _⟩
  case round =>
    obtain ⟨y, y0, y1, yd, rfl, rfl, hB⟩ := hrel
    obtain ⟨f0, f1⟩ := Cal.feb_bd y
    have es := Cal.dy_succ y y0
    have yb := Cal.dy_bd y y0 (by omega)
    obtain ⟨yb0, yb1⟩ := yb
    by_cases hc : Cal.dy (y + 1) ≤ D
    · have hlt : 337 + Cal.feb y ≤ D - Cal.dy y := by omega
      have y2 : y + 1 ≤ 9999 := by
        by_cases q : y = 9999
        · subst q; have e : Cal.dy (9999 + 1) = 3652425 := rfl; omega
        · omega
      have ES := Lib.hid es
      have HC := Lib.hid hc
      clear es hc
      go_wp2_with fail
      refine (length_calls _ _ y0 (by omega)).mono ?_
      rintro e w1 ⟨rfl, hb1⟩
      go_wp2_with fail
      refine (length_calls _ _ y0 (by omega)).mono ?_
      rintro e w2 ⟨rfl, hb2⟩
      go_wp2_with fail
      go_roundw
      case rel => exact ⟨y + 1, by omega, y2, HC.out, by rw [ES.out]; go_num, rfl, (hB.trans (hb1.mono (by have := hB.size; simp at this; omega))).trans (hb2.mono (by have := hB.size; have := hb1.size; simp at *; omega))⟩
      case measure => simp [intOf]; omega
    · have hlt : D - Cal.dy y < 337 + Cal.feb y := by omega
      clear es hc
      go_wp2_with fail
      refine (length_calls _ _ y0 (by omega)).mono ?_
      rintro e w1 ⟨rfl, hb1⟩
      go_wp2_with fail
      refine (lengths_calls _ _ y0 (by omega)).mono ?_
      rintro e w2 ⟨rfl, hb2⟩
      have hB2 : Below (w.heap.size + 1) (w.alloc (.cells #[.int .i64 0, .int .i64 0, .int .i64 0, .int .i64 0, .int .i64 0, .int .i64 0] 27)) w2 := by
        have s1 := hB.size
        have s2 := hb1.size
        simp at s1
        exact ((hB.trans (hb1.mono (by omega))).alloc (by omega) _).trans (hb2.mono (by simp; omega))
      have hz : w.heap.size + 1 ≤ w1.heap.size := by have s1 := hB.size; have s2 := hb1.size; simp at s1; omega
      have hd : w2.heap[w1.heap.size]? = some (.cells #[.int .i64 y, .int .i64 1, .int .i64 0, .int .i64 (S / 3600), .int .i64 (S / 60 % 60), .int .i64 (S % 60)] 27 (0, 0)) := blk_below (blk_new _ _) hb2
      generalize w1.heap.size = b at hz hd ⊢
      clear hb1 hb2 hB
      go_wp2_with fail
      have c13 : Cal.cum y 13 = 337 + Cal.feb y := Cal.cum_13 y
      have hi := fun (W : World) (k : Nat) (hk : k < 12) => months_index W y k hk
      have HI := Lib.hid hi
      clear hi
      have HC13 := Lib.hid c13
      clear c13
      go_loopw [5, 46] (fun l iv W => ∃ k : Nat, k ≤ 11 ∧ iv = .int .i64 k ∧ 0 ≤ D - Cal.dy y - Cal.cum y (k + 1) ∧ l = .int .i64 (D - Cal.dy y - Cal.cum y (k + 1)) ∧ W.heap[b]? = some (.cells #[.int .i64 y, .int .i64 (k + 1), .int .i64 0, .int .i64 (S / 3600), .int .i64 (S / 60 % 60), .int .i64 (S % 60)] 27 (0, 0)) ∧ Below (w.heap.size + 1) (w.alloc (.cells #[.int .i64 0, .int .i64 0, .int .i64 0, .int .i64 0, .int .i64 0, .int .i64 0] 27)) W) (fun _ iv _ => 12 - (intOf iv).toNat)
      case atStart => exact ⟨0, by omega, rfl, by simp [Cal.cum_one]; omega, by simp [Cal.cum_one], by simpa using hd, hB2⟩
      case round =>
        clear hd hB2
        obtain ⟨k, hk, rfl, hl, rfl, hd, hB2⟩ := hrel
        have q := Cal.cum_bd y (k + 1) (by omega) (by omega)
        obtain ⟨q0, q1⟩ := q
        have dd := Cal.dim_bd y (k + 1)
        obtain ⟨dd0, dd1⟩ := dd
        have hx := fun W => HI.out W k (by omega)
        have cs := Cal.cum_succ y (k + 1) (by omega) (by omega)
        have fz := blk_frozen hd
        by_cases hlt : D - Cal.dy y - Cal.cum y (k + 1) < Cal.dim y (k + 1)
        · have CS := Lib.hid cs
          clear cs
          have e0 := blk_cell hd 0
          have e1 := blk_cell hd 1
          have e2 := blk_cell hd 2
          have e3 := blk_cell hd 3
          have e4 := blk_cell hd 4
          have e5 := blk_cell hd 5
          simp at e0 e1 e2 e3 e4 e5
          have HD2 := Lib.hid hd
          clear hd
          have hR : wr.heap[w.heap.size]? = some (.cells #[.int .i64 0, .int .i64 0, .int .i64 0, .int .i64 0, .int .i64 0, .int .i64 0] 27 (0, 0)) := (hB2.block _ (by omega)).trans (blk_new _ _)
          have r0 := blk_cell hR 0
          have r1 := blk_cell hR 1
          have r2 := blk_cell hR 2
          have r3 := blk_cell hR 3
          have r4 := blk_cell hR 4
          have r5 := blk_cell hR 5
          simp at r0 r1 r2 r3 r4 r5
          have fr := blk_frozen hR
          have HR2 := Lib.hid hR
          clear hR
          have ne1 : ¬ b = w.heap.size := by omega
          have ne2 : ¬ w.heap.size = b := by omega
          go_wp2_with fail
          refine bodyPost_ret (results_list (rs := [.cell 2 27, .tmp 3]) rfl (by simp) (.cell w.heap.size 27 #[.int .i64 y, .int .i64 (k + 1), .int .i64 (D - Cal.dy y - Cal.cum y (k + 1) + 1), .int .i64 (S / 3600), .int .i64 (S / 60 % 60), .int .i64 (S % 60)] (0, 0) _ rfl ?_ Tryd.underlying27 rfl (by kernel_rfl) (.tmp .nil))) rfl ?_
          · refine blk_put (cs := #[.int .i64 y, .int .i64 (k + 1), .int .i64 (D - Cal.dy y - Cal.cum y (k + 1) + 1), .int .i64 (S / 3600), .int .i64 (S / 60 % 60), .int .i64 0]) ?_ 5 _ rfl
            refine blk_put (cs := #[.int .i64 y, .int .i64 (k + 1), .int .i64 (D - Cal.dy y - Cal.cum y (k + 1) + 1), .int .i64 (S / 3600), .int .i64 0, .int .i64 0]) ?_ 4 _ rfl
            refine blk_put (cs := #[.int .i64 y, .int .i64 (k + 1), .int .i64 (D - Cal.dy y - Cal.cum y (k + 1) + 1), .int .i64 0, .int .i64 0, .int .i64 0]) ?_ 3 _ rfl
            refine blk_put (cs := #[.int .i64 y, .int .i64 (k + 1), .int .i64 0, .int .i64 0, .int .i64 0, .int .i64 0]) ?_ 2 _ rfl
            refine blk_put (cs := #[.int .i64 y, .int .i64 0, .int .i64 0, .int .i64 0, .int .i64 0, .int .i64 0]) ?_ 1 _ rfl
            refine blk_put (cs := #[.int .i64 0, .int .i64 0, .int .i64 0, .int .i64 0, .int .i64 0, .int .i64 0]) ?_ 0 _ rfl
            exact blk_far HR2.out ne2 _
          · have vv := Cal.valid_of (n := n) (y := y) (m := k + 1) g0 y0 y1 (by omega) (by omega) (by have := HD.out; omega) (by have := HD.out; have := CS.out; omega)
            rw [show n - -62167219200 = n + 62167219200 from by omega, HD.out, HS.out] at vv
            exact ⟨y, k + 1, _, _, _, _, rfl, vv.1, vv.2, ((((((below_two (hB2.setCell (by omega) _)).setCell (Nat.le_refl _) _).setCell (Nat.le_refl _) _).setCell (Nat.le_refl _) _).setCell (Nat.le_refl _) _).setCell (Nat.le_refl _) _).setCell (Nat.le_refl _) _⟩
        · have hge : Cal.dim y (k + 1) ≤ D - Cal.dy y - Cal.cum y (k + 1) := by omega
          have k10 : k + 1 ≤ 11 := by
            by_cases e : k = 11
            · subst e; have := HC13.out; rw [show ((11 : Nat) : Int) + 1 + 1 = 13 from rfl] at cs; omega
            · omega
          have CS := Lib.hid cs
          have e1 := blk_cell hd 1
          simp at e1
          have HD2 := Lib.hid hd
          clear cs hd
          go_wp2_with fail
          go_roundw
          case rel => exact ⟨k + 1, k10, by go_num, by rw [show ((k + 1 : Nat) : Int) = (k : Int) + 1 from by omega, CS.out]; omega, by rw [show ((k + 1 : Nat) : Int) = (k : Int) + 1 from by omega, CS.out]; go_num, by rw [show ((k + 1 : Nat) : Int) = (k : Int) + 1 from by omega]; exact blk_put HD2.out 1 _ rfl, hB2.setCell (by omega) _⟩
          case measure => simp [intOf]; omega
end Go.Proofs.YtdppkhimnhfjoaaDoor
