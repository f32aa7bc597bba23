/- date.within and date.Number, walked. -/
import Derived.Test.YtdppkhimnhfjoaaDoorDays
import Derived.Deep.QuietTactic
import Derived.BigQuiet
import Derived.LoopTactic
import Derived.Deep.LoopGhost
import Derived.OwnWalk
import Derived.IntWalk
import Derived.WalkSmall
namespace Go.Proofs.YtdppkhimnhfjoaaDoor
open Go.RowKit
set_option maxHeartbeats 400000 in
theorem within_true (n a b : Int) (w : World) (h : a ≤ n ∧ n ≤ b) :
    Calls Tryd.prog 22 #[.int .i64 n, .int .i64 a, .int .i64 b] w fun e w' => e = .returned (.bool true) ∧ w = w' := by
  obtain ⟨h0, h1⟩ := h
  go_enter Tryd.func22, Tryd.ntmps22
  go_wp2
  go_ret
  exact ⟨rfl, rfl⟩
set_option maxHeartbeats 400000 in
theorem within_false (n a b : Int) (w : World) (h : ¬ (a ≤ n ∧ n ≤ b)) :
    Calls Tryd.prog 22 #[.int .i64 n, .int .i64 a, .int .i64 b] w fun e w' => e = .returned (.bool false) ∧ w = w' := by
  by_cases h0 : a ≤ n
  · have h1 : ¬ n ≤ b := fun q => h ⟨h0, q⟩
    clear h
    go_enter Tryd.func22, Tryd.ntmps22
    go_wp2
    go_ret
    exact ⟨rfl, rfl⟩
  · clear h
    go_enter Tryd.func22, Tryd.ntmps22
    go_wp2
    go_ret
    exact ⟨rfl, rfl⟩
theorem bcell {W w1 : World} (hb : Below W.heap.size W w1) : (∀ b o, b < W.heap.size → w1.cell? ⟨b, o, none⟩ = W.cell? ⟨b, o, none⟩) ∧ (∀ b o, b < W.heap.size → w1.frozen? ⟨b, o, none⟩ = W.frozen? ⟨b, o, none⟩) :=
  ⟨fun b o h => hb.cell (p := ⟨b, o, none⟩) h, fun b o h => hb.frozen (p := ⟨b, o, none⟩) h⟩
/-- What the head of date.Number asks. -/
def headOk (y m h mi s : Int) : Prop := (0 ≤ y ∧ y ≤ 9999) ∧ (1 ≤ m ∧ m ≤ 12) ∧ (0 ≤ h ∧ h ≤ 23) ∧ (0 ≤ mi ∧ mi ≤ 59) ∧ (0 ≤ s ∧ s ≤ 59)
set_option maxHeartbeats 1000000 in
set_option maxRecDepth 100000 in
theorem number_head (y m d h mi s : Int) (w : World) (hh : ¬ headOk y m h mi s) :
    Calls Tryd.prog 9 #[.agg #[.int .i64 y, .int .i64 m, .int .i64 d, .int .i64 h, .int .i64 mi, .int .i64 s]] w fun e w' => e = .returned (.tuple #[.int .i64 0, .int .i64 1]) ∧ Below w.heap.size w w' := by
  have key : (¬ (0 ≤ y ∧ y ≤ 9999)) ∨ ((0 ≤ y ∧ y ≤ 9999) ∧ ¬ (1 ≤ m ∧ m ≤ 12)) ∨ ((0 ≤ y ∧ y ≤ 9999) ∧ (1 ≤ m ∧ m ≤ 12) ∧ ¬ (0 ≤ h ∧ h ≤ 23)) ∨ ((0 ≤ y ∧ y ≤ 9999) ∧ (1 ≤ m ∧ m ≤ 12) ∧ (0 ≤ h ∧ h ≤ 23) ∧ ¬ (0 ≤ mi ∧ mi ≤ 59)) ∨ ((0 ≤ y ∧ y ≤ 9999) ∧ (1 ≤ m ∧ m ≤ 12) ∧ (0 ≤ h ∧ h ≤ 23) ∧ (0 ≤ mi ∧ mi ≤ 59) ∧ ¬ (0 ≤ s ∧ s ≤ 59)) := by
    unfold headOk at hh; omega
  clear hh
  rcases key with h1 | ⟨g1, h1⟩ | ⟨g1, g2, h1⟩ | ⟨g1, g2, g3, h1⟩ | ⟨g1, g2, g3, g4, h1⟩
  all_goals
    have H1 := Lib.hid h1
    clear h1
    try (have G1 := Lib.hid g1; clear g1)
    try (have G2 := Lib.hid g2; clear g2)
    try (have G3 := Lib.hid g3; clear g3)
    try (have G4 := Lib.hid g4; clear g4)
    go_enter Tryd.func9, Tryd.ntmps9
    go_wp2_with (first | (go_at_call 22; with_reducible refine (within_false _ _ _ _ H1.out).mono ?_; rintro e w' ⟨rfl, rfl⟩) | (go_at_call 22; with_reducible refine (within_true _ _ _ _ G1.out).mono ?_; rintro e w' ⟨rfl, rfl⟩) | (go_at_call 22; with_reducible refine (within_true _ _ _ _ G2.out).mono ?_; rintro e w' ⟨rfl, rfl⟩) | (go_at_call 22; with_reducible refine (within_true _ _ _ _ G3.out).mono ?_; rintro e w' ⟨rfl, rfl⟩) | (go_at_call 22; with_reducible refine (within_true _ _ _ _ G4.out).mono ?_; rintro e w' ⟨rfl, rfl⟩))
    go_ret2
    exact ⟨rfl, (Below.refl _ _).alloc (Nat.le_refl _) _⟩
/-- The cells of an array of the months' lengths. -/
abbrev monthCells (f : Int) : Array Value := #[.int .i64 31, .int .i64 f, .int .i64 31, .int .i64 30, .int .i64 31, .int .i64 30, .int .i64 31, .int .i64 31, .int .i64 30, .int .i64 31, .int .i64 30, .int .i64 31]
theorem monthCells_at (y m : Int) (h0 : 1 ≤ m) (h1 : m ≤ 12) : (monthCells (Cal.feb y))[m.toNat - 1]? = some (.int .i64 (Cal.dim y m)) := by
  have hm : m = 1 ∨ m = 2 ∨ m = 3 ∨ m = 4 ∨ m = 5 ∨ m = 6 ∨ m = 7 ∨ m = 8 ∨ m = 9 ∨ m = 10 ∨ m = 11 ∨ m = 12 := by omega
  rcases hm with rfl | rfl | rfl | rfl | rfl | rfl | rfl | rfl | rfl | rfl | rfl | rfl <;> rfl
structure NumWorld (y m d h mi s : Int) (w : World) (b : Nat) (W : World) : Prop where
  c0 : W.cell? ⟨w.heap.size, 0, none⟩ = some (.int .i64 y)
  c1 : W.cell? ⟨w.heap.size, 1, none⟩ = some (.int .i64 m)
  c2 : W.cell? ⟨w.heap.size, 2, none⟩ = some (.int .i64 d)
  c3 : W.cell? ⟨w.heap.size, 3, none⟩ = some (.int .i64 h)
  c4 : W.cell? ⟨w.heap.size, 4, none⟩ = some (.int .i64 mi)
  c5 : W.cell? ⟨w.heap.size, 5, none⟩ = some (.int .i64 s)
  cm : ∀ j : Nat, j < 12 → W.cell? ⟨b, j, none⟩ = some (.int .i64 (Cal.dim y (j + 1)))
  below : Below w.heap.size w W
theorem numWorld {y m d h mi s : Int} {w w1 : World} {t t' : Nat} {C : Array Value} (hC : ∀ j : Nat, j < 12 → C[j]? = some (.int .i64 (Cal.dim y (j + 1)))) (hb : Below (w.alloc (.cells #[.int .i64 y, .int .i64 m, .int .i64 d, .int .i64 h, .int .i64 mi, .int .i64 s] t)).heap.size (w.alloc (.cells #[.int .i64 y, .int .i64 m, .int .i64 d, .int .i64 h, .int .i64 mi, .int .i64 s] t)) w1) :
    NumWorld y m d h mi s w w1.heap.size (w1.alloc (.cells C t')) := by
  have hz : w.heap.size < w1.heap.size := by have := hb.size; simp at this; omega
  have c : ∀ o, (w1.alloc (.cells C t')).cell? ⟨w.heap.size, o, none⟩ = (#[.int .i64 y, .int .i64 m, .int .i64 d, .int .i64 h, .int .i64 mi, .int .i64 s] : Array Value)[o]? := by
    intro o
    rw [World.cell?_alloc_past _ _ _ hz, hb.cell (by simp)]
    exact World.cell?_alloc_new _ _ _ _
  refine ⟨c 0, c 1, c 2, c 3, c 4, c 5, fun j hj => ?_, (((Below.refl _ _).alloc (Nat.le_refl _) _).trans (hb.mono (by simp))).alloc (by omega) _⟩
  rw [World.cell?_alloc_at _ _ _ _ rfl]; exact hC j hj
theorem monthCells_all (y : Int) (j : Nat) (hj : j < 12) : (monthCells (Cal.feb y))[j]? = some (.int .i64 (Cal.dim y (j + 1))) := by
  have := monthCells_at y (j + 1) (by omega) (by omega)
  rwa [show ((j : Int) + 1).toNat - 1 = j from by omega] at this
set_option maxHeartbeats 1000000 in
set_option maxRecDepth 100000 in
theorem number_day (y m d h mi s : Int) (w : World) (hh : headOk y m h mi s) (hd : ¬ (1 ≤ d ∧ d ≤ Cal.dim y m)) :
    Calls Tryd.prog 9 #[.agg #[.int .i64 y, .int .i64 m, .int .i64 d, .int .i64 h, .int .i64 mi, .int .i64 s]] w fun e w' => e = .returned (.tuple #[.int .i64 0, .int .i64 1]) ∧ Below w.heap.size w w' := by
  obtain ⟨g1, g2, g3, g4, g5⟩ := hh
  have HD := Lib.hid hd
  have G1 := Lib.hid g1
  have G2 := Lib.hid g2
  have G3 := Lib.hid g3
  have G4 := Lib.hid g4
  have G5 := Lib.hid g5
  clear hd g1 g2 g3 g4 g5
  go_enter Tryd.func9, Tryd.ntmps9
  go_wp2_with (first | (go_at_call 22; with_reducible refine (within_true _ _ _ _ G1.out).mono ?_; rintro e w' ⟨rfl, rfl⟩) | (go_at_call 22; with_reducible refine (within_true _ _ _ _ G2.out).mono ?_; rintro e w' ⟨rfl, rfl⟩) | (go_at_call 22; with_reducible refine (within_true _ _ _ _ G3.out).mono ?_; rintro e w' ⟨rfl, rfl⟩) | (go_at_call 22; with_reducible refine (within_true _ _ _ _ G4.out).mono ?_; rintro e w' ⟨rfl, rfl⟩) | (go_at_call 22; with_reducible refine (within_true _ _ _ _ G5.out).mono ?_; rintro e w' ⟨rfl, rfl⟩) | (go_at_call 23; with_reducible refine (lengths_calls _ _ G1.out.1 (by have := G1.out; omega)).mono ?_; rintro e w1 ⟨rfl, hb⟩))
  have hN := numWorld (t' := 50) (monthCells_all y) hb
  generalize World.alloc w1 _ = W at hN ⊢
  generalize w1.heap.size = b at hN ⊢
  clear hb
  obtain ⟨m0, m1⟩ := G2.out
  have c1 := hN.c1
  have c2 := hN.c2
  have cm := hN.cm (m.toNat - 1) (by omega)
  rw [show ((m.toNat - 1 : Nat) : Int) + 1 = m from by omega] at cm
  have ml : m - 1 < 12 := by omega
  have mg : 0 ≤ m - 1 := by omega
  have mn : m.toNat - 1 < 12 := by omega
  have mw : IntKind.i64.wrap (m - 1) = m - 1 := IntWalk.i64_in _ (by omega)
  go_quiet ((go_at_call 22; exact Calls.quiet_of_same ((within_false _ _ _ _ HD.out).mono fun _ _ h => ⟨h.1, h.2.symm⟩)))
  go_wp2
  go_ret2
  exact ⟨rfl, below_drewN hN.below _⟩
theorem slice_months (w : World) (b : Nat) (h : Int) (h0 : 0 ≤ h) (h2 : h ≤ 12) :
    (Instr.sliceAt 50 (.pointer (some ⟨b, 0, none⟩)) none (some (.int .i64 h)) none).run Tryd.prog w = .ok (.slice (some ⟨b, 0, none⟩) h.toNat 12) w := by
  have hal : Tryd.prog.arrayLen 50 = 12 := by kernel_rfl
  have hu : Tryd.prog.underlying 50 = some (.array (Tryd.prog.arrayLen 50) (Tryd.prog.elem 50)) := by kernel_rfl
  have hs : ∀ w, (sizeOf (Tryd.prog.elem 50)).run Tryd.prog w = .ok 1 w := fun _ => by kernel_rfl
  rw [run_sliceAt_array_h w _ _ hu .i64 h h0 (by rw [hal]; omega), hs, hal]
  simp [slicedAt, Result.andThen]
  rfl
set_option maxHeartbeats 2000000 in
set_option maxRecDepth 100000 in
theorem number_valid (y m d h mi s : Int) (w : World) (v : Cal.Valid y m d h mi s) :
    Calls Tryd.prog 9 #[.agg #[.int .i64 y, .int .i64 m, .int .i64 d, .int .i64 h, .int .i64 mi, .int .i64 s]] w fun e w' => e = .returned (.tuple #[.int .i64 (Cal.num y m d h mi s), .int .i64 0]) ∧ Below w.heap.size w w' := by
  obtain ⟨y0, y1, m0, m1, d0, d1, h0, h1, i0, i1, s0, s1⟩ := v
  have db := (Cal.dim_bd y m).2
  have dl : d ≤ 31 := by omega
  have HD := Lib.hid d1
  have cb : ∀ j : Int, 1 ≤ j → j ≤ m → 0 ≤ Cal.cum y j ∧ Cal.cum y j ≤ 366 := fun j a b => Cal.cum_bd y j a (by omega)
  have CB := Lib.hid cb
  have hnum : Cal.num y m d h mi s = -62167219200 + (y * 365 + (y + 3) / 4 - (y + 99) / 100 + (y + 399) / 400 + d - 1 + Cal.cum y m) * 86400 + (h * 60 + mi) * 60 + s := by
    unfold Cal.num Cal.dayOf Cal.dy; omega
  have HN := Lib.hid hnum
  clear d1 hnum cb db
  go_enter Tryd.func9, Tryd.ntmps9
  go_wp2_with (first | (go_at_call 22; (with_reducible refine (within_true _ _ _ _ ?_).mono ?_); omega; rintro e w' ⟨rfl, rfl⟩) | (go_at_call 23; (with_reducible refine (lengths_calls _ _ ?_ ?_).mono ?_); omega; omega; rintro e w1 ⟨rfl, hb⟩))
  have hN := numWorld (t' := 50) (monthCells_all y) hb
  generalize World.alloc w1 _ = W at hN ⊢
  generalize w1.heap.size = b at hN ⊢
  clear hb
  have c1 := hN.c1
  have c2 := hN.c2
  have cm := hN.cm (m.toNat - 1) (by omega)
  rw [show ((m.toNat - 1 : Nat) : Int) + 1 = m from by omega] at cm
  have ml : m - 1 < 12 := by omega
  have mg : 0 ≤ m - 1 := by omega
  have mn : m.toNat - 1 < 12 := by omega
  have mw : IntKind.i64.wrap (m - 1) = m - 1 := IntWalk.i64_in _ (by omega)
  go_quiet ((go_at_call 22; exact Calls.quiet_of_same ((within_true _ _ _ _ ⟨d0, HD.out⟩).mono fun _ _ h => ⟨h.1, h.2.symm⟩)))
  have c0 := hN.c0
  have c3 := hN.c3
  have c4 := hN.c4
  have c5 := hN.c5
  clear cm mn mw
  have hsl : ∀ W : World, (Instr.sliceAt 50 (.pointer (some ⟨b, 0, none⟩)) none (some (.int .i64 (m - 1))) none).run Tryd.prog W = .ok (.slice (some ⟨b, 0, none⟩) (m.toNat - 1) 12) W := fun W => by
    rw [slice_months W b (m - 1) (by omega) (by omega), show (m - 1).toNat = m.toNat - 1 from by omega]
  obtain ⟨n, hn⟩ : ∃ n : Int, y * 365 + (y + 3) / 4 - (y + 99) / 100 + (y + 399) / 400 + d - 1 = n := ⟨_, rfl⟩
  have n0 : 0 ≤ n := by omega
  have n1 : n ≤ 4000000 := by omega
  rw [hn] at HN
  have HE := Lib.hid hn
  clear hn
  go_wp2
  rw [HE.out]
  clear hsl
  go_loop [5, 75] (fun t i => ∃ k : Nat, k ≤ m.toNat - 1 ∧ i = .int .i64 k ∧ t = .int .i64 (n + Cal.cum y (k + 1))) (fun _ i => m.toNat - 1 - (intOf i).toNat)
  case atStart => exact ⟨0, by omega, rfl, by simp [Cal.cum_one]⟩
  case round =>
    obtain ⟨k, hk, rfl, rfl⟩ := hrel
    obtain ⟨q0, q1⟩ := CB.out (k + 1) (by omega) (by omega)
    by_cases hlt : k < m.toNat - 1
    · have cm := hN.cm k (by omega)
      have dd := (Cal.dim_bd y (k + 1))
      obtain ⟨dd0, dd1⟩ := dd
      have cs := Cal.cum_succ y (k + 1) (by omega) (by omega)
      have HS := Lib.hid cs
      clear cs
      go_wp2
      go_round
      case rel => exact ⟨k + 1, by omega, by go_num, by rw [show ((k + 1 : Nat) : Int) = (k : Int) + 1 from by omega, HS.out]; go_num⟩
      case measure => simp [intOf]; omega
    · obtain rfl : k = m.toNat - 1 := by omega
      rw [show ((m.toNat - 1 : Nat) : Int) + 1 = m from by omega] at q0 q1 ⊢
      go_wp2
      go_ret2
      exact ⟨by rw [HN.out]; rfl, below_drewN hN.below _⟩
end Go.Proofs.YtdppkhimnhfjoaaDoor
