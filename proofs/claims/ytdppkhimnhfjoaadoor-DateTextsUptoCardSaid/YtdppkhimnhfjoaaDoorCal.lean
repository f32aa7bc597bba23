/- Plain facts on the calendar: the number of a date, the order of dates, that a number belongs to one date alone. No program in sight. -/
import Derived.RowKit
namespace Go.Proofs.YtdppkhimnhfjoaaDoor.Cal
def leapB (y : Int) : Bool := (y % 4 == 0) && (!(y % 100 == 0) || (y % 400 == 0))
def feb (y : Int) : Int := if leapB y = true then 29 else 28
def dim (y m : Int) : Int := if m = 2 then feb y else if m = 4 ∨ m = 6 ∨ m = 9 ∨ m = 11 then 30 else 31
def dy (y : Int) : Int := y * 365 + (y + 3) / 4 - (y + 99) / 100 + (y + 399) / 400
def cum (y m : Int) : Int :=
  if m ≤ 1 then 0 else if m = 2 then 31 else if m = 3 then 31 + feb y else if m = 4 then 62 + feb y else if m = 5 then 92 + feb y else if m = 6 then 123 + feb y
  else if m = 7 then 153 + feb y else if m = 8 then 184 + feb y else if m = 9 then 215 + feb y else if m = 10 then 245 + feb y else if m = 11 then 276 + feb y else if m = 12 then 306 + feb y else 337 + feb y
/-- The day of a date, from the first day of the year 0 on. -/
def dayOf (y m d : Int) : Int := dy y + cum y m + d - 1
def num (y m d h mi s : Int) : Int := -62167219200 + dayOf y m d * 86400 + (h * 60 + mi) * 60 + s
structure Valid (y m d h mi s : Int) : Prop where
  y0 : 0 ≤ y
  y1 : y ≤ 9999
  m0 : 1 ≤ m
  m1 : m ≤ 12
  d0 : 1 ≤ d
  d1 : d ≤ dim y m
  h0 : 0 ≤ h
  h1 : h ≤ 23
  i0 : 0 ≤ mi
  i1 : mi ≤ 59
  s0 : 0 ≤ s
  s1 : s ≤ 59

theorem feb_bd (y : Int) : 28 ≤ feb y ∧ feb y ≤ 29 := by unfold feb; split <;> omega
theorem dim_bd (y m : Int) : 28 ≤ dim y m ∧ dim y m ≤ 31 := by
  have := feb_bd y; unfold dim; split
  · omega
  · split <;> omega
theorem leapB_iff (y : Int) : leapB y = true ↔ (y % 4 = 0 ∧ (¬ y % 100 = 0 ∨ y % 400 = 0)) := by simp [leapB]
theorem feb_leap (y : Int) (h : y % 4 = 0 ∧ (¬ y % 100 = 0 ∨ y % 400 = 0)) : feb y = 29 := if_pos ((leapB_iff y).2 h)
theorem feb_plain (y : Int) (h : ¬ (y % 4 = 0 ∧ (¬ y % 100 = 0 ∨ y % 400 = 0))) : feb y = 28 := if_neg (fun e => h ((leapB_iff y).1 e))
theorem dy_succ (y : Int) (_h : 0 ≤ y) : dy (y + 1) = dy y + 337 + feb y := by
  by_cases c : y % 4 = 0 ∧ (¬ y % 100 = 0 ∨ y % 400 = 0)
  · rw [feb_leap y c]; unfold dy; omega
  · rw [feb_plain y c]; unfold dy; omega
theorem dy_bd (y : Int) (h0 : 0 ≤ y) (h1 : y ≤ 10000) : 0 ≤ dy y ∧ dy y ≤ 3652425 := by unfold dy; omega
theorem dy_mono (a b : Int) (h : a ≤ b) : dy a ≤ dy b := by unfold dy; omega
theorem cum_one (y : Int) : cum y 1 = 0 := rfl
theorem cum_succ (y m : Int) (h0 : 1 ≤ m) (h1 : m ≤ 12) : cum y (m + 1) = cum y m + dim y m := by
  have hm : m = 1 ∨ m = 2 ∨ m = 3 ∨ m = 4 ∨ m = 5 ∨ m = 6 ∨ m = 7 ∨ m = 8 ∨ m = 9 ∨ m = 10 ∨ m = 11 ∨ m = 12 := by omega
  rcases hm with rfl | rfl | rfl | rfl | rfl | rfl | rfl | rfl | rfl | rfl | rfl | rfl <;> simp [cum, dim] <;> omega
theorem cum_13 (y : Int) : cum y 13 = 337 + feb y := rfl
theorem cum_bd (y m : Int) (h0 : 1 ≤ m) (h1 : m ≤ 13) : 0 ≤ cum y m ∧ cum y m ≤ 366 := by
  have := feb_bd y
  have hm : m = 1 ∨ m = 2 ∨ m = 3 ∨ m = 4 ∨ m = 5 ∨ m = 6 ∨ m = 7 ∨ m = 8 ∨ m = 9 ∨ m = 10 ∨ m = 11 ∨ m = 12 ∨ m = 13 := by omega
  rcases hm with rfl | rfl | rfl | rfl | rfl | rfl | rfl | rfl | rfl | rfl | rfl | rfl | rfl <;> simp [cum] <;> omega
theorem cum_mono (y : Int) (a b : Int) (h0 : 1 ≤ a) (hab : a ≤ b) (h1 : b ≤ 13) : cum y a ≤ cum y b := by
  obtain ⟨n, hn⟩ := Int.eq_ofNat_of_zero_le (show 0 ≤ b - a by omega)
  induction n generalizing b with
  | zero => have e : b = a := by omega
            rw [e]; exact Int.le_refl _
  | succ n ih =>
    have h := ih (b - 1) (by omega) (by omega) (by omega)
    have s := cum_succ y (b - 1) (by omega) (by omega)
    have d := dim_bd y (b - 1)
    rw [show b - 1 + 1 = b from by omega] at s
    omega
/-- A later month's last day ahead. -/
theorem cum_lt (y a b : Int) (h0 : 1 ≤ a) (hab : a < b) (h1 : b ≤ 13) : cum y a + dim y a ≤ cum y b := by
  rw [← cum_succ y a h0 (by omega)]; exact cum_mono y _ _ (by omega) (by omega) h1
theorem dy_lt (a b : Int) (h0 : 0 ≤ a) (hab : a < b) : dy a + 337 + feb a ≤ dy b := by
  rw [← dy_succ a h0]; exact dy_mono _ _ (by omega)
theorem dayOf_bd {y m d h mi s : Int} (v : Valid y m d h mi s) : dy y ≤ dayOf y m d ∧ dayOf y m d < dy (y + 1) ∧ 0 ≤ dayOf y m d ∧ dayOf y m d ≤ 3652424 := by
  have e := dy_succ y v.y0
  have b := dy_bd y v.y0 (by have := v.y1; omega)
  have b1 := dy_bd (y + 1) (by have := v.y0; omega) (by have := v.y1; omega)
  have c := cum_bd y m v.m0 (by have := v.m1; omega)
  have l := cum_lt y m 13 v.m0 (by have := v.m1; omega) (by omega)
  rw [cum_13] at l
  have := v.d0; have := v.d1
  unfold dayOf; omega
theorem num_bd {y m d h mi s : Int} (v : Valid y m d h mi s) : -62167219200 ≤ num y m d h mi s ∧ num y m d h mi s ≤ 253402300799 := by
  have b := dayOf_bd v
  have := v.h0; have := v.h1; have := v.i0; have := v.i1; have := v.s0; have := v.s1
  unfold num; omega
/-- The seconds of a day behind its number. -/
theorem num_day {y m d h mi s : Int} (v : Valid y m d h mi s) : (num y m d h mi s - -62167219200) / 86400 = dayOf y m d ∧ (num y m d h mi s - -62167219200) % 86400 = (h * 60 + mi) * 60 + s := by
  have := v.h0; have := v.h1; have := v.i0; have := v.i1; have := v.s0; have := v.s1
  unfold num; omega
/-- The order of dates. -/
def Lex (y m d h mi s y' m' d' h' mi' s' : Int) : Prop :=
  y < y' ∨ y = y' ∧ (m < m' ∨ m = m' ∧ (d < d' ∨ d = d' ∧ (h < h' ∨ h = h' ∧ (mi < mi' ∨ mi = mi' ∧ s < s'))))
theorem dayOf_lt {y m d h mi s y' m' d' h' mi' s' : Int} (v : Valid y m d h mi s) (v' : Valid y' m' d' h' mi' s')
    (l : y < y' ∨ y = y' ∧ (m < m' ∨ m = m' ∧ d < d')) : dayOf y m d < dayOf y' m' d' := by
  rcases l with l | ⟨rfl, l | ⟨rfl, l⟩⟩
  · have a := dayOf_bd v; have b := dayOf_bd v'
    have c := dy_mono (y + 1) y' (by omega)
    omega
  · have a := cum_lt y m m' v.m0 l (by have := v'.m1; omega)
    have := v.d1; have := v'.d0
    unfold dayOf; omega
  · unfold dayOf; omega
theorem num_lt {y m d h mi s y' m' d' h' mi' s' : Int} (v : Valid y m d h mi s) (v' : Valid y' m' d' h' mi' s')
    (l : Lex y m d h mi s y' m' d' h' mi' s') : num y m d h mi s < num y' m' d' h' mi' s' := by
  have := v.h0; have := v.h1; have := v.i0; have := v.i1; have := v.s0; have := v.s1
  have := v'.h0; have := v'.h1; have := v'.i0; have := v'.i1; have := v'.s0; have := v'.s1
  have t : (dayOf y m d < dayOf y' m' d') ∨ (dayOf y m d = dayOf y' m' d' ∧ (h < h' ∨ h = h' ∧ (mi < mi' ∨ mi = mi' ∧ s < s'))) := by
    rcases l with l | ⟨e, l | ⟨e', l | ⟨e'', l⟩⟩⟩
    · exact .inl (dayOf_lt v v' (.inl l))
    · exact .inl (dayOf_lt v v' (.inr ⟨e, .inl l⟩))
    · exact .inl (dayOf_lt v v' (.inr ⟨e, .inr ⟨e', l⟩⟩))
    · exact .inr ⟨by rw [e, e', e''], l⟩
  unfold num
  omega
theorem lex_total (y m d h mi s y' m' d' h' mi' s' : Int) :
    Lex y m d h mi s y' m' d' h' mi' s' ∨ (y = y' ∧ m = m' ∧ d = d' ∧ h = h' ∧ mi = mi' ∧ s = s') ∨ Lex y' m' d' h' mi' s' y m d h mi s := by
  unfold Lex; omega
theorem num_inj {y m d h mi s y' m' d' h' mi' s' : Int} (v : Valid y m d h mi s) (v' : Valid y' m' d' h' mi' s')
    (e : num y m d h mi s = num y' m' d' h' mi' s') : y = y' ∧ m = m' ∧ d = d' ∧ h = h' ∧ mi = mi' ∧ s = s' := by
  rcases lex_total y m d h mi s y' m' d' h' mi' s' with l | l | l
  · have := num_lt v v' l; omega
  · exact l
  · have := num_lt v' v l; omega

/-- The date of a number, from its parts: the year, the days left in it, the month, the days left in it. -/
theorem valid_of {n y m : Int} (_h0 : -62167219200 ≤ n) (y0 : 0 ≤ y) (y1 : y ≤ 9999) (m0 : 1 ≤ m) (m1 : m ≤ 12)
    (l0 : dy y + cum y m ≤ (n - -62167219200) / 86400) (l1 : (n - -62167219200) / 86400 < dy y + cum y m + dim y m) :
    Valid y m ((n - -62167219200) / 86400 - dy y - cum y m + 1) ((n - -62167219200) % 86400 / 3600) ((n - -62167219200) % 86400 / 60 % 60) ((n - -62167219200) % 86400 % 60) ∧
    num y m ((n - -62167219200) / 86400 - dy y - cum y m + 1) ((n - -62167219200) % 86400 / 3600) ((n - -62167219200) % 86400 / 60 % 60) ((n - -62167219200) % 86400 % 60) = n := by
  refine ⟨⟨y0, y1, m0, m1, by omega, by omega, by omega, by omega, by omega, by omega, by omega, by omega⟩, ?_⟩
  unfold num dayOf; omega

/-- The next day's date. -/
theorem next_day {y m d h mi s : Int} (v : Valid y m d h mi s) (hn : num y m d h mi s ≤ 253402300799 - 86400) :
    ∃ y' m' d', Valid y' m' d' h mi s ∧ num y' m' d' h mi s = num y m d h mi s + 86400 ∧
      ((y = y' ∧ m = m' ∧ d' = d + 1) ∨ (y = y' ∧ m' = m + 1 ∧ d' = 1 ∧ 28 ≤ d) ∨ (y' = y + 1 ∧ m = 12 ∧ m' = 1 ∧ d' = 1 ∧ d = 31)) := by
  obtain ⟨y0, y1, m0, m1, d0, d1, h0, h1, i0, i1, s0, s1⟩ := v
  have db := dim_bd y m
  by_cases c : d < dim y m
  · exact ⟨y, m, d + 1, ⟨y0, y1, m0, m1, by omega, by omega, h0, h1, i0, i1, s0, s1⟩, by unfold num dayOf; omega, .inl ⟨rfl, rfl, rfl⟩⟩
  · obtain rfl : d = dim y m := by omega
    by_cases cm : m < 12
    · have e := cum_succ y m m0 (by omega)
      have db' := dim_bd y (m + 1)
      exact ⟨y, m + 1, 1, ⟨y0, y1, by omega, by omega, by omega, by omega, h0, h1, i0, i1, s0, s1⟩, by unfold num dayOf; omega, .inr (.inl ⟨rfl, rfl, rfl, db.1⟩)⟩
    · obtain rfl : m = 12 := by omega
      have e := cum_succ y 12 (by omega) (by omega)
      have e13 : cum y (12 + 1) = 337 + feb y := cum_13 y
      have ey := dy_succ y y0
      have e31 : dim y 12 = 31 := rfl
      have e1 : cum (y + 1) 1 = 0 := rfl
      have db' := dim_bd (y + 1) 1
      have yl : y + 1 ≤ 9999 := by
        by_cases q : y ≤ 9998
        · omega
        · obtain rfl : y = 9999 := by omega
          have ed : dy 9999 = 3652060 := rfl
          have ef : feb 9999 = 28 := rfl
          exfalso; unfold num dayOf at hn; omega
      exact ⟨y + 1, 1, 1, ⟨by omega, yl, by omega, by omega, by omega, by omega, h0, h1, i0, i1, s0, s1⟩, by unfold num dayOf; omega, .inr (.inr ⟨rfl, rfl, rfl, rfl, e31⟩)⟩
end Go.Proofs.YtdppkhimnhfjoaaDoor.Cal
