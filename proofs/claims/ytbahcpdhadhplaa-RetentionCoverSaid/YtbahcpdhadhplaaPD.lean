/- The calendar's numbers in closed form: the year and the month of a day, found by counting; and that the calls give them. -/
import Derived.Test.YtbahcpdhadhplaaPC
import Derived.Test.YtbahcpdhadhplaaM
set_option linter.unusedVariables false
set_option linter.unusedSimpArgs false
namespace Go.Proofs.Ytbahcpdhadhplaa.PB
open Go.RowKit Go.Proofs.Ytbahcpdhadhplaa.M Go.Proofs.Ytbahcpdhadhplaa.Hand Go.Proofs.YtbahcpdhadhplaaW.PrintWords Go.Proofs.YtbahcpdhadhplaaW.PrintMore

theorem week_same (day : Int) : calendar_Week.f day = kinkeepref21_Week.f day := by
  unfold calendar_Week.f kinkeepref21_Week.f
  rw [inRange_eq, check_eq]
theorem week_ok {day : Int} (h : 0 ≤ day) (h1 : day ≤ 999999) : calendar_Week.f day = some ((day + 5) / 7) := by
  unfold calendar_Week.f
  rw [inRange_eq, dErr_ok h h1]
  simp only [Option.bind_some, if_true]
  rw [w64 (x := day + 5) (by omega) (by omega), Int.tdiv_eq_ediv_of_nonneg (by omega), w64 (by omega) (by omega)]
theorem Month_ev {day y m d : Int} (h : IsDate day y m d) (hd : day ≤ 999999) : Ev (fun k => calendar_Month.f k day) (12 * (y - 2000) + m - 1) := by
  unfold calendar_Month.f
  refine Ev.bind (Date_ev h hd) ?_
  refine Ev.pos rfl (Ev.to (Ev.now _) ?_)
  have h1 := h.year_le hd
  have h2 := h.y0
  have h3 := h.m0
  have h4 := h.m1
  show wrap64 (wrap64 (wrap64 (12 * wrap64 (y - 2000)) + m) - 1) = _
  rw [w64 (x := y - 2000) (by omega) (by omega), w64 (x := 12 * (y - 2000)) (by omega) (by omega), w64 (x := 12 * (y - 2000) + m) (by omega) (by omega), w64 (by omega) (by omega)]
theorem rMonth_ev {day y m d : Int} (h : IsDate day y m d) (hd : day ≤ 999999) : Ev (fun k => kinkeepref21_Month.f k day) (12 * (y - 2000) + m - 1) := by
  unfold kinkeepref21_Month.f
  refine Ev.bind (rDate_ev h hd) ?_
  refine Ev.pos rfl (Ev.to (Ev.now _) ?_)
  have h1 := h.year_le hd
  have h2 := h.y0
  have h3 := h.m0
  have h4 := h.m1
  show wrap64 (wrap64 (wrap64 (12 * wrap64 (y - 2000)) + m) - 1) = _
  rw [w64 (x := y - 2000) (by omega) (by omega), w64 (x := 12 * (y - 2000)) (by omega) (by omega), w64 (x := 12 * (y - 2000) + m) (by omega) (by omega), w64 (by omega) (by omega)]
theorem Month_out {day : Int} (h : ¬ (0 ≤ day ∧ day ≤ 999999)) : Ev (fun k => calendar_Month.f k day) (-1) := by
  unfold calendar_Month.f
  exact Ev.bind (Date_out h) (Ev.neg (dErr_ne h) (Ev.now _))
theorem rMonth_out {day : Int} (h : ¬ (0 ≤ day ∧ day ≤ 999999)) : Ev (fun k => kinkeepref21_Month.f k day) (-1) := by
  unfold kinkeepref21_Month.f
  exact Ev.bind (rDate_out h) (Ev.neg (dErr_ne h) (Ev.now _))
theorem Year_ev {day y m d : Int} (h : IsDate day y m d) (hd : day ≤ 999999) : Ev (fun k => calendar_Year.f k day) (y - 2000) := by
  unfold calendar_Year.f
  refine Ev.bind (Date_ev h hd) (Ev.pos rfl (Ev.to (Ev.now _) ?_))
  have h1 := h.year_le hd
  have h2 := h.y0
  exact w64 (by omega) (by omega)
theorem rYear_ev {day y m d : Int} (h : IsDate day y m d) (hd : day ≤ 999999) : Ev (fun k => kinkeepref21_Year.f k day) (y - 2000) := by
  unfold kinkeepref21_Year.f
  refine Ev.bind (rDate_ev h hd) (Ev.pos rfl (Ev.to (Ev.now _) ?_))
  have h1 := h.year_le hd
  have h2 := h.y0
  exact w64 (by omega) (by omega)
theorem Year_out {day : Int} (h : ¬ (0 ≤ day ∧ day ≤ 999999)) : Ev (fun k => calendar_Year.f k day) (-1) := by
  unfold calendar_Year.f
  exact Ev.bind (Date_out h) (Ev.neg (dErr_ne h) (Ev.now _))
theorem rYear_out {day : Int} (h : ¬ (0 ≤ day ∧ day ≤ 999999)) : Ev (fun k => kinkeepref21_Year.f k day) (-1) := by
  unfold kinkeepref21_Year.f
  exact Ev.bind (rDate_out h) (Ev.neg (dErr_ne h) (Ev.now _))


/-! ### closed forms -/
def upY : Nat → Int → Int → Int
  | 0, n, _ => n
  | f + 1, n, d => if d < C (n + 1) then n else upY f (n + 1) d
def yearN (d : Int) : Int := upY (d.toNat / 365 + 1) 0 d
theorem upY_spec (d : Int) : ∀ (f : Nat) (n : Int), 0 ≤ n → C n ≤ d → d < C (n + f) → 0 ≤ upY f n d ∧ C (upY f n d) ≤ d ∧ d < C (upY f n d + 1)
  | 0, n, h0, h1, h2 => by simp at h2; omega
  | f + 1, n, h0, h1, h2 => by
    unfold upY
    by_cases h : d < C (n + 1)
    · rw [if_pos h]; exact ⟨h0, h1, h⟩
    · rw [if_neg h]
      exact upY_spec d f (n + 1) (by omega) (by omega) (by rw [show n + 1 + (f : Int) = n + ((f + 1 : Nat) : Int) by push_cast; omega]; exact h2)
theorem yearN_spec (d : Int) (h : 0 ≤ d) : 0 ≤ yearN d ∧ C (yearN d) ≤ d ∧ d < C (yearN d + 1) := by
  refine upY_spec d _ 0 (Int.le_refl 0) (by rw [C_zero]; exact h) ?_
  have := C_add 0 (d.toNat / 365 + 1) (Int.le_refl 0)
  rw [C_zero] at this
  have e : d < 365 * ((d.toNat / 365 + 1 : Nat) : Int) := by omega
  have e2 : 0 + 365 * ((d.toNat / 365 + 1 : Nat) : Int) ≤ C (0 + ((d.toNat / 365 + 1 : Nat) : Int)) := this
  exact Int.lt_of_lt_of_le e (by rw [Int.zero_add] at e2; exact e2)
def upM : Nat → Int → Int → Int → Int
  | 0, _, m, _ => m
  | f + 1, y, m, r => if r < M y (m + 1) then m else upM f y (m + 1) r
def moN (d : Int) : Int := upM 11 (2000 + yearN d) 1 (d - C (yearN d))
theorem upM_spec (y r : Int) : ∀ (f : Nat) (m : Int), 1 ≤ m → m + f = 12 → M y m ≤ r → r < M y 13 → 1 ≤ upM f y m r ∧ upM f y m r ≤ 12 ∧ M y (upM f y m r) ≤ r ∧ r < M y (upM f y m r + 1)
  | 0, m, h1, h2, h3, h4 => by
    obtain rfl : m = 12 := by simpa using h2
    exact ⟨by simp [upM], by simp [upM], h3, h4⟩
  | f + 1, m, h1, h2, h3, h4 => by
    unfold upM
    by_cases h : r < M y (m + 1)
    · rw [if_pos h]; exact ⟨h1, by push_cast at h2; omega, h3, h⟩
    · rw [if_neg h]
      exact upM_spec y r f (m + 1) (by omega) (by push_cast at h2; omega) (by omega) h4
theorem isDate_N (d : Int) (h : 0 ≤ d) : IsDate d (2000 + yearN d) (moN d) (d - C (yearN d) - M (2000 + yearN d) (moN d) + 1) := by
  obtain ⟨h0, h1, h2⟩ := yearN_spec d h
  have hs := C_succ (yearN d) h0
  obtain ⟨m1, m2, m3, m4⟩ := upM_spec (2000 + yearN d) (d - C (yearN d)) 11 1 (by omega) (by omega) (by rw [M_one]; omega) (by rw [M_13]; omega)
  have hm := M_succ (2000 + yearN d) (moN d) m1 m2
  have e : 2000 + yearN d - 2000 = yearN d := by omega
  change M (2000 + yearN d) (moN d) ≤ d - C (yearN d) at m3
  change d - C (yearN d) < M (2000 + yearN d) (moN d + 1) at m4
  exact ⟨by omega, m1, m2, by omega, by omega, by rw [e]; omega⟩
def weekN (d : Int) : Int := (d + 5) / 7
def monthN (d : Int) : Int := 12 * yearN d + moN d - 1
theorem month_k (d : Int) (h : 0 ≤ d) (h1 : d ≤ 999999) : Ev (fun k => calendar_Month.f k d) (monthN d) :=
  Ev.to (Month_ev (isDate_N d h) h1) (by unfold monthN; omega)
theorem rmonth_k (d : Int) (h : 0 ≤ d) (h1 : d ≤ 999999) : Ev (fun k => kinkeepref21_Month.f k d) (monthN d) :=
  Ev.to (rMonth_ev (isDate_N d h) h1) (by unfold monthN; omega)
theorem year_k (d : Int) (h : 0 ≤ d) (h1 : d ≤ 999999) : Ev (fun k => calendar_Year.f k d) (yearN d) :=
  Ev.to (Year_ev (isDate_N d h) h1) (by omega)
theorem ryear_k (d : Int) (h : 0 ≤ d) (h1 : d ≤ 999999) : Ev (fun k => kinkeepref21_Year.f k d) (yearN d) :=
  Ev.to (rYear_ev (isDate_N d h) h1) (by omega)

/-- The number of the period of a kind of a day. -/
def numK (kind : Nat) (d : Int) : Int := match kind with | 0 => d | 1 => weekN d | 2 => monthN d | _ => yearN d
end Go.Proofs.Ytbahcpdhadhplaa.PB
