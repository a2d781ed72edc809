/- Plain laws of the calendar, third part: Day, Weekday, Week, Month, Year, AddMonths. -/
import Derived.Test.YtjjblpcblaelgaaDoorPC
import Derived.Test.YtjjblpcblaelgaaDoorQ4
import Derived.Test.YtjjblpcblaelgaaDoorQ10
import Derived.Test.YtjjblpcblaelgaaDoorQ14
import Derived.Test.YtjjblpcblaelgaaDoorQ19
set_option linter.unusedVariables false
set_option linter.unusedSimpArgs false
namespace Go.Proofs.YtjjblpcblaelgaaDoor.PB
open Go.RowKit Go.Proofs.YtjjblpcblaelgaaDoor.Q Go.Proofs.YtjjblpcblaelgaaDoor.Hand Go.Proofs.YtjjblpcblaelgaaDoorW.PrintWords Go.Proofs.YtjjblpcblaelgaaDoorW.PrintMore

/-! ### Day -/
def validP (y m d : Int) : Prop := 2000 ≤ y ∧ 1 ≤ d ∧ d ≤ daysI y m
instance (y m d : Int) : Decidable (validP y m d) := by unfold validP; infer_instance
def num (y m d : Int) : Int := C (y - 2000) + M y m + d - 1
def dayOf (y m d : Int) : Int × Int := if validP y m d then (if num y m d > 999999 then (0, 2) else (num y m d, 0)) else (0, 1)
theorem validP.month {y m d : Int} (h : validP y m d) : 1 ≤ m ∧ m ≤ 12 := by
  obtain ⟨h1, h2, h3⟩ := h
  by_cases hm : 1 ≤ m ∧ m ≤ 12
  · exact hm
  · have := daysI_out y m hm
    omega
theorem validP.isDate {y m d : Int} (h : validP y m d) : IsDate (num y m d) y m d :=
  ⟨h.1, h.month.1, h.month.2, h.2.1, h.2.2, rfl⟩
theorem IsDate.valid {day y m d : Int} (h : IsDate day y m d) : validP y m d := ⟨h.y0, h.d0, h.d1⟩
theorem dayOf_isDate {day y m d : Int} (h : IsDate day y m d) (hd : day ≤ 999999) : dayOf y m d = (day, 0) := by
  have e : num y m d = day := h.e.symm
  unfold dayOf
  rw [if_pos h.valid, e, if_neg (by omega)]
theorem valid_eq (y m d : Int) : calendar_valid.f y m d = some (decide (validP y m d)) := by
  unfold calendar_valid.f
  split
  · rename_i h0
    split
    · rename_i h1
      split
      · rename_i h2
        simp only [days_eq, Option.bind_some]
        congr 1
        rw [Bool.eq_iff_iff, decide_eq_true_iff, decide_eq_true_iff]
        unfold validP
        omega
      · rename_i h2
        rw [decide_eq_false (fun hv : validP y m d => by have := hv.2.1; omega)]
    · rename_i h1
      rw [decide_eq_false (fun hv : validP y m d => by have := hv.1; omega)]
  · rename_i h0
    simp at h0
    obtain ⟨rfl, rfl, rfl⟩ := h0
    simp [validP]
theorem rvalid_ev (y m d : Int) : Ev (fun k => kinkeepref21_Valid.f k y m d) (decide (validP y m d)) := by
  unfold kinkeepref21_Valid.f
  by_cases h1 : y ≥ 2000
  · refine Ev.pos h1 ?_
    by_cases h2 : d ≥ 1
    · refine Ev.pos h2 ?_
      refine Ev.bind (rdays_ev _ _) (Ev.to (Ev.now _) ?_)
      rw [Bool.eq_iff_iff, decide_eq_true_iff, decide_eq_true_iff]
      unfold validP
      omega
    · refine Ev.neg h2 (Ev.to (Ev.now _) ?_)
      rw [decide_eq_false (fun hv : validP y m d => by have := hv.2.1; omega)]
  · refine Ev.neg h1 (Ev.to (Ev.now _) ?_)
    rw [decide_eq_false (fun hv : validP y m d => by have := hv.1; omega)]

theorem day_l1 (y m d B : Int) (hB0 : 0 ≤ B) (hB : B ≤ 1000000000) (hm : m ≤ 12) (j : Nat) : ∀ m0 : Int, 1 ≤ m0 → m0 + j = m →
    Ev (fun k => calendar_Day.l1 k (B + M y m0) m0 y m d) (if B + M y m > 999999 then (0, 2) else (B + M y m, 0)) := by
  induction j with
  | zero =>
    intro m0 h0 he
    obtain rfl : m0 = m := by omega
    refine Ev.step (fun k => calendar_Day.l1.eq_2 _ _ _ _ _ _) ?_
    refine Ev.neg (by omega) ?_
    by_cases h : B + M y m0 > 999999
    · exact Ev.pos h (Ev.to (Ev.now _) (by rw [if_pos h]))
    · exact Ev.neg h (Ev.to (Ev.now _) (by rw [if_neg h]))
  | succ j ih =>
    intro m0 h0 he
    have hs := M_succ y m0 h0 (by omega)
    have hb := daysI_bd y m0 h0 (by omega)
    have hz := M_le y 1 m0 (by omega) (by omega) (by omega)
    have hz1 := M_one y
    have h13 := M_le y m0 13 (by omega) (by omega) (by omega)
    have h13' := M_13 y
    have hyl := ylen_bd y
    refine Ev.step (fun k => calendar_Day.l1.eq_2 _ _ _ _ _ _) ?_
    refine Ev.pos (by omega) ?_
    refine Ev.const (days_eq _ _) ?_
    rw [w64 (x := m0 + 1) (by omega) (by omega), w64 (by omega) (by omega)]
    have e : B + M y m0 + daysI y m0 = B + M y (m0 + 1) := by omega
    rw [e]
    exact ih (m0 + 1) (by omega) (by omega)
theorem day_l0 (y m d : Int) (hy : 2000 ≤ y) (hy1 : y < 1048576) (h1 : 1 ≤ m) (hm : m ≤ 12) (d0 : 1 ≤ d) (d1 : d ≤ 31) (j : Nat) : ∀ x : Int, 2000 ≤ x → x + j = 2000 + (y - 2000) % 400 →
    Ev (fun k => calendar_Day.l0 k (y - 2000) (146097 * ((y - 2000) / 400) + C (x - 2000) + d - 1) x y m d) (if num y m d > 999999 then (0, 2) else (num y m d, 0)) := by
  have ht : Int.tmod (y - 2000) 400 = (y - 2000) % 400 := Int.tmod_eq_emod_of_nonneg (by omega)
  induction j with
  | zero =>
    intro x hx he
    refine Ev.step (fun k => calendar_Day.l0.eq_2 _ _ _ _ _ _ _) ?_
    rw [ht, w64 (x := 2000 + (y - 2000) % 400) (by omega) (by omega)]
    refine Ev.neg (by omega) ?_
    have hc := C_cycle ((y - 2000) / 400) ((y - 2000) % 400) (by omega) (by omega)
    have e0 : 400 * ((y - 2000) / 400) + (y - 2000) % 400 = y - 2000 := by omega
    rw [e0] at hc
    have e1 : x - 2000 = (y - 2000) % 400 := by omega
    have hn : num y m d = C (y - 2000) + d - 1 + M y m := by unfold num; omega
    have hcc := C_le 0 (y - 2000) (by omega) (by omega)
    rw [C_zero] at hcc
    have hcm := C_le (y - 2000) 1048576 (by omega) (by omega)
    have hcx : C 1048576 = 382984520 := by decide
    rw [e1, hn]
    have e2 : 146097 * ((y - 2000) / 400) + C ((y - 2000) % 400) + d - 1 = C (y - 2000) + d - 1 + M y 1 := by rw [M_one]; omega
    rw [e2]
    exact day_l1 y m d (C (y - 2000) + d - 1) (by omega) (by omega) hm (m - 1).toNat 1 (by omega) (by omega)
  | succ j ih =>
    intro x hx he
    have hs := C_succ (x - 2000) (by omega)
    have e2 : 2000 + (x - 2000) = x := by omega
    rw [e2] at hs
    have hyl := ylen_bd x
    have hcc := C_le 0 (x - 2000) (by omega) (by omega)
    rw [C_zero] at hcc
    have hcm := C_le (x - 2000) 400 (by omega) (by omega)
    have hcx : C 400 = 146097 := by decide
    refine Ev.step (fun k => calendar_Day.l0.eq_2 _ _ _ _ _ _ _) ?_
    rw [ht, w64 (x := 2000 + (y - 2000) % 400) (by omega) (by omega)]
    refine Ev.pos (by omega) ?_
    refine Ev.const (yearDays_eq _) ?_
    rw [w64 (x := x + 1) (by omega) (by omega), w64 (by omega) (by omega)]
    have e3 : x - 2000 + 1 = x + 1 - 2000 := by omega
    rw [e3] at hs
    have e : 146097 * ((y - 2000) / 400) + C (x - 2000) + d - 1 + ylen x = 146097 * ((y - 2000) / 400) + C (x + 1 - 2000) + d - 1 := by omega
    rw [e]
    exact ih (x + 1) (by omega) (by omega)
theorem Day_ev (y m d : Int) (hy : y ≤ 9223372036854775807) : Ev (fun k => calendar_Day.f k y m d) (dayOf y m d) := by
  unfold calendar_Day.f dayOf
  refine Ev.const (valid_eq y m d) ?_
  by_cases hv : validP y m d
  · rw [if_pos hv]
    refine Ev.pos (by simp [hv]) ?_
    have hm := hv.month
    have hb := daysI_bd y m hm.1 hm.2
    obtain ⟨h1, h2, h3⟩ := hv
    by_cases hl : y ≥ 1048576
    · refine Ev.pos hl (Ev.to (Ev.now _) ?_)
      have hcm := C_le 1046576 (y - 2000) (by omega) (by omega)
      have hcx : C 1046576 = 382254035 := by decide
      have hz := M_le y 1 m (by omega) (by omega) (by omega)
      have hz1 := M_one y
      rw [if_pos (by unfold num; omega)]
    · refine Ev.neg hl ?_
      rw [w64 (x := y - 2000) (by omega) (by omega), Int.tdiv_eq_ediv_of_nonneg (by omega), w64 (x := (y - 2000) / 400) (by omega) (by omega), w64 (x := (y - 2000) / 400 * 146097) (by omega) (by omega), w64 (x := (y - 2000) / 400 * 146097 + d) (by omega) (by omega), w64 (by omega) (by omega)]
      have hl0 := day_l0 y m d h1 (by omega) hm.1 hm.2 h2 (by omega) ((y - 2000) % 400).toNat 2000 (by omega) (by omega)
      have e0 : (2000 : Int) - 2000 = 0 := by decide
      rw [e0, C_zero] at hl0
      have e : 146097 * ((y - 2000) / 400) + 0 + d - 1 = (y - 2000) / 400 * 146097 + d - 1 := by omega
      rw [e] at hl0
      exact hl0
  · rw [if_neg hv]
    exact Ev.neg (by simp [hv]) (Ev.now _)

theorem rday_l1 (y m d B : Int) (hB0 : 0 ≤ B) (hB : B ≤ 1000000000) (hm : m ≤ 12) (j : Nat) : ∀ m0 : Int, 1 ≤ m0 → m0 + j = m →
    Ev (fun k => kinkeepref21_Day.l1 k (B + M y m0) m0 y m d) (if B + M y m > 999999 then (0, 2) else (B + M y m, 0)) := by
  induction j with
  | zero =>
    intro m0 h0 he
    obtain rfl : m0 = m := by omega
    refine Ev.step (fun k => kinkeepref21_Day.l1.eq_2 _ _ _ _ _ _) ?_
    refine Ev.neg (by omega) ?_
    by_cases h : B + M y m0 > 999999
    · exact Ev.pos h (Ev.to (Ev.now _) (by rw [if_pos h]))
    · exact Ev.neg h (Ev.to (Ev.now _) (by rw [if_neg h]))
  | succ j ih =>
    intro m0 h0 he
    have hs := M_succ y m0 h0 (by omega)
    have hb := daysI_bd y m0 h0 (by omega)
    have hz := M_le y 1 m0 (by omega) (by omega) (by omega)
    have hz1 := M_one y
    have h13 := M_le y m0 13 (by omega) (by omega) (by omega)
    have h13' := M_13 y
    have hyl := ylen_bd y
    refine Ev.step (fun k => kinkeepref21_Day.l1.eq_2 _ _ _ _ _ _) ?_
    refine Ev.pos (by omega) ?_
    refine Ev.bind (rdays_ev _ _) ?_
    rw [w64 (x := m0 + 1) (by omega) (by omega), w64 (by omega) (by omega)]
    have e : B + M y m0 + daysI y m0 = B + M y (m0 + 1) := by omega
    rw [e]
    exact ih (m0 + 1) (by omega) (by omega)
theorem rday_l0 (y m d : Int) (hy : y ≤ 9223372036854775807) (h1 : 1 ≤ m) (hm : m ≤ 12) (d0 : 1 ≤ d) (j : Nat) : ∀ x : Int, 2000 ≤ x → x ≤ y → C (x - 2000) + d - 1 ≤ 999999 → 1000000 - (C (x - 2000) + d - 1) ≤ j →
    Ev (fun k => kinkeepref21_Day.l0 k (C (x - 2000) + d - 1) x y m d) (if num y m d > 999999 then (0, 2) else (num y m d, 0)) := by
  induction j with
  | zero => intro x h2 h3 h4 h5; omega
  | succ j ih =>
    intro x h2 h3 h4 h5
    have hcc := C_le 0 (x - 2000) (by omega) (by omega)
    rw [C_zero] at hcc
    refine Ev.step (fun k => kinkeepref21_Day.l0.eq_2 _ _ _ _ _ _) ?_
    by_cases hx : x < y
    · refine Ev.pos hx ?_
      refine Ev.const (length_eq _) ?_
      have hs := C_succ (x - 2000) (by omega)
      have e2 : 2000 + (x - 2000) = x := by omega
      rw [e2] at hs
      have e3 : x - 2000 + 1 = x + 1 - 2000 := by omega
      rw [e3] at hs
      have hyl := ylen_bd x
      rw [w64 (x := C (x - 2000) + d - 1 + ylen x) (by omega) (by omega)]
      have e : C (x - 2000) + d - 1 + ylen x = C (x + 1 - 2000) + d - 1 := by omega
      rw [e]
      by_cases hg : C (x + 1 - 2000) + d - 1 > 999999
      · refine Ev.pos hg (Ev.to (Ev.now _) ?_)
        have hle := C_le (x + 1 - 2000) (y - 2000) (by omega) (by omega)
        have hz := M_le y 1 m (by omega) (by omega) (by omega)
        have hz1 := M_one y
        rw [if_pos (by unfold num; omega)]
      · refine Ev.neg hg ?_
        rw [w64 (x := x + 1) (by omega) (by omega)]
        exact ih (x + 1) (by omega) (by omega) (by omega) (by omega)
    · obtain rfl : x = y := by omega
      refine Ev.neg hx ?_
      have hn : num x m d = C (x - 2000) + d - 1 + M x m := by unfold num; omega
      rw [hn]
      have e2 : C (x - 2000) + d - 1 = C (x - 2000) + d - 1 + M x 1 := by rw [M_one]; omega
      have hl := rday_l1 x m d (C (x - 2000) + d - 1) (by omega) (by omega) hm (m - 1).toNat 1 (by omega) (by omega)
      rw [← e2] at hl
      exact hl
theorem rDay_ev (y m d : Int) (hy : y ≤ 9223372036854775807) : Ev (fun k => kinkeepref21_Day.f k y m d) (dayOf y m d) := by
  unfold kinkeepref21_Day.f dayOf
  refine Ev.bind (rvalid_ev y m d) ?_
  by_cases hv : validP y m d
  · rw [if_pos hv]
    refine Ev.pos (by simp [hv]) ?_
    have hm := hv.month
    have hb := daysI_bd y m hm.1 hm.2
    obtain ⟨h1, h2, h3⟩ := hv
    rw [w64 (x := d - 1) (by omega) (by omega)]
    have e0 : (2000 : Int) - 2000 = 0 := by decide
    have hl := rday_l0 y m d hy hm.1 hm.2 h2 1000001 2000 (by omega) h1 (by rw [e0, C_zero]; omega) (by rw [e0, C_zero]; omega)
    rw [e0, C_zero] at hl
    have e : 0 + d - 1 = d - 1 := by omega
    rw [e] at hl
    exact hl
  · rw [if_neg hv]
    exact Ev.neg (by simp [hv]) (Ev.now _)

/-! ### Weekday, Week, Month, Year, AddMonths -/
theorem weekday_same (day : Int) : calendar_Weekday.f day = kinkeepref21_Weekday.f day := by
  unfold calendar_Weekday.f kinkeepref21_Weekday.f
  rw [inRange_eq, check_eq]
theorem week_same (day : Int) : calendar_Week.f day = kinkeepref21_Week.f day := by
  unfold calendar_Week.f kinkeepref21_Week.f
  rw [inRange_eq, check_eq]
theorem weekday_ok {day : Int} (h : 0 ≤ day) (h1 : day ≤ 999999) : calendar_Weekday.f day = some ((day + 5) % 7) := by
  unfold calendar_Weekday.f
  rw [inRange_eq, dErr_ok h h1]
  simp only [Option.bind_some, if_true]
  rw [w64 (by omega) (by omega), Int.tmod_eq_emod_of_nonneg (by omega)]
theorem week_ok {day : Int} (h : 0 ≤ day) (h1 : day ≤ 999999) : calendar_Week.f day = some ((day + 5) / 7) := by
  unfold calendar_Week.f
  rw [inRange_eq, dErr_ok h h1]
  simp only [Option.bind_some, if_true]
  rw [w64 (x := day + 5) (by omega) (by omega), Int.tdiv_eq_ediv_of_nonneg (by omega), w64 (by omega) (by omega)]
theorem Month_ev {day y m d : Int} (h : IsDate day y m d) (hd : day ≤ 999999) : Ev (fun k => calendar_Month.f k day) (12 * (y - 2000) + m - 1) := by
  unfold calendar_Month.f
  refine Ev.bind (Date_ev h hd) ?_
  refine Ev.pos rfl (Ev.to (Ev.now _) ?_)
  have h1 := h.year_le hd
  have h2 := h.y0
  have h3 := h.m0
  have h4 := h.m1
  show wrap64 (wrap64 (wrap64 (12 * wrap64 (y - 2000)) + m) - 1) = _
  rw [w64 (x := y - 2000) (by omega) (by omega), w64 (x := 12 * (y - 2000)) (by omega) (by omega), w64 (x := 12 * (y - 2000) + m) (by omega) (by omega), w64 (by omega) (by omega)]
theorem rMonth_ev {day y m d : Int} (h : IsDate day y m d) (hd : day ≤ 999999) : Ev (fun k => kinkeepref21_Month.f k day) (12 * (y - 2000) + m - 1) := by
  unfold kinkeepref21_Month.f
  refine Ev.bind (rDate_ev h hd) ?_
  refine Ev.pos rfl (Ev.to (Ev.now _) ?_)
  have h1 := h.year_le hd
  have h2 := h.y0
  have h3 := h.m0
  have h4 := h.m1
  show wrap64 (wrap64 (wrap64 (12 * wrap64 (y - 2000)) + m) - 1) = _
  rw [w64 (x := y - 2000) (by omega) (by omega), w64 (x := 12 * (y - 2000)) (by omega) (by omega), w64 (x := 12 * (y - 2000) + m) (by omega) (by omega), w64 (by omega) (by omega)]
theorem Month_out {day : Int} (h : ¬ (0 ≤ day ∧ day ≤ 999999)) : Ev (fun k => calendar_Month.f k day) (-1) := by
  unfold calendar_Month.f
  exact Ev.bind (Date_out h) (Ev.neg (dErr_ne h) (Ev.now _))
theorem rMonth_out {day : Int} (h : ¬ (0 ≤ day ∧ day ≤ 999999)) : Ev (fun k => kinkeepref21_Month.f k day) (-1) := by
  unfold kinkeepref21_Month.f
  exact Ev.bind (rDate_out h) (Ev.neg (dErr_ne h) (Ev.now _))
theorem Year_ev {day y m d : Int} (h : IsDate day y m d) (hd : day ≤ 999999) : Ev (fun k => calendar_Year.f k day) (y - 2000) := by
  unfold calendar_Year.f
  refine Ev.bind (Date_ev h hd) (Ev.pos rfl (Ev.to (Ev.now _) ?_))
  have h1 := h.year_le hd
  have h2 := h.y0
  exact w64 (by omega) (by omega)
theorem rYear_ev {day y m d : Int} (h : IsDate day y m d) (hd : day ≤ 999999) : Ev (fun k => kinkeepref21_Year.f k day) (y - 2000) := by
  unfold kinkeepref21_Year.f
  refine Ev.bind (rDate_ev h hd) (Ev.pos rfl (Ev.to (Ev.now _) ?_))
  have h1 := h.year_le hd
  have h2 := h.y0
  exact w64 (by omega) (by omega)
theorem Year_out {day : Int} (h : ¬ (0 ≤ day ∧ day ≤ 999999)) : Ev (fun k => calendar_Year.f k day) (-1) := by
  unfold calendar_Year.f
  exact Ev.bind (Date_out h) (Ev.neg (dErr_ne h) (Ev.now _))
theorem rYear_out {day : Int} (h : ¬ (0 ≤ day ∧ day ≤ 999999)) : Ev (fun k => kinkeepref21_Year.f k day) (-1) := by
  unfold kinkeepref21_Year.f
  exact Ev.bind (rDate_out h) (Ev.neg (dErr_ne h) (Ev.now _))

/-- What AddMonths gives for a day that has a date. -/
def addOf (y m d n : Int) : Int × Int :=
  if n < -100000 ∨ 100000 < n then (0, 1) else
  if 12 * (y - 2000) + m - 1 + n < 0 then (0, 1) else
  dayOf (2000 + (12 * (y - 2000) + m - 1 + n) / 12) ((12 * (y - 2000) + m - 1 + n) % 12 + 1) (mn d (daysI (2000 + (12 * (y - 2000) + m - 1 + n) / 12) ((12 * (y - 2000) + m - 1 + n) % 12 + 1)))
theorem add_ev {day y m d n : Int} (h : IsDate day y m d) (hd : day ≤ 999999) : Ev (fun k => calendar_AddMonths.f k day n) (addOf y m d n) := by
  have h1 := h.year_le hd
  have h2 := h.y0
  have h3 := h.m0
  have h4 := h.m1
  unfold calendar_AddMonths.f addOf
  refine Ev.bind (Date_ev h hd) (Ev.pos rfl ?_)
  have go : ∀ b : Bool, b = decide (n < -100000 ∨ 100000 < n) → Ev (fun k => calendar_AddMonths.j0 k day n b y m d) (addOf y m d n) := by
    intro b hb
    refine Ev.step (fun k => calendar_AddMonths.j0.eq_2 _ _ _ _ _ _ _) ?_
    unfold addOf
    by_cases hn : n < -100000 ∨ 100000 < n
    · rw [if_pos hn]
      exact Ev.pos (by rw [hb]; simp [hn]) (Ev.now _)
    · rw [if_neg hn]
      refine Ev.neg (by rw [hb]; simpa using hn) ?_
      refine Ev.bind (Month_ev h hd) ?_
      rw [w64 (x := 12 * (y - 2000) + m - 1 + n) (by omega) (by omega)]
      by_cases ht : 12 * (y - 2000) + m - 1 + n < 0
      · rw [if_pos ht]
        exact Ev.pos ht (Ev.now _)
      · rw [if_neg ht]
        refine Ev.neg ht ?_
        rw [Int.tdiv_eq_ediv_of_nonneg (by omega), Int.tmod_eq_emod_of_nonneg (by omega)]
        rw [w64 (x := (12 * (y - 2000) + m - 1 + n) / 12) (by omega) (by omega), w64 (x := 2000 + (12 * (y - 2000) + m - 1 + n) / 12) (by omega) (by omega), w64 (x := (12 * (y - 2000) + m - 1 + n) % 12 + 1) (by omega) (by omega)]
        refine Ev.const (days_eq _ _) ?_
        exact Ev.bind (Day_ev _ _ _ (by omega)) (Ev.now _)
  by_cases hn : n < -100000
  · exact Ev.pos hn (go true (by simp [hn]))
  · exact Ev.neg hn (go (decide (n > 100000)) (by simp [hn]))
theorem radd_ev {day y m d n : Int} (h : IsDate day y m d) (hd : day ≤ 999999) : Ev (fun k => kinkeepref21_AddMonths.f k day n) (addOf y m d n) := by
  have h1 := h.year_le hd
  have h2 := h.y0
  have h3 := h.m0
  have h4 := h.m1
  unfold kinkeepref21_AddMonths.f
  refine Ev.bind (rDate_ev h hd) (Ev.pos rfl ?_)
  have bad : (n < -100000 ∨ 100000 < n ∨ 12 * (y - 2000) + m - 1 + n < 0) → Ev (fun k => kinkeepref21_AddMonths.j0 k day n true y m d) (addOf y m d n) := by
    intro hb
    refine Ev.step (fun k => kinkeepref21_AddMonths.j0.eq_2 _ _ _ _ _ _ _) ?_
    refine Ev.pos rfl (Ev.to (Ev.now _) ?_)
    unfold addOf
    by_cases hn : n < -100000 ∨ 100000 < n
    · rw [if_pos hn]
    · rw [if_neg hn, if_pos (by omega)]
  by_cases hn : n < -100000
  · exact Ev.pos hn (bad (.inl hn))
  · refine Ev.neg hn ?_
    by_cases hn2 : n > 100000
    · exact Ev.pos hn2 (bad (.inr (.inl hn2)))
    · refine Ev.neg hn2 ?_
      refine Ev.bind (rMonth_ev h hd) ?_
      rw [w64 (x := 12 * (y - 2000) + m - 1 + n) (by omega) (by omega)]
      by_cases ht : 12 * (y - 2000) + m - 1 + n < 0
      · have e : decide (12 * (y - 2000) + m - 1 + n < 0) = true := decide_eq_true ht
        rw [e]
        exact bad (.inr (.inr ht))
      · have e : decide (12 * (y - 2000) + m - 1 + n < 0) = false := decide_eq_false ht
        rw [e]
        refine Ev.step (fun k => kinkeepref21_AddMonths.j0.eq_2 _ _ _ _ _ _ _) ?_
        refine Ev.neg (by simp) ?_
        unfold addOf
        rw [if_neg (by omega), if_neg ht]
        refine Ev.bind (rMonth_ev h hd) ?_
        rw [w64 (x := 12 * (y - 2000) + m - 1 + n) (by omega) (by omega)]
        rw [Int.tdiv_eq_ediv_of_nonneg (by omega), Int.tmod_eq_emod_of_nonneg (by omega)]
        rw [w64 (x := (12 * (y - 2000) + m - 1 + n) / 12) (by omega) (by omega), w64 (x := 2000 + (12 * (y - 2000) + m - 1 + n) / 12) (by omega) (by omega), w64 (x := (12 * (y - 2000) + m - 1 + n) % 12 + 1) (by omega) (by omega)]
        refine Ev.bind (rdays_ev _ _) ?_
        exact Ev.bind (rDay_ev _ _ _ (by omega)) (Ev.now _)
theorem add_out {day n : Int} (h : ¬ (0 ≤ day ∧ day ≤ 999999)) : Ev (fun k => calendar_AddMonths.f k day n) (0, dErr day) := by
  unfold calendar_AddMonths.f
  exact Ev.bind (Date_out h) (Ev.neg (dErr_ne h) (Ev.now _))
theorem radd_out {day n : Int} (h : ¬ (0 ≤ day ∧ day ≤ 999999)) : Ev (fun k => kinkeepref21_AddMonths.f k day n) (0, dErr day) := by
  unfold kinkeepref21_AddMonths.f
  exact Ev.bind (rDate_out h) (Ev.neg (dErr_ne h) (Ev.now _))
end Go.Proofs.YtjjblpcblaelgaaDoor.PB
