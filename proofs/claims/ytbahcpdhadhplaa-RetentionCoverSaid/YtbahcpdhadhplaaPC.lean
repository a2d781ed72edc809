/- Plain laws of the calendar, second part: what Date, Day, Month, Year and AddMonths come to, with rounds enough. -/
import Derived.Test.YtbahcpdhadhplaaPB
set_option linter.unusedVariables false
set_option linter.unusedSimpArgs false
namespace Go.Proofs.Ytbahcpdhadhplaa.PB
open Go.RowKit Go.Proofs.Ytbahcpdhadhplaa.M Go.Proofs.Ytbahcpdhadhplaa.Hand Go.Proofs.YtbahcpdhadhplaaW.PrintWords Go.Proofs.YtbahcpdhadhplaaW.PrintMore

theorem w64 {x : Int} (h1 : -9223372036854775808 ≤ x) (h2 : x ≤ 9223372036854775807) : wrap64 x = x := by unfold wrap64; omega
theorem Ev.pos {α : Type} {c : Prop} [Decidable c] {g f : Nat → Option α} {r : α} (h : c) (k : Ev g r) : Ev (fun n => if c then g n else f n) r :=
  Ev.congr (fun _ => if_pos h) k
theorem Ev.neg {α : Type} {c : Prop} [Decidable c] {g f : Nat → Option α} {r : α} (h : ¬ c) (k : Ev f r) : Ev (fun n => if c then g n else f n) r :=
  Ev.congr (fun _ => if_neg h) k
theorem Ev.const {α β : Type} {g : Option α} {a : α} {f : Nat → α → Option β} {r : β} (h : g = some a) (k : Ev (fun n => f n a) r) : Ev (fun n => g.bind (f n)) r := by
  subst h
  exact k
theorem Ev.to {α : Type} {g : Nat → Option α} {r r' : α} (k : Ev g r) (h : r = r') : Ev g r' := h ▸ k

theorem days_eq (y m : Int) : calendar_Days.f y m = some (daysI y m) := rfl
def b31 (m : Int) : Bool := m == 1 || m == 3 || m == 5 || m == 7 || m == 8 || m == 10 || m == 12
def b30 (m : Int) : Bool := m == 4 || m == 6 || m == 9 || m == 11
theorem rdays_f (k : Nat) (y m : Int) : kinkeepref21_Days.f k y m = kinkeepref21_Days.j0 k y m (b31 m) := by
  unfold kinkeepref21_Days.f
  repeat' split
  all_goals congr 1
  all_goals simp [b31, *]
theorem rdays_ev (y m : Int) : Ev (fun k => kinkeepref21_Days.f k y m) (daysI y m) := by
  refine Ev.congr (fun k => rdays_f k y m) ?_
  refine Ev.step (fun k => kinkeepref21_Days.j0.eq_2 _ _ _ _) ?_
  by_cases h : b31 m = true
  · refine Ev.pos h (Ev.to (Ev.now _) ?_)
    simp only [b31, Bool.or_eq_true, beq_iff_eq] at h
    unfold daysI mlen
    rw [if_neg (by omega), if_neg (by omega), if_neg (by omega), if_neg (by omega)]
  · refine Ev.neg h ?_
    simp only [b31, Bool.or_eq_true, beq_iff_eq] at h
    have hj : ∀ k, (if m = 4 then kinkeepref21_Days.j1 k y m (m == 4) else if m = 6 then kinkeepref21_Days.j1 k y m (m == 6) else if m = 9 then kinkeepref21_Days.j1 k y m (m == 9) else kinkeepref21_Days.j1 k y m (m == 11)) = kinkeepref21_Days.j1 k y m (b30 m) := by
      intro k
      repeat' split
      all_goals congr 1
      all_goals simp [b30, *]
    refine Ev.congr hj ?_
    refine Ev.step (fun k => kinkeepref21_Days.j1.eq_2 _ _ _ _) ?_
    by_cases h2 : b30 m = true
    · refine Ev.pos h2 (Ev.to (Ev.now _) ?_)
      simp only [b30, Bool.or_eq_true, beq_iff_eq] at h2
      unfold daysI mlen
      rw [if_neg (by omega), if_neg (by omega), if_neg (by omega), if_pos (by omega)]
    · refine Ev.neg h2 ?_
      simp only [b30, Bool.or_eq_true, beq_iff_eq] at h2
      by_cases h3 : m = 2
      · refine Ev.pos h3 ?_
        subst h3
        refine Ev.const (rleap_eq y) ?_
        by_cases hl : leapP y
        · refine Ev.pos (by simp [hl]) (Ev.to (Ev.now _) ?_)
          simp [daysI, leapB_eq, hl]
        · refine Ev.neg (by simp [hl]) (Ev.to (Ev.now _) ?_)
          simp [daysI, leapB_eq, hl, mlen]
      · refine Ev.neg h3 (Ev.to (Ev.now _) ?_)
        unfold daysI
        rw [if_pos (by omega)]

/-! ### Date -/
def dErr (day : Int) : Int := if day < 0 then 1 else if 999999 < day then 2 else 0
theorem inRange_eq (day : Int) : calendar_inRange.f day = some (dErr day) := by
  unfold calendar_inRange.f dErr
  repeat' split
  all_goals first | rfl | omega
theorem check_eq (day : Int) : kinkeepref21_check.f day = some (dErr day) := by
  unfold kinkeepref21_check.f dErr
  repeat' split
  all_goals first | rfl | omega
theorem dErr_ok {day : Int} (h : 0 ≤ day) (h1 : day ≤ 999999) : dErr day = 0 := by
  unfold dErr
  rw [if_neg (by omega), if_neg (by omega)]
theorem dErr_ne {day : Int} (h : ¬ (0 ≤ day ∧ day ≤ 999999)) : dErr day ≠ 0 := by
  unfold dErr
  repeat' split
  all_goals omega

theorem date_l1 (y m d : Int) (hy : 2000 ≤ y ∧ y ≤ 5000) (m1 : m ≤ 12) (d0 : 1 ≤ d) (d1 : d ≤ daysI y m) (j : Nat) :
    ∀ m0 : Int, 1 ≤ m0 → m0 + j = m → Ev (fun k => calendar_date.l1 k (M y m - M y m0 + d - 1) y m0 0) (y, m, d) := by
  induction j with
  | zero =>
    intro m0 h0 hm
    obtain rfl : m0 = m := by omega
    have hb := daysI_bd y m0 h0 m1
    refine Ev.step (fun k => calendar_date.l1.eq_2 _ _ _ _ _) ?_
    refine Ev.const (days_eq _ _) ?_
    refine Ev.neg (by omega) (Ev.to (Ev.now _) ?_)
    rw [w64 (by omega) (by omega)]
    have e : M y m0 - M y m0 + d - 1 + 1 = d := by omega
    rw [e]
  | succ j ih =>
    intro m0 h0 hm
    have hb := daysI_bd y m0 h0 (by omega)
    have hb2 := daysI_bd y m (by omega) m1
    have hs := M_succ y m0 h0 (by omega)
    have hle := M_le y (m0 + 1) m (by omega) (by omega) (by omega)
    have hz := M_le y 1 m0 (by omega) (by omega) (by omega)
    have hz1 := M_one y
    have h13 := M_le y m 13 (by omega) (by omega) (by omega)
    have h13' := M_13 y
    have hyl := ylen_bd y
    refine Ev.step (fun k => calendar_date.l1.eq_2 _ _ _ _ _) ?_
    refine Ev.const (days_eq _ _) ?_
    refine Ev.pos (by omega) ?_
    refine Ev.const (days_eq _ _) ?_
    rw [w64 (x := m0 + 1) (by omega) (by omega), w64 (by omega) (by omega)]
    have e : M y m - M y m0 + d - 1 - daysI y m0 = M y m - M y (m0 + 1) + d - 1 := by omega
    rw [e]
    exact ih (m0 + 1) (by omega) (by omega)
theorem date_l0 (day y m d : Int) (h : IsDate day y m d) (hd : day ≤ 999999) (j : Nat) :
    ∀ y0 : Int, 2000 ≤ y0 → y0 + j = y → Ev (fun k => calendar_date.l0 k (C (y - 2000) - C (y0 - 2000) + M y m + d - 1) y0 1 0) (y, m, d) := by
  have hy := h.year_le hd
  have hw := h.within
  obtain ⟨g0, g1, g2, g3, g4, g5⟩ := h
  induction j with
  | zero =>
    intro y0 h0 hm
    obtain rfl : y0 = y := by omega
    refine Ev.step (fun k => calendar_date.l0.eq_2 _ _ _ _ _) ?_
    refine Ev.const (yearDays_eq _) ?_
    refine Ev.neg (by omega) ?_
    have e : C (y0 - 2000) - C (y0 - 2000) + M y0 m + d - 1 = M y0 m - M y0 1 + d - 1 := by rw [M_one]; omega
    rw [e]
    exact date_l1 y0 m d (by omega) g2 g3 g4 (m - 1).toNat 1 (by omega) (by omega)
  | succ j ih =>
    intro y0 h0 hm
    have hs := C_succ (y0 - 2000) (by omega)
    have e2 : 2000 + (y0 - 2000) = y0 := by omega
    rw [e2] at hs
    have hle := C_le (y0 - 2000 + 1) (y - 2000) (by omega) (by omega)
    have hl := ylen_bd y0
    have hl2 := ylen_bd y
    have hc0 := C_le 0 (y0 - 2000) (by omega) (by omega)
    rw [C_zero] at hc0
    refine Ev.step (fun k => calendar_date.l0.eq_2 _ _ _ _ _) ?_
    refine Ev.const (yearDays_eq _) ?_
    refine Ev.pos (by omega) ?_
    refine Ev.const (yearDays_eq _) ?_
    rw [w64 (x := y0 + 1) (by omega) (by omega), w64 (by omega) (by omega)]
    have e3 : y0 - 2000 + 1 = y0 + 1 - 2000 := by omega
    rw [e3] at hs hle
    have e : C (y - 2000) - C (y0 - 2000) + M y m + d - 1 - ylen y0 = C (y - 2000) - C (y0 + 1 - 2000) + M y m + d - 1 := by omega
    rw [e]
    exact ih (y0 + 1) (by omega) (by omega)
theorem date_ev {day y m d : Int} (h : IsDate day y m d) (hd : day ≤ 999999) : Ev (fun k => calendar_date.f k day) (y, m, d) := by
  have h0 := h.day0
  have hy := h.year_le hd
  have hw := h.within
  have hc := C_cycle (day / 146097) 0 (by omega) (by omega)
  rw [C_zero] at hc
  have hge : 400 * (day / 146097) ≤ y - 2000 := by
    by_cases hl : 400 * (day / 146097) ≤ y - 2000
    · exact hl
    · have h1 := C_succ (y - 2000) (by have := h.y0; omega)
      have e2 : 2000 + (y - 2000) = y := by omega
      rw [e2] at h1
      have h2 := C_le (y - 2000 + 1) (400 * (day / 146097)) (by have := h.y0; omega) (by omega)
      have h3 := h.e
      have e0 : 400 * (day / 146097) + 0 = 400 * (day / 146097) := by omega
      rw [e0] at hc
      omega
  have hl := date_l0 day y m d h hd (y - 2000 - 400 * (day / 146097)).toNat (2000 + 400 * (day / 146097)) (by omega) (by omega)
  have e1 : 2000 + 400 * (day / 146097) - 2000 = 400 * (day / 146097) + 0 := by omega
  rw [e1, hc] at hl
  have h3 := h.e
  have e : C (y - 2000) - (146097 * (day / 146097) + 0) + M y m + d - 1 = day % 146097 := by omega
  rw [e] at hl
  unfold calendar_date.f
  rw [Int.tmod_eq_emod_of_nonneg h0, Int.tdiv_eq_ediv_of_nonneg h0, w64 (x := day / 146097) (by omega) (by omega), w64 (x := day / 146097 * 400) (by omega) (by omega), w64 (by omega) (by omega)]
  have e4 : 2000 + day / 146097 * 400 = 2000 + 400 * (day / 146097) := by omega
  rw [e4]
  exact hl
theorem Date_ev {day y m d : Int} (h : IsDate day y m d) (hd : day ≤ 999999) : Ev (fun k => calendar_Date.f k day) (y, m, d, 0) := by
  unfold calendar_Date.f
  refine Ev.const (inRange_eq day) ?_
  refine Ev.pos (dErr_ok h.day0 hd) ?_
  exact Ev.bind (date_ev h hd) (Ev.now _)
theorem Date_out {day : Int} (h : ¬ (0 ≤ day ∧ day ≤ 999999)) : Ev (fun k => calendar_Date.f k day) (0, 0, 0, dErr day) := by
  unfold calendar_Date.f
  refine Ev.const (inRange_eq day) ?_
  exact Ev.neg (dErr_ne h) (Ev.now _)

theorem rdate_l1 (y m d : Int) (hy : 2000 ≤ y ∧ y ≤ 5000) (m1 : m ≤ 12) (d0 : 1 ≤ d) (d1 : d ≤ daysI y m) (j : Nat) :
    ∀ m0 : Int, 1 ≤ m0 → m0 + j = m → Ev (fun k => kinkeepref21_Date.l1 k (M y m - M y m0 + d - 1) y m0 0) (y, m, d, 0) := by
  induction j with
  | zero =>
    intro m0 h0 hm
    obtain rfl : m0 = m := by omega
    have hb := daysI_bd y m0 h0 m1
    refine Ev.step (fun k => kinkeepref21_Date.l1.eq_2 _ _ _ _ _) ?_
    refine Ev.bind (rdays_ev _ _) ?_
    refine Ev.neg (by omega) (Ev.to (Ev.now _) ?_)
    rw [w64 (by omega) (by omega)]
    have e : M y m0 - M y m0 + d - 1 + 1 = d := by omega
    rw [e]
  | succ j ih =>
    intro m0 h0 hm
    have hb := daysI_bd y m0 h0 (by omega)
    have hb2 := daysI_bd y m (by omega) m1
    have hs := M_succ y m0 h0 (by omega)
    have hle := M_le y (m0 + 1) m (by omega) (by omega) (by omega)
    have hz := M_le y 1 m0 (by omega) (by omega) (by omega)
    have hz1 := M_one y
    have h13 := M_le y m 13 (by omega) (by omega) (by omega)
    have h13' := M_13 y
    have hyl := ylen_bd y
    refine Ev.step (fun k => kinkeepref21_Date.l1.eq_2 _ _ _ _ _) ?_
    refine Ev.bind (rdays_ev _ _) ?_
    refine Ev.pos (by omega) ?_
    refine Ev.bind (rdays_ev _ _) ?_
    rw [w64 (x := m0 + 1) (by omega) (by omega), w64 (by omega) (by omega)]
    have e : M y m - M y m0 + d - 1 - daysI y m0 = M y m - M y (m0 + 1) + d - 1 := by omega
    rw [e]
    exact ih (m0 + 1) (by omega) (by omega)
theorem rdate_l0 (day y m d : Int) (h : IsDate day y m d) (hd : day ≤ 999999) (j : Nat) :
    ∀ y0 : Int, 2000 ≤ y0 → y0 + j = y → Ev (fun k => kinkeepref21_Date.l0 k (C (y - 2000) - C (y0 - 2000) + M y m + d - 1) y0 1 0) (y, m, d, 0) := by
  have hy := h.year_le hd
  have hw := h.within
  obtain ⟨g0, g1, g2, g3, g4, g5⟩ := h
  induction j with
  | zero =>
    intro y0 h0 hm
    obtain rfl : y0 = y := by omega
    refine Ev.step (fun k => kinkeepref21_Date.l0.eq_2 _ _ _ _ _) ?_
    refine Ev.const (length_eq _) ?_
    refine Ev.neg (by omega) ?_
    have e : C (y0 - 2000) - C (y0 - 2000) + M y0 m + d - 1 = M y0 m - M y0 1 + d - 1 := by rw [M_one]; omega
    rw [e]
    exact rdate_l1 y0 m d (by omega) g2 g3 g4 (m - 1).toNat 1 (by omega) (by omega)
  | succ j ih =>
    intro y0 h0 hm
    have hs := C_succ (y0 - 2000) (by omega)
    have e2 : 2000 + (y0 - 2000) = y0 := by omega
    rw [e2] at hs
    have hle := C_le (y0 - 2000 + 1) (y - 2000) (by omega) (by omega)
    have hl := ylen_bd y0
    have hl2 := ylen_bd y
    have hc0 := C_le 0 (y0 - 2000) (by omega) (by omega)
    rw [C_zero] at hc0
    refine Ev.step (fun k => kinkeepref21_Date.l0.eq_2 _ _ _ _ _) ?_
    refine Ev.const (length_eq _) ?_
    refine Ev.pos (by omega) ?_
    refine Ev.const (length_eq _) ?_
    rw [w64 (x := y0 + 1) (by omega) (by omega), w64 (by omega) (by omega)]
    have e3 : y0 - 2000 + 1 = y0 + 1 - 2000 := by omega
    rw [e3] at hs hle
    have e : C (y - 2000) - C (y0 - 2000) + M y m + d - 1 - ylen y0 = C (y - 2000) - C (y0 + 1 - 2000) + M y m + d - 1 := by omega
    rw [e]
    exact ih (y0 + 1) (by omega) (by omega)
theorem rDate_ev {day y m d : Int} (h : IsDate day y m d) (hd : day ≤ 999999) : Ev (fun k => kinkeepref21_Date.f k day) (y, m, d, 0) := by
  unfold kinkeepref21_Date.f
  refine Ev.const (check_eq day) ?_
  refine Ev.pos (dErr_ok h.day0 hd) ?_
  have hl := rdate_l0 day y m d h hd (y - 2000).toNat 2000 (by omega) (by have := h.y0; omega)
  have e0 : (2000 : Int) - 2000 = 0 := by decide
  rw [e0, C_zero] at hl
  have e : C (y - 2000) - 0 + M y m + d - 1 = day := by have := h.e; omega
  rw [e] at hl
  exact hl
theorem rDate_out {day : Int} (h : ¬ (0 ≤ day ∧ day ≤ 999999)) : Ev (fun k => kinkeepref21_Date.f k day) (0, 0, 0, dErr day) := by
  unfold kinkeepref21_Date.f
  refine Ev.const (check_eq day) ?_
  exact Ev.neg (dErr_ne h) (Ev.now _)
end Go.Proofs.Ytbahcpdhadhplaa.PB
