/- Plain laws of the calendar: the numbers that Leap, Days, Date, Day, Month, Year and AddMonths of the program and of the specification come to. Plain laws of the calendar, second part: what Date, Day, Month, Year and AddMonths come to, with rounds enough. The calendar's numbers in closed form: the year and the month of a day, found by counting; and that the calls give them. -/
import Derived.Test.YtbahcpdhadhplaaHand
import Derived.Test.YtbahcpdhadhplaaM
set_option linter.unusedVariables false
set_option linter.unusedSimpArgs false
namespace Go.Proofs.Ytbahcpdhadhplaa.PB
open Go.RowKit Go.Proofs.Ytbahcpdhadhplaa.M Go.Proofs.Ytbahcpdhadhplaa.Hand Go.Proofs.YtbahcpdhadhplaaW.PrintWords Go.Proofs.YtbahcpdhadhplaaW.PrintMore

/-! ### years and months -/
def leapP (y : Int) : Prop := y % 4 = 0 ∧ (y % 100 ≠ 0 ∨ y % 400 = 0)
instance (y : Int) : Decidable (leapP y) := by unfold leapP; infer_instance
theorem tmod0 (y k : Int) : Int.tmod y k = 0 ↔ y % k = 0 := by rw [← Int.dvd_iff_tmod_eq_zero, ← Int.dvd_iff_emod_eq_zero]
theorem leapB_eq (y : Int) : leapB y = decide (leapP y) := by
  rw [Bool.eq_iff_iff, decide_eq_true_iff]
  unfold leapB leapP
  simp [tmod0]
theorem leap_eq (y : Int) : calendar_Leap.f y = some (decide (leapP y)) := by
  unfold calendar_Leap.f
  simp only [tmod0]
  by_cases h1 : y % 4 = 0
  · by_cases h2 : y % 100 = 0
    · rw [if_pos h1, if_pos h2]
      by_cases h3 : y % 400 = 0
      · have h4 : Int.tmod y 400 = 0 := (tmod0 _ _).2 h3
        simp [leapP, h1, h2, h3, h4]
      · have h4 : ¬ Int.tmod y 400 = 0 := fun h => h3 ((tmod0 _ _).1 h)
        simp [leapP, h1, h2, h3, h4]
    · rw [if_pos h1, if_neg h2]
      simp [leapP, h1, h2]
  · rw [if_neg h1]
    simp [leapP, h1]
theorem rleap_eq (y : Int) : kinkeepref21_Leap.f y = some (decide (leapP y)) := by
  unfold kinkeepref21_Leap.f
  simp only [tmod0]
  by_cases h3 : y % 400 = 0
  · have h4 : Int.tmod y 400 = 0 := (tmod0 _ _).2 h3
    have h1 : y % 4 = 0 := by omega
    have h2 : y % 100 = 0 := by omega
    simp [leapP, h1, h2, h3, h4]
  · have h4 : ¬ Int.tmod y 400 = 0 := fun h => h3 ((tmod0 _ _).1 h)
    by_cases h1 : y % 4 = 0
    · by_cases h2 : y % 100 = 0 <;> simp [leapP, h1, h2, h3, h4]
    · simp [leapP, h1, h3, h4]

def ylen (y : Int) : Int := if leapP y then 366 else 365
theorem ylen_bd (y : Int) : 365 ≤ ylen y ∧ ylen y ≤ 366 := by unfold ylen; split <;> omega
theorem yearDays_eq (y : Int) : calendar_yearDays.f y = some (ylen y) := by
  unfold calendar_yearDays.f ylen
  rw [leap_eq]
  by_cases h : leapP y <;> simp [h]
theorem length_eq (y : Int) : kinkeepref21_length.f y = some (ylen y) := by
  unfold kinkeepref21_length.f ylen
  rw [rleap_eq]
  by_cases h : leapP y <;> simp [h]

/-- The days of the first n years. -/
def C (n : Int) : Int := 365 * n + (n + 3) / 4 - (n + 99) / 100 + (n + 399) / 400
theorem C_zero : C 0 = 0 := by decide
theorem C_succ (n : Int) (h : 0 ≤ n) : C (n + 1) = C n + ylen (2000 + n) := by
  unfold C ylen
  by_cases hl : leapP (2000 + n)
  · rw [if_pos hl]
    obtain ⟨h1, h2 | h2⟩ := hl <;> omega
  · rw [if_neg hl]
    by_cases h1 : (2000 + n) % 4 = 0
    · have h2 : (2000 + n) % 100 = 0 := by
        by_cases h : (2000 + n) % 100 = 0
        · exact h
        · exact absurd ⟨h1, .inl h⟩ hl
      have h3 : ¬ (2000 + n) % 400 = 0 := fun h => hl ⟨h1, .inr h⟩
      omega
    · omega
theorem C_add (a : Int) (j : Nat) (h : 0 ≤ a) : C a + 365 * j ≤ C (a + j) := by
  induction j with
  | zero => simp
  | succ j ih =>
    have h1 := C_succ (a + j) (by omega)
    have h2 := ylen_bd (2000 + (a + j))
    have h3 : a + ((j + 1 : Nat) : Int) = a + j + 1 := by omega
    rw [h3]
    omega
theorem C_le (a b : Int) (h : 0 ≤ a) (h1 : a ≤ b) : C a + 365 * (b - a) ≤ C b := by
  have := C_add a (b - a).toNat h
  have e : a + ((b - a).toNat : Int) = b := by omega
  rw [e] at this
  omega
theorem C_cycle (a r : Int) (h : 0 ≤ a) (h1 : 0 ≤ r) : C (400 * a + r) = 146097 * a + C r := by unfold C; omega

theorem daysI_bd (y m : Int) (h1 : 1 ≤ m) (h2 : m ≤ 12) : 28 ≤ daysI y m ∧ daysI y m ≤ 31 := by
  unfold daysI mlen
  repeat' split
  all_goals omega
theorem daysI_out (y m : Int) (h : ¬ (1 ≤ m ∧ m ≤ 12)) : daysI y m = 0 := by
  unfold daysI
  rw [if_pos (by omega)]
/-- The days of a year's months ahead of month m. -/
def M (y m : Int) : Int :=
  (if m ≤ 1 then 0 else if m = 2 then 31 else if m = 3 then 59 else if m = 4 then 90 else if m = 5 then 120 else if m = 6 then 151 else if m = 7 then 181 else if m = 8 then 212 else if m = 9 then 243 else if m = 10 then 273 else if m = 11 then 304 else if m = 12 then 334 else 365)
    + if 3 ≤ m ∧ leapP y then 1 else 0
theorem M_one (y : Int) : M y 1 = 0 := by simp [M]
theorem M_13 (y : Int) : M y 13 = ylen y := by
  by_cases h : leapP y <;> simp [M, ylen, h]
theorem M_succ (y m : Int) (h1 : 1 ≤ m) (h2 : m ≤ 12) : M y (m + 1) = M y m + daysI y m := by
  obtain rfl | rfl | rfl | rfl | rfl | rfl | rfl | rfl | rfl | rfl | rfl | rfl : m = 1 ∨ m = 2 ∨ m = 3 ∨ m = 4 ∨ m = 5 ∨ m = 6 ∨ m = 7 ∨ m = 8 ∨ m = 9 ∨ m = 10 ∨ m = 11 ∨ m = 12 := by omega
  all_goals by_cases h : leapP y <;> simp [M, daysI, mlen, leapB_eq, h]
theorem M_add (y m : Int) (j : Nat) (h1 : 1 ≤ m) (h2 : m + j ≤ 13) : M y m + 28 * j ≤ M y (m + j) := by
  induction j with
  | zero => simp
  | succ j ih =>
    have h3 := M_succ y (m + j) (by omega) (by omega)
    have h4 := daysI_bd y (m + j) (by omega) (by omega)
    have h5 : m + ((j + 1 : Nat) : Int) = m + j + 1 := by omega
    rw [h5]
    have := ih (by omega)
    omega
theorem M_le (y a b : Int) (h : 1 ≤ a) (h1 : a ≤ b) (h2 : b ≤ 13) : M y a + 28 * (b - a) ≤ M y b := by
  have := M_add y a (b - a).toNat h (by omega)
  have e : a + ((b - a).toNat : Int) = b := by omega
  rw [e] at this
  omega

/-! ### a day and its date -/
structure IsDate (day y m d : Int) : Prop where
  y0 : 2000 ≤ y
  m0 : 1 ≤ m
  m1 : m ≤ 12
  d0 : 1 ≤ d
  d1 : d ≤ daysI y m
  e : day = C (y - 2000) + M y m + d - 1
theorem IsDate.within {day y m d : Int} (h : IsDate day y m d) : 0 ≤ M y m + d - 1 ∧ M y m + d - 1 < ylen y := by
  obtain ⟨y0, m0, m1, d0, d1, e⟩ := h
  have h1 := M_le y 1 m (by omega) m0 (by omega)
  have h2 := M_le y (m + 1) 13 (by omega) (by omega) (by omega)
  have h3 := M_succ y m m0 m1
  have h4 := M_13 y
  have h5 := M_one y
  omega
theorem IsDate.uniq {day y m d y' m' d' : Int} (h : IsDate day y m d) (h' : IsDate day y' m' d') : y = y' ∧ m = m' ∧ d = d' := by
  have w := h.within
  have w' := h'.within
  obtain ⟨y0, m0, m1, d0, d1, e⟩ := h
  obtain ⟨y0', m0', m1', d0', d1', e'⟩ := h'
  have hy : y = y' := by
    rcases Int.lt_trichotomy y y' with hl | hl | hl
    · have h1 := C_succ (y - 2000) (by omega)
      have h2 := C_le (y - 2000 + 1) (y' - 2000) (by omega) (by omega)
      have e2 : 2000 + (y - 2000) = y := by omega
      rw [e2] at h1
      omega
    · exact hl
    · have h1 := C_succ (y' - 2000) (by omega)
      have h2 := C_le (y' - 2000 + 1) (y - 2000) (by omega) (by omega)
      have e2 : 2000 + (y' - 2000) = y' := by omega
      rw [e2] at h1
      omega
  subst hy
  have hm : m = m' := by
    rcases Int.lt_trichotomy m m' with hl | hl | hl
    · have h1 := M_succ y m m0 m1
      have h2 := M_le y (m + 1) m' (by omega) (by omega) (by omega)
      omega
    · exact hl
    · have h1 := M_succ y m' m0' m1'
      have h2 := M_le y (m' + 1) m (by omega) (by omega) (by omega)
      omega
  subst hm
  exact ⟨rfl, rfl, by omega⟩
theorem year_of (N : Nat) (day : Int) (h0 : 0 ≤ day) (h : day < C N) : ∃ n : Int, 0 ≤ n ∧ C n ≤ day ∧ day < C (n + 1) := by
  induction N with
  | zero => exact absurd h (by have := C_zero; simp only [Int.ofNat_zero, Int.natCast_zero, Int.cast_ofNat_Int] at *; omega)
  | succ N ih =>
    by_cases hl : day < C N
    · exact ih hl
    · exact ⟨N, by omega, by omega, by simpa using h⟩
theorem month_of (y : Int) (N : Nat) (hN : N ≤ 12) (r : Int) (h0 : 0 ≤ r) (h : r < M y (N + 1)) : ∃ m : Int, 1 ≤ m ∧ m ≤ 12 ∧ M y m ≤ r ∧ r < M y m + daysI y m := by
  induction N with
  | zero => exact absurd h (by have := M_one y; simp only [Int.ofNat_zero, Int.natCast_zero, Int.cast_ofNat_Int, Int.zero_add] at *; omega)
  | succ N ih =>
    by_cases hl : r < M y (N + 1)
    · exact ih (by omega) hl
    · have h1 := M_succ y ((N + 1 : Nat) : Int) (by omega) (by omega)
      have e : ((N + 1 : Nat) : Int) = (N : Int) + 1 := by omega
      rw [e] at h h1
      exact ⟨N + 1, by omega, by omega, by omega, by omega⟩
theorem IsDate.ex (day : Int) (h : 0 ≤ day) : ∃ y m d, IsDate day y m d := by
  have hc := C_le 0 (day + 1) (by omega) (by omega)
  rw [C_zero] at hc
  obtain ⟨n, n0, n1, n2⟩ := year_of (day + 1).toNat day h (by
    have e : (((day + 1).toNat : Nat) : Int) = day + 1 := by omega
    rw [e]
    omega)
  rw [C_succ n n0] at n2
  have h13 := M_13 (2000 + n)
  obtain ⟨m, m0, m1, m2, m3⟩ := month_of (2000 + n) 12 (by omega) (day - C n) (by omega) (by
    have e : ((12 : Nat) : Int) + 1 = 13 := by decide
    rw [e, h13]
    omega)
  refine ⟨2000 + n, m, day - C n - M (2000 + n) m + 1, by omega, m0, m1, by omega, by omega, ?_⟩
  have e : 2000 + n - 2000 = n := by omega
  rw [e]
  omega
theorem IsDate.year_le {day y m d : Int} (h : IsDate day y m d) (hd : day ≤ 999999) : y ≤ 4740 := by
  have w := h.within
  obtain ⟨y0, m0, m1, d0, d1, e⟩ := h
  have := C_le 0 (y - 2000) (by omega) (by omega)
  rw [C_zero] at this
  omega
theorem IsDate.day0 {day y m d : Int} (h : IsDate day y m d) : 0 ≤ day := by
  have w := h.within
  obtain ⟨y0, m0, m1, d0, d1, e⟩ := h
  have := C_le 0 (y - 2000) (by omega) (by omega)
  rw [C_zero] at this
  omega
end Go.Proofs.Ytbahcpdhadhplaa.PB

set_option linter.unusedVariables false
set_option linter.unusedSimpArgs false
namespace Go.Proofs.Ytbahcpdhadhplaa.PB
open Go.RowKit Go.Proofs.Ytbahcpdhadhplaa.M Go.Proofs.Ytbahcpdhadhplaa.Hand Go.Proofs.YtbahcpdhadhplaaW.PrintWords Go.Proofs.YtbahcpdhadhplaaW.PrintMore

theorem w64 {x : Int} (h1 : -9223372036854775808 ≤ x) (h2 : x ≤ 9223372036854775807) : wrap64 x = x := by unfold wrap64; omega
theorem Ev.pos {α : Type} {c : Prop} [Decidable c] {g f : Nat → Option α} {r : α} (h : c) (k : Ev g r) : Ev (fun n => if c then g n else f n) r :=
  Ev.congr (fun _ => if_pos h) k
theorem Ev.neg {α : Type} {c : Prop} [Decidable c] {g f : Nat → Option α} {r : α} (h : ¬ c) (k : Ev f r) : Ev (fun n => if c then g n else f n) r :=
  Ev.congr (fun _ => if_neg h) k
theorem Ev.const {α β : Type} {g : Option α} {a : α} {f : Nat → α → Option β} {r : β} (h : g = some a) (k : Ev (fun n => f n a) r) : Ev (fun n => g.bind (f n)) r := by
  subst h
  exact k
theorem Ev.to {α : Type} {g : Nat → Option α} {r r' : α} (k : Ev g r) (h : r = r') : Ev g r' := h ▸ k

theorem days_eq (y m : Int) : calendar_Days.f y m = some (daysI y m) := rfl
def b31 (m : Int) : Bool := m == 1 || m == 3 || m == 5 || m == 7 || m == 8 || m == 10 || m == 12
def b30 (m : Int) : Bool := m == 4 || m == 6 || m == 9 || m == 11
theorem rdays_f (k : Nat) (y m : Int) : kinkeepref21_Days.f k y m = kinkeepref21_Days.j0 k y m (b31 m) := by
  unfold kinkeepref21_Days.f
  repeat' split
  all_goals congr 1
  all_goals simp [b31, *]
theorem rdays_ev (y m : Int) : Ev (fun k => kinkeepref21_Days.f k y m) (daysI y m) := by
  refine Ev.congr (fun k => rdays_f k y m) ?_
  refine Ev.step (fun k => kinkeepref21_Days.j0.eq_2 _ _ _ _) ?_
  by_cases h : b31 m = true
  · refine Ev.pos h (Ev.to (Ev.now _) ?_)
    simp only [b31, Bool.or_eq_true, beq_iff_eq] at h
    unfold daysI mlen
    rw [if_neg (by omega), if_neg (by omega), if_neg (by omega), if_neg (by omega)]
  · refine Ev.neg h ?_
    simp only [b31, Bool.or_eq_true, beq_iff_eq] at h
    have hj : ∀ k, (if m = 4 then kinkeepref21_Days.j1 k y m (m == 4) else if m = 6 then kinkeepref21_Days.j1 k y m (m == 6) else if m = 9 then kinkeepref21_Days.j1 k y m (m == 9) else kinkeepref21_Days.j1 k y m (m == 11)) = kinkeepref21_Days.j1 k y m (b30 m) := by
      intro k
      repeat' split
      all_goals congr 1
      all_goals simp [b30, *]
    refine Ev.congr hj ?_
    refine Ev.step (fun k => kinkeepref21_Days.j1.eq_2 _ _ _ _) ?_
    by_cases h2 : b30 m = true
    · refine Ev.pos h2 (Ev.to (Ev.now _) ?_)
      simp only [b30, Bool.or_eq_true, beq_iff_eq] at h2
      unfold daysI mlen
      rw [if_neg (by omega), if_neg (by omega), if_neg (by omega), if_pos (by omega)]
    · refine Ev.neg h2 ?_
      simp only [b30, Bool.or_eq_true, beq_iff_eq] at h2
      by_cases h3 : m = 2
      · refine Ev.pos h3 ?_
        subst h3
        refine Ev.const (rleap_eq y) ?_
        by_cases hl : leapP y
        · refine Ev.pos (by simp [hl]) (Ev.to (Ev.now _) ?_)
          simp [daysI, leapB_eq, hl]
        · refine Ev.neg (by simp [hl]) (Ev.to (Ev.now _) ?_)
          simp [daysI, leapB_eq, hl, mlen]
      · refine Ev.neg h3 (Ev.to (Ev.now _) ?_)
        unfold daysI
        rw [if_pos (by omega)]

/-! ### Date -/
def dErr (day : Int) : Int := if day < 0 then 1 else if 999999 < day then 2 else 0
theorem inRange_eq (day : Int) : calendar_inRange.f day = some (dErr day) := by
  unfold calendar_inRange.f dErr
  repeat' split
  all_goals first | rfl | omega
theorem check_eq (day : Int) : kinkeepref21_check.f day = some (dErr day) := by
  unfold kinkeepref21_check.f dErr
  repeat' split
  all_goals first | rfl | omega
theorem dErr_ok {day : Int} (h : 0 ≤ day) (h1 : day ≤ 999999) : dErr day = 0 := by
  unfold dErr
  rw [if_neg (by omega), if_neg (by omega)]
theorem dErr_ne {day : Int} (h : ¬ (0 ≤ day ∧ day ≤ 999999)) : dErr day ≠ 0 := by
  unfold dErr
  repeat' split
  all_goals omega

theorem date_l1 (y m d : Int) (hy : 2000 ≤ y ∧ y ≤ 5000) (m1 : m ≤ 12) (d0 : 1 ≤ d) (d1 : d ≤ daysI y m) (j : Nat) :
    ∀ m0 : Int, 1 ≤ m0 → m0 + j = m → Ev (fun k => calendar_date.l1 k (M y m - M y m0 + d - 1) y m0 0) (y, m, d) := by
  induction j with
  | zero =>
    intro m0 h0 hm
    obtain rfl : m0 = m := by omega
    have hb := daysI_bd y m0 h0 m1
    refine Ev.step (fun k => calendar_date.l1.eq_2 _ _ _ _ _) ?_
    refine Ev.const (days_eq _ _) ?_
    refine Ev.neg (by omega) (Ev.to (Ev.now _) ?_)
    rw [w64 (by omega) (by omega)]
    have e : M y m0 - M y m0 + d - 1 + 1 = d := by omega
    rw [e]
  | succ j ih =>
    intro m0 h0 hm
    have hb := daysI_bd y m0 h0 (by omega)
    have hb2 := daysI_bd y m (by omega) m1
    have hs := M_succ y m0 h0 (by omega)
    have hle := M_le y (m0 + 1) m (by omega) (by omega) (by omega)
    have hz := M_le y 1 m0 (by omega) (by omega) (by omega)
    have hz1 := M_one y
    have h13 := M_le y m 13 (by omega) (by omega) (by omega)
    have h13' := M_13 y
    have hyl := ylen_bd y
    refine Ev.step (fun k => calendar_date.l1.eq_2 _ _ _ _ _) ?_
    refine Ev.const (days_eq _ _) ?_
    refine Ev.pos (by omega) ?_
    refine Ev.const (days_eq _ _) ?_
    rw [w64 (x := m0 + 1) (by omega) (by omega), w64 (by omega) (by omega)]
    have e : M y m - M y m0 + d - 1 - daysI y m0 = M y m - M y (m0 + 1) + d - 1 := by omega
    rw [e]
    exact ih (m0 + 1) (by omega) (by omega)
theorem date_l0 (day y m d : Int) (h : IsDate day y m d) (hd : day ≤ 999999) (j : Nat) :
    ∀ y0 : Int, 2000 ≤ y0 → y0 + j = y → Ev (fun k => calendar_date.l0 k (C (y - 2000) - C (y0 - 2000) + M y m + d - 1) y0 1 0) (y, m, d) := by
  have hy := h.year_le hd
  have hw := h.within
  obtain ⟨g0, g1, g2, g3, g4, g5⟩ := h
  induction j with
  | zero =>
    intro y0 h0 hm
    obtain rfl : y0 = y := by omega
    refine Ev.step (fun k => calendar_date.l0.eq_2 _ _ _ _ _) ?_
    refine Ev.const (yearDays_eq _) ?_
    refine Ev.neg (by omega) ?_
    have e : C (y0 - 2000) - C (y0 - 2000) + M y0 m + d - 1 = M y0 m - M y0 1 + d - 1 := by rw [M_one]; omega
    rw [e]
    exact date_l1 y0 m d (by omega) g2 g3 g4 (m - 1).toNat 1 (by omega) (by omega)
  | succ j ih =>
    intro y0 h0 hm
    have hs := C_succ (y0 - 2000) (by omega)
    have e2 : 2000 + (y0 - 2000) = y0 := by omega
    rw [e2] at hs
    have hle := C_le (y0 - 2000 + 1) (y - 2000) (by omega) (by omega)
    have hl := ylen_bd y0
    have hl2 := ylen_bd y
    have hc0 := C_le 0 (y0 - 2000) (by omega) (by omega)
    rw [C_zero] at hc0
    refine Ev.step (fun k => calendar_date.l0.eq_2 _ _ _ _ _) ?_
    refine Ev.const (yearDays_eq _) ?_
    refine Ev.pos (by omega) ?_
    refine Ev.const (yearDays_eq _) ?_
    rw [w64 (x := y0 + 1) (by omega) (by omega), w64 (by omega) (by omega)]
    have e3 : y0 - 2000 + 1 = y0 + 1 - 2000 := by omega
    rw [e3] at hs hle
    have e : C (y - 2000) - C (y0 - 2000) + M y m + d - 1 - ylen y0 = C (y - 2000) - C (y0 + 1 - 2000) + M y m + d - 1 := by omega
    rw [e]
    exact ih (y0 + 1) (by omega) (by omega)
theorem date_ev {day y m d : Int} (h : IsDate day y m d) (hd : day ≤ 999999) : Ev (fun k => calendar_date.f k day) (y, m, d) := by
  have h0 := h.day0
  have hy := h.year_le hd
  have hw := h.within
  have hc := C_cycle (day / 146097) 0 (by omega) (by omega)
  rw [C_zero] at hc
  have hge : 400 * (day / 146097) ≤ y - 2000 := by
    by_cases hl : 400 * (day / 146097) ≤ y - 2000
    · exact hl
    · have h1 := C_succ (y - 2000) (by have := h.y0; omega)
      have e2 : 2000 + (y - 2000) = y := by omega
      rw [e2] at h1
      have h2 := C_le (y - 2000 + 1) (400 * (day / 146097)) (by have := h.y0; omega) (by omega)
      have h3 := h.e
      have e0 : 400 * (day / 146097) + 0 = 400 * (day / 146097) := by omega
      rw [e0] at hc
      omega
  have hl := date_l0 day y m d h hd (y - 2000 - 400 * (day / 146097)).toNat (2000 + 400 * (day / 146097)) (by omega) (by omega)
  have e1 : 2000 + 400 * (day / 146097) - 2000 = 400 * (day / 146097) + 0 := by omega
  rw [e1, hc] at hl
  have h3 := h.e
  have e : C (y - 2000) - (146097 * (day / 146097) + 0) + M y m + d - 1 = day % 146097 := by omega
  rw [e] at hl
  unfold calendar_date.f
  rw [Int.tmod_eq_emod_of_nonneg h0, Int.tdiv_eq_ediv_of_nonneg h0, w64 (x := day / 146097) (by omega) (by omega), w64 (x := day / 146097 * 400) (by omega) (by omega), w64 (by omega) (by omega)]
  have e4 : 2000 + day / 146097 * 400 = 2000 + 400 * (day / 146097) := by omega
  rw [e4]
  exact hl
theorem Date_ev {day y m d : Int} (h : IsDate day y m d) (hd : day ≤ 999999) : Ev (fun k => calendar_Date.f k day) (y, m, d, 0) := by
  unfold calendar_Date.f
  refine Ev.const (inRange_eq day) ?_
  refine Ev.pos (dErr_ok h.day0 hd) ?_
  exact Ev.bind (date_ev h hd) (Ev.now _)
theorem Date_out {day : Int} (h : ¬ (0 ≤ day ∧ day ≤ 999999)) : Ev (fun k => calendar_Date.f k day) (0, 0, 0, dErr day) := by
  unfold calendar_Date.f
  refine Ev.const (inRange_eq day) ?_
  exact Ev.neg (dErr_ne h) (Ev.now _)

theorem rdate_l1 (y m d : Int) (hy : 2000 ≤ y ∧ y ≤ 5000) (m1 : m ≤ 12) (d0 : 1 ≤ d) (d1 : d ≤ daysI y m) (j : Nat) :
    ∀ m0 : Int, 1 ≤ m0 → m0 + j = m → Ev (fun k => kinkeepref21_Date.l1 k (M y m - M y m0 + d - 1) y m0 0) (y, m, d, 0) := by
  induction j with
  | zero =>
    intro m0 h0 hm
    obtain rfl : m0 = m := by omega
    have hb := daysI_bd y m0 h0 m1
    refine Ev.step (fun k => kinkeepref21_Date.l1.eq_2 _ _ _ _ _) ?_
    refine Ev.bind (rdays_ev _ _) ?_
    refine Ev.neg (by omega) (Ev.to (Ev.now _) ?_)
    rw [w64 (by omega) (by omega)]
    have e : M y m0 - M y m0 + d - 1 + 1 = d := by omega
    rw [e]
  | succ j ih =>
    intro m0 h0 hm
    have hb := daysI_bd y m0 h0 (by omega)
    have hb2 := daysI_bd y m (by omega) m1
    have hs := M_succ y m0 h0 (by omega)
    have hle := M_le y (m0 + 1) m (by omega) (by omega) (by omega)
    have hz := M_le y 1 m0 (by omega) (by omega) (by omega)
    have hz1 := M_one y
    have h13 := M_le y m 13 (by omega) (by omega) (by omega)
    have h13' := M_13 y
    have hyl := ylen_bd y
    refine Ev.step (fun k => kinkeepref21_Date.l1.eq_2 _ _ _ _ _) ?_
    refine Ev.bind (rdays_ev _ _) ?_
    refine Ev.pos (by omega) ?_
    refine Ev.bind (rdays_ev _ _) ?_
    rw [w64 (x := m0 + 1) (by omega) (by omega), w64 (by omega) (by omega)]
    have e : M y m - M y m0 + d - 1 - daysI y m0 = M y m - M y (m0 + 1) + d - 1 := by omega
    rw [e]
    exact ih (m0 + 1) (by omega) (by omega)
theorem rdate_l0 (day y m d : Int) (h : IsDate day y m d) (hd : day ≤ 999999) (j : Nat) :
    ∀ y0 : Int, 2000 ≤ y0 → y0 + j = y → Ev (fun k => kinkeepref21_Date.l0 k (C (y - 2000) - C (y0 - 2000) + M y m + d - 1) y0 1 0) (y, m, d, 0) := by
  have hy := h.year_le hd
  have hw := h.within
  obtain ⟨g0, g1, g2, g3, g4, g5⟩ := h
  induction j with
  | zero =>
    intro y0 h0 hm
    obtain rfl : y0 = y := by omega
    refine Ev.step (fun k => kinkeepref21_Date.l0.eq_2 _ _ _ _ _) ?_
    refine Ev.const (length_eq _) ?_
    refine Ev.neg (by omega) ?_
    have e : C (y0 - 2000) - C (y0 - 2000) + M y0 m + d - 1 = M y0 m - M y0 1 + d - 1 := by rw [M_one]; omega
    rw [e]
    exact rdate_l1 y0 m d (by omega) g2 g3 g4 (m - 1).toNat 1 (by omega) (by omega)
  | succ j ih =>
    intro y0 h0 hm
    have hs := C_succ (y0 - 2000) (by omega)
    have e2 : 2000 + (y0 - 2000) = y0 := by omega
    rw [e2] at hs
    have hle := C_le (y0 - 2000 + 1) (y - 2000) (by omega) (by omega)
    have hl := ylen_bd y0
    have hl2 := ylen_bd y
    have hc0 := C_le 0 (y0 - 2000) (by omega) (by omega)
    rw [C_zero] at hc0
    refine Ev.step (fun k => kinkeepref21_Date.l0.eq_2 _ _ _ _ _) ?_
    refine Ev.const (length_eq _) ?_
    refine Ev.pos (by omega) ?_
    refine Ev.const (length_eq _) ?_
    rw [w64 (x := y0 + 1) (by omega) (by omega), w64 (by omega) (by omega)]
    have e3 : y0 - 2000 + 1 = y0 + 1 - 2000 := by omega
    rw [e3] at hs hle
    have e : C (y - 2000) - C (y0 - 2000) + M y m + d - 1 - ylen y0 = C (y - 2000) - C (y0 + 1 - 2000) + M y m + d - 1 := by omega
    rw [e]
    exact ih (y0 + 1) (by omega) (by omega)
theorem rDate_ev {day y m d : Int} (h : IsDate day y m d) (hd : day ≤ 999999) : Ev (fun k => kinkeepref21_Date.f k day) (y, m, d, 0) := by
  unfold kinkeepref21_Date.f
  refine Ev.const (check_eq day) ?_
  refine Ev.pos (dErr_ok h.day0 hd) ?_
  have hl := rdate_l0 day y m d h hd (y - 2000).toNat 2000 (by omega) (by have := h.y0; omega)
  have e0 : (2000 : Int) - 2000 = 0 := by decide
  rw [e0, C_zero] at hl
  have e : C (y - 2000) - 0 + M y m + d - 1 = day := by have := h.e; omega
  rw [e] at hl
  exact hl
theorem rDate_out {day : Int} (h : ¬ (0 ≤ day ∧ day ≤ 999999)) : Ev (fun k => kinkeepref21_Date.f k day) (0, 0, 0, dErr day) := by
  unfold kinkeepref21_Date.f
  refine Ev.const (check_eq day) ?_
  exact Ev.neg (dErr_ne h) (Ev.now _)
end Go.Proofs.Ytbahcpdhadhplaa.PB

set_option linter.unusedVariables false
set_option linter.unusedSimpArgs false
namespace Go.Proofs.Ytbahcpdhadhplaa.PB
open Go.RowKit Go.Proofs.Ytbahcpdhadhplaa.M Go.Proofs.Ytbahcpdhadhplaa.Hand Go.Proofs.YtbahcpdhadhplaaW.PrintWords Go.Proofs.YtbahcpdhadhplaaW.PrintMore

theorem week_same (day : Int) : calendar_Week.f day = kinkeepref21_Week.f day := by
  unfold calendar_Week.f kinkeepref21_Week.f
  rw [inRange_eq, check_eq]
theorem week_ok {day : Int} (h : 0 ≤ day) (h1 : day ≤ 999999) : calendar_Week.f day = some ((day + 5) / 7) := by
  unfold calendar_Week.f
  rw [inRange_eq, dErr_ok h h1]
  simp only [Option.bind_some, if_true]
  rw [w64 (x := day + 5) (by omega) (by omega), Int.tdiv_eq_ediv_of_nonneg (by omega), w64 (by omega) (by omega)]
theorem Month_ev {day y m d : Int} (h : IsDate day y m d) (hd : day ≤ 999999) : Ev (fun k => calendar_Month.f k day) (12 * (y - 2000) + m - 1) := by
  unfold calendar_Month.f
  refine Ev.bind (Date_ev h hd) ?_
  refine Ev.pos rfl (Ev.to (Ev.now _) ?_)
  have h1 := h.year_le hd
  have h2 := h.y0
  have h3 := h.m0
  have h4 := h.m1
  show wrap64 (wrap64 (wrap64 (12 * wrap64 (y - 2000)) + m) - 1) = _
  rw [w64 (x := y - 2000) (by omega) (by omega), w64 (x := 12 * (y - 2000)) (by omega) (by omega), w64 (x := 12 * (y - 2000) + m) (by omega) (by omega), w64 (by omega) (by omega)]
theorem rMonth_ev {day y m d : Int} (h : IsDate day y m d) (hd : day ≤ 999999) : Ev (fun k => kinkeepref21_Month.f k day) (12 * (y - 2000) + m - 1) := by
  unfold kinkeepref21_Month.f
  refine Ev.bind (rDate_ev h hd) ?_
  refine Ev.pos rfl (Ev.to (Ev.now _) ?_)
  have h1 := h.year_le hd
  have h2 := h.y0
  have h3 := h.m0
  have h4 := h.m1
  show wrap64 (wrap64 (wrap64 (12 * wrap64 (y - 2000)) + m) - 1) = _
  rw [w64 (x := y - 2000) (by omega) (by omega), w64 (x := 12 * (y - 2000)) (by omega) (by omega), w64 (x := 12 * (y - 2000) + m) (by omega) (by omega), w64 (by omega) (by omega)]
theorem Month_out {day : Int} (h : ¬ (0 ≤ day ∧ day ≤ 999999)) : Ev (fun k => calendar_Month.f k day) (-1) := by
  unfold calendar_Month.f
  exact Ev.bind (Date_out h) (Ev.neg (dErr_ne h) (Ev.now _))
theorem rMonth_out {day : Int} (h : ¬ (0 ≤ day ∧ day ≤ 999999)) : Ev (fun k => kinkeepref21_Month.f k day) (-1) := by
  unfold kinkeepref21_Month.f
  exact Ev.bind (rDate_out h) (Ev.neg (dErr_ne h) (Ev.now _))
theorem Year_ev {day y m d : Int} (h : IsDate day y m d) (hd : day ≤ 999999) : Ev (fun k => calendar_Year.f k day) (y - 2000) := by
  unfold calendar_Year.f
  refine Ev.bind (Date_ev h hd) (Ev.pos rfl (Ev.to (Ev.now _) ?_))
  have h1 := h.year_le hd
  have h2 := h.y0
  exact w64 (by omega) (by omega)
theorem rYear_ev {day y m d : Int} (h : IsDate day y m d) (hd : day ≤ 999999) : Ev (fun k => kinkeepref21_Year.f k day) (y - 2000) := by
  unfold kinkeepref21_Year.f
  refine Ev.bind (rDate_ev h hd) (Ev.pos rfl (Ev.to (Ev.now _) ?_))
  have h1 := h.year_le hd
  have h2 := h.y0
  exact w64 (by omega) (by omega)
theorem Year_out {day : Int} (h : ¬ (0 ≤ day ∧ day ≤ 999999)) : Ev (fun k => calendar_Year.f k day) (-1) := by
  unfold calendar_Year.f
  exact Ev.bind (Date_out h) (Ev.neg (dErr_ne h) (Ev.now _))
theorem rYear_out {day : Int} (h : ¬ (0 ≤ day ∧ day ≤ 999999)) : Ev (fun k => kinkeepref21_Year.f k day) (-1) := by
  unfold kinkeepref21_Year.f
  exact Ev.bind (rDate_out h) (Ev.neg (dErr_ne h) (Ev.now _))


/-! ### closed forms -/
def upY : Nat → Int → Int → Int
  | 0, n, _ => n
  | f + 1, n, d => if d < C (n + 1) then n else upY f (n + 1) d
def yearN (d : Int) : Int := upY (d.toNat / 365 + 1) 0 d
theorem upY_spec (d : Int) : ∀ (f : Nat) (n : Int), 0 ≤ n → C n ≤ d → d < C (n + f) → 0 ≤ upY f n d ∧ C (upY f n d) ≤ d ∧ d < C (upY f n d + 1)
  | 0, n, h0, h1, h2 => by simp at h2; omega
  | f + 1, n, h0, h1, h2 => by
    unfold upY
    by_cases h : d < C (n + 1)
    · rw [if_pos h]; exact ⟨h0, h1, h⟩
    · rw [if_neg h]
      exact upY_spec d f (n + 1) (by omega) (by omega) (by rw [show n + 1 + (f : Int) = n + ((f + 1 : Nat) : Int) by push_cast; omega]; exact h2)
theorem yearN_spec (d : Int) (h : 0 ≤ d) : 0 ≤ yearN d ∧ C (yearN d) ≤ d ∧ d < C (yearN d + 1) := by
  refine upY_spec d _ 0 (Int.le_refl 0) (by rw [C_zero]; exact h) ?_
  have := C_add 0 (d.toNat / 365 + 1) (Int.le_refl 0)
  rw [C_zero] at this
  have e : d < 365 * ((d.toNat / 365 + 1 : Nat) : Int) := by omega
  have e2 : 0 + 365 * ((d.toNat / 365 + 1 : Nat) : Int) ≤ C (0 + ((d.toNat / 365 + 1 : Nat) : Int)) := this
  exact Int.lt_of_lt_of_le e (by rw [Int.zero_add] at e2; exact e2)
def upM : Nat → Int → Int → Int → Int
  | 0, _, m, _ => m
  | f + 1, y, m, r => if r < M y (m + 1) then m else upM f y (m + 1) r
def moN (d : Int) : Int := upM 11 (2000 + yearN d) 1 (d - C (yearN d))
theorem upM_spec (y r : Int) : ∀ (f : Nat) (m : Int), 1 ≤ m → m + f = 12 → M y m ≤ r → r < M y 13 → 1 ≤ upM f y m r ∧ upM f y m r ≤ 12 ∧ M y (upM f y m r) ≤ r ∧ r < M y (upM f y m r + 1)
  | 0, m, h1, h2, h3, h4 => by
    obtain rfl : m = 12 := by simpa using h2
    exact ⟨by simp [upM], by simp [upM], h3, h4⟩
  | f + 1, m, h1, h2, h3, h4 => by
    unfold upM
    by_cases h : r < M y (m + 1)
    · rw [if_pos h]; exact ⟨h1, by push_cast at h2; omega, h3, h⟩
    · rw [if_neg h]
      exact upM_spec y r f (m + 1) (by omega) (by push_cast at h2; omega) (by omega) h4
theorem isDate_N (d : Int) (h : 0 ≤ d) : IsDate d (2000 + yearN d) (moN d) (d - C (yearN d) - M (2000 + yearN d) (moN d) + 1) := by
  obtain ⟨h0, h1, h2⟩ := yearN_spec d h
  have hs := C_succ (yearN d) h0
  obtain ⟨m1, m2, m3, m4⟩ := upM_spec (2000 + yearN d) (d - C (yearN d)) 11 1 (by omega) (by omega) (by rw [M_one]; omega) (by rw [M_13]; omega)
  have hm := M_succ (2000 + yearN d) (moN d) m1 m2
  have e : 2000 + yearN d - 2000 = yearN d := by omega
  change M (2000 + yearN d) (moN d) ≤ d - C (yearN d) at m3
  change d - C (yearN d) < M (2000 + yearN d) (moN d + 1) at m4
  exact ⟨by omega, m1, m2, by omega, by omega, by rw [e]; omega⟩
def weekN (d : Int) : Int := (d + 5) / 7
def monthN (d : Int) : Int := 12 * yearN d + moN d - 1
theorem month_k (d : Int) (h : 0 ≤ d) (h1 : d ≤ 999999) : Ev (fun k => calendar_Month.f k d) (monthN d) :=
  Ev.to (Month_ev (isDate_N d h) h1) (by unfold monthN; omega)
theorem rmonth_k (d : Int) (h : 0 ≤ d) (h1 : d ≤ 999999) : Ev (fun k => kinkeepref21_Month.f k d) (monthN d) :=
  Ev.to (rMonth_ev (isDate_N d h) h1) (by unfold monthN; omega)
theorem year_k (d : Int) (h : 0 ≤ d) (h1 : d ≤ 999999) : Ev (fun k => calendar_Year.f k d) (yearN d) :=
  Ev.to (Year_ev (isDate_N d h) h1) (by omega)
theorem ryear_k (d : Int) (h : 0 ≤ d) (h1 : d ≤ 999999) : Ev (fun k => kinkeepref21_Year.f k d) (yearN d) :=
  Ev.to (rYear_ev (isDate_N d h) h1) (by omega)

/-- The number of the period of a kind of a day. -/
def numK (kind : Nat) (d : Int) : Int := match kind with | 0 => d | 1 => weekN d | 2 => monthN d | _ => yearN d
end Go.Proofs.Ytbahcpdhadhplaa.PB
