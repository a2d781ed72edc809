/- Plain laws of the calendar: the numbers that Leap, Days, Date, Day, Month, Year and AddMonths of the program and of the specification come to. -/
import Derived.Test.YtbahcpdhadhplaaHand
import Derived.Test.YtbahcpdhadhplaaM
set_option linter.unusedVariables false
set_option linter.unusedSimpArgs false
namespace Go.Proofs.Ytbahcpdhadhplaa.PB
open Go.RowKit Go.Proofs.Ytbahcpdhadhplaa.M Go.Proofs.Ytbahcpdhadhplaa.Hand Go.Proofs.YtbahcpdhadhplaaW.PrintWords Go.Proofs.YtbahcpdhadhplaaW.PrintMore

/-! ### years and months -/
def leapP (y : Int) : Prop := y % 4 = 0 ∧ (y % 100 ≠ 0 ∨ y % 400 = 0)
instance (y : Int) : Decidable (leapP y) := by unfold leapP; infer_instance
theorem tmod0 (y k : Int) : Int.tmod y k = 0 ↔ y % k = 0 := by rw [← Int.dvd_iff_tmod_eq_zero, ← Int.dvd_iff_emod_eq_zero]
theorem leapB_eq (y : Int) : leapB y = decide (leapP y) := by
  rw [Bool.eq_iff_iff, decide_eq_true_iff]
  unfold leapB leapP
  simp [tmod0]
theorem leap_eq (y : Int) : calendar_Leap.f y = some (decide (leapP y)) := by
  unfold calendar_Leap.f
  simp only [tmod0]
  by_cases h1 : y % 4 = 0
  · by_cases h2 : y % 100 = 0
    · rw [if_pos h1, if_pos h2]
      by_cases h3 : y % 400 = 0
      · have h4 : Int.tmod y 400 = 0 := (tmod0 _ _).2 h3
        simp [leapP, h1, h2, h3, h4]
      · have h4 : ¬ Int.tmod y 400 = 0 := fun h => h3 ((tmod0 _ _).1 h)
        simp [leapP, h1, h2, h3, h4]
    · rw [if_pos h1, if_neg h2]
      simp [leapP, h1, h2]
  · rw [if_neg h1]
    simp [leapP, h1]
theorem rleap_eq (y : Int) : kinkeepref21_Leap.f y = some (decide (leapP y)) := by
  unfold kinkeepref21_Leap.f
  simp only [tmod0]
  by_cases h3 : y % 400 = 0
  · have h4 : Int.tmod y 400 = 0 := (tmod0 _ _).2 h3
    have h1 : y % 4 = 0 := by omega
    have h2 : y % 100 = 0 := by omega
    simp [leapP, h1, h2, h3, h4]
  · have h4 : ¬ Int.tmod y 400 = 0 := fun h => h3 ((tmod0 _ _).1 h)
    by_cases h1 : y % 4 = 0
    · by_cases h2 : y % 100 = 0 <;> simp [leapP, h1, h2, h3, h4]
    · simp [leapP, h1, h3, h4]

def ylen (y : Int) : Int := if leapP y then 366 else 365
theorem ylen_bd (y : Int) : 365 ≤ ylen y ∧ ylen y ≤ 366 := by unfold ylen; split <;> omega
theorem yearDays_eq (y : Int) : calendar_yearDays.f y = some (ylen y) := by
  unfold calendar_yearDays.f ylen
  rw [leap_eq]
  by_cases h : leapP y <;> simp [h]
theorem length_eq (y : Int) : kinkeepref21_length.f y = some (ylen y) := by
  unfold kinkeepref21_length.f ylen
  rw [rleap_eq]
  by_cases h : leapP y <;> simp [h]

/-- The days of the first n years. -/
def C (n : Int) : Int := 365 * n + (n + 3) / 4 - (n + 99) / 100 + (n + 399) / 400
theorem C_zero : C 0 = 0 := by decide
theorem C_succ (n : Int) (h : 0 ≤ n) : C (n + 1) = C n + ylen (2000 + n) := by
  unfold C ylen
  by_cases hl : leapP (2000 + n)
  · rw [if_pos hl]
    obtain ⟨h1, h2 | h2⟩ := hl <;> omega
  · rw [if_neg hl]
    by_cases h1 : (2000 + n) % 4 = 0
    · have h2 : (2000 + n) % 100 = 0 := by
        by_cases h : (2000 + n) % 100 = 0
        · exact h
        · exact absurd ⟨h1, .inl h⟩ hl
      have h3 : ¬ (2000 + n) % 400 = 0 := fun h => hl ⟨h1, .inr h⟩
      omega
    · omega
theorem C_add (a : Int) (j : Nat) (h : 0 ≤ a) : C a + 365 * j ≤ C (a + j) := by
  induction j with
  | zero => simp
  | succ j ih =>
    have h1 := C_succ (a + j) (by omega)
    have h2 := ylen_bd (2000 + (a + j))
    have h3 : a + ((j + 1 : Nat) : Int) = a + j + 1 := by omega
    rw [h3]
    omega
theorem C_le (a b : Int) (h : 0 ≤ a) (h1 : a ≤ b) : C a + 365 * (b - a) ≤ C b := by
  have := C_add a (b - a).toNat h
  have e : a + ((b - a).toNat : Int) = b := by omega
  rw [e] at this
  omega
theorem C_cycle (a r : Int) (h : 0 ≤ a) (h1 : 0 ≤ r) : C (400 * a + r) = 146097 * a + C r := by unfold C; omega

theorem daysI_bd (y m : Int) (h1 : 1 ≤ m) (h2 : m ≤ 12) : 28 ≤ daysI y m ∧ daysI y m ≤ 31 := by
  unfold daysI mlen
  repeat' split
  all_goals omega
theorem daysI_out (y m : Int) (h : ¬ (1 ≤ m ∧ m ≤ 12)) : daysI y m = 0 := by
  unfold daysI
  rw [if_pos (by omega)]
/-- The days of a year's months ahead of month m. -/
def M (y m : Int) : Int :=
  (if m ≤ 1 then 0 else if m = 2 then 31 else if m = 3 then 59 else if m = 4 then 90 else if m = 5 then 120 else if m = 6 then 151 else if m = 7 then 181 else if m = 8 then 212 else if m = 9 then 243 else if m = 10 then 273 else if m = 11 then 304 else if m = 12 then 334 else 365)
    + if 3 ≤ m ∧ leapP y then 1 else 0
theorem M_one (y : Int) : M y 1 = 0 := by simp [M]
theorem M_13 (y : Int) : M y 13 = ylen y := by
  by_cases h : leapP y <;> simp [M, ylen, h]
theorem M_succ (y m : Int) (h1 : 1 ≤ m) (h2 : m ≤ 12) : M y (m + 1) = M y m + daysI y m := by
  obtain rfl | rfl | rfl | rfl | rfl | rfl | rfl | rfl | rfl | rfl | rfl | rfl : m = 1 ∨ m = 2 ∨ m = 3 ∨ m = 4 ∨ m = 5 ∨ m = 6 ∨ m = 7 ∨ m = 8 ∨ m = 9 ∨ m = 10 ∨ m = 11 ∨ m = 12 := by omega
  all_goals by_cases h : leapP y <;> simp [M, daysI, mlen, leapB_eq, h]
theorem M_add (y m : Int) (j : Nat) (h1 : 1 ≤ m) (h2 : m + j ≤ 13) : M y m + 28 * j ≤ M y (m + j) := by
  induction j with
  | zero => simp
  | succ j ih =>
    have h3 := M_succ y (m + j) (by omega) (by omega)
    have h4 := daysI_bd y (m + j) (by omega) (by omega)
    have h5 : m + ((j + 1 : Nat) : Int) = m + j + 1 := by omega
    rw [h5]
    have := ih (by omega)
    omega
theorem M_le (y a b : Int) (h : 1 ≤ a) (h1 : a ≤ b) (h2 : b ≤ 13) : M y a + 28 * (b - a) ≤ M y b := by
  have := M_add y a (b - a).toNat h (by omega)
  have e : a + ((b - a).toNat : Int) = b := by omega
  rw [e] at this
  omega

/-! ### a day and its date -/
structure IsDate (day y m d : Int) : Prop where
  y0 : 2000 ≤ y
  m0 : 1 ≤ m
  m1 : m ≤ 12
  d0 : 1 ≤ d
  d1 : d ≤ daysI y m
  e : day = C (y - 2000) + M y m + d - 1
theorem IsDate.within {day y m d : Int} (h : IsDate day y m d) : 0 ≤ M y m + d - 1 ∧ M y m + d - 1 < ylen y := by
  obtain ⟨y0, m0, m1, d0, d1, e⟩ := h
  have h1 := M_le y 1 m (by omega) m0 (by omega)
  have h2 := M_le y (m + 1) 13 (by omega) (by omega) (by omega)
  have h3 := M_succ y m m0 m1
  have h4 := M_13 y
  have h5 := M_one y
  omega
theorem IsDate.uniq {day y m d y' m' d' : Int} (h : IsDate day y m d) (h' : IsDate day y' m' d') : y = y' ∧ m = m' ∧ d = d' := by
  have w := h.within
  have w' := h'.within
  obtain ⟨y0, m0, m1, d0, d1, e⟩ := h
  obtain ⟨y0', m0', m1', d0', d1', e'⟩ := h'
  have hy : y = y' := by
    rcases Int.lt_trichotomy y y' with hl | hl | hl
    · have h1 := C_succ (y - 2000) (by omega)
      have h2 := C_le (y - 2000 + 1) (y' - 2000) (by omega) (by omega)
      have e2 : 2000 + (y - 2000) = y := by omega
      rw [e2] at h1
      omega
    · exact hl
    · have h1 := C_succ (y' - 2000) (by omega)
      have h2 := C_le (y' - 2000 + 1) (y - 2000) (by omega) (by omega)
      have e2 : 2000 + (y' - 2000) = y' := by omega
      rw [e2] at h1
      omega
  subst hy
  have hm : m = m' := by
    rcases Int.lt_trichotomy m m' with hl | hl | hl
    · have h1 := M_succ y m m0 m1
      have h2 := M_le y (m + 1) m' (by omega) (by omega) (by omega)
      omega
    · exact hl
    · have h1 := M_succ y m' m0' m1'
      have h2 := M_le y (m' + 1) m (by omega) (by omega) (by omega)
      omega
  subst hm
  exact ⟨rfl, rfl, by omega⟩
theorem year_of (N : Nat) (day : Int) (h0 : 0 ≤ day) (h : day < C N) : ∃ n : Int, 0 ≤ n ∧ C n ≤ day ∧ day < C (n + 1) := by
  induction N with
  | zero => exact absurd h (by have := C_zero; simp only [Int.ofNat_zero, Int.natCast_zero, Int.cast_ofNat_Int] at *; omega)
  | succ N ih =>
    by_cases hl : day < C N
    · exact ih hl
    · exact ⟨N, by omega, by omega, by simpa using h⟩
theorem month_of (y : Int) (N : Nat) (hN : N ≤ 12) (r : Int) (h0 : 0 ≤ r) (h : r < M y (N + 1)) : ∃ m : Int, 1 ≤ m ∧ m ≤ 12 ∧ M y m ≤ r ∧ r < M y m + daysI y m := by
  induction N with
  | zero => exact absurd h (by have := M_one y; simp only [Int.ofNat_zero, Int.natCast_zero, Int.cast_ofNat_Int, Int.zero_add] at *; omega)
  | succ N ih =>
    by_cases hl : r < M y (N + 1)
    · exact ih (by omega) hl
    · have h1 := M_succ y ((N + 1 : Nat) : Int) (by omega) (by omega)
      have e : ((N + 1 : Nat) : Int) = (N : Int) + 1 := by omega
      rw [e] at h h1
      exact ⟨N + 1, by omega, by omega, by omega, by omega⟩
theorem IsDate.ex (day : Int) (h : 0 ≤ day) : ∃ y m d, IsDate day y m d := by
  have hc := C_le 0 (day + 1) (by omega) (by omega)
  rw [C_zero] at hc
  obtain ⟨n, n0, n1, n2⟩ := year_of (day + 1).toNat day h (by
    have e : (((day + 1).toNat : Nat) : Int) = day + 1 := by omega
    rw [e]
    omega)
  rw [C_succ n n0] at n2
  have h13 := M_13 (2000 + n)
  obtain ⟨m, m0, m1, m2, m3⟩ := month_of (2000 + n) 12 (by omega) (day - C n) (by omega) (by
    have e : ((12 : Nat) : Int) + 1 = 13 := by decide
    rw [e, h13]
    omega)
  refine ⟨2000 + n, m, day - C n - M (2000 + n) m + 1, by omega, m0, m1, by omega, by omega, ?_⟩
  have e : 2000 + n - 2000 = n := by omega
  rw [e]
  omega
theorem IsDate.year_le {day y m d : Int} (h : IsDate day y m d) (hd : day ≤ 999999) : y ≤ 4740 := by
  have w := h.within
  obtain ⟨y0, m0, m1, d0, d1, e⟩ := h
  have := C_le 0 (y - 2000) (by omega) (by omega)
  rw [C_zero] at this
  omega
theorem IsDate.day0 {day y m d : Int} (h : IsDate day y m d) : 0 ≤ day := by
  have w := h.within
  obtain ⟨y0, m0, m1, d0, d1, e⟩ := h
  have := C_le 0 (y - 2000) (by omega) (by omega)
  rw [C_zero] at this
  omega
end Go.Proofs.Ytbahcpdhadhplaa.PB
