/- Plain laws of the calendar, last part: each of the nine statements' functions comes to true. -/
import Derived.Test.YtjjblpcblaelgaaDoorPE
set_option linter.unusedVariables false
set_option linter.unusedSimpArgs false
namespace Go.Proofs.YtjjblpcblaelgaaDoor.PB
open Go.RowKit Go.Proofs.YtjjblpcblaelgaaDoor.Q Go.Proofs.YtjjblpcblaelgaaDoor.Hand Go.Proofs.YtjjblpcblaelgaaDoorW.PrintWords Go.Proofs.YtjjblpcblaelgaaDoorW.PrintMore

theorem i64_bd {a : Int} (h : (Lit.int .i64 a).wf = true) : -9223372036854775808 ≤ a ∧ a ≤ 9223372036854775807 := by
  simp [Lit.wf, IntKind.min, IntKind.max, IntKind.signed, IntKind.bits] at h
  omega

theorem dayOf_cases (y m d : Int) : (∃ n, dayOf y m d = (n, 0) ∧ IsDate n y m d ∧ n ≤ 999999) ∨ ∃ e, dayOf y m d = (0, e) ∧ e ≠ 0 := by
  unfold dayOf
  by_cases hv : validP y m d
  · rw [if_pos hv]
    by_cases hn : num y m d > 999999
    · rw [if_pos hn]
      exact .inr ⟨2, rfl, by decide⟩
    · rw [if_neg hn]
      exact .inl ⟨_, rfl, hv.isDate, by omega⟩
  · rw [if_neg hv]
    exact .inr ⟨1, rfl, by decide⟩

/-- The date of the next day. -/
theorem next_date {day y m d : Int} (h : IsDate day y m d) : IsDate (day + 1) (if d = daysI y m then y + m / 12 else y) (if d = daysI y m then m % 12 + 1 else m) (if d = daysI y m then 1 else d + 1) := by
  obtain ⟨y0, m0, m1, d0, d1, e⟩ := h
  by_cases hl : d = daysI y m
  · rw [if_pos hl, if_pos hl, if_pos hl]
    have hs := M_succ y m m0 m1
    by_cases h12 : m = 12
    · subst h12
      have h13 := M_13 y
      have hc := C_succ (y - 2000) (by omega)
      have e2 : 2000 + (y - 2000) = y := by omega
      rw [e2] at hc
      have hb := daysI_bd (y + 1) 1 (by omega) (by omega)
      have e3 : y - 2000 + 1 = y + 1 - 2000 := by omega
      rw [e3] at hc
      have h1 := M_one (y + 1)
      have e12 : (12 : Int) + 1 = 13 := by decide
      rw [e12] at hs
      show IsDate (day + 1) (y + 1) 1 1
      exact ⟨by omega, by omega, by omega, by omega, by omega, by omega⟩
    · have e1 : m / 12 = 0 := by omega
      have e2 : m % 12 + 1 = m + 1 := by omega
      rw [e1, e2]
      have hb := daysI_bd y (m + 1) (by omega) (by omega)
      have e3 : y + 0 = y := by omega
      rw [e3]
      exact ⟨y0, by omega, by omega, by omega, by omega, by omega⟩
  · rw [if_neg hl, if_neg hl, if_neg hl]
    exact ⟨y0, m0, m1, by omega, by omega, by omega⟩

end Go.Proofs.YtjjblpcblaelgaaDoor.PB
