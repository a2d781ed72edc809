/- The plain law of the statement CalendarNumbers: its function comes to true. -/
import Derived.Test.YtjjblpcblaelgaaDoorPF
import Derived.Test.YtjjblpcblaelgaaDoorQ20
set_option linter.unusedVariables false
set_option linter.unusedSimpArgs false
namespace Go.Proofs.YtjjblpcblaelgaaDoor.PB
open Go.RowKit Go.Proofs.YtjjblpcblaelgaaDoor.Q Go.Proofs.YtjjblpcblaelgaaDoor.Hand Go.Proofs.YtjjblpcblaelgaaDoorW.PrintWords Go.Proofs.YtjjblpcblaelgaaDoorW.PrintMore

theorem law_Numbers (a0 : Int) : Ev (fun k => kinkeeplaw21_CalendarNumbers.f k a0) true := by
  unfold kinkeeplaw21_CalendarNumbers.f
  refine Ev.bind awake_ev (Ev.pos rfl ?_)
  by_cases h : 0 ≤ a0 ∧ a0 ≤ 999999
  · obtain ⟨y, m, d, hd⟩ := IsDate.ex a0 h.1
    refine Ev.const (weekday_ok h.1 h.2) (Ev.const ((weekday_same a0).symm.trans (weekday_ok h.1 h.2)) (Ev.pos rfl ?_))
    refine Ev.const (week_ok h.1 h.2) (Ev.const ((week_same a0).symm.trans (week_ok h.1 h.2)) (Ev.pos rfl ?_))
    refine Ev.bind (Month_ev hd h.2) (Ev.bind (rMonth_ev hd h.2) (Ev.pos rfl ?_))
    exact Ev.bind (Year_ev hd h.2) (Ev.bind (rYear_ev hd h.2) (Ev.to (Ev.now _) (by simp)))
  · have w : calendar_Weekday.f a0 = some (-1) := by
      unfold calendar_Weekday.f
      rw [inRange_eq]
      simp [dErr_ne h]
    have k : calendar_Week.f a0 = some (-1) := by
      unfold calendar_Week.f
      rw [inRange_eq]
      simp [dErr_ne h]
    refine Ev.const w (Ev.const ((weekday_same a0).symm.trans w) (Ev.pos rfl ?_))
    refine Ev.const k (Ev.const ((week_same a0).symm.trans k) (Ev.pos rfl ?_))
    refine Ev.bind (Month_out h) (Ev.bind (rMonth_out h) (Ev.pos rfl ?_))
    exact Ev.bind (Year_out h) (Ev.bind (rYear_out h) (Ev.to (Ev.now _) (by simp)))

end Go.Proofs.YtjjblpcblaelgaaDoor.PB
namespace Go.Proofs.YtjjblpcblaelgaaDoor.Pure
open Go.RowKit Go.Proofs.YtjjblpcblaelgaaDoor.Q Go.Proofs.YtjjblpcblaelgaaDoor.PB
theorem CalendarNumbers (a0 : Int) (w0 : (Lit.int .i64 a0).wf = true) : ∃ k, kinkeeplaw21_CalendarNumbers.f k a0 = some true := (law_Numbers a0).rounds
end Go.Proofs.YtjjblpcblaelgaaDoor.Pure
