/- The plain law of the statement CalendarDate: its function comes to true. -/
import Derived.Test.YtjjblpcblaelgaaDoorPF
import Derived.Test.YtjjblpcblaelgaaDoorQ9
set_option linter.unusedVariables false
set_option linter.unusedSimpArgs false
namespace Go.Proofs.YtjjblpcblaelgaaDoor.PB
open Go.RowKit Go.Proofs.YtjjblpcblaelgaaDoor.Q Go.Proofs.YtjjblpcblaelgaaDoor.Hand Go.Proofs.YtjjblpcblaelgaaDoorW.PrintWords Go.Proofs.YtjjblpcblaelgaaDoorW.PrintMore

theorem law_Date (a0 : Int) : Ev (fun k => kinkeeplaw21_CalendarDate.f k a0) true := by
  unfold kinkeeplaw21_CalendarDate.f
  by_cases h : 0 ≤ a0 ∧ a0 ≤ 999999
  · obtain ⟨y, m, d, hd⟩ := IsDate.ex a0 h.1
    refine Ev.bind (Date_ev hd h.2) (Ev.bind (rDate_ev hd h.2) (Ev.bind awake_ev (Ev.pos rfl (Ev.pos (by simp) (Ev.to (Ev.now _) (by simp))))))
  · refine Ev.bind (Date_out h) (Ev.bind (rDate_out h) (Ev.bind awake_ev (Ev.pos rfl (Ev.pos (by simp) (Ev.to (Ev.now _) (by simp))))))

end Go.Proofs.YtjjblpcblaelgaaDoor.PB
namespace Go.Proofs.YtjjblpcblaelgaaDoor.Pure
open Go.RowKit Go.Proofs.YtjjblpcblaelgaaDoor.Q Go.Proofs.YtjjblpcblaelgaaDoor.PB
theorem CalendarDate (a0 : Int) (w0 : (Lit.int .i64 a0).wf = true) : ∃ k, kinkeeplaw21_CalendarDate.f k a0 = some true := (law_Date a0).rounds
end Go.Proofs.YtjjblpcblaelgaaDoor.Pure
