/- The plain law of the statement CalendarMonths: its function comes to true. -/
import Derived.Test.YtjjblpcblaelgaaDoorPF
import Derived.Test.YtjjblpcblaelgaaDoorQ15
set_option linter.unusedVariables false
set_option linter.unusedSimpArgs false
namespace Go.Proofs.YtjjblpcblaelgaaDoor.PB
open Go.RowKit Go.Proofs.YtjjblpcblaelgaaDoor.Q Go.Proofs.YtjjblpcblaelgaaDoor.Hand Go.Proofs.YtjjblpcblaelgaaDoorW.PrintWords Go.Proofs.YtjjblpcblaelgaaDoorW.PrintMore

theorem law_Months (a0 a1 : Int) : Ev (fun k => kinkeeplaw21_CalendarMonths.f k a0 a1) true := by
  unfold kinkeeplaw21_CalendarMonths.f
  by_cases h : 0 ≤ a0 ∧ a0 ≤ 999999
  · obtain ⟨y, m, d, hd⟩ := IsDate.ex a0 h.1
    exact Ev.bind (add_ev hd h.2) (Ev.bind (radd_ev hd h.2) (Ev.bind awake_ev (Ev.pos rfl (Ev.pos rfl (Ev.to (Ev.now _) (by simp))))))
  · exact Ev.bind (add_out h) (Ev.bind (radd_out h) (Ev.bind awake_ev (Ev.pos rfl (Ev.pos rfl (Ev.to (Ev.now _) (by simp))))))

end Go.Proofs.YtjjblpcblaelgaaDoor.PB
namespace Go.Proofs.YtjjblpcblaelgaaDoor.Pure
open Go.RowKit Go.Proofs.YtjjblpcblaelgaaDoor.Q Go.Proofs.YtjjblpcblaelgaaDoor.PB
theorem CalendarMonths (a0 a1 : Int) (w0 : (Lit.int .i64 a0).wf = true) (w1 : (Lit.int .i64 a1).wf = true) : ∃ k, kinkeeplaw21_CalendarMonths.f k a0 a1 = some true := (law_Months a0 a1).rounds
end Go.Proofs.YtjjblpcblaelgaaDoor.Pure
