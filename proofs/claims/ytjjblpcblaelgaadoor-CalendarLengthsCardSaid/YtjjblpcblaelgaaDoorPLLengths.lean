/- The plain law of the statement CalendarLengths: its function comes to true. -/
import Derived.Test.YtjjblpcblaelgaaDoorPF
import Derived.Test.YtjjblpcblaelgaaDoorQ7
set_option linter.unusedVariables false
set_option linter.unusedSimpArgs false
namespace Go.Proofs.YtjjblpcblaelgaaDoor.PB
open Go.RowKit Go.Proofs.YtjjblpcblaelgaaDoor.Q Go.Proofs.YtjjblpcblaelgaaDoor.Hand Go.Proofs.YtjjblpcblaelgaaDoorW.PrintWords Go.Proofs.YtjjblpcblaelgaaDoorW.PrintMore

theorem law_Lengths (a0 a1 : Int) : Ev (fun k => kinkeeplaw21_CalendarLengths.f k a0 a1) true := by
  unfold kinkeeplaw21_CalendarLengths.f
  refine Ev.bind awake_ev (Ev.pos rfl ?_)
  refine Ev.const (leap_eq a0) (Ev.const (rleap_eq a0) (Ev.pos (by simp) ?_))
  refine Ev.const (days_eq a0 a1) ?_
  exact Ev.bind (rdays_ev a0 a1) (Ev.to (Ev.now _) (by simp))

end Go.Proofs.YtjjblpcblaelgaaDoor.PB
namespace Go.Proofs.YtjjblpcblaelgaaDoor.Pure
open Go.RowKit Go.Proofs.YtjjblpcblaelgaaDoor.Q Go.Proofs.YtjjblpcblaelgaaDoor.PB
theorem CalendarLengths (a0 a1 : Int) (w0 : (Lit.int .i64 a0).wf = true) (w1 : (Lit.int .i64 a1).wf = true) : ∃ k, kinkeeplaw21_CalendarLengths.f k a0 a1 = some true := (law_Lengths a0 a1).rounds
end Go.Proofs.YtjjblpcblaelgaaDoor.Pure
