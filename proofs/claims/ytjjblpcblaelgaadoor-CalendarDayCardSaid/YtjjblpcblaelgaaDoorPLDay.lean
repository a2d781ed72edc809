/- The plain law of the statement CalendarDay: its function comes to true. -/
import Derived.Test.YtjjblpcblaelgaaDoorPF
import Derived.Test.YtjjblpcblaelgaaDoorQ11
set_option linter.unusedVariables false
set_option linter.unusedSimpArgs false
namespace Go.Proofs.YtjjblpcblaelgaaDoor.PB
open Go.RowKit Go.Proofs.YtjjblpcblaelgaaDoor.Q Go.Proofs.YtjjblpcblaelgaaDoor.Hand Go.Proofs.YtjjblpcblaelgaaDoorW.PrintWords Go.Proofs.YtjjblpcblaelgaaDoorW.PrintMore

theorem law_Day (y m d : Int) (hy : y ≤ 9223372036854775807) : Ev (fun k => kinkeeplaw21_CalendarDay.f k y m d) true := by
  unfold kinkeeplaw21_CalendarDay.f
  exact Ev.bind (Day_ev y m d hy) (Ev.bind (rDay_ev y m d hy) (Ev.bind awake_ev (Ev.pos rfl (Ev.pos rfl (Ev.to (Ev.now _) (by simp))))))

end Go.Proofs.YtjjblpcblaelgaaDoor.PB
namespace Go.Proofs.YtjjblpcblaelgaaDoor.Pure
open Go.RowKit Go.Proofs.YtjjblpcblaelgaaDoor.Q Go.Proofs.YtjjblpcblaelgaaDoor.PB
theorem CalendarDay (y m d : Int) (w0 : (Lit.int .i64 y).wf = true) (w1 : (Lit.int .i64 m).wf = true) (w2 : (Lit.int .i64 d).wf = true) : ∃ k, kinkeeplaw21_CalendarDay.f k y m d = some true := (law_Day y m d (i64_bd w0).2).rounds
end Go.Proofs.YtjjblpcblaelgaaDoor.Pure
