/- The plain law of the statement CalendarText: its function comes to true. -/
import Derived.Test.YtjjblpcblaelgaaDoorPF
import Derived.Test.YtjjblpcblaelgaaDoorQ18
set_option linter.unusedVariables false
set_option linter.unusedSimpArgs false
namespace Go.Proofs.YtjjblpcblaelgaaDoor.PB
open Go.RowKit Go.Proofs.YtjjblpcblaelgaaDoor.Q Go.Proofs.YtjjblpcblaelgaaDoor.Hand Go.Proofs.YtjjblpcblaelgaaDoorW.PrintWords Go.Proofs.YtjjblpcblaelgaaDoorW.PrintMore

theorem law_Text (a0 : Int) : Ev (fun k => kinkeeplaw21_CalendarText.f k a0) true := by
  unfold kinkeeplaw21_CalendarText.f
  by_cases h : 0 ≤ a0 ∧ a0 ≤ 999999
  · obtain ⟨y, m, d, hd⟩ := IsDate.ex a0 h.1
    obtain ⟨y, m, d, rfl, rfl, rfl, h1, h2, h3, h4⟩ := hd.small h.2
    refine Ev.bind (Text_ev hd h.2) (Ev.bind (rText_ev hd h.2) (Ev.bind awake_ev (Ev.pos rfl (Ev.pos rfl ?_))))
    show Ev (fun k => kinkeeplaw21_CalendarText.j0 k a0 (TX y m d) 0 false) true
    refine Ev.step (fun k => kinkeeplaw21_CalendarText.j0.eq_2 _ _ _ _ _) ?_
    refine Ev.neg (by simp) (Ev.pos rfl ?_)
    have hp := Parse_TX y m d h2 h3 h4
    rw [dayOf_isDate hd h.2] at hp
    exact Ev.bind hp (Ev.pos rfl (Ev.to (Ev.now _) (by simp)))
  · refine Ev.bind (Text_out h) (Ev.bind (rText_out h) (Ev.bind awake_ev (Ev.pos rfl (Ev.pos rfl ?_))))
    have eb : (dErr a0 != dErr a0) = false := by simp
    show Ev (fun k => kinkeeplaw21_CalendarText.j0 k a0 ⟨#[]⟩ (dErr a0) (dErr a0 != dErr a0)) true
    rw [eb]
    refine Ev.step (fun k => kinkeeplaw21_CalendarText.j0.eq_2 _ _ _ _ _) ?_
    exact Ev.neg (by simp) (Ev.neg (dErr_ne h) (Ev.now _))

end Go.Proofs.YtjjblpcblaelgaaDoor.PB
namespace Go.Proofs.YtjjblpcblaelgaaDoor.Pure
open Go.RowKit Go.Proofs.YtjjblpcblaelgaaDoor.Q Go.Proofs.YtjjblpcblaelgaaDoor.PB
theorem CalendarText (a0 : Int) (w0 : (Lit.int .i64 a0).wf = true) : ∃ k, kinkeeplaw21_CalendarText.f k a0 = some true := (law_Text a0).rounds
end Go.Proofs.YtjjblpcblaelgaaDoor.Pure
