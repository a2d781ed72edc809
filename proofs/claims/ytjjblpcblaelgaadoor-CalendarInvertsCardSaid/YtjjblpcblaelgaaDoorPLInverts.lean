/- The plain law of the statement CalendarInverts: its function comes to true. -/
import Derived.Test.YtjjblpcblaelgaaDoorPF
import Derived.Test.YtjjblpcblaelgaaDoorQ12
set_option linter.unusedVariables false
set_option linter.unusedSimpArgs false
namespace Go.Proofs.YtjjblpcblaelgaaDoor.PB
open Go.RowKit Go.Proofs.YtjjblpcblaelgaaDoor.Q Go.Proofs.YtjjblpcblaelgaaDoor.Hand Go.Proofs.YtjjblpcblaelgaaDoorW.PrintWords Go.Proofs.YtjjblpcblaelgaaDoorW.PrintMore

theorem law_Inverts (a0 y m d : Int) (hy : y ≤ 9223372036854775807) : Ev (fun k => kinkeeplaw21_CalendarInverts.f k a0 y m d) true := by
  have tail : ∀ x6 : Int, ((x6 == 0) = decide (0 ≤ a0 ∧ a0 ≤ 999999)) → Ev (fun k => kinkeeplaw21_CalendarInverts.j0 k a0 x6 y m d) true := by
    intro x6 hx
    refine Ev.step (fun k => kinkeeplaw21_CalendarInverts.j0.eq_2 _ _ _ _ _ _) ?_
    have last : Ev (fun k => (kinkeeplaw21_awake.f k).bind fun t216 => (if t216 = true then (if a0 ≥ 0 then (some ((x6 == 0) == (decide (a0 ≤ 999999)))) else (some ((x6 == 0) == false))) else (some false))) true := by
      refine Ev.bind awake_ev (Ev.pos rfl ?_)
      by_cases h0 : a0 ≥ 0
      · refine Ev.pos h0 (Ev.to (Ev.now _) ?_)
        rw [hx]
        by_cases h1 : a0 ≤ 999999 <;> simp [h1]
        omega
      · refine Ev.neg h0 (Ev.to (Ev.now _) ?_)
        rw [hx]
        simp
        omega
    refine Ev.bind (Day_ev y m d hy) ?_
    rcases dayOf_cases y m d with ⟨n, e, hd, hn⟩ | ⟨x, e, hx⟩
    · rw [e]
      refine Ev.pos rfl ?_
      refine Ev.bind (Date_ev hd hn) (Ev.pos rfl (Ev.neg (by simp) last))
    · rw [e]
      exact Ev.neg hx last
  unfold kinkeeplaw21_CalendarInverts.f
  by_cases h : 0 ≤ a0 ∧ a0 ≤ 999999
  · obtain ⟨y', m', d', hd⟩ := IsDate.ex a0 h.1
    have hyl := hd.year_le h.2
    refine Ev.bind (Date_ev hd h.2) (Ev.pos rfl ?_)
    have e := dayOf_isDate hd h.2
    have hb := Day_ev y' m' d' (by omega)
    rw [e] at hb
    exact Ev.bind hb (Ev.pos rfl (Ev.pos rfl (tail 0 (by simp [h]))))
  · refine Ev.bind (Date_out h) (Ev.neg (dErr_ne h) (tail (dErr a0) ?_))
    have := dErr_ne h
    simp [this, h]

end Go.Proofs.YtjjblpcblaelgaaDoor.PB
namespace Go.Proofs.YtjjblpcblaelgaaDoor.Pure
open Go.RowKit Go.Proofs.YtjjblpcblaelgaaDoor.Q Go.Proofs.YtjjblpcblaelgaaDoor.PB
theorem CalendarInverts (a0 y m d : Int) (w : (Lit.int .i64 a0).wf = true) (w0 : (Lit.int .i64 y).wf = true) (w1 : (Lit.int .i64 m).wf = true) (w2 : (Lit.int .i64 d).wf = true) : ∃ k, kinkeeplaw21_CalendarInverts.f k a0 y m d = some true := (law_Inverts a0 y m d (i64_bd w0).2).rounds
end Go.Proofs.YtjjblpcblaelgaaDoor.Pure
