/- The plain law of the statement CalendarMoves: its function comes to true. -/
import Derived.Test.YtjjblpcblaelgaaDoorPF
import Derived.Test.YtjjblpcblaelgaaDoorQ16
set_option linter.unusedVariables false
set_option linter.unusedSimpArgs false
namespace Go.Proofs.YtjjblpcblaelgaaDoor.PB
open Go.RowKit Go.Proofs.YtjjblpcblaelgaaDoor.Q Go.Proofs.YtjjblpcblaelgaaDoor.Hand Go.Proofs.YtjjblpcblaelgaaDoorW.PrintWords Go.Proofs.YtjjblpcblaelgaaDoorW.PrintMore

theorem law_Moves (a0 a1 : Int) : Ev (fun k => kinkeeplaw21_CalendarMoves.f k a0 a1) true := by
  unfold kinkeeplaw21_CalendarMoves.f
  have bad : Ev (fun k => kinkeeplaw21_CalendarMoves.j0 k a0 a1 0 true) true := by
    refine Ev.step (fun k => kinkeeplaw21_CalendarMoves.j0.eq_2 _ _ _ _ _) ?_
    exact Ev.pos rfl (Ev.bind awake_ev (Ev.pos rfl (Ev.to (Ev.now _) (by simp))))
  by_cases h : 0 ≤ a0 ∧ a0 ≤ 999999
  · obtain ⟨y, m, d, hd⟩ := IsDate.ex a0 h.1
    refine Ev.bind (add_ev hd h.2) (Ev.bind awake_ev (Ev.pos rfl ?_))
    have hyl := hd.year_le h.2
    have hy0 := hd.y0
    have hm0 := hd.m0
    have hm1 := hd.m1
    unfold addOf
    by_cases hn : a1 < -100000 ∨ 100000 < a1
    · rw [if_pos hn]
      exact bad
    · rw [if_neg hn]
      by_cases ht : 12 * (y - 2000) + m - 1 + a1 < 0
      · rw [if_pos ht]
        exact bad
      · rw [if_neg ht]
        obtain ⟨t, htt⟩ : ∃ t, 12 * (y - 2000) + m - 1 + a1 = t := ⟨_, rfl⟩
        rw [htt] at ht ⊢
        rcases dayOf_cases (2000 + t / 12) (t % 12 + 1) (mn d (daysI (2000 + t / 12) (t % 12 + 1))) with ⟨x, e, hx, hxn⟩ | ⟨x, e, hx⟩
        · rw [e]
          show Ev (fun k => kinkeeplaw21_CalendarMoves.j0 k a0 a1 x false) true
          refine Ev.step (fun k => kinkeeplaw21_CalendarMoves.j0.eq_2 _ _ _ _ _) ?_
          refine Ev.neg (by simp) ?_
          refine Ev.bind (Date_ev hd h.2) (Ev.bind (Date_ev hx hxn) (Ev.pos rfl (Ev.pos rfl ?_)))
          refine Ev.bind (Month_ev hx hxn) (Ev.bind (Month_ev hd h.2) ?_)
          rw [w64 (x := 12 * (y - 2000) + m - 1 + a1) (by omega) (by omega)]
          refine Ev.pos (by omega) ?_
          by_cases hl : daysI (2000 + t / 12) (t % 12 + 1) < d
          · have em : mn d (daysI (2000 + t / 12) (t % 12 + 1)) = daysI (2000 + t / 12) (t % 12 + 1) := by unfold mn; rw [if_pos hl]
            rw [em]
            refine Ev.neg (by show ¬ d = daysI _ _; omega) (Ev.pos hl ?_)
            exact Ev.const (days_eq _ _) (Ev.to (Ev.now _) (by simp))
          · have em : mn d (daysI (2000 + t / 12) (t % 12 + 1)) = d := by unfold mn; rw [if_neg hl]
            rw [em]
            exact Ev.pos rfl (Ev.now _)
        · rw [e]
          have eb : (x != 0) = true := by simpa using hx
          show Ev (fun k => kinkeeplaw21_CalendarMoves.j0 k a0 a1 0 (x != 0)) true
          rw [eb]
          exact bad
  · refine Ev.bind (add_out h) (Ev.bind awake_ev (Ev.pos rfl ?_))
    have eb : (dErr a0 != 0) = true := by simpa using dErr_ne h
    show Ev (fun k => kinkeeplaw21_CalendarMoves.j0 k a0 a1 0 (dErr a0 != 0)) true
    rw [eb]
    exact bad

end Go.Proofs.YtjjblpcblaelgaaDoor.PB
namespace Go.Proofs.YtjjblpcblaelgaaDoor.Pure
open Go.RowKit Go.Proofs.YtjjblpcblaelgaaDoor.Q Go.Proofs.YtjjblpcblaelgaaDoor.PB
theorem CalendarMoves (a0 a1 : Int) (w0 : (Lit.int .i64 a0).wf = true) (w1 : (Lit.int .i64 a1).wf = true) : ∃ k, kinkeeplaw21_CalendarMoves.f k a0 a1 = some true := (law_Moves a0 a1).rounds
end Go.Proofs.YtjjblpcblaelgaaDoor.Pure
