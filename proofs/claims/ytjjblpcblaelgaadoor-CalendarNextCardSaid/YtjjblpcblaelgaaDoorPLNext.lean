/- The plain law of the statement CalendarNext: its function comes to true. -/
import Derived.Test.YtjjblpcblaelgaaDoorPF
import Derived.Test.YtjjblpcblaelgaaDoorQ13
set_option linter.unusedVariables false
set_option linter.unusedSimpArgs false
namespace Go.Proofs.YtjjblpcblaelgaaDoor.PB
open Go.RowKit Go.Proofs.YtjjblpcblaelgaaDoor.Q Go.Proofs.YtjjblpcblaelgaaDoor.Hand Go.Proofs.YtjjblpcblaelgaaDoorW.PrintWords Go.Proofs.YtjjblpcblaelgaaDoorW.PrintMore

theorem law_Next (a0 : Int) : Ev (fun k => kinkeeplaw21_CalendarNext.f k a0) true := by
  unfold kinkeeplaw21_CalendarNext.f
  refine Ev.bind awake_ev (Ev.pos rfl ?_)
  have skip : Ev (fun k => kinkeeplaw21_CalendarNext.j0 k a0 true) true := by
    refine Ev.step (fun k => kinkeeplaw21_CalendarNext.j0.eq_2 _ _ _) ?_
    exact Ev.pos rfl (Ev.bind awake_ev (Ev.now _))
  by_cases h0 : a0 < 0
  · exact Ev.pos h0 skip
  · refine Ev.neg h0 ?_
    by_cases h1 : a0 ≥ 999999
    · have e : decide (a0 ≥ 999999) = true := decide_eq_true h1
      rw [e]
      exact skip
    · have e : decide (a0 ≥ 999999) = false := decide_eq_false h1
      rw [e]
      refine Ev.step (fun k => kinkeeplaw21_CalendarNext.j0.eq_2 _ _ _) ?_
      refine Ev.neg (by simp) ?_
      obtain ⟨y, m, d, hd⟩ := IsDate.ex a0 (by omega)
      have hn := next_date hd
      have hyl := hd.year_le (by omega)
      have hdb := daysI_bd y m hd.m0 hd.m1
      have hy0 := hd.y0
      have hm0 := hd.m0
      have hm1 := hd.m1
      have hd0 := hd.d0
      have hd1 := hd.d1
      rw [w64 (x := a0 + 1) (by omega) (by omega)]
      refine Ev.bind (Date_ev hd (by omega)) (Ev.bind (Date_ev hn (by omega)) (Ev.pos rfl (Ev.pos rfl ?_)))
      refine Ev.const (weekday_ok (by omega) (by omega)) (Ev.const (weekday_ok (by omega) (by omega)) ?_)
      have e2 : ((a0 + 1 + 5) % 7 != Int.tmod (wrap64 ((a0 + 5) % 7 + 1)) 7) = false := by
        rw [w64 (by omega) (by omega), Int.tmod_eq_emod_of_nonneg (by omega), bne_eq_false_iff_eq]
        omega
      rw [e2]
      refine Ev.step (fun k => kinkeeplaw21_CalendarNext.j1.eq_2 _ _ _ _ _ _ _ _ _) ?_
      refine Ev.neg (by simp) ?_
      rw [w64 (x := a0 + 1) (by omega) (by omega)]
      refine Ev.const (weekday_ok (by omega) (by omega)) ?_
      have step2 : ∀ mon : Int, mon = (if (a0 + 1 + 5) % 7 = 0 then 1 else 0) → Ev (fun k => kinkeeplaw21_CalendarNext.j2 k a0 mon y m d (if d = daysI y m then y + m / 12 else y) (if d = daysI y m then m % 12 + 1 else m) (if d = daysI y m then 1 else d + 1)) true := by
        intro mon hmon
        refine Ev.step (fun k => kinkeeplaw21_CalendarNext.j2.eq_2 _ _ _ _ _ _ _ _ _) ?_
        refine Ev.const (days_eq y m) ?_
        have step3 : ∀ mo : Int, mo = (if d = daysI y m then 1 else 0) → Ev (fun k => kinkeeplaw21_CalendarNext.j3 k a0 mon mo y m d (if d = daysI y m then y + m / 12 else y) (if d = daysI y m then m % 12 + 1 else m) (if d = daysI y m then 1 else d + 1)) true := by
          intro mo hmo
          refine Ev.step (fun k => kinkeeplaw21_CalendarNext.j3.eq_2 _ _ _ _ _ _ _ _ _ _) ?_
          rw [w64 (x := a0 + 1) (by omega) (by omega)]
          refine Ev.const (week_ok (by omega) (by omega)) (Ev.const (week_ok (by omega) (by omega)) ?_)
          have hmb : 0 ≤ mon ∧ mon ≤ 1 := by rw [hmon]; split <;> omega
          rw [w64 (x := (a0 + 5) / 7 + mon) (by omega) (by omega)]
          refine Ev.pos (by rw [hmon]; split <;> omega) ?_
          refine Ev.bind (Month_ev hn (by omega)) (Ev.bind (Month_ev hd (by omega)) ?_)
          have hob : 0 ≤ mo ∧ mo ≤ 1 := by rw [hmo]; split <;> omega
          rw [w64 (x := 12 * (y - 2000) + m - 1 + mo) (by omega) (by omega)]
          have e3 : (12 * ((if d = daysI y m then y + m / 12 else y) - 2000) + (if d = daysI y m then m % 12 + 1 else m) - 1 != 12 * (y - 2000) + m - 1 + mo) = false := by
            rw [bne_eq_false_iff_eq, hmo]
            split <;> omega
          rw [e3]
          refine Ev.step (fun k => kinkeeplaw21_CalendarNext.j4.eq_2 _ _ _ _ _ _ _ _ _) ?_
          refine Ev.neg (by simp) ?_
          by_cases hl : d = daysI y m
          · rw [if_pos hl] at hmo
            rw [if_pos hl, if_pos hl, if_pos hl]
            refine Ev.neg (by omega) (Ev.pos rfl ?_)
            rw [Int.tmod_eq_emod_of_nonneg (by omega), w64 (x := m % 12 + 1) (by omega) (by omega), Int.tdiv_eq_ediv_of_nonneg (by omega), w64 (x := m / 12) (by omega) (by omega), w64 (x := y + m / 12) (by omega) (by omega)]
            exact Ev.pos rfl (Ev.to (Ev.now _) (by simp))
          · rw [if_neg hl] at hmo
            rw [if_neg hl, if_neg hl, if_neg hl]
            rw [w64 (x := d + 1) (by omega) (by omega)]
            exact Ev.pos hmo (Ev.to (Ev.now _) (by simp))
        by_cases hl : d = daysI y m
        · exact Ev.pos hl (step3 1 (by rw [if_pos hl]))
        · exact Ev.neg hl (step3 0 (by rw [if_neg hl]))
      by_cases hz : (a0 + 1 + 5) % 7 = 0
      · exact Ev.pos hz (step2 1 (by rw [if_pos hz]))
      · exact Ev.neg hz (step2 0 (by rw [if_neg hz]))

end Go.Proofs.YtjjblpcblaelgaaDoor.PB
namespace Go.Proofs.YtjjblpcblaelgaaDoor.Pure
open Go.RowKit Go.Proofs.YtjjblpcblaelgaaDoor.Q Go.Proofs.YtjjblpcblaelgaaDoor.PB
theorem CalendarNext (a0 : Int) (w0 : (Lit.int .i64 a0).wf = true) : ∃ k, kinkeeplaw21_CalendarNext.f k a0 = some true := (law_Next a0).rounds
end Go.Proofs.YtjjblpcblaelgaaDoor.Pure
