-- PRINTED by print.py (a twelfth state) out of the translation. Not trusted: Lean checks it.
import Derived.Test.YtjjblpcblaelgaaDoorQ0
import Derived.Test.YtjjblpcblaelgaaDoorQ1
import Derived.Test.YtjjblpcblaelgaaDoorQ2
import Derived.Test.YtjjblpcblaelgaaDoorQ4
import Derived.Test.YtjjblpcblaelgaaDoorQ6
import Derived.Test.YtjjblpcblaelgaaDoorHand
namespace Go.Proofs.YtjjblpcblaelgaaDoor.Q
open Go.Proofs.YtjjblpcblaelgaaDoor.Hand Go.RowKit Go.Proofs.YtjjblpcblaelgaaDoorW.PrintWords Go.Proofs.YtjjblpcblaelgaaDoorW.PrintLast Go.Proofs.YtjjblpcblaelgaaDoorW.PrintMore
attribute [local go_sem] max2_int min2_int max_two min_two max_three min_three max_four min_four   -- for this text's walks alone
set_option linter.unusedVariables false
set_option linter.unusedSimpArgs false

attribute [local go_sem high] eqA27
/-! ### kinkeeplaw21_CalendarNext: function 7 -/
mutual
def kinkeeplaw21_CalendarNext.j0 : Nat → Int → Bool → Option (Bool)
  | 0, _, _ => none
  | k + 1, x0, x18 => if x18 = true then ((kinkeeplaw21_awake.f k).bind fun t225 => (some t225)) else ((calendar_Date.f k x0).bind fun bt226 => ((calendar_Date.f k (wrap64 (x0 + 1))).bind fun bt231 => (if bt226.2.2.2 = 0 then (if bt231.2.2.2 = 0 then ((calendar_Weekday.f (wrap64 (x0 + 1))).bind fun t236 => ((calendar_Weekday.f x0).bind fun t237 => (kinkeeplaw21_CalendarNext.j1 k x0 (t236 != (Int.tmod (wrap64 (t237 + 1)) 7)) bt226.1 bt226.2.1 bt226.2.2.1 bt231.1 bt231.2.1 bt231.2.2.1))) else (kinkeeplaw21_CalendarNext.j1 k x0 true bt226.1 bt226.2.1 bt226.2.2.1 bt231.1 bt231.2.1 bt231.2.2.1)) else (kinkeeplaw21_CalendarNext.j1 k x0 true bt226.1 bt226.2.1 bt226.2.2.1 bt231.1 bt231.2.1 bt231.2.2.1))))
def kinkeeplaw21_CalendarNext.j1 : Nat → Int → Bool → Int → Int → Int → Int → Int → Int → Option (Bool)
  | 0, _, _, _, _, _, _, _, _ => none
  | k + 1, x0, x46, x231000, x231001, x231002, x236000, x236001, x236002 => if x46 = true then (some false) else ((calendar_Weekday.f (wrap64 (x0 + 1))).bind fun t238 => (if t238 = 0 then (kinkeeplaw21_CalendarNext.j2 k x0 1 x231000 x231001 x231002 x236000 x236001 x236002) else (kinkeeplaw21_CalendarNext.j2 k x0 0 x231000 x231001 x231002 x236000 x236001 x236002)))
def kinkeeplaw21_CalendarNext.j2 : Nat → Int → Int → Int → Int → Int → Int → Int → Int → Option (Bool)
  | 0, _, _, _, _, _, _, _, _ => none
  | k + 1, x0, x7, x231000, x231001, x231002, x236000, x236001, x236002 => (calendar_Days.f x231000 x231001).bind fun t239 => (if x231002 = t239 then (kinkeeplaw21_CalendarNext.j3 k x0 x7 1 x231000 x231001 x231002 x236000 x236001 x236002) else (kinkeeplaw21_CalendarNext.j3 k x0 x7 0 x231000 x231001 x231002 x236000 x236001 x236002))
def kinkeeplaw21_CalendarNext.j3 : Nat → Int → Int → Int → Int → Int → Int → Int → Int → Int → Option (Bool)
  | 0, _, _, _, _, _, _, _, _, _ => none
  | k + 1, x0, x7, x8, x231000, x231001, x231002, x236000, x236001, x236002 => (calendar_Week.f (wrap64 (x0 + 1))).bind fun t240 => ((calendar_Week.f x0).bind fun t241 => (if t240 = (wrap64 (t241 + x7)) then ((calendar_Month.f k (wrap64 (x0 + 1))).bind fun t242 => ((calendar_Month.f k x0).bind fun t243 => (kinkeeplaw21_CalendarNext.j4 k x8 (t242 != (wrap64 (t243 + x8))) x231000 x231001 x231002 x236000 x236001 x236002))) else (kinkeeplaw21_CalendarNext.j4 k x8 true x231000 x231001 x231002 x236000 x236001 x236002)))
def kinkeeplaw21_CalendarNext.j4 : Nat → Int → Bool → Int → Int → Int → Int → Int → Int → Option (Bool)
  | 0, _, _, _, _, _, _, _, _ => none
  | k + 1, x8, x76, x231000, x231001, x231002, x236000, x236001, x236002 => if x76 = true then (some false) else (if x8 = 0 then (some (x236000 == x231000 && (x236001 == x231001 && (x236002 == (wrap64 (x231002 + 1)))))) else (if x236002 = 1 then (if x236001 = (wrap64 ((Int.tmod x231001 12) + 1)) then (some (x236000 == (wrap64 (x231000 + (wrap64 (Int.tdiv x231001 12)))))) else (some false)) else (some false)))
end
def kinkeeplaw21_CalendarNext.f (k : Nat) (a0 : Int) : Option (Bool) := (kinkeeplaw21_awake.f k).bind fun t224 => (if t224 = true then (if a0 < 0 then (kinkeeplaw21_CalendarNext.j0 k a0 true) else (kinkeeplaw21_CalendarNext.j0 k a0 (decide (a0 ≥ 999999)))) else (kinkeeplaw21_CalendarNext.j0 k a0 true))
theorem kinkeeplaw21_CalendarNext.mono_l : ∀ k, (∀ y0 y1, LeO (kinkeeplaw21_CalendarNext.j0 k y0 y1) (kinkeeplaw21_CalendarNext.j0 (k + 1) y0 y1)) ∧ (∀ y0 y1 y2 y3 y4 y5 y6 y7, LeO (kinkeeplaw21_CalendarNext.j1 k y0 y1 y2 y3 y4 y5 y6 y7) (kinkeeplaw21_CalendarNext.j1 (k + 1) y0 y1 y2 y3 y4 y5 y6 y7)) ∧ (∀ y0 y1 y2 y3 y4 y5 y6 y7, LeO (kinkeeplaw21_CalendarNext.j2 k y0 y1 y2 y3 y4 y5 y6 y7) (kinkeeplaw21_CalendarNext.j2 (k + 1) y0 y1 y2 y3 y4 y5 y6 y7)) ∧ (∀ y0 y1 y2 y3 y4 y5 y6 y7 y8, LeO (kinkeeplaw21_CalendarNext.j3 k y0 y1 y2 y3 y4 y5 y6 y7 y8) (kinkeeplaw21_CalendarNext.j3 (k + 1) y0 y1 y2 y3 y4 y5 y6 y7 y8)) ∧ (∀ y0 y1 y2 y3 y4 y5 y6 y7, LeO (kinkeeplaw21_CalendarNext.j4 k y0 y1 y2 y3 y4 y5 y6 y7) (kinkeeplaw21_CalendarNext.j4 (k + 1) y0 y1 y2 y3 y4 y5 y6 y7))
  | 0 => ⟨fun _ _ r h => by simp [kinkeeplaw21_CalendarNext.j0] at h, fun _ _ _ _ _ _ _ _ r h => by simp [kinkeeplaw21_CalendarNext.j1] at h, fun _ _ _ _ _ _ _ _ r h => by simp [kinkeeplaw21_CalendarNext.j2] at h, fun _ _ _ _ _ _ _ _ _ r h => by simp [kinkeeplaw21_CalendarNext.j3] at h, fun _ _ _ _ _ _ _ _ r h => by simp [kinkeeplaw21_CalendarNext.j4] at h⟩
  | k + 1 => by
    obtain ⟨ih0, ih1, ih2, ih3, ih4⟩ := kinkeeplaw21_CalendarNext.mono_l k
    refine ⟨?_, ?_, ?_, ?_, ?_⟩
    · intro y0 y1
      unfold kinkeeplaw21_CalendarNext.j0
      repeat' first
      | (with_reducible exact ih0 _ _)
      | (with_reducible exact ih1 _ _ _ _ _ _ _ _)
      | (with_reducible exact ih2 _ _ _ _ _ _ _ _)
      | (with_reducible exact ih3 _ _ _ _ _ _ _ _ _)
      | (with_reducible exact ih4 _ _ _ _ _ _ _ _)
      | (with_reducible exact calendar_Date.mono _ _)
      | (with_reducible exact calendar_Month.mono _ _)
      | (with_reducible exact kinkeeplaw21_awake.mono _)
      | (with_reducible exact LeO.refl _)
      | (with_reducible exact LeO.none _)
      | (with_reducible refine LeO.ite ?_ ?_)
      | (with_reducible refine LeO.bind ?_ (fun _ => ?_))
      | exact ih0 _ _
      | exact ih1 _ _ _ _ _ _ _ _
      | exact ih2 _ _ _ _ _ _ _ _
      | exact ih3 _ _ _ _ _ _ _ _ _
      | exact ih4 _ _ _ _ _ _ _ _
      | exact calendar_Date.mono _ _
      | exact calendar_Month.mono _ _
      | exact kinkeeplaw21_awake.mono _
      | exact LeO.none _
      | refine LeO.ite ?_ ?_
      | refine LeO.bind ?_ (fun _ => ?_)
    · intro y0 y1 y2 y3 y4 y5 y6 y7
      unfold kinkeeplaw21_CalendarNext.j1
      repeat' first
      | (with_reducible exact ih0 _ _)
      | (with_reducible exact ih1 _ _ _ _ _ _ _ _)
      | (with_reducible exact ih2 _ _ _ _ _ _ _ _)
      | (with_reducible exact ih3 _ _ _ _ _ _ _ _ _)
      | (with_reducible exact ih4 _ _ _ _ _ _ _ _)
      | (with_reducible exact calendar_Date.mono _ _)
      | (with_reducible exact calendar_Month.mono _ _)
      | (with_reducible exact kinkeeplaw21_awake.mono _)
      | (with_reducible exact LeO.refl _)
      | (with_reducible exact LeO.none _)
      | (with_reducible refine LeO.ite ?_ ?_)
      | (with_reducible refine LeO.bind ?_ (fun _ => ?_))
      | exact ih0 _ _
      | exact ih1 _ _ _ _ _ _ _ _
      | exact ih2 _ _ _ _ _ _ _ _
      | exact ih3 _ _ _ _ _ _ _ _ _
      | exact ih4 _ _ _ _ _ _ _ _
      | exact calendar_Date.mono _ _
      | exact calendar_Month.mono _ _
      | exact kinkeeplaw21_awake.mono _
      | exact LeO.none _
      | refine LeO.ite ?_ ?_
      | refine LeO.bind ?_ (fun _ => ?_)
    · intro y0 y1 y2 y3 y4 y5 y6 y7
      unfold kinkeeplaw21_CalendarNext.j2
      repeat' first
      | (with_reducible exact ih0 _ _)
      | (with_reducible exact ih1 _ _ _ _ _ _ _ _)
      | (with_reducible exact ih2 _ _ _ _ _ _ _ _)
      | (with_reducible exact ih3 _ _ _ _ _ _ _ _ _)
      | (with_reducible exact ih4 _ _ _ _ _ _ _ _)
      | (with_reducible exact calendar_Date.mono _ _)
      | (with_reducible exact calendar_Month.mono _ _)
      | (with_reducible exact kinkeeplaw21_awake.mono _)
      | (with_reducible exact LeO.refl _)
      | (with_reducible exact LeO.none _)
      | (with_reducible refine LeO.ite ?_ ?_)
      | (with_reducible refine LeO.bind ?_ (fun _ => ?_))
      | exact ih0 _ _
      | exact ih1 _ _ _ _ _ _ _ _
      | exact ih2 _ _ _ _ _ _ _ _
      | exact ih3 _ _ _ _ _ _ _ _ _
      | exact ih4 _ _ _ _ _ _ _ _
      | exact calendar_Date.mono _ _
      | exact calendar_Month.mono _ _
      | exact kinkeeplaw21_awake.mono _
      | exact LeO.none _
      | refine LeO.ite ?_ ?_
      | refine LeO.bind ?_ (fun _ => ?_)
    · intro y0 y1 y2 y3 y4 y5 y6 y7 y8
      unfold kinkeeplaw21_CalendarNext.j3
      repeat' first
      | (with_reducible exact ih0 _ _)
      | (with_reducible exact ih1 _ _ _ _ _ _ _ _)
      | (with_reducible exact ih2 _ _ _ _ _ _ _ _)
      | (with_reducible exact ih3 _ _ _ _ _ _ _ _ _)
      | (with_reducible exact ih4 _ _ _ _ _ _ _ _)
      | (with_reducible exact calendar_Date.mono _ _)
      | (with_reducible exact calendar_Month.mono _ _)
      | (with_reducible exact kinkeeplaw21_awake.mono _)
      | (with_reducible exact LeO.refl _)
      | (with_reducible exact LeO.none _)
      | (with_reducible refine LeO.ite ?_ ?_)
      | (with_reducible refine LeO.bind ?_ (fun _ => ?_))
      | exact ih0 _ _
      | exact ih1 _ _ _ _ _ _ _ _
      | exact ih2 _ _ _ _ _ _ _ _
      | exact ih3 _ _ _ _ _ _ _ _ _
      | exact ih4 _ _ _ _ _ _ _ _
      | exact calendar_Date.mono _ _
      | exact calendar_Month.mono _ _
      | exact kinkeeplaw21_awake.mono _
      | exact LeO.none _
      | refine LeO.ite ?_ ?_
      | refine LeO.bind ?_ (fun _ => ?_)
    · intro y0 y1 y2 y3 y4 y5 y6 y7
      unfold kinkeeplaw21_CalendarNext.j4
      repeat' first
      | (with_reducible exact ih0 _ _)
      | (with_reducible exact ih1 _ _ _ _ _ _ _ _)
      | (with_reducible exact ih2 _ _ _ _ _ _ _ _)
      | (with_reducible exact ih3 _ _ _ _ _ _ _ _ _)
      | (with_reducible exact ih4 _ _ _ _ _ _ _ _)
      | (with_reducible exact calendar_Date.mono _ _)
      | (with_reducible exact calendar_Month.mono _ _)
      | (with_reducible exact kinkeeplaw21_awake.mono _)
      | (with_reducible exact LeO.refl _)
      | (with_reducible exact LeO.none _)
      | (with_reducible refine LeO.ite ?_ ?_)
      | (with_reducible refine LeO.bind ?_ (fun _ => ?_))
      | exact ih0 _ _
      | exact ih1 _ _ _ _ _ _ _ _
      | exact ih2 _ _ _ _ _ _ _ _
      | exact ih3 _ _ _ _ _ _ _ _ _
      | exact ih4 _ _ _ _ _ _ _ _
      | exact calendar_Date.mono _ _
      | exact calendar_Month.mono _ _
      | exact kinkeeplaw21_awake.mono _
      | exact LeO.none _
      | refine LeO.ite ?_ ?_
      | refine LeO.bind ?_ (fun _ => ?_)
theorem kinkeeplaw21_CalendarNext.mono : ∀ a0 k, LeO (kinkeeplaw21_CalendarNext.f k a0) (kinkeeplaw21_CalendarNext.f (k + 1) a0) := by
  intro a0 k
  obtain ⟨ih0, ih1, ih2, ih3, ih4⟩ := kinkeeplaw21_CalendarNext.mono_l k
  unfold kinkeeplaw21_CalendarNext.f
  repeat' first
      | (with_reducible exact ih0 _ _)
      | (with_reducible exact ih1 _ _ _ _ _ _ _ _)
      | (with_reducible exact ih2 _ _ _ _ _ _ _ _)
      | (with_reducible exact ih3 _ _ _ _ _ _ _ _ _)
      | (with_reducible exact ih4 _ _ _ _ _ _ _ _)
      | (with_reducible exact calendar_Date.mono _ _)
      | (with_reducible exact calendar_Month.mono _ _)
      | (with_reducible exact kinkeeplaw21_awake.mono _)
      | (with_reducible exact LeO.refl _)
      | (with_reducible exact LeO.none _)
      | (with_reducible refine LeO.ite ?_ ?_)
      | (with_reducible refine LeO.bind ?_ (fun _ => ?_))
      | exact ih0 _ _
      | exact ih1 _ _ _ _ _ _ _ _
      | exact ih2 _ _ _ _ _ _ _ _
      | exact ih3 _ _ _ _ _ _ _ _ _
      | exact ih4 _ _ _ _ _ _ _ _
      | exact calendar_Date.mono _ _
      | exact calendar_Month.mono _ _
      | exact kinkeeplaw21_awake.mono _
      | exact LeO.none _
      | refine LeO.ite ?_ ?_
      | refine LeO.bind ?_ (fun _ => ?_)
def kinkeeplaw21_CalendarNext.T11 : Bool × List (List Nat × List Nat) := (true, [([], []), ([0], [0]), ([], []), ([2], [2]), ([], []), ([4], [4]), ([3, 5], [3, 5]), ([1, 6], [1, 6])])
def kinkeeplaw21_CalendarNext.B11 : List Nat := [0, 1, 0, 4, 0, 16, 60, 127]
theorem kinkeeplaw21_CalendarNext.tab11 : rtab .any (opsOf Tryd.f7 11) = kinkeeplaw21_CalendarNext.T11 := by kernel_rfl
theorem kinkeeplaw21_CalendarNext.bits11 : waitsOk kinkeeplaw21_CalendarNext.T11.2 kinkeeplaw21_CalendarNext.B11 = true := by kernel_rfl
set_option maxHeartbeats 8000000 in
set_option maxRecDepth 100000 in
theorem kinkeeplaw21_CalendarNext.calls (k : Nat) (a0 : Int) (r : Bool) (w : World) (hGW : GW w) (h : kinkeeplaw21_CalendarNext.f k a0 = some r) :
    Calls Tryd.prog 7 #[.int .i64 a0] w fun e w' => e = .returned (.bool r) ∧ Below w.heap.size w w' := by
  have hu27 := Tryd.underlying27
  have HGW := Aside0.mk hGW
  clear hGW
  have HB := Aside0.mk (Below.refl w.heap.size w)
  have H : ((kinkeeplaw21_awake.f k).bind fun t224 => (if t224 = true then (if a0 < 0 then (kinkeeplaw21_CalendarNext.j0 k a0 true) else (kinkeeplaw21_CalendarNext.j0 k a0 (decide (a0 ≥ 999999)))) else (kinkeeplaw21_CalendarNext.j0 k a0 true))) = some r := h
  clear h
  have HC2 := Aside0.mk H
  clear H
  go_enter Tryd.func7, Tryd.ntmps7
  go_upto_region 1 with (fail)
  go_cut [18] (fun v18 wc => ∃ (kq : Nat) (x18_1 : Bool), v18 = .bool x18_1 ∧ Aside0 (kinkeeplaw21_CalendarNext.j0 kq a0 x18_1 = some r) ∧ Aside0 (kq ≤ k) ∧ Aside0 (Below w.heap.size w wc))
  case first =>
    have H := HC2.out
    clear HC2
    replace H := Option.bind_eq_some_iff.mp H
    obtain ⟨t224, A30, H⟩ := H
    replace H : (if t224 = true then (if a0 < 0 then (kinkeeplaw21_CalendarNext.j0 k a0 true) else (kinkeeplaw21_CalendarNext.j0 k a0 (decide (a0 ≥ 999999)))) else (kinkeeplaw21_CalendarNext.j0 k a0 true)) = some r := H
    have A3 := Aside0.mk A30
    clear A30
    by_cases c4 : t224 = true
    · subst c4
      have H1 : (if a0 < 0 then (kinkeeplaw21_CalendarNext.j0 k a0 true) else (kinkeeplaw21_CalendarNext.j0 k a0 (decide (a0 ≥ 999999)))) = some r := by rw [if_pos rfl] at H; exact H
      clear H
      have H := H1
      clear H1
      by_cases c5 : a0 < 0
      · rw [if_pos c5] at H
        have c5b0 : decide (a0 < 0) = true := decide_eq_true c5
        clear c5
        (first | rw [c5b0] | (simp only [i64_w, i32_w]; rw [c5b0]) | skip)
        have H' := Aside0.mk H
        clear H
        go_wp2_with (first | ((with_reducible refine gate_callee (f := 12) rfl ?_); refine goesL_ (some 9) rfl rfl Tryd.func12 (by kernel_rfl) rfl #[] rfl (by (try simp only [List.map_toArray, List.map_cons, List.map_nil]); first | done | rfl | (simp only [List.length_drop, List.length_take]; rfl)) ?_; (with_reducible refine (kinkeeplaw21_awake.calls k  true _ ?side1 A3.out).mono ?_); (case side1 => exact GW_below HGW.out (by repeat (first | (with_reducible first | exact HB.out | apply below_alloc | apply pw_below_drewN | apply below_drew1) | exact HB.out))); rintro e w6 ⟨rfl, hb⟩; refine ⟨_, rfl, ?_⟩; have n0_ := Aside0.mk (below_step (by repeat (first | (with_reducible first | exact HB.out | apply below_alloc | apply pw_below_drewN | apply below_drew1) | exact HB.out)) hb); clear HB; have HB := n0_; clear n0_; (try clear hb); (try clear hb2); (try clear hk); (try clear hi)))
        go_meet
        case rel => exact ⟨_, (true), (by first | rfl | (simp; done) | (simp [*]; done)), H', ⟨by first | omega | exact Nat.le_refl _⟩, ⟨by repeat (first | (with_reducible first | exact HB.out | apply below_alloc | apply pw_below_drewN | apply below_drew1) | exact HB.out)⟩⟩
      · rw [if_neg c5] at H
        have c5b0 : decide (a0 < 0) = false := decide_eq_false c5
        clear c5
        (first | rw [c5b0] | (simp only [i64_w, i32_w]; rw [c5b0]) | skip)
        have H' := Aside0.mk H
        clear H
        go_wp2_with (first | ((with_reducible refine gate_callee (f := 12) rfl ?_); refine goesL_ (some 9) rfl rfl Tryd.func12 (by kernel_rfl) rfl #[] rfl (by (try simp only [List.map_toArray, List.map_cons, List.map_nil]); first | done | rfl | (simp only [List.length_drop, List.length_take]; rfl)) ?_; (with_reducible refine (kinkeeplaw21_awake.calls k  true _ ?side1 A3.out).mono ?_); (case side1 => exact GW_below HGW.out (by repeat (first | (with_reducible first | exact HB.out | apply below_alloc | apply pw_below_drewN | apply below_drew1) | exact HB.out))); rintro e w7 ⟨rfl, hb⟩; refine ⟨_, rfl, ?_⟩; have n0_ := Aside0.mk (below_step (by repeat (first | (with_reducible first | exact HB.out | apply below_alloc | apply pw_below_drewN | apply below_drew1) | exact HB.out)) hb); clear HB; have HB := n0_; clear n0_; (try clear hb); (try clear hb2); (try clear hk); (try clear hi)))
        go_meet
        case rel => exact ⟨_, (decide (a0 ≥ 999999)), (by first | rfl | (simp; done) | (simp [*]; done)), H', ⟨by first | omega | exact Nat.le_refl _⟩, ⟨by repeat (first | (with_reducible first | exact HB.out | apply below_alloc | apply pw_below_drewN | apply below_drew1) | exact HB.out)⟩⟩
    · replace c4 := Bool.eq_false_iff.mpr c4
      subst c4
      have H1 : (kinkeeplaw21_CalendarNext.j0 k a0 true) = some r := by rw [if_neg (show ¬ (false = true) by decide)] at H; exact H
      clear H
      have H := H1
      clear H1
      have H' := Aside0.mk H
      clear H
      go_wp2_with (first | ((with_reducible refine gate_callee (f := 12) rfl ?_); refine goesL_ (some 9) rfl rfl Tryd.func12 (by kernel_rfl) rfl #[] rfl (by (try simp only [List.map_toArray, List.map_cons, List.map_nil]); first | done | rfl | (simp only [List.length_drop, List.length_take]; rfl)) ?_; (with_reducible refine (kinkeeplaw21_awake.calls k  false _ ?side1 A3.out).mono ?_); (case side1 => exact GW_below HGW.out (by repeat (first | (with_reducible first | exact HB.out | apply below_alloc | apply pw_below_drewN | apply below_drew1) | exact HB.out))); rintro e w8 ⟨rfl, hb⟩; refine ⟨_, rfl, ?_⟩; have n0_ := Aside0.mk (below_step (by repeat (first | (with_reducible first | exact HB.out | apply below_alloc | apply pw_below_drewN | apply below_drew1) | exact HB.out)) hb); clear HB; have HB := n0_; clear n0_; (try clear hb); (try clear hb2); (try clear hk); (try clear hi)))
      go_meet
      case rel => exact ⟨_, (true), (by first | rfl | (simp; done) | (simp [*]; done)), H', ⟨by first | omega | exact Nat.le_refl _⟩, ⟨by repeat (first | (with_reducible first | exact HB.out | apply below_alloc | apply pw_below_drewN | apply below_drew1) | exact HB.out)⟩⟩
  case rest =>
    clear HC2
    try clear c1
    try clear p2
    try clear c4
    try clear c5
    try clear c5b0
    try clear c7
    obtain ⟨kq, x18_1, rfl, HA, HJ1, HB⟩ := hcut
    cases kq with
    | zero => exact absurd HA.out (by simp [kinkeeplaw21_CalendarNext.j0])
    | succ kj1 =>
      have H := HA.out
      clear HA
      simp only [kinkeeplaw21_CalendarNext.j0] at H
      by_cases c9 : x18_1 = true
      · subst c9
        have H1 : ((kinkeeplaw21_awake.f kj1).bind fun t225 => (some t225)) = some r := by rw [if_pos rfl] at H; exact H
        clear H
        have H := H1
        clear H1
        replace H := Option.bind_eq_some_iff.mp H
        obtain ⟨t225, A100, H⟩ := H
        replace H : (some t225) = some r := H
        have A10 := Aside0.mk A100
        clear A100
        obtain rfl := Option.some.inj H
        go_wp2_with (first | ((with_reducible refine gate_callee (f := 12) rfl ?_); refine goesL_ (some 19) rfl rfl Tryd.func12 (by kernel_rfl) rfl #[] rfl (by (try simp only [List.map_toArray, List.map_cons, List.map_nil]); first | done | rfl | (simp only [List.length_drop, List.length_take]; rfl)) ?_; (with_reducible refine (kinkeeplaw21_awake.calls kj1  t225 _ ?side1 A10.out).mono ?_); (case side1 => exact GW_below HGW.out (by repeat (first | (with_reducible first | exact HB.out | apply below_alloc | apply pw_below_drewN | apply below_drew1) | exact HB.out))); rintro e w11 ⟨rfl, hb⟩; refine ⟨_, rfl, ?_⟩; have n0_ := Aside0.mk (below_step (by repeat (first | (with_reducible first | exact HB.out | apply below_alloc | apply pw_below_drewN | apply below_drew1) | exact HB.out)) hb); clear HB; have HB := n0_; clear n0_; (try clear hb); (try clear hb2); (try clear hk); (try clear hi)))
        go_ret
        exact ⟨by first | rfl | (simp [errW_none, errW_some] <;> rfl) | (simp [*, errW_none, errW_some] <;> rfl), by repeat (first | (with_reducible first | exact HB.out | apply below_alloc | apply pw_below_drewN | apply below_drew1) | exact HB.out)⟩
      · replace c9 := Bool.eq_false_iff.mpr c9
        subst c9
        have H1 : ((calendar_Date.f kj1 a0).bind fun bt226 => ((calendar_Date.f kj1 (wrap64 (a0 + 1))).bind fun bt231 => (if bt226.2.2.2 = 0 then (if bt231.2.2.2 = 0 then ((calendar_Weekday.f (wrap64 (a0 + 1))).bind fun t236 => ((calendar_Weekday.f a0).bind fun t237 => (kinkeeplaw21_CalendarNext.j1 kj1 a0 (t236 != (Int.tmod (wrap64 (t237 + 1)) 7)) bt226.1 bt226.2.1 bt226.2.2.1 bt231.1 bt231.2.1 bt231.2.2.1))) else (kinkeeplaw21_CalendarNext.j1 kj1 a0 true bt226.1 bt226.2.1 bt226.2.2.1 bt231.1 bt231.2.1 bt231.2.2.1)) else (kinkeeplaw21_CalendarNext.j1 kj1 a0 true bt226.1 bt226.2.1 bt226.2.2.1 bt231.1 bt231.2.1 bt231.2.2.1)))) = some r := by rw [if_neg (show ¬ (false = true) by decide)] at H; exact H
        clear H
        have H := H1
        clear H1
        replace H := Option.bind_eq_some_iff.mp H
        obtain ⟨⟨t226, t227, t228, t229⟩, A120, H⟩ := H
        replace H : ((calendar_Date.f kj1 (wrap64 (a0 + 1))).bind fun bt231 => (if t229 = 0 then (if bt231.2.2.2 = 0 then ((calendar_Weekday.f (wrap64 (a0 + 1))).bind fun t236 => ((calendar_Weekday.f a0).bind fun t237 => (kinkeeplaw21_CalendarNext.j1 kj1 a0 (t236 != (Int.tmod (wrap64 (t237 + 1)) 7)) t226 t227 t228 bt231.1 bt231.2.1 bt231.2.2.1))) else (kinkeeplaw21_CalendarNext.j1 kj1 a0 true t226 t227 t228 bt231.1 bt231.2.1 bt231.2.2.1)) else (kinkeeplaw21_CalendarNext.j1 kj1 a0 true t226 t227 t228 bt231.1 bt231.2.1 bt231.2.2.1))) = some r := H
        have A12 := Aside0.mk A120
        clear A120
        replace H := Option.bind_eq_some_iff.mp H
        obtain ⟨⟨t231, t232, t233, t234⟩, A130, H⟩ := H
        replace H : (if t229 = 0 then (if t234 = 0 then ((calendar_Weekday.f (wrap64 (a0 + 1))).bind fun t236 => ((calendar_Weekday.f a0).bind fun t237 => (kinkeeplaw21_CalendarNext.j1 kj1 a0 (t236 != (Int.tmod (wrap64 (t237 + 1)) 7)) t226 t227 t228 t231 t232 t233))) else (kinkeeplaw21_CalendarNext.j1 kj1 a0 true t226 t227 t228 t231 t232 t233)) else (kinkeeplaw21_CalendarNext.j1 kj1 a0 true t226 t227 t228 t231 t232 t233)) = some r := H
        have A13 := Aside0.mk A130
        clear A130
        have HC14 := Aside0.mk H
        clear H
        go_upto_region 5 with (first | ((with_reducible refine gate_callee (f := 17) rfl ?_); refine goesL_ (some 22) rfl rfl Tryd.func17 (by kernel_rfl) rfl #[.int .i64 a0] rfl (by (try simp only [List.map_toArray, List.map_cons, List.map_nil]); first | done | rfl | (simp only [List.length_drop, List.length_take]; rfl)) ?_; (with_reducible refine (calendar_Date.calls kj1 a0 t226 t227 t228 t229 _ A12.out).mono ?_); rintro e w15 ⟨rfl, hb⟩; refine ⟨_, rfl, ?_⟩; have n0_ := Aside0.mk (below_step (by repeat (first | (with_reducible first | exact HB.out | apply below_alloc | apply pw_below_drewN | apply below_drew1) | exact HB.out)) hb); clear HB; have HB := n0_; clear n0_; (try clear hb); (try clear hb2); (try clear hk); (try clear hi)) | ((with_reducible refine gate_dst (N := 3) rfl ?_); refine box_event ?hg (N := 3) ?hd (cs := #[.int .i64 0, .int .i64 0, .int .i64 0]) (t := 27) ?hr ?_; (case hd => rfl); (case hg => rfl); (case hr => first | (go_simp; done) | (go_simp; rfl)); intro gb230 hg w16 hbox hb; have n0_ := Aside0.mk (below_step (by repeat (first | (with_reducible first | exact HB.out | apply below_alloc | apply pw_below_drewN | apply below_drew1) | exact HB.out)) hb); have n1_ := Aside0.mk (hbox); have n2_ := Aside0.mk ((by rw [hg]; exact (below_size (by repeat (first | (with_reducible first | exact HB.out | apply below_alloc | apply pw_below_drewN | apply below_drew1) | exact HB.out))) : w.heap.size ≤ gb230)); have n3_ := Aside0.mk ((by rw [hg]; exact (below_size (by repeat (first | (with_reducible first | exact HB.out | apply below_alloc | apply pw_below_drewN | apply below_drew1) | exact HB.out))) : w.heap.size ≤ gb230)); clear HB; have HB := n0_; have BK230 := n1_; have GW230 := n2_; have GE230 := n3_; clear n0_ n1_ n2_ n3_; clear hb hbox hg; have hcz17_0 : w16.cell? ⟨gb230, 0, none⟩ = some (.int .i64 0) := (blk_cell BK230.out 0).trans rfl; have hcz17_1 : w16.cell? ⟨gb230, 1, none⟩ = some (.int .i64 0) := (blk_cell BK230.out 1).trans rfl; have hcz17_2 : w16.cell? ⟨gb230, 2, none⟩ = some (.int .i64 0) := (blk_cell BK230.out 2).trans rfl; have hfz17_0 := blk_frozen BK230.out 0; have hfz17_1 := blk_frozen BK230.out 1; have hfz17_2 := blk_frozen BK230.out 2) | ((with_reducible refine gate_callee (f := 17) rfl ?_); refine goesL_ (some 28) rfl rfl Tryd.func17 (by kernel_rfl) rfl #[.int .i64 (wrap64 (a0 + 1))] rfl (by (try simp only [List.map_toArray, List.map_cons, List.map_nil]); first | done | rfl | (simp only [List.length_drop, List.length_take]; rfl)) ?_; (with_reducible refine (calendar_Date.calls kj1 (wrap64 (a0 + 1)) t231 t232 t233 t234 _ A13.out).mono ?_); rintro e w18 ⟨rfl, hb⟩; refine ⟨_, rfl, ?_⟩; have n0_ := Aside0.mk (blk_below (g := gb230) (o := .cells #[.int .i64 t226, .int .i64 t227, .int .i64 t228] 27 (0, 0)) (by (with_reducible repeat (first | refine blk_drewN ?_ _ | refine blk_drew ?_ | refine blk_alloc ?_ _)); refine blk_put (cs := #[.int .i64 t226, .int .i64 t227, .int .i64 0]) ?_ 2 _ rfl; (with_reducible repeat (first | refine blk_drewN ?_ _ | refine blk_drew ?_ | refine blk_alloc ?_ _)); refine blk_put (cs := #[.int .i64 t226, .int .i64 0, .int .i64 0]) ?_ 1 _ rfl; (with_reducible repeat (first | refine blk_drewN ?_ _ | refine blk_drew ?_ | refine blk_alloc ?_ _)); refine blk_put (cs := #[.int .i64 0, .int .i64 0, .int .i64 0]) ?_ 0 _ rfl; (with_reducible repeat (first | refine blk_drewN ?_ _ | refine blk_drew ?_ | refine blk_alloc ?_ _)); exact BK230.out) hb); have n1_ := Aside0.mk (below_step (by repeat (first | (with_reducible first | exact HB.out | apply below_alloc | apply pw_below_drewN | apply below_drew1 | refine below_set ?_ GE230.out) | exact HB.out)) hb); clear BK230; clear HB; have BK230 := n0_; have HB := n1_; clear n0_ n1_; (try clear hb); (try clear hb2); (try clear hk); (try clear hi)) | ((with_reducible refine gate_dst (N := 5) rfl ?_); refine box_event ?hg (N := 5) ?hd (cs := #[.int .i64 0, .int .i64 0, .int .i64 0]) (t := 27) ?hr ?_; (case hd => rfl); (case hg => rfl); (case hr => first | (go_simp; done) | (go_simp; rfl)); intro gb235 hg w19 hbox hb; have n0_ := Aside0.mk (blk_below (g := gb230) (o := .cells #[.int .i64 t226, .int .i64 t227, .int .i64 t228] 27 (0, 0)) (by (with_reducible repeat (first | refine blk_drewN ?_ _ | refine blk_drew ?_ | refine blk_alloc ?_ _)); exact BK230.out) hb); have n1_ := Aside0.mk (below_step (by repeat (first | (with_reducible first | exact HB.out | apply below_alloc | apply pw_below_drewN | apply below_drew1 | refine below_set ?_ GE230.out) | exact HB.out)) hb); have n2_ := Aside0.mk (hbox); have n3_ := Aside0.mk ((by rw [hg]; exact (below_size (by repeat (first | (with_reducible first | exact HB.out | apply below_alloc | apply pw_below_drewN | apply below_drew1 | refine below_set ?_ GE230.out) | exact HB.out))) : w.heap.size ≤ gb235)); have n4_ := Aside0.mk ((by rw [hg]; exact (below_size (by repeat (first | (with_reducible first | exact HB.out | apply below_alloc | apply pw_below_drewN | apply below_drew1 | refine below_set ?_ GE230.out) | exact HB.out))) : w.heap.size ≤ gb235)); have n5_ := Aside0.mk ((by rw [hg]; exact Nat.ne_of_lt (blk_lt (g := gb230) (o := .cells #[.int .i64 t226, .int .i64 t227, .int .i64 t228] 27 (0, 0)) (by (with_reducible repeat (first | refine blk_drewN ?_ _ | refine blk_drew ?_ | refine blk_alloc ?_ _)); exact BK230.out)) : gb230 ≠ gb235)); have n6_ := Aside0.mk ((by rw [hg]; exact Nat.ne_of_gt (blk_lt (g := gb230) (o := .cells #[.int .i64 t226, .int .i64 t227, .int .i64 t228] 27 (0, 0)) (by (with_reducible repeat (first | refine blk_drewN ?_ _ | refine blk_drew ?_ | refine blk_alloc ?_ _)); exact BK230.out)) : gb235 ≠ gb230)); clear BK230; clear HB; have BK230 := n0_; have HB := n1_; have BK235 := n2_; have GW235 := n3_; have GE235 := n4_; have NB230_235 := n5_; have NB235_230 := n6_; clear n0_ n1_ n2_ n3_ n4_ n5_ n6_; clear hb hbox hg; have hnb20 := NB235_230.out; have hnc20 := NB230_235.out; have hcz21_0 : w19.cell? ⟨gb235, 0, none⟩ = some (.int .i64 0) := (blk_cell BK235.out 0).trans rfl; have hcz21_1 : w19.cell? ⟨gb235, 1, none⟩ = some (.int .i64 0) := (blk_cell BK235.out 1).trans rfl; have hcz21_2 : w19.cell? ⟨gb235, 2, none⟩ = some (.int .i64 0) := (blk_cell BK235.out 2).trans rfl; have hfz21_0 := blk_frozen BK235.out 0; have hfz21_1 := blk_frozen BK235.out 1; have hfz21_2 := blk_frozen BK235.out 2))
        (try simp only [Act.put, List.setIfInBounds_toArray, List.set_cons_zero, List.set_cons_succ])
        go_cut [46] (fun v46 wc => ∃ (kq : Nat) (x46_13 : Bool), v46 = .bool x46_13 ∧ Aside0 (kinkeeplaw21_CalendarNext.j1 kq a0 x46_13 t226 t227 t228 t231 t232 t233 = some r) ∧ Aside0 (kq ≤ kj1) ∧ Aside0 (wc.heap[gb230]? = some (.cells #[.int .i64 t226, .int .i64 t227, .int .i64 t228] 27 (0, 0))) ∧ Aside0 (wc.heap[gb235]? = some (.cells #[.int .i64 t231, .int .i64 t232, .int .i64 t233] 27 (0, 0))) ∧ Aside0 (Below w.heap.size w wc))
        case first =>
          have H := HC14.out
          clear HC14
          by_cases c22 : t229 = 0
          · rw [if_pos c22] at H
            have c22b0 : (t229 == 0) = true := beq_iff_eq.mpr c22
            have c22b1 : (t229 != 0) = false := bne_eq_false_iff_eq.mpr c22
            clear c22
            (first | rw [c22b0] | (simp only [i64_w, i32_w]; rw [c22b0]) | skip)
            by_cases c23 : t234 = 0
            · rw [if_pos c23] at H
              have c23b0 : (t234 == 0) = true := beq_iff_eq.mpr c23
              have c23b1 : (t234 != 0) = false := bne_eq_false_iff_eq.mpr c23
              clear c23
              replace H := Option.bind_eq_some_iff.mp H
              obtain ⟨t236, A240, H⟩ := H
              replace H : ((calendar_Weekday.f a0).bind fun t237 => (kinkeeplaw21_CalendarNext.j1 kj1 a0 (t236 != (Int.tmod (wrap64 (t237 + 1)) 7)) t226 t227 t228 t231 t232 t233)) = some r := H
              have A24 := Aside0.mk A240
              clear A240
              replace H := Option.bind_eq_some_iff.mp H
              obtain ⟨t237, A250, H⟩ := H
              replace H : (kinkeeplaw21_CalendarNext.j1 kj1 a0 (t236 != (Int.tmod (wrap64 (t237 + 1)) 7)) t226 t227 t228 t231 t232 t233) = some r := H
              have A25 := Aside0.mk A250
              clear A250
              have H' := Aside0.mk H
              clear H
              go_wp2_with (first | (go_at_call 21; (with_reducible refine (calendar_Weekday.calls (wrap64 (a0 + 1)) t236 _ A24.out).mono ?_); rintro e w' ⟨rfl, ⟨nd, rfl⟩⟩) | (go_at_call 21; (with_reducible refine (calendar_Weekday.calls a0 t237 _ A25.out).mono ?_); rintro e w' ⟨rfl, ⟨nd, rfl⟩⟩))
              go_meet
              case rel => exact ⟨_, ((t236 != (Int.tmod (wrap64 (t237 + 1)) 7))), (by first | rfl | (simp; done) | (simp [*]; done)), H', ⟨by have := HJ1.out; first | omega | exact Nat.le_refl _⟩, ⟨by (with_reducible repeat (first | refine blk_drewN ?_ _ | refine blk_drew ?_ | refine blk_alloc ?_ _)); refine blk_far ?_ NB230_235.out _; (with_reducible repeat (first | refine blk_drewN ?_ _ | refine blk_drew ?_ | refine blk_alloc ?_ _)); refine blk_far ?_ NB230_235.out _; (with_reducible repeat (first | refine blk_drewN ?_ _ | refine blk_drew ?_ | refine blk_alloc ?_ _)); refine blk_far ?_ NB230_235.out _; (with_reducible repeat (first | refine blk_drewN ?_ _ | refine blk_drew ?_ | refine blk_alloc ?_ _)); exact BK230.out⟩, ⟨by (with_reducible repeat (first | refine blk_drewN ?_ _ | refine blk_drew ?_ | refine blk_alloc ?_ _)); refine blk_put (cs := #[.int .i64 t231, .int .i64 t232, .int .i64 0]) ?_ 2 _ rfl; (with_reducible repeat (first | refine blk_drewN ?_ _ | refine blk_drew ?_ | refine blk_alloc ?_ _)); refine blk_put (cs := #[.int .i64 t231, .int .i64 0, .int .i64 0]) ?_ 1 _ rfl; (with_reducible repeat (first | refine blk_drewN ?_ _ | refine blk_drew ?_ | refine blk_alloc ?_ _)); refine blk_put (cs := #[.int .i64 0, .int .i64 0, .int .i64 0]) ?_ 0 _ rfl; (with_reducible repeat (first | refine blk_drewN ?_ _ | refine blk_drew ?_ | refine blk_alloc ?_ _)); exact BK235.out⟩, ⟨by repeat (first | (with_reducible first | exact HB.out | apply below_alloc | apply pw_below_drewN | apply below_drew1 | refine below_set ?_ GE230.out | refine below_set ?_ GE235.out) | exact HB.out)⟩⟩
            · rw [if_neg c23] at H
              have c23b0 : (t234 == 0) = false := beq_eq_false_iff_ne.mpr c23
              have c23b1 : (t234 != 0) = true := bne_iff_ne.mpr c23
              have H' := Aside0.mk H
              clear H
              go_wp2
              go_meet
              case rel => exact ⟨_, (true), (by first | rfl | (simp; done) | (simp [*]; done)), H', ⟨by have := HJ1.out; first | omega | exact Nat.le_refl _⟩, ⟨by (with_reducible repeat (first | refine blk_drewN ?_ _ | refine blk_drew ?_ | refine blk_alloc ?_ _)); refine blk_far ?_ NB230_235.out _; (with_reducible repeat (first | refine blk_drewN ?_ _ | refine blk_drew ?_ | refine blk_alloc ?_ _)); refine blk_far ?_ NB230_235.out _; (with_reducible repeat (first | refine blk_drewN ?_ _ | refine blk_drew ?_ | refine blk_alloc ?_ _)); refine blk_far ?_ NB230_235.out _; (with_reducible repeat (first | refine blk_drewN ?_ _ | refine blk_drew ?_ | refine blk_alloc ?_ _)); exact BK230.out⟩, ⟨by (with_reducible repeat (first | refine blk_drewN ?_ _ | refine blk_drew ?_ | refine blk_alloc ?_ _)); refine blk_put (cs := #[.int .i64 t231, .int .i64 t232, .int .i64 0]) ?_ 2 _ rfl; (with_reducible repeat (first | refine blk_drewN ?_ _ | refine blk_drew ?_ | refine blk_alloc ?_ _)); refine blk_put (cs := #[.int .i64 t231, .int .i64 0, .int .i64 0]) ?_ 1 _ rfl; (with_reducible repeat (first | refine blk_drewN ?_ _ | refine blk_drew ?_ | refine blk_alloc ?_ _)); refine blk_put (cs := #[.int .i64 0, .int .i64 0, .int .i64 0]) ?_ 0 _ rfl; (with_reducible repeat (first | refine blk_drewN ?_ _ | refine blk_drew ?_ | refine blk_alloc ?_ _)); exact BK235.out⟩, ⟨by repeat (first | (with_reducible first | exact HB.out | apply below_alloc | apply pw_below_drewN | apply below_drew1 | refine below_set ?_ GE230.out | refine below_set ?_ GE235.out) | exact HB.out)⟩⟩
          · rw [if_neg c22] at H
            have c22b0 : (t229 == 0) = false := beq_eq_false_iff_ne.mpr c22
            have c22b1 : (t229 != 0) = true := bne_iff_ne.mpr c22
            (first | rw [c22b0] | (simp only [i64_w, i32_w]; rw [c22b0]) | skip)
            have H' := Aside0.mk H
            clear H
            go_wp2
            go_meet
            case rel => exact ⟨_, (true), (by first | rfl | (simp; done) | (simp [*]; done)), H', ⟨by have := HJ1.out; first | omega | exact Nat.le_refl _⟩, ⟨by (with_reducible repeat (first | refine blk_drewN ?_ _ | refine blk_drew ?_ | refine blk_alloc ?_ _)); refine blk_far ?_ NB230_235.out _; (with_reducible repeat (first | refine blk_drewN ?_ _ | refine blk_drew ?_ | refine blk_alloc ?_ _)); refine blk_far ?_ NB230_235.out _; (with_reducible repeat (first | refine blk_drewN ?_ _ | refine blk_drew ?_ | refine blk_alloc ?_ _)); refine blk_far ?_ NB230_235.out _; (with_reducible repeat (first | refine blk_drewN ?_ _ | refine blk_drew ?_ | refine blk_alloc ?_ _)); exact BK230.out⟩, ⟨by (with_reducible repeat (first | refine blk_drewN ?_ _ | refine blk_drew ?_ | refine blk_alloc ?_ _)); refine blk_put (cs := #[.int .i64 t231, .int .i64 t232, .int .i64 0]) ?_ 2 _ rfl; (with_reducible repeat (first | refine blk_drewN ?_ _ | refine blk_drew ?_ | refine blk_alloc ?_ _)); refine blk_put (cs := #[.int .i64 t231, .int .i64 0, .int .i64 0]) ?_ 1 _ rfl; (with_reducible repeat (first | refine blk_drewN ?_ _ | refine blk_drew ?_ | refine blk_alloc ?_ _)); refine blk_put (cs := #[.int .i64 0, .int .i64 0, .int .i64 0]) ?_ 0 _ rfl; (with_reducible repeat (first | refine blk_drewN ?_ _ | refine blk_drew ?_ | refine blk_alloc ?_ _)); exact BK235.out⟩, ⟨by repeat (first | (with_reducible first | exact HB.out | apply below_alloc | apply pw_below_drewN | apply below_drew1 | refine below_set ?_ GE230.out | refine below_set ?_ GE235.out) | exact HB.out)⟩⟩
        case rest =>
          clear HC14
          try clear c1
          try clear c2
          try clear p2
          try clear c4
          try clear c5
          try clear c5b0
          try clear p6
          try clear c7
          try clear c9
          try clear c12
          try clear c17
          try clear c20
          try clear c22
          try clear c22b0
          try clear c22b1
          try clear c23
          try clear c23b0
          try clear c23b1
          try clear hcz17_0
          try clear hcz17_1
          try clear hcz17_2
          try clear hcz21_0
          try clear hcz21_1
          try clear hcz21_2
          try clear hfz17_0
          try clear hfz17_1
          try clear hfz17_2
          try clear hfz21_0
          try clear hfz21_1
          try clear hfz21_2
          try clear p2
          obtain ⟨kq, x46_13, rfl, HA, HJ13, BK230, BK235, HB⟩ := hcut
          cases kq with
          | zero => exact absurd HA.out (by simp [kinkeeplaw21_CalendarNext.j1])
          | succ kj13 =>
            have H := HA.out
            clear HA
            simp only [kinkeeplaw21_CalendarNext.j1] at H
            by_cases c26 : x46_13 = true
            · subst c26
              have H1 : (some false) = some r := by rw [if_pos rfl] at H; exact H
              clear H
              have H := H1
              clear H1
              obtain rfl := Option.some.inj H
              go_wp2
              go_ret
              exact ⟨by first | rfl | (simp [errW_none, errW_some] <;> rfl) | (simp [*, errW_none, errW_some] <;> rfl), by repeat (first | (with_reducible first | exact HB.out | apply below_alloc | apply pw_below_drewN | apply below_drew1 | refine below_set ?_ GE230.out | refine below_set ?_ GE235.out) | exact HB.out)⟩
            · replace c26 := Bool.eq_false_iff.mpr c26
              subst c26
              have H1 : ((calendar_Weekday.f (wrap64 (a0 + 1))).bind fun t238 => (if t238 = 0 then (kinkeeplaw21_CalendarNext.j2 kj13 a0 1 t226 t227 t228 t231 t232 t233) else (kinkeeplaw21_CalendarNext.j2 kj13 a0 0 t226 t227 t228 t231 t232 t233))) = some r := by rw [if_neg (show ¬ (false = true) by decide)] at H; exact H
              clear H
              have H := H1
              clear H1
              replace H := Option.bind_eq_some_iff.mp H
              obtain ⟨t238, A270, H⟩ := H
              replace H : (if t238 = 0 then (kinkeeplaw21_CalendarNext.j2 kj13 a0 1 t226 t227 t228 t231 t232 t233) else (kinkeeplaw21_CalendarNext.j2 kj13 a0 0 t226 t227 t228 t231 t232 t233)) = some r := H
              have A27 := Aside0.mk A270
              clear A270
              have HC28 := Aside0.mk H
              clear H
              go_upto_if 50 with (first | ((with_reducible refine gate_callee (f := 21) rfl ?_); refine goesL_ (some 49) rfl rfl Tryd.func21 (by kernel_rfl) rfl #[.int .i64 (wrap64 (a0 + 1))] rfl (by (try simp only [List.map_toArray, List.map_cons, List.map_nil]); first | done | rfl | (simp only [List.length_drop, List.length_take]; rfl)) ?_; (with_reducible refine (calendar_Weekday.calls (wrap64 (a0 + 1)) t238 _ A27.out).mono ?_); rintro e w' ⟨rfl, ⟨nd, rfl⟩⟩; refine ⟨_, rfl, ?_⟩))
              (try simp only [Act.put, List.setIfInBounds_toArray, List.set_cons_zero, List.set_cons_succ])
              go_cut [7] (fun v7 wc => ∃ (kq : Nat) (x7_27 : Int), v7 = .int .i64 x7_27 ∧ Aside0 (kinkeeplaw21_CalendarNext.j2 kq a0 x7_27 t226 t227 t228 t231 t232 t233 = some r) ∧ Aside0 (kq ≤ kj13) ∧ Aside0 (wc.heap[gb230]? = some (.cells #[.int .i64 t226, .int .i64 t227, .int .i64 t228] 27 (0, 0))) ∧ Aside0 (wc.heap[gb235]? = some (.cells #[.int .i64 t231, .int .i64 t232, .int .i64 t233] 27 (0, 0))) ∧ Aside0 (Below w.heap.size w wc))
              case first =>
                have H := HC28.out
                clear HC28
                by_cases c29 : t238 = 0
                · rw [if_pos c29] at H
                  have c29b0 : (t238 == 0) = true := beq_iff_eq.mpr c29
                  have c29b1 : (t238 != 0) = false := bne_eq_false_iff_eq.mpr c29
                  clear c29
                  (first | rw [c29b0] | (simp only [i64_w, i32_w]; rw [c29b0]) | skip)
                  have H' := Aside0.mk H
                  clear H
                  go_wp2
                  go_meet
                  case rel => exact ⟨_, (1), (by first | rfl | (simp; done) | (simp [*]; done)), H', ⟨by have := HJ1.out; have := HJ13.out; first | omega | exact Nat.le_refl _⟩, ⟨by (with_reducible repeat (first | refine blk_drewN ?_ _ | refine blk_drew ?_ | refine blk_alloc ?_ _)); exact BK230.out⟩, ⟨by (with_reducible repeat (first | refine blk_drewN ?_ _ | refine blk_drew ?_ | refine blk_alloc ?_ _)); exact BK235.out⟩, ⟨by repeat (first | (with_reducible first | exact HB.out | apply below_alloc | apply pw_below_drewN | apply below_drew1 | refine below_set ?_ GE230.out | refine below_set ?_ GE235.out) | exact HB.out)⟩⟩
                · rw [if_neg c29] at H
                  have c29b0 : (t238 == 0) = false := beq_eq_false_iff_ne.mpr c29
                  have c29b1 : (t238 != 0) = true := bne_iff_ne.mpr c29
                  (first | rw [c29b0] | (simp only [i64_w, i32_w]; rw [c29b0]) | skip)
                  have H' := Aside0.mk H
                  clear H
                  go_wp2
                  go_meet
                  case rel => exact ⟨_, (0), (by first | rfl | (simp; done) | (simp [*]; done)), H', ⟨by have := HJ1.out; have := HJ13.out; first | omega | exact Nat.le_refl _⟩, ⟨by (with_reducible repeat (first | refine blk_drewN ?_ _ | refine blk_drew ?_ | refine blk_alloc ?_ _)); exact BK230.out⟩, ⟨by (with_reducible repeat (first | refine blk_drewN ?_ _ | refine blk_drew ?_ | refine blk_alloc ?_ _)); exact BK235.out⟩, ⟨by repeat (first | (with_reducible first | exact HB.out | apply below_alloc | apply pw_below_drewN | apply below_drew1 | refine below_set ?_ GE230.out | refine below_set ?_ GE235.out) | exact HB.out)⟩⟩
              case rest =>
                clear HC28
                try clear c1
                try clear c2
                try clear p2
                try clear c4
                try clear c5
                try clear c5b0
                try clear p6
                try clear c7
                try clear c9
                try clear c12
                try clear c17
                try clear c20
                try clear c21
                try clear c22
                try clear c22b0
                try clear c22b1
                try clear c23
                try clear c23b0
                try clear c23b1
                try clear c26
                try clear c29
                try clear c29b0
                try clear c29b1
                try clear hcz17_0
                try clear hcz17_1
                try clear hcz17_2
                try clear hcz21_0
                try clear hcz21_1
                try clear hcz21_2
                try clear hfz17_0
                try clear hfz17_1
                try clear hfz17_2
                try clear hfz21_0
                try clear hfz21_1
                try clear hfz21_2
                try clear p2
                try clear p6
                obtain ⟨kq, x7_27, rfl, HA, HJ27, BK230, BK235, HB⟩ := hcut
                cases kq with
                | zero => exact absurd HA.out (by simp [kinkeeplaw21_CalendarNext.j2])
                | succ kj27 =>
                  have H := HA.out
                  clear HA
                  simp only [kinkeeplaw21_CalendarNext.j2] at H
                  replace H := Option.bind_eq_some_iff.mp H
                  obtain ⟨t239, A300, H⟩ := H
                  replace H : (if t228 = t239 then (kinkeeplaw21_CalendarNext.j3 kj27 a0 x7_27 1 t226 t227 t228 t231 t232 t233) else (kinkeeplaw21_CalendarNext.j3 kj27 a0 x7_27 0 t226 t227 t228 t231 t232 t233)) = some r := H
                  have A30 := Aside0.mk A300
                  clear A300
                  have HC31 := Aside0.mk H
                  clear H
                  try go_wp2
                  have n0_ := Aside0.mk (blk_drew BK230.out)
                  have n1_ := Aside0.mk (blk_drew BK235.out)
                  have n2_ := Aside0.mk (below_drew1 HB.out)
                  clear BK230
                  clear BK235
                  clear HB
                  have BK230 := n0_
                  have BK235 := n1_
                  have HB := n2_
                  clear n0_ n1_ n2_
                  refine start_ (n := 8) (S := fun w' => w'.cell? ⟨gb230, 0, none⟩ = some (.int .i64 t226) ∧ w'.cell? ⟨gb230, 1, none⟩ = some (.int .i64 t227) ∧ w'.cell? ⟨gb230, 2, none⟩ = some (.int .i64 t228)) (ds := []) #[false, false, false, false, false, false, false, false] (by kernel_rfl) rfl rfl ⟨(blk_cell BK230.out 0).trans rfl, (blk_cell BK230.out 1).trans rfl, (blk_cell BK230.out 2).trans rfl⟩ (fun hHeld => ?_); refine with_tabW kinkeeplaw21_CalendarNext.tab11 kinkeeplaw21_CalendarNext.bits11 (fun HT_ HW_ => ?_)
                  generalize wc.drew = w32 at BK230 BK235 HB hHeld ⊢
                  refine pure_ (i := 0) (N := some 51) (v := ?_) (a' := ?_) #[true, false, false, false, false, false, false, false] rfl rfl (any_of HT_.out (by kernel_rfl)) (fun _ _ _ h => h) (Or.inl ⟨by rfl, ?_⟩) ?_ ?_
                  rotate_left
                  · intro w'
                    go_simp
                    with_reducible rfl
                  rotate_left
                  · simp only [Act.put, List.setIfInBounds_toArray, List.set_cons_zero, List.set_cons_succ, i64_w, i32_w]
                    rfl
                  refine pure_ (i := 2) (N := some 53) (v := ?_) (a' := ?_) #[true, false, true, false, false, false, false, false] rfl rfl (any_of HT_.out (by kernel_rfl)) (fun _ _ _ h => h) (Or.inl ⟨by rfl, ?_⟩) ?_ ?_
                  rotate_left
                  · intro w'
                    go_simp
                    with_reducible rfl
                  rotate_left
                  · simp only [Act.put, List.setIfInBounds_toArray, List.set_cons_zero, List.set_cons_succ, i64_w, i32_w]
                    rfl
                  refine pure_ (i := 4) (N := some 55) (v := ?_) (a' := ?_) #[true, false, true, false, true, false, false, false] rfl rfl (any_of HT_.out (by kernel_rfl)) (fun _ _ _ h => h) (Or.inl ⟨by rfl, ?_⟩) ?_ ?_
                  rotate_left
                  · intro w'
                    go_simp
                    with_reducible rfl
                  rotate_left
                  · simp only [Act.put, List.setIfInBounds_toArray, List.set_cons_zero, List.set_cons_succ, i64_w, i32_w]
                    rfl
                  refine take_ (i := 1) (N := some 52) (v := ?_) (a' := ?_) #[true, true, true, false, true, false, false, false] rfl rfl (take_ofW HT_.out HW_.out (by kernel_rfl)) (fun _ _ _ h => h) (Or.inl ⟨by rfl, ?_⟩) hHeld ?_ ?_
                  rotate_left
                  · rintro w' ⟨s0, s1, s2⟩
                    go_simp
                    with_reducible rfl
                  rotate_left
                  · simp only [Act.put, List.setIfInBounds_toArray, List.set_cons_zero, List.set_cons_succ, i64_w, i32_w]
                    rfl
                  refine take_ (i := 3) (N := some 54) (v := ?_) (a' := ?_) #[true, true, true, true, true, false, false, false] rfl rfl (take_ofW HT_.out HW_.out (by kernel_rfl)) (fun _ _ _ h => h) (Or.inl ⟨by rfl, ?_⟩) hHeld ?_ ?_
                  rotate_left
                  · rintro w' ⟨s0, s1, s2⟩
                    go_simp
                    with_reducible rfl
                  rotate_left
                  · simp only [Act.put, List.setIfInBounds_toArray, List.set_cons_zero, List.set_cons_succ, i64_w, i32_w]
                    rfl
                  refine take_ (i := 5) (N := some 56) (v := ?_) (a' := ?_) #[true, true, true, true, true, true, false, false] rfl rfl (take_ofW HT_.out HW_.out (by kernel_rfl)) (fun _ _ _ h => h) (Or.inl ⟨by rfl, ?_⟩) hHeld ?_ ?_
                  rotate_left
                  · rintro w' ⟨s0, s1, s2⟩
                    go_simp
                    with_reducible rfl
                  rotate_left
                  · simp only [Act.put, List.setIfInBounds_toArray, List.set_cons_zero, List.set_cons_succ, i64_w, i32_w]
                    rfl
                  refine one_ (i := 6) (N := some 57) #[true, true, true, true, true, true, true, false] rfl rfl (one_of HT_.out (by kernel_rfl)) (by decide) (fun K hK => ?_)
                  refine goes_ Tryd.func15 (by kernel_rfl) rfl #[.int .i64 t226, .int .i64 t227] (by rfl) rfl rfl (by (try simp only [List.map_toArray, List.map_cons, List.map_nil]); first | done | rfl | (simp only [List.length_drop, List.length_take]; rfl)) ?_
                  with_reducible refine (calendar_Days.calls t226 t227 t239 _ A30.out).mono ?_
                  rintro e w33 ⟨rfl, hb⟩
                  refine ⟨_, rfl, ?_⟩
                  have n0_ := Aside0.mk (blk_below (g := gb230) (o := .cells #[.int .i64 t226, .int .i64 t227, .int .i64 t228] 27 (0, 0)) (by (with_reducible repeat (first | refine blk_drewN ?_ _ | refine blk_drew ?_ | refine blk_alloc ?_ _)); exact BK230.out) hb)
                  have n1_ := Aside0.mk (blk_below (g := gb235) (o := .cells #[.int .i64 t231, .int .i64 t232, .int .i64 t233] 27 (0, 0)) (by (with_reducible repeat (first | refine blk_drewN ?_ _ | refine blk_drew ?_ | refine blk_alloc ?_ _)); exact BK235.out) hb)
                  have n2_ := Aside0.mk (below_step (by repeat (first | (with_reducible first | exact HB.out | apply below_alloc | apply pw_below_drewN | apply below_drew1 | refine below_set ?_ GE230.out | refine below_set ?_ GE235.out) | exact HB.out)) hb)
                  clear BK230
                  clear BK235
                  clear HB
                  have BK230 := n0_
                  have BK235 := n1_
                  have HB := n2_
                  clear n0_ n1_ n2_
                  (try clear hb)
                  (try clear hb2)
                  (try clear hk)
                  (try clear hi)
                  refine hK.out _ _ ⟨(blk_cell BK230.out 0).trans rfl, (blk_cell BK230.out 1).trans rfl, (blk_cell BK230.out 2).trans rfl⟩ (fun hHeld => ?_)
                  clear hK K
                  refine norm_ (a' := ?_) ?_ ?_
                  rotate_left
                  · show Act.put _ (some 57) _ = _
                    simp only [Act.put, List.setIfInBounds_toArray, List.set_cons_zero, List.set_cons_succ, i64_w, i32_w]
                    rfl
                  refine pure_ (i := 7) (N := some 58) (v := ?_) (a' := ?_) #[true, true, true, true, true, true, true, true] rfl rfl (any_of HT_.out (by kernel_rfl)) (fun _ _ _ h => h) (Or.inl ⟨by rfl, ?_⟩) ?_ ?_
                  rotate_left
                  · intro w'
                    go_simp
                    with_reducible rfl
                  rotate_left
                  · simp only [Act.put, List.setIfInBounds_toArray, List.set_cons_zero, List.set_cons_succ, i64_w, i32_w]
                    rfl
                  refine done_ (done_of HT_.out (by kernel_rfl)) ?_
                  go_upto_if 58 with (fail)
                  go_cut [8] (fun v8 wc => ∃ (kq : Nat) (x8_30 : Int), v8 = .int .i64 x8_30 ∧ Aside0 (kinkeeplaw21_CalendarNext.j3 kq a0 x7_27 x8_30 t226 t227 t228 t231 t232 t233 = some r) ∧ Aside0 (kq ≤ kj27) ∧ Aside0 (wc.heap[gb230]? = some (.cells #[.int .i64 t226, .int .i64 t227, .int .i64 t228] 27 (0, 0))) ∧ Aside0 (wc.heap[gb235]? = some (.cells #[.int .i64 t231, .int .i64 t232, .int .i64 t233] 27 (0, 0))) ∧ Aside0 (Below w.heap.size w wc))
                  case first =>
                    have H := HC31.out
                    clear HC31
                    by_cases c34 : t228 = t239
                    · rw [if_pos c34] at H
                      have c34b0 : (t228 == t239) = true := beq_iff_eq.mpr c34
                      have c34b1 : (t228 != t239) = false := bne_eq_false_iff_eq.mpr c34
                      clear c34
                      (first | rw [c34b0] | (simp only [i64_w, i32_w]; rw [c34b0]) | skip)
                      have H' := Aside0.mk H
                      clear H
                      go_wp2
                      go_meet
                      case rel => exact ⟨_, (1), (by first | rfl | (simp; done) | (simp [*]; done)), H', ⟨by have := HJ1.out; have := HJ13.out; have := HJ27.out; first | omega | exact Nat.le_refl _⟩, ⟨by (with_reducible repeat (first | refine blk_drewN ?_ _ | refine blk_drew ?_ | refine blk_alloc ?_ _)); exact BK230.out⟩, ⟨by (with_reducible repeat (first | refine blk_drewN ?_ _ | refine blk_drew ?_ | refine blk_alloc ?_ _)); exact BK235.out⟩, ⟨by repeat (first | (with_reducible first | exact HB.out | apply below_alloc | apply pw_below_drewN | apply below_drew1 | refine below_set ?_ GE230.out | refine below_set ?_ GE235.out) | exact HB.out)⟩⟩
                    · rw [if_neg c34] at H
                      have c34b0 : (t228 == t239) = false := beq_eq_false_iff_ne.mpr c34
                      have c34b1 : (t228 != t239) = true := bne_iff_ne.mpr c34
                      (first | rw [c34b0] | (simp only [i64_w, i32_w]; rw [c34b0]) | skip)
                      have H' := Aside0.mk H
                      clear H
                      go_wp2
                      go_meet
                      case rel => exact ⟨_, (0), (by first | rfl | (simp; done) | (simp [*]; done)), H', ⟨by have := HJ1.out; have := HJ13.out; have := HJ27.out; first | omega | exact Nat.le_refl _⟩, ⟨by (with_reducible repeat (first | refine blk_drewN ?_ _ | refine blk_drew ?_ | refine blk_alloc ?_ _)); exact BK230.out⟩, ⟨by (with_reducible repeat (first | refine blk_drewN ?_ _ | refine blk_drew ?_ | refine blk_alloc ?_ _)); exact BK235.out⟩, ⟨by repeat (first | (with_reducible first | exact HB.out | apply below_alloc | apply pw_below_drewN | apply below_drew1 | refine below_set ?_ GE230.out | refine below_set ?_ GE235.out) | exact HB.out)⟩⟩
                  case rest =>
                    clear HC31
                    try clear c1
                    try clear c2
                    try clear p2
                    try clear c3
                    try clear c4
                    try clear c5
                    try clear c5b0
                    try clear p6
                    try clear c7
                    try clear c9
                    try clear c12
                    try clear c15
                    try clear c17
                    try clear c20
                    try clear c21
                    try clear c22
                    try clear c22b0
                    try clear c22b1
                    try clear c23
                    try clear c23b0
                    try clear c23b1
                    try clear c26
                    try clear c29
                    try clear c29b0
                    try clear c29b1
                    try clear c34
                    try clear c34b0
                    try clear c34b1
                    try clear hcz17_0
                    try clear hcz17_1
                    try clear hcz17_2
                    try clear hcz21_0
                    try clear hcz21_1
                    try clear hcz21_2
                    try clear hfz17_0
                    try clear hfz17_1
                    try clear hfz17_2
                    try clear hfz21_0
                    try clear hfz21_1
                    try clear hfz21_2
                    try clear p2
                    try clear p6
                    obtain ⟨kq, x8_30, rfl, HA, HJ30, BK230, BK235, HB⟩ := hcut
                    cases kq with
                    | zero => exact absurd HA.out (by simp [kinkeeplaw21_CalendarNext.j3])
                    | succ kj30 =>
                      have H := HA.out
                      clear HA
                      simp only [kinkeeplaw21_CalendarNext.j3] at H
                      have HC35 := Aside0.mk H
                      clear H
                      go_upto_region 13 with (fail)
                      go_cut [76] (fun v76 wc => ∃ (kq : Nat) (x76_34 : Bool), v76 = .bool x76_34 ∧ Aside0 (kinkeeplaw21_CalendarNext.j4 kq x8_30 x76_34 t226 t227 t228 t231 t232 t233 = some r) ∧ Aside0 (kq ≤ kj30) ∧ Aside0 (wc.heap[gb230]? = some (.cells #[.int .i64 t226, .int .i64 t227, .int .i64 t228] 27 (0, 0))) ∧ Aside0 (wc.heap[gb235]? = some (.cells #[.int .i64 t231, .int .i64 t232, .int .i64 t233] 27 (0, 0))) ∧ Aside0 (Below w.heap.size w wc))
                      case first =>
                        have H := HC35.out
                        clear HC35
                        replace H := Option.bind_eq_some_iff.mp H
                        obtain ⟨t240, A360, H⟩ := H
                        replace H : ((calendar_Week.f a0).bind fun t241 => (if t240 = (wrap64 (t241 + x7_27)) then ((calendar_Month.f kj30 (wrap64 (a0 + 1))).bind fun t242 => ((calendar_Month.f kj30 a0).bind fun t243 => (kinkeeplaw21_CalendarNext.j4 kj30 x8_30 (t242 != (wrap64 (t243 + x8_30))) t226 t227 t228 t231 t232 t233))) else (kinkeeplaw21_CalendarNext.j4 kj30 x8_30 true t226 t227 t228 t231 t232 t233))) = some r := H
                        have A36 := Aside0.mk A360
                        clear A360
                        replace H := Option.bind_eq_some_iff.mp H
                        obtain ⟨t241, A370, H⟩ := H
                        replace H : (if t240 = (wrap64 (t241 + x7_27)) then ((calendar_Month.f kj30 (wrap64 (a0 + 1))).bind fun t242 => ((calendar_Month.f kj30 a0).bind fun t243 => (kinkeeplaw21_CalendarNext.j4 kj30 x8_30 (t242 != (wrap64 (t243 + x8_30))) t226 t227 t228 t231 t232 t233))) else (kinkeeplaw21_CalendarNext.j4 kj30 x8_30 true t226 t227 t228 t231 t232 t233)) = some r := H
                        have A37 := Aside0.mk A370
                        clear A370
                        by_cases c38 : t240 = (wrap64 (t241 + x7_27))
                        · rw [if_pos c38] at H
                          have c38b0 : (t240 == (wrap64 (t241 + x7_27))) = true := beq_iff_eq.mpr c38
                          have c38b1 : (t240 != (wrap64 (t241 + x7_27))) = false := bne_eq_false_iff_eq.mpr c38
                          clear c38
                          (first | rw [c38b0] | (simp only [i64_w, i32_w]; rw [c38b0]) | skip)
                          replace H := Option.bind_eq_some_iff.mp H
                          obtain ⟨t242, A390, H⟩ := H
                          replace H : ((calendar_Month.f kj30 a0).bind fun t243 => (kinkeeplaw21_CalendarNext.j4 kj30 x8_30 (t242 != (wrap64 (t243 + x8_30))) t226 t227 t228 t231 t232 t233)) = some r := H
                          have A39 := Aside0.mk A390
                          clear A390
                          replace H := Option.bind_eq_some_iff.mp H
                          obtain ⟨t243, A400, H⟩ := H
                          replace H : (kinkeeplaw21_CalendarNext.j4 kj30 x8_30 (t242 != (wrap64 (t243 + x8_30))) t226 t227 t228 t231 t232 t233) = some r := H
                          have A40 := Aside0.mk A400
                          clear A400
                          have H' := Aside0.mk H
                          clear H
                          go_wp2_with (first | ((with_reducible refine gate_callee (f := 22) rfl ?_); refine goesL_ (some 61) rfl rfl Tryd.func22 (by kernel_rfl) rfl #[.int .i64 (wrap64 (a0 + 1))] rfl (by (try simp only [List.map_toArray, List.map_cons, List.map_nil]); first | done | rfl | (simp only [List.length_drop, List.length_take]; rfl)) ?_; (with_reducible refine (calendar_Week.calls (wrap64 (a0 + 1)) t240 _ A36.out).mono ?_); rintro e w' ⟨rfl, ⟨nd, rfl⟩⟩; refine ⟨_, rfl, ?_⟩) | ((with_reducible refine gate_callee (f := 22) rfl ?_); refine goesL_ (some 63) rfl rfl Tryd.func22 (by kernel_rfl) rfl #[.int .i64 a0] rfl (by (try simp only [List.map_toArray, List.map_cons, List.map_nil]); first | done | rfl | (simp only [List.length_drop, List.length_take]; rfl)) ?_; (with_reducible refine (calendar_Week.calls a0 t241 _ A37.out).mono ?_); rintro e w' ⟨rfl, ⟨nd, rfl⟩⟩; refine ⟨_, rfl, ?_⟩) | (go_at_call 23; (with_reducible refine (calendar_Month.calls kj30 (wrap64 (a0 + 1)) t242 _ A39.out).mono ?_); rintro e w41 ⟨rfl, hb⟩; have n0_ := Aside0.mk (blk_below (g := gb230) (o := .cells #[.int .i64 t226, .int .i64 t227, .int .i64 t228] 27 (0, 0)) (by (with_reducible repeat (first | refine blk_drewN ?_ _ | refine blk_drew ?_ | refine blk_alloc ?_ _)); exact BK230.out) hb); have n1_ := Aside0.mk (blk_below (g := gb235) (o := .cells #[.int .i64 t231, .int .i64 t232, .int .i64 t233] 27 (0, 0)) (by (with_reducible repeat (first | refine blk_drewN ?_ _ | refine blk_drew ?_ | refine blk_alloc ?_ _)); exact BK235.out) hb); have n2_ := Aside0.mk (below_step (by repeat (first | (with_reducible first | exact HB.out | apply below_alloc | apply pw_below_drewN | apply below_drew1 | refine below_set ?_ GE230.out | refine below_set ?_ GE235.out) | exact HB.out)) hb); clear BK230; clear BK235; clear HB; have BK230 := n0_; have BK235 := n1_; have HB := n2_; clear n0_ n1_ n2_; (try clear hb); (try clear hb2); (try clear hk); (try clear hi)) | (go_at_call 23; (with_reducible refine (calendar_Month.calls kj30 a0 t243 _ A40.out).mono ?_); rintro e w42 ⟨rfl, hb⟩; have n0_ := Aside0.mk (blk_below (g := gb230) (o := .cells #[.int .i64 t226, .int .i64 t227, .int .i64 t228] 27 (0, 0)) (by (with_reducible repeat (first | refine blk_drewN ?_ _ | refine blk_drew ?_ | refine blk_alloc ?_ _)); exact BK230.out) hb); have n1_ := Aside0.mk (blk_below (g := gb235) (o := .cells #[.int .i64 t231, .int .i64 t232, .int .i64 t233] 27 (0, 0)) (by (with_reducible repeat (first | refine blk_drewN ?_ _ | refine blk_drew ?_ | refine blk_alloc ?_ _)); exact BK235.out) hb); have n2_ := Aside0.mk (below_step (by repeat (first | (with_reducible first | exact HB.out | apply below_alloc | apply pw_below_drewN | apply below_drew1 | refine below_set ?_ GE230.out | refine below_set ?_ GE235.out) | exact HB.out)) hb); clear BK230; clear BK235; clear HB; have BK230 := n0_; have BK235 := n1_; have HB := n2_; clear n0_ n1_ n2_; (try clear hb); (try clear hb2); (try clear hk); (try clear hi)))
                          go_meet
                          case rel => exact ⟨_, ((t242 != (wrap64 (t243 + x8_30)))), (by first | rfl | (simp; done) | (simp [*]; done)), H', ⟨by have := HJ1.out; have := HJ13.out; have := HJ27.out; have := HJ30.out; first | omega | exact Nat.le_refl _⟩, ⟨by (with_reducible repeat (first | refine blk_drewN ?_ _ | refine blk_drew ?_ | refine blk_alloc ?_ _)); exact BK230.out⟩, ⟨by (with_reducible repeat (first | refine blk_drewN ?_ _ | refine blk_drew ?_ | refine blk_alloc ?_ _)); exact BK235.out⟩, ⟨by repeat (first | (with_reducible first | exact HB.out | apply below_alloc | apply pw_below_drewN | apply below_drew1 | refine below_set ?_ GE230.out | refine below_set ?_ GE235.out) | exact HB.out)⟩⟩
                        · rw [if_neg c38] at H
                          have c38b0 : (t240 == (wrap64 (t241 + x7_27))) = false := beq_eq_false_iff_ne.mpr c38
                          have c38b1 : (t240 != (wrap64 (t241 + x7_27))) = true := bne_iff_ne.mpr c38
                          (first | rw [c38b0] | (simp only [i64_w, i32_w]; rw [c38b0]) | skip)
                          have H' := Aside0.mk H
                          clear H
                          go_wp2_with (first | ((with_reducible refine gate_callee (f := 22) rfl ?_); refine goesL_ (some 61) rfl rfl Tryd.func22 (by kernel_rfl) rfl #[.int .i64 (wrap64 (a0 + 1))] rfl (by (try simp only [List.map_toArray, List.map_cons, List.map_nil]); first | done | rfl | (simp only [List.length_drop, List.length_take]; rfl)) ?_; (with_reducible refine (calendar_Week.calls (wrap64 (a0 + 1)) t240 _ A36.out).mono ?_); rintro e w' ⟨rfl, ⟨nd, rfl⟩⟩; refine ⟨_, rfl, ?_⟩) | ((with_reducible refine gate_callee (f := 22) rfl ?_); refine goesL_ (some 63) rfl rfl Tryd.func22 (by kernel_rfl) rfl #[.int .i64 a0] rfl (by (try simp only [List.map_toArray, List.map_cons, List.map_nil]); first | done | rfl | (simp only [List.length_drop, List.length_take]; rfl)) ?_; (with_reducible refine (calendar_Week.calls a0 t241 _ A37.out).mono ?_); rintro e w' ⟨rfl, ⟨nd, rfl⟩⟩; refine ⟨_, rfl, ?_⟩))
                          go_meet
                          case rel => exact ⟨_, (true), (by first | rfl | (simp; done) | (simp [*]; done)), H', ⟨by have := HJ1.out; have := HJ13.out; have := HJ27.out; have := HJ30.out; first | omega | exact Nat.le_refl _⟩, ⟨by (with_reducible repeat (first | refine blk_drewN ?_ _ | refine blk_drew ?_ | refine blk_alloc ?_ _)); exact BK230.out⟩, ⟨by (with_reducible repeat (first | refine blk_drewN ?_ _ | refine blk_drew ?_ | refine blk_alloc ?_ _)); exact BK235.out⟩, ⟨by repeat (first | (with_reducible first | exact HB.out | apply below_alloc | apply pw_below_drewN | apply below_drew1 | refine below_set ?_ GE230.out | refine below_set ?_ GE235.out) | exact HB.out)⟩⟩
                      case rest =>
                        clear HC35
                        try clear c1
                        try clear c2
                        try clear p2
                        try clear c3
                        try clear c4
                        try clear c5
                        try clear c5b0
                        try clear p6
                        try clear c7
                        try clear c9
                        try clear c12
                        try clear c15
                        try clear c17
                        try clear c20
                        try clear c21
                        try clear c22
                        try clear c22b0
                        try clear c22b1
                        try clear c23
                        try clear c23b0
                        try clear c23b1
                        try clear c26
                        try clear c29
                        try clear c29b0
                        try clear c29b1
                        try clear c34
                        try clear c34b0
                        try clear c34b1
                        try clear c38
                        try clear c38b0
                        try clear c38b1
                        try clear hcz17_0
                        try clear hcz17_1
                        try clear hcz17_2
                        try clear hcz21_0
                        try clear hcz21_1
                        try clear hcz21_2
                        try clear hfz17_0
                        try clear hfz17_1
                        try clear hfz17_2
                        try clear hfz21_0
                        try clear hfz21_1
                        try clear hfz21_2
                        try clear p2
                        try clear p6
                        obtain ⟨kq, x76_34, rfl, HA, HJ34, BK230, BK235, HB⟩ := hcut
                        cases kq with
                        | zero => exact absurd HA.out (by simp [kinkeeplaw21_CalendarNext.j4])
                        | succ kj34 =>
                          have H := HA.out
                          clear HA
                          simp only [kinkeeplaw21_CalendarNext.j4] at H
                          by_cases c43 : x76_34 = true
                          · subst c43
                            have H1 : (some false) = some r := by rw [if_pos rfl] at H; exact H
                            clear H
                            have H := H1
                            clear H1
                            obtain rfl := Option.some.inj H
                            go_wp2
                            go_ret
                            exact ⟨by first | rfl | (simp [errW_none, errW_some] <;> rfl) | (simp [*, errW_none, errW_some] <;> rfl), by repeat (first | (with_reducible first | exact HB.out | apply below_alloc | apply pw_below_drewN | apply below_drew1 | refine below_set ?_ GE230.out | refine below_set ?_ GE235.out) | exact HB.out)⟩
                          · replace c43 := Bool.eq_false_iff.mpr c43
                            subst c43
                            have H1 : (if x8_30 = 0 then (some (t231 == t226 && (t232 == t227 && (t233 == (wrap64 (t228 + 1)))))) else (if t233 = 1 then (if t232 = (wrap64 ((Int.tmod t227 12) + 1)) then (some (t231 == (wrap64 (t226 + (wrap64 (Int.tdiv t227 12)))))) else (some false)) else (some false))) = some r := by rw [if_neg (show ¬ (false = true) by decide)] at H; exact H
                            clear H
                            have H := H1
                            clear H1
                            by_cases c44 : x8_30 = 0
                            · rw [if_pos c44] at H
                              have c44b0 : (x8_30 == 0) = true := beq_iff_eq.mpr c44
                              have c44b1 : (x8_30 != 0) = false := bne_eq_false_iff_eq.mpr c44
                              clear c44
                              obtain rfl := Option.some.inj H
                              have hnb45 := NB235_230.out
                              have hnc45 := NB230_235.out
                              have hcz46_0 : wc.cell? ⟨gb235, 0, none⟩ = some (.int .i64 t231) := (blk_cell BK235.out 0).trans rfl
                              have hcz46_1 : wc.cell? ⟨gb235, 1, none⟩ = some (.int .i64 t232) := (blk_cell BK235.out 1).trans rfl
                              have hcz46_2 : wc.cell? ⟨gb235, 2, none⟩ = some (.int .i64 t233) := (blk_cell BK235.out 2).trans rfl
                              have hfz46_0 := blk_frozen BK235.out 0
                              have hfz46_1 := blk_frozen BK235.out 1
                              have hfz46_2 := blk_frozen BK235.out 2
                              have hcz47_0 : wc.cell? ⟨gb230, 0, none⟩ = some (.int .i64 t226) := (blk_cell BK230.out 0).trans rfl
                              have hcz47_1 : wc.cell? ⟨gb230, 1, none⟩ = some (.int .i64 t227) := (blk_cell BK230.out 1).trans rfl
                              have hcz47_2 : wc.cell? ⟨gb230, 2, none⟩ = some (.int .i64 t228) := (blk_cell BK230.out 2).trans rfl
                              have hfz47_0 := blk_frozen BK230.out 0
                              have hfz47_1 := blk_frozen BK230.out 1
                              have hfz47_2 := blk_frozen BK230.out 2
                              go_wp2
                              go_ret
                              exact ⟨by first | rfl | (simp [errW_none, errW_some] <;> rfl) | (simp [*, errW_none, errW_some] <;> rfl), by repeat (first | (with_reducible first | exact HB.out | apply below_alloc | apply pw_below_drewN | apply below_drew1 | refine below_set ?_ GE230.out | refine below_set ?_ GE235.out) | exact HB.out)⟩
                            · rw [if_neg c44] at H
                              have c44b0 : (x8_30 == 0) = false := beq_eq_false_iff_ne.mpr c44
                              have c44b1 : (x8_30 != 0) = true := bne_iff_ne.mpr c44
                              by_cases c48 : t233 = 1
                              · rw [if_pos c48] at H
                                have c48b0 : (t233 == 1) = true := beq_iff_eq.mpr c48
                                have c48b1 : (t233 != 1) = false := bne_eq_false_iff_eq.mpr c48
                                clear c48
                                by_cases c49 : t232 = (wrap64 ((Int.tmod t227 12) + 1))
                                · rw [if_pos c49] at H
                                  have c49b0 : (t232 == (wrap64 ((Int.tmod t227 12) + 1))) = true := beq_iff_eq.mpr c49
                                  have c49b1 : (t232 != (wrap64 ((Int.tmod t227 12) + 1))) = false := bne_eq_false_iff_eq.mpr c49
                                  clear c49
                                  obtain rfl := Option.some.inj H
                                  have hnb50 := NB235_230.out
                                  have hnc50 := NB230_235.out
                                  have hcz51_0 : wc.cell? ⟨gb235, 0, none⟩ = some (.int .i64 t231) := (blk_cell BK235.out 0).trans rfl
                                  have hcz51_1 : wc.cell? ⟨gb235, 1, none⟩ = some (.int .i64 t232) := (blk_cell BK235.out 1).trans rfl
                                  have hcz51_2 : wc.cell? ⟨gb235, 2, none⟩ = some (.int .i64 t233) := (blk_cell BK235.out 2).trans rfl
                                  have hfz51_0 := blk_frozen BK235.out 0
                                  have hfz51_1 := blk_frozen BK235.out 1
                                  have hfz51_2 := blk_frozen BK235.out 2
                                  have hcz52_0 : wc.cell? ⟨gb230, 0, none⟩ = some (.int .i64 t226) := (blk_cell BK230.out 0).trans rfl
                                  have hcz52_1 : wc.cell? ⟨gb230, 1, none⟩ = some (.int .i64 t227) := (blk_cell BK230.out 1).trans rfl
                                  have hcz52_2 : wc.cell? ⟨gb230, 2, none⟩ = some (.int .i64 t228) := (blk_cell BK230.out 2).trans rfl
                                  have hfz52_0 := blk_frozen BK230.out 0
                                  have hfz52_1 := blk_frozen BK230.out 1
                                  have hfz52_2 := blk_frozen BK230.out 2
                                  go_wp2
                                  go_ret
                                  exact ⟨by first | rfl | (simp [errW_none, errW_some] <;> rfl) | (simp [*, errW_none, errW_some] <;> rfl), by repeat (first | (with_reducible first | exact HB.out | apply below_alloc | apply pw_below_drewN | apply below_drew1 | refine below_set ?_ GE230.out | refine below_set ?_ GE235.out) | exact HB.out)⟩
                                · rw [if_neg c49] at H
                                  have c49b0 : (t232 == (wrap64 ((Int.tmod t227 12) + 1))) = false := beq_eq_false_iff_ne.mpr c49
                                  have c49b1 : (t232 != (wrap64 ((Int.tmod t227 12) + 1))) = true := bne_iff_ne.mpr c49
                                  obtain rfl := Option.some.inj H
                                  have hnb53 := NB235_230.out
                                  have hnc53 := NB230_235.out
                                  have hcz54_0 : wc.cell? ⟨gb235, 0, none⟩ = some (.int .i64 t231) := (blk_cell BK235.out 0).trans rfl
                                  have hcz54_1 : wc.cell? ⟨gb235, 1, none⟩ = some (.int .i64 t232) := (blk_cell BK235.out 1).trans rfl
                                  have hcz54_2 : wc.cell? ⟨gb235, 2, none⟩ = some (.int .i64 t233) := (blk_cell BK235.out 2).trans rfl
                                  have hfz54_0 := blk_frozen BK235.out 0
                                  have hfz54_1 := blk_frozen BK235.out 1
                                  have hfz54_2 := blk_frozen BK235.out 2
                                  have hcz55_0 : wc.cell? ⟨gb230, 0, none⟩ = some (.int .i64 t226) := (blk_cell BK230.out 0).trans rfl
                                  have hcz55_1 : wc.cell? ⟨gb230, 1, none⟩ = some (.int .i64 t227) := (blk_cell BK230.out 1).trans rfl
                                  have hcz55_2 : wc.cell? ⟨gb230, 2, none⟩ = some (.int .i64 t228) := (blk_cell BK230.out 2).trans rfl
                                  have hfz55_0 := blk_frozen BK230.out 0
                                  have hfz55_1 := blk_frozen BK230.out 1
                                  have hfz55_2 := blk_frozen BK230.out 2
                                  go_wp2
                                  go_ret
                                  exact ⟨by first | rfl | (simp [errW_none, errW_some] <;> rfl) | (simp [*, errW_none, errW_some] <;> rfl), by repeat (first | (with_reducible first | exact HB.out | apply below_alloc | apply pw_below_drewN | apply below_drew1 | refine below_set ?_ GE230.out | refine below_set ?_ GE235.out) | exact HB.out)⟩
                              · rw [if_neg c48] at H
                                have c48b0 : (t233 == 1) = false := beq_eq_false_iff_ne.mpr c48
                                have c48b1 : (t233 != 1) = true := bne_iff_ne.mpr c48
                                obtain rfl := Option.some.inj H
                                have hnb56 := NB235_230.out
                                have hnc56 := NB230_235.out
                                have hcz57_0 : wc.cell? ⟨gb235, 0, none⟩ = some (.int .i64 t231) := (blk_cell BK235.out 0).trans rfl
                                have hcz57_1 : wc.cell? ⟨gb235, 1, none⟩ = some (.int .i64 t232) := (blk_cell BK235.out 1).trans rfl
                                have hcz57_2 : wc.cell? ⟨gb235, 2, none⟩ = some (.int .i64 t233) := (blk_cell BK235.out 2).trans rfl
                                have hfz57_0 := blk_frozen BK235.out 0
                                have hfz57_1 := blk_frozen BK235.out 1
                                have hfz57_2 := blk_frozen BK235.out 2
                                go_wp2
                                go_ret
                                exact ⟨by first | rfl | (simp [errW_none, errW_some] <;> rfl) | (simp [*, errW_none, errW_some] <;> rfl), by repeat (first | (with_reducible first | exact HB.out | apply below_alloc | apply pw_below_drewN | apply below_drew1 | refine below_set ?_ GE230.out | refine below_set ?_ GE235.out) | exact HB.out)⟩

end Go.Proofs.YtjjblpcblaelgaaDoor.Q
