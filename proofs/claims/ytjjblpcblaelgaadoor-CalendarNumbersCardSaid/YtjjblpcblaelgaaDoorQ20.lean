-- PRINTED by print.py (a twelfth state) out of the translation. Not trusted: Lean checks it.
import Derived.Test.YtjjblpcblaelgaaDoorQ0
import Derived.Test.YtjjblpcblaelgaaDoorQ2
import Derived.Test.YtjjblpcblaelgaaDoorQ4
import Derived.Test.YtjjblpcblaelgaaDoorQ6
import Derived.Test.YtjjblpcblaelgaaDoorQ14
import Derived.Test.YtjjblpcblaelgaaDoorQ19
import Derived.Test.YtjjblpcblaelgaaDoorHand
namespace Go.Proofs.YtjjblpcblaelgaaDoor.Q
open Go.Proofs.YtjjblpcblaelgaaDoor.Hand Go.RowKit Go.Proofs.YtjjblpcblaelgaaDoorW.PrintWords Go.Proofs.YtjjblpcblaelgaaDoorW.PrintLast Go.Proofs.YtjjblpcblaelgaaDoorW.PrintMore
attribute [local go_sem] max2_int min2_int max_two min_two max_three min_three max_four min_four   -- for this text's walks alone
set_option linter.unusedVariables false
set_option linter.unusedSimpArgs false

/-! ### kinkeeplaw21_CalendarNumbers: function 11 -/
def kinkeeplaw21_CalendarNumbers.f (k : Nat) (a0 : Int) : Option (Bool) := (kinkeeplaw21_awake.f k).bind fun t314 => (if t314 = true then ((calendar_Weekday.f a0).bind fun t315 => ((kinkeepref21_Weekday.f a0).bind fun t316 => (if t315 = t316 then ((calendar_Week.f a0).bind fun t317 => ((kinkeepref21_Week.f a0).bind fun t318 => (if t317 = t318 then ((calendar_Month.f k a0).bind fun t319 => ((kinkeepref21_Month.f k a0).bind fun t320 => (if t319 = t320 then ((calendar_Year.f k a0).bind fun t321 => ((kinkeepref21_Year.f k a0).bind fun t322 => (some (t321 == t322)))) else (some false)))) else (some false)))) else (some false)))) else (some false))
theorem kinkeeplaw21_CalendarNumbers.mono : ∀ a0 k, LeO (kinkeeplaw21_CalendarNumbers.f k a0) (kinkeeplaw21_CalendarNumbers.f (k + 1) a0) := by
  intro a0 k
  unfold kinkeeplaw21_CalendarNumbers.f
  repeat' first
      | (with_reducible exact calendar_Month.mono _ _)
      | (with_reducible exact calendar_Year.mono _ _)
      | (with_reducible exact kinkeeplaw21_awake.mono _)
      | (with_reducible exact kinkeepref21_Month.mono _ _)
      | (with_reducible exact kinkeepref21_Year.mono _ _)
      | (with_reducible exact LeO.refl _)
      | (with_reducible exact LeO.none _)
      | (with_reducible refine LeO.ite ?_ ?_)
      | (with_reducible refine LeO.bind ?_ (fun _ => ?_))
      | exact calendar_Month.mono _ _
      | exact calendar_Year.mono _ _
      | exact kinkeeplaw21_awake.mono _
      | exact kinkeepref21_Month.mono _ _
      | exact kinkeepref21_Year.mono _ _
      | exact LeO.none _
      | refine LeO.ite ?_ ?_
      | refine LeO.bind ?_ (fun _ => ?_)
set_option maxHeartbeats 8000000 in
set_option maxRecDepth 100000 in
theorem kinkeeplaw21_CalendarNumbers.calls (k : Nat) (a0 : Int) (r : Bool) (w : World) (hGW : GW w) (h : kinkeeplaw21_CalendarNumbers.f k a0 = some r) :
    Calls Tryd.prog 11 #[.int .i64 a0] w fun e w' => e = .returned (.bool r) ∧ Below w.heap.size w w' := by
  have HGW := Aside0.mk hGW
  clear hGW
  have HB := Aside0.mk (Below.refl w.heap.size w)
  have H : ((kinkeeplaw21_awake.f k).bind fun t314 => (if t314 = true then ((calendar_Weekday.f a0).bind fun t315 => ((kinkeepref21_Weekday.f a0).bind fun t316 => (if t315 = t316 then ((calendar_Week.f a0).bind fun t317 => ((kinkeepref21_Week.f a0).bind fun t318 => (if t317 = t318 then ((calendar_Month.f k a0).bind fun t319 => ((kinkeepref21_Month.f k a0).bind fun t320 => (if t319 = t320 then ((calendar_Year.f k a0).bind fun t321 => ((kinkeepref21_Year.f k a0).bind fun t322 => (some (t321 == t322)))) else (some false)))) else (some false)))) else (some false)))) else (some false))) = some r := h
  clear h
  replace H := Option.bind_eq_some_iff.mp H
  obtain ⟨t314, A20, H⟩ := H
  replace H : (if t314 = true then ((calendar_Weekday.f a0).bind fun t315 => ((kinkeepref21_Weekday.f a0).bind fun t316 => (if t315 = t316 then ((calendar_Week.f a0).bind fun t317 => ((kinkeepref21_Week.f a0).bind fun t318 => (if t317 = t318 then ((calendar_Month.f k a0).bind fun t319 => ((kinkeepref21_Month.f k a0).bind fun t320 => (if t319 = t320 then ((calendar_Year.f k a0).bind fun t321 => ((kinkeepref21_Year.f k a0).bind fun t322 => (some (t321 == t322)))) else (some false)))) else (some false)))) else (some false)))) else (some false)) = some r := H
  have A2 := Aside0.mk A20
  clear A20
  by_cases c3 : t314 = true
  · subst c3
    have H1 : ((calendar_Weekday.f a0).bind fun t315 => ((kinkeepref21_Weekday.f a0).bind fun t316 => (if t315 = t316 then ((calendar_Week.f a0).bind fun t317 => ((kinkeepref21_Week.f a0).bind fun t318 => (if t317 = t318 then ((calendar_Month.f k a0).bind fun t319 => ((kinkeepref21_Month.f k a0).bind fun t320 => (if t319 = t320 then ((calendar_Year.f k a0).bind fun t321 => ((kinkeepref21_Year.f k a0).bind fun t322 => (some (t321 == t322)))) else (some false)))) else (some false)))) else (some false)))) = some r := by rw [if_pos rfl] at H; exact H
    clear H
    have H := H1
    clear H1
    replace H := Option.bind_eq_some_iff.mp H
    obtain ⟨t315, A40, H⟩ := H
    replace H : ((kinkeepref21_Weekday.f a0).bind fun t316 => (if t315 = t316 then ((calendar_Week.f a0).bind fun t317 => ((kinkeepref21_Week.f a0).bind fun t318 => (if t317 = t318 then ((calendar_Month.f k a0).bind fun t319 => ((kinkeepref21_Month.f k a0).bind fun t320 => (if t319 = t320 then ((calendar_Year.f k a0).bind fun t321 => ((kinkeepref21_Year.f k a0).bind fun t322 => (some (t321 == t322)))) else (some false)))) else (some false)))) else (some false))) = some r := H
    have A4 := Aside0.mk A40
    clear A40
    replace H := Option.bind_eq_some_iff.mp H
    obtain ⟨t316, A50, H⟩ := H
    replace H : (if t315 = t316 then ((calendar_Week.f a0).bind fun t317 => ((kinkeepref21_Week.f a0).bind fun t318 => (if t317 = t318 then ((calendar_Month.f k a0).bind fun t319 => ((kinkeepref21_Month.f k a0).bind fun t320 => (if t319 = t320 then ((calendar_Year.f k a0).bind fun t321 => ((kinkeepref21_Year.f k a0).bind fun t322 => (some (t321 == t322)))) else (some false)))) else (some false)))) else (some false)) = some r := H
    have A5 := Aside0.mk A50
    clear A50
    by_cases c6 : t315 = t316
    · rw [if_pos c6] at H
      have c6b0 : (t315 == t316) = true := beq_iff_eq.mpr c6
      have c6b1 : (t315 != t316) = false := bne_eq_false_iff_eq.mpr c6
      clear c6
      replace H := Option.bind_eq_some_iff.mp H
      obtain ⟨t317, A70, H⟩ := H
      replace H : ((kinkeepref21_Week.f a0).bind fun t318 => (if t317 = t318 then ((calendar_Month.f k a0).bind fun t319 => ((kinkeepref21_Month.f k a0).bind fun t320 => (if t319 = t320 then ((calendar_Year.f k a0).bind fun t321 => ((kinkeepref21_Year.f k a0).bind fun t322 => (some (t321 == t322)))) else (some false)))) else (some false))) = some r := H
      have A7 := Aside0.mk A70
      clear A70
      replace H := Option.bind_eq_some_iff.mp H
      obtain ⟨t318, A80, H⟩ := H
      replace H : (if t317 = t318 then ((calendar_Month.f k a0).bind fun t319 => ((kinkeepref21_Month.f k a0).bind fun t320 => (if t319 = t320 then ((calendar_Year.f k a0).bind fun t321 => ((kinkeepref21_Year.f k a0).bind fun t322 => (some (t321 == t322)))) else (some false)))) else (some false)) = some r := H
      have A8 := Aside0.mk A80
      clear A80
      by_cases c9 : t317 = t318
      · rw [if_pos c9] at H
        have c9b0 : (t317 == t318) = true := beq_iff_eq.mpr c9
        have c9b1 : (t317 != t318) = false := bne_eq_false_iff_eq.mpr c9
        clear c9
        replace H := Option.bind_eq_some_iff.mp H
        obtain ⟨t319, A100, H⟩ := H
        replace H : ((kinkeepref21_Month.f k a0).bind fun t320 => (if t319 = t320 then ((calendar_Year.f k a0).bind fun t321 => ((kinkeepref21_Year.f k a0).bind fun t322 => (some (t321 == t322)))) else (some false))) = some r := H
        have A10 := Aside0.mk A100
        clear A100
        replace H := Option.bind_eq_some_iff.mp H
        obtain ⟨t320, A110, H⟩ := H
        replace H : (if t319 = t320 then ((calendar_Year.f k a0).bind fun t321 => ((kinkeepref21_Year.f k a0).bind fun t322 => (some (t321 == t322)))) else (some false)) = some r := H
        have A11 := Aside0.mk A110
        clear A110
        by_cases c12 : t319 = t320
        · rw [if_pos c12] at H
          have c12b0 : (t319 == t320) = true := beq_iff_eq.mpr c12
          have c12b1 : (t319 != t320) = false := bne_eq_false_iff_eq.mpr c12
          clear c12
          replace H := Option.bind_eq_some_iff.mp H
          obtain ⟨t321, A130, H⟩ := H
          replace H : ((kinkeepref21_Year.f k a0).bind fun t322 => (some (t321 == t322))) = some r := H
          have A13 := Aside0.mk A130
          clear A130
          replace H := Option.bind_eq_some_iff.mp H
          obtain ⟨t322, A140, H⟩ := H
          replace H : (some (t321 == t322)) = some r := H
          have A14 := Aside0.mk A140
          clear A140
          obtain rfl := Option.some.inj H
          go_enter Tryd.func11, Tryd.ntmps11
          go_wp2_with (first | ((with_reducible refine gate_callee (f := 12) rfl ?_); refine goesL_ (some 3) rfl rfl Tryd.func12 (by kernel_rfl) rfl #[] rfl (by (try simp only [List.map_toArray, List.map_cons, List.map_nil]); first | done | rfl | (simp only [List.length_drop, List.length_take]; rfl)) ?_; (with_reducible refine (kinkeeplaw21_awake.calls k  true _ ?side1 A2.out).mono ?_); (case side1 => exact GW_below HGW.out (by repeat (first | (with_reducible first | exact HB.out | apply below_alloc | apply pw_below_drewN | apply below_drew1) | exact HB.out))); rintro e w15 ⟨rfl, hb⟩; refine ⟨_, rfl, ?_⟩; have n0_ := Aside0.mk (below_step (by repeat (first | (with_reducible first | exact HB.out | apply below_alloc | apply pw_below_drewN | apply below_drew1) | exact HB.out)) hb); clear HB; have HB := n0_; clear n0_; (try clear hb); (try clear hb2); (try clear hk); (try clear hi)) | (go_at_call 21; (with_reducible refine (calendar_Weekday.calls a0 t315 _ A4.out).mono ?_); rintro e w' ⟨rfl, ⟨nd, rfl⟩⟩) | (go_at_call 29; (with_reducible refine (kinkeepref21_Weekday.calls a0 t316 _ A5.out).mono ?_); rintro e w' ⟨rfl, ⟨nd, rfl⟩⟩) | (go_at_call 22; (with_reducible refine (calendar_Week.calls a0 t317 _ A7.out).mono ?_); rintro e w' ⟨rfl, ⟨nd, rfl⟩⟩) | (go_at_call 30; (with_reducible refine (kinkeepref21_Week.calls a0 t318 _ A8.out).mono ?_); rintro e w' ⟨rfl, ⟨nd, rfl⟩⟩) | (go_at_call 23; (with_reducible refine (calendar_Month.calls k a0 t319 _ A10.out).mono ?_); rintro e w16 ⟨rfl, hb⟩; have n0_ := Aside0.mk (below_step (by repeat (first | (with_reducible first | exact HB.out | apply below_alloc | apply pw_below_drewN | apply below_drew1) | exact HB.out)) hb); clear HB; have HB := n0_; clear n0_; (try clear hb); (try clear hb2); (try clear hk); (try clear hi)) | (go_at_call 31; (with_reducible refine (kinkeepref21_Month.calls k a0 t320 _ A11.out).mono ?_); rintro e w17 ⟨rfl, hb⟩; have n0_ := Aside0.mk (below_step (by repeat (first | (with_reducible first | exact HB.out | apply below_alloc | apply pw_below_drewN | apply below_drew1) | exact HB.out)) hb); clear HB; have HB := n0_; clear n0_; (try clear hb); (try clear hb2); (try clear hk); (try clear hi)) | (go_at_call 32; (with_reducible refine (calendar_Year.calls k a0 t321 _ A13.out).mono ?_); rintro e w18 ⟨rfl, hb⟩; have n0_ := Aside0.mk (below_step (by repeat (first | (with_reducible first | exact HB.out | apply below_alloc | apply pw_below_drewN | apply below_drew1) | exact HB.out)) hb); clear HB; have HB := n0_; clear n0_; (try clear hb); (try clear hb2); (try clear hk); (try clear hi)) | (go_at_call 33; (with_reducible refine (kinkeepref21_Year.calls k a0 t322 _ A14.out).mono ?_); rintro e w19 ⟨rfl, hb⟩; have n0_ := Aside0.mk (below_step (by repeat (first | (with_reducible first | exact HB.out | apply below_alloc | apply pw_below_drewN | apply below_drew1) | exact HB.out)) hb); clear HB; have HB := n0_; clear n0_; (try clear hb); (try clear hb2); (try clear hk); (try clear hi)))
          go_ret
          exact ⟨by first | rfl | (simp [errW_none, errW_some] <;> rfl) | (simp [*, errW_none, errW_some] <;> rfl), by repeat (first | (with_reducible first | exact HB.out | apply below_alloc | apply pw_below_drewN | apply below_drew1) | exact HB.out)⟩
        · rw [if_neg c12] at H
          have c12b0 : (t319 == t320) = false := beq_eq_false_iff_ne.mpr c12
          have c12b1 : (t319 != t320) = true := bne_iff_ne.mpr c12
          obtain rfl := Option.some.inj H
          go_enter Tryd.func11, Tryd.ntmps11
          go_wp2_with (first | ((with_reducible refine gate_callee (f := 12) rfl ?_); refine goesL_ (some 3) rfl rfl Tryd.func12 (by kernel_rfl) rfl #[] rfl (by (try simp only [List.map_toArray, List.map_cons, List.map_nil]); first | done | rfl | (simp only [List.length_drop, List.length_take]; rfl)) ?_; (with_reducible refine (kinkeeplaw21_awake.calls k  true _ ?side1 A2.out).mono ?_); (case side1 => exact GW_below HGW.out (by repeat (first | (with_reducible first | exact HB.out | apply below_alloc | apply pw_below_drewN | apply below_drew1) | exact HB.out))); rintro e w20 ⟨rfl, hb⟩; refine ⟨_, rfl, ?_⟩; have n0_ := Aside0.mk (below_step (by repeat (first | (with_reducible first | exact HB.out | apply below_alloc | apply pw_below_drewN | apply below_drew1) | exact HB.out)) hb); clear HB; have HB := n0_; clear n0_; (try clear hb); (try clear hb2); (try clear hk); (try clear hi)) | (go_at_call 21; (with_reducible refine (calendar_Weekday.calls a0 t315 _ A4.out).mono ?_); rintro e w' ⟨rfl, ⟨nd, rfl⟩⟩) | (go_at_call 29; (with_reducible refine (kinkeepref21_Weekday.calls a0 t316 _ A5.out).mono ?_); rintro e w' ⟨rfl, ⟨nd, rfl⟩⟩) | (go_at_call 22; (with_reducible refine (calendar_Week.calls a0 t317 _ A7.out).mono ?_); rintro e w' ⟨rfl, ⟨nd, rfl⟩⟩) | (go_at_call 30; (with_reducible refine (kinkeepref21_Week.calls a0 t318 _ A8.out).mono ?_); rintro e w' ⟨rfl, ⟨nd, rfl⟩⟩) | (go_at_call 23; (with_reducible refine (calendar_Month.calls k a0 t319 _ A10.out).mono ?_); rintro e w21 ⟨rfl, hb⟩; have n0_ := Aside0.mk (below_step (by repeat (first | (with_reducible first | exact HB.out | apply below_alloc | apply pw_below_drewN | apply below_drew1) | exact HB.out)) hb); clear HB; have HB := n0_; clear n0_; (try clear hb); (try clear hb2); (try clear hk); (try clear hi)) | (go_at_call 31; (with_reducible refine (kinkeepref21_Month.calls k a0 t320 _ A11.out).mono ?_); rintro e w22 ⟨rfl, hb⟩; have n0_ := Aside0.mk (below_step (by repeat (first | (with_reducible first | exact HB.out | apply below_alloc | apply pw_below_drewN | apply below_drew1) | exact HB.out)) hb); clear HB; have HB := n0_; clear n0_; (try clear hb); (try clear hb2); (try clear hk); (try clear hi)))
          go_ret
          exact ⟨by first | rfl | (simp [errW_none, errW_some] <;> rfl) | (simp [*, errW_none, errW_some] <;> rfl), by repeat (first | (with_reducible first | exact HB.out | apply below_alloc | apply pw_below_drewN | apply below_drew1) | exact HB.out)⟩
      · rw [if_neg c9] at H
        have c9b0 : (t317 == t318) = false := beq_eq_false_iff_ne.mpr c9
        have c9b1 : (t317 != t318) = true := bne_iff_ne.mpr c9
        obtain rfl := Option.some.inj H
        go_enter Tryd.func11, Tryd.ntmps11
        go_wp2_with (first | ((with_reducible refine gate_callee (f := 12) rfl ?_); refine goesL_ (some 3) rfl rfl Tryd.func12 (by kernel_rfl) rfl #[] rfl (by (try simp only [List.map_toArray, List.map_cons, List.map_nil]); first | done | rfl | (simp only [List.length_drop, List.length_take]; rfl)) ?_; (with_reducible refine (kinkeeplaw21_awake.calls k  true _ ?side1 A2.out).mono ?_); (case side1 => exact GW_below HGW.out (by repeat (first | (with_reducible first | exact HB.out | apply below_alloc | apply pw_below_drewN | apply below_drew1) | exact HB.out))); rintro e w23 ⟨rfl, hb⟩; refine ⟨_, rfl, ?_⟩; have n0_ := Aside0.mk (below_step (by repeat (first | (with_reducible first | exact HB.out | apply below_alloc | apply pw_below_drewN | apply below_drew1) | exact HB.out)) hb); clear HB; have HB := n0_; clear n0_; (try clear hb); (try clear hb2); (try clear hk); (try clear hi)) | (go_at_call 21; (with_reducible refine (calendar_Weekday.calls a0 t315 _ A4.out).mono ?_); rintro e w' ⟨rfl, ⟨nd, rfl⟩⟩) | (go_at_call 29; (with_reducible refine (kinkeepref21_Weekday.calls a0 t316 _ A5.out).mono ?_); rintro e w' ⟨rfl, ⟨nd, rfl⟩⟩) | (go_at_call 22; (with_reducible refine (calendar_Week.calls a0 t317 _ A7.out).mono ?_); rintro e w' ⟨rfl, ⟨nd, rfl⟩⟩) | (go_at_call 30; (with_reducible refine (kinkeepref21_Week.calls a0 t318 _ A8.out).mono ?_); rintro e w' ⟨rfl, ⟨nd, rfl⟩⟩))
        go_ret
        exact ⟨by first | rfl | (simp [errW_none, errW_some] <;> rfl) | (simp [*, errW_none, errW_some] <;> rfl), by repeat (first | (with_reducible first | exact HB.out | apply below_alloc | apply pw_below_drewN | apply below_drew1) | exact HB.out)⟩
    · rw [if_neg c6] at H
      have c6b0 : (t315 == t316) = false := beq_eq_false_iff_ne.mpr c6
      have c6b1 : (t315 != t316) = true := bne_iff_ne.mpr c6
      obtain rfl := Option.some.inj H
      go_enter Tryd.func11, Tryd.ntmps11
      go_wp2_with (first | ((with_reducible refine gate_callee (f := 12) rfl ?_); refine goesL_ (some 3) rfl rfl Tryd.func12 (by kernel_rfl) rfl #[] rfl (by (try simp only [List.map_toArray, List.map_cons, List.map_nil]); first | done | rfl | (simp only [List.length_drop, List.length_take]; rfl)) ?_; (with_reducible refine (kinkeeplaw21_awake.calls k  true _ ?side1 A2.out).mono ?_); (case side1 => exact GW_below HGW.out (by repeat (first | (with_reducible first | exact HB.out | apply below_alloc | apply pw_below_drewN | apply below_drew1) | exact HB.out))); rintro e w24 ⟨rfl, hb⟩; refine ⟨_, rfl, ?_⟩; have n0_ := Aside0.mk (below_step (by repeat (first | (with_reducible first | exact HB.out | apply below_alloc | apply pw_below_drewN | apply below_drew1) | exact HB.out)) hb); clear HB; have HB := n0_; clear n0_; (try clear hb); (try clear hb2); (try clear hk); (try clear hi)) | (go_at_call 21; (with_reducible refine (calendar_Weekday.calls a0 t315 _ A4.out).mono ?_); rintro e w' ⟨rfl, ⟨nd, rfl⟩⟩) | (go_at_call 29; (with_reducible refine (kinkeepref21_Weekday.calls a0 t316 _ A5.out).mono ?_); rintro e w' ⟨rfl, ⟨nd, rfl⟩⟩))
      go_ret
      exact ⟨by first | rfl | (simp [errW_none, errW_some] <;> rfl) | (simp [*, errW_none, errW_some] <;> rfl), by repeat (first | (with_reducible first | exact HB.out | apply below_alloc | apply pw_below_drewN | apply below_drew1) | exact HB.out)⟩
  · replace c3 := Bool.eq_false_iff.mpr c3
    subst c3
    have H1 : (some false) = some r := by rw [if_neg (show ¬ (false = true) by decide)] at H; exact H
    clear H
    have H := H1
    clear H1
    obtain rfl := Option.some.inj H
    go_enter Tryd.func11, Tryd.ntmps11
    go_wp2_with (first | ((with_reducible refine gate_callee (f := 12) rfl ?_); refine goesL_ (some 3) rfl rfl Tryd.func12 (by kernel_rfl) rfl #[] rfl (by (try simp only [List.map_toArray, List.map_cons, List.map_nil]); first | done | rfl | (simp only [List.length_drop, List.length_take]; rfl)) ?_; (with_reducible refine (kinkeeplaw21_awake.calls k  false _ ?side1 A2.out).mono ?_); (case side1 => exact GW_below HGW.out (by repeat (first | (with_reducible first | exact HB.out | apply below_alloc | apply pw_below_drewN | apply below_drew1) | exact HB.out))); rintro e w25 ⟨rfl, hb⟩; refine ⟨_, rfl, ?_⟩; have n0_ := Aside0.mk (below_step (by repeat (first | (with_reducible first | exact HB.out | apply below_alloc | apply pw_below_drewN | apply below_drew1) | exact HB.out)) hb); clear HB; have HB := n0_; clear n0_; (try clear hb); (try clear hb2); (try clear hk); (try clear hi)))
    go_ret
    exact ⟨by first | rfl | (simp [errW_none, errW_some] <;> rfl) | (simp [*, errW_none, errW_some] <;> rfl), by repeat (first | (with_reducible first | exact HB.out | apply below_alloc | apply pw_below_drewN | apply below_drew1) | exact HB.out)⟩

end Go.Proofs.YtjjblpcblaelgaaDoor.Q
