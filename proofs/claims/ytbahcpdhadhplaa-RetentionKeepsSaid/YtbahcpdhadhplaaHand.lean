/- What calendar.Days returns, for every input. -/
import Derived.Test.YtbahcpdhadhplaaProg
import Derived.Below
import Derived.OwnWalk
import Derived.Tactics
import Derived.WalkKit
import Derived.KernelRfl
import Derived.Lib.Hide
import Derived.Test.YtbahcpdhadhplaaM0
set_option linter.unusedVariables false
set_option linter.unusedSimpArgs false
namespace Go.Proofs.Ytbahcpdhadhplaa.Hand
open Go.RowKit Go.Proofs.YtbahcpdhadhplaaW.PrintWords Go.Proofs.Ytbahcpdhadhplaa.M

def leapB (y : Int) : Bool := (Int.tmod y 4 == 0) && ((Int.tmod y 100 != 0) || (Int.tmod y 400 == 0))

theorem leap_calls (y : Int) (w : World) : Calls Try.prog 81 #[.int .i64 y] w fun e w' => e = .returned (.bool (leapB y)) ∧ w = w' := by
  cases h1 : (Int.tmod y 4 == 0)
  · go_enter Try.func81, Try.ntmps81
    go_wp2
    go_ret
    exact ⟨by simp [leapB, h1], rfl⟩
  · cases h2 : (Int.tmod y 100 != 0)
    · go_enter Try.func81, Try.ntmps81
      go_wp2
      go_ret
      exact ⟨by simp [leapB, h1, h2], rfl⟩
    · go_enter Try.func81, Try.ntmps81
      go_wp2
      go_ret
      exact ⟨by simp [leapB, h1, h2], rfl⟩

def mlen (m : Int) : Int := if m = 2 then 28 else if m = 4 ∨ m = 6 ∨ m = 9 ∨ m = 11 then 30 else 31
def daysI (y m : Int) : Int := if m < 1 ∨ 12 < m then 0 else if m = 2 ∧ leapB y = true then 29 else mlen m

theorem days_out (y m : Int) (w : World) (h : m < 1 ∨ 12 < m) : Calls Try.prog 65 #[.int .i64 y, .int .i64 m] w fun e w' => e = .returned (.int .i64 0) ∧ Below w.heap.size w w' := by
  rcases h with h | h
  · go_enter Try.func65, Try.ntmps65
    go_wp2
    go_ret
    exact ⟨rfl, Below.refl _ _⟩
  · have h1 : ¬ m < 1 := by omega
    go_enter Try.func65, Try.ntmps65
    go_wp2
    go_ret
    exact ⟨rfl, Below.refl _ _⟩

theorem days_feb (y : Int) (w : World) (b : Bool) (h : leapB y = b) : Calls Try.prog 65 #[.int .i64 y, .int .i64 2] w fun e w' => e = .returned (.int .i64 (if b = true then 29 else 28)) ∧ Below w.heap.size w w' := by
  have H := Lib.hid h
  clear h
  have hc : ∀ w, Calls Try.prog 81 #[.int .i64 y] w fun e w' => e = .returned (.bool b) ∧ w = w' := fun w => by
    have := leap_calls y w
    rw [H.out] at this
    exact this
  cases b
  · go_enter Try.func65, Try.ntmps65
    go_wp2_with (go_at_call 81; refine (hc _).mono ?_; rintro e w' ⟨rfl, rfl⟩)
    go_ret
    exact ⟨rfl, (Below.refl _ _).alloc (Nat.le_refl _) _⟩
  · go_enter Try.func65, Try.ntmps65
    go_wp2_with (go_at_call 81; refine (hc _).mono ?_; rintro e w' ⟨rfl, rfl⟩)
    go_ret
    exact ⟨rfl, (Below.refl _ _).alloc (Nat.le_refl _) _⟩

set_option maxHeartbeats 4000000 in
theorem days_in (y m : Int) (w : World) (h1 : 1 ≤ m) (h2 : m ≤ 12) (h3 : m ≠ 2) : Calls Try.prog 65 #[.int .i64 y, .int .i64 m] w fun e w' => e = .returned (.int .i64 (mlen m)) ∧ Below w.heap.size w w' := by
  obtain rfl | rfl | rfl | rfl | rfl | rfl | rfl | rfl | rfl | rfl | rfl : m = 1 ∨ m = 3 ∨ m = 4 ∨ m = 5 ∨ m = 6 ∨ m = 7 ∨ m = 8 ∨ m = 9 ∨ m = 10 ∨ m = 11 ∨ m = 12 := by omega
  all_goals
    go_enter Try.func65, Try.ntmps65
    go_wp2
    go_ret
    exact ⟨rfl, (Below.refl _ _).alloc (Nat.le_refl _) _⟩

def calendar_Days.f (a0 : Int) (a1 : Int) : Option Int := some (daysI a0 a1)

theorem calendar_Days.calls (a0 : Int) (a1 : Int) (r : Int) (w : World) (h : calendar_Days.f a0 a1 = some r) :
    Calls Try.prog 65 #[.int .i64 a0, .int .i64 a1] w fun e w' => e = .returned (.int .i64 r) ∧ Below w.heap.size w w' := by
  obtain rfl := Option.some.inj h
  clear h
  unfold daysI
  by_cases h1 : a1 < 1 ∨ 12 < a1
  · rw [if_pos h1]
    exact days_out a0 a1 w h1
  · rw [if_neg h1]
    by_cases h2 : a1 = 2
    · subst h2
      cases hl : leapB a0
      · rw [if_neg (by simp)]
        exact days_feb a0 w false hl
      · rw [if_pos (by simp)]
        exact days_feb a0 w true hl
    · rw [if_neg (by simp [h2])]
      exact days_in a0 a1 w (by omega) (by omega) h2

end Go.Proofs.Ytbahcpdhadhplaa.Hand
