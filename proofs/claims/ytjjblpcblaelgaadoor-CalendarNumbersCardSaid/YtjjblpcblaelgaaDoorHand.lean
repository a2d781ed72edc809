/- What calendar.Days, strconv.Itoa and strconv.Atoi return, as contracts of their calls: for every input of Days; for every int of Itoa, where the table of powers of ten reads as laid; for numerals of at most 18 bytes of Atoi. -/
import Derived.Test.YtjjblpcblaelgaaDoorProg
import Derived.Below
import Derived.OwnWalk
import Derived.Tactics
import Derived.WalkKit
import Derived.KernelRfl
import Derived.Lib.Hide
import Derived.Lib.AppendIntMem
import Derived.Lib.AtoiErrMem
import Derived.Test.YtjjblpcblaelgaaDoorShelf
import Derived.Test.YtjjblpcblaelgaaDoorQ0
set_option linter.unusedVariables false
set_option linter.unusedSimpArgs false
namespace Go.Proofs.YtjjblpcblaelgaaDoor.Hand
open Go.RowKit Go.Proofs.YtjjblpcblaelgaaDoorW.PrintWords Go.Proofs.YtjjblpcblaelgaaDoor.Q

def leapB (y : Int) : Bool := (Int.tmod y 4 == 0) && ((Int.tmod y 100 != 0) || (Int.tmod y 400 == 0))

theorem leap_calls (y : Int) (w : World) : Calls Tryd.prog 13 #[.int .i64 y] w fun e w' => e = .returned (.bool (leapB y)) ∧ w = w' := by
  cases h1 : (Int.tmod y 4 == 0)
  · go_enter Tryd.func13, Tryd.ntmps13
    go_wp2
    go_ret
    exact ⟨by simp [leapB, h1], rfl⟩
  · cases h2 : (Int.tmod y 100 != 0)
    · go_enter Tryd.func13, Tryd.ntmps13
      go_wp2
      go_ret
      exact ⟨by simp [leapB, h1, h2], rfl⟩
    · go_enter Tryd.func13, Tryd.ntmps13
      go_wp2
      go_ret
      exact ⟨by simp [leapB, h1, h2], rfl⟩

def mlen (m : Int) : Int := if m = 2 then 28 else if m = 4 ∨ m = 6 ∨ m = 9 ∨ m = 11 then 30 else 31
def daysI (y m : Int) : Int := if m < 1 ∨ 12 < m then 0 else if m = 2 ∧ leapB y = true then 29 else mlen m

theorem days_out (y m : Int) (w : World) (h : m < 1 ∨ 12 < m) : Calls Tryd.prog 15 #[.int .i64 y, .int .i64 m] w fun e w' => e = .returned (.int .i64 0) ∧ Below w.heap.size w w' := by
  rcases h with h | h
  · go_enter Tryd.func15, Tryd.ntmps15
    go_wp2
    go_ret
    exact ⟨rfl, Below.refl _ _⟩
  · have h1 : ¬ m < 1 := by omega
    go_enter Tryd.func15, Tryd.ntmps15
    go_wp2
    go_ret
    exact ⟨rfl, Below.refl _ _⟩

theorem days_feb (y : Int) (w : World) (b : Bool) (h : leapB y = b) : Calls Tryd.prog 15 #[.int .i64 y, .int .i64 2] w fun e w' => e = .returned (.int .i64 (if b = true then 29 else 28)) ∧ Below w.heap.size w w' := by
  have H := Lib.hid h
  clear h
  have hc : ∀ w, Calls Tryd.prog 13 #[.int .i64 y] w fun e w' => e = .returned (.bool b) ∧ w = w' := fun w => by
    have := leap_calls y w
    rw [H.out] at this
    exact this
  cases b
  · go_enter Tryd.func15, Tryd.ntmps15
    go_wp2_with (go_at_call 13; refine (hc _).mono ?_; rintro e w' ⟨rfl, rfl⟩)
    go_ret
    exact ⟨rfl, (Below.refl _ _).alloc (Nat.le_refl _) _⟩
  · go_enter Tryd.func15, Tryd.ntmps15
    go_wp2_with (go_at_call 13; refine (hc _).mono ?_; rintro e w' ⟨rfl, rfl⟩)
    go_ret
    exact ⟨rfl, (Below.refl _ _).alloc (Nat.le_refl _) _⟩

set_option maxHeartbeats 4000000 in
theorem days_in (y m : Int) (w : World) (h1 : 1 ≤ m) (h2 : m ≤ 12) (h3 : m ≠ 2) : Calls Tryd.prog 15 #[.int .i64 y, .int .i64 m] w fun e w' => e = .returned (.int .i64 (mlen m)) ∧ Below w.heap.size w w' := by
  obtain rfl | rfl | rfl | rfl | rfl | rfl | rfl | rfl | rfl | rfl | rfl : m = 1 ∨ m = 3 ∨ m = 4 ∨ m = 5 ∨ m = 6 ∨ m = 7 ∨ m = 8 ∨ m = 9 ∨ m = 10 ∨ m = 11 ∨ m = 12 := by omega
  all_goals
    go_enter Tryd.func15, Tryd.ntmps15
    go_wp2
    go_ret
    exact ⟨rfl, (Below.refl _ _).alloc (Nat.le_refl _) _⟩

def calendar_Days.f (a0 : Int) (a1 : Int) : Option Int := some (daysI a0 a1)

theorem calendar_Days.calls (a0 : Int) (a1 : Int) (r : Int) (w : World) (h : calendar_Days.f a0 a1 = some r) :
    Calls Tryd.prog 15 #[.int .i64 a0, .int .i64 a1] w fun e w' => e = .returned (.int .i64 r) ∧ Below w.heap.size w w' := by
  obtain rfl := Option.some.inj h
  clear h
  unfold daysI
  by_cases h1 : a1 < 1 ∨ 12 < a1
  · rw [if_pos h1]
    exact days_out a0 a1 w h1
  · rw [if_neg h1]
    by_cases h2 : a1 = 2
    · subst h2
      cases hl : leapB a0
      · rw [if_neg (by simp)]
        exact days_feb a0 w false hl
      · rw [if_pos (by simp)]
        exact days_feb a0 w true hl
    · rw [if_neg (by simp [h2])]
      exact days_in a0 a1 w (by omega) (by omega) h2

/-- The table of the powers of ten reads as laid. -/
def GW (w : World) : Prop := Lib.TabIs Tryd.prog w "internal/strconv.uint64pow10" .u64 Lib.pow10Tab
theorem GW_below {w w' : World} (h : GW w) (hb : Below w.heap.size w w') : GW w' := Lib.tabBelow_of_tabIs h w' hb

def strconv_Itoa.f (a0 : Int) : Option ByteArray := if -9223372036854775808 ≤ a0 ∧ a0 ≤ 9223372036854775807 then some ⟨(Lib.itoa a0).toArray⟩ else none
theorem strconv_Itoa.calls (a0 : Int) (r : ByteArray) (w : World) (hGW : GW w) (h : strconv_Itoa.f a0 = some r) :
    Calls Tryd.prog 44 #[.int .i64 a0] w fun e w' => e = .returned (.string r) ∧ Below w.heap.size w w' := by
  unfold strconv_Itoa.f at h
  split at h
  · rename_i hb
    obtain rfl := Option.some.inj h
    refine (Tryd.strconv_Itoa a0 hb.1 hb.2 w hGW).mono ?_
    rintro e w' ⟨rfl, k, os, rfl⟩
    exact ⟨rfl, Lib.below_grow _ _ (Nat.le_refl _) k os⟩
  · exact absurd h (by simp)

def strconv_Atoi.f (a0 : ByteArray) : Option (Int × Option Int) := if a0.size ≤ 18 then (Lib.atoi a0.data.toList).map fun n => (n, none) else none
theorem strconv_Atoi.calls (a0 : ByteArray) (r1 : Int) (r2 : Option Int) (w : World) (h : strconv_Atoi.f a0 = some (r1, r2)) :
    Calls Tryd.prog 45 #[.string a0] w fun e w' => e = .returned (.tuple #[.int .i64 r1, errW r2]) ∧ Below w.heap.size w w' := by
  unfold strconv_Atoi.f at h
  split at h
  · rename_i hb
    obtain ⟨n, hn, he⟩ := Option.map_eq_some_iff.1 h
    obtain ⟨rfl, rfl⟩ := Prod.mk.inj he
    refine (Tryd.strconv_Atoi a0 n hb hn w).mono ?_
    rintro e w' ⟨rfl, t, rfl⟩
    exact ⟨rfl, Lib.bytesWorld_below _ _ _⟩
  · exact absurd h (by simp)
end Go.Proofs.YtjjblpcblaelgaaDoor.Hand
