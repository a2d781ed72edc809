/- The hand contracts of retention.split, Reasons, Next and of the reference's Reason, in the print's own form. -/
import Derived.Test.YtbahcpdhadhplaaHN
import Derived.Test.YtbahcpdhadhplaaHE
import Derived.Test.YtbahcpdhadhplaaQ0
set_option linter.unusedVariables false
set_option linter.unusedSimpArgs false
namespace Go.Proofs.Ytbahcpdhadhplaa.Hand
open Go.RowKit Go.Proofs.YtbahcpdhadhplaaW.PrintWords Go.Proofs.YtbahcpdhadhplaaW.PrintMore Go.Proofs.Ytbahcpdhadhplaa.PS Go.Proofs.Ytbahcpdhadhplaa.PB

def retention_split.f (a0_0 : Int) (a0_1 : Int) (a0_2 : Int) (a0_3 : Int) (l1 : List Int) (l2 : List Int) (a3 : Bool) : Option ((List Int) × Int) :=
  if l1.length ≤ 50000 ∧ l2.length ≤ 50000 then some (splitF a0_0 a0_1 a0_2 a0_3 l1 l2 a3, chk a0_0 a0_1 a0_2 a0_3 l1 l2) else none
theorem retention_split.calls (a0_0 : Int) (a0_1 : Int) (a0_2 : Int) (a0_3 : Int) (A1 : Option Addr) (c1 : Nat) (l1 : List Int) (A2 : Option Addr) (c2 : Nat) (l2 : List Int) (a3 : Bool) (r1 : List Int) (r2 : Int) (w : World) (hr1 : Kd.C (Kd.int .i64) w A1 l1.length l1) (hc1 : l1.length ≤ c1) (hr2 : Kd.C (Kd.int .i64) w A2 l2.length l2) (hc2 : l2.length ≤ c2)
    (h : retention_split.f a0_0 a0_1 a0_2 a0_3 l1 l2 a3 = some (r1, r2)) :
    Calls Try.prog 35 #[.agg #[.int .i64 a0_0, .int .i64 a0_1, .int .i64 a0_2, .int .i64 a0_3], .slice A1 l1.length c1, .slice A2 l2.length c2, .bool a3] w fun e w' => ∃ v0_ : Value, e = .returned (.tuple #[v0_, .int .i64 r2]) ∧ Kd.R (Kd.int .i64) 3 w' w.heap.size (fun _ => True) v0_ r1 ∧ Below w.heap.size w w' := by
  unfold retention_split.f at h
  split at h
  · rename_i hb
    obtain ⟨rfl, rfl⟩ := Prod.mk.inj (Option.some.inj h)
    refine (split_calls a0_0 a0_1 a0_2 a0_3 A1 A2 c1 c2 l1 l2 a3 w hr1 hr2 (by omega) (by omega)).mono ?_
    rintro e w' ⟨v, rfl, ho, hbel⟩
    exact ⟨v, rfl, ho.R, hbel⟩
  · exact absurd h (by simp)

def retention_Reasons.f (a0_0 : Int) (a0_1 : Int) (a0_2 : Int) (a0_3 : Int) (l1 : List Int) (l2 : List Int) (a3 : Int) : Option (Int × Int) :=
  if l1.length ≤ 50000 ∧ l2.length ≤ 50000 then some (reasR a0_0 a0_1 a0_2 a0_3 l1 l2 a3) else none
theorem retention_Reasons.calls (a0_0 : Int) (a0_1 : Int) (a0_2 : Int) (a0_3 : Int) (A1 : Option Addr) (c1 : Nat) (l1 : List Int) (A2 : Option Addr) (c2 : Nat) (l2 : List Int) (a3 : Int) (r1 : Int) (r2 : Int) (w : World) (hr1 : Kd.C (Kd.int .i64) w A1 l1.length l1) (hc1 : l1.length ≤ c1) (hr2 : Kd.C (Kd.int .i64) w A2 l2.length l2) (hc2 : l2.length ≤ c2)
    (h : retention_Reasons.f a0_0 a0_1 a0_2 a0_3 l1 l2 a3 = some (r1, r2)) :
    Calls Try.prog 15 #[.agg #[.int .i64 a0_0, .int .i64 a0_1, .int .i64 a0_2, .int .i64 a0_3], .slice A1 l1.length c1, .slice A2 l2.length c2, .int .i64 a3] w fun e w' => e = .returned (.tuple #[.int .i64 r1, .int .i64 r2]) ∧ Below w.heap.size w w' := by
  unfold retention_Reasons.f at h
  split at h
  · rename_i hb
    have e := Option.some.inj h
    have := Reasons_calls a0_0 a0_1 a0_2 a0_3 A1 A2 c1 c2 l1 l2 a3 w hr1 hr2 (by omega) (by omega)
    rw [e] at this
    exact this
  · exact absurd h (by simp)

def retention_Next.f (a0_0 : Int) (a0_1 : Int) (a0_2 : Int) (a0_3 : Int) (l1 : List Int) (l2 : List Int) (a3 : Int) (a4 : Int) : Option (Int × Int) :=
  if l1.length ≤ 50000 ∧ l2.length ≤ 50000 then some (nextR a0_0 a0_1 a0_2 a0_3 l1 l2 a3 a4) else none
theorem retention_Next.calls (a0_0 : Int) (a0_1 : Int) (a0_2 : Int) (a0_3 : Int) (A1 : Option Addr) (c1 : Nat) (l1 : List Int) (A2 : Option Addr) (c2 : Nat) (l2 : List Int) (a3 : Int) (a4 : Int) (r1 : Int) (r2 : Int) (w : World) (hr1 : Kd.C (Kd.int .i64) w A1 l1.length l1) (hc1 : l1.length ≤ c1) (hr2 : Kd.C (Kd.int .i64) w A2 l2.length l2) (hc2 : l2.length ≤ c2)
    (h : retention_Next.f a0_0 a0_1 a0_2 a0_3 l1 l2 a3 a4 = some (r1, r2)) :
    Calls Try.prog 26 #[.agg #[.int .i64 a0_0, .int .i64 a0_1, .int .i64 a0_2, .int .i64 a0_3], .slice A1 l1.length c1, .slice A2 l2.length c2, .int .i64 a3, .int .i64 a4] w fun e w' => e = .returned (.tuple #[.int .i64 r1, .int .i64 r2]) ∧ Below w.heap.size w w' := by
  unfold retention_Next.f at h
  split at h
  · rename_i hb
    have e := Option.some.inj h
    have := Next_calls a0_0 a0_1 a0_2 a0_3 A1 A2 c1 c2 l1 l2 a3 a4 w hr1 hr2 (by omega) (by omega)
    rw [e] at this
    exact this
  · exact absurd h (by simp)

def kinkeepref27_Reason.f (a0_0 : Int) (a0_1 : Int) (a0_2 : Int) (a0_3 : Int) (l1 : List Int) (l2 : List Int) (a3 : Int) : Option Int :=
  if (l1.length ≤ 50000 ∧ l2.length ≤ 50000) ∧ l1.all dayB = true ∧ dayB a3 = true then some (refR a0_0 a0_1 a0_2 a0_3 l1 l2 a3) else none
theorem kinkeepref27_Reason.calls (a0_0 : Int) (a0_1 : Int) (a0_2 : Int) (a0_3 : Int) (A1 : Option Addr) (c1 : Nat) (l1 : List Int) (A2 : Option Addr) (c2 : Nat) (l2 : List Int) (a3 : Int) (r : Int) (w : World) (hr1 : Kd.C (Kd.int .i64) w A1 l1.length l1) (hc1 : l1.length ≤ c1) (hr2 : Kd.C (Kd.int .i64) w A2 l2.length l2) (hc2 : l2.length ≤ c2)
    (h : kinkeepref27_Reason.f a0_0 a0_1 a0_2 a0_3 l1 l2 a3 = some r) :
    Calls Try.prog 34 #[.agg #[.int .i64 a0_0, .int .i64 a0_1, .int .i64 a0_2, .int .i64 a0_3], .slice A1 l1.length c1, .slice A2 l2.length c2, .int .i64 a3] w fun e w' => e = .returned (.int .i64 r) ∧ Below w.heap.size w w' := by
  unfold kinkeepref27_Reason.f at h
  split at h
  · rename_i hb
    obtain rfl := Option.some.inj h
    exact Reason_calls a0_0 a0_1 a0_2 a0_3 A1 A2 c1 c2 l1 l2 a3 w hr1 hr2 hc1 hc2 (by omega) (by omega) hb.2.1 (by simpa [dayB] using hb.2.2)
  · exact absurd h (by simp)
end Go.Proofs.Ytbahcpdhadhplaa.Hand
