/- What retention.kinds and retention.Valid return. -/
import Derived.Test.YtbahcpdhadhplaaProg
import Derived.Below
import Derived.OwnWalk
import Derived.Tactics
import Derived.WalkKit
import Derived.KernelRfl
import Derived.Laws.EntriesVeiled
import Derived.Lib.Hide
import Derived.Test.YtbahcpdhadhplaaM0
set_option linter.unusedVariables false
set_option linter.unusedSimpArgs false
namespace Go.Proofs.Ytbahcpdhadhplaa.Hand
open Go.RowKit Go.Proofs.YtbahcpdhadhplaaW.PrintWords Go.Proofs.Ytbahcpdhadhplaa.M

def fnv (g : Nat) : Value := .func (.func g) #[] #[]
def kcells (a b c d : Int) : Array Value := #[.int .i64 1, .int .i64 a, fnv 39, .int .i64 2, .int .i64 b, fnv 40, .int .i64 4, .int .i64 c, fnv 21, .int .i64 8, .int .i64 d, fnv 41]

theorem kinds_calls (a b c d : Int) (w : World) : Calls Try.prog 27 #[.agg #[.int .i64 a, .int .i64 b, .int .i64 c, .int .i64 d]] w fun e w' =>
    e = .returned (.slice (some ⟨w.heap.size + 1, 0, none⟩) 4 4) ∧ w' = (w.alloc (.cells #[.int .i64 a, .int .i64 b, .int .i64 c, .int .i64 d] 23)).alloc (.cells (kcells a b c d) 45) := by
  go_enter Try.func27, Try.ntmps27
  go_wp2
  go_ret
  exact ⟨rfl, rfl⟩

def okI (x : Int) : Bool := decide (0 ≤ x) && decide (x ≤ 1000)
def validB (a b c d : Int) : Bool := okI a && okI b && okI c && okI d
theorem kcell {w : World} {B : Nat} {a b c d : Int} (h : w.heap[B]? = some (.cells (kcells a b c d) 45 (0, 0))) (j : Nat) : w.cell? ⟨B, j, none⟩ = (kcells a b c d)[j]? := by simp [World.cell?, h]

theorem third_new (w : World) (o1 o2 o3 : Obj) : (((w.alloc o1).alloc o2).alloc o3).heap[w.heap.size + 1 + 1]? = some o3 := by
  have h := heap_alloc_new ((w.alloc o1).alloc o2) o3
  have e : ((w.alloc o1).alloc o2).heap.size = w.heap.size + 1 + 1 := by simp
  rw [e] at h
  exact h
def nth4 (a b c d : Int) (k : Nat) : Int := match k with | 0 => a | 1 => b | 2 => c | _ => d
set_option maxRecDepth 100000 in
set_option maxHeartbeats 4000000 in
theorem valid_calls (a b c d : Int) (w : World) : Calls Try.prog 12 #[.agg #[.int .i64 a, .int .i64 b, .int .i64 c, .int .i64 d]] w fun e w' =>
    e = .returned (.bool (validB a b c d)) ∧ Below w.heap.size w w' := by
  go_enter Try.func12, Try.ntmps12
  go_wp2_with (first | (go_at_call 27; refine (kinds_calls a b c d _).mono ?_; rintro e w' ⟨rfl, rfl⟩) | go_in)
  go_loopw [8] (fun i wr => ∃ k : Nat, k ≤ 4 ∧ i = .int .i64 k ∧ (∀ j, j < k → okI (nth4 a b c d j) = true) ∧ wr.heap[w.heap.size + 1 + 1]? = some (.cells (kcells a b c d) 45 (0, 0)) ∧ w.heap.size + 1 + 1 < wr.heap.size ∧ Below w.heap.size w wr) (fun i _ => 4 - (intOf i).toNat)
  case atStart =>
    refine ⟨0, by omega, rfl, fun j hj => absurd hj (by omega), third_new _ _ _ _, by simp, ?_⟩
    exact (((Below.refl _ _).alloc (Nat.le_refl _) _).alloc (by simp) _).alloc (by simp; omega) _
  case round =>
    obtain ⟨k, hk, rfl, hok, hB, hlt, hnx⟩ := hrel
    have hc := fun j => kcell hB j
    obtain rfl | rfl | rfl | rfl | rfl : k = 0 ∨ k = 1 ∨ k = 2 ∨ k = 3 ∨ k = 4 := by omega
    · have h0 : wr.cell? ⟨w.heap.size + 1 + 1, 0, none⟩ = some (.int .i64 1) := hc 0
      have h1 : wr.cell? ⟨w.heap.size + 1 + 1, 1, none⟩ = some (.int .i64 a) := hc 1
      have h2 : wr.cell? ⟨w.heap.size + 1 + 1, 2, none⟩ = some (.func (.func 39) #[] #[]) := hc 2
      have hS := Aside0.mk hB
      have hO := Aside0.mk hok
      have hX := Aside0.mk hnx
      clear hc hB hok hnx
      go_wp2
      case' roundEnd =>
        have hv : okI a = true := by simp [okI]; omega
        go_roundw
        case rel => exact ⟨1, by omega, by first | rfl | go_num, fun j hj => by
          rcases (by omega : j < 0 ∨ j = 0) with h | rfl
          · exact hO.out j h
          · exact hv, (Below.heap_alloc _ _ _ (by omega)).trans hS.out, by simp; omega, hX.out.alloc (hX.out.size) _⟩
        case measure => simp [intOf]
      all_goals
        have hv : okI a = false := by simp [okI]; omega
        go_ret
        exact ⟨by simp [validB, hv], hX.out.alloc (hX.out.size) _⟩
    · have h0 : wr.cell? ⟨w.heap.size + 1 + 1, 3, none⟩ = some (.int .i64 2) := hc 3
      have h1 : wr.cell? ⟨w.heap.size + 1 + 1, 4, none⟩ = some (.int .i64 b) := hc 4
      have h2 : wr.cell? ⟨w.heap.size + 1 + 1, 5, none⟩ = some (.func (.func 40) #[] #[]) := hc 5
      have hS := Aside0.mk hB
      have hO := Aside0.mk hok
      have hX := Aside0.mk hnx
      clear hc hB hok hnx
      go_wp2
      case' roundEnd =>
        have hv : okI b = true := by simp [okI]; omega
        go_roundw
        case rel => exact ⟨2, by omega, by first | rfl | go_num, fun j hj => by
          rcases (by omega : j < 1 ∨ j = 1) with h | rfl
          · exact hO.out j h
          · exact hv, (Below.heap_alloc _ _ _ (by omega)).trans hS.out, by simp; omega, hX.out.alloc (hX.out.size) _⟩
        case measure => simp [intOf]
      all_goals
        have hv : okI b = false := by simp [okI]; omega
        go_ret
        exact ⟨by simp [validB, hv], hX.out.alloc (hX.out.size) _⟩
    · have h0 : wr.cell? ⟨w.heap.size + 1 + 1, 6, none⟩ = some (.int .i64 4) := hc 6
      have h1 : wr.cell? ⟨w.heap.size + 1 + 1, 7, none⟩ = some (.int .i64 c) := hc 7
      have h2 : wr.cell? ⟨w.heap.size + 1 + 1, 8, none⟩ = some (.func (.func 21) #[] #[]) := hc 8
      have hS := Aside0.mk hB
      have hO := Aside0.mk hok
      have hX := Aside0.mk hnx
      clear hc hB hok hnx
      go_wp2
      case' roundEnd =>
        have hv : okI c = true := by simp [okI]; omega
        go_roundw
        case rel => exact ⟨3, by omega, by first | rfl | go_num, fun j hj => by
          rcases (by omega : j < 2 ∨ j = 2) with h | rfl
          · exact hO.out j h
          · exact hv, (Below.heap_alloc _ _ _ (by omega)).trans hS.out, by simp; omega, hX.out.alloc (hX.out.size) _⟩
        case measure => simp [intOf]
      all_goals
        have hv : okI c = false := by simp [okI]; omega
        go_ret
        exact ⟨by simp [validB, hv], hX.out.alloc (hX.out.size) _⟩
    · have h0 : wr.cell? ⟨w.heap.size + 1 + 1, 9, none⟩ = some (.int .i64 8) := hc 9
      have h1 : wr.cell? ⟨w.heap.size + 1 + 1, 10, none⟩ = some (.int .i64 d) := hc 10
      have h2 : wr.cell? ⟨w.heap.size + 1 + 1, 11, none⟩ = some (.func (.func 41) #[] #[]) := hc 11
      have hS := Aside0.mk hB
      have hO := Aside0.mk hok
      have hX := Aside0.mk hnx
      clear hc hB hok hnx
      go_wp2
      case' roundEnd =>
        have hv : okI d = true := by simp [okI]; omega
        go_roundw
        case rel => exact ⟨4, by omega, by first | rfl | go_num, fun j hj => by
          rcases (by omega : j < 3 ∨ j = 3) with h | rfl
          · exact hO.out j h
          · exact hv, (Below.heap_alloc _ _ _ (by omega)).trans hS.out, by simp; omega, hX.out.alloc (hX.out.size) _⟩
        case measure => simp [intOf]
      all_goals
        have hv : okI d = false := by simp [okI]; omega
        go_ret
        exact ⟨by simp [validB, hv], hX.out.alloc (hX.out.size) _⟩
    · have hX := Aside0.mk hnx
      have hv : validB a b c d = true := by
        have e0 := hok 0 (by omega)
        have e1 := hok 1 (by omega)
        have e2 := hok 2 (by omega)
        have e3 := hok 3 (by omega)
        simp only [nth4] at e0 e1 e2 e3
        simp [validB, e0, e1, e2, e3]
      clear hc hB hok hnx
      go_wp2
      go_ret
      exact ⟨by rw [hv]; rfl, hX.out⟩

def retention_Valid.f (a0_0 a0_1 a0_2 a0_3 : Int) : Option Bool := some (validB a0_0 a0_1 a0_2 a0_3)
theorem retention_Valid.calls (a0_0 : Int) (a0_1 : Int) (a0_2 : Int) (a0_3 : Int) (r : Bool) (w : World) (h : retention_Valid.f a0_0 a0_1 a0_2 a0_3 = some r) :
    Calls Try.prog 12 #[.agg #[.int .i64 a0_0, .int .i64 a0_1, .int .i64 a0_2, .int .i64 a0_3]] w fun e w' => e = .returned (.bool r) ∧ Below w.heap.size w w' := by
  obtain rfl := Option.some.inj h
  exact valid_calls a0_0 a0_1 a0_2 a0_3 w
end Go.Proofs.Ytbahcpdhadhplaa.Hand
