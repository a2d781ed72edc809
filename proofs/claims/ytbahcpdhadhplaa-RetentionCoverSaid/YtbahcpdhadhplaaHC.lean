/- What retention.check returns. -/
import Derived.Test.YtbahcpdhadhplaaHK
import Derived.Test.YtbahcpdhadhplaaHS
set_option linter.unusedVariables false
set_option linter.unusedSimpArgs false
namespace Go.Proofs.Ytbahcpdhadhplaa.Hand
open Go.RowKit Go.Proofs.YtbahcpdhadhplaaW.PrintWords Go.Proofs.YtbahcpdhadhplaaW.PrintMore Go.Proofs.Ytbahcpdhadhplaa.PS

def dayB (x : Int) : Bool := decide (0 ≤ x) && decide (x ≤ 999999)
theorem isDay_calls (x : Int) (w : World) : Calls Try.prog 38 #[.int .i64 x] w fun e w' => e = .returned (.bool (dayB x)) ∧ Below w.heap.size w w' := by
  by_cases h : 0 ≤ x
  · go_enter Try.func38, Try.ntmps38
    go_wp2
    go_ret
    exact ⟨by simp [dayB, h], Below.refl _ _⟩
  · go_enter Try.func38, Try.ntmps38
    go_wp2
    go_ret
    exact ⟨by simp [dayB]; omega, Below.refl _ _⟩

theorem C_at {w : World} {A : Option Addr} {l : List Int} (h : Kd.C (Kd.int .i64) w A l.length l) (j : Nat) (hj : j < l.length) :
    ∃ b off, A = some ⟨b, off, none⟩ ∧ w.cell? ⟨b, off + j, none⟩ = some (.int .i64 (l.getD j 0)) := by
  obtain ⟨b, off, e, _, hc⟩ := C_cells h (by omega)
  exact ⟨b, off, e, hc j hj⟩
theorem all_step {p : Int → Bool} {l : List Int} {j : Nat} (hj : j < l.length) (h : (l.take j).all p = true) (h1 : p (l.getD j 0) = true) : (l.take (j + 1)).all p = true := by
  rw [List.take_add_one, List.all_append, h]
  simp [List.getElem?_eq_getElem hj, List.getD_eq_getElem?_getD] at h1 ⊢
  exact h1
theorem all_miss {p : Int → Bool} {l : List Int} {j : Nat} (hj : j < l.length) (h1 : p (l.getD j 0) = false) : l.all p = false := by
  rw [List.getD_eq_getElem?_getD, List.getElem?_eq_getElem hj] at h1
  exact List.all_eq_false.2 ⟨l[j], List.getElem_mem hj, by simpa using h1⟩

def chk (a b c d : Int) (l1 l2 : List Int) : Int := if validB a b c d && (l1.all dayB && l2.all dayB) then 0 else 1

set_option maxRecDepth 100000 in
set_option maxHeartbeats 4000000 in
theorem check_calls (a b c d : Int) (A1 A2 : Option Addr) (c1 c2 : Nat) (l1 l2 : List Int) (w : World) (hr1 : Kd.C (Kd.int .i64) w A1 l1.length l1) (hr2 : Kd.C (Kd.int .i64) w A2 l2.length l2) (hl1 : l1.length ≤ 1000000) (hl2 : l2.length ≤ 1000000) :
    Calls Try.prog 28 #[.agg #[.int .i64 a, .int .i64 b, .int .i64 c, .int .i64 d], .slice A1 l1.length c1, .slice A2 l2.length c2] w fun e w' =>
    e = .returned (.int .i64 (chk a b c d l1 l2)) ∧ Below w.heap.size w w' := by
  have HR1 := Aside0.mk hr1
  have HR2 := Aside0.mk hr2
  clear hr1 hr2
  cases hv : validB a b c d
  · have hV := fun W => valid_calls a b c d W
    rw [hv] at hV
    have HV := Aside0.mk hv
    clear hv
    go_enter Try.func28, Try.ntmps28
    go_wp2_with (first | (go_at_call 12; refine (hV _).mono ?_; rintro e w1 ⟨rfl, hb1⟩) | go_in)
    go_ret
    exact ⟨by simp [chk, HV.out], ((Below.refl w.heap.size w).alloc (Nat.le_refl _) _).trans (hb1.mono (by simp))⟩
  · have hV := fun W => valid_calls a b c d W
    rw [hv] at hV
    have HV := Aside0.mk hv
    clear hv
    go_enter Try.func28, Try.ntmps28
    go_wp2_with (first | (go_at_call 12; refine (hV _).mono ?_; rintro e w1 ⟨rfl, hb1⟩) | go_in)
    have hB1 : Below w.heap.size w w1 := ((Below.refl w.heap.size w).alloc (Nat.le_refl _) _).trans (hb1.mono (by simp))
    have hX1 := Aside0.mk hB1
    clear hB1 hb1
    go_loopw [18] (fun i wr => ∃ k : Int, 0 ≤ k ∧ k ≤ 2 ∧ i = .int .i64 k ∧ (0 < k → l1.all dayB = true) ∧ (1 < k → l2.all dayB = true) ∧ wr.heap[w1.heap.size]? = some (.cells #[.slice A1 l1.length c1, .slice A2 l2.length c2] 26 (0, 0)) ∧ Below w.heap.size w wr) (fun i _ => 2 - (intOf i).toNat)
    case atStart =>
      exact ⟨0, by omega, by omega, rfl, fun h => absurd h (by omega), fun h => absurd h (by omega), heap_alloc_new _ _, hX1.out.alloc hX1.out.size _⟩
    case round =>
      obtain ⟨k, hk0, hk, rfl, ho1, ho2, hB, hnx⟩ := hrel
      have hS := Aside0.mk hB
      have hO1 := Aside0.mk ho1
      have hO2 := Aside0.mk ho2
      have hX := Aside0.mk hnx
      have hc0 : wr.cell? ⟨w1.heap.size, 0, none⟩ = some (.slice A1 l1.length c1) := by simp [World.cell?, hB]
      have hc1 : wr.cell? ⟨w1.heap.size, 1, none⟩ = some (.slice A2 l2.length c2) := by simp [World.cell?, hB]
      clear hB ho1 ho2 hnx
      obtain rfl | rfl | rfl : k = 0 ∨ k = 1 ∨ k = 2 := by omega
      · go_wp2
        go_loopw [24] (fun i ws => ∃ j : Nat, j ≤ l1.length ∧ i = .int .i64 j ∧ (l1.take j).all dayB = true ∧ ws.heap[w1.heap.size]? = some (.cells #[.slice A1 l1.length c1, .slice A2 l2.length c2] 26 (0, 0)) ∧ Below w.heap.size w ws) (fun i _ => l1.length - (intOf i).toNat)
        case atStart => exact ⟨0, Nat.zero_le _, rfl, by simp, hS.out, hX.out⟩
        case round =>
          clear hS hX hc0 hc1
          obtain ⟨j, hj, rfl, hall, hB, hnx⟩ := hrel
          have hS := Aside0.mk hB
          have hX := Aside0.mk hnx
          have hA := Aside0.mk hall
          clear hB hnx hall
          by_cases hjl : j < l1.length
          · obtain ⟨b, off, rfl, hcell⟩ := C_at (Kd.C_below HR1.out hX.out) j hjl
            obtain ⟨x, hx⟩ : ∃ x, x = l1.getD j 0 := ⟨_, rfl⟩
            rw [← hx] at hcell
            have hx' := Aside0.mk hx
            clear hx
            cases hd : dayB x
            · have hD := fun W => isDay_calls x W
              rw [hd] at hD
              have hd' := Aside0.mk hd
              clear hd
              go_wp2_with (first | (go_at_call 38; refine (hD _).mono ?_; rintro e w2 ⟨rfl, hb2⟩) | go_in)
              go_ret
              exact ⟨by simp [chk, all_miss hjl (hx'.out ▸ hd'.out)], hX.out.trans (hb2.mono hX.out.size)⟩
            · have hD := fun W => isDay_calls x W
              rw [hd] at hD
              have hd' := Aside0.mk hd
              clear hd
              go_wp2_with (first | (go_at_call 38; refine (hD _).mono ?_; rintro e w2 ⟨rfl, hb2⟩) | go_in)
              go_roundw
              case rel => exact ⟨j + 1, by omega, by go_num, all_step hjl hA.out (hx'.out ▸ hd'.out), (hb2.block _ (Array.getElem?_eq_some_iff.1 hS.out).1).trans hS.out, hX.out.trans (hb2.mono hX.out.size)⟩
              case measure => simp [intOf]; omega
          · obtain rfl : j = l1.length := by omega
            have hA' := Aside0.mk (show l1.all dayB = true by have := hA.out; rwa [List.take_length] at this)
            clear hA
            go_wp2
            go_roundw
            case rel => exact ⟨1, by omega, by omega, by first | rfl | go_num, fun _ => hA'.out, fun h => absurd h (by omega), hS.out, hX.out⟩
            case measure => simp [intOf]
      · go_wp2
        go_loopw [24] (fun i ws => ∃ j : Nat, j ≤ l2.length ∧ i = .int .i64 j ∧ (l2.take j).all dayB = true ∧ ws.heap[w1.heap.size]? = some (.cells #[.slice A1 l1.length c1, .slice A2 l2.length c2] 26 (0, 0)) ∧ Below w.heap.size w ws) (fun i _ => l2.length - (intOf i).toNat)
        case atStart => exact ⟨0, Nat.zero_le _, rfl, by simp, hS.out, hX.out⟩
        case round =>
          clear hS hX hc0 hc1
          obtain ⟨j, hj, rfl, hall, hB, hnx⟩ := hrel
          have hS := Aside0.mk hB
          have hX := Aside0.mk hnx
          have hA := Aside0.mk hall
          clear hB hnx hall
          by_cases hjl : j < l2.length
          · obtain ⟨b, off, rfl, hcell⟩ := C_at (Kd.C_below HR2.out hX.out) j hjl
            obtain ⟨x, hx⟩ : ∃ x, x = l2.getD j 0 := ⟨_, rfl⟩
            rw [← hx] at hcell
            have hx' := Aside0.mk hx
            clear hx
            cases hd : dayB x
            · have hD := fun W => isDay_calls x W
              rw [hd] at hD
              have hd' := Aside0.mk hd
              clear hd
              go_wp2_with (first | (go_at_call 38; refine (hD _).mono ?_; rintro e w2 ⟨rfl, hb2⟩) | go_in)
              go_ret
              exact ⟨by simp [chk, all_miss hjl (hx'.out ▸ hd'.out)], hX.out.trans (hb2.mono hX.out.size)⟩
            · have hD := fun W => isDay_calls x W
              rw [hd] at hD
              have hd' := Aside0.mk hd
              clear hd
              go_wp2_with (first | (go_at_call 38; refine (hD _).mono ?_; rintro e w2 ⟨rfl, hb2⟩) | go_in)
              go_roundw
              case rel => exact ⟨j + 1, by omega, by go_num, all_step hjl hA.out (hx'.out ▸ hd'.out), (hb2.block _ (Array.getElem?_eq_some_iff.1 hS.out).1).trans hS.out, hX.out.trans (hb2.mono hX.out.size)⟩
              case measure => simp [intOf]; omega
          · obtain rfl : j = l2.length := by omega
            have hA' := Aside0.mk (show l2.all dayB = true by have := hA.out; rwa [List.take_length] at this)
            clear hA
            go_wp2
            go_roundw
            case rel => exact ⟨2, by omega, by omega, by first | rfl | go_num, fun _ => hO1.out (by omega), fun _ => hA'.out, hS.out, hX.out⟩
            case measure => simp [intOf]
      · go_wp2
        go_ret
        exact ⟨by simp [chk, HV.out, hO1.out (by omega), hO2.out (by omega)], hX.out⟩
end Go.Proofs.Ytbahcpdhadhplaa.Hand
