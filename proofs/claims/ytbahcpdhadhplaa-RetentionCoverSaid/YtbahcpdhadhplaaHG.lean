/- What retention.Reasons returns. -/
import Derived.Test.YtbahcpdhadhplaaHF
set_option linter.unusedVariables false
set_option linter.unusedSimpArgs false
namespace Go.Proofs.Ytbahcpdhadhplaa.Hand
open Go.RowKit Go.Maps Go.Sort Go.Proofs.YtbahcpdhadhplaaW.PrintWords Go.Proofs.YtbahcpdhadhplaaW.PrintMore Go.Proofs.Ytbahcpdhadhplaa.PS Go.Proofs.Ytbahcpdhadhplaa.PB Go.Proofs.Ytbahcpdhadhplaa.M

theorem contains_calls (A : Option Addr) (c : Nat) (l : List Int) (x : Int) (w : World) (hr : Kd.C (Kd.int .i64) w A l.length l) : Calls Try.prog 29 #[.slice A l.length c, .int .i64 x] w fun e w' => e = .returned (.bool (l.contains x)) ∧ w' = w := by
  by_cases hn : 0 < l.length
  · obtain ⟨b, off, rfl, hb, hc⟩ := C_cells hr hn
    have := Try.slices_Contains_int b off l.length c l x w (Nat.le_refl _) (Kd.C_max hr) hc
    rw [List.take_length] at this
    exact this
  · obtain rfl : l = [] := List.length_eq_zero_iff.1 (by omega)
    exact Try.slices_Contains_int_empty A c x w
theorem one_new (w : World) (o1 : Obj) : (w.alloc o1).heap[w.heap.size]? = some o1 := heap_alloc_new _ _

def reasR (a b c d : Int) (l1 l2 : List Int) (x : Int) : Int × Int := if chk a b c d l1 l2 = 0 then (if l1.contains x then (reasF a b c d (setL l1) l2 x, 0) else (0, 4)) else (0, 1)
set_option maxRecDepth 100000 in
set_option maxHeartbeats 4000000 in
theorem Reasons_calls (a b c d : Int) (A1 A2 : Option Addr) (c1 c2 : Nat) (l1 l2 : List Int) (x : Int) (w : World) (hr1 : Kd.C (Kd.int .i64) w A1 l1.length l1) (hr2 : Kd.C (Kd.int .i64) w A2 l2.length l2) (hl1 : l1.length ≤ 100000) (hl2 : l2.length ≤ 1000000) :
    Calls Try.prog 15 #[.agg #[.int .i64 a, .int .i64 b, .int .i64 c, .int .i64 d], .slice A1 l1.length c1, .slice A2 l2.length c2, .int .i64 x] w fun e w' =>
    e = .returned (.tuple #[.int .i64 (reasR a b c d l1 l2 x).1, .int .i64 (reasR a b c d l1 l2 x).2]) ∧ Below w.heap.size w w' := by
  have HR1 := Aside0.mk hr1
  have HR2 := Aside0.mk hr2
  clear hr1 hr2
  by_cases hk : chk a b c d l1 l2 = 0
  · obtain ⟨hv, hd1, hd2⟩ := chk_ok hk
    have HV := Aside0.mk hv
    have HD1 := Aside0.mk hd1
    have HD2 := Aside0.mk hd2
    have HK := Aside0.mk hk
    clear hv hd1 hd2
    have hC : ∀ W, Below w.heap.size w W → Calls Try.prog 28 #[.agg #[.int .i64 a, .int .i64 b, .int .i64 c, .int .i64 d], .slice A1 l1.length c1, .slice A2 l2.length c2] W fun e w' => e = .returned (.int .i64 0) ∧ Below W.heap.size W w' := fun W hb => by
      have := check_calls a b c d A1 A2 c1 c2 l1 l2 W (Kd.C_below HR1.out hb) (Kd.C_below HR2.out hb) (by omega) hl2
      rw [HK.out] at this
      exact this
    clear hk
    have hset := setL_len_le l1
    cases hin : l1.contains x
    · have hN : ∀ W, Below w.heap.size w W → Calls Try.prog 29 #[.slice A1 l1.length c1, .int .i64 x] W fun e w' => e = .returned (.bool false) ∧ w' = W := fun W hb => hin ▸ contains_calls A1 c1 l1 x W (Kd.C_below HR1.out hb)
      have HI := Aside0.mk hin
      clear hin
      go_enter Try.func15, Try.ntmps15
      go_wp2_with (first
        | (go_at_call 28; refine (hC _ ((Below.refl _ _).alloc (Nat.le_refl _) _)).mono ?_; rintro e w1 ⟨rfl, hb1⟩; have hX1 : Below w.heap.size w w1 := ((Below.refl _ _).alloc (Nat.le_refl _) _).trans (hb1.mono (by simp)))
        | (go_at_call 29; refine (hN _ hX1).mono ?_; rintro e w2 ⟨rfl, rfl⟩)
        | go_in)
      go_ret2
      exact ⟨by simp only [reasR, if_pos HK.out, HI.out]; rfl, hX1⟩
    · have hN : ∀ W, Below w.heap.size w W → Calls Try.prog 29 #[.slice A1 l1.length c1, .int .i64 x] W fun e w' => e = .returned (.bool true) ∧ w' = W := fun W hb => hin ▸ contains_calls A1 c1 l1 x W (Kd.C_below HR1.out hb)
      have hxd : 0 ≤ x ∧ x ≤ 999999 := by
        have := List.all_eq_true.1 HD1.out x (by simpa using hin)
        simpa [dayB] using this
      have hkey : keyOf Try.prog 3 (.int .i64 x) = some (.int .i64 x) := keyOf_int_mk Try.underlying3 (wf64 (by omega) (by omega))
      have HI := Aside0.mk hin
      clear hin
      go_enter Try.func15, Try.ntmps15
      go_wp2_with (first
        | (go_at_call 28; refine (hC _ ((Below.refl _ _).alloc (Nat.le_refl _) _)).mono ?_; rintro e w1 ⟨rfl, hb1⟩; have hX1 : Below w.heap.size w w1 := ((Below.refl _ _).alloc (Nat.le_refl _) _).trans (hb1.mono (by simp)); have hk1 := (hb1.block w.heap.size (by simp)).trans (one_new _ _))
        | (go_at_call 29; refine (hN _ hX1).mono ?_; rintro e w2 ⟨rfl, rfl⟩; have p0 := cell_of_heap hk1 0 _ rfl; have p1 := cell_of_heap hk1 1 _ rfl; have p2 := cell_of_heap hk1 2 _ rfl; have p3 := cell_of_heap hk1 3 _ rfl; have hs1 := (Array.getElem?_eq_some_iff.1 hk1).1)
        | go_in)
      go_region_with (first
        | (go_at_call 31; refine (set_calls A1 c1 l1 _ ?_ (by omega)).mono ?_; exact Kd.C_drew (Kd.C_below HR1.out hX1); rintro e w4 ⟨v4, rfl, ho2, hb2⟩; obtain ⟨A3, c3, rfl, hc3, hC3⟩ := ho2.reads; have hX2 := (Below.drew hX1).trans (hb2.mono hX1.size); have hm1 := (hb2.block w.heap.size hs1).trans hk1; have q0 := cell_of_heap hm1 0 _ rfl; have q1 := cell_of_heap hm1 1 _ rfl; have q2 := cell_of_heap hm1 2 _ rfl; have q3 := cell_of_heap hm1 3 _ rfl)
        | (go_at_call 30; refine (reasons_calls a b c d A3 A2 c3 c2 (setL l1) l2 _ hC3 (Kd.C_below HR2.out hX2) (by omega) hl2 hc3 HV.out (set_all HD1.out) HD2.out (setL_lt l1)).mono ?_; rintro e w3 ⟨n3, D3, S3, rfl, ho3, hr3, hb3⟩; obtain ⟨c0, hrun, hat, hwc⟩ := ho3.lookup_int law3 Try.underlying47 Try.underlying3 (zero3 _) hkey))
      all_goals
        have hfin : Below w.heap.size w w3 := hX2.trans (hb3.mono hX2.size)
        have e : c0 = reasF a b c d (setL l1) l2 x := lit_inj (hat.symm.trans (hr3.2.2 x))
        have hF := Aside0.mk hfin
        have hE := Aside0.mk e
        clear hfin e hat hr3 ho3 hb3 hrun
        go_wp2
        go_ret2
        exact ⟨by simp only [reasR, if_pos HK.out, HI.out, if_true, ← hE.out]; rfl, hF.out⟩
  · have h1 := chk_no hk
    have HK := Aside0.mk hk
    have H1 := Aside0.mk h1
    have hC : ∀ W, Below w.heap.size w W → Calls Try.prog 28 #[.agg #[.int .i64 a, .int .i64 b, .int .i64 c, .int .i64 d], .slice A1 l1.length c1, .slice A2 l2.length c2] W fun e w' => e = .returned (.int .i64 1) ∧ Below W.heap.size W w' := fun W hb => by
      have := check_calls a b c d A1 A2 c1 c2 l1 l2 W (Kd.C_below HR1.out hb) (Kd.C_below HR2.out hb) (by omega) hl2
      rw [H1.out] at this
      exact this
    clear hk h1
    go_enter Try.func15, Try.ntmps15
    go_wp2_with (first
      | (go_at_call 28; refine (hC _ ((Below.refl _ _).alloc (Nat.le_refl _) _)).mono ?_; rintro e w1 ⟨rfl, hb1⟩; have hX1 : Below w.heap.size w w1 := ((Below.refl _ _).alloc (Nat.le_refl _) _).trans (hb1.mono (by simp)))
      | go_in)
    go_ret2
    exact ⟨by simp only [reasR, if_neg HK.out]; rfl, hX1⟩
end Go.Proofs.Ytbahcpdhadhplaa.Hand
