/- What kinkeepref27.Reason returns. -/
import Derived.Test.YtbahcpdhadhplaaPR
import Derived.Test.YtbahcpdhadhplaaHN
set_option linter.unusedVariables false
set_option linter.unusedSimpArgs false
namespace Go.Proofs.Ytbahcpdhadhplaa.Hand
open Go.RowKit Go.Maps Go.Sort Go.Proofs.YtbahcpdhadhplaaW.PrintWords Go.Proofs.YtbahcpdhadhplaaW.PrintMore Go.Proofs.Ytbahcpdhadhplaa.PS Go.Proofs.Ytbahcpdhadhplaa.PB Go.Proofs.Ytbahcpdhadhplaa.M

def byK (a b c d : Int) (ds : List Int) (day : Int) (k : Nat) : Bool := byGo (numK k) (nth4 a b c d k) day [] ds
def refK (a b c d : Int) (ds : List Int) (day : Int) : Nat → Int
  | 0 => 0
  | k + 1 => refK a b c d ds day k + (if byK a b c d ds day k = true then bitK k else 0)
def refR (a b c d : Int) (ds hs : List Int) (day : Int) : Int := refK a b c d ds day 4 + (if hs.contains day = true then 16 else 0)
theorem refK_bd (a b c d : Int) (ds : List Int) (day : Int) : ∀ k : Nat, 0 ≤ refK a b c d ds day k ∧ refK a b c d ds day k ≤ 8 * k
  | 0 => by simp [refK]
  | k + 1 => by
    have ih := refK_bd a b c d ds day k
    have hb : 0 ≤ bitK k ∧ bitK k ≤ 8 := by unfold bitK; split <;> omega
    unfold refK
    split <;> omega
theorem lt3 : 3 < Try.prog.types.size := of_decide_eq_true (by kernel_rfl)
theorem size3 : (Try.prog.types[3]'lt3).size = 1 := by kernel_rfl
theorem idx0 (a b c d : Int) (w : World) : (Instr.index 65 (.agg #[.int .i64 a, .int .i64 b, .int .i64 c, .int .i64 d]) (.int .i64 0)).run Try.prog w = .ok (.int .i64 a) w := by kernel_rfl
theorem idx1 (a b c d : Int) (w : World) : (Instr.index 65 (.agg #[.int .i64 a, .int .i64 b, .int .i64 c, .int .i64 d]) (.int .i64 1)).run Try.prog w = .ok (.int .i64 b) w := by kernel_rfl
theorem idx2 (a b c d : Int) (w : World) : (Instr.index 65 (.agg #[.int .i64 a, .int .i64 b, .int .i64 c, .int .i64 d]) (.int .i64 2)).run Try.prog w = .ok (.int .i64 c) w := by kernel_rfl
theorem idx3 (a b c d : Int) (w : World) : (Instr.index 65 (.agg #[.int .i64 a, .int .i64 b, .int .i64 c, .int .i64 d]) (.int .i64 3)).run Try.prog w = .ok (.int .i64 d) w := by kernel_rfl
theorem by_calls (k : Nat) (n : Int) (A : Option Addr) (c : Nat) (ds : List Int) (day : Int) (w : World) (hr : Kd.C (Kd.int .i64) w A ds.length ds) (hc : ds.length ≤ c) (hl : ds.length ≤ 1000000) (hd : ds.all dayB = true) (hday : 0 ≤ day ∧ day ≤ 999999) :
    Calls Try.prog 50 #[.int .i64 (k : Int), .int .i64 n, .slice A ds.length c, .int .i64 day] w fun e w' => e = .returned (.bool (byGo (numK k) n day [] ds)) ∧ Below w.heap.size w w' := by
  obtain ⟨q, hq⟩ := (by_ev k n day ds hl hd hday).rounds
  exact kinkeepref27_by.calls q k n A c ds day _ w hr hc hq
theorem has_calls (A : Option Addr) (c : Nat) (hs : List Int) (day : Int) (w : World) (hr : Kd.C (Kd.int .i64) w A hs.length hs) (hc : hs.length ≤ c) (hl : hs.length ≤ 1000000) :
    Calls Try.prog 33 #[.slice A hs.length c, .int .i64 day] w fun e w' => e = .returned (.bool (hs.contains day)) ∧ Below w.heap.size w w' := by
  obtain ⟨q, hq⟩ := (has_ev hs day hl).rounds
  refine (kinkeepref27_has.calls q A c hs day _ w hr hc hq).mono ?_
  rintro e w' ⟨rfl, m, rfl⟩
  exact ⟨rfl, pw_below_drewN (Below.refl _ _) m⟩

set_option maxRecDepth 100000 in
set_option maxHeartbeats 800000 in
theorem Reason_calls (a b c d : Int) (A1 A2 : Option Addr) (c1 c2 : Nat) (ds hs : List Int) (x : Int) (w : World) (hr1 : Kd.C (Kd.int .i64) w A1 ds.length ds) (hr2 : Kd.C (Kd.int .i64) w A2 hs.length hs) (hc1 : ds.length ≤ c1) (hc2 : hs.length ≤ c2) (hl1 : ds.length ≤ 1000000) (hl2 : hs.length ≤ 1000000) (hd : ds.all dayB = true) (hday : 0 ≤ x ∧ x ≤ 999999) :
    Calls Try.prog 34 #[.agg #[.int .i64 a, .int .i64 b, .int .i64 c, .int .i64 d], .slice A1 ds.length c1, .slice A2 hs.length c2, .int .i64 x] w fun e w' =>
    e = .returned (.int .i64 (refR a b c d ds hs x)) ∧ Below w.heap.size w w' := by
  have HR1 := Aside0.mk hr1
  have HR2 := Aside0.mk hr2
  have HD := Aside0.mk hd
  clear hr1 hr2 hd
  go_enter Try.func34, Try.ntmps34
  go_wp2
  go_loopw [9, 21] (fun o i wr => ∃ k : Int, 0 ≤ k ∧ k ≤ 4 ∧ i = .int .i64 k ∧ o = .int .i64 (refK a b c d ds x k.toNat) ∧ Below w.heap.size w wr) (fun _ i _ => 4 - (intOf i).toNat)
  case atStart => exact ⟨0, by omega, by omega, rfl, rfl, (Below.refl _ _).alloc (Nat.le_refl _) _⟩
  case round =>
    obtain ⟨k, hk0, hk, rfl, rfl, hbel⟩ := hrel
    have hX := Aside0.mk hbel
    clear hbel
    obtain rfl | rfl | rfl | rfl | rfl : k = 0 ∨ k = 1 ∨ k = 2 ∨ k = 3 ∨ k = 4 := by omega
    · obtain ⟨o, ho⟩ : ∃ o, o = refK a b c d ds x 0 := ⟨_, rfl⟩
      rw [show refK a b c d ds x ((0 : Int).toNat) = o from ho.symm]
      have hob : 0 ≤ o ∧ o ≤ 8 * 0 := by rw [ho]; exact refK_bd a b c d ds x 0
      have HO := Aside0.mk ho
      clear ho
      cases hb : byK a b c d ds x 0
      · have hBy : ∀ W, Below w.heap.size w W → Calls Try.prog 50 #[.int .i64 0, .int .i64 a, .slice A1 ds.length c1, .int .i64 x] W fun e w' => e = .returned (.bool false) ∧ Below W.heap.size W w' := fun W hw => by
          have := by_calls 0 (nth4 a b c d 0) A1 c1 ds x W (Kd.C_below HR1.out hw) hc1 hl1 HD.out hday
          rw [show byGo (numK 0) (nth4 a b c d 0) x [] ds = false from hb] at this
          exact this
        have HB := Aside0.mk hb
        clear hb
        have hidx := idx0 a b c d
        go_wp2_with (first | (go_at_call 50; refine (hBy _ hX.out).mono ?_; rintro e w2 ⟨rfl, hb2⟩) | go_in)
        go_roundw
        case rel => exact ⟨1, by omega, by omega, by first | rfl | go_num, congrArg _ (show o = refK a b c d ds x 1 by rw [refK, HB.out, if_neg (by simp), ← HO.out]; omega), hX.out.trans (hb2.mono hX.out.size)⟩
        case measure => simp [intOf]
      · have hBy : ∀ W, Below w.heap.size w W → Calls Try.prog 50 #[.int .i64 0, .int .i64 a, .slice A1 ds.length c1, .int .i64 x] W fun e w' => e = .returned (.bool true) ∧ Below W.heap.size W w' := fun W hw => by
          have := by_calls 0 (nth4 a b c d 0) A1 c1 ds x W (Kd.C_below HR1.out hw) hc1 hl1 HD.out hday
          rw [show byGo (numK 0) (nth4 a b c d 0) x [] ds = true from hb] at this
          exact this
        have HB := Aside0.mk hb
        clear hb
        have hidx := idx0 a b c d
        go_wp2_with (first | (go_at_call 50; refine (hBy _ hX.out).mono ?_; rintro e w2 ⟨rfl, hb2⟩) | go_in)
        go_roundw
        case rel => exact ⟨1, by omega, by omega, by first | rfl | go_num, congrArg _ (show o + 1 = refK a b c d ds x 1 by rw [refK, HB.out, if_pos rfl, ← HO.out]; rfl), hX.out.trans (hb2.mono hX.out.size)⟩
        case measure => simp [intOf]
    · obtain ⟨o, ho⟩ : ∃ o, o = refK a b c d ds x 1 := ⟨_, rfl⟩
      rw [show refK a b c d ds x ((1 : Int).toNat) = o from ho.symm]
      have hob : 0 ≤ o ∧ o ≤ 8 * 1 := by rw [ho]; exact refK_bd a b c d ds x 1
      have HO := Aside0.mk ho
      clear ho
      cases hb : byK a b c d ds x 1
      · have hBy : ∀ W, Below w.heap.size w W → Calls Try.prog 50 #[.int .i64 1, .int .i64 b, .slice A1 ds.length c1, .int .i64 x] W fun e w' => e = .returned (.bool false) ∧ Below W.heap.size W w' := fun W hw => by
          have := by_calls 1 (nth4 a b c d 1) A1 c1 ds x W (Kd.C_below HR1.out hw) hc1 hl1 HD.out hday
          rw [show byGo (numK 1) (nth4 a b c d 1) x [] ds = false from hb] at this
          exact this
        have HB := Aside0.mk hb
        clear hb
        have hidx := idx1 a b c d
        go_wp2_with (first | (go_at_call 50; refine (hBy _ hX.out).mono ?_; rintro e w2 ⟨rfl, hb2⟩) | go_in)
        go_roundw
        case rel => exact ⟨2, by omega, by omega, by first | rfl | go_num, congrArg _ (show o = refK a b c d ds x 2 by rw [refK, HB.out, if_neg (by simp), ← HO.out]; omega), hX.out.trans (hb2.mono hX.out.size)⟩
        case measure => simp [intOf]
      · have hBy : ∀ W, Below w.heap.size w W → Calls Try.prog 50 #[.int .i64 1, .int .i64 b, .slice A1 ds.length c1, .int .i64 x] W fun e w' => e = .returned (.bool true) ∧ Below W.heap.size W w' := fun W hw => by
          have := by_calls 1 (nth4 a b c d 1) A1 c1 ds x W (Kd.C_below HR1.out hw) hc1 hl1 HD.out hday
          rw [show byGo (numK 1) (nth4 a b c d 1) x [] ds = true from hb] at this
          exact this
        have HB := Aside0.mk hb
        clear hb
        have hidx := idx1 a b c d
        go_wp2_with (first | (go_at_call 50; refine (hBy _ hX.out).mono ?_; rintro e w2 ⟨rfl, hb2⟩) | go_in)
        go_roundw
        case rel => exact ⟨2, by omega, by omega, by first | rfl | go_num, congrArg _ (show o + 2 = refK a b c d ds x 2 by rw [refK, HB.out, if_pos rfl, ← HO.out]; rfl), hX.out.trans (hb2.mono hX.out.size)⟩
        case measure => simp [intOf]
    · obtain ⟨o, ho⟩ : ∃ o, o = refK a b c d ds x 2 := ⟨_, rfl⟩
      rw [show refK a b c d ds x ((2 : Int).toNat) = o from ho.symm]
      have hob : 0 ≤ o ∧ o ≤ 8 * 2 := by rw [ho]; exact refK_bd a b c d ds x 2
      have HO := Aside0.mk ho
      clear ho
      cases hb : byK a b c d ds x 2
      · have hBy : ∀ W, Below w.heap.size w W → Calls Try.prog 50 #[.int .i64 2, .int .i64 c, .slice A1 ds.length c1, .int .i64 x] W fun e w' => e = .returned (.bool false) ∧ Below W.heap.size W w' := fun W hw => by
          have := by_calls 2 (nth4 a b c d 2) A1 c1 ds x W (Kd.C_below HR1.out hw) hc1 hl1 HD.out hday
          rw [show byGo (numK 2) (nth4 a b c d 2) x [] ds = false from hb] at this
          exact this
        have HB := Aside0.mk hb
        clear hb
        have hidx := idx2 a b c d
        go_wp2_with (first | (go_at_call 50; refine (hBy _ hX.out).mono ?_; rintro e w2 ⟨rfl, hb2⟩) | go_in)
        go_roundw
        case rel => exact ⟨3, by omega, by omega, by first | rfl | go_num, congrArg _ (show o = refK a b c d ds x 3 by rw [refK, HB.out, if_neg (by simp), ← HO.out]; omega), hX.out.trans (hb2.mono hX.out.size)⟩
        case measure => simp [intOf]
      · have hBy : ∀ W, Below w.heap.size w W → Calls Try.prog 50 #[.int .i64 2, .int .i64 c, .slice A1 ds.length c1, .int .i64 x] W fun e w' => e = .returned (.bool true) ∧ Below W.heap.size W w' := fun W hw => by
          have := by_calls 2 (nth4 a b c d 2) A1 c1 ds x W (Kd.C_below HR1.out hw) hc1 hl1 HD.out hday
          rw [show byGo (numK 2) (nth4 a b c d 2) x [] ds = true from hb] at this
          exact this
        have HB := Aside0.mk hb
        clear hb
        have hidx := idx2 a b c d
        go_wp2_with (first | (go_at_call 50; refine (hBy _ hX.out).mono ?_; rintro e w2 ⟨rfl, hb2⟩) | go_in)
        go_roundw
        case rel => exact ⟨3, by omega, by omega, by first | rfl | go_num, congrArg _ (show o + 4 = refK a b c d ds x 3 by rw [refK, HB.out, if_pos rfl, ← HO.out]; rfl), hX.out.trans (hb2.mono hX.out.size)⟩
        case measure => simp [intOf]
    · obtain ⟨o, ho⟩ : ∃ o, o = refK a b c d ds x 3 := ⟨_, rfl⟩
      rw [show refK a b c d ds x ((3 : Int).toNat) = o from ho.symm]
      have hob : 0 ≤ o ∧ o ≤ 8 * 3 := by rw [ho]; exact refK_bd a b c d ds x 3
      have HO := Aside0.mk ho
      clear ho
      cases hb : byK a b c d ds x 3
      · have hBy : ∀ W, Below w.heap.size w W → Calls Try.prog 50 #[.int .i64 3, .int .i64 d, .slice A1 ds.length c1, .int .i64 x] W fun e w' => e = .returned (.bool false) ∧ Below W.heap.size W w' := fun W hw => by
          have := by_calls 3 (nth4 a b c d 3) A1 c1 ds x W (Kd.C_below HR1.out hw) hc1 hl1 HD.out hday
          rw [show byGo (numK 3) (nth4 a b c d 3) x [] ds = false from hb] at this
          exact this
        have HB := Aside0.mk hb
        clear hb
        have hidx := idx3 a b c d
        go_wp2_with (first | (go_at_call 50; refine (hBy _ hX.out).mono ?_; rintro e w2 ⟨rfl, hb2⟩) | go_in)
        go_roundw
        case rel => exact ⟨4, by omega, by omega, by first | rfl | go_num, congrArg _ (show o = refK a b c d ds x 4 by rw [refK, HB.out, if_neg (by simp), ← HO.out]; omega), hX.out.trans (hb2.mono hX.out.size)⟩
        case measure => simp [intOf]
      · have hBy : ∀ W, Below w.heap.size w W → Calls Try.prog 50 #[.int .i64 3, .int .i64 d, .slice A1 ds.length c1, .int .i64 x] W fun e w' => e = .returned (.bool true) ∧ Below W.heap.size W w' := fun W hw => by
          have := by_calls 3 (nth4 a b c d 3) A1 c1 ds x W (Kd.C_below HR1.out hw) hc1 hl1 HD.out hday
          rw [show byGo (numK 3) (nth4 a b c d 3) x [] ds = true from hb] at this
          exact this
        have HB := Aside0.mk hb
        clear hb
        have hidx := idx3 a b c d
        go_wp2_with (first | (go_at_call 50; refine (hBy _ hX.out).mono ?_; rintro e w2 ⟨rfl, hb2⟩) | go_in)
        go_roundw
        case rel => exact ⟨4, by omega, by omega, by first | rfl | go_num, congrArg _ (show o + 8 = refK a b c d ds x 4 by rw [refK, HB.out, if_pos rfl, ← HO.out]; rfl), hX.out.trans (hb2.mono hX.out.size)⟩
        case measure => simp [intOf]
    · obtain ⟨o, ho⟩ : ∃ o, o = refK a b c d ds x 4 := ⟨_, rfl⟩
      rw [show refK a b c d ds x ((4 : Int).toNat) = o from ho.symm]
      have hob : 0 ≤ o ∧ o ≤ 8 * 4 := by rw [ho]; exact refK_bd a b c d ds x 4
      have HO := Aside0.mk ho
      clear ho
      cases hb : hs.contains x
      · have hH : ∀ W, Below w.heap.size w W → Calls Try.prog 33 #[.slice A2 hs.length c2, .int .i64 x] W fun e w' => e = .returned (.bool false) ∧ Below W.heap.size W w' := fun W hw => hb ▸ has_calls A2 c2 hs x W (Kd.C_below HR2.out hw) hc2 hl2
        have HB := Aside0.mk hb
        clear hb
        go_wp2_with (first | (go_at_call 33; refine (hH _ hX.out).mono ?_; rintro e w2 ⟨rfl, hb2⟩) | go_in)
        go_ret
        exact ⟨by rw [show refR a b c d ds hs x = o by rw [refR, HB.out, if_neg (by simp), ← HO.out]; omega]; rfl, hX.out.trans (hb2.mono hX.out.size)⟩
      · have hH : ∀ W, Below w.heap.size w W → Calls Try.prog 33 #[.slice A2 hs.length c2, .int .i64 x] W fun e w' => e = .returned (.bool true) ∧ Below W.heap.size W w' := fun W hw => hb ▸ has_calls A2 c2 hs x W (Kd.C_below HR2.out hw) hc2 hl2
        have HB := Aside0.mk hb
        clear hb
        go_wp2_with (first | (go_at_call 33; refine (hH _ hX.out).mono ?_; rintro e w2 ⟨rfl, hb2⟩) | go_in)
        go_ret
        exact ⟨by rw [show refR a b c d ds hs x = o + 16 by rw [refR, HB.out, if_pos rfl, ← HO.out]]; rfl, hX.out.trans (hb2.mono hX.out.size)⟩
end Go.Proofs.Ytbahcpdhadhplaa.Hand
