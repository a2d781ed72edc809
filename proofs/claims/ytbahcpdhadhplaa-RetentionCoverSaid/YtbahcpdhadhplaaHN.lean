/- What retention.Next returns. -/
import Derived.Test.YtbahcpdhadhplaaHG
set_option linter.unusedVariables false
set_option linter.unusedSimpArgs false
namespace Go.Proofs.Ytbahcpdhadhplaa.Hand
open Go.RowKit Go.Maps Go.Sort Go.Proofs.YtbahcpdhadhplaaW.PrintWords Go.Proofs.YtbahcpdhadhplaaW.PrintMore Go.Proofs.Ytbahcpdhadhplaa.PS Go.Proofs.Ytbahcpdhadhplaa.PB Go.Proofs.Ytbahcpdhadhplaa.M

def nextGo (a b c d : Int) (hs : List Int) (day : Int) : Nat → Int → List Int → Int
  | 0, _, _ => 0
  | f + 1, n, all =>
    let nx := all.getLastD 0 + 1
    if dayB nx = true then (if reasF a b c d (all ++ [nx]) hs day = 0 then n else nextGo a b c d hs day f (n + 1) (all ++ [nx])) else 0
def nextR (a b c d : Int) (l1 l2 : List Int) (day limit : Int) : Int × Int :=
  if (reasR a b c d l1 l2 day).2 ≠ 0 then (0, (reasR a b c d l1 l2 day).2) else if limit < 0 ∨ 4000 < limit then (0, 1) else if (reasR a b c d l1 l2 day).1 = 0 then (0, 6) else (nextGo a b c d l2 day limit.toNat 1 (setL l1), 0)
theorem infoI : (Try.prog.info? 3).map (fun i => (i.zero, i.size, i.bytes)) = some (some (.int .i64 0), 1, 8) := by kernel_rfl
theorem reasR_ok {a b c d : Int} {l1 l2 : List Int} {x : Int} (h : (reasR a b c d l1 l2 x).2 = 0) : chk a b c d l1 l2 = 0 ∧ l1.contains x = true := by
  unfold reasR at h
  split at h
  · rename_i h1
    split at h
    · rename_i h2; exact ⟨h1, h2⟩
    · simp at h
  · simp at h
theorem last_step {all : List Int} {m : Nat} {x : Int} (hm : all.length = m + 1) (hx : x = all.getD m 0) (hlt : all.Pairwise (· < ·)) : all.getLastD 0 = x ∧ (all ++ [x + 1]).Pairwise (· < ·) := by
  have hne : all ≠ [] := fun e => by rw [e] at hm; simp at hm
  have e1 : all.getLastD 0 = x := by
    rw [hx, List.getLastD_eq_getLast?, List.getLast?_eq_getElem?, hm, List.getD_eq_getElem?_getD]
    rfl
  refine ⟨e1, List.pairwise_append.2 ⟨hlt, by simp, fun y hy z hz => ?_⟩⟩
  obtain rfl := List.mem_singleton.1 hz
  obtain ⟨i, hi, rfl⟩ := List.getElem_of_mem hy
  have hxm : x = all[m] := by rw [hx, List.getD_eq_getElem?_getD, List.getElem?_eq_getElem (by omega)]; rfl
  rcases Nat.lt_or_ge i m with h | h
  · have := List.pairwise_iff_getElem.1 hlt i m hi (by omega) h
    omega
  · have : i = m := by omega
    subst this
    omega

theorem room1 (m : Nat) (h : m ≤ 1000000) : m + 1 + 1 ≤ maxLen := by unfold maxLen; omega
theorem own_app {w5 : World} {base m : Nat} {all : List Int} {z : Int} {v : Value} (hm : all.length = m + 1) (h : w5.ownsRow base 3 1 v (m + 1 + 1) (all.map (Value.int .i64) ++ [.int .i64 z])) : Own w5 base v (all ++ [z]) := by
  unfold Own
  rw [List.length_append, hm, List.map_append]
  exact h
theorem app_below {w W w3 w5 : World} {base : Nat} {v : Value} {n : Nat} {xs : List Value} {o : Obj} (hX : Below w.heap.size w W) (hb : Below W.heap.size W w3) (ho : w3.ownsRow base 3 1 v n xs) (hg : (w3.alloc o).grownBy w5 v.ownBlock) (hbase : base ≤ W.heap.size) (hwb : w.heap.size ≤ base) : Below w.heap.size w w5 := by
  have h1 : Below w.heap.size w (w3.alloc o) := (hX.trans (hb.mono hX.size)).alloc (Nat.le_trans hX.size hb.size) o
  refine h1.grown hg h1.size (fun k hk => ?_)
  have := (ho.lt k hk).1
  omega
theorem app_box {W w3 w5 : World} {base B : Nat} {v : Value} {n : Nat} {xs : List Value} {o o1 : Obj} (hB : W.heap[B]? = some o1) (hb : Below W.heap.size W w3) (ho : w3.ownsRow base 3 1 v n xs) (hg : (w3.alloc o).grownBy w5 v.ownBlock) (hlt : B < base) : w5.heap[B]? = some o1 := by
  have h1 := (Array.getElem?_eq_some_iff.1 hB).1
  have h2 := hb.size
  refine (hg.block B (by simp; omega) (fun e => ?_)).trans ((Below.heap_alloc _ _ _ (by omega)).trans ((hb.block _ h1).trans hB))
  have := (ho.lt B e.symm).1
  omega
set_option maxRecDepth 100000 in
set_option maxHeartbeats 800000 in
theorem Next_calls (a b c d : Int) (A1 A2 : Option Addr) (c1 c2 : Nat) (l1 l2 : List Int) (x lim : Int) (w : World) (hr1 : Kd.C (Kd.int .i64) w A1 l1.length l1) (hr2 : Kd.C (Kd.int .i64) w A2 l2.length l2) (hl1 : l1.length ≤ 50000) (hl2 : l2.length ≤ 1000000) :
    Calls Try.prog 26 #[.agg #[.int .i64 a, .int .i64 b, .int .i64 c, .int .i64 d], .slice A1 l1.length c1, .slice A2 l2.length c2, .int .i64 x, .int .i64 lim] w fun e w' =>
    e = .returned (.tuple #[.int .i64 (nextR a b c d l1 l2 x lim).1, .int .i64 (nextR a b c d l1 l2 x lim).2]) ∧ Below w.heap.size w w' := by
  have HR1 := Aside0.mk hr1
  have HR2 := Aside0.mk hr2
  clear hr1 hr2
  obtain ⟨r, e0, hre⟩ : ∃ r e0, reasR a b c d l1 l2 x = (r, e0) := ⟨_, _, rfl⟩
  have hC : ∀ W, Below w.heap.size w W → Calls Try.prog 15 #[.agg #[.int .i64 a, .int .i64 b, .int .i64 c, .int .i64 d], .slice A1 l1.length c1, .slice A2 l2.length c2, .int .i64 x] W fun e w' => e = .returned (.tuple #[.int .i64 r, .int .i64 e0]) ∧ Below W.heap.size W w' := fun W hb => by
    have := Reasons_calls a b c d A1 A2 c1 c2 l1 l2 x W (Kd.C_below HR1.out hb) (Kd.C_below HR2.out hb) (by omega) hl2
    rw [hre] at this
    exact this
  have HE := Aside0.mk hre
  clear hre
  by_cases he : e0 = 0
  · subst he
    by_cases hlim : lim < 0 ∨ 4000 < lim
    · have HL := Aside0.mk hlim
      have hfin : nextR a b c d l1 l2 x lim = (0, 1) := by simp only [nextR, HE.out]; rw [if_neg (by simp), if_pos HL.out]
      rw [hfin]
      clear hfin
      rcases hlim with hlim | hlim
      · go_enter Try.func26, Try.ntmps26
        go_wp2_with (first | (go_at_call 15; refine (hC _ ((Below.refl _ _).alloc (Nat.le_refl _) _)).mono ?_; rintro e w1 ⟨rfl, hb1⟩; have hX1 : Below w.heap.size w w1 := ((Below.refl _ _).alloc (Nat.le_refl _) _).trans (hb1.mono (by simp))) | go_in)
        go_ret2
        exact ⟨rfl, hX1⟩
      · have hl0 : ¬ lim < 0 := by omega
        go_enter Try.func26, Try.ntmps26
        go_wp2_with (first | (go_at_call 15; refine (hC _ ((Below.refl _ _).alloc (Nat.le_refl _) _)).mono ?_; rintro e w1 ⟨rfl, hb1⟩; have hX1 : Below w.heap.size w w1 := ((Below.refl _ _).alloc (Nat.le_refl _) _).trans (hb1.mono (by simp))) | go_in)
        go_ret2
        exact ⟨rfl, hX1⟩
    · have hl0 : 0 ≤ lim := by omega
      have hl4 : lim ≤ 4000 := by omega
      by_cases hr0 : r = 0
      · subst hr0
        have hfin : nextR a b c d l1 l2 x lim = (0, 6) := by simp only [nextR, HE.out]; rw [if_neg (by simp), if_neg hlim]; simp
        rw [hfin]
        clear hfin
        go_enter Try.func26, Try.ntmps26
        go_wp2_with (first | (go_at_call 15; refine (hC _ ((Below.refl _ _).alloc (Nat.le_refl _) _)).mono ?_; rintro e w1 ⟨rfl, hb1⟩; have hX1 : Below w.heap.size w w1 := ((Below.refl _ _).alloc (Nat.le_refl _) _).trans (hb1.mono (by simp))) | go_in)
        go_ret2
        exact ⟨rfl, hX1⟩
      · have hfin : nextR a b c d l1 l2 x lim = (nextGo a b c d l2 x lim.toNat 1 (setL l1), 0) := by simp only [nextR, HE.out]; rw [if_neg (by simp), if_neg hlim, if_neg hr0]
        rw [hfin]
        clear hfin hlim
        obtain ⟨hk, hin⟩ := reasR_ok (by rw [HE.out] : (reasR a b c d l1 l2 x).2 = 0)
        obtain ⟨hv, hd1, hd2⟩ := chk_ok hk
        have hxd : 0 ≤ x ∧ x ≤ 999999 := by
          have := List.all_eq_true.1 hd1 x (by simpa using hin)
          simpa [dayB] using this
        have hkey : keyOf Try.prog 3 (.int .i64 x) = some (.int .i64 x) := keyOf_int_mk Try.underlying3 (wf64 (by omega) (by omega))
        have HV := Aside0.mk hv
        have HD1 := Aside0.mk hd1
        have HD2 := Aside0.mk hd2
        have HI := Aside0.mk hin
        clear hv hd1 hd2 hin hk
        have hset := setL_len_le l1
        obtain ⟨i0, hi, hz0, hz1, hz2⟩ := info_parts infoI
        go_enter Try.func26, Try.ntmps26
        go_wp2_with (first
          | (go_at_call 15; refine (hC _ ((Below.refl _ _).alloc (Nat.le_refl _) _)).mono ?_; rintro e w1 ⟨rfl, hb1⟩; have hX1 : Below w.heap.size w w1 := ((Below.refl _ _).alloc (Nat.le_refl _) _).trans (hb1.mono (by simp)); have hk1 := (hb1.block w.heap.size (by simp)).trans (one_new _ _); have hs1 := (Array.getElem?_eq_some_iff.1 hk1).1)
          | (go_at_call 31; refine (set_calls A1 c1 l1 _ (Kd.C_below HR1.out hX1) (by omega)).mono ?_; rintro e w2 ⟨v2, rfl, ho2, hb2⟩; have hX2 := hX1.trans (hb2.mono hX1.size); have hk2 := (hb2.block w.heap.size hs1).trans hk1)
          | go_in)
        go_loopw [14, 15] (fun v i wr => ∃ (j : Nat) (all : List Int), i = .int .i64 ((j : Int) + 1) ∧ (j : Int) ≤ lim ∧ Own wr w1.heap.size v all ∧ all.length = (setL l1).length + j ∧ 0 < (setL l1).length ∧ all.Pairwise (· < ·) ∧ all.all dayB = true ∧ nextGo a b c d l2 x lim.toNat 1 (setL l1) = nextGo a b c d l2 x (lim.toNat - j) ((j : Int) + 1) all ∧ wr.heap[w.heap.size]? = some (.cells #[.int .i64 a, .int .i64 b, .int .i64 c, .int .i64 d] 23 (0, 0)) ∧ Below w.heap.size w wr ∧ w1.heap.size ≤ wr.heap.size) (fun _ i _ => lim.toNat + 1 - (intOf i).toNat)
        case atStart =>
          refine ⟨0, setL l1, rfl, by omega, ho2, rfl, ?_, setL_lt l1, set_all HD1.out, by simp, hk2, hX2, hb2.size⟩
          have hm : x ∈ setL l1 := (setL_mem x l1).2 (by simpa using HI.out)
          exact List.length_pos_of_mem hm
        case round =>
          obtain ⟨j, all, rfl, hj, hown, hlen, hpos, hlt, hday, hgo, hbox, hbel, hsz⟩ := hrel
          obtain ⟨W, hW⟩ : ∃ W, W = wr := ⟨_, rfl⟩
          subst hW
          obtain ⟨m, hm⟩ : ∃ m, all.length = m + 1 := ⟨all.length - 1, by omega⟩
          obtain ⟨-, rfl⟩ | ⟨g, cap, cur, rfl, hg, hgl, hh, h3, h4, h5, h6⟩ := hown.cases
          · simp at hm
          have hO := Aside0.mk hown
          have hLT := Aside0.mk hlt
          have hDY := Aside0.mk hday
          have hGO := Aside0.mk hgo
          have hX := Aside0.mk hbel
          have hB := Aside0.mk hbox
          obtain ⟨z, hz⟩ : ∃ z, z = all.getD m 0 := ⟨_, rfl⟩
          have hzc : W.cell? ⟨g, m, none⟩ = some (.int .i64 z) := by
            have := (holds_of_block_i hh h6) m (by simp; omega)
            rw [Nat.zero_add, get_toArray, ← hz] at this
            exact this.1
          have hzd : 0 ≤ z ∧ z ≤ 999999 := day_at hday (by omega) hz
          obtain ⟨e1, e2⟩ := last_step hm hz hlt
          have hE1 := Aside0.mk e1
          have hE2 := Aside0.mk e2
          have hs0 := (Array.getElem?_eq_some_iff.1 hbox).1
          have hw1 : w.heap.size ≤ w1.heap.size := Nat.le_of_lt hs1
          clear hown hlt hday hgo hbel hbox h3 h4 h5 h6 hh hz e1 e2 hk1 hk2 hX1 hb1 hb2 ho2
          rw [hm]
          by_cases hjl : (j : Int) + 1 ≤ lim
          · obtain ⟨q, hq⟩ : ∃ q, lim.toNat - j = q + 1 := ⟨lim.toNat - j - 1, by omega⟩
            by_cases hzn : z + 1 ≤ 999999
            · have hD : ∀ V, Calls Try.prog 38 #[.int .i64 (z + 1)] V fun e w' => e = .returned (.bool true) ∧ Below V.heap.size V w' := fun V => by
                have := isDay_calls (z + 1) V
                rwa [show dayB (z + 1) = true by simp [dayB]; omega] at this
              have hAd : (all ++ [z + 1]).all dayB = true := by rw [List.all_append, hDY.out]; simp [dayB]; omega
              have hAd' := Aside0.mk hAd
              clear hAd
              have hal : (all ++ [z + 1]).length ≤ 100000 := by rw [List.length_append]; simp; omega
              obtain ⟨T, hT⟩ : ∃ T, T = all ++ [z + 1] := ⟨_, rfl⟩
              have hTlt : T.Pairwise (· < ·) := by rw [hT]; exact hE2.out
              have hTd : T.all dayB = true := by rw [hT]; exact hAd'.out
              have hTl : T.length ≤ 100000 := by rw [hT]; exact hal
              have HT := Aside0.mk hT
              have HT1 := Aside0.mk hTlt
              have HT2 := Aside0.mk hTd
              clear hT hTlt hTd hal
              obtain ⟨F, hF⟩ : ∃ F, F = reasF a b c d T l2 := ⟨_, rfl⟩
              have HF := Aside0.mk hF
              clear hF
              by_cases hf0 : F x = 0
              · have hF0 := Aside0.mk hf0
                go_wp2_with (first
                  | (go_at_call 38; refine (hD _).mono ?_; rintro e w3 ⟨rfl, hb3⟩; have ho3 : Own w3 w1.heap.size (.slice (some ⟨g, 0, none⟩) (m + 1) cap) all := (hm ▸ hO.out).step hb3; have hso3 := hb3.size; have hown3 : w3.ownsRow w1.heap.size 3 1 (.slice (some ⟨g, 0, none⟩) (m + 1) cap) (m + 1) (all.map (Value.int .i64)) := by have := ho3; unfold Own at this; rw [hm] at this; exact this)
                  | (at_builtin; refine wpList_append_own _ rfl (.tmp 56) (.tmp 58) 26 rfl w1.heap.size 3 i0 (.int .i64 0) 1 8 Try.underlying26 hi hz0 hz1 hz2 rfl (by decide) _ _ _ rfl (hown3.alloc _) ⟨w3.heap.size, 0, none⟩ 1 1 [.int .i64 (z + 1)] rfl rfl (cell_one_new _ _ _) (ints_oneCell .i64 [z + 1]) (room1 _ (by omega)) (by omega) (by simp; omega) ?_; intro v5 w5 hown5 hgrow5 hnil5; have ho5 : Own w5 w1.heap.size v5 T := HT.out ▸ own_app hm hown5; have hs5 := hgrow5.size; obtain ⟨A5, c5, rfl, hc5, hC5⟩ := ho5.reads; have hX5 := app_below hX.out hb3 hown3 hgrow5 hsz hw1; have hB5 := app_box hB.out hb3 hown3 hgrow5 hs1; have q0 := cell_of_heap hB5 0 _ rfl; have q1 := cell_of_heap hB5 1 _ rfl; have q2 := cell_of_heap hB5 2 _ rfl; have q3 := cell_of_heap hB5 3 _ rfl)
                  | (go_at_call 30; refine (reasons_calls a b c d A5 A2 c5 c2 T l2 _ hC5 (Kd.C_below HR2.out hX5) hTl hl2 hc5 HV.out HT2.out HD2.out HT1.out).mono ?_; rintro e w6 ⟨n6, D6, S6, rfl, ho6, hr6, hb6⟩)
                  | (at_lookup; refine wpList_lookup_own_int _ rfl _ _ 47 rfl 3 3 .i64 law3 Try.underlying47 Try.underlying3 (zero3 _) (w5.heap.size + 1) n6 D6 rfl ho6 _ _ rfl hkey ?_; intro c0 hat0 hwc0; obtain rfl : c0 = F x := (lit_inj (hat0.symm.trans (hr6.2.2 x))).trans (by rw [HF.out]))
                  | go_in)
                go_ret2
                have hfin : nextGo a b c d l2 x lim.toNat 1 (setL l1) = (j : Int) + 1 := by
                  rw [hGO.out, hq, nextGo, hE1.out, if_pos (by simp [dayB]; omega), if_pos (by rw [← HT.out, ← HF.out]; exact hF0.out)]
                exact ⟨by rw [hfin]; rfl, hX5.trans (hb6.mono hX5.size)⟩
              · have hF0 := Aside0.mk hf0
                go_wp2_with (first
                  | (go_at_call 38; refine (hD _).mono ?_; rintro e w3 ⟨rfl, hb3⟩; have ho3 : Own w3 w1.heap.size (.slice (some ⟨g, 0, none⟩) (m + 1) cap) all := (hm ▸ hO.out).step hb3; have hso3 := hb3.size; have hown3 : w3.ownsRow w1.heap.size 3 1 (.slice (some ⟨g, 0, none⟩) (m + 1) cap) (m + 1) (all.map (Value.int .i64)) := by have := ho3; unfold Own at this; rw [hm] at this; exact this)
                  | (at_builtin; refine wpList_append_own _ rfl (.tmp 56) (.tmp 58) 26 rfl w1.heap.size 3 i0 (.int .i64 0) 1 8 Try.underlying26 hi hz0 hz1 hz2 rfl (by decide) _ _ _ rfl (hown3.alloc _) ⟨w3.heap.size, 0, none⟩ 1 1 [.int .i64 (z + 1)] rfl rfl (cell_one_new _ _ _) (ints_oneCell .i64 [z + 1]) (room1 _ (by omega)) (by omega) (by simp; omega) ?_; intro v5 w5 hown5 hgrow5 hnil5; have ho5 : Own w5 w1.heap.size v5 T := HT.out ▸ own_app hm hown5; have hs5 := hgrow5.size; obtain ⟨A5, c5, rfl, hc5, hC5⟩ := ho5.reads; have hX5 := app_below hX.out hb3 hown3 hgrow5 hsz hw1; have hB5 := app_box hB.out hb3 hown3 hgrow5 hs1; have q0 := cell_of_heap hB5 0 _ rfl; have q1 := cell_of_heap hB5 1 _ rfl; have q2 := cell_of_heap hB5 2 _ rfl; have q3 := cell_of_heap hB5 3 _ rfl)
                  | (go_at_call 30; refine (reasons_calls a b c d A5 A2 c5 c2 T l2 _ hC5 (Kd.C_below HR2.out hX5) hTl hl2 hc5 HV.out HT2.out HD2.out HT1.out).mono ?_; rintro e w6 ⟨n6, D6, S6, rfl, ho6, hr6, hb6⟩)
                  | (at_lookup; refine wpList_lookup_own_int _ rfl _ _ 47 rfl 3 3 .i64 law3 Try.underlying47 Try.underlying3 (zero3 _) (w5.heap.size + 1) n6 D6 rfl ho6 _ _ rfl hkey ?_; intro c0 hat0 hwc0; obtain rfl : c0 = F x := (lit_inj (hat0.symm.trans (hr6.2.2 x))).trans (by rw [HF.out]))
                  | go_in)
                go_roundw
                case rel =>
                  refine ⟨j + 1, T, by go_num, by omega, ?_, by rw [HT.out, List.length_append, hlen]; simp; omega, hpos, HT1.out, HT2.out, ?_, (hb6.block _ (Array.getElem?_eq_some_iff.1 hB5).1).trans hB5, hX5.trans (hb6.mono hX5.size), ?_⟩
                  · exact ho5.step hb6
                  · rw [hGO.out, hq, nextGo, hE1.out, if_pos (by simp [dayB]; omega), if_neg (by rw [← HT.out, ← HF.out]; exact hF0.out)]
                    rw [show lim.toNat - (j + 1) = q by omega, HT.out]
                    push_cast
                    rfl
                  · exact Nat.le_trans hsz (Nat.le_trans hso3 (Nat.le_trans (by simp at hs5; omega) hb6.size))
                case measure => simp [intOf]; omega
            · have hD : ∀ V, Calls Try.prog 38 #[.int .i64 (z + 1)] V fun e w' => e = .returned (.bool false) ∧ Below V.heap.size V w' := fun V => by
                have := isDay_calls (z + 1) V
                rwa [show dayB (z + 1) = false by simp [dayB]; omega] at this
              go_wp2_with (first | (go_at_call 38; refine (hD _).mono ?_; rintro e w3 ⟨rfl, hb3⟩) | go_in)
              go_ret2
              have hfin : nextGo a b c d l2 x lim.toNat 1 (setL l1) = 0 := by
                rw [hGO.out, hq, nextGo, hE1.out, if_neg (by simp [dayB]; omega)]
              exact ⟨by rw [hfin]; rfl, hX.out.trans (hb3.mono hX.out.size)⟩
          · go_wp2
            go_ret2
            have hfin : nextGo a b c d l2 x lim.toNat 1 (setL l1) = 0 := by
              rw [hGO.out, show lim.toNat - j = 0 by omega, nextGo]
            exact ⟨by rw [hfin]; rfl, hX.out⟩
  · have hfin : nextR a b c d l1 l2 x lim = (0, e0) := by simp only [nextR, HE.out]; rw [if_pos he]
    rw [hfin]
    clear hfin
    go_enter Try.func26, Try.ntmps26
    go_wp2_with (first | (go_at_call 15; refine (hC _ ((Below.refl _ _).alloc (Nat.le_refl _) _)).mono ?_; rintro e w1 ⟨rfl, hb1⟩; have hX1 : Below w.heap.size w w1 := ((Below.refl _ _).alloc (Nat.le_refl _) _).trans (hb1.mono (by simp))) | go_in)
    go_ret2
    exact ⟨rfl, hX1⟩
end Go.Proofs.Ytbahcpdhadhplaa.Hand
