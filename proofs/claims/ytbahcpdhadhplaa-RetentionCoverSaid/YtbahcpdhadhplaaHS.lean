/- What retention.set returns: the days, ascending, each once. -/
import Derived.Test.YtbahcpdhadhplaaPS
import Derived.Test.YtbahcpdhadhplaaShelf
import Derived.Test.YtbahcpdhadhplaaM0
import Derived.Below
import Derived.OwnWalk
import Derived.Tactics
import Derived.WalkKit
import Derived.KernelRfl
import Derived.Lib.Hide
set_option linter.unusedVariables false
set_option linter.unusedSimpArgs false
namespace Go.Proofs.Ytbahcpdhadhplaa.Hand
open Go.RowKit Go.Sort Go.Proofs.YtbahcpdhadhplaaW.PrintWords Go.Proofs.YtbahcpdhadhplaaW.PrintMore Go.Proofs.Ytbahcpdhadhplaa.PS

/-! ### slices of ints as the walks want them -/
/-- v is a slice of the call's own that holds the numbers xs. -/
def Own (w : World) (base : Nat) (v : Value) (xs : List Int) : Prop := w.ownsRow base 3 1 v xs.length (xs.map (Value.int .i64))
theorem Own.R {w : World} {base : Nat} {v : Value} {xs : List Int} (h : Own w base v xs) : Kd.R (Kd.int .i64) 3 w base (fun _ => True) v xs := Kd.R_of_own h (fun _ _ => trivial)
theorem Own.ofR {w : World} {base : Nat} {ok : Nat → Prop} {v : Value} {xs : List Int} (h : Kd.R (Kd.int .i64) 3 w base ok v xs) : Own w base v xs := Kd.own_of_R h
theorem Own.step {w w1 : World} {base : Nat} {v : Value} {xs : List Int} (h : Own w base v xs) (hb : Below w.heap.size w w1) : Own w1 base v xs := Own.ofR (Kd.R_below h.R hb)
theorem C_cells {w : World} {A : Option Addr} {l : List Int} (h : Kd.C (Kd.int .i64) w A l.length l) (hn : 0 < l.length) :
    ∃ b off, A = some ⟨b, off, none⟩ ∧ b < w.heap.size ∧ ∀ j, j < l.length → w.cell? ⟨b, off + j, none⟩ = some (.int .i64 (l.getD j 0)) := by
  obtain ⟨_, _, h3⟩ := h
  obtain ⟨ad, rfl, hc⟩ := h3 hn
  have hcell : ∀ j, j < l.length → w.cell? (ad.add j) = some (.int .i64 (l.getD j 0)) := by
    intro j hj
    obtain ⟨c, hl, hk, hcc⟩ := hc j _ (List.getElem?_eq_getElem hj)
    have hk' : c = [.int .i64 l[j]] := hk
    subst hk'
    have := hcc 0 _ rfl
    rw [show j * (Kd.int .i64).sz + 0 = j from Nat.mul_one j] at this
    rw [this, List.getD_eq_getElem?_getD, List.getElem?_eq_getElem hj]
    rfl
  obtain ⟨b, off, sp⟩ := ad
  have h0 := hcell 0 hn
  have hsp : sp = none := by
    cases sp with
    | none => rfl
    | some s =>
      simp only [World.cell?, Addr.add] at h0
      split at h0 <;> simp at h0
  subst hsp
  exact ⟨b, off, rfl, World.block_lt_of_cell? w _ h0, fun j hj => by
    have h := hcell j hj
    by_cases h0 : j = 0
    · subst h0; simpa [Addr.add] using h
    · simpa [Addr.add, h0] using h⟩
theorem Own.cases {w : World} {base : Nat} {v : Value} {xs : List Int} (h : Own w base v xs) :
    (v = .slice none 0 0 ∧ xs = []) ∨ ∃ g cap cur, v = .slice (some ⟨g, 0, none⟩) xs.length cap ∧ base ≤ g ∧ g < w.heap.size ∧ w.heap[g]? = some (.cells cur 3 (0, 0)) ∧ xs.length ≤ cap ∧ cap ≤ maxLen ∧ cur.size = cap * 1 ∧ cur.toList.take xs.length = xs.map (Value.int .i64) := by
  obtain ⟨h1, h2 | ⟨g, cap, cur, rfl, hg, hh, h3, h4, h5, h6⟩⟩ := h
  · exact .inl ⟨h2.1, List.length_eq_zero_iff.1 h2.2⟩
  · exact .inr ⟨g, cap, cur, rfl, hg, (Array.getElem?_eq_some_iff.1 hh).1, hh, h3, h4, h5, by rw [Nat.mul_one] at h6; exact h6⟩
theorem Own.reads {w : World} {base : Nat} {v : Value} {xs : List Int} (h : Own w base v xs) : ∃ A c, v = .slice A xs.length c ∧ xs.length ≤ c ∧ Kd.C (Kd.int .i64) w A xs.length xs := Kd.R_reads h.R

/-! ### slices.Clone, Sort, Compact -/
theorem clone_any (A : Option Addr) (c : Nat) (l : List Int) (w : World) (hr : Kd.C (Kd.int .i64) w A l.length l) (hl : l.length ≤ 1000000) :
    Calls Try.prog 46 #[.slice A l.length c] w fun e w' => ∃ v, e = .returned v ∧ Own w' w.heap.size v l ∧ Below w.heap.size w w' := by
  by_cases hn : 0 < l.length
  · obtain ⟨b, off, rfl, hb, hc⟩ := C_cells hr hn
    refine (Try.slices_Clone_int b off l.length c l w (Nat.le_refl _) (by omega) hc).mono ?_
    rintro e w' ⟨v, rfl, ho, _, hb⟩
    refine ⟨v, rfl, ?_, hb⟩
    rw [List.take_length] at ho
    exact ho
  · obtain rfl : l = [] := List.length_eq_zero_iff.1 (by omega)
    cases A with
    | none =>
      refine (Try.slices_Clone_int_nil 0 c w).mono ?_
      rintro e w' ⟨rfl, rfl⟩
      exact ⟨_, rfl, World.ownsRow_nil _ _ _ _, Below.refl _ _⟩
    | some a =>
      refine (Try.slices_Clone_int_zero a c w).mono ?_
      rintro e w' ⟨v, rfl, ho, _, hb⟩
      exact ⟨v, rfl, ho, hb⟩
theorem sort_any (base : Nat) (v : Value) (l : List Int) (w : World) (h : Own w base v l) (hl : l.length ≤ 1000000) (hbase : base ≤ w.heap.size) :
    Calls Try.prog 47 #[v] w fun e w' => (∃ u, e = .returned u) ∧ Own w' base v (l.mergeSort leI) ∧ Below base w w' := by
  obtain ⟨rfl, rfl⟩ | ⟨g, cap, cur, rfl, hg, hlt, hh, h3, h4, h5, h6⟩ := h.cases
  · refine (AnyM.slices_Sort_int_none Try.sortA none 0 w).mono ?_
    rintro e w' ⟨rfl, q⟩
    refine ⟨⟨_, rfl⟩, ?_, ?_⟩
    · rw [List.mergeSort_nil]; exact World.ownsRow_nil _ _ _ _
    · subst q; exact Below.refl _ _
  · refine (AnyM.slices_Sort_int Try.sortA g 0 cap l w (holds_of_block_i hh h6) hlt (by omega)).mono ?_
    rintro e w' ⟨rfl, n, os, rfl⟩
    have hlen : (l.mergeSort leI).length = l.length := List.length_mergeSort l
    refine ⟨⟨_, rfl⟩, ?_, ?_⟩
    · have := ownsRow_sorted_i (n := n) (os := os) (ts := l.mergeSort leI) (ss := l) hlen hg hh h3 h4 h5
      show World.ownsRow _ _ _ _ _ (l.mergeSort leI).length _
      rw [hlen]
      exact this
    · exact Below.grown (Below.refl _ _) (grownBy_sorted_i _) hbase (fun k hk => by cases hk; exact hg)
theorem compact_any (base : Nat) (v : Value) (l : List Int) (w : World) (h : Own w base v l) (hl : l.length ≤ 1000000) (hbase : base ≤ w.heap.size) :
    Calls Try.prog 48 #[v] w fun e w' => ∃ u, e = .returned u ∧ Own w' base u (Lib.compact l) ∧ Below base w w' := by
  obtain ⟨rfl, rfl⟩ | ⟨g, cap, cur, rfl, hg, hlt, hh, h3, h4, h5, h6⟩ := h.cases
  · refine (Try.slices_Compact_int_empty none 0 w).mono ?_
    rintro e w' ⟨rfl, rfl⟩
    exact ⟨_, rfl, World.ownsRow_nil _ _ _ _, Below.refl _ _⟩
  · refine (Try.slices_Compact_int g 0 cap l w (holds_of_block_i hh h6) (by omega) h3).mono ?_
    rintro e w' ⟨rfl, q, rfl⟩
    have hle : (Lib.compact l).length ≤ l.length := by
      show (List.map _ _).length ≤ _
      rw [List.length_map]
      exact Nat.le_trans (List.length_filter_le _ _) (by simp)
    have hlen : (Lib.compact l ++ List.replicate (l.length - (Lib.compact l).length) 0).length = l.length := by simp; omega
    have e0 : putRow (Value.int .i64) (Sort.ahead w q) g 0 (Lib.compact l ++ List.replicate (l.length - (Lib.compact l).length) 0).toArray = grow (putRow encZ (Sort.ahead w q) g 0 (Lib.compact l ++ List.replicate (l.length - (Lib.compact l).length) 0).toArray) #[] := by simp
    refine ⟨_, rfl, ?_, ?_⟩
    · have := ownsRow_sorted_i (n := q) (os := #[]) (ts := Lib.compact l ++ List.replicate (l.length - (Lib.compact l).length) 0) (ss := l) hlen hg hh h3 h4 h5
      rw [← e0] at this
      have t := own_take this hle
      unfold Own
      simpa using t
    · rw [e0]
      exact Below.grown (Below.refl _ _) (grownBy_sorted_i _) hbase (fun k hk => by cases hk; exact hg)

set_option maxHeartbeats 1000000 in
theorem set_calls (A : Option Addr) (c : Nat) (l : List Int) (w : World) (hr : Kd.C (Kd.int .i64) w A l.length l) (hl : l.length ≤ 1000000) :
    Calls Try.prog 31 #[.slice A l.length c] w fun e w' => ∃ v, e = .returned v ∧ Own w' w.heap.size v (setL l) ∧ Below w.heap.size w w' := by
  go_enter Try.func31, Try.ntmps31
  go_wp2_with (first
    | (go_at_call 46; refine (clone_any A c l _ hr hl).mono ?_; rintro e w1 ⟨v1, rfl, ho1, hb1⟩)
    | (go_at_call 47; refine (sort_any w.heap.size _ l _ ho1 hl hb1.size).mono ?_; rintro e w2 ⟨⟨u2, rfl⟩, ho2, hb2⟩)
    | (go_at_call 48; refine (compact_any w.heap.size _ _ _ ho2 (by rw [List.length_mergeSort]; exact hl) (Nat.le_trans hb1.size hb2.size)).mono ?_; rintro e w3 ⟨v3, rfl, ho3, hb3⟩)
    | go_in)
  go_ret
  rw [compact_sort] at ho3
  exact ⟨_, rfl, ho3, (hb1.trans hb2).trans hb3⟩
end Go.Proofs.Ytbahcpdhadhplaa.Hand
