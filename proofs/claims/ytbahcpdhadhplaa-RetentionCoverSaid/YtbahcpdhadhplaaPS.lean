/- Strictly ascending lists of numbers: the set of a list, sorted; and that sorting and compacting come to it. -/
import Derived.Lib.SlicesCompact
import Derived.Lib.SlKeysI
import Derived.Test.YtbahcpdhadhplaaProg
set_option linter.unusedVariables false
set_option linter.unusedSimpArgs false
namespace Go.Proofs.Ytbahcpdhadhplaa.PS
open Go

def insS (x : Int) : List Int → List Int
  | [] => [x]
  | a :: r => if x < a then x :: a :: r else if x = a then a :: r else a :: insS x r
def setL : List Int → List Int
  | [] => []
  | a :: r => insS a (setL r)
theorem insS_mem (x y : Int) : ∀ l, y ∈ insS x l ↔ y = x ∨ y ∈ l
  | [] => by simp [insS]
  | a :: r => by
    unfold insS
    by_cases h : x < a
    · rw [if_pos h]; simp
    · rw [if_neg h]
      by_cases h2 : x = a
      · rw [if_pos h2]; subst h2; simp
      · rw [if_neg h2, List.mem_cons, insS_mem x y r, List.mem_cons]
        constructor
        · rintro (h | h | h)
          · exact .inr (.inl h)
          · exact .inl h
          · exact .inr (.inr h)
        · rintro (h | h | h)
          · exact .inr (.inl h)
          · exact .inl h
          · exact .inr (.inr h)
theorem insS_lt (x : Int) : ∀ l : List Int, l.Pairwise (· < ·) → (insS x l).Pairwise (· < ·)
  | [], _ => by simp [insS]
  | a :: r, h => by
    obtain ⟨h1, h2⟩ := List.pairwise_cons.1 h
    unfold insS
    by_cases hx : x < a
    · rw [if_pos hx]
      refine List.pairwise_cons.2 ⟨fun y hy => ?_, h⟩
      rcases List.mem_cons.1 hy with rfl | hy
      · exact hx
      · have := h1 y hy; omega
    · rw [if_neg hx]
      by_cases he : x = a
      · rw [if_pos he]; exact h
      · rw [if_neg he]
        refine List.pairwise_cons.2 ⟨fun y hy => ?_, insS_lt x r h2⟩
        rcases (insS_mem x y r).1 hy with rfl | hy
        · omega
        · exact h1 y hy
theorem setL_mem (y : Int) : ∀ l, y ∈ setL l ↔ y ∈ l
  | [] => by simp [setL]
  | a :: r => by rw [setL, insS_mem, setL_mem y r, List.mem_cons]
theorem setL_lt : ∀ l, (setL l).Pairwise (· < ·)
  | [] => by simp [setL]
  | a :: r => insS_lt a _ (setL_lt r)
theorem lt_nodup {l : List Int} (h : l.Pairwise (· < ·)) : l.Nodup := h.imp (fun h e => by omega)
theorem lt_unique {l1 l2 : List Int} (h1 : l1.Pairwise (· < ·)) (h2 : l2.Pairwise (· < ·)) (h : ∀ x, x ∈ l1 ↔ x ∈ l2) : l1 = l2 :=
  List.Perm.eq_of_pairwise (le := fun a b : Int => a < b) (fun a b _ _ h1 h2 => by omega) h1 h2 ((List.perm_ext_iff_of_nodup (lt_nodup h1) (lt_nodup h2)).2 h)
theorem setL_of {l : List Int} (h : l.Pairwise (· < ·)) : setL l = l := lt_unique (setL_lt l) h (fun x => setL_mem x l)
theorem setL_len_le : ∀ l, (setL l).length ≤ l.length
  | [] => Nat.le_refl _
  | a :: r => by
    have h : ∀ l : List Int, (insS a l).length ≤ l.length + 1 := by
      intro l
      induction l with
      | nil => simp [insS]
      | cons b s ih =>
        unfold insS
        split
        · simp
        · split
          · simp
          · simp; omega
    have := h (setL r)
    have := setL_len_le r
    simp [setL]; omega

/-! ### what slices.Compact makes of a sorted list -/
theorem upTo_mem (d : Array Int) (x : Int) : ∀ m, x ∈ Lib.compactUpTo d m ↔ ∃ j, j < m ∧ d[j]! = x
  | 0 => by simp [Lib.compactUpTo]
  | m + 1 => by
    rw [Lib.compactUpTo_succ, List.mem_append, upTo_mem d x m]
    constructor
    · rintro (⟨j, hj, e⟩ | h)
      · exact ⟨j, by omega, e⟩
      · split at h
        · exact ⟨m, by omega, (List.mem_singleton.1 h).symm⟩
        · simp at h
    · rintro ⟨j, hj, e⟩
      by_cases hm : j < m
      · exact .inl ⟨j, hm, e⟩
      · obtain rfl : j = m := by omega
        by_cases hk : Lib.keeps d j = true
        · exact .inr (by rw [if_pos hk, e]; simp)
        · refine .inl ?_
          have h1 : ¬ (j = 0 ∨ d[j]! ≠ d[j - 1]!) := by simpa [Lib.keeps] using hk
          have h2 : j ≠ 0 := fun h => h1 (.inl h)
          have h3 : d[j]! = d[j - 1]! := Decidable.byContradiction (fun h => h1 (.inr h))
          exact ⟨j - 1, by omega, h3.symm.trans e⟩
theorem upTo_lt (d : Array Int) (n : Nat) (hd : ∀ i j, i ≤ j → j < n → d[i]! ≤ d[j]!) : ∀ m, m ≤ n → (Lib.compactUpTo d m).Pairwise (· < ·)
  | 0, _ => by simp [Lib.compactUpTo]
  | m + 1, hm => by
    rw [Lib.compactUpTo_succ]
    split
    · rename_i hk
      have h1 : m = 0 ∨ d[m]! ≠ d[m - 1]! := by simpa [Lib.keeps] using hk
      refine List.pairwise_append.2 ⟨upTo_lt d n hd m (by omega), by simp, fun a ha b hb => ?_⟩
      obtain rfl := List.mem_singleton.1 hb
      obtain ⟨j, hj, rfl⟩ := (upTo_mem d a m).1 ha
      have h2 := hd j (m - 1) (by omega) (by omega)
      have h3 := hd (m - 1) m (by omega) (by omega)
      rcases h1 with h1 | h1
      · omega
      · omega
    · rw [List.append_nil]; exact upTo_lt d n hd m (by omega)
theorem get_toArray (l : List Int) (j : Nat) : l.toArray[j]! = l.getD j 0 := by
  by_cases h : j < l.length
  · simp [h]
  · simp [h]
theorem compact_sorted (l : List Int) (h : l.Pairwise (· ≤ ·)) : Lib.compact l = setL l := by
  refine lt_unique ?_ (setL_lt l) (fun x => ?_)
  · refine upTo_lt l.toArray l.length (fun i j hij hj => ?_) _ (Nat.le_refl _)
    rw [get_toArray, get_toArray]
    rcases Nat.lt_or_ge i j with hlt | hge
    · have := List.pairwise_iff_getElem.1 h i j (by omega) hj hlt
      simpa [List.getD, List.getElem?_eq_getElem, hj, (by omega : i < l.length)] using this
    · obtain rfl : i = j := by omega
      exact Int.le_refl _
  · show x ∈ Lib.compactUpTo _ _ ↔ _
    rw [upTo_mem, setL_mem]
    constructor
    · rintro ⟨j, hj, e⟩
      rw [get_toArray] at e
      rw [← e]
      simp [List.getD, List.getElem?_eq_getElem, hj]
    · intro hx
      obtain ⟨j, hj, e⟩ := List.getElem_of_mem hx
      refine ⟨j, hj, ?_⟩
      rw [get_toArray, ← e]
      simp [List.getD, List.getElem?_eq_getElem, hj]
theorem sort_sorted (l : List Int) : (l.mergeSort leI).Pairwise (· ≤ ·) := by
  have tr : ∀ a b c : Int, leI a b = true → leI b c = true → leI a c = true := fun a b c h1 h2 => by simp only [leI, decide_eq_true_eq] at *; exact Int.le_trans h1 h2
  have to : ∀ a b : Int, (leI a b || leI b a) = true := fun a b => by simp only [leI, Bool.or_eq_true, decide_eq_true_eq]; exact Int.le_total a b
  exact (List.pairwise_mergeSort tr to l).imp (fun h => by simpa [leI] using h)
theorem setL_congr {l l' : List Int} (h : ∀ x, x ∈ l ↔ x ∈ l') : setL l = setL l' := lt_unique (setL_lt l) (setL_lt l') (fun x => by rw [setL_mem, setL_mem, h])
theorem compact_sort (l : List Int) : Lib.compact (l.mergeSort leI) = setL l :=
  (compact_sorted _ (sort_sorted l)).trans (setL_congr (fun x => (List.mergeSort_perm l leI).mem_iff))
/-- Different numbers, sorted: the set. -/
theorem sort_nodup (l : List Int) (h : l.Nodup) : l.mergeSort leI = setL l := by
  refine lt_unique ?_ (setL_lt l) (fun x => by rw [(List.mergeSort_perm l leI).mem_iff, setL_mem])
  have hn : (l.mergeSort leI).Nodup := (List.mergeSort_perm l leI).nodup_iff.2 h
  exact ((sort_sorted l).and hn).imp (fun {a b} h => by have h1 := h.1; have h2 := h.2; omega)
end Go.Proofs.Ytbahcpdhadhplaa.PS
