/- Strictly ascending lists of numbers: the set of a list, sorted; and that sorting and compacting come to it. What retention.kinds and retention.Valid return. What retention.set returns: the days, ascending, each once. What retention.check returns. -/
import Derived.Lib.SlicesCompact
import Derived.Lib.SlKeysI
import Derived.Test.YtbahcpdhadhplaaProg
import Derived.Below
import Derived.OwnWalk
import Derived.Tactics
import Derived.WalkKit
import Derived.KernelRfl
import Derived.Laws.EntriesVeiled
import Derived.Lib.Hide
import Derived.Test.YtbahcpdhadhplaaM0
import Derived.Test.YtbahcpdhadhplaaShelfB
set_option linter.unusedVariables false
set_option linter.unusedSimpArgs false
namespace Go.Proofs.Ytbahcpdhadhplaa.PS
open Go

def insS (x : Int) : List Int → List Int
  | [] => [x]
  | a :: r => if x < a then x :: a :: r else if x = a then a :: r else a :: insS x r
def setL : List Int → List Int
  | [] => []
  | a :: r => insS a (setL r)
theorem insS_mem (x y : Int) : ∀ l, y ∈ insS x l ↔ y = x ∨ y ∈ l
  | [] => by simp [insS]
  | a :: r => by
    unfold insS
    by_cases h : x < a
    · rw [if_pos h]; simp
    · rw [if_neg h]
      by_cases h2 : x = a
      · rw [if_pos h2]; subst h2; simp
      · rw [if_neg h2, List.mem_cons, insS_mem x y r, List.mem_cons]
        constructor
        · rintro (h | h | h)
          · exact .inr (.inl h)
          · exact .inl h
          · exact .inr (.inr h)
        · rintro (h | h | h)
          · exact .inr (.inl h)
          · exact .inl h
          · exact .inr (.inr h)
theorem insS_lt (x : Int) : ∀ l : List Int, l.Pairwise (· < ·) → (insS x l).Pairwise (· < ·)
  | [], _ => by simp [insS]
  | a :: r, h => by
    obtain ⟨h1, h2⟩ := List.pairwise_cons.1 h
    unfold insS
    by_cases hx : x < a
    · rw [if_pos hx]
      refine List.pairwise_cons.2 ⟨fun y hy => ?_, h⟩
      rcases List.mem_cons.1 hy with rfl | hy
      · exact hx
      · have := h1 y hy; omega
    · rw [if_neg hx]
      by_cases he : x = a
      · rw [if_pos he]; exact h
      · rw [if_neg he]
        refine List.pairwise_cons.2 ⟨fun y hy => ?_, insS_lt x r h2⟩
        rcases (insS_mem x y r).1 hy with rfl | hy
        · omega
        · exact h1 y hy
theorem setL_mem (y : Int) : ∀ l, y ∈ setL l ↔ y ∈ l
  | [] => by simp [setL]
  | a :: r => by rw [setL, insS_mem, setL_mem y r, List.mem_cons]
theorem setL_lt : ∀ l, (setL l).Pairwise (· < ·)
  | [] => by simp [setL]
  | a :: r => insS_lt a _ (setL_lt r)
theorem lt_nodup {l : List Int} (h : l.Pairwise (· < ·)) : l.Nodup := h.imp (fun h e => by omega)
theorem lt_unique {l1 l2 : List Int} (h1 : l1.Pairwise (· < ·)) (h2 : l2.Pairwise (· < ·)) (h : ∀ x, x ∈ l1 ↔ x ∈ l2) : l1 = l2 :=
  List.Perm.eq_of_pairwise (le := fun a b : Int => a < b) (fun a b _ _ h1 h2 => by omega) h1 h2 ((List.perm_ext_iff_of_nodup (lt_nodup h1) (lt_nodup h2)).2 h)
theorem setL_of {l : List Int} (h : l.Pairwise (· < ·)) : setL l = l := lt_unique (setL_lt l) h (fun x => setL_mem x l)
theorem setL_len_le : ∀ l, (setL l).length ≤ l.length
  | [] => Nat.le_refl _
  | a :: r => by
    have h : ∀ l : List Int, (insS a l).length ≤ l.length + 1 := by
      intro l
      induction l with
      | nil => simp [insS]
      | cons b s ih =>
        unfold insS
        split
        · simp
        · split
          · simp
          · simp; omega
    have := h (setL r)
    have := setL_len_le r
    simp [setL]; omega

/-! ### what slices.Compact makes of a sorted list -/
theorem upTo_mem (d : Array Int) (x : Int) : ∀ m, x ∈ Lib.compactUpTo d m ↔ ∃ j, j < m ∧ d[j]! = x
  | 0 => by simp [Lib.compactUpTo]
  | m + 1 => by
    rw [Lib.compactUpTo_succ, List.mem_append, upTo_mem d x m]
    constructor
    · rintro (⟨j, hj, e⟩ | h)
      · exact ⟨j, by omega, e⟩
      · split at h
        · exact ⟨m, by omega, (List.mem_singleton.1 h).symm⟩
        · simp at h
    · rintro ⟨j, hj, e⟩
      by_cases hm : j < m
      · exact .inl ⟨j, hm, e⟩
      · obtain rfl : j = m := by omega
        by_cases hk : Lib.keeps d j = true
        · exact .inr (by rw [if_pos hk, e]; simp)
        · refine .inl ?_
          have h1 : ¬ (j = 0 ∨ d[j]! ≠ d[j - 1]!) := by simpa [Lib.keeps] using hk
          have h2 : j ≠ 0 := fun h => h1 (.inl h)
          have h3 : d[j]! = d[j - 1]! := Decidable.byContradiction (fun h => h1 (.inr h))
          exact ⟨j - 1, by omega, h3.symm.trans e⟩
theorem upTo_lt (d : Array Int) (n : Nat) (hd : ∀ i j, i ≤ j → j < n → d[i]! ≤ d[j]!) : ∀ m, m ≤ n → (Lib.compactUpTo d m).Pairwise (· < ·)
  | 0, _ => by simp [Lib.compactUpTo]
  | m + 1, hm => by
    rw [Lib.compactUpTo_succ]
    split
    · rename_i hk
      have h1 : m = 0 ∨ d[m]! ≠ d[m - 1]! := by simpa [Lib.keeps] using hk
      refine List.pairwise_append.2 ⟨upTo_lt d n hd m (by omega), by simp, fun a ha b hb => ?_⟩
      obtain rfl := List.mem_singleton.1 hb
      obtain ⟨j, hj, rfl⟩ := (upTo_mem d a m).1 ha
      have h2 := hd j (m - 1) (by omega) (by omega)
      have h3 := hd (m - 1) m (by omega) (by omega)
      rcases h1 with h1 | h1
      · omega
      · omega
    · rw [List.append_nil]; exact upTo_lt d n hd m (by omega)
theorem get_toArray (l : List Int) (j : Nat) : l.toArray[j]! = l.getD j 0 := by
  by_cases h : j < l.length
  · simp [h]
  · simp [h]
theorem compact_sorted (l : List Int) (h : l.Pairwise (· ≤ ·)) : Lib.compact l = setL l := by
  refine lt_unique ?_ (setL_lt l) (fun x => ?_)
  · refine upTo_lt l.toArray l.length (fun i j hij hj => ?_) _ (Nat.le_refl _)
    rw [get_toArray, get_toArray]
    rcases Nat.lt_or_ge i j with hlt | hge
    · have := List.pairwise_iff_getElem.1 h i j (by omega) hj hlt
      simpa [List.getD, List.getElem?_eq_getElem, hj, (by omega : i < l.length)] using this
    · obtain rfl : i = j := by omega
      exact Int.le_refl _
  · show x ∈ Lib.compactUpTo _ _ ↔ _
    rw [upTo_mem, setL_mem]
    constructor
    · rintro ⟨j, hj, e⟩
      rw [get_toArray] at e
      rw [← e]
      simp [List.getD, List.getElem?_eq_getElem, hj]
    · intro hx
      obtain ⟨j, hj, e⟩ := List.getElem_of_mem hx
      refine ⟨j, hj, ?_⟩
      rw [get_toArray, ← e]
      simp [List.getD, List.getElem?_eq_getElem, hj]
theorem sort_sorted (l : List Int) : (l.mergeSort leI).Pairwise (· ≤ ·) := by
  have tr : ∀ a b c : Int, leI a b = true → leI b c = true → leI a c = true := fun a b c h1 h2 => by simp only [leI, decide_eq_true_eq] at *; exact Int.le_trans h1 h2
  have tot : ∀ a b : Int, (leI a b || leI b a) = true := fun a b => by simp only [leI, Bool.or_eq_true, decide_eq_true_eq]; exact Int.le_total a b
  exact (List.pairwise_mergeSort tr tot l).imp (fun h => by simpa [leI] using h)
theorem setL_congr {l l' : List Int} (h : ∀ x, x ∈ l ↔ x ∈ l') : setL l = setL l' := lt_unique (setL_lt l) (setL_lt l') (fun x => by rw [setL_mem, setL_mem, h])
theorem compact_sort (l : List Int) : Lib.compact (l.mergeSort leI) = setL l :=
  (compact_sorted _ (sort_sorted l)).trans (setL_congr (fun x => (List.mergeSort_perm l leI).mem_iff))
/-- Different numbers, sorted: the set. -/
theorem sort_nodup (l : List Int) (h : l.Nodup) : l.mergeSort leI = setL l := by
  refine lt_unique ?_ (setL_lt l) (fun x => by rw [(List.mergeSort_perm l leI).mem_iff, setL_mem])
  have hn : (l.mergeSort leI).Nodup := (List.mergeSort_perm l leI).nodup_iff.2 h
  exact ((sort_sorted l).and hn).imp (fun {a b} h => by have h1 := h.1; have h2 := h.2; omega)
end Go.Proofs.Ytbahcpdhadhplaa.PS

set_option linter.unusedVariables false
set_option linter.unusedSimpArgs false
namespace Go.Proofs.Ytbahcpdhadhplaa.Hand
open Go.RowKit Go.Proofs.YtbahcpdhadhplaaW.PrintWords Go.Proofs.Ytbahcpdhadhplaa.M

def fnv (g : Nat) : Value := .func (.func g) #[] #[]
def kcells (a b c d : Int) : Array Value := #[.int .i64 1, .int .i64 a, fnv 39, .int .i64 2, .int .i64 b, fnv 40, .int .i64 4, .int .i64 c, fnv 21, .int .i64 8, .int .i64 d, fnv 41]

theorem kinds_calls (a b c d : Int) (w : World) : Calls Try.prog 27 #[.agg #[.int .i64 a, .int .i64 b, .int .i64 c, .int .i64 d]] w fun e w' =>
    e = .returned (.slice (some ⟨w.heap.size + 1, 0, none⟩) 4 4) ∧ w' = (w.alloc (.cells #[.int .i64 a, .int .i64 b, .int .i64 c, .int .i64 d] 23)).alloc (.cells (kcells a b c d) 45) := by
  go_enter Try.func27, Try.ntmps27
  go_wp2
  go_ret
  exact ⟨rfl, rfl⟩

def okI (x : Int) : Bool := decide (0 ≤ x) && decide (x ≤ 1000)
def validB (a b c d : Int) : Bool := okI a && okI b && okI c && okI d
theorem kcell {w : World} {B : Nat} {a b c d : Int} (h : w.heap[B]? = some (.cells (kcells a b c d) 45 (0, 0))) (j : Nat) : w.cell? ⟨B, j, none⟩ = (kcells a b c d)[j]? := by simp [World.cell?, h]

theorem third_new (w : World) (o1 o2 o3 : Obj) : (((w.alloc o1).alloc o2).alloc o3).heap[w.heap.size + 1 + 1]? = some o3 := by
  have h := heap_alloc_new ((w.alloc o1).alloc o2) o3
  have e : ((w.alloc o1).alloc o2).heap.size = w.heap.size + 1 + 1 := by simp
  rw [e] at h
  exact h
def nth4 (a b c d : Int) (k : Nat) : Int := match k with | 0 => a | 1 => b | 2 => c | _ => d
set_option maxRecDepth 100000 in
set_option maxHeartbeats 4000000 in
theorem valid_calls (a b c d : Int) (w : World) : Calls Try.prog 12 #[.agg #[.int .i64 a, .int .i64 b, .int .i64 c, .int .i64 d]] w fun e w' =>
    e = .returned (.bool (validB a b c d)) ∧ Below w.heap.size w w' := by
  go_enter Try.func12, Try.ntmps12
  go_wp2_with (first | (go_at_call 27; refine (kinds_calls a b c d _).mono ?_; rintro e w' ⟨rfl, rfl⟩) | go_in)
  go_loopw [8] (fun i wr => ∃ k : Nat, k ≤ 4 ∧ i = .int .i64 k ∧ (∀ j, j < k → okI (nth4 a b c d j) = true) ∧ wr.heap[w.heap.size + 1 + 1]? = some (.cells (kcells a b c d) 45 (0, 0)) ∧ w.heap.size + 1 + 1 < wr.heap.size ∧ Below w.heap.size w wr) (fun i _ => 4 - (intOf i).toNat)
  case atStart =>
    refine ⟨0, by omega, rfl, fun j hj => absurd hj (by omega), third_new _ _ _ _, by simp, ?_⟩
    exact (((Below.refl _ _).alloc (Nat.le_refl _) _).alloc (by simp) _).alloc (by simp; omega) _
  case round =>
    obtain ⟨k, hk, rfl, hok, hB, hlt, hnx⟩ := hrel
    have hc := fun j => kcell hB j
    obtain rfl | rfl | rfl | rfl | rfl : k = 0 ∨ k = 1 ∨ k = 2 ∨ k = 3 ∨ k = 4 := by omega
    · have h0 : wr.cell? ⟨w.heap.size + 1 + 1, 0, none⟩ = some (.int .i64 1) := hc 0
      have h1 : wr.cell? ⟨w.heap.size + 1 + 1, 1, none⟩ = some (.int .i64 a) := hc 1
      have h2 : wr.cell? ⟨w.heap.size + 1 + 1, 2, none⟩ = some (.func (.func 39) #[] #[]) := hc 2
      have hS := Aside0.mk hB
      have hO := Aside0.mk hok
      have hX := Aside0.mk hnx
      clear hc hB hok hnx
      go_wp2
      case' roundEnd =>
        have hv : okI a = true := by simp [okI]; omega
        go_roundw
        case rel => exact ⟨1, by omega, by first | rfl | go_num, fun j hj => by
          rcases (by omega : j < 0 ∨ j = 0) with h | rfl
          · exact hO.out j h
          · exact hv, (Below.heap_alloc _ _ _ (by omega)).trans hS.out, by simp; omega, hX.out.alloc (hX.out.size) _⟩
        case measure => simp [intOf]
      all_goals
        have hv : okI a = false := by simp [okI]; omega
        go_ret
        exact ⟨by simp [validB, hv], hX.out.alloc (hX.out.size) _⟩
    · have h0 : wr.cell? ⟨w.heap.size + 1 + 1, 3, none⟩ = some (.int .i64 2) := hc 3
      have h1 : wr.cell? ⟨w.heap.size + 1 + 1, 4, none⟩ = some (.int .i64 b) := hc 4
      have h2 : wr.cell? ⟨w.heap.size + 1 + 1, 5, none⟩ = some (.func (.func 40) #[] #[]) := hc 5
      have hS := Aside0.mk hB
      have hO := Aside0.mk hok
      have hX := Aside0.mk hnx
      clear hc hB hok hnx
      go_wp2
      case' roundEnd =>
        have hv : okI b = true := by simp [okI]; omega
        go_roundw
        case rel => exact ⟨2, by omega, by first | rfl | go_num, fun j hj => by
          rcases (by omega : j < 1 ∨ j = 1) with h | rfl
          · exact hO.out j h
          · exact hv, (Below.heap_alloc _ _ _ (by omega)).trans hS.out, by simp; omega, hX.out.alloc (hX.out.size) _⟩
        case measure => simp [intOf]
      all_goals
        have hv : okI b = false := by simp [okI]; omega
        go_ret
        exact ⟨by simp [validB, hv], hX.out.alloc (hX.out.size) _⟩
    · have h0 : wr.cell? ⟨w.heap.size + 1 + 1, 6, none⟩ = some (.int .i64 4) := hc 6
      have h1 : wr.cell? ⟨w.heap.size + 1 + 1, 7, none⟩ = some (.int .i64 c) := hc 7
      have h2 : wr.cell? ⟨w.heap.size + 1 + 1, 8, none⟩ = some (.func (.func 21) #[] #[]) := hc 8
      have hS := Aside0.mk hB
      have hO := Aside0.mk hok
      have hX := Aside0.mk hnx
      clear hc hB hok hnx
      go_wp2
      case' roundEnd =>
        have hv : okI c = true := by simp [okI]; omega
        go_roundw
        case rel => exact ⟨3, by omega, by first | rfl | go_num, fun j hj => by
          rcases (by omega : j < 2 ∨ j = 2) with h | rfl
          · exact hO.out j h
          · exact hv, (Below.heap_alloc _ _ _ (by omega)).trans hS.out, by simp; omega, hX.out.alloc (hX.out.size) _⟩
        case measure => simp [intOf]
      all_goals
        have hv : okI c = false := by simp [okI]; omega
        go_ret
        exact ⟨by simp [validB, hv], hX.out.alloc (hX.out.size) _⟩
    · have h0 : wr.cell? ⟨w.heap.size + 1 + 1, 9, none⟩ = some (.int .i64 8) := hc 9
      have h1 : wr.cell? ⟨w.heap.size + 1 + 1, 10, none⟩ = some (.int .i64 d) := hc 10
      have h2 : wr.cell? ⟨w.heap.size + 1 + 1, 11, none⟩ = some (.func (.func 41) #[] #[]) := hc 11
      have hS := Aside0.mk hB
      have hO := Aside0.mk hok
      have hX := Aside0.mk hnx
      clear hc hB hok hnx
      go_wp2
      case' roundEnd =>
        have hv : okI d = true := by simp [okI]; omega
        go_roundw
        case rel => exact ⟨4, by omega, by first | rfl | go_num, fun j hj => by
          rcases (by omega : j < 3 ∨ j = 3) with h | rfl
          · exact hO.out j h
          · exact hv, (Below.heap_alloc _ _ _ (by omega)).trans hS.out, by simp; omega, hX.out.alloc (hX.out.size) _⟩
        case measure => simp [intOf]
      all_goals
        have hv : okI d = false := by simp [okI]; omega
        go_ret
        exact ⟨by simp [validB, hv], hX.out.alloc (hX.out.size) _⟩
    · have hX := Aside0.mk hnx
      have hv : validB a b c d = true := by
        have e0 := hok 0 (by omega)
        have e1 := hok 1 (by omega)
        have e2 := hok 2 (by omega)
        have e3 := hok 3 (by omega)
        simp only [nth4] at e0 e1 e2 e3
        simp [validB, e0, e1, e2, e3]
      clear hc hB hok hnx
      go_wp2
      go_ret
      exact ⟨by rw [hv]; rfl, hX.out⟩

def retention_Valid.f (a0_0 a0_1 a0_2 a0_3 : Int) : Option Bool := some (validB a0_0 a0_1 a0_2 a0_3)
theorem retention_Valid.calls (a0_0 : Int) (a0_1 : Int) (a0_2 : Int) (a0_3 : Int) (r : Bool) (w : World) (h : retention_Valid.f a0_0 a0_1 a0_2 a0_3 = some r) :
    Calls Try.prog 12 #[.agg #[.int .i64 a0_0, .int .i64 a0_1, .int .i64 a0_2, .int .i64 a0_3]] w fun e w' => e = .returned (.bool r) ∧ Below w.heap.size w w' := by
  obtain rfl := Option.some.inj h
  exact valid_calls a0_0 a0_1 a0_2 a0_3 w
end Go.Proofs.Ytbahcpdhadhplaa.Hand

set_option linter.unusedVariables false
set_option linter.unusedSimpArgs false
namespace Go.Proofs.Ytbahcpdhadhplaa.Hand
open Go.RowKit Go.Sort Go.Proofs.YtbahcpdhadhplaaW.PrintWords Go.Proofs.YtbahcpdhadhplaaW.PrintMore Go.Proofs.Ytbahcpdhadhplaa.PS

/-! ### slices of ints as the walks want them -/
/-- v is a slice of the call's own that holds the numbers xs. -/
def Own (w : World) (base : Nat) (v : Value) (xs : List Int) : Prop := w.ownsRow base 3 1 v xs.length (xs.map (Value.int .i64))
theorem Own.R {w : World} {base : Nat} {v : Value} {xs : List Int} (h : Own w base v xs) : Kd.R (Kd.int .i64) 3 w base (fun _ => True) v xs := Kd.R_of_own h (fun _ _ => trivial)
theorem Own.ofR {w : World} {base : Nat} {ok : Nat → Prop} {v : Value} {xs : List Int} (h : Kd.R (Kd.int .i64) 3 w base ok v xs) : Own w base v xs := Kd.own_of_R h
theorem Own.step {w w1 : World} {base : Nat} {v : Value} {xs : List Int} (h : Own w base v xs) (hb : Below w.heap.size w w1) : Own w1 base v xs := Own.ofR (Kd.R_below h.R hb)
theorem C_cells {w : World} {A : Option Addr} {l : List Int} (h : Kd.C (Kd.int .i64) w A l.length l) (hn : 0 < l.length) :
    ∃ b off, A = some ⟨b, off, none⟩ ∧ b < w.heap.size ∧ ∀ j, j < l.length → w.cell? ⟨b, off + j, none⟩ = some (.int .i64 (l.getD j 0)) := by
  obtain ⟨_, _, h3⟩ := h
  obtain ⟨ad, rfl, hc⟩ := h3 hn
  have hcell : ∀ j, j < l.length → w.cell? (ad.add j) = some (.int .i64 (l.getD j 0)) := by
    intro j hj
    obtain ⟨c, hl, hk, hcc⟩ := hc j _ (List.getElem?_eq_getElem hj)
    have hk' : c = [.int .i64 l[j]] := hk
    subst hk'
    have := hcc 0 _ rfl
    rw [show j * (Kd.int .i64).sz + 0 = j from Nat.mul_one j] at this
    rw [this, List.getD_eq_getElem?_getD, List.getElem?_eq_getElem hj]
    rfl
  obtain ⟨b, off, sp⟩ := ad
  have h0 := hcell 0 hn
  have hsp : sp = none := by
    cases sp with
    | none => rfl
    | some s =>
      simp only [World.cell?, Addr.add] at h0
      split at h0 <;> simp at h0
  subst hsp
  exact ⟨b, off, rfl, World.block_lt_of_cell? w _ h0, fun j hj => by
    have h := hcell j hj
    by_cases h0 : j = 0
    · subst h0; simpa [Addr.add] using h
    · simpa [Addr.add, h0] using h⟩
theorem Own.cases {w : World} {base : Nat} {v : Value} {xs : List Int} (h : Own w base v xs) :
    (v = .slice none 0 0 ∧ xs = []) ∨ ∃ g cap cur, v = .slice (some ⟨g, 0, none⟩) xs.length cap ∧ base ≤ g ∧ g < w.heap.size ∧ w.heap[g]? = some (.cells cur 3 (0, 0)) ∧ xs.length ≤ cap ∧ cap ≤ maxLen ∧ cur.size = cap * 1 ∧ cur.toList.take xs.length = xs.map (Value.int .i64) := by
  obtain ⟨h1, h2 | ⟨g, cap, cur, rfl, hg, hh, h3, h4, h5, h6⟩⟩ := h
  · exact .inl ⟨h2.1, List.length_eq_zero_iff.1 h2.2⟩
  · exact .inr ⟨g, cap, cur, rfl, hg, (Array.getElem?_eq_some_iff.1 hh).1, hh, h3, h4, h5, by rw [Nat.mul_one] at h6; exact h6⟩
theorem Own.reads {w : World} {base : Nat} {v : Value} {xs : List Int} (h : Own w base v xs) : ∃ A c, v = .slice A xs.length c ∧ xs.length ≤ c ∧ Kd.C (Kd.int .i64) w A xs.length xs := Kd.R_reads h.R

/-! ### slices.Clone, Sort, Compact -/
theorem clone_any (A : Option Addr) (c : Nat) (l : List Int) (w : World) (hr : Kd.C (Kd.int .i64) w A l.length l) (hl : l.length ≤ 1000000) :
    Calls Try.prog 46 #[.slice A l.length c] w fun e w' => ∃ v, e = .returned v ∧ Own w' w.heap.size v l ∧ Below w.heap.size w w' := by
  by_cases hn : 0 < l.length
  · obtain ⟨b, off, rfl, hb, hc⟩ := C_cells hr hn
    refine (Try.slices_Clone_int b off l.length c l w (Nat.le_refl _) (by omega) hc).mono ?_
    rintro e w' ⟨v, rfl, ho, _, hb⟩
    refine ⟨v, rfl, ?_, hb⟩
    rw [List.take_length] at ho
    exact ho
  · obtain rfl : l = [] := List.length_eq_zero_iff.1 (by omega)
    cases A with
    | none =>
      refine (Try.slices_Clone_int_nil 0 c w).mono ?_
      rintro e w' ⟨rfl, rfl⟩
      exact ⟨_, rfl, World.ownsRow_nil _ _ _ _, Below.refl _ _⟩
    | some a =>
      refine (Try.slices_Clone_int_zero a c w).mono ?_
      rintro e w' ⟨v, rfl, ho, _, hb⟩
      exact ⟨v, rfl, ho, hb⟩
theorem sort_any (base : Nat) (v : Value) (l : List Int) (w : World) (h : Own w base v l) (hl : l.length ≤ 1000000) (hbase : base ≤ w.heap.size) :
    Calls Try.prog 47 #[v] w fun e w' => (∃ u, e = .returned u) ∧ Own w' base v (l.mergeSort leI) ∧ Below base w w' := by
  obtain ⟨rfl, rfl⟩ | ⟨g, cap, cur, rfl, hg, hlt, hh, h3, h4, h5, h6⟩ := h.cases
  · refine (AnyM.slices_Sort_int_none Try.sortA none 0 w).mono ?_
    rintro e w' ⟨rfl, q⟩
    refine ⟨⟨_, rfl⟩, ?_, ?_⟩
    · rw [List.mergeSort_nil]; exact World.ownsRow_nil _ _ _ _
    · subst q; exact Below.refl _ _
  · refine (AnyM.slices_Sort_int Try.sortA g 0 cap l w (holds_of_block_i hh h6) hlt (by omega)).mono ?_
    rintro e w' ⟨rfl, n, os, rfl⟩
    have hlen : (l.mergeSort leI).length = l.length := List.length_mergeSort l
    refine ⟨⟨_, rfl⟩, ?_, ?_⟩
    · have := ownsRow_sorted_i (n := n) (os := os) (ts := l.mergeSort leI) (ss := l) hlen hg hh h3 h4 h5
      show World.ownsRow _ _ _ _ _ (l.mergeSort leI).length _
      rw [hlen]
      exact this
    · exact Below.grown (Below.refl _ _) (grownBy_sorted_i _) hbase (fun k hk => by cases hk; exact hg)
theorem compact_any (base : Nat) (v : Value) (l : List Int) (w : World) (h : Own w base v l) (hl : l.length ≤ 1000000) (hbase : base ≤ w.heap.size) :
    Calls Try.prog 48 #[v] w fun e w' => ∃ u, e = .returned u ∧ Own w' base u (Lib.compact l) ∧ Below base w w' := by
  obtain ⟨rfl, rfl⟩ | ⟨g, cap, cur, rfl, hg, hlt, hh, h3, h4, h5, h6⟩ := h.cases
  · refine (Try.slices_Compact_int_empty none 0 w).mono ?_
    rintro e w' ⟨rfl, rfl⟩
    exact ⟨_, rfl, World.ownsRow_nil _ _ _ _, Below.refl _ _⟩
  · refine (Try.slices_Compact_int g 0 cap l w (holds_of_block_i hh h6) (by omega) h3).mono ?_
    rintro e w' ⟨rfl, q, rfl⟩
    have hle : (Lib.compact l).length ≤ l.length := by
      show (List.map _ _).length ≤ _
      rw [List.length_map]
      exact Nat.le_trans (List.length_filter_le _ _) (by simp)
    have hlen : (Lib.compact l ++ List.replicate (l.length - (Lib.compact l).length) 0).length = l.length := by simp; omega
    have e0 : putRow (Value.int .i64) (Sort.ahead w q) g 0 (Lib.compact l ++ List.replicate (l.length - (Lib.compact l).length) 0).toArray = grow (putRow encZ (Sort.ahead w q) g 0 (Lib.compact l ++ List.replicate (l.length - (Lib.compact l).length) 0).toArray) #[] := by simp
    refine ⟨_, rfl, ?_, ?_⟩
    · have := ownsRow_sorted_i (n := q) (os := #[]) (ts := Lib.compact l ++ List.replicate (l.length - (Lib.compact l).length) 0) (ss := l) hlen hg hh h3 h4 h5
      rw [← e0] at this
      have t := own_take this hle
      unfold Own
      simpa using t
    · rw [e0]
      exact Below.grown (Below.refl _ _) (grownBy_sorted_i _) hbase (fun k hk => by cases hk; exact hg)

set_option maxHeartbeats 1000000 in
theorem set_calls (A : Option Addr) (c : Nat) (l : List Int) (w : World) (hr : Kd.C (Kd.int .i64) w A l.length l) (hl : l.length ≤ 1000000) :
    Calls Try.prog 31 #[.slice A l.length c] w fun e w' => ∃ v, e = .returned v ∧ Own w' w.heap.size v (setL l) ∧ Below w.heap.size w w' := by
  go_enter Try.func31, Try.ntmps31
  go_wp2_with (first
    | (go_at_call 46; refine (clone_any A c l _ hr hl).mono ?_; rintro e w1 ⟨v1, rfl, ho1, hb1⟩)
    | (go_at_call 47; refine (sort_any w.heap.size _ l _ ho1 hl hb1.size).mono ?_; rintro e w2 ⟨⟨u2, rfl⟩, ho2, hb2⟩)
    | (go_at_call 48; refine (compact_any w.heap.size _ _ _ ho2 (by rw [List.length_mergeSort]; exact hl) (Nat.le_trans hb1.size hb2.size)).mono ?_; rintro e w3 ⟨v3, rfl, ho3, hb3⟩)
    | go_in)
  go_ret
  rw [compact_sort] at ho3
  exact ⟨_, rfl, ho3, (hb1.trans hb2).trans hb3⟩
end Go.Proofs.Ytbahcpdhadhplaa.Hand

set_option linter.unusedVariables false
set_option linter.unusedSimpArgs false
namespace Go.Proofs.Ytbahcpdhadhplaa.Hand
open Go.RowKit Go.Proofs.YtbahcpdhadhplaaW.PrintWords Go.Proofs.YtbahcpdhadhplaaW.PrintMore Go.Proofs.Ytbahcpdhadhplaa.PS

def dayB (x : Int) : Bool := decide (0 ≤ x) && decide (x ≤ 999999)
theorem isDay_calls (x : Int) (w : World) : Calls Try.prog 38 #[.int .i64 x] w fun e w' => e = .returned (.bool (dayB x)) ∧ Below w.heap.size w w' := by
  by_cases h : 0 ≤ x
  · go_enter Try.func38, Try.ntmps38
    go_wp2
    go_ret
    exact ⟨by simp [dayB, h], Below.refl _ _⟩
  · go_enter Try.func38, Try.ntmps38
    go_wp2
    go_ret
    exact ⟨by simp [dayB]; omega, Below.refl _ _⟩

theorem C_at {w : World} {A : Option Addr} {l : List Int} (h : Kd.C (Kd.int .i64) w A l.length l) (j : Nat) (hj : j < l.length) :
    ∃ b off, A = some ⟨b, off, none⟩ ∧ w.cell? ⟨b, off + j, none⟩ = some (.int .i64 (l.getD j 0)) := by
  obtain ⟨b, off, e, _, hc⟩ := C_cells h (by omega)
  exact ⟨b, off, e, hc j hj⟩
theorem all_step {p : Int → Bool} {l : List Int} {j : Nat} (hj : j < l.length) (h : (l.take j).all p = true) (h1 : p (l.getD j 0) = true) : (l.take (j + 1)).all p = true := by
  rw [List.take_add_one, List.all_append, h]
  simp [List.getElem?_eq_getElem hj, List.getD_eq_getElem?_getD] at h1 ⊢
  exact h1
theorem all_miss {p : Int → Bool} {l : List Int} {j : Nat} (hj : j < l.length) (h1 : p (l.getD j 0) = false) : l.all p = false := by
  rw [List.getD_eq_getElem?_getD, List.getElem?_eq_getElem hj] at h1
  exact List.all_eq_false.2 ⟨l[j], List.getElem_mem hj, by simpa using h1⟩

def chk (a b c d : Int) (l1 l2 : List Int) : Int := if validB a b c d && (l1.all dayB && l2.all dayB) then 0 else 1

set_option maxRecDepth 100000 in
set_option maxHeartbeats 4000000 in
theorem check_calls (a b c d : Int) (A1 A2 : Option Addr) (c1 c2 : Nat) (l1 l2 : List Int) (w : World) (hr1 : Kd.C (Kd.int .i64) w A1 l1.length l1) (hr2 : Kd.C (Kd.int .i64) w A2 l2.length l2) (hl1 : l1.length ≤ 1000000) (hl2 : l2.length ≤ 1000000) :
    Calls Try.prog 28 #[.agg #[.int .i64 a, .int .i64 b, .int .i64 c, .int .i64 d], .slice A1 l1.length c1, .slice A2 l2.length c2] w fun e w' =>
    e = .returned (.int .i64 (chk a b c d l1 l2)) ∧ Below w.heap.size w w' := by
  have HR1 := Aside0.mk hr1
  have HR2 := Aside0.mk hr2
  clear hr1 hr2
  cases hv : validB a b c d
  · have hV := fun W => valid_calls a b c d W
    rw [hv] at hV
    have HV := Aside0.mk hv
    clear hv
    go_enter Try.func28, Try.ntmps28
    go_wp2_with (first | (go_at_call 12; refine (hV _).mono ?_; rintro e w1 ⟨rfl, hb1⟩) | go_in)
    go_ret
    exact ⟨by simp [chk, HV.out], ((Below.refl w.heap.size w).alloc (Nat.le_refl _) _).trans (hb1.mono (by simp))⟩
  · have hV := fun W => valid_calls a b c d W
    rw [hv] at hV
    have HV := Aside0.mk hv
    clear hv
    go_enter Try.func28, Try.ntmps28
    go_wp2_with (first | (go_at_call 12; refine (hV _).mono ?_; rintro e w1 ⟨rfl, hb1⟩) | go_in)
    have hB1 : Below w.heap.size w w1 := ((Below.refl w.heap.size w).alloc (Nat.le_refl _) _).trans (hb1.mono (by simp))
    have hX1 := Aside0.mk hB1
    clear hB1 hb1
    go_loopw [18] (fun i wr => ∃ k : Int, 0 ≤ k ∧ k ≤ 2 ∧ i = .int .i64 k ∧ (0 < k → l1.all dayB = true) ∧ (1 < k → l2.all dayB = true) ∧ wr.heap[w1.heap.size]? = some (.cells #[.slice A1 l1.length c1, .slice A2 l2.length c2] 26 (0, 0)) ∧ Below w.heap.size w wr) (fun i _ => 2 - (intOf i).toNat)
    case atStart =>
      exact ⟨0, by omega, by omega, rfl, fun h => absurd h (by omega), fun h => absurd h (by omega), heap_alloc_new _ _, hX1.out.alloc hX1.out.size _⟩
    case round =>
      obtain ⟨k, hk0, hk, rfl, ho1, ho2, hB, hnx⟩ := hrel
      have hS := Aside0.mk hB
      have hO1 := Aside0.mk ho1
      have hO2 := Aside0.mk ho2
      have hX := Aside0.mk hnx
      have hc0 : wr.cell? ⟨w1.heap.size, 0, none⟩ = some (.slice A1 l1.length c1) := by simp [World.cell?, hB]
      have hc1 : wr.cell? ⟨w1.heap.size, 1, none⟩ = some (.slice A2 l2.length c2) := by simp [World.cell?, hB]
      clear hB ho1 ho2 hnx
      obtain rfl | rfl | rfl : k = 0 ∨ k = 1 ∨ k = 2 := by omega
      · go_wp2
        go_loopw [24] (fun i ws => ∃ j : Nat, j ≤ l1.length ∧ i = .int .i64 j ∧ (l1.take j).all dayB = true ∧ ws.heap[w1.heap.size]? = some (.cells #[.slice A1 l1.length c1, .slice A2 l2.length c2] 26 (0, 0)) ∧ Below w.heap.size w ws) (fun i _ => l1.length - (intOf i).toNat)
        case atStart => exact ⟨0, Nat.zero_le _, rfl, by simp, hS.out, hX.out⟩
        case round =>
          clear hS hX hc0 hc1
          obtain ⟨j, hj, rfl, hall, hB, hnx⟩ := hrel
          have hS := Aside0.mk hB
          have hX := Aside0.mk hnx
          have hA := Aside0.mk hall
          clear hB hnx hall
          by_cases hjl : j < l1.length
          · obtain ⟨b, off, rfl, hcell⟩ := C_at (Kd.C_below HR1.out hX.out) j hjl
            obtain ⟨x, hx⟩ : ∃ x, x = l1.getD j 0 := ⟨_, rfl⟩
            rw [← hx] at hcell
            have hx' := Aside0.mk hx
            clear hx
            cases hd : dayB x
            · have hD := fun W => isDay_calls x W
              rw [hd] at hD
              have hd' := Aside0.mk hd
              clear hd
              go_wp2_with (first | (go_at_call 38; refine (hD _).mono ?_; rintro e w2 ⟨rfl, hb2⟩) | go_in)
              go_ret
              exact ⟨by simp [chk, all_miss hjl (hx'.out ▸ hd'.out)], hX.out.trans (hb2.mono hX.out.size)⟩
            · have hD := fun W => isDay_calls x W
              rw [hd] at hD
              have hd' := Aside0.mk hd
              clear hd
              go_wp2_with (first | (go_at_call 38; refine (hD _).mono ?_; rintro e w2 ⟨rfl, hb2⟩) | go_in)
              go_roundw
              case rel => exact ⟨j + 1, by omega, by go_num, all_step hjl hA.out (hx'.out ▸ hd'.out), (hb2.block _ (Array.getElem?_eq_some_iff.1 hS.out).1).trans hS.out, hX.out.trans (hb2.mono hX.out.size)⟩
              case measure => simp [intOf]; omega
          · obtain rfl : j = l1.length := by omega
            have hA' := Aside0.mk (show l1.all dayB = true by have := hA.out; rwa [List.take_length] at this)
            clear hA
            go_wp2
            go_roundw
            case rel => exact ⟨1, by omega, by omega, by first | rfl | go_num, fun _ => hA'.out, fun h => absurd h (by omega), hS.out, hX.out⟩
            case measure => simp [intOf]
      · go_wp2
        go_loopw [24] (fun i ws => ∃ j : Nat, j ≤ l2.length ∧ i = .int .i64 j ∧ (l2.take j).all dayB = true ∧ ws.heap[w1.heap.size]? = some (.cells #[.slice A1 l1.length c1, .slice A2 l2.length c2] 26 (0, 0)) ∧ Below w.heap.size w ws) (fun i _ => l2.length - (intOf i).toNat)
        case atStart => exact ⟨0, Nat.zero_le _, rfl, by simp, hS.out, hX.out⟩
        case round =>
          clear hS hX hc0 hc1
          obtain ⟨j, hj, rfl, hall, hB, hnx⟩ := hrel
          have hS := Aside0.mk hB
          have hX := Aside0.mk hnx
          have hA := Aside0.mk hall
          clear hB hnx hall
          by_cases hjl : j < l2.length
          · obtain ⟨b, off, rfl, hcell⟩ := C_at (Kd.C_below HR2.out hX.out) j hjl
            obtain ⟨x, hx⟩ : ∃ x, x = l2.getD j 0 := ⟨_, rfl⟩
            rw [← hx] at hcell
            have hx' := Aside0.mk hx
            clear hx
            cases hd : dayB x
            · have hD := fun W => isDay_calls x W
              rw [hd] at hD
              have hd' := Aside0.mk hd
              clear hd
              go_wp2_with (first | (go_at_call 38; refine (hD _).mono ?_; rintro e w2 ⟨rfl, hb2⟩) | go_in)
              go_ret
              exact ⟨by simp [chk, all_miss hjl (hx'.out ▸ hd'.out)], hX.out.trans (hb2.mono hX.out.size)⟩
            · have hD := fun W => isDay_calls x W
              rw [hd] at hD
              have hd' := Aside0.mk hd
              clear hd
              go_wp2_with (first | (go_at_call 38; refine (hD _).mono ?_; rintro e w2 ⟨rfl, hb2⟩) | go_in)
              go_roundw
              case rel => exact ⟨j + 1, by omega, by go_num, all_step hjl hA.out (hx'.out ▸ hd'.out), (hb2.block _ (Array.getElem?_eq_some_iff.1 hS.out).1).trans hS.out, hX.out.trans (hb2.mono hX.out.size)⟩
              case measure => simp [intOf]; omega
          · obtain rfl : j = l2.length := by omega
            have hA' := Aside0.mk (show l2.all dayB = true by have := hA.out; rwa [List.take_length] at this)
            clear hA
            go_wp2
            go_roundw
            case rel => exact ⟨2, by omega, by omega, by first | rfl | go_num, fun _ => hO1.out (by omega), fun _ => hA'.out, hS.out, hX.out⟩
            case measure => simp [intOf]
      · go_wp2
        go_ret
        exact ⟨by simp [chk, HV.out, hO1.out (by omega), hO2.out (by omega)], hX.out⟩
end Go.Proofs.Ytbahcpdhadhplaa.Hand
