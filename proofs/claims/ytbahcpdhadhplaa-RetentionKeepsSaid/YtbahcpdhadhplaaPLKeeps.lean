/- The plain law of the statement RetentionKeeps: its function comes to true. -/
import Derived.Test.YtbahcpdhadhplaaPA
import Derived.Test.YtbahcpdhadhplaaPHR
import Derived.Test.YtbahcpdhadhplaaPHK
import Derived.Test.YtbahcpdhadhplaaQ15
set_option linter.unusedVariables false
set_option linter.unusedSimpArgs false
namespace Go.Proofs.Ytbahcpdhadhplaa.PA
open Go.RowKit Go.Proofs.Ytbahcpdhadhplaa.Q Go.Proofs.Ytbahcpdhadhplaa.Hand Go.Proofs.Ytbahcpdhadhplaa.PB Go.Proofs.Ytbahcpdhadhplaa.PS Go.Proofs.Ytbahcpdhadhplaa.PX Go.Proofs.YtbahcpdhadhplaaW.PrintWords Go.Proofs.YtbahcpdhadhplaaW.PrintMore
theorem ite_some' (p : Prop) [Decidable p] (x : Bool) : (if p then some x else some false) = some (decide p && x) := by split <;> simp [*]
theorem rvalid_eq' (a b c d : Int) : kinkeepref27_Valid.f a b c d = some (validB a b c d) := by
  unfold kinkeepref27_Valid.f
  simp only [ite_some', ge_iff_le]
  congr 1
  simp only [validB, okI, Bool.and_assoc]
theorem inRange_l0 (l : List Int) (hl : l.length ≤ 1000000) : ∀ (rest pre : List Int), pre ++ rest = l → Ev (fun k => kinkeepref27_inRange.l0 k l (l.length : Int) (pre.length : Int)) (rest.all dayB)
  | [], pre, h => by
    refine Ev.step (fun k => kinkeepref27_inRange.l0.eq_2 _ _ _ _) ?_
    have : pre.length = l.length := by rw [← h]; simp
    exact Ev.neg (by omega) (Ev.now _)
  | x :: r, pre, h => by
    have hlen : pre.length + (r.length + 1) = l.length := by rw [← h]; simp
    have hx : rd l (pre.length : Int) = x := by rw [← h]; exact rd_mid pre x r
    have e2 : ((pre ++ [x]).length : Int) = (pre.length : Int) + 1 := by simp
    have ih := inRange_l0 l hl r (pre ++ [x]) (by simpa using h)
    rw [e2] at ih
    refine Ev.step (fun k => kinkeepref27_inRange.l0.eq_2 _ _ _ _) ?_
    refine Ev.pos (by omega) (Ev.pos (by omega) (Ev.pos (by omega) ?_))
    rw [hx]
    by_cases h1 : x < 0
    · exact Ev.pos h1 (Ev.to (Ev.now _) (by simp [dayB]; omega))
    · refine Ev.neg h1 ?_
      by_cases h2 : x > 999999
      · exact Ev.pos h2 (Ev.to (Ev.now _) (by simp [dayB]; omega))
      · refine Ev.neg h2 ?_
        rw [w64 (by omega) (by omega)]
        refine Ev.to ih ?_
        rw [List.all_cons, show dayB x = true by simp [dayB]; omega, Bool.true_and]
theorem inRange_ev (l : List Int) (hl : l.length ≤ 1000000) : Ev (fun k => kinkeepref27_inRange.f k l) (l.all dayB) := inRange_l0 l hl l [] rfl
theorem rcheck_ev (a b c d : Int) (l1 l2 : List Int) (h1 : l1.length ≤ 1000000) (h2 : l2.length ≤ 1000000) : Ev (fun k => kinkeepref27_check.f k a b c d l1 l2) (chk a b c d l1 l2) := by
  unfold kinkeepref27_check.f
  refine Ev.const (rvalid_eq' a b c d) ?_
  cases hv : validB a b c d
  · exact Ev.neg (by simp) (Ev.to (Ev.now _) (by simp [chk, hv]))
  · refine Ev.pos rfl (Ev.bind (inRange_ev l1 h1) ?_)
    cases ha : l1.all dayB
    · exact Ev.neg (by simp) (Ev.to (Ev.now _) (by simp only [chk, hv, ha]; rfl))
    · refine Ev.pos rfl (Ev.bind (inRange_ev l2 h2) ?_)
      cases hb : l2.all dayB
      · exact Ev.neg (by simp) (Ev.to (Ev.now _) (by simp only [chk, hv, ha, hb]; rfl))
      · exact Ev.pos rfl (Ev.to (Ev.now _) (by simp only [chk, hv, ha, hb]; rfl))
theorem insS_pre (x : Int) (rest : List Int) : ∀ pre : List Int, (∀ y ∈ pre, y < x) → insS x (pre ++ rest) = pre ++ insS x rest
  | [], _ => rfl
  | a :: r, h => by
    have ha : a < x := h a (by simp)
    rw [List.cons_append, insS, if_neg (by omega), if_neg (by omega), insS_pre x rest r (fun y hy => h y (by simp [hy]))]
    rfl
theorem insS_len (a : Int) : ∀ l : List Int, (insS a l).length ≤ l.length + 1
  | [] => by simp [insS]
  | b :: s => by
    have ih := insS_len a s
    unfold insS
    split
    · simp
    · split
      · simp
      · simp; omega
theorem so_l1 (l : List Int) (hl : l.length ≤ 100000) (x : Int) (i : Nat) (hi : i < l.length) (out : List Int) (ho : out.length ≤ 100000) (R : List Int)
    (hn : Ev (fun k => kinkeepref27_Sorted.l0 k (insS x out) l (l.length : Int) ((i : Int) + 1)) R) :
    ∀ (rest pre : List Int), pre ++ rest = out → (∀ y ∈ pre, y < x) → Ev (fun k => kinkeepref27_Sorted.l1 k out x (pre.length : Int) l (l.length : Int) (i : Int)) R
  | [], pre, he, hp => by
    have hlen : pre.length = out.length := by rw [← he]; simp
    refine Ev.step (fun k => kinkeepref27_Sorted.l1.eq_2 _ _ _ _ _ _ _) (Ev.neg (by omega) (Ev.pos (by omega) ?_))
    refine Ev.const rfl (Ev.pos (by omega) (Ev.pos (by omega) (Ev.const rfl (Ev.pos (by simp; omega) (Ev.const rfl (Ev.const rfl (Ev.pos (by simp; omega) (Ev.const rfl (Ev.const rfl (Ev.pos (by simp; omega) ?_))))))))))
    rw [w64 (by omega) (by omega)]
    refine Ev.congr (fun k => ?_) hn
    have e : ([] ++ out.take (pre.length : Int).toNat ++ [x] ++ out.drop (pre.length : Int).toNat : List Int) = insS x out := by
      rw [← he, insS_pre x [] pre hp, Int.toNat_natCast, List.take_left, List.drop_left]
      simp [insS]
    rw [e]
  | z :: r, pre, he, hp => by
    have hlen : pre.length + (r.length + 1) = out.length := by rw [← he]; simp
    have hx : rd out (pre.length : Int) = z := by rw [← he]; exact rd_mid pre z r
    refine Ev.step (fun k => kinkeepref27_Sorted.l1.eq_2 _ _ _ _ _ _ _) (Ev.pos (by omega) (Ev.pos (by omega) ?_))
    rw [hx, w64 (x := (pre.length : Int) + 1) (by omega) (by omega)]
    by_cases h1 : z < x
    · refine Ev.pos h1 ?_
      have ih := so_l1 l hl x i hi out ho R hn r (pre ++ [z]) (by simpa using he) (fun y hy => by
        rcases List.mem_append.1 hy with hy | hy
        · exact hp y hy
        · rw [List.mem_singleton.1 hy]; exact h1)
      rw [show ((pre ++ [z]).length : Int) = (pre.length : Int) + 1 by simp] at ih
      exact ih
    · refine Ev.neg h1 (Ev.neg (by omega) ?_)
      by_cases h2 : z = x
      · refine Ev.pos h2 ?_
        rw [w64 (by omega) (by omega)]
        refine Ev.congr (fun k => ?_) hn
        have e : insS x out = out := by
          rw [← he, insS_pre x _ pre hp, insS, if_neg (by omega), if_pos h2.symm]
        rw [e]
      · refine Ev.neg h2 ?_
        refine Ev.const rfl (Ev.pos (by omega) (Ev.const rfl (Ev.pos (by simp; omega) (Ev.const rfl (Ev.const rfl (Ev.pos (by simp; omega) (Ev.const rfl (Ev.const rfl (Ev.pos (by simp; omega) ?_)))))))))
        rw [w64 (by omega) (by omega)]
        refine Ev.congr (fun k => ?_) hn
        have e : ([] ++ out.take (pre.length : Int).toNat ++ [x] ++ out.drop (pre.length : Int).toNat : List Int) = insS x out := by
          rw [← he, insS_pre x _ pre hp, insS, if_pos (by omega), Int.toNat_natCast, List.take_left, List.drop_left]
          simp
        rw [e]
theorem so_l0 (l : List Int) (hl : l.length ≤ 100000) : ∀ (rest pre out : List Int), pre ++ rest = l → out.length ≤ pre.length → Ev (fun k => kinkeepref27_Sorted.l0 k out l (l.length : Int) (pre.length : Int)) (rest.foldl (fun o x => insS x o) out)
  | [], pre, out, he, hp => by
    have hlen : pre.length = l.length := by rw [← he]; simp
    exact Ev.step (fun k => kinkeepref27_Sorted.l0.eq_2 _ _ _ _ _) (Ev.neg (by omega) (Ev.now _))
  | z :: r, pre, out, he, hp => by
    have hlen : pre.length + (r.length + 1) = l.length := by rw [← he]; simp
    have hx : rd l (pre.length : Int) = z := by rw [← he]; exact rd_mid pre z r
    refine Ev.step (fun k => kinkeepref27_Sorted.l0.eq_2 _ _ _ _ _) (Ev.pos (by omega) (Ev.pos (by omega) (Ev.pos (by omega) ?_)))
    rw [hx]
    have ih := so_l0 l hl r (pre ++ [z]) (insS z out) (by simpa using he) (by have := insS_len z out; simp; omega)
    rw [show ((pre ++ [z]).length : Int) = (pre.length : Int) + 1 by simp] at ih
    exact so_l1 l hl z pre.length (by omega) out (by omega) _ ih out [] rfl (by simp)
theorem fold_ins : ∀ (l o : List Int), o.Pairwise (· < ·) → (l.foldl (fun o x => insS x o) o).Pairwise (· < ·) ∧ ∀ y, y ∈ l.foldl (fun o x => insS x o) o ↔ y ∈ l ∨ y ∈ o
  | [], o, h => ⟨h, fun y => by simp⟩
  | a :: r, o, h => by
    obtain ⟨h1, h2⟩ := fold_ins r (insS a o) (insS_lt a o h)
    refine ⟨h1, fun y => ?_⟩
    rw [List.foldl_cons, h2, insS_mem, List.mem_cons]
    constructor
    · rintro (h | h | h)
      · exact .inl (.inr h)
      · exact .inl (.inl h)
      · exact .inr h
    · rintro ((h | h) | h)
      · exact .inr (.inl h)
      · exact .inl h
      · exact .inr (.inr h)
theorem sorted_ev (l : List Int) (hl : l.length ≤ 100000) : Ev (fun k => kinkeepref27_Sorted.f k l) (setL l) := by
  obtain ⟨h1, h2⟩ := fold_ins l [] List.Pairwise.nil
  refine Ev.to (so_l0 l hl l [] [] rfl (by simp)) (lt_unique h1 (setL_lt l) fun x => ?_)
  rw [h2, setL_mem]; simp
theorem div_l0 (a b c d : Int) (l1 l2 : List Int) (h1 : l1.length ≤ 50000) (h2 : l2.length ≤ 50000) (kept : Bool) (hd : l1.all dayB = true) (s : List Int) (hs : s.length ≤ 50000) (hm : ∀ x ∈ s, x ∈ l1) :
    ∀ (rest pre out : List Int), pre ++ rest = s → out.length ≤ pre.length → Ev (fun k => kinkeepref27_divide.l0 k l1 l2 kept out s (s.length : Int) (pre.length : Int) a b c d) (out ++ rest.filter (fun x => decide (refR a b c d l1 l2 x > 0) == kept), 0)
  | [], pre, out, he, hp => by
    have hlen : pre.length = s.length := by rw [← he]; simp
    exact Ev.step (fun k => kinkeepref27_divide.l0.eq_2 _ _ _ _ _ _ _ _ _ _ _ _) (Ev.neg (by omega) (Ev.to (Ev.now _) (by simp)))
  | z :: r, pre, out, he, hp => by
    have hlen : pre.length + (r.length + 1) = s.length := by rw [← he]; simp
    have hx : rd s (pre.length : Int) = z := by rw [← he]; exact rd_mid pre z r
    have hz : z ∈ l1 := hm z (by rw [← he]; simp)
    have hR : kinkeepref27_Reason.f a b c d l1 l2 z = some (refR a b c d l1 l2 z) := by
      unfold kinkeepref27_Reason.f
      rw [if_pos ⟨⟨h1, h2⟩, hd, List.all_eq_true.1 hd z hz⟩]
    refine Ev.step (fun k => kinkeepref27_divide.l0.eq_2 _ _ _ _ _ _ _ _ _ _ _ _) (Ev.pos (by omega) (Ev.pos (by omega) (Ev.pos (by omega) ?_)))
    rw [hx, w64 (x := (pre.length : Int) + 1) (by omega) (by omega)]
    refine Ev.const hR ?_
    have ih := fun (out' : List Int) (ho : out'.length ≤ pre.length + 1) => by
      have := div_l0 a b c d l1 l2 h1 h2 kept hd s hs hm r (pre ++ [z]) out' (by simpa using he) (by simpa using ho)
      rw [show ((pre ++ [z]).length : Int) = (pre.length : Int) + 1 by simp] at this
      exact this
    by_cases hk : (decide (refR a b c d l1 l2 z > 0) == kept) = true
    · refine Ev.pos hk (Ev.pos (by omega) (Ev.to (ih (out ++ [z]) (by simp; omega)) ?_))
      rw [List.filter_cons_of_pos (by exact hk), List.append_assoc]; rfl
    · refine Ev.neg hk (Ev.to (ih out (by omega)) ?_)
      rw [List.filter_cons_of_neg (by exact hk)]
theorem divide_ev (a b c d : Int) (l1 l2 : List Int) (kept : Bool) (h1 : l1.length ≤ 50000) (h2 : l2.length ≤ 50000) : Ev (fun k => kinkeepref27_divide.f k a b c d l1 l2 kept) (splitF a b c d l1 l2 kept, chk a b c d l1 l2) := by
  unfold kinkeepref27_divide.f
  refine Ev.bind (rcheck_ev a b c d l1 l2 (by omega) (by omega)) ?_
  by_cases hk : chk a b c d l1 l2 = 0
  · obtain ⟨hv, hd1, hd2⟩ := chk_ok hk
    have hsl := setL_len_le l1
    refine Ev.pos hk (Ev.bind (sorted_ev l1 (by omega)) (Ev.to (div_l0 a b c d l1 l2 h1 h2 kept hd1 (setL l1) (by omega) (fun x hx => (setL_mem x l1).1 hx) (setL l1) [] [] rfl (by simp)) ?_))
    rw [hk, splitF, if_pos hk, List.nil_append]
    congr 1
    refine List.filter_congr fun x hx => ?_
    rw [keepQ, reasF_refR hv (setL_lt l1) (fun z => setL_mem z l1) l2 x hx]
    have h0 := (refK_bd a b c d l1 x 4).1
    have hr : 0 ≤ refR a b c d l1 l2 x := by unfold refR; split <;> omega
    congr 1
    rw [Bool.eq_iff_iff]
    simp
    omega
  · exact Ev.neg hk (Ev.to (Ev.now _) (by rw [split_no hk]))
theorem law_Keeps (a b c d : Int) (l1 l2 : List Int) : Ev (fun k => kinkeeplaw27_RetentionKeeps.f k a b c d l1 l2) true := by
  unfold kinkeeplaw27_RetentionKeeps.f
  refine Ev.bind awake_ev (Ev.pos rfl (Ev.const (few_eq l1 l2) ?_))
  refine Ev.step (fun k => kinkeeplaw27_RetentionKeeps.j0.eq_2 _ _ _ _ _ _ _ _) ?_
  by_cases h : l1.length ≤ 40 ∧ l2.length ≤ 10
  · refine Ev.neg (by simp [h]) ?_
    have hk := split_len a b c d l1 l2 true
    have hd := split_len a b c d l1 l2 false
    have rk : Ev (fun k => kinkeepref27_Keep.f k a b c d l1 l2) (splitF a b c d l1 l2 true, chk a b c d l1 l2) := by
      unfold kinkeepref27_Keep.f
      exact Ev.bind (divide_ev a b c d l1 l2 true (by omega) (by omega)) (Ev.now _)
    have rd : Ev (fun k => kinkeepref27_Drop.f k a b c d l1 l2) (splitF a b c d l1 l2 false, chk a b c d l1 l2) := by
      unfold kinkeepref27_Drop.f
      exact Ev.bind (divide_ev a b c d l1 l2 false (by omega) (by omega)) (Ev.now _)
    refine Ev.const (keep_eq a b c d l1 l2 (by omega) (by omega)) (Ev.const (drop_eq a b c d l1 l2 (by omega) (by omega)) (Ev.bind rk (Ev.bind rd ?_)))
    refine Ev.bind (same_ev (splitF a b c d l1 l2 true) (by omega)) (Ev.pos rfl (Ev.pos rfl (Ev.bind (same_ev (splitF a b c d l1 l2 false) (by omega)) (Ev.pos rfl (Ev.to (Ev.now _) (by simp))))))
  · exact Ev.pos (by simp; omega) (Ev.bind awake_ev (Ev.now _))
end Go.Proofs.Ytbahcpdhadhplaa.PA
namespace Go.Proofs.Ytbahcpdhadhplaa.Pure
open Go.RowKit Go.Proofs.Ytbahcpdhadhplaa.Q Go.Proofs.Ytbahcpdhadhplaa.PA Go.Proofs.YtbahcpdhadhplaaW.PrintWords
theorem RetentionKeeps (a0_0 a0_1 a0_2 a0_3 : Int) (l1 l2 : List Int) (w0 : (Lit.int .i64 a0_0).wf = true) (w1 : (Lit.int .i64 a0_1).wf = true) (w2 : (Lit.int .i64 a0_2).wf = true) (w3 : (Lit.int .i64 a0_3).wf = true)
    (hm1 : l1.length ≤ maxLen) (y1 : l1.length * 8 ≤ 140737488351232) (hw1 : ∀ x ∈ l1, (Lit.int .i64 x).wf = true) (hm2 : l2.length ≤ maxLen) (y2 : l2.length * 8 ≤ 140737488351232) (hw2 : ∀ x ∈ l2, (Lit.int .i64 x).wf = true) :
    ∃ k, kinkeeplaw27_RetentionKeeps.f k a0_0 a0_1 a0_2 a0_3 l1 l2 = some true := (law_Keeps a0_0 a0_1 a0_2 a0_3 l1 l2).rounds
end Go.Proofs.Ytbahcpdhadhplaa.Pure
