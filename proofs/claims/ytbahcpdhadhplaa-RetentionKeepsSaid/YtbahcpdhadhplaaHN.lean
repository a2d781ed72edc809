/- What retention.Reasons, Keep and Drop return. What retention.Reasons returns. What retention.Next returns. -/
import Derived.Test.YtbahcpdhadhplaaHR
import Derived.Deep.RegionWith
import Derived.Test.YtbahcpdhadhplaaShelfB
import Derived.Shelf.GgClosure.Gives
set_option linter.unusedVariables false
set_option linter.unusedSimpArgs false
namespace Go.Proofs.Ytbahcpdhadhplaa.Hand
open Go.RowKit Go.Maps Go.Sort Go.Proofs.YtbahcpdhadhplaaW.PrintWords Go.Proofs.YtbahcpdhadhplaaW.PrintMore Go.Proofs.Ytbahcpdhadhplaa.PS Go.Proofs.Ytbahcpdhadhplaa.PB Go.Proofs.Ytbahcpdhadhplaa.M

theorem chk_ok {a b c d : Int} {l1 l2 : List Int} (h : chk a b c d l1 l2 = 0) : validB a b c d = true ∧ l1.all dayB = true ∧ l2.all dayB = true := by
  unfold chk at h
  split at h
  · rename_i h1
    simpa [Bool.and_eq_true] using h1
  · omega
theorem chk_no {a b c d : Int} {l1 l2 : List Int} (h : chk a b c d l1 l2 ≠ 0) : chk a b c d l1 l2 = 1 := by
  unfold chk at h ⊢
  split at h
  · omega
  · rename_i h1; rw [if_neg h1]
theorem set_all {l : List Int} (h : l.all dayB = true) : (setL l).all dayB = true := by
  rw [List.all_eq_true] at h ⊢
  exact fun x hx => h x ((setL_mem x l).1 hx)

/-! ### the closure of split -/
abbrev D64 : Type := {x : Int // -9223372036854775808 ≤ x ∧ x ≤ 9223372036854775807}
instance i64inh : Inhabited D64 := ⟨⟨0, by omega, by omega⟩⟩
def enc64 (x : D64) : Value := .int .i64 x.1
theorem closure_gives (B1 B2 Bo n : Nat) (D : DataW Unit) (S : Int → Prop) (F : Int → Int) (kept : Bool) (x : D64) (W : World) (h1 : W.cell? ⟨B1, 0, none⟩ = some (.map (some Bo))) (h2 : W.cell? ⟨B2, 0, none⟩ = some (.bool kept)) (ho : OM W Bo n D) (hr : Reads D S F) :
    FnGives Try.prog 52 #[.pointer (some ⟨B1, 0, none⟩), .pointer (some ⟨B2, 0, none⟩)] #[enc64 x] (.bool (!((F x.1 != 0) == kept))) W := by
  obtain ⟨x, hx1, hx2⟩ := x
  have hkey : keyOf Try.prog 3 (.int .i64 x) = some (.int .i64 x) := keyOf_int_mk Try.underlying3 (wf64 hx1 hx2)
  have hR := Aside0.mk hr
  clear hr
  unfold FnGives enc64
  go_enter Try.func52, Try.ntmps52
  go_wp2_with (first
    | (at_lookup; refine wpList_lookup_own_int _ rfl _ _ 47 rfl 3 3 .i64 law3 Try.underlying47 Try.underlying3 (zero3 _) Bo n D rfl ho _ _ rfl hkey ?_; intro c0 hat0 hwc0)
    | go_in)
  go_ret
  have e : c0 = F x := lit_inj (hat0.symm.trans (hR.out.2.2 x))
  exact ⟨by rw [← e]; rfl, 0, rfl⟩

theorem d64_of (l : List Int) (h : ∀ x ∈ l, -9223372036854775808 ≤ x ∧ x ≤ 9223372036854775807) : ∃ L : List D64, L.map (·.1) = l := by
  induction l with
  | nil => exact ⟨[], rfl⟩
  | cons a r ih =>
    obtain ⟨L, e⟩ := ih (fun x hx => h x (by simp [hx]))
    exact ⟨⟨a, h a (by simp)⟩ :: L, by simp [e]⟩
theorem get64 (L : List D64) (j : Nat) (hj : j < L.length) : (L.toArray[j]!).1 = ((L.map (·.1)).toArray)[j]! := by
  simp [hj]
theorem holds64 {w : World} {g : Nat} {L : List D64} (h : Holds encZ w g 0 (L.map (·.1)).toArray) : Holds enc64 w g 0 L.toArray := by
  intro j hj
  have hj' : j < L.length := by simpa using hj
  have := h j (by simpa using hj')
  rw [← get64 L j hj'] at this
  exact this
theorem put64 (w : World) (g : Nat) (L : List D64) : putRow enc64 w g 0 L.toArray = putRow encZ w g 0 (L.map (·.1)).toArray := by
  unfold putRow
  congr 1
  funext c
  unfold putCells
  apply Array.ext_getElem?
  intro k
  simp only [Array.getElem?_mapIdx]
  cases c[k]? with
  | none => rfl
  | some v =>
    simp only [Option.map_some]
    congr 1
    by_cases hk : k < L.length
    · have hs : k < 0 + L.toArray.size := by simpa using hk
      have hs2 : k < 0 + (L.map (·.1)).toArray.size := by simpa using hk
      rw [if_pos ⟨Nat.zero_le _, hs⟩, if_pos ⟨Nat.zero_le _, hs2⟩]
      show Value.int .i64 (L.toArray[k - 0]!).1 = Value.int .i64 _
      rw [Nat.sub_zero, get64 L k hk]
    · rw [if_neg (by simpa using hk), if_neg (by simpa using hk)]

theorem delete_empty (a : Option Addr) (c : Nat) (fv : Value) (w : World) : Calls Try.prog 51 #[.slice a 0 c, fv] w fun e w' => e = .returned (.slice a 0 c) ∧ w' = w := by
  go_enter Try.func51, Try.ntmps51
  go_wp2_with (first | (go_at_call 63; refine (Try.slices_IndexFunc_empty (α := D64) a c fv _).mono ?_; rintro e w' ⟨rfl, rfl⟩) | go_in)
  go_ret
  exact ⟨rfl, rfl⟩
theorem sort_world (w : World) (blk n : Nat) (dk : Array D64) (os : Array Obj) : sortWorld enc64 w blk 0 n dk os = grow (putRow encZ (Sort.ahead w n) blk 0 (dk.toList.map (·.1)).toArray) os := by
  have := put64 (Sort.ahead w n) blk dk.toList
  rw [Array.toArray_toList] at this
  exact congrArg (fun z => grow z os) this
theorem sort_block (w : World) (blk n : Nat) (dk : Array D64) (os : Array Obj) (k : Nat) (hk : k < w.heap.size) (hne : blk ≠ k) : (sortWorld enc64 w blk 0 n dk os).heap[k]? = w.heap[k]? := by
  have h := (grownBy_sorted_i (w := w) (g := blk) (n := n) (os := os) (dk.toList.map (·.1)).toArray).block k hk (fun e => hne (Option.some.inj e).symm)
  rw [sort_world w blk n dk os]
  exact h
theorem delete_post (w : World) (base blk cap n : Nat) (cur : Array Value) (L : List D64) (p : D64 → Bool) (hg : base ≤ blk) (hh : w.heap[blk]? = some (.cells cur 3 (0, 0))) (h3 : L.length ≤ cap) (h4 : cap ≤ maxLen) (h5 : cur.size = cap * 1) (hbase : base ≤ w.heap.size) (z : D64) (hz : z.1 = 0) :
    Own (putRow enc64 (Sort.ahead w n) blk 0 ((L.filter p) ++ List.replicate (L.length - (L.filter p).length) z).toArray) base (.slice (some ⟨blk, 0, none⟩) (L.filter p).length cap) ((L.filter p).map (·.1)) ∧
      Below base w (putRow enc64 (Sort.ahead w n) blk 0 ((L.filter p) ++ List.replicate (L.length - (L.filter p).length) z).toArray) := by
  have hle : (L.filter p).length ≤ L.length := List.length_filter_le _ _
  obtain ⟨M, hM⟩ : ∃ M, M = (L.filter p) ++ List.replicate (L.length - (L.filter p).length) z := ⟨_, rfl⟩
  have hlen : (M.map (·.1)).length = (L.map (·.1)).length := by rw [hM, List.length_map, List.length_append, List.length_replicate, List.length_map]; exact Nat.add_sub_cancel' hle
  have e0 : putRow enc64 (Sort.ahead w n) blk 0 M.toArray = grow (putRow encZ (Sort.ahead w n) blk 0 (M.map (·.1)).toArray) #[] := by rw [put64, grow_empty]
  have e2 : (M.map (·.1)).map encZ = ((L.filter p).map (·.1)).map encZ ++ (List.replicate (L.length - (L.filter p).length) (0 : Int)).map encZ := by
    rw [hM, List.map_append, List.map_append, List.map_replicate, hz]
  have hgb := grownBy_sorted_i (w := w) (g := blk) (n := n) (os := #[]) (M.map (·.1)).toArray
  have hbel : Below base w _ := Below.grown (row := some blk) (Below.refl base w) hgb hbase (fun k hk => (Option.some.inj hk) ▸ hg)
  rw [← hM, e0]
  refine ⟨?_, hbel⟩
  have := ownsRow_sorted_i (n := n) (os := #[]) (ts := M.map (·.1)) (ss := L.map (·.1)) hlen hg hh (by rw [List.length_map]; exact h3) h4 h5
  have t := own_take (m := (L.filter p).length) this (by rw [List.length_map]; exact hle)
  rw [e2, Nat.mul_one, List.take_append_of_le_length (by rw [List.length_map, List.length_map]; exact Nat.le_refl _), List.take_of_length_le (by rw [List.length_map, List.length_map]; exact Nat.le_refl _)] at t
  show World.ownsRow _ _ _ _ _ ((L.filter p).map (·.1)).length _
  rw [List.length_map]
  exact t
def zero64 : D64 := ⟨0, by omega, by omega⟩
theorem delete_some (base : Nat) (blk cap : Nat) (cur : Array Value) (L : List D64) (w : World) (g : Nat) (lb : Array Value) (q : Int → Bool) (eg : ∀ args w, (callFunc g args).run Try.prog w = .ok (.enter g args) w) (hg : base ≤ blk) (hh : w.heap[blk]? = some (.cells cur 3 (0, 0))) (h3 : L.length ≤ cap) (h4 : cap ≤ maxLen) (h5 : cur.size = cap * 1) (h6 : cur.toList.take (L.map (·.1)).length = (L.map (·.1)).map encZ) (hl : L.length ≤ 1000000) (hbase : base ≤ w.heap.size)
    (hpa : PredAt Try.prog g lb enc64 (fun x => q x.1) w) (hpo : PredOver Try.prog g lb enc64 (fun x => q x.1) blk 0 L.toArray.size w) :
    Calls Try.prog 51 #[.slice (some ⟨blk, 0, none⟩) L.length cap, .func (.func g) #[] lb] w fun e w' => ∃ u, e = .returned u ∧ Own w' base u ((L.map (·.1)).filter fun x => !q x) ∧ Below base w w' := by
  have hH : Holds enc64 w blk 0 L.toArray := holds64 (holds_of_block_i hh h6)
  have hC := Try.slices_DeleteFunc enc64 (fun _ => rfl) (fun x => q x.1) g lb eg zero64 (fun w => by kernel_rfl) blk 0 cap L.toArray w hpa hpo hH (by rw [List.size_toArray]; omega) (by rw [List.size_toArray]; exact h3)
  rw [List.size_toArray] at hC
  simp only [List.toList_toArray] at hC
  refine hC.mono ?_
  rintro e w' ⟨rfl, n, rfl⟩
  have h := delete_post w base blk cap n cur L (fun x => !q x.1) hg hh h3 h4 h5 hbase zero64 rfl
  have e1 : (L.filter fun x => !q x.1).map (·.1) = (L.map (·.1)).filter fun x => !q x := by rw [List.filter_map]; rfl
  rw [e1] at h
  exact ⟨_, rfl, h⟩
theorem delete_any (base : Nat) (v : Value) (l : List Int) (w : World) (g : Nat) (lb : Array Value) (q : Int → Bool) (eg : ∀ args w, (callFunc g args).run Try.prog w = .ok (.enter g args) w) (h : Own w base v l) (hl : l.length ≤ 1000000) (hbase : base ≤ w.heap.size) (hbd : ∀ x ∈ l, -9223372036854775808 ≤ x ∧ x ≤ 9223372036854775807)
    (hp : ∀ (W : World) (x : D64), (∀ k, k < w.heap.size → v.ownBlock ≠ some k → W.heap[k]? = w.heap[k]?) → FnGives Try.prog g lb #[enc64 x] (.bool (q x.1)) W) :
    Calls Try.prog 51 #[v, .func (.func g) #[] lb] w fun e w' => ∃ u, e = .returned u ∧ Own w' base u (l.filter fun x => !q x) ∧ Below base w w' := by
  obtain ⟨rfl, rfl⟩ | ⟨blk, cap, cur, rfl, hg, hlt, hh, h3, h4, h5, h6⟩ := h.cases
  · refine (delete_empty none 0 _ w).mono ?_
    rintro e w' ⟨rfl, rfl⟩
    exact ⟨_, rfl, World.ownsRow_nil _ _ _ _, Below.refl _ _⟩
  · obtain ⟨L, rfl⟩ := d64_of l hbd
    rw [List.length_map] at h3 hl
    have hpa : PredAt Try.prog g lb enc64 (fun x => q x.1) w := fun W x hb => hp W x (fun k hk _ => hb.block k hk)
    have hpo : PredOver Try.prog g lb enc64 (fun x => q x.1) blk 0 L.toArray.size w := fun n os dk x hs => hp _ x (fun k hk hne => sort_block w blk n dk os k hk (fun e => hne (congrArg some e)))
    rw [List.length_map]
    exact delete_some base blk cap cur L w g lb q eg hg hh h3 h4 h5 h6 hl hbase hpa hpo
theorem set_bd {l : List Int} (h : l.all dayB = true) : ∀ x ∈ setL l, -9223372036854775808 ≤ x ∧ x ≤ 9223372036854775807 := fun x hx => by
  have h3 := List.all_eq_true.1 h x ((setL_mem x l).1 hx)
  simp only [dayB, Bool.and_eq_true, decide_eq_true_eq] at h3
  omega
theorem own_lower {w : World} {base base' : Nat} {v : Value} {xs : List Int} (h : Own w base v xs) (hb : base' ≤ base) : Own w base' v xs := own_weaken h hb
def keepQ (F : Int → Int) (kept : Bool) (x : Int) : Bool := (F x != 0) == kept
theorem closure_ready {w2 w3 : World} {B2 base n3 : Nat} {A3 : Option Addr} {n c3 : Nat} {L : List Int} {D3 : DataW Unit} {S3 : Int → Prop} {F : Int → Int} {kept : Bool} (hk2 : w2.heap[B2]? = some (.cells #[.bool kept] 4 (0, 0)))
    (ho2 : Own w2 base (.slice A3 n c3) L) (hB : B2 < base) (hb3 : Below w2.heap.size w2 w3) (ho3 : OM w3 (w2.heap.size + 1) n3 D3) (hr3 : Reads D3 S3 F) :
    ∀ (W : World) (x : D64), (∀ k, k < (w3.alloc (.cells #[.map (some (w2.heap.size + 1))] 47)).heap.size → (Value.slice A3 n c3).ownBlock ≠ some k → W.heap[k]? = (w3.alloc (.cells #[.map (some (w2.heap.size + 1))] 47)).heap[k]?) →
      FnGives Try.prog 52 #[.pointer (some ⟨w3.heap.size, 0, none⟩), .pointer (some ⟨B2, 0, none⟩)] #[enc64 x] (.bool (!(keepQ F kept x.1))) W := by
  intro W x h
  have e : (w3.alloc (.cells #[.map (some (w2.heap.size + 1))] 47)).heap.size = w3.heap.size + 1 := by simp
  have hlt : ∀ k, (Value.slice A3 n c3).ownBlock = some k → base ≤ k ∧ k < w2.heap.size := fun k hk => ho2.lt k hk
  have h2 : B2 < w2.heap.size := (Array.getElem?_eq_some_iff.1 hk2).1
  have h3 := hb3.size
  have h4 := ho3.lt
  have g1 : W.heap[w3.heap.size]? = some (.cells #[.map (some (w2.heap.size + 1))] 47 (0, 0)) := (h _ (by omega) (fun e1 => by have := (hlt _ e1).2; omega)).trans (heap_alloc_new _ _)
  have g2 : W.heap[B2]? = some (.cells #[.bool kept] 4 (0, 0)) := (h _ (by omega) (fun e1 => by have := (hlt _ e1).1; omega)).trans ((Below.heap_alloc _ _ _ (by omega)).trans ((hb3.block _ h2).trans hk2))
  have g3 : OM W (w2.heap.size + 1) n3 D3 := om_same ho3 ((h _ (by omega) (fun e1 => by have := (hlt _ e1).2; omega)).trans (Below.heap_alloc _ _ _ (by omega)))
  exact closure_gives _ _ _ n3 D3 S3 F kept x W (cell_of_heap g1 0 _ rfl) (cell_of_heap g2 0 _ rfl) g3 hr3
theorem two_new (w : World) (o1 o2 : Obj) : ((w.alloc o1).alloc o2).heap[w.heap.size]? = some o1 ∧ ((w.alloc o1).alloc o2).heap[w.heap.size + 1]? = some o2 := by
  have e1 : (w.alloc o1).heap.size = w.heap.size + 1 := by simp
  have h := heap_alloc_new (w.alloc o1) o2
  rw [e1] at h
  exact ⟨(Below.heap_alloc _ _ _ (by omega)).trans (heap_alloc_new _ _), h⟩
def splitF (a b c d : Int) (l1 l2 : List Int) (kept : Bool) : List Int := if chk a b c d l1 l2 = 0 then (setL l1).filter (keepQ (reasF a b c d (setL l1) l2) kept) else []
set_option maxRecDepth 100000 in
set_option maxHeartbeats 4000000 in
theorem split_calls (a b c d : Int) (A1 A2 : Option Addr) (c1 c2 : Nat) (l1 l2 : List Int) (kept : Bool) (w : World) (hr1 : Kd.C (Kd.int .i64) w A1 l1.length l1) (hr2 : Kd.C (Kd.int .i64) w A2 l2.length l2) (hl1 : l1.length ≤ 100000) (hl2 : l2.length ≤ 1000000) :
    Calls Try.prog 35 #[.agg #[.int .i64 a, .int .i64 b, .int .i64 c, .int .i64 d], .slice A1 l1.length c1, .slice A2 l2.length c2, .bool kept] w fun e w' =>
    ∃ v, e = .returned (.tuple #[v, .int .i64 (chk a b c d l1 l2)]) ∧ Own w' w.heap.size v (splitF a b c d l1 l2 kept) ∧ Below w.heap.size w w' := by
  have HR1 := Aside0.mk hr1
  have HR2 := Aside0.mk hr2
  clear hr1 hr2
  by_cases hk : chk a b c d l1 l2 = 0
  · obtain ⟨hv, hd1, hd2⟩ := chk_ok hk
    have HV := Aside0.mk hv
    have HD1 := Aside0.mk hd1
    have HD2 := Aside0.mk hd2
    have HK := Aside0.mk hk
    clear hv hd1 hd2
    have hC : ∀ W, Below w.heap.size w W → Calls Try.prog 28 #[.agg #[.int .i64 a, .int .i64 b, .int .i64 c, .int .i64 d], .slice A1 l1.length c1, .slice A2 l2.length c2] W fun e w' => e = .returned (.int .i64 0) ∧ Below W.heap.size W w' := fun W hb => by
      have := check_calls a b c d A1 A2 c1 c2 l1 l2 W (Kd.C_below HR1.out hb) (Kd.C_below HR2.out hb) (by omega) hl2
      rw [HK.out] at this
      exact this
    clear hk
    have hset := setL_len_le l1
    go_enter Try.func35, Try.ntmps35
    go_wp2_with (first
      | (go_at_call 28; refine (hC _ (((Below.refl _ _).alloc (Nat.le_refl _) _).alloc (by simp) _)).mono ?_; rintro e w1 ⟨rfl, hb1⟩; have hX1 : Below w.heap.size w w1 := (((Below.refl _ _).alloc (Nat.le_refl _) _).alloc (by simp) _).trans (hb1.mono (by simp; omega)); have hk1 := (hb1.block w.heap.size (by simp; omega)).trans (two_new _ _ _).1; have hk2 := (hb1.block (w.heap.size + 1) (by simp)).trans (two_new _ _ _).2; have hs1 : w.heap.size + 1 < w1.heap.size := (Array.getElem?_eq_some_iff.1 hk2).1)
      | (go_at_call 31; refine (set_calls A1 c1 l1 _ (Kd.C_below HR1.out hX1) (by omega)).mono ?_; rintro e w2 ⟨v2, rfl, ho2, hb2⟩; obtain ⟨A3, c3, rfl, hc3, hC3⟩ := ho2.reads; have hX2 := hX1.trans (hb2.mono hX1.size); have hm1 := (hb2.block w.heap.size (by omega)).trans hk1; have hm2 := (hb2.block (w.heap.size + 1) hs1).trans hk2; have q0 := cell_of_heap hm1 0 _ rfl; have q1 := cell_of_heap hm1 1 _ rfl; have q2 := cell_of_heap hm1 2 _ rfl; have q3 := cell_of_heap hm1 3 _ rfl)
      | (go_at_call 30; refine (reasons_calls a b c d A3 A2 c3 c2 (setL l1) l2 _ hC3 (Kd.C_below HR2.out hX2) (by omega) hl2 hc3 HV.out (set_all HD1.out) HD2.out (setL_lt l1)).mono ?_; rintro e w3 ⟨n3, D3, S3, rfl, ho3, hr3, hb3⟩)
      | (go_at_call 51; refine (delete_any w.heap.size _ (setL l1) _ 52 _ (fun x => !(keepQ (reasF a b c d (setL l1) l2) kept x)) (enters_of Try.func52 (by kernel_rfl) rfl) ((own_lower ho2 hX1.size).step hb3 |>.step (Below.alloc (Below.refl _ _) (Nat.le_refl _) _)) (by omega) (Nat.le_trans hX2.size (Nat.le_trans hb3.size (by simp))) (set_bd HD1.out) (closure_ready hm2 ho2 hs1 hb3 ho3 hr3)).mono ?_; rintro e w5 ⟨v5, rfl, ho5, hb5⟩)
      | go_in)
    go_ret2
    refine ⟨_, by rw [HK.out]; rfl, ?_, ?_⟩
    · rw [splitF, if_pos HK.out]
      have e : ((setL l1).filter fun x => !(fun x => !(keepQ (reasF a b c d (setL l1) l2) kept x)) x) = (setL l1).filter (keepQ (reasF a b c d (setL l1) l2) kept) := by simp
      rw [← e]
      exact ho5
    · exact ((hX2.trans (hb3.mono hX2.size)).alloc (Nat.le_trans hX2.size hb3.size) _).trans hb5
  · have h1 := chk_no hk
    have HK := Aside0.mk hk
    have H1 := Aside0.mk h1
    have hC : ∀ W, Below w.heap.size w W → Calls Try.prog 28 #[.agg #[.int .i64 a, .int .i64 b, .int .i64 c, .int .i64 d], .slice A1 l1.length c1, .slice A2 l2.length c2] W fun e w' => e = .returned (.int .i64 1) ∧ Below W.heap.size W w' := fun W hb => by
      have := check_calls a b c d A1 A2 c1 c2 l1 l2 W (Kd.C_below HR1.out hb) (Kd.C_below HR2.out hb) (by omega) hl2
      rw [H1.out] at this
      exact this
    clear hk h1
    go_enter Try.func35, Try.ntmps35
    go_wp2_with (first
      | (go_at_call 28; refine (hC _ (((Below.refl _ _).alloc (Nat.le_refl _) _).alloc (by simp) _)).mono ?_; rintro e w1 ⟨rfl, hb1⟩; have hX1 : Below w.heap.size w w1 := (((Below.refl _ _).alloc (Nat.le_refl _) _).alloc (by simp) _).trans (hb1.mono (by simp; omega)))
      | go_in)
    go_ret2
    refine ⟨_, by rw [H1.out]; rfl, ?_, hX1⟩
    rw [splitF, if_neg HK.out]
    exact World.ownsRow_nil _ _ _ _
end Go.Proofs.Ytbahcpdhadhplaa.Hand

set_option linter.unusedVariables false
set_option linter.unusedSimpArgs false
namespace Go.Proofs.Ytbahcpdhadhplaa.Hand
open Go.RowKit Go.Maps Go.Sort Go.Proofs.YtbahcpdhadhplaaW.PrintWords Go.Proofs.YtbahcpdhadhplaaW.PrintMore Go.Proofs.Ytbahcpdhadhplaa.PS Go.Proofs.Ytbahcpdhadhplaa.PB Go.Proofs.Ytbahcpdhadhplaa.M

theorem contains_calls (A : Option Addr) (c : Nat) (l : List Int) (x : Int) (w : World) (hr : Kd.C (Kd.int .i64) w A l.length l) : Calls Try.prog 29 #[.slice A l.length c, .int .i64 x] w fun e w' => e = .returned (.bool (l.contains x)) ∧ w' = w := by
  by_cases hn : 0 < l.length
  · obtain ⟨b, off, rfl, hb, hc⟩ := C_cells hr hn
    have := Try.slices_Contains_int b off l.length c l x w (Nat.le_refl _) (Kd.C_max hr) hc
    rw [List.take_length] at this
    exact this
  · obtain rfl : l = [] := List.length_eq_zero_iff.1 (by omega)
    exact Try.slices_Contains_int_empty A c x w
theorem one_new (w : World) (o1 : Obj) : (w.alloc o1).heap[w.heap.size]? = some o1 := heap_alloc_new _ _

def reasR (a b c d : Int) (l1 l2 : List Int) (x : Int) : Int × Int := if chk a b c d l1 l2 = 0 then (if l1.contains x then (reasF a b c d (setL l1) l2 x, 0) else (0, 4)) else (0, 1)
set_option maxRecDepth 100000 in
set_option maxHeartbeats 4000000 in
theorem Reasons_calls (a b c d : Int) (A1 A2 : Option Addr) (c1 c2 : Nat) (l1 l2 : List Int) (x : Int) (w : World) (hr1 : Kd.C (Kd.int .i64) w A1 l1.length l1) (hr2 : Kd.C (Kd.int .i64) w A2 l2.length l2) (hl1 : l1.length ≤ 100000) (hl2 : l2.length ≤ 1000000) :
    Calls Try.prog 15 #[.agg #[.int .i64 a, .int .i64 b, .int .i64 c, .int .i64 d], .slice A1 l1.length c1, .slice A2 l2.length c2, .int .i64 x] w fun e w' =>
    e = .returned (.tuple #[.int .i64 (reasR a b c d l1 l2 x).1, .int .i64 (reasR a b c d l1 l2 x).2]) ∧ Below w.heap.size w w' := by
  have HR1 := Aside0.mk hr1
  have HR2 := Aside0.mk hr2
  clear hr1 hr2
  by_cases hk : chk a b c d l1 l2 = 0
  · obtain ⟨hv, hd1, hd2⟩ := chk_ok hk
    have HV := Aside0.mk hv
    have HD1 := Aside0.mk hd1
    have HD2 := Aside0.mk hd2
    have HK := Aside0.mk hk
    clear hv hd1 hd2
    have hC : ∀ W, Below w.heap.size w W → Calls Try.prog 28 #[.agg #[.int .i64 a, .int .i64 b, .int .i64 c, .int .i64 d], .slice A1 l1.length c1, .slice A2 l2.length c2] W fun e w' => e = .returned (.int .i64 0) ∧ Below W.heap.size W w' := fun W hb => by
      have := check_calls a b c d A1 A2 c1 c2 l1 l2 W (Kd.C_below HR1.out hb) (Kd.C_below HR2.out hb) (by omega) hl2
      rw [HK.out] at this
      exact this
    clear hk
    have hset := setL_len_le l1
    cases hin : l1.contains x
    · have hN : ∀ W, Below w.heap.size w W → Calls Try.prog 29 #[.slice A1 l1.length c1, .int .i64 x] W fun e w' => e = .returned (.bool false) ∧ w' = W := fun W hb => hin ▸ contains_calls A1 c1 l1 x W (Kd.C_below HR1.out hb)
      have HI := Aside0.mk hin
      clear hin
      go_enter Try.func15, Try.ntmps15
      go_wp2_with (first
        | (go_at_call 28; refine (hC _ ((Below.refl _ _).alloc (Nat.le_refl _) _)).mono ?_; rintro e w1 ⟨rfl, hb1⟩; have hX1 : Below w.heap.size w w1 := ((Below.refl _ _).alloc (Nat.le_refl _) _).trans (hb1.mono (by simp)))
        | (go_at_call 29; refine (hN _ hX1).mono ?_; rintro e w2 ⟨rfl, rfl⟩)
        | go_in)
      go_ret2
      exact ⟨by simp only [reasR, if_pos HK.out, HI.out]; rfl, hX1⟩
    · have hN : ∀ W, Below w.heap.size w W → Calls Try.prog 29 #[.slice A1 l1.length c1, .int .i64 x] W fun e w' => e = .returned (.bool true) ∧ w' = W := fun W hb => hin ▸ contains_calls A1 c1 l1 x W (Kd.C_below HR1.out hb)
      have hxd : 0 ≤ x ∧ x ≤ 999999 := by
        have := List.all_eq_true.1 HD1.out x (by simpa using hin)
        simpa [dayB] using this
      have hkey : keyOf Try.prog 3 (.int .i64 x) = some (.int .i64 x) := keyOf_int_mk Try.underlying3 (wf64 (by omega) (by omega))
      have HI := Aside0.mk hin
      clear hin
      go_enter Try.func15, Try.ntmps15
      go_wp2_with (first
        | (go_at_call 28; refine (hC _ ((Below.refl _ _).alloc (Nat.le_refl _) _)).mono ?_; rintro e w1 ⟨rfl, hb1⟩; have hX1 : Below w.heap.size w w1 := ((Below.refl _ _).alloc (Nat.le_refl _) _).trans (hb1.mono (by simp)); have hk1 := (hb1.block w.heap.size (by simp)).trans (one_new _ _))
        | (go_at_call 29; refine (hN _ hX1).mono ?_; rintro e w2 ⟨rfl, rfl⟩; have p0 := cell_of_heap hk1 0 _ rfl; have p1 := cell_of_heap hk1 1 _ rfl; have p2 := cell_of_heap hk1 2 _ rfl; have p3 := cell_of_heap hk1 3 _ rfl; have hs1 := (Array.getElem?_eq_some_iff.1 hk1).1)
        | go_in)
      go_region_with (first
        | (go_at_call 31; refine (set_calls A1 c1 l1 _ ?_ (by omega)).mono ?_; exact Kd.C_drew (Kd.C_below HR1.out hX1); rintro e w4 ⟨v4, rfl, ho2, hb2⟩; obtain ⟨A3, c3, rfl, hc3, hC3⟩ := ho2.reads; have hX2 := (Below.drew hX1).trans (hb2.mono hX1.size); have hm1 := (hb2.block w.heap.size hs1).trans hk1; have q0 := cell_of_heap hm1 0 _ rfl; have q1 := cell_of_heap hm1 1 _ rfl; have q2 := cell_of_heap hm1 2 _ rfl; have q3 := cell_of_heap hm1 3 _ rfl)
        | (go_at_call 30; refine (reasons_calls a b c d A3 A2 c3 c2 (setL l1) l2 _ hC3 (Kd.C_below HR2.out hX2) (by omega) hl2 hc3 HV.out (set_all HD1.out) HD2.out (setL_lt l1)).mono ?_; rintro e w3 ⟨n3, D3, S3, rfl, ho3, hr3, hb3⟩; obtain ⟨c0, hrun, hat, hwc⟩ := ho3.lookup_int law3 Try.underlying47 Try.underlying3 (zero3 _) hkey))
      all_goals
        have hfin : Below w.heap.size w w3 := hX2.trans (hb3.mono hX2.size)
        have e : c0 = reasF a b c d (setL l1) l2 x := lit_inj (hat.symm.trans (hr3.2.2 x))
        have hF := Aside0.mk hfin
        have hE := Aside0.mk e
        clear hfin e hat hr3 ho3 hb3 hrun
        go_wp2
        go_ret2
        exact ⟨by simp only [reasR, if_pos HK.out, HI.out, if_true, ← hE.out]; rfl, hF.out⟩
  · have h1 := chk_no hk
    have HK := Aside0.mk hk
    have H1 := Aside0.mk h1
    have hC : ∀ W, Below w.heap.size w W → Calls Try.prog 28 #[.agg #[.int .i64 a, .int .i64 b, .int .i64 c, .int .i64 d], .slice A1 l1.length c1, .slice A2 l2.length c2] W fun e w' => e = .returned (.int .i64 1) ∧ Below W.heap.size W w' := fun W hb => by
      have := check_calls a b c d A1 A2 c1 c2 l1 l2 W (Kd.C_below HR1.out hb) (Kd.C_below HR2.out hb) (by omega) hl2
      rw [H1.out] at this
      exact this
    clear hk h1
    go_enter Try.func15, Try.ntmps15
    go_wp2_with (first
      | (go_at_call 28; refine (hC _ ((Below.refl _ _).alloc (Nat.le_refl _) _)).mono ?_; rintro e w1 ⟨rfl, hb1⟩; have hX1 : Below w.heap.size w w1 := ((Below.refl _ _).alloc (Nat.le_refl _) _).trans (hb1.mono (by simp)))
      | go_in)
    go_ret2
    exact ⟨by simp only [reasR, if_neg HK.out]; rfl, hX1⟩
end Go.Proofs.Ytbahcpdhadhplaa.Hand

set_option linter.unusedVariables false
set_option linter.unusedSimpArgs false
namespace Go.Proofs.Ytbahcpdhadhplaa.Hand
open Go.RowKit Go.Maps Go.Sort Go.Proofs.YtbahcpdhadhplaaW.PrintWords Go.Proofs.YtbahcpdhadhplaaW.PrintMore Go.Proofs.Ytbahcpdhadhplaa.PS Go.Proofs.Ytbahcpdhadhplaa.PB Go.Proofs.Ytbahcpdhadhplaa.M

def nextGo (a b c d : Int) (hs : List Int) (day : Int) : Nat → Int → List Int → Int
  | 0, _, _ => 0
  | f + 1, n, all =>
    let nx := all.getLastD 0 + 1
    if dayB nx = true then (if reasF a b c d (all ++ [nx]) hs day = 0 then n else nextGo a b c d hs day f (n + 1) (all ++ [nx])) else 0
def nextR (a b c d : Int) (l1 l2 : List Int) (day limit : Int) : Int × Int :=
  if (reasR a b c d l1 l2 day).2 ≠ 0 then (0, (reasR a b c d l1 l2 day).2) else if limit < 0 ∨ 4000 < limit then (0, 1) else if (reasR a b c d l1 l2 day).1 = 0 then (0, 6) else (nextGo a b c d l2 day limit.toNat 1 (setL l1), 0)
theorem infoI : (Try.prog.info? 3).map (fun i => (i.zero, i.size, i.bytes)) = some (some (.int .i64 0), 1, 8) := by kernel_rfl
theorem reasR_ok {a b c d : Int} {l1 l2 : List Int} {x : Int} (h : (reasR a b c d l1 l2 x).2 = 0) : chk a b c d l1 l2 = 0 ∧ l1.contains x = true := by
  unfold reasR at h
  split at h
  · rename_i h1
    split at h
    · rename_i h2; exact ⟨h1, h2⟩
    · simp at h
  · simp at h
theorem last_step {all : List Int} {m : Nat} {x : Int} (hm : all.length = m + 1) (hx : x = all.getD m 0) (hlt : all.Pairwise (· < ·)) : all.getLastD 0 = x ∧ (all ++ [x + 1]).Pairwise (· < ·) := by
  have hne : all ≠ [] := fun e => by rw [e] at hm; simp at hm
  have e1 : all.getLastD 0 = x := by
    rw [hx, List.getLastD_eq_getLast?, List.getLast?_eq_getElem?, hm, List.getD_eq_getElem?_getD]
    rfl
  refine ⟨e1, List.pairwise_append.2 ⟨hlt, by simp, fun y hy z hz => ?_⟩⟩
  obtain rfl := List.mem_singleton.1 hz
  obtain ⟨i, hi, rfl⟩ := List.getElem_of_mem hy
  have hxm : x = all[m] := by rw [hx, List.getD_eq_getElem?_getD, List.getElem?_eq_getElem (by omega)]; rfl
  rcases Nat.lt_or_ge i m with h | h
  · have := List.pairwise_iff_getElem.1 hlt i m hi (by omega) h
    omega
  · have : i = m := by omega
    subst this
    omega

theorem room1 (m : Nat) (h : m ≤ 1000000) : m + 1 + 1 ≤ maxLen := by unfold maxLen; omega
theorem own_app {w5 : World} {base m : Nat} {all : List Int} {z : Int} {v : Value} (hm : all.length = m + 1) (h : w5.ownsRow base 3 1 v (m + 1 + 1) (all.map (Value.int .i64) ++ [.int .i64 z])) : Own w5 base v (all ++ [z]) := by
  unfold Own
  rw [List.length_append, hm, List.map_append]
  exact h
theorem app_below {w W w3 w5 : World} {base : Nat} {v : Value} {n : Nat} {xs : List Value} {o : Obj} (hX : Below w.heap.size w W) (hb : Below W.heap.size W w3) (ho : w3.ownsRow base 3 1 v n xs) (hg : (w3.alloc o).grownBy w5 v.ownBlock) (hbase : base ≤ W.heap.size) (hwb : w.heap.size ≤ base) : Below w.heap.size w w5 := by
  have h1 : Below w.heap.size w (w3.alloc o) := (hX.trans (hb.mono hX.size)).alloc (Nat.le_trans hX.size hb.size) o
  refine h1.grown hg h1.size (fun k hk => ?_)
  have := (ho.lt k hk).1
  omega
theorem app_box {W w3 w5 : World} {base B : Nat} {v : Value} {n : Nat} {xs : List Value} {o o1 : Obj} (hB : W.heap[B]? = some o1) (hb : Below W.heap.size W w3) (ho : w3.ownsRow base 3 1 v n xs) (hg : (w3.alloc o).grownBy w5 v.ownBlock) (hlt : B < base) : w5.heap[B]? = some o1 := by
  have h1 := (Array.getElem?_eq_some_iff.1 hB).1
  have h2 := hb.size
  refine (hg.block B (by simp; omega) (fun e => ?_)).trans ((Below.heap_alloc _ _ _ (by omega)).trans ((hb.block _ h1).trans hB))
  have := (ho.lt B e.symm).1
  omega
set_option maxRecDepth 100000 in
set_option maxHeartbeats 800000 in
theorem Next_calls (a b c d : Int) (A1 A2 : Option Addr) (c1 c2 : Nat) (l1 l2 : List Int) (x lim : Int) (w : World) (hr1 : Kd.C (Kd.int .i64) w A1 l1.length l1) (hr2 : Kd.C (Kd.int .i64) w A2 l2.length l2) (hl1 : l1.length ≤ 50000) (hl2 : l2.length ≤ 1000000) :
    Calls Try.prog 26 #[.agg #[.int .i64 a, .int .i64 b, .int .i64 c, .int .i64 d], .slice A1 l1.length c1, .slice A2 l2.length c2, .int .i64 x, .int .i64 lim] w fun e w' =>
    e = .returned (.tuple #[.int .i64 (nextR a b c d l1 l2 x lim).1, .int .i64 (nextR a b c d l1 l2 x lim).2]) ∧ Below w.heap.size w w' := by
  have HR1 := Aside0.mk hr1
  have HR2 := Aside0.mk hr2
  clear hr1 hr2
  obtain ⟨r, e0, hre⟩ : ∃ r e0, reasR a b c d l1 l2 x = (r, e0) := ⟨_, _, rfl⟩
  have hC : ∀ W, Below w.heap.size w W → Calls Try.prog 15 #[.agg #[.int .i64 a, .int .i64 b, .int .i64 c, .int .i64 d], .slice A1 l1.length c1, .slice A2 l2.length c2, .int .i64 x] W fun e w' => e = .returned (.tuple #[.int .i64 r, .int .i64 e0]) ∧ Below W.heap.size W w' := fun W hb => by
    have := Reasons_calls a b c d A1 A2 c1 c2 l1 l2 x W (Kd.C_below HR1.out hb) (Kd.C_below HR2.out hb) (by omega) hl2
    rw [hre] at this
    exact this
  have HE := Aside0.mk hre
  clear hre
  by_cases he : e0 = 0
  · subst he
    by_cases hlim : lim < 0 ∨ 4000 < lim
    · have HL := Aside0.mk hlim
      have hfin : nextR a b c d l1 l2 x lim = (0, 1) := by simp only [nextR, HE.out]; rw [if_neg (by simp), if_pos HL.out]
      rw [hfin]
      clear hfin
      rcases hlim with hlim | hlim
      · go_enter Try.func26, Try.ntmps26
        go_wp2_with (first | (go_at_call 15; refine (hC _ ((Below.refl _ _).alloc (Nat.le_refl _) _)).mono ?_; rintro e w1 ⟨rfl, hb1⟩; have hX1 : Below w.heap.size w w1 := ((Below.refl _ _).alloc (Nat.le_refl _) _).trans (hb1.mono (by simp))) | go_in)
        go_ret2
        exact ⟨rfl, hX1⟩
      · have hl0 : ¬ lim < 0 := by omega
        go_enter Try.func26, Try.ntmps26
        go_wp2_with (first | (go_at_call 15; refine (hC _ ((Below.refl _ _).alloc (Nat.le_refl _) _)).mono ?_; rintro e w1 ⟨rfl, hb1⟩; have hX1 : Below w.heap.size w w1 := ((Below.refl _ _).alloc (Nat.le_refl _) _).trans (hb1.mono (by simp))) | go_in)
        go_ret2
        exact ⟨rfl, hX1⟩
    · have hl0 : 0 ≤ lim := by omega
      have hl4 : lim ≤ 4000 := by omega
      by_cases hr0 : r = 0
      · subst hr0
        have hfin : nextR a b c d l1 l2 x lim = (0, 6) := by simp only [nextR, HE.out]; rw [if_neg (by simp), if_neg hlim]; simp
        rw [hfin]
        clear hfin
        go_enter Try.func26, Try.ntmps26
        go_wp2_with (first | (go_at_call 15; refine (hC _ ((Below.refl _ _).alloc (Nat.le_refl _) _)).mono ?_; rintro e w1 ⟨rfl, hb1⟩; have hX1 : Below w.heap.size w w1 := ((Below.refl _ _).alloc (Nat.le_refl _) _).trans (hb1.mono (by simp))) | go_in)
        go_ret2
        exact ⟨rfl, hX1⟩
      · have hfin : nextR a b c d l1 l2 x lim = (nextGo a b c d l2 x lim.toNat 1 (setL l1), 0) := by simp only [nextR, HE.out]; rw [if_neg (by simp), if_neg hlim, if_neg hr0]
        rw [hfin]
        clear hfin hlim
        obtain ⟨hk, hin⟩ := reasR_ok (by rw [HE.out] : (reasR a b c d l1 l2 x).2 = 0)
        obtain ⟨hv, hd1, hd2⟩ := chk_ok hk
        have hxd : 0 ≤ x ∧ x ≤ 999999 := by
          have := List.all_eq_true.1 hd1 x (by simpa using hin)
          simpa [dayB] using this
        have hkey : keyOf Try.prog 3 (.int .i64 x) = some (.int .i64 x) := keyOf_int_mk Try.underlying3 (wf64 (by omega) (by omega))
        have HV := Aside0.mk hv
        have HD1 := Aside0.mk hd1
        have HD2 := Aside0.mk hd2
        have HI := Aside0.mk hin
        clear hv hd1 hd2 hin hk
        have hset := setL_len_le l1
        obtain ⟨i0, hi, hz0, hz1, hz2⟩ := info_parts infoI
        go_enter Try.func26, Try.ntmps26
        go_wp2_with (first
          | (go_at_call 15; refine (hC _ ((Below.refl _ _).alloc (Nat.le_refl _) _)).mono ?_; rintro e w1 ⟨rfl, hb1⟩; have hX1 : Below w.heap.size w w1 := ((Below.refl _ _).alloc (Nat.le_refl _) _).trans (hb1.mono (by simp)); have hk1 := (hb1.block w.heap.size (by simp)).trans (one_new _ _); have hs1 := (Array.getElem?_eq_some_iff.1 hk1).1)
          | (go_at_call 31; refine (set_calls A1 c1 l1 _ (Kd.C_below HR1.out hX1) (by omega)).mono ?_; rintro e w2 ⟨v2, rfl, ho2, hb2⟩; have hX2 := hX1.trans (hb2.mono hX1.size); have hk2 := (hb2.block w.heap.size hs1).trans hk1)
          | go_in)
        go_loopw [14, 15] (fun v i wr => ∃ (j : Nat) (all : List Int), i = .int .i64 ((j : Int) + 1) ∧ (j : Int) ≤ lim ∧ Own wr w1.heap.size v all ∧ all.length = (setL l1).length + j ∧ 0 < (setL l1).length ∧ all.Pairwise (· < ·) ∧ all.all dayB = true ∧ nextGo a b c d l2 x lim.toNat 1 (setL l1) = nextGo a b c d l2 x (lim.toNat - j) ((j : Int) + 1) all ∧ wr.heap[w.heap.size]? = some (.cells #[.int .i64 a, .int .i64 b, .int .i64 c, .int .i64 d] 23 (0, 0)) ∧ Below w.heap.size w wr ∧ w1.heap.size ≤ wr.heap.size) (fun _ i _ => lim.toNat + 1 - (intOf i).toNat)
        case atStart =>
          refine ⟨0, setL l1, rfl, by omega, ho2, rfl, ?_, setL_lt l1, set_all HD1.out, by simp, hk2, hX2, hb2.size⟩
          have hm : x ∈ setL l1 := (setL_mem x l1).2 (by simpa using HI.out)
          exact List.length_pos_of_mem hm
        case round =>
          obtain ⟨j, all, rfl, hj, hown, hlen, hpos, hlt, hday, hgo, hbox, hbel, hsz⟩ := hrel
          obtain ⟨W, hW⟩ : ∃ W, W = wr := ⟨_, rfl⟩
          subst hW
          obtain ⟨m, hm⟩ : ∃ m, all.length = m + 1 := ⟨all.length - 1, by omega⟩
          obtain ⟨-, rfl⟩ | ⟨g, cap, cur, rfl, hg, hgl, hh, h3, h4, h5, h6⟩ := hown.cases
          · simp at hm
          have hO := Aside0.mk hown
          have hLT := Aside0.mk hlt
          have hDY := Aside0.mk hday
          have hGO := Aside0.mk hgo
          have hX := Aside0.mk hbel
          have hB := Aside0.mk hbox
          obtain ⟨z, hz⟩ : ∃ z, z = all.getD m 0 := ⟨_, rfl⟩
          have hzc : W.cell? ⟨g, m, none⟩ = some (.int .i64 z) := by
            have := (holds_of_block_i hh h6) m (by simp; omega)
            rw [Nat.zero_add, get_toArray, ← hz] at this
            exact this.1
          have hzd : 0 ≤ z ∧ z ≤ 999999 := day_at hday (by omega) hz
          obtain ⟨e1, e2⟩ := last_step hm hz hlt
          have hE1 := Aside0.mk e1
          have hE2 := Aside0.mk e2
          have hs0 := (Array.getElem?_eq_some_iff.1 hbox).1
          have hw1 : w.heap.size ≤ w1.heap.size := Nat.le_of_lt hs1
          clear hown hlt hday hgo hbel hbox h3 h4 h5 h6 hh hz e1 e2 hk1 hk2 hX1 hb1 hb2 ho2
          rw [hm]
          by_cases hjl : (j : Int) + 1 ≤ lim
          · obtain ⟨q, hq⟩ : ∃ q, lim.toNat - j = q + 1 := ⟨lim.toNat - j - 1, by omega⟩
            by_cases hzn : z + 1 ≤ 999999
            · have hD : ∀ V, Calls Try.prog 38 #[.int .i64 (z + 1)] V fun e w' => e = .returned (.bool true) ∧ Below V.heap.size V w' := fun V => by
                have := isDay_calls (z + 1) V
                rwa [show dayB (z + 1) = true by simp [dayB]; omega] at this
              have hAd : (all ++ [z + 1]).all dayB = true := by rw [List.all_append, hDY.out]; simp [dayB]; omega
              have hAd' := Aside0.mk hAd
              clear hAd
              have hal : (all ++ [z + 1]).length ≤ 100000 := by rw [List.length_append]; simp; omega
              obtain ⟨T, hT⟩ : ∃ T, T = all ++ [z + 1] := ⟨_, rfl⟩
              have hTlt : T.Pairwise (· < ·) := by rw [hT]; exact hE2.out
              have hTd : T.all dayB = true := by rw [hT]; exact hAd'.out
              have hTl : T.length ≤ 100000 := by rw [hT]; exact hal
              have HT := Aside0.mk hT
              have HT1 := Aside0.mk hTlt
              have HT2 := Aside0.mk hTd
              clear hT hTlt hTd hal
              obtain ⟨F, hF⟩ : ∃ F, F = reasF a b c d T l2 := ⟨_, rfl⟩
              have HF := Aside0.mk hF
              clear hF
              by_cases hf0 : F x = 0
              · have hF0 := Aside0.mk hf0
                go_wp2_with (first
                  | (go_at_call 38; refine (hD _).mono ?_; rintro e w3 ⟨rfl, hb3⟩; have ho3 : Own w3 w1.heap.size (.slice (some ⟨g, 0, none⟩) (m + 1) cap) all := (hm ▸ hO.out).step hb3; have hso3 := hb3.size; have hown3 : w3.ownsRow w1.heap.size 3 1 (.slice (some ⟨g, 0, none⟩) (m + 1) cap) (m + 1) (all.map (Value.int .i64)) := by have := ho3; unfold Own at this; rw [hm] at this; exact this)
                  | (at_builtin; refine wpList_append_own _ rfl (.tmp 56) (.tmp 58) 26 rfl w1.heap.size 3 i0 (.int .i64 0) 1 8 Try.underlying26 hi hz0 hz1 hz2 rfl (by decide) _ _ _ rfl (hown3.alloc _) ⟨w3.heap.size, 0, none⟩ 1 1 [.int .i64 (z + 1)] rfl rfl (cell_one_new _ _ _) (ints_oneCell .i64 [z + 1]) (room1 _ (by omega)) (by omega) (by simp; omega) ?_; intro v5 w5 hown5 hgrow5 hnil5; have ho5 : Own w5 w1.heap.size v5 T := HT.out ▸ own_app hm hown5; have hs5 := hgrow5.size; obtain ⟨A5, c5, rfl, hc5, hC5⟩ := ho5.reads; have hX5 := app_below hX.out hb3 hown3 hgrow5 hsz hw1; have hB5 := app_box hB.out hb3 hown3 hgrow5 hs1; have q0 := cell_of_heap hB5 0 _ rfl; have q1 := cell_of_heap hB5 1 _ rfl; have q2 := cell_of_heap hB5 2 _ rfl; have q3 := cell_of_heap hB5 3 _ rfl)
                  | (go_at_call 30; refine (reasons_calls a b c d A5 A2 c5 c2 T l2 _ hC5 (Kd.C_below HR2.out hX5) hTl hl2 hc5 HV.out HT2.out HD2.out HT1.out).mono ?_; rintro e w6 ⟨n6, D6, S6, rfl, ho6, hr6, hb6⟩)
                  | (at_lookup; refine wpList_lookup_own_int _ rfl _ _ 47 rfl 3 3 .i64 law3 Try.underlying47 Try.underlying3 (zero3 _) (w5.heap.size + 1) n6 D6 rfl ho6 _ _ rfl hkey ?_; intro c0 hat0 hwc0; obtain rfl : c0 = F x := (lit_inj (hat0.symm.trans (hr6.2.2 x))).trans (by rw [HF.out]))
                  | go_in)
                go_ret2
                have hfin : nextGo a b c d l2 x lim.toNat 1 (setL l1) = (j : Int) + 1 := by
                  rw [hGO.out, hq, nextGo, hE1.out, if_pos (by simp [dayB]; omega), if_pos (by rw [← HT.out, ← HF.out]; exact hF0.out)]
                exact ⟨by rw [hfin]; rfl, hX5.trans (hb6.mono hX5.size)⟩
              · have hF0 := Aside0.mk hf0
                go_wp2_with (first
                  | (go_at_call 38; refine (hD _).mono ?_; rintro e w3 ⟨rfl, hb3⟩; have ho3 : Own w3 w1.heap.size (.slice (some ⟨g, 0, none⟩) (m + 1) cap) all := (hm ▸ hO.out).step hb3; have hso3 := hb3.size; have hown3 : w3.ownsRow w1.heap.size 3 1 (.slice (some ⟨g, 0, none⟩) (m + 1) cap) (m + 1) (all.map (Value.int .i64)) := by have := ho3; unfold Own at this; rw [hm] at this; exact this)
                  | (at_builtin; refine wpList_append_own _ rfl (.tmp 56) (.tmp 58) 26 rfl w1.heap.size 3 i0 (.int .i64 0) 1 8 Try.underlying26 hi hz0 hz1 hz2 rfl (by decide) _ _ _ rfl (hown3.alloc _) ⟨w3.heap.size, 0, none⟩ 1 1 [.int .i64 (z + 1)] rfl rfl (cell_one_new _ _ _) (ints_oneCell .i64 [z + 1]) (room1 _ (by omega)) (by omega) (by simp; omega) ?_; intro v5 w5 hown5 hgrow5 hnil5; have ho5 : Own w5 w1.heap.size v5 T := HT.out ▸ own_app hm hown5; have hs5 := hgrow5.size; obtain ⟨A5, c5, rfl, hc5, hC5⟩ := ho5.reads; have hX5 := app_below hX.out hb3 hown3 hgrow5 hsz hw1; have hB5 := app_box hB.out hb3 hown3 hgrow5 hs1; have q0 := cell_of_heap hB5 0 _ rfl; have q1 := cell_of_heap hB5 1 _ rfl; have q2 := cell_of_heap hB5 2 _ rfl; have q3 := cell_of_heap hB5 3 _ rfl)
                  | (go_at_call 30; refine (reasons_calls a b c d A5 A2 c5 c2 T l2 _ hC5 (Kd.C_below HR2.out hX5) hTl hl2 hc5 HV.out HT2.out HD2.out HT1.out).mono ?_; rintro e w6 ⟨n6, D6, S6, rfl, ho6, hr6, hb6⟩)
                  | (at_lookup; refine wpList_lookup_own_int _ rfl _ _ 47 rfl 3 3 .i64 law3 Try.underlying47 Try.underlying3 (zero3 _) (w5.heap.size + 1) n6 D6 rfl ho6 _ _ rfl hkey ?_; intro c0 hat0 hwc0; obtain rfl : c0 = F x := (lit_inj (hat0.symm.trans (hr6.2.2 x))).trans (by rw [HF.out]))
                  | go_in)
                go_roundw
                case rel =>
                  refine ⟨j + 1, T, by go_num, by omega, ?_, by rw [HT.out, List.length_append, hlen]; simp; omega, hpos, HT1.out, HT2.out, ?_, (hb6.block _ (Array.getElem?_eq_some_iff.1 hB5).1).trans hB5, hX5.trans (hb6.mono hX5.size), ?_⟩
                  · exact ho5.step hb6
                  · rw [hGO.out, hq, nextGo, hE1.out, if_pos (by simp [dayB]; omega), if_neg (by rw [← HT.out, ← HF.out]; exact hF0.out)]
                    rw [show lim.toNat - (j + 1) = q by omega, HT.out]
                    push_cast
                    rfl
                  · exact Nat.le_trans hsz (Nat.le_trans hso3 (Nat.le_trans (by simp at hs5; omega) hb6.size))
                case measure => simp [intOf]; omega
            · have hD : ∀ V, Calls Try.prog 38 #[.int .i64 (z + 1)] V fun e w' => e = .returned (.bool false) ∧ Below V.heap.size V w' := fun V => by
                have := isDay_calls (z + 1) V
                rwa [show dayB (z + 1) = false by simp [dayB]; omega] at this
              go_wp2_with (first | (go_at_call 38; refine (hD _).mono ?_; rintro e w3 ⟨rfl, hb3⟩) | go_in)
              go_ret2
              have hfin : nextGo a b c d l2 x lim.toNat 1 (setL l1) = 0 := by
                rw [hGO.out, hq, nextGo, hE1.out, if_neg (by simp [dayB]; omega)]
              exact ⟨by rw [hfin]; rfl, hX.out.trans (hb3.mono hX.out.size)⟩
          · go_wp2
            go_ret2
            have hfin : nextGo a b c d l2 x lim.toNat 1 (setL l1) = 0 := by
              rw [hGO.out, show lim.toNat - j = 0 by omega, nextGo]
            exact ⟨by rw [hfin]; rfl, hX.out⟩
  · have hfin : nextR a b c d l1 l2 x lim = (0, e0) := by simp only [nextR, HE.out]; rw [if_pos he]
    rw [hfin]
    clear hfin
    go_enter Try.func26, Try.ntmps26
    go_wp2_with (first | (go_at_call 15; refine (hC _ ((Below.refl _ _).alloc (Nat.le_refl _) _)).mono ?_; rintro e w1 ⟨rfl, hb1⟩; have hX1 : Below w.heap.size w w1 := ((Below.refl _ _).alloc (Nat.le_refl _) _).trans (hb1.mono (by simp))) | go_in)
    go_ret2
    exact ⟨rfl, hX1⟩
end Go.Proofs.Ytbahcpdhadhplaa.Hand
