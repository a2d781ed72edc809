/- What retention.reasons returns. -/
import Derived.Test.YtbahcpdhadhplaaHM
import Derived.Laws.Closers25b
set_option linter.unusedVariables false
set_option linter.unusedSimpArgs false
namespace Go.Proofs.Ytbahcpdhadhplaa.Hand
open Go.RowKit Go.Maps Go.Sort Go.Proofs.YtbahcpdhadhplaaW.PrintWords Go.Proofs.YtbahcpdhadhplaaW.PrintMore Go.Proofs.Ytbahcpdhadhplaa.PS Go.Proofs.Ytbahcpdhadhplaa.PB Go.Proofs.Ytbahcpdhadhplaa.M

theorem keys_calls (mb : Option Nat) (W : World) : Calls Try.prog 44 #[.map mb] W fun e w' => e = .returned (.func (.func 57) #[] #[.pointer (some ⟨W.heap.size, 0, none⟩)]) ∧ w' = W.alloc (.cells #[.map mb] 47) :=
  (callsIn_wide (n := 5)).1 (AnyZI.keys_in Try.keysA Fence.wide 5 trivial rfl mb W)
theorem sortsA (m : Nat) : AnyZI.SortsIn Try.prog Try.sortedA_ren Fence.wide m :=
  ⟨fun blk off cap ss W hH hblk hsz => callsIn_wide.2 (AnyM.slices_Sort_int Try.sortA blk off cap ss W hH hblk hsz),
   fun p cap W => callsIn_wide.2 (AnyM.slices_Sort_int_none Try.sortA p cap W)⟩
theorem sorted_calls (b nn : Nat) (D : DataW Unit) (S : Int → Prop) (F : Int → Int) (L : List Int) (w : World) (hown : OM w b nn D) (hr : Reads D S F) (hL : ∀ x, S x ↔ x ∈ L) (hl : L.length ≤ 1000000) :
    Calls Try.prog 43 #[.func (.func 57) #[] #[.pointer (some ⟨w.heap.size, 0, none⟩)]] (w.alloc (.cells #[.map (some b)] 47)) fun e w' =>
      ∃ v, e = .returned v ∧ Own w' (w.heap.size + 1) v (setL L) ∧ Below (w.heap.size + 1) (w.alloc (.cells #[.map (some b)] 47)) w' := by
  refine (callsIn_wide (n := 5)).1 ?_
  have hp := keys_perm hown hr L hL
  have hlen : Maps.size D ≤ 1000000 := by rw [size_keys, ← hp.length_eq]; have := setL_len_le L; omega
  have hbl := hown.lt
  have hseq : SeqGives Fence.wide 2 Try.prog 57 #[.pointer (some ⟨w.heap.size, 0, none⟩)] encZ (fun ss => ss.Perm (intKeys D)) (Maps.size D) (w.alloc (.cells #[.map (some b)] 47)) :=
    AnyZI.keys_gives (ρ := Try.keysA_ren) { Try.keysA with } Fence.wide _ trivial rfl (by omega) w.heap.size b nn D _ (by simp) (by simp) (om_same hown (Below.heap_alloc _ _ b hbl))
  have cS := AnyZI.sorted_in Try.sortedA Fence.wide 5 trivial trivial trivial trivial rfl (by omega) (sortsA _) (enters_of Try.func47 (by kernel_rfl) rfl) 57 #[.pointer (some ⟨w.heap.size, 0, none⟩)] trivial (enters_of Try.func57 (by kernel_rfl) rfl) _ _ (by unfold maxLen; omega) (by omega) _ hseq
  change CallsIn _ _ Try.prog 43 _ _ _ at cS
  refine cS.mono ?_
  rintro e w' ⟨v, ss, rfl, hS, hrow, hnil, hb⟩
  have hs : ss.Perm (setL L) := hS.trans hp.symm
  have he : ss.mergeSort leI = setL L := (mergeSort_of_perm_i hs).trans ((sort_nodup _ (lt_nodup (setL_lt L))).trans (setL_of (setL_lt L)))
  have hsz : (w.alloc (.cells #[.map (some b)] 47)).heap.size = w.heap.size + 1 := by simp
  rw [hsz] at hrow hb
  refine ⟨v, rfl, ?_, hb⟩
  have hrow' : w'.ownsRow (w.heap.size + 1) 3 1 v ss.length ((ss.mergeSort leI).map encZ) := hrow
  rw [he, hs.length_eq] at hrow'
  exact hrow'

/-- What holds between the steps: the old memory, the map that is filled, the kinds' row. -/
structure Inv (w wr : World) (kc : Array Value) (n : Nat) (F : Int → Int) : Prop where
  below : Below w.heap.size w wr
  kinds : wr.heap[w.heap.size + 1 + 1 + 1]? = some (.cells kc 45 (0, 0))
  out : ∃ D S, OM wr (w.heap.size + 1) n D ∧ Reads D S F
theorem Inv.lt {w wr : World} {kc : Array Value} {n : Nat} {F : Int → Int} (h : Inv w wr kc n F) : w.heap.size + 1 + 1 + 1 < wr.heap.size := (Array.getElem?_eq_some_iff.1 h.kinds).1
theorem Inv.move {w wr w2 : World} {kc : Array Value} {n : Nat} {F : Int → Int} (h : Inv w wr kc n F) (hb : Below w.heap.size w w2) (h1 : w2.heap[w.heap.size + 1]? = wr.heap[w.heap.size + 1]?) (h2 : w2.heap[w.heap.size + 1 + 1 + 1]? = wr.heap[w.heap.size + 1 + 1 + 1]?) : Inv w w2 kc n F := by
  obtain ⟨D, S, ho, hr⟩ := h.out
  exact ⟨hb, h2.trans h.kinds, D, S, om_same ho h1, hr⟩
theorem Inv.keep {w wr w2 : World} {kc : Array Value} {n : Nat} {F : Int → Int} (h : Inv w wr kc n F) (hb : Below wr.heap.size wr w2) : Inv w w2 kc n F := by
  have := h.lt
  exact h.move (h.below.trans (hb.mono (by omega))) (hb.block _ (by omega)) (hb.block _ (by omega))
theorem Inv.other {w wr w2 : World} {kc : Array Value} {n : Nat} {F : Int → Int} (h : Inv w wr kc n F) {g : Nat} (hg : wr.grownBy w2 (some g)) (hlt : w.heap.size + 1 + 1 + 1 < g) : Inv w w2 kc n F := by
  have := h.lt
  exact h.move (h.below.grown hg (by omega) (fun k hk => by cases hk; omega)) (hg.block _ (by omega) (fun e => by injection e with e; omega)) (hg.block _ (by omega) (fun e => by injection e with e; omega))
theorem Inv.mono {w wr : World} {kc : Array Value} {n n' : Nat} {F : Int → Int} (h : Inv w wr kc n F) (hn : n ≤ n') : Inv w wr kc n' F := by
  obtain ⟨D, S, ho, hr⟩ := h.out
  exact ⟨h.below, h.kinds, D, S, ho.mono hn, hr⟩
theorem Inv.store {w wr w2 : World} {kc : Array Value} {n m : Nat} {F : Int → Int} {D : DataW Unit} {S : Int → Prop} (h : Inv w wr kc n F) (hr : Reads D S F) {k v : Int} (ho : OM w2 (w.heap.size + 1) m (D.put (.int .i64 k) (.lit (.int .i64 v)))) (hg : wr.grownBy w2 (some (w.heap.size + 1))) : Inv w w2 kc m (upd F k v) := by
  have := h.lt
  exact ⟨h.below.grown hg (by omega) (fun k hk => by cases hk; omega), (hg.block _ (by omega) (fun e => by injection e with e; omega)).trans h.kinds, _, _, ho, reads_put hr k v⟩

theorem cell_of_heap {w : World} {B : Nat} {cs : Array Value} {t : Nat} (h : w.heap[B]? = some (.cells cs t (0, 0))) (j : Nat) (u : Value) (hu : cs[j]? = some u) : w.cell? ⟨B, j, none⟩ = some u := by simp [World.cell?, h, hu]
theorem sorted_keep {w X w3 : World} {o : Obj} {kc : Array Value} {n : Nat} {F : Int → Int} (h : Inv w X kc n F) (hb : Below (X.heap.size + 1) (X.alloc o) w3) : Inv w w3 kc n F := by
  have e : (X.alloc o).heap.size = X.heap.size + 1 := by simp
  exact (h.keep ((Below.refl _ _).alloc (Nat.le_refl _) o)).keep (by rw [e]; exact hb)
theorem Own.grown {w w1 : World} {base g : Nat} {v : Value} {xs : List Int} (h : Own w base v xs) (hg : w.grownBy w1 (some g)) (hlt : g < base) : Own w1 base v xs :=
  own_move h (fun k hk => hg.block k (h.lt k hk).2 (fun e => by have := (h.lt k hk).1; injection e with e; omega))
theorem drop_C {w : World} {base L c : Nat} {A A4 : Option Addr} {xs : List Int} (h : Own w base (.slice A xs.length c) xs) (hc : xs.length ≤ c) (hL : L ≤ xs.length) (hA : A4 = (if c = L then A else A.map (·.add L))) :
    Kd.C (Kd.int .i64) w A4 (xs.drop L).length (xs.drop L) := by
  obtain ⟨A', c', e, hc', hC⟩ := h.reads
  injection e with e1 e2 e3
  subst e1
  subst e3
  have := Kd.C_drop (c := c) hC hL hc
  rw [hA]
  rw [show L * (Kd.int .i64).sz = L from Nat.mul_one L] at this
  exact this
theorem period_bd {ds P Q : List Int} {L K : Nat} (hd : ds.all dayB = true) (hP : P = periods (numK K) ds) (hQ : Q = P.drop L) {j : Nat} (hj : j < Q.length) {x : Int} (hx : x = Q.getD j 0) : 0 ≤ x ∧ x ≤ 20000000 := by
  have h1 : x ∈ Q := by rw [hx, List.getD_eq_getElem?_getD, List.getElem?_eq_getElem hj]; exact List.getElem_mem hj
  have h2 : x ∈ P := by rw [hQ] at h1; exact List.mem_of_mem_drop h1
  rw [hP, periods, setL_mem, List.mem_map] at h2
  obtain ⟨d, hd1, rfl⟩ := h2
  have h3 := List.all_eq_true.1 hd d hd1
  simp only [dayB, Bool.and_eq_true, decide_eq_true_eq] at h3
  exact numK_bd K d h3.1 h3.2
theorem room_k (k j : Nat) (hk : k ≤ 4) (hj : j ≤ 1000000) : k * 100000 + j < maxLen := by
  unfold maxLen
  omega
theorem lit_inj {x y : Int} (h : (DataW.lit (.int .i64 x) : DataW Unit) = .lit (.int .i64 y)) : x = y := by injection h with h; injection h
theorem out_step {w W X Y w4 : World} {kc cs : Array Value} {n j m : Nat} {F0 : Int → Int} {P Q : List Int} {D D0 : DataW Unit} {S S0 : Int → Prop} {G : Int → Int} {B x g0 c0 : Int} {A3 : Option Addr} {c3 : Nat} {v : Value}
    (h : Inv w Y kc (n + j) ((Q.take j).foldl (stepP G B) F0)) (hk : Y.heap[W.heap.size]? = some (.cells cs 45 (0, 0))) (hO : OM Y (W.heap.size + 1) m D) (hV : Own Y (X.heap.size + 1) (.slice A3 P.length c3) P)
    (hE : Reads D S G) (hE0 : Reads D0 S0 ((Q.take j).foldl (stepP G B) F0)) (hI : w.heap.size + 1 + 1 + 1 < W.heap.size) (hWX : W.heap.size < X.heap.size) (hlt : W.heap.size < Y.heap.size)
    (hj : j < Q.length) (hx : x = Q.getD j 0) (hat : D.atKey (.int .i64 x) (.lit (.int .i64 0)) = .lit (.int .i64 g0)) (hat0 : D0.atKey (.int .i64 g0) (.lit (.int .i64 0)) = .lit (.int .i64 c0))
    (ho : OM w4 (w.heap.size + 1) (n + j + 1) (D0.put (.int .i64 g0) (.lit (.int .i64 (Go.bits .or .i64 c0 B))))) (hg : Y.grownBy w4 (some (w.heap.size + 1))) (hv : v = .int .i64 ((j + 1 : Nat) : Int)) :
    ∃ j : Nat, j ≤ Q.length ∧ v = .int .i64 j ∧ Inv w w4 kc (n + j) ((Q.take j).foldl (stepP G B) F0) ∧ w4.heap[W.heap.size]? = some (.cells cs 45 (0, 0)) ∧ OM w4 (W.heap.size + 1) m D ∧ Own w4 (X.heap.size + 1) (.slice A3 P.length c3) P := by
  have hxq : x = Q[j] := by rw [hx, List.getD_eq_getElem?_getD, List.getElem?_eq_getElem hj]; rfl
  have e1 : g0 = G x := lit_inj (hat.symm.trans (hE.2.2 x))
  have e2 : c0 = (Q.take j).foldl (stepP G B) F0 g0 := lit_inj (hat0.symm.trans (hE0.2.2 g0))
  refine ⟨j + 1, hj, hv, ?_, (hg.block _ hlt (fun e => by injection e with e; omega)).trans hk, om_same hO (hg.block _ hO.lt (fun e => by injection e with e; omega)), hV.grown hg (by omega)⟩
  have := h.store hE0 ho hg
  rw [foldl_take _ _ _ _ hj, ← hxq, stepP, ← e1, orI, ← e2]
  exact this
theorem out_end {w Y : World} {kc : Array Value} {a b c d : Int} {ds P Q : List Int} {K : Nat} {B V : Int} (h : Inv w Y kc (K * 100000 + Q.length) ((Q.take Q.length).foldl (stepP (grt (numK K) (ds.take ds.length)) B) (upK a b c d ds K)))
    (hP : P = periods (numK K) ds) (hQ : Q = P.drop (P.length - V.toNat)) (hl : Q.length ≤ 100000) (hB : B = bitK K) (hV : V = nth4 a b c d K) : Inv w Y kc ((K + 1) * 100000) (upK a b c d ds (K + 1)) := by
  have e : (Q.take Q.length).foldl (stepP (grt (numK K) (ds.take ds.length)) B) (upK a b c d ds K) = upK a b c d ds (K + 1) := by
    rw [upK_succ, stepK, lastP, List.take_length, List.take_length, hQ, hP, hB, hV]
  rw [e] at h
  exact h.mono (by omega)
theorem search_calls (A : Option Addr) (c : Nat) (ds : List Int) (x : Int) (w : World) (hr : Kd.C (Kd.int .i64) w A ds.length ds) (hl : ds.length ≤ 100000) (hlt : ds.Pairwise (· < ·)) :
    Calls Try.prog 45 #[.slice A ds.length c, .int .i64 x] w fun e w' => ∃ m : Int, e = .returned (.tuple #[.int .i64 m, .bool (ds.contains x)]) ∧ Below w.heap.size w w' := by
  by_cases hn : 0 < ds.length
  · obtain ⟨b, off, rfl, hb, hc⟩ := C_cells hr hn
    refine (Try.slices_BinarySearch_int b off ds.length c ds x w (Nat.le_refl _) (by omega) hc (by rw [List.take_length]; exact hlt.imp (fun h => Int.le_of_lt h))).mono ?_
    rintro e w' ⟨rfl, q, rfl⟩
    rw [List.take_length]
    exact ⟨_, rfl, pw_below_drewN (Below.refl _ _) q⟩
  · obtain rfl : ds = [] := List.length_eq_zero_iff.1 (by omega)
    refine (Try.slices_BinarySearch_int_empty A c x w).mono ?_
    rintro e w' ⟨rfl, rfl⟩
    exact ⟨_, rfl, Below.refl _ _⟩
theorem hold_miss {w Y w2 : World} {kc : Array Value} {j : Nat} {F0 : Int → Int} {ds hs : List Int} {x : Int} {v : Value} (h : Inv w Y kc (400000 + j) ((hs.take j).foldl (stepH ds) F0)) (hj : j < hs.length) (hx : x = hs.getD j 0) (hin : ds.contains x = false)
    (hb : Below Y.heap.size Y w2) (hv : v = .int .i64 ((j + 1 : Nat) : Int)) :
    ∃ j : Nat, j ≤ hs.length ∧ v = .int .i64 j ∧ Inv w w2 kc (400000 + j) ((hs.take j).foldl (stepH ds) F0) := by
  have hxq : x = hs[j] := by rw [hx, List.getD_eq_getElem?_getD, List.getElem?_eq_getElem hj]; rfl
  refine ⟨j + 1, hj, hv, ?_⟩
  rw [foldl_take _ _ _ _ hj, ← hxq, stepH, hin]
  exact (h.keep hb).mono (by omega)
theorem hold_hit {w Y w2 w4 : World} {kc : Array Value} {j : Nat} {F0 : Int → Int} {ds hs : List Int} {x c0 : Int} {v : Value} {D0 : DataW Unit} {S0 : Int → Prop} (h : Inv w Y kc (400000 + j) ((hs.take j).foldl (stepH ds) F0)) (hE0 : Reads D0 S0 ((hs.take j).foldl (stepH ds) F0)) (hj : j < hs.length) (hx : x = hs.getD j 0) (hin : ds.contains x = true)
    (hb : Below Y.heap.size Y w2) (hat0 : D0.atKey (.int .i64 x) (.lit (.int .i64 0)) = .lit (.int .i64 c0)) (ho : OM w4 (w.heap.size + 1) (400000 + j + 1) (D0.put (.int .i64 x) (.lit (.int .i64 (Go.bits .or .i64 c0 16))))) (hg : w2.grownBy w4 (some (w.heap.size + 1))) (hv : v = .int .i64 ((j + 1 : Nat) : Int)) :
    ∃ j : Nat, j ≤ hs.length ∧ v = .int .i64 j ∧ Inv w w4 kc (400000 + j) ((hs.take j).foldl (stepH ds) F0) := by
  have hxq : x = hs[j] := by rw [hx, List.getD_eq_getElem?_getD, List.getElem?_eq_getElem hj]; rfl
  have e2 : c0 = (hs.take j).foldl (stepH ds) F0 x := lit_inj (hat0.symm.trans (hE0.2.2 x))
  refine ⟨j + 1, hj, hv, ?_⟩
  have := (h.keep hb).store hE0 ho hg
  rw [foldl_take _ _ _ _ hj, ← hxq, stepH, hin, if_pos rfl, orI, ← e2]
  exact this
theorem hold_end {w Y : World} {kc : Array Value} {a b c d : Int} {ds hs : List Int} {n : Nat} (h : Inv w Y kc n ((hs.take hs.length).foldl (stepH ds) (upK a b c d ds 4))) :
    (∃ D S, OM Y (w.heap.size + 1) n D ∧ Reads D S (reasF a b c d ds hs)) ∧ Below w.heap.size w Y := by
  rw [List.take_length] at h
  exact ⟨h.out, h.below⟩
theorem inv_start (w : World) (o1 o3 : Obj) (kc : Array Value) : Inv w ((((w.alloc o1).alloc (.map #[] 0)).alloc o3).alloc (.cells kc 45)) kc 0 F0 := by
  have e2 : (w.alloc o1).heap.size = w.heap.size + 1 := by simp
  have e3 : ((w.alloc o1).alloc (.map #[] 0)).heap.size = w.heap.size + 1 + 1 := by simp
  have e4 : (((w.alloc o1).alloc (.map #[] 0)).alloc o3).heap.size = w.heap.size + 1 + 1 + 1 := by simp
  refine ⟨?_, ?_, .map [], fun _ => False, ?_, reads_empty⟩
  · exact ((((Below.refl _ _).alloc (Nat.le_refl _) _).alloc (by omega) _).alloc (by omega) _).alloc (by omega) _
  · have := heap_alloc_new (((w.alloc o1).alloc (.map #[] 0)).alloc o3) (.cells kc 45)
    rw [e4] at this
    exact this
  · have := World.ownsMap_made (H := Unit) (w.alloc o1) Try.prog 3 (plainElem Try.prog 3)
    rw [e2] at this
    exact (this.alloc _).alloc _
theorem valid_nth {a b c d : Int} (h : validB a b c d = true) (k : Nat) : 0 ≤ nth4 a b c d k ∧ nth4 a b c d k ≤ 1000 := by
  simp only [validB, okI, Bool.and_eq_true, decide_eq_true_eq] at h
  obtain ⟨⟨⟨h1, h2⟩, h3⟩, h4⟩ := h
  unfold nth4
  split
  · exact h1
  · exact h2
  · exact h3
  · exact h4
theorem day_at {l : List Int} (h : l.all dayB = true) {j : Nat} (hj : j < l.length) {x : Int} (hx : x = l.getD j 0) : 0 ≤ x ∧ x ≤ 999999 := by
  have := List.all_eq_true.1 h x (by rw [hx, List.getD_eq_getElem?_getD, List.getElem?_eq_getElem hj]; exact List.getElem_mem hj)
  simpa [dayB] using this
theorem great_start {w W : World} {kc cs : Array Value} {n : Nat} {F : Int → Int} (h : Inv w W kc n F) (ds : List Int) (N : Int → Int) :
    ∃ j : Nat, j ≤ ds.length ∧ Value.int .i64 0 = .int .i64 j ∧ Inv w ((W.alloc (.cells cs 45)).alloc (.map #[] 0)) kc n F ∧ ((W.alloc (.cells cs 45)).alloc (.map #[] 0)).heap[W.heap.size]? = some (.cells cs 45 (0, 0)) ∧
      ∃ D, OM ((W.alloc (.cells cs 45)).alloc (.map #[] 0)) (W.heap.size + 1) j D ∧ Reads D (fun x => x ∈ (ds.take j).map N) (grt N (ds.take j)) := by
  have e2 : (W.alloc (.cells cs 45)).heap.size = W.heap.size + 1 := by simp
  refine ⟨0, Nat.zero_le _, rfl, h.keep (((Below.refl _ _).alloc (Nat.le_refl _) _).alloc (by omega) _), ?_, .map [], ?_, ?_⟩
  · exact (Below.heap_alloc _ _ _ (by omega)).trans (heap_alloc_new _ _)
  · have := World.ownsMap_made (H := Unit) (W.alloc (.cells cs 45)) Try.prog 3 (plainElem Try.prog 3)
    rw [e2] at this
    exact this
  · exact reads_congr reads_empty (fun x => by simp) (fun x => by simp [grt])
theorem great_step {w W X w2 w3 : World} {kc cs : Array Value} {n j : Nat} {F N : Int → Int} {ds : List Int} {D : DataW Unit} {x y : Int} {v : Value} (h : Inv w X kc n F) (hk : X.heap[W.heap.size]? = some (.cells cs 45 (0, 0)))
    (hr : Reads D (fun x => x ∈ (ds.take j).map N) (grt N (ds.take j))) (hI : w.heap.size + 1 + 1 + 1 < W.heap.size) (hW : W.heap.size + 1 < X.heap.size) (hj : j < ds.length) (hx : x = ds.getD j 0) (hy : y = N x) (hb : Below X.heap.size X w2)
    (ho : OM w3 (W.heap.size + 1) (j + 1) (D.put (.int .i64 y) (.lit (.int .i64 x)))) (hg : w2.grownBy w3 (some (W.heap.size + 1))) (hj1 : j + 1 ≤ ds.length) (hv : v = .int .i64 ((j + 1 : Nat) : Int)) :
    ∃ j : Nat, j ≤ ds.length ∧ v = .int .i64 j ∧ Inv w w3 kc n F ∧ w3.heap[W.heap.size]? = some (.cells cs 45 (0, 0)) ∧
      ∃ D, OM w3 (W.heap.size + 1) j D ∧ Reads D (fun x => x ∈ (ds.take j).map N) (grt N (ds.take j)) := by
  have hs := hb.size
  refine ⟨j + 1, hj1, hv, (h.keep hb).other hg (by omega), ?_, _, ho, ?_⟩
  · exact (hg.block _ (by omega) (fun e => by injection e with e; omega)).trans ((hb.block _ (by omega)).trans hk)
  · have hx2 : x = ds[j] := by rw [hx, List.getD_eq_getElem?_getD, List.getElem?_eq_getElem hj]; rfl
    refine reads_congr (reads_put hr y x) (fun z => ?_) (fun z => ?_)
    · rw [List.take_add_one, List.getElem?_eq_getElem hj, List.map_append, List.mem_append]
      simp only [Option.toList, List.map_cons, List.map_nil, List.mem_singleton]
      rw [hy, hx2]
    · rw [grt, grt, foldl_take _ _ _ _ hj, hy, hx2]
set_option maxRecDepth 100000 in
set_option maxHeartbeats 8000000 in
theorem reasons_calls (a b c d : Int) (A1 A2 : Option Addr) (c1 c2 : Nat) (ds hs : List Int) (w : World) (hr1 : Kd.C (Kd.int .i64) w A1 ds.length ds) (hr2 : Kd.C (Kd.int .i64) w A2 hs.length hs)
    (hl1 : ds.length ≤ 100000) (hl2 : hs.length ≤ 1000000) (hcap1 : ds.length ≤ c1) (hv : validB a b c d = true) (hd1 : ds.all dayB = true) (hd2 : hs.all dayB = true) (hlt : ds.Pairwise (· < ·)) :
    Calls Try.prog 30 #[.agg #[.int .i64 a, .int .i64 b, .int .i64 c, .int .i64 d], .slice A1 ds.length c1, .slice A2 hs.length c2] w fun e w' =>
    ∃ n D S, e = .returned (.map (some (w.heap.size + 1))) ∧ OM w' (w.heap.size + 1) n D ∧ Reads D S (reasF a b c d ds hs) ∧ Below w.heap.size w w' := by
  have HR1 := Aside0.mk hr1
  have HR2 := Aside0.mk hr2
  have HV := Aside0.mk hv
  have HD1 := Aside0.mk hd1
  have HD2 := Aside0.mk hd2
  have HLT := Aside0.mk hlt
  clear hr1 hr2 hv hd1 hd2 hlt
  have hmm := @run_makeMap Try.prog
  go_enter Try.func30, Try.ntmps30
  go_wp2_with (first | (go_at_call 27; refine (kinds_calls a b c d _).mono ?_; rintro e w1 ⟨rfl, rfl⟩) | go_in)
  go_loopw [24] (fun i wr => ∃ k : Int, 0 ≤ k ∧ k ≤ 4 ∧ i = .int .i64 k ∧ Inv w wr (kcells a b c d) (k.toNat * 100000) (upK a b c d ds k.toNat)) (fun i _ => 4 - (intOf i).toNat)
  case atStart => exact ⟨0, by omega, by omega, rfl, inv_start w _ _ _⟩
  case round =>
    obtain ⟨k, hk0, hk, rfl, hinv⟩ := hrel
    obtain ⟨W, hW⟩ : ∃ W, W = wr := ⟨_, rfl⟩
    subst hW
    have hI := Aside0.mk hinv
    have hc := fun j => kcell hinv.kinds j
    clear hinv
    obtain rfl | rfl | rfl | rfl | rfl : k = 0 ∨ k = 1 ∨ k = 2 ∨ k = 3 ∨ k = 4 := by omega
    · have h0 : W.cell? ⟨w.heap.size + 1 + 1 + 1, 0, none⟩ = some (.int .i64 1) := hc 0
      have h1 : W.cell? ⟨w.heap.size + 1 + 1 + 1, 1, none⟩ = some (.int .i64 a) := hc 1
      have h2 : W.cell? ⟨w.heap.size + 1 + 1 + 1, 2, none⟩ = some (.func (.func 39) #[] #[]) := hc 2
      clear hc
      have hmost : 0 ≤ a ∧ a ≤ 1000 := valid_nth HV.out 0
      go_wp2
      go_loopw [31] (fun i ws => ∃ j : Nat, j ≤ ds.length ∧ i = .int .i64 j ∧ Inv w ws (kcells a b c d) (0 * 100000) (upK a b c d ds 0) ∧ ws.heap[W.heap.size]? = some (.cells #[.int .i64 1, .int .i64 a, .func (.func 39) #[] #[]] 45 (0, 0)) ∧ ∃ D, OM ws (W.heap.size + 1) j D ∧ Reads D (fun x => x ∈ (ds.take j).map (numK 0)) (grt (numK 0) (ds.take j))) (fun i _ => ds.length - (intOf i).toNat)
      case atStart => exact great_start hI.out _ _
      case round =>
        clear h0 h1 h2
        obtain ⟨j, hj, rfl, hinv, hkv, D, ho, hr⟩ := hrel
        obtain ⟨X, hX⟩ : ∃ X, X = wr := ⟨_, rfl⟩
        subst hX
        have hJ := Aside0.mk hinv
        have hK := Aside0.mk hkv
        have hO := Aside0.mk ho
        have hE := Aside0.mk hr
        have hWx : W.heap.size + 1 < X.heap.size := ho.lt
        have hv0 : X.cell? ⟨W.heap.size, 0, none⟩ = some (.int .i64 1) := by simp [World.cell?, hkv]
        have hv1 : X.cell? ⟨W.heap.size, 1, none⟩ = some (.int .i64 a) := by simp [World.cell?, hkv]
        have hv2 : X.cell? ⟨W.heap.size, 2, none⟩ = some (.func (.func 39) #[] #[]) := by simp [World.cell?, hkv]
        clear hinv hkv ho hr
        by_cases hjl : j < ds.length
        · obtain ⟨b', off, rfl, hcell⟩ := C_at (Kd.C_below HR1.out hJ.out.below) j hjl
          obtain ⟨x, hx⟩ : ∃ x, x = ds.getD j 0 := ⟨_, rfl⟩
          rw [← hx] at hcell
          have hx' := Aside0.mk hx
          have hxd : 0 ≤ x ∧ x ≤ 999999 := day_at HD1.out hjl hx
          obtain ⟨y, hy⟩ : ∃ y, y = numK 0 x := ⟨_, rfl⟩
          have hN : ∀ V, Calls Try.prog 39 #[.int .i64 x] V fun e w' => e = .returned (.int .i64 y) ∧ Below V.heap.size V w' := fun V => hy ▸ num_calls 0 x hxd.1 hxd.2 V
          have hyb : 0 ≤ y ∧ y ≤ 20000000 := hy ▸ numK_bd 0 x hxd.1 hxd.2
          have hkey : keyOf Try.prog 3 (.int .i64 y) = some (.int .i64 y) := keyOf_int_mk Try.underlying3 (wf64 (by omega) (by omega))
          have hwx : (Lit.int .i64 x).wf = true := wf64 (by omega) (by omega)
          have hy' := Aside0.mk hy
          clear hx hy
          go_wp2_with (first
            | (go_at_call 39; refine (hN _).mono ?_; rintro e w2 ⟨rfl, hb2⟩; have ho2 := om_same hO.out (hb2.block _ hWx))
            | (at_mapUpdate; refine wpList_mapUpdate_own _ rfl _ _ _ 47 rfl 3 3 law3 Try.underlying47 _ (W.heap.size + 1) j _ rfl ho2 (by unfold maxLen; omega) _ _ _ rfl rfl hkey _ [] (plainElem_int Try.underlying3 hwx) ?_; intro w3 ho3 hg3)
            | go_in)
          go_roundw
          case rel => exact great_step hJ.out hK.out hE.out hI.out.lt hWx hjl hx'.out hy'.out hb2 ho3 hg3 (by omega) (by go_num)
          case measure => simp [intOf]; omega
        · obtain rfl : j = ds.length := by omega
          obtain ⟨P, hP⟩ : ∃ P, P = periods (numK 0) ds := ⟨_, rfl⟩
          have hS := sorted_calls (W.heap.size + 1) _ D _ _ (ds.map (numK 0)) X hO.out hE.out (fun x => by rw [List.take_length]) (by rw [List.length_map]; omega)
          rw [show setL (ds.map (numK 0)) = P from hP.symm] at hS
          have hPl : P.length ≤ ds.length := by rw [hP]; have := setL_len_le (ds.map (numK 0)); rw [List.length_map] at this; exact this
          have hP' := Aside0.mk hP
          clear hP
          go_wp2_with (first
            | (go_at_call 44; refine (keys_calls _ _).mono ?_; rintro e w2 ⟨rfl, rfl⟩)
            | (go_at_call 43; refine hS.mono ?_; rintro e w3 ⟨v, rfl, hov, hbv⟩; obtain ⟨A3, c3, rfl, hc3, hC3⟩ := hov.reads; have hk3 := (hbv.block _ (by omega)).trans ((Below.heap_alloc _ _ _ (by omega)).trans hK.out); have hv3 := cell_of_heap hk3 1 _ rfl)
            | go_in)
          all_goals
            have hJ3 : Inv w w3 (kcells a b c d) (0 * 100000) (upK a b c d ds 0) := sorted_keep hJ.out hbv
            have hO3 : OM w3 (W.heap.size + 1) ds.length D := om_same hO.out ((hbv.block _ (by omega)).trans (Below.heap_alloc _ _ _ (by omega)))
            have hI3 := Aside0.mk hJ3
            have hM3 := Aside0.mk hO3
            have hK3 := Aside0.mk hk3
            have hV3 := Aside0.mk hov
            have hC3' := Aside0.mk hc3
            clear hJ3 hO3 hk3 hov hC3 hbv hv3 hS hv0 hv1 hv2
            have hL : (max 0 ((P.length : Int) - a)).toNat = P.length - (a).toNat := by omega
            obtain ⟨Q, hQ⟩ : ∃ Q, Q = P.drop (P.length - (a).toNat) := ⟨_, rfl⟩
            have hQl : P.length - (P.length - (a).toNat) = Q.length := by rw [hQ, List.length_drop]
            obtain ⟨A4, c4, hA4⟩ : ∃ A4 c4, A4 = (if c3 = P.length - (a).toNat then A3 else A3.map (fun x => x.add (P.length - (a).toNat))) ∧ c4 = c3 - (P.length - (a).toNat) := ⟨_, _, rfl, rfl⟩
            rw [hL, hQl]
            first
              | (rw [show Option.map (fun x => x.add (P.length - (a).toNat)) A3 = A4 by rw [hA4.1, if_neg (by omega)]]; rw [← hA4.2])
              | (rw [show A3 = A4 by rw [hA4.1, if_pos (by omega)]])
            have HA4 := Aside0.mk hA4.1
            have HQ := Aside0.mk hQ
            clear hA4 hQ hL hQl
            go_loopw [54] (fun i ws => ∃ j : Nat, j ≤ Q.length ∧ i = .int .i64 j ∧ Inv w ws (kcells a b c d) (0 * 100000 + j) ((Q.take j).foldl (stepP (grt (numK 0) (ds.take ds.length)) 1) (upK a b c d ds 0)) ∧ ws.heap[W.heap.size]? = some (.cells #[.int .i64 1, .int .i64 a, .func (.func 39) #[] #[]] 45 (0, 0)) ∧ OM ws (W.heap.size + 1) ds.length D ∧ Own ws (X.heap.size + 1) (.slice A3 P.length c3) P) (fun i _ => Q.length - (intOf i).toNat)
            case atStart => exact ⟨0, Nat.zero_le _, rfl, hI3.out, hK3.out, hM3.out, hV3.out⟩
            case round =>
              clear hI3 hM3 hK3 hV3 hJ hK hO
              obtain ⟨j, hj, rfl, hinv, hkv, ho, hov⟩ := hrel
              obtain ⟨Y, hY⟩ : ∃ Y, Y = wr := ⟨_, rfl⟩
              subst hY
              have hJ := Aside0.mk hinv
              have hK := Aside0.mk hkv
              have hO := Aside0.mk ho
              have hV := Aside0.mk hov
              have hv0 : Y.cell? ⟨W.heap.size, 0, none⟩ = some (.int .i64 1) := cell_of_heap hkv 0 _ rfl
              clear hinv hkv ho hov
              by_cases hjl : j < Q.length
              · obtain ⟨D0, S0, ho0, hr0⟩ := hJ.out.out
                have hO0 := Aside0.mk ho0
                have hE0 := Aside0.mk hr0
                clear ho0 hr0
                have hC4 : Kd.C (Kd.int .i64) Y A4 Q.length Q := by have := drop_C hV.out hC3'.out (Nat.sub_le _ _) HA4.out; rw [← HQ.out] at this; exact this
                obtain ⟨b', off, hA, hcell⟩ := C_at hC4 j hjl
                have hA' := Aside0.mk hA
                clear hA hC4
                obtain ⟨x, hx⟩ : ∃ x, x = Q.getD j 0 := ⟨_, rfl⟩
                rw [← hx] at hcell
                have hx' := Aside0.mk hx
                have hxb : 0 ≤ x ∧ x ≤ 20000000 := period_bd HD1.out hP'.out HQ.out hjl hx
                have hkey : keyOf Try.prog 3 (.int .i64 x) = some (.int .i64 x) := keyOf_int_mk Try.underlying3 (wf64 (by omega) (by omega))
                clear hx
                have hQP : Q.length ≤ P.length := by rw [HQ.out, List.length_drop]; omega
                have hroom : 0 * 100000 + j < maxLen := room_k _ _ (by omega) (by omega)
                have tok1 : True := trivial
                rw [hA'.out]
                go_wp2_with (first
                  | (at_lookup; have _t := tok1; refine wpList_lookup_own_int _ rfl _ _ 47 rfl 3 3 .i64 law3 Try.underlying47 Try.underlying3 (zero3 _) (W.heap.size + 1) ds.length D rfl hO.out _ _ rfl hkey ?_; intro g0 hat hwg; clear tok1; have hkey2 := keyOf_int_mk Try.underlying3 hwg)
                  | (at_lookup; refine wpList_lookup_own_int _ rfl _ _ 47 rfl 3 3 .i64 law3 Try.underlying47 Try.underlying3 (zero3 _) (w.heap.size + 1) (0 * 100000 + j) D0 rfl hO0.out _ _ rfl hkey2 ?_; intro c0 hat0 hwc0)
                  | (at_mapUpdate; refine wpList_mapUpdate_own _ rfl _ _ _ 47 rfl 3 3 law3 Try.underlying47 _ (w.heap.size + 1) (0 * 100000 + j) _ rfl hO0.out hroom _ _ _ rfl rfl hkey2 _ [] (plainElem_int Try.underlying3 (wf64 (bits_lo_i64 _ _ _) (bits_hi_i64 _ _ _))) ?_; intro w4 ho4 hg4)
                  | go_in)
                go_roundw
                case rel => exact out_step hJ.out hK.out hO.out hV.out hE.out hE0.out hI.out.lt (by omega) (Array.getElem?_eq_some_iff.1 hK.out).1 hjl hx'.out hat hat0 ho4 hg4 (by go_num)
                case measure => simp [intOf]; omega
              · obtain rfl : j = Q.length := by omega
                have hQP : Q.length ≤ 100000 := by rw [HQ.out, List.length_drop]; omega
                have hEnd := out_end (B := 1) hJ.out hP'.out HQ.out hQP rfl rfl
                have hEnd' := Aside0.mk hEnd
                clear hEnd hv0
                go_wp2
                go_roundw
                case rel => exact ⟨1, by omega, by omega, by first | rfl | go_num, hEnd'.out⟩
                case measure => simp [intOf]
    · have h0 : W.cell? ⟨w.heap.size + 1 + 1 + 1, 3, none⟩ = some (.int .i64 2) := hc 3
      have h1 : W.cell? ⟨w.heap.size + 1 + 1 + 1, 4, none⟩ = some (.int .i64 b) := hc 4
      have h2 : W.cell? ⟨w.heap.size + 1 + 1 + 1, 5, none⟩ = some (.func (.func 40) #[] #[]) := hc 5
      clear hc
      have hmost : 0 ≤ b ∧ b ≤ 1000 := valid_nth HV.out 1
      go_wp2
      go_loopw [31] (fun i ws => ∃ j : Nat, j ≤ ds.length ∧ i = .int .i64 j ∧ Inv w ws (kcells a b c d) (1 * 100000) (upK a b c d ds 1) ∧ ws.heap[W.heap.size]? = some (.cells #[.int .i64 2, .int .i64 b, .func (.func 40) #[] #[]] 45 (0, 0)) ∧ ∃ D, OM ws (W.heap.size + 1) j D ∧ Reads D (fun x => x ∈ (ds.take j).map (numK 1)) (grt (numK 1) (ds.take j))) (fun i _ => ds.length - (intOf i).toNat)
      case atStart => exact great_start hI.out _ _
      case round =>
        clear h0 h1 h2
        obtain ⟨j, hj, rfl, hinv, hkv, D, ho, hr⟩ := hrel
        obtain ⟨X, hX⟩ : ∃ X, X = wr := ⟨_, rfl⟩
        subst hX
        have hJ := Aside0.mk hinv
        have hK := Aside0.mk hkv
        have hO := Aside0.mk ho
        have hE := Aside0.mk hr
        have hWx : W.heap.size + 1 < X.heap.size := ho.lt
        have hv0 : X.cell? ⟨W.heap.size, 0, none⟩ = some (.int .i64 2) := by simp [World.cell?, hkv]
        have hv1 : X.cell? ⟨W.heap.size, 1, none⟩ = some (.int .i64 b) := by simp [World.cell?, hkv]
        have hv2 : X.cell? ⟨W.heap.size, 2, none⟩ = some (.func (.func 40) #[] #[]) := by simp [World.cell?, hkv]
        clear hinv hkv ho hr
        by_cases hjl : j < ds.length
        · obtain ⟨b', off, rfl, hcell⟩ := C_at (Kd.C_below HR1.out hJ.out.below) j hjl
          obtain ⟨x, hx⟩ : ∃ x, x = ds.getD j 0 := ⟨_, rfl⟩
          rw [← hx] at hcell
          have hx' := Aside0.mk hx
          have hxd : 0 ≤ x ∧ x ≤ 999999 := day_at HD1.out hjl hx
          obtain ⟨y, hy⟩ : ∃ y, y = numK 1 x := ⟨_, rfl⟩
          have hN : ∀ V, Calls Try.prog 40 #[.int .i64 x] V fun e w' => e = .returned (.int .i64 y) ∧ Below V.heap.size V w' := fun V => hy ▸ num_calls 1 x hxd.1 hxd.2 V
          have hyb : 0 ≤ y ∧ y ≤ 20000000 := hy ▸ numK_bd 1 x hxd.1 hxd.2
          have hkey : keyOf Try.prog 3 (.int .i64 y) = some (.int .i64 y) := keyOf_int_mk Try.underlying3 (wf64 (by omega) (by omega))
          have hwx : (Lit.int .i64 x).wf = true := wf64 (by omega) (by omega)
          have hy' := Aside0.mk hy
          clear hx hy
          go_wp2_with (first
            | (go_at_call 40; refine (hN _).mono ?_; rintro e w2 ⟨rfl, hb2⟩; have ho2 := om_same hO.out (hb2.block _ hWx))
            | (at_mapUpdate; refine wpList_mapUpdate_own _ rfl _ _ _ 47 rfl 3 3 law3 Try.underlying47 _ (W.heap.size + 1) j _ rfl ho2 (by unfold maxLen; omega) _ _ _ rfl rfl hkey _ [] (plainElem_int Try.underlying3 hwx) ?_; intro w3 ho3 hg3)
            | go_in)
          go_roundw
          case rel => exact great_step hJ.out hK.out hE.out hI.out.lt hWx hjl hx'.out hy'.out hb2 ho3 hg3 (by omega) (by go_num)
          case measure => simp [intOf]; omega
        · obtain rfl : j = ds.length := by omega
          obtain ⟨P, hP⟩ : ∃ P, P = periods (numK 1) ds := ⟨_, rfl⟩
          have hS := sorted_calls (W.heap.size + 1) _ D _ _ (ds.map (numK 1)) X hO.out hE.out (fun x => by rw [List.take_length]) (by rw [List.length_map]; omega)
          rw [show setL (ds.map (numK 1)) = P from hP.symm] at hS
          have hPl : P.length ≤ ds.length := by rw [hP]; have := setL_len_le (ds.map (numK 1)); rw [List.length_map] at this; exact this
          have hP' := Aside0.mk hP
          clear hP
          go_wp2_with (first
            | (go_at_call 44; refine (keys_calls _ _).mono ?_; rintro e w2 ⟨rfl, rfl⟩)
            | (go_at_call 43; refine hS.mono ?_; rintro e w3 ⟨v, rfl, hov, hbv⟩; obtain ⟨A3, c3, rfl, hc3, hC3⟩ := hov.reads; have hk3 := (hbv.block _ (by omega)).trans ((Below.heap_alloc _ _ _ (by omega)).trans hK.out); have hv3 := cell_of_heap hk3 1 _ rfl)
            | go_in)
          all_goals
            have hJ3 : Inv w w3 (kcells a b c d) (1 * 100000) (upK a b c d ds 1) := sorted_keep hJ.out hbv
            have hO3 : OM w3 (W.heap.size + 1) ds.length D := om_same hO.out ((hbv.block _ (by omega)).trans (Below.heap_alloc _ _ _ (by omega)))
            have hI3 := Aside0.mk hJ3
            have hM3 := Aside0.mk hO3
            have hK3 := Aside0.mk hk3
            have hV3 := Aside0.mk hov
            have hC3' := Aside0.mk hc3
            clear hJ3 hO3 hk3 hov hC3 hbv hv3 hS hv0 hv1 hv2
            have hL : (max 0 ((P.length : Int) - b)).toNat = P.length - (b).toNat := by omega
            obtain ⟨Q, hQ⟩ : ∃ Q, Q = P.drop (P.length - (b).toNat) := ⟨_, rfl⟩
            have hQl : P.length - (P.length - (b).toNat) = Q.length := by rw [hQ, List.length_drop]
            obtain ⟨A4, c4, hA4⟩ : ∃ A4 c4, A4 = (if c3 = P.length - (b).toNat then A3 else A3.map (fun x => x.add (P.length - (b).toNat))) ∧ c4 = c3 - (P.length - (b).toNat) := ⟨_, _, rfl, rfl⟩
            rw [hL, hQl]
            first
              | (rw [show Option.map (fun x => x.add (P.length - (b).toNat)) A3 = A4 by rw [hA4.1, if_neg (by omega)]]; rw [← hA4.2])
              | (rw [show A3 = A4 by rw [hA4.1, if_pos (by omega)]])
            have HA4 := Aside0.mk hA4.1
            have HQ := Aside0.mk hQ
            clear hA4 hQ hL hQl
            go_loopw [54] (fun i ws => ∃ j : Nat, j ≤ Q.length ∧ i = .int .i64 j ∧ Inv w ws (kcells a b c d) (1 * 100000 + j) ((Q.take j).foldl (stepP (grt (numK 1) (ds.take ds.length)) 2) (upK a b c d ds 1)) ∧ ws.heap[W.heap.size]? = some (.cells #[.int .i64 2, .int .i64 b, .func (.func 40) #[] #[]] 45 (0, 0)) ∧ OM ws (W.heap.size + 1) ds.length D ∧ Own ws (X.heap.size + 1) (.slice A3 P.length c3) P) (fun i _ => Q.length - (intOf i).toNat)
            case atStart => exact ⟨0, Nat.zero_le _, rfl, hI3.out, hK3.out, hM3.out, hV3.out⟩
            case round =>
              clear hI3 hM3 hK3 hV3 hJ hK hO
              obtain ⟨j, hj, rfl, hinv, hkv, ho, hov⟩ := hrel
              obtain ⟨Y, hY⟩ : ∃ Y, Y = wr := ⟨_, rfl⟩
              subst hY
              have hJ := Aside0.mk hinv
              have hK := Aside0.mk hkv
              have hO := Aside0.mk ho
              have hV := Aside0.mk hov
              have hv0 : Y.cell? ⟨W.heap.size, 0, none⟩ = some (.int .i64 2) := cell_of_heap hkv 0 _ rfl
              clear hinv hkv ho hov
              by_cases hjl : j < Q.length
              · obtain ⟨D0, S0, ho0, hr0⟩ := hJ.out.out
                have hO0 := Aside0.mk ho0
                have hE0 := Aside0.mk hr0
                clear ho0 hr0
                have hC4 : Kd.C (Kd.int .i64) Y A4 Q.length Q := by have := drop_C hV.out hC3'.out (Nat.sub_le _ _) HA4.out; rw [← HQ.out] at this; exact this
                obtain ⟨b', off, hA, hcell⟩ := C_at hC4 j hjl
                have hA' := Aside0.mk hA
                clear hA hC4
                obtain ⟨x, hx⟩ : ∃ x, x = Q.getD j 0 := ⟨_, rfl⟩
                rw [← hx] at hcell
                have hx' := Aside0.mk hx
                have hxb : 0 ≤ x ∧ x ≤ 20000000 := period_bd HD1.out hP'.out HQ.out hjl hx
                have hkey : keyOf Try.prog 3 (.int .i64 x) = some (.int .i64 x) := keyOf_int_mk Try.underlying3 (wf64 (by omega) (by omega))
                clear hx
                have hQP : Q.length ≤ P.length := by rw [HQ.out, List.length_drop]; omega
                have hroom : 1 * 100000 + j < maxLen := room_k _ _ (by omega) (by omega)
                have tok1 : True := trivial
                rw [hA'.out]
                go_wp2_with (first
                  | (at_lookup; have _t := tok1; refine wpList_lookup_own_int _ rfl _ _ 47 rfl 3 3 .i64 law3 Try.underlying47 Try.underlying3 (zero3 _) (W.heap.size + 1) ds.length D rfl hO.out _ _ rfl hkey ?_; intro g0 hat hwg; clear tok1; have hkey2 := keyOf_int_mk Try.underlying3 hwg)
                  | (at_lookup; refine wpList_lookup_own_int _ rfl _ _ 47 rfl 3 3 .i64 law3 Try.underlying47 Try.underlying3 (zero3 _) (w.heap.size + 1) (1 * 100000 + j) D0 rfl hO0.out _ _ rfl hkey2 ?_; intro c0 hat0 hwc0)
                  | (at_mapUpdate; refine wpList_mapUpdate_own _ rfl _ _ _ 47 rfl 3 3 law3 Try.underlying47 _ (w.heap.size + 1) (1 * 100000 + j) _ rfl hO0.out hroom _ _ _ rfl rfl hkey2 _ [] (plainElem_int Try.underlying3 (wf64 (bits_lo_i64 _ _ _) (bits_hi_i64 _ _ _))) ?_; intro w4 ho4 hg4)
                  | go_in)
                go_roundw
                case rel => exact out_step hJ.out hK.out hO.out hV.out hE.out hE0.out hI.out.lt (by omega) (Array.getElem?_eq_some_iff.1 hK.out).1 hjl hx'.out hat hat0 ho4 hg4 (by go_num)
                case measure => simp [intOf]; omega
              · obtain rfl : j = Q.length := by omega
                have hQP : Q.length ≤ 100000 := by rw [HQ.out, List.length_drop]; omega
                have hEnd := out_end (B := 2) hJ.out hP'.out HQ.out hQP rfl rfl
                have hEnd' := Aside0.mk hEnd
                clear hEnd hv0
                go_wp2
                go_roundw
                case rel => exact ⟨2, by omega, by omega, by first | rfl | go_num, hEnd'.out⟩
                case measure => simp [intOf]
    · have h0 : W.cell? ⟨w.heap.size + 1 + 1 + 1, 6, none⟩ = some (.int .i64 4) := hc 6
      have h1 : W.cell? ⟨w.heap.size + 1 + 1 + 1, 7, none⟩ = some (.int .i64 c) := hc 7
      have h2 : W.cell? ⟨w.heap.size + 1 + 1 + 1, 8, none⟩ = some (.func (.func 21) #[] #[]) := hc 8
      clear hc
      have hmost : 0 ≤ c ∧ c ≤ 1000 := valid_nth HV.out 2
      go_wp2
      go_loopw [31] (fun i ws => ∃ j : Nat, j ≤ ds.length ∧ i = .int .i64 j ∧ Inv w ws (kcells a b c d) (2 * 100000) (upK a b c d ds 2) ∧ ws.heap[W.heap.size]? = some (.cells #[.int .i64 4, .int .i64 c, .func (.func 21) #[] #[]] 45 (0, 0)) ∧ ∃ D, OM ws (W.heap.size + 1) j D ∧ Reads D (fun x => x ∈ (ds.take j).map (numK 2)) (grt (numK 2) (ds.take j))) (fun i _ => ds.length - (intOf i).toNat)
      case atStart => exact great_start hI.out _ _
      case round =>
        clear h0 h1 h2
        obtain ⟨j, hj, rfl, hinv, hkv, D, ho, hr⟩ := hrel
        obtain ⟨X, hX⟩ : ∃ X, X = wr := ⟨_, rfl⟩
        subst hX
        have hJ := Aside0.mk hinv
        have hK := Aside0.mk hkv
        have hO := Aside0.mk ho
        have hE := Aside0.mk hr
        have hWx : W.heap.size + 1 < X.heap.size := ho.lt
        have hv0 : X.cell? ⟨W.heap.size, 0, none⟩ = some (.int .i64 4) := by simp [World.cell?, hkv]
        have hv1 : X.cell? ⟨W.heap.size, 1, none⟩ = some (.int .i64 c) := by simp [World.cell?, hkv]
        have hv2 : X.cell? ⟨W.heap.size, 2, none⟩ = some (.func (.func 21) #[] #[]) := by simp [World.cell?, hkv]
        clear hinv hkv ho hr
        by_cases hjl : j < ds.length
        · obtain ⟨b', off, rfl, hcell⟩ := C_at (Kd.C_below HR1.out hJ.out.below) j hjl
          obtain ⟨x, hx⟩ : ∃ x, x = ds.getD j 0 := ⟨_, rfl⟩
          rw [← hx] at hcell
          have hx' := Aside0.mk hx
          have hxd : 0 ≤ x ∧ x ≤ 999999 := day_at HD1.out hjl hx
          obtain ⟨y, hy⟩ : ∃ y, y = numK 2 x := ⟨_, rfl⟩
          have hN : ∀ V, Calls Try.prog 21 #[.int .i64 x] V fun e w' => e = .returned (.int .i64 y) ∧ Below V.heap.size V w' := fun V => hy ▸ num_calls 2 x hxd.1 hxd.2 V
          have hyb : 0 ≤ y ∧ y ≤ 20000000 := hy ▸ numK_bd 2 x hxd.1 hxd.2
          have hkey : keyOf Try.prog 3 (.int .i64 y) = some (.int .i64 y) := keyOf_int_mk Try.underlying3 (wf64 (by omega) (by omega))
          have hwx : (Lit.int .i64 x).wf = true := wf64 (by omega) (by omega)
          have hy' := Aside0.mk hy
          clear hx hy
          go_wp2_with (first
            | (go_at_call 21; refine (hN _).mono ?_; rintro e w2 ⟨rfl, hb2⟩; have ho2 := om_same hO.out (hb2.block _ hWx))
            | (at_mapUpdate; refine wpList_mapUpdate_own _ rfl _ _ _ 47 rfl 3 3 law3 Try.underlying47 _ (W.heap.size + 1) j _ rfl ho2 (by unfold maxLen; omega) _ _ _ rfl rfl hkey _ [] (plainElem_int Try.underlying3 hwx) ?_; intro w3 ho3 hg3)
            | go_in)
          go_roundw
          case rel => exact great_step hJ.out hK.out hE.out hI.out.lt hWx hjl hx'.out hy'.out hb2 ho3 hg3 (by omega) (by go_num)
          case measure => simp [intOf]; omega
        · obtain rfl : j = ds.length := by omega
          obtain ⟨P, hP⟩ : ∃ P, P = periods (numK 2) ds := ⟨_, rfl⟩
          have hS := sorted_calls (W.heap.size + 1) _ D _ _ (ds.map (numK 2)) X hO.out hE.out (fun x => by rw [List.take_length]) (by rw [List.length_map]; omega)
          rw [show setL (ds.map (numK 2)) = P from hP.symm] at hS
          have hPl : P.length ≤ ds.length := by rw [hP]; have := setL_len_le (ds.map (numK 2)); rw [List.length_map] at this; exact this
          have hP' := Aside0.mk hP
          clear hP
          go_wp2_with (first
            | (go_at_call 44; refine (keys_calls _ _).mono ?_; rintro e w2 ⟨rfl, rfl⟩)
            | (go_at_call 43; refine hS.mono ?_; rintro e w3 ⟨v, rfl, hov, hbv⟩; obtain ⟨A3, c3, rfl, hc3, hC3⟩ := hov.reads; have hk3 := (hbv.block _ (by omega)).trans ((Below.heap_alloc _ _ _ (by omega)).trans hK.out); have hv3 := cell_of_heap hk3 1 _ rfl)
            | go_in)
          all_goals
            have hJ3 : Inv w w3 (kcells a b c d) (2 * 100000) (upK a b c d ds 2) := sorted_keep hJ.out hbv
            have hO3 : OM w3 (W.heap.size + 1) ds.length D := om_same hO.out ((hbv.block _ (by omega)).trans (Below.heap_alloc _ _ _ (by omega)))
            have hI3 := Aside0.mk hJ3
            have hM3 := Aside0.mk hO3
            have hK3 := Aside0.mk hk3
            have hV3 := Aside0.mk hov
            have hC3' := Aside0.mk hc3
            clear hJ3 hO3 hk3 hov hC3 hbv hv3 hS hv0 hv1 hv2
            have hL : (max 0 ((P.length : Int) - c)).toNat = P.length - (c).toNat := by omega
            obtain ⟨Q, hQ⟩ : ∃ Q, Q = P.drop (P.length - (c).toNat) := ⟨_, rfl⟩
            have hQl : P.length - (P.length - (c).toNat) = Q.length := by rw [hQ, List.length_drop]
            obtain ⟨A4, c4, hA4⟩ : ∃ A4 c4, A4 = (if c3 = P.length - (c).toNat then A3 else A3.map (fun x => x.add (P.length - (c).toNat))) ∧ c4 = c3 - (P.length - (c).toNat) := ⟨_, _, rfl, rfl⟩
            rw [hL, hQl]
            first
              | (rw [show Option.map (fun x => x.add (P.length - (c).toNat)) A3 = A4 by rw [hA4.1, if_neg (by omega)]]; rw [← hA4.2])
              | (rw [show A3 = A4 by rw [hA4.1, if_pos (by omega)]])
            have HA4 := Aside0.mk hA4.1
            have HQ := Aside0.mk hQ
            clear hA4 hQ hL hQl
            go_loopw [54] (fun i ws => ∃ j : Nat, j ≤ Q.length ∧ i = .int .i64 j ∧ Inv w ws (kcells a b c d) (2 * 100000 + j) ((Q.take j).foldl (stepP (grt (numK 2) (ds.take ds.length)) 4) (upK a b c d ds 2)) ∧ ws.heap[W.heap.size]? = some (.cells #[.int .i64 4, .int .i64 c, .func (.func 21) #[] #[]] 45 (0, 0)) ∧ OM ws (W.heap.size + 1) ds.length D ∧ Own ws (X.heap.size + 1) (.slice A3 P.length c3) P) (fun i _ => Q.length - (intOf i).toNat)
            case atStart => exact ⟨0, Nat.zero_le _, rfl, hI3.out, hK3.out, hM3.out, hV3.out⟩
            case round =>
              clear hI3 hM3 hK3 hV3 hJ hK hO
              obtain ⟨j, hj, rfl, hinv, hkv, ho, hov⟩ := hrel
              obtain ⟨Y, hY⟩ : ∃ Y, Y = wr := ⟨_, rfl⟩
              subst hY
              have hJ := Aside0.mk hinv
              have hK := Aside0.mk hkv
              have hO := Aside0.mk ho
              have hV := Aside0.mk hov
              have hv0 : Y.cell? ⟨W.heap.size, 0, none⟩ = some (.int .i64 4) := cell_of_heap hkv 0 _ rfl
              clear hinv hkv ho hov
              by_cases hjl : j < Q.length
              · obtain ⟨D0, S0, ho0, hr0⟩ := hJ.out.out
                have hO0 := Aside0.mk ho0
                have hE0 := Aside0.mk hr0
                clear ho0 hr0
                have hC4 : Kd.C (Kd.int .i64) Y A4 Q.length Q := by have := drop_C hV.out hC3'.out (Nat.sub_le _ _) HA4.out; rw [← HQ.out] at this; exact this
                obtain ⟨b', off, hA, hcell⟩ := C_at hC4 j hjl
                have hA' := Aside0.mk hA
                clear hA hC4
                obtain ⟨x, hx⟩ : ∃ x, x = Q.getD j 0 := ⟨_, rfl⟩
                rw [← hx] at hcell
                have hx' := Aside0.mk hx
                have hxb : 0 ≤ x ∧ x ≤ 20000000 := period_bd HD1.out hP'.out HQ.out hjl hx
                have hkey : keyOf Try.prog 3 (.int .i64 x) = some (.int .i64 x) := keyOf_int_mk Try.underlying3 (wf64 (by omega) (by omega))
                clear hx
                have hQP : Q.length ≤ P.length := by rw [HQ.out, List.length_drop]; omega
                have hroom : 2 * 100000 + j < maxLen := room_k _ _ (by omega) (by omega)
                have tok1 : True := trivial
                rw [hA'.out]
                go_wp2_with (first
                  | (at_lookup; have _t := tok1; refine wpList_lookup_own_int _ rfl _ _ 47 rfl 3 3 .i64 law3 Try.underlying47 Try.underlying3 (zero3 _) (W.heap.size + 1) ds.length D rfl hO.out _ _ rfl hkey ?_; intro g0 hat hwg; clear tok1; have hkey2 := keyOf_int_mk Try.underlying3 hwg)
                  | (at_lookup; refine wpList_lookup_own_int _ rfl _ _ 47 rfl 3 3 .i64 law3 Try.underlying47 Try.underlying3 (zero3 _) (w.heap.size + 1) (2 * 100000 + j) D0 rfl hO0.out _ _ rfl hkey2 ?_; intro c0 hat0 hwc0)
                  | (at_mapUpdate; refine wpList_mapUpdate_own _ rfl _ _ _ 47 rfl 3 3 law3 Try.underlying47 _ (w.heap.size + 1) (2 * 100000 + j) _ rfl hO0.out hroom _ _ _ rfl rfl hkey2 _ [] (plainElem_int Try.underlying3 (wf64 (bits_lo_i64 _ _ _) (bits_hi_i64 _ _ _))) ?_; intro w4 ho4 hg4)
                  | go_in)
                go_roundw
                case rel => exact out_step hJ.out hK.out hO.out hV.out hE.out hE0.out hI.out.lt (by omega) (Array.getElem?_eq_some_iff.1 hK.out).1 hjl hx'.out hat hat0 ho4 hg4 (by go_num)
                case measure => simp [intOf]; omega
              · obtain rfl : j = Q.length := by omega
                have hQP : Q.length ≤ 100000 := by rw [HQ.out, List.length_drop]; omega
                have hEnd := out_end (B := 4) hJ.out hP'.out HQ.out hQP rfl rfl
                have hEnd' := Aside0.mk hEnd
                clear hEnd hv0
                go_wp2
                go_roundw
                case rel => exact ⟨3, by omega, by omega, by first | rfl | go_num, hEnd'.out⟩
                case measure => simp [intOf]
    · have h0 : W.cell? ⟨w.heap.size + 1 + 1 + 1, 9, none⟩ = some (.int .i64 8) := hc 9
      have h1 : W.cell? ⟨w.heap.size + 1 + 1 + 1, 10, none⟩ = some (.int .i64 d) := hc 10
      have h2 : W.cell? ⟨w.heap.size + 1 + 1 + 1, 11, none⟩ = some (.func (.func 41) #[] #[]) := hc 11
      clear hc
      have hmost : 0 ≤ d ∧ d ≤ 1000 := valid_nth HV.out 3
      go_wp2
      go_loopw [31] (fun i ws => ∃ j : Nat, j ≤ ds.length ∧ i = .int .i64 j ∧ Inv w ws (kcells a b c d) (3 * 100000) (upK a b c d ds 3) ∧ ws.heap[W.heap.size]? = some (.cells #[.int .i64 8, .int .i64 d, .func (.func 41) #[] #[]] 45 (0, 0)) ∧ ∃ D, OM ws (W.heap.size + 1) j D ∧ Reads D (fun x => x ∈ (ds.take j).map (numK 3)) (grt (numK 3) (ds.take j))) (fun i _ => ds.length - (intOf i).toNat)
      case atStart => exact great_start hI.out _ _
      case round =>
        clear h0 h1 h2
        obtain ⟨j, hj, rfl, hinv, hkv, D, ho, hr⟩ := hrel
        obtain ⟨X, hX⟩ : ∃ X, X = wr := ⟨_, rfl⟩
        subst hX
        have hJ := Aside0.mk hinv
        have hK := Aside0.mk hkv
        have hO := Aside0.mk ho
        have hE := Aside0.mk hr
        have hWx : W.heap.size + 1 < X.heap.size := ho.lt
        have hv0 : X.cell? ⟨W.heap.size, 0, none⟩ = some (.int .i64 8) := by simp [World.cell?, hkv]
        have hv1 : X.cell? ⟨W.heap.size, 1, none⟩ = some (.int .i64 d) := by simp [World.cell?, hkv]
        have hv2 : X.cell? ⟨W.heap.size, 2, none⟩ = some (.func (.func 41) #[] #[]) := by simp [World.cell?, hkv]
        clear hinv hkv ho hr
        by_cases hjl : j < ds.length
        · obtain ⟨b', off, rfl, hcell⟩ := C_at (Kd.C_below HR1.out hJ.out.below) j hjl
          obtain ⟨x, hx⟩ : ∃ x, x = ds.getD j 0 := ⟨_, rfl⟩
          rw [← hx] at hcell
          have hx' := Aside0.mk hx
          have hxd : 0 ≤ x ∧ x ≤ 999999 := day_at HD1.out hjl hx
          obtain ⟨y, hy⟩ : ∃ y, y = numK 3 x := ⟨_, rfl⟩
          have hN : ∀ V, Calls Try.prog 41 #[.int .i64 x] V fun e w' => e = .returned (.int .i64 y) ∧ Below V.heap.size V w' := fun V => hy ▸ num_calls 3 x hxd.1 hxd.2 V
          have hyb : 0 ≤ y ∧ y ≤ 20000000 := hy ▸ numK_bd 3 x hxd.1 hxd.2
          have hkey : keyOf Try.prog 3 (.int .i64 y) = some (.int .i64 y) := keyOf_int_mk Try.underlying3 (wf64 (by omega) (by omega))
          have hwx : (Lit.int .i64 x).wf = true := wf64 (by omega) (by omega)
          have hy' := Aside0.mk hy
          clear hx hy
          go_wp2_with (first
            | (go_at_call 41; refine (hN _).mono ?_; rintro e w2 ⟨rfl, hb2⟩; have ho2 := om_same hO.out (hb2.block _ hWx))
            | (at_mapUpdate; refine wpList_mapUpdate_own _ rfl _ _ _ 47 rfl 3 3 law3 Try.underlying47 _ (W.heap.size + 1) j _ rfl ho2 (by unfold maxLen; omega) _ _ _ rfl rfl hkey _ [] (plainElem_int Try.underlying3 hwx) ?_; intro w3 ho3 hg3)
            | go_in)
          go_roundw
          case rel => exact great_step hJ.out hK.out hE.out hI.out.lt hWx hjl hx'.out hy'.out hb2 ho3 hg3 (by omega) (by go_num)
          case measure => simp [intOf]; omega
        · obtain rfl : j = ds.length := by omega
          obtain ⟨P, hP⟩ : ∃ P, P = periods (numK 3) ds := ⟨_, rfl⟩
          have hS := sorted_calls (W.heap.size + 1) _ D _ _ (ds.map (numK 3)) X hO.out hE.out (fun x => by rw [List.take_length]) (by rw [List.length_map]; omega)
          rw [show setL (ds.map (numK 3)) = P from hP.symm] at hS
          have hPl : P.length ≤ ds.length := by rw [hP]; have := setL_len_le (ds.map (numK 3)); rw [List.length_map] at this; exact this
          have hP' := Aside0.mk hP
          clear hP
          go_wp2_with (first
            | (go_at_call 44; refine (keys_calls _ _).mono ?_; rintro e w2 ⟨rfl, rfl⟩)
            | (go_at_call 43; refine hS.mono ?_; rintro e w3 ⟨v, rfl, hov, hbv⟩; obtain ⟨A3, c3, rfl, hc3, hC3⟩ := hov.reads; have hk3 := (hbv.block _ (by omega)).trans ((Below.heap_alloc _ _ _ (by omega)).trans hK.out); have hv3 := cell_of_heap hk3 1 _ rfl)
            | go_in)
          all_goals
            have hJ3 : Inv w w3 (kcells a b c d) (3 * 100000) (upK a b c d ds 3) := sorted_keep hJ.out hbv
            have hO3 : OM w3 (W.heap.size + 1) ds.length D := om_same hO.out ((hbv.block _ (by omega)).trans (Below.heap_alloc _ _ _ (by omega)))
            have hI3 := Aside0.mk hJ3
            have hM3 := Aside0.mk hO3
            have hK3 := Aside0.mk hk3
            have hV3 := Aside0.mk hov
            have hC3' := Aside0.mk hc3
            clear hJ3 hO3 hk3 hov hC3 hbv hv3 hS hv0 hv1 hv2
            have hL : (max 0 ((P.length : Int) - d)).toNat = P.length - (d).toNat := by omega
            obtain ⟨Q, hQ⟩ : ∃ Q, Q = P.drop (P.length - (d).toNat) := ⟨_, rfl⟩
            have hQl : P.length - (P.length - (d).toNat) = Q.length := by rw [hQ, List.length_drop]
            obtain ⟨A4, c4, hA4⟩ : ∃ A4 c4, A4 = (if c3 = P.length - (d).toNat then A3 else A3.map (fun x => x.add (P.length - (d).toNat))) ∧ c4 = c3 - (P.length - (d).toNat) := ⟨_, _, rfl, rfl⟩
            rw [hL, hQl]
            first
              | (rw [show Option.map (fun x => x.add (P.length - (d).toNat)) A3 = A4 by rw [hA4.1, if_neg (by omega)]]; rw [← hA4.2])
              | (rw [show A3 = A4 by rw [hA4.1, if_pos (by omega)]])
            have HA4 := Aside0.mk hA4.1
            have HQ := Aside0.mk hQ
            clear hA4 hQ hL hQl
            go_loopw [54] (fun i ws => ∃ j : Nat, j ≤ Q.length ∧ i = .int .i64 j ∧ Inv w ws (kcells a b c d) (3 * 100000 + j) ((Q.take j).foldl (stepP (grt (numK 3) (ds.take ds.length)) 8) (upK a b c d ds 3)) ∧ ws.heap[W.heap.size]? = some (.cells #[.int .i64 8, .int .i64 d, .func (.func 41) #[] #[]] 45 (0, 0)) ∧ OM ws (W.heap.size + 1) ds.length D ∧ Own ws (X.heap.size + 1) (.slice A3 P.length c3) P) (fun i _ => Q.length - (intOf i).toNat)
            case atStart => exact ⟨0, Nat.zero_le _, rfl, hI3.out, hK3.out, hM3.out, hV3.out⟩
            case round =>
              clear hI3 hM3 hK3 hV3 hJ hK hO
              obtain ⟨j, hj, rfl, hinv, hkv, ho, hov⟩ := hrel
              obtain ⟨Y, hY⟩ : ∃ Y, Y = wr := ⟨_, rfl⟩
              subst hY
              have hJ := Aside0.mk hinv
              have hK := Aside0.mk hkv
              have hO := Aside0.mk ho
              have hV := Aside0.mk hov
              have hv0 : Y.cell? ⟨W.heap.size, 0, none⟩ = some (.int .i64 8) := cell_of_heap hkv 0 _ rfl
              clear hinv hkv ho hov
              by_cases hjl : j < Q.length
              · obtain ⟨D0, S0, ho0, hr0⟩ := hJ.out.out
                have hO0 := Aside0.mk ho0
                have hE0 := Aside0.mk hr0
                clear ho0 hr0
                have hC4 : Kd.C (Kd.int .i64) Y A4 Q.length Q := by have := drop_C hV.out hC3'.out (Nat.sub_le _ _) HA4.out; rw [← HQ.out] at this; exact this
                obtain ⟨b', off, hA, hcell⟩ := C_at hC4 j hjl
                have hA' := Aside0.mk hA
                clear hA hC4
                obtain ⟨x, hx⟩ : ∃ x, x = Q.getD j 0 := ⟨_, rfl⟩
                rw [← hx] at hcell
                have hx' := Aside0.mk hx
                have hxb : 0 ≤ x ∧ x ≤ 20000000 := period_bd HD1.out hP'.out HQ.out hjl hx
                have hkey : keyOf Try.prog 3 (.int .i64 x) = some (.int .i64 x) := keyOf_int_mk Try.underlying3 (wf64 (by omega) (by omega))
                clear hx
                have hQP : Q.length ≤ P.length := by rw [HQ.out, List.length_drop]; omega
                have hroom : 3 * 100000 + j < maxLen := room_k _ _ (by omega) (by omega)
                have tok1 : True := trivial
                rw [hA'.out]
                go_wp2_with (first
                  | (at_lookup; have _t := tok1; refine wpList_lookup_own_int _ rfl _ _ 47 rfl 3 3 .i64 law3 Try.underlying47 Try.underlying3 (zero3 _) (W.heap.size + 1) ds.length D rfl hO.out _ _ rfl hkey ?_; intro g0 hat hwg; clear tok1; have hkey2 := keyOf_int_mk Try.underlying3 hwg)
                  | (at_lookup; refine wpList_lookup_own_int _ rfl _ _ 47 rfl 3 3 .i64 law3 Try.underlying47 Try.underlying3 (zero3 _) (w.heap.size + 1) (3 * 100000 + j) D0 rfl hO0.out _ _ rfl hkey2 ?_; intro c0 hat0 hwc0)
                  | (at_mapUpdate; refine wpList_mapUpdate_own _ rfl _ _ _ 47 rfl 3 3 law3 Try.underlying47 _ (w.heap.size + 1) (3 * 100000 + j) _ rfl hO0.out hroom _ _ _ rfl rfl hkey2 _ [] (plainElem_int Try.underlying3 (wf64 (bits_lo_i64 _ _ _) (bits_hi_i64 _ _ _))) ?_; intro w4 ho4 hg4)
                  | go_in)
                go_roundw
                case rel => exact out_step hJ.out hK.out hO.out hV.out hE.out hE0.out hI.out.lt (by omega) (Array.getElem?_eq_some_iff.1 hK.out).1 hjl hx'.out hat hat0 ho4 hg4 (by go_num)
                case measure => simp [intOf]; omega
              · obtain rfl : j = Q.length := by omega
                have hQP : Q.length ≤ 100000 := by rw [HQ.out, List.length_drop]; omega
                have hEnd := out_end (B := 8) hJ.out hP'.out HQ.out hQP rfl rfl
                have hEnd' := Aside0.mk hEnd
                clear hEnd hv0
                go_wp2
                go_roundw
                case rel => exact ⟨4, by omega, by omega, by first | rfl | go_num, hEnd'.out⟩
                case measure => simp [intOf]
    · clear hc
      go_wp2
      go_loopw [70] (fun i ws => ∃ j : Nat, j ≤ hs.length ∧ i = .int .i64 j ∧ Inv w ws (kcells a b c d) (400000 + j) ((hs.take j).foldl (stepH ds) (upK a b c d ds 4))) (fun i _ => hs.length - (intOf i).toNat)
      case atStart => exact ⟨0, Nat.zero_le _, rfl, hI.out⟩
      case round =>
        obtain ⟨j, hj, rfl, hinv⟩ := hrel
        obtain ⟨Y, hY⟩ : ∃ Y, Y = wr := ⟨_, rfl⟩
        subst hY
        have hJ := Aside0.mk hinv
        clear hinv
        by_cases hjl : j < hs.length
        · obtain ⟨D0, S0, ho0, hr0⟩ := hJ.out.out
          have hO0 := Aside0.mk ho0
          have hE0 := Aside0.mk hr0
          clear ho0 hr0
          obtain ⟨b', off, rfl, hcell⟩ := C_at (Kd.C_below HR2.out hJ.out.below) j hjl
          obtain ⟨x, hx⟩ : ∃ x, x = hs.getD j 0 := ⟨_, rfl⟩
          rw [← hx] at hcell
          have hx' := Aside0.mk hx
          have hxd : 0 ≤ x ∧ x ≤ 999999 := day_at HD2.out hjl hx
          have hkey : keyOf Try.prog 3 (.int .i64 x) = some (.int .i64 x) := keyOf_int_mk Try.underlying3 (wf64 (by omega) (by omega))
          clear hx
          have hroom : 400000 + j < maxLen := room_k 4 j (by omega) (by omega)
          have hlt := hJ.out.lt
          cases hin : ds.contains x
          · have hS := search_calls A1 c1 ds x Y (Kd.C_below HR1.out hJ.out.below) hl1 HLT.out
            rw [hin] at hS
            go_wp2_with (first | (go_at_call 45; refine hS.mono ?_; rintro e w2 ⟨m, rfl, hb2⟩) | go_in)
            go_roundw
            case rel => exact hold_miss hJ.out hjl hx'.out hin hb2 (by go_num)
            case measure => simp [intOf]; omega
          · have hS := search_calls A1 c1 ds x Y (Kd.C_below HR1.out hJ.out.below) hl1 HLT.out
            rw [hin] at hS
            go_wp2_with (first
              | (go_at_call 45; refine hS.mono ?_; rintro e w2 ⟨m, rfl, hb2⟩; have hO2 := om_same hO0.out (hb2.block _ (by omega)))
              | (at_lookup; refine wpList_lookup_own_int _ rfl _ _ 47 rfl 3 3 .i64 law3 Try.underlying47 Try.underlying3 (zero3 _) (w.heap.size + 1) (400000 + j) D0 rfl hO2 _ _ rfl hkey ?_; intro c0 hat0 hwc0)
              | (at_mapUpdate; refine wpList_mapUpdate_own _ rfl _ _ _ 47 rfl 3 3 law3 Try.underlying47 _ (w.heap.size + 1) (400000 + j) _ rfl hO2 hroom _ _ _ rfl rfl hkey _ [] (plainElem_int Try.underlying3 (wf64 (bits_lo_i64 _ _ _) (bits_hi_i64 _ _ _))) ?_; intro w4 ho4 hg4)
              | go_in)
            go_roundw
            case rel => exact hold_hit hJ.out hE0.out hjl hx'.out hin hb2 hat0 ho4 hg4 (by go_num)
            case measure => simp [intOf]; omega
        · obtain rfl : j = hs.length := by omega
          have hR := hold_end hJ.out
          have hR' := Aside0.mk hR
          clear hR
          go_wp2
          go_ret
          obtain ⟨D, S, h1, h2⟩ := hR'.out.1
          exact ⟨_, D, S, rfl, h1, h2, hR'.out.2⟩
end Go.Proofs.Ytbahcpdhadhplaa.Hand
