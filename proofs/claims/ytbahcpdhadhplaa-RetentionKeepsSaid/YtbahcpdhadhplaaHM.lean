/- The call's own maps from numbers to numbers, as functions; the numbers of the periods; what retention.reasons returns, in plain words. -/
import Derived.Test.YtbahcpdhadhplaaHC
import Derived.Test.YtbahcpdhadhplaaPD
import Derived.Maps.OwnOps
import Derived.Maps.OwnSet
set_option linter.unusedVariables false
set_option linter.unusedSimpArgs false
namespace Go.Proofs.Ytbahcpdhadhplaa.Hand
open Go.RowKit Go.Maps Go.Sort Go.Proofs.YtbahcpdhadhplaaW.PrintWords Go.Proofs.YtbahcpdhadhplaaW.PrintMore Go.Proofs.Ytbahcpdhadhplaa.PS Go.Proofs.Ytbahcpdhadhplaa.PB Go.Proofs.Ytbahcpdhadhplaa.M

/-! ### maps from int to int as functions -/
def upd (F : Int → Int) (k v : Int) : Int → Int := fun x => if x = k then v else F x
theorem upd_same (F : Int → Int) (k v : Int) : upd F k v k = v := if_pos rfl
theorem upd_ne (F : Int → Int) {k x : Int} (v : Int) (h : x ≠ k) : upd F k v x = F x := if_neg h

/-- What the map reads as: which keys are there, and what stands at each. -/
def Reads (D : DataW Unit) (S : Int → Prop) (F : Int → Int) : Prop :=
  IsMap D ∧ (∀ x, has D (.int .i64 x) = true ↔ S x) ∧ ∀ x, D.atKey (.int .i64 x) (.lit (.int .i64 0)) = .lit (.int .i64 (F x))
theorem reads_empty : Reads (.map []) (fun _ => False) (fun _ => 0) := ⟨isMap_empty, fun x => by simp [has], fun x => rfl⟩
theorem reads_put {D : DataW Unit} {S : Int → Prop} {F : Int → Int} (h : Reads D S F) (k v : Int) : Reads (D.put (.int .i64 k) (.lit (.int .i64 v))) (fun x => S x ∨ x = k) (upd F k v) := by
  obtain ⟨h1, h2, h3⟩ := h
  have hk : WideAt.IsKeyLit (.int .i64 k) := trivial
  refine ⟨h1.put _ _, fun x => ?_, fun x => ?_⟩
  · by_cases e : x = k
    · subst e; rw [has_put_same h1 hk]; simp
    · rw [has_put_other (by simpa using e), h2 x]
      simp [e]
  · by_cases e : x = k
    · subst e; rw [atKey_put_same h1 hk, upd_same]
    · rw [atKey_put_other (by simpa using e), h3 x, upd_ne _ _ e]
theorem reads_congr {D : DataW Unit} {S S' : Int → Prop} {F F' : Int → Int} (h : Reads D S F) (hS : ∀ x, S x ↔ S' x) (hF : ∀ x, F x = F' x) : Reads D S' F' :=
  ⟨h.1, fun x => (h.2.1 x).trans (hS x), fun x => (h.2.2 x).trans (by rw [hF])⟩

abbrev OM (w : World) (b n : Nat) (D : DataW Unit) : Prop := w.ownsMap Try.prog 3 (plainElem Try.prog 3) b n D
theorem law3 : Keyed Try.prog 3 := int_keyed Try.underlying3
theorem zero3 (w : World) : (zeroValue 3).run Try.prog w = .ok (.int .i64 0) w := by kernel_rfl
theorem om_same {w w' : World} {b n : Nat} {D : DataW Unit} (h : OM w b n D) (hb : w'.heap[b]? = w.heap[b]?) : OM w' b n D := by
  obtain ⟨es, clock, h1, h2⟩ := h
  exact ⟨es, clock, hb.trans h1, h2⟩
theorem keys_perm {w : World} {b n : Nat} {D : DataW Unit} {S : Int → Prop} {F : Int → Int} (h : OM w b n D) (hr : Reads D S F) (L : List Int) (hL : ∀ x, S x ↔ x ∈ L) : (setL L).Perm (intKeys D) := by
  obtain ⟨es, hD, hpw, _⟩ := h.entries law3
  obtain ⟨es', hD', hko⟩ := h.keysOf
  obtain rfl : es = es' := by rw [hD] at hD'; simpa using hD'
  subst hD
  exact perm_intKeys hpw (fun p hp => by obtain ⟨v, hv⟩ := hko p hp; obtain ⟨x, _, hx, _⟩ := Maps.keyOf_i64 Try.underlying3 hv; exact ⟨x, hx⟩) (lt_nodup (setL_lt L)) (fun x => by rw [setL_mem, ← hL, hr.2.1 x])
theorem size_keys (D : DataW Unit) : Maps.size D = (intKeys D).length := by cases D <;> simp [Maps.size, intKeys]

/-! ### the numbers -/
theorem yearN_le (d : Int) (h : 0 ≤ d) : yearN d ≤ d := by
  obtain ⟨h0, h1, _⟩ := yearN_spec d h
  have := C_add 0 (yearN d).toNat (Int.le_refl 0)
  rw [C_zero, Int.zero_add, Int.zero_add, Int.toNat_of_nonneg h0] at this
  omega
theorem numK_bd (k : Nat) (d : Int) (h : 0 ≤ d) (h1 : d ≤ 999999) : 0 ≤ numK k d ∧ numK k d ≤ 20000000 := by
  have h2 := yearN_le d h
  have h3 := yearN_spec d h
  have h4 := (isDate_N d h).m0
  have h5 := (isDate_N d h).m1
  unfold numK
  split
  · omega
  · unfold weekN; omega
  · unfold monthN; omega
  · omega
theorem wf64 {x : Int} (h : -9223372036854775808 ≤ x) (h1 : x ≤ 9223372036854775807) : (Lit.int .i64 x).wf = true := WalkArith.wf_i64 (by omega)

def gfn (k : Nat) : Nat := match k with | 0 => 39 | 1 => 40 | 2 => 21 | _ => 41
theorem num0_calls (d : Int) (w : World) : Calls Try.prog 39 #[.int .i64 d] w fun e w' => e = .returned (.int .i64 d) ∧ Below w.heap.size w w' := by
  go_enter Try.func39, Try.ntmps39
  go_wp2
  go_ret
  exact ⟨rfl, Below.refl _ _⟩
theorem num_calls (k : Nat) (d : Int) (h : 0 ≤ d) (h1 : d ≤ 999999) (w : World) : Calls Try.prog (gfn k) #[.int .i64 d] w fun e w' => e = .returned (.int .i64 (numK k d)) ∧ Below w.heap.size w w' := by
  match k with
  | 0 => exact num0_calls d w
  | 1 =>
    refine (calendar_Week.calls d _ w (week_ok h h1)).mono ?_
    rintro e w' ⟨rfl, m, rfl⟩
    exact ⟨rfl, pw_below_drewN (Below.refl _ _) m⟩
  | 2 =>
    obtain ⟨q, hq⟩ := (month_k d h h1).rounds
    exact calendar_Month.calls q d _ w hq
  | n + 3 =>
    obtain ⟨q, hq⟩ := (year_k d h h1).rounds
    exact calendar_Year.calls q d _ w hq

/-! ### what retention.reasons computes -/
def grt (N : Int → Int) (ds : List Int) : Int → Int := ds.foldl (fun F d => upd F (N d) d) (fun _ => 0)
def periods (N : Int → Int) (ds : List Int) : List Int := setL (ds.map N)
def orI (a b : Int) : Int := Go.bits .or .i64 a b
def stepP (g : Int → Int) (bit : Int) (F : Int → Int) (p : Int) : Int → Int := upd F (g p) (orI (F (g p)) bit)
def lastP (N : Int → Int) (ds : List Int) (most : Int) : List Int := (periods N ds).drop ((periods N ds).length - most.toNat)
def stepK (ds : List Int) (F : Int → Int) (bit most : Int) (N : Int → Int) : Int → Int := (lastP N ds most).foldl (stepP (grt N ds) bit) F
def stepH (ds : List Int) (F : Int → Int) (x : Int) : Int → Int := if ds.contains x then upd F x (orI (F x) 16) else F
def bitK (k : Nat) : Int := match k with | 0 => 1 | 1 => 2 | 2 => 4 | _ => 8
def F0 : Int → Int := fun _ => 0
def upK (a b c d : Int) (ds : List Int) (k : Nat) : Int → Int := (List.range k).foldl (fun F k => stepK ds F (bitK k) (nth4 a b c d k) (numK k)) F0
def reasF (a b c d : Int) (ds hs : List Int) : Int → Int := hs.foldl (stepH ds) (upK a b c d ds 4)
theorem upK_succ (a b c d : Int) (ds : List Int) (k : Nat) : upK a b c d ds (k + 1) = stepK ds (upK a b c d ds k) (bitK k) (nth4 a b c d k) (numK k) := by
  simp [upK, List.range_succ, List.foldl_append]
theorem foldl_take {α β : Type} (f : β → α → β) (z : β) (l : List α) (j : Nat) (hj : j < l.length) : (l.take (j + 1)).foldl f z = f ((l.take j).foldl f z) l[j] := by
  rw [List.take_add_one, List.getElem?_eq_getElem hj, List.foldl_append]
  rfl
end Go.Proofs.Ytbahcpdhadhplaa.Hand
