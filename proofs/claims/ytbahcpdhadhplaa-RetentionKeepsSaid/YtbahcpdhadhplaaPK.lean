/- Which days retention.reasons keeps, in plain words: the greatest of its period, if fewer than so many periods with a snapshot are later. What retention.reasons says of a day: the sum of the kinds by which it is kept. retention.reasons and the reference's Reason say the same of a snapshot day. Which days retention.split keeps, in plain words; and what follows for greater numbers, for the kept days themselves, for the greatest day and for rules with months alone. -/
import Derived.Test.YtbahcpdhadhplaaPR
import Derived.Test.YtbahcpdhadhplaaHE
set_option linter.unusedVariables false
set_option linter.unusedSimpArgs false
namespace Go.Proofs.Ytbahcpdhadhplaa.PX
open Go.RowKit Go.Proofs.Ytbahcpdhadhplaa.Hand Go.Proofs.Ytbahcpdhadhplaa.PS Go.Proofs.Ytbahcpdhadhplaa.PB

/-! ### the last ones of a strictly ascending list -/
theorem mem_last (m : Nat) (p : Int) : ∀ P : List Int, P.Pairwise (· < ·) → p ∈ P → (p ∈ P.drop (P.length - m) ↔ (P.filter (fun z => decide (p < z))).length < m)
  | [], _, h => by simp at h
  | a :: r, hp, h => by
    obtain ⟨h1, h2⟩ := List.pairwise_cons.1 hp
    by_cases e : p = a
    · subst e
      have hf : (p :: r).filter (fun z => decide (p < z)) = r := by
        rw [List.filter_cons, if_neg (by simp)]
        exact List.filter_eq_self.2 (fun z hz => by simpa using h1 z hz)
      rw [hf]
      by_cases hm : r.length < m
      · rw [show (p :: r).length - m = 0 by simp; omega]
        simp [hm]
      · have hd : (p :: r).length - m = (r.length - m) + 1 := by simp; omega
        rw [hd, List.drop_succ_cons]
        refine ⟨fun hx => ?_, fun hx => absurd hx hm⟩
        have := h1 p (List.mem_of_mem_drop hx)
        omega
    · have hr : p ∈ r := by
        rcases List.mem_cons.1 h with h | h
        · exact absurd h e
        · exact h
      have hap := h1 p hr
      have hf : (a :: r).filter (fun z => decide (p < z)) = r.filter (fun z => decide (p < z)) := by
        rw [List.filter_cons, if_neg (by simp; omega)]
      rw [hf, ← mem_last m p r h2 hr]
      by_cases hm : r.length < m
      · rw [show (a :: r).length - m = 0 by simp; omega, show r.length - m = 0 by omega]
        simp [hr]
      · rw [show (a :: r).length - m = (r.length - m) + 1 by simp; omega, List.drop_succ_cons]

/-! ### the greatest day of a period -/
theorem grt_snoc (N : Int → Int) (ds : List Int) (d : Int) : grt N (ds ++ [d]) = upd (grt N ds) (N d) d := by simp [grt, List.foldl_append]
theorem grt_spec (N : Int → Int) (ds : List Int) : ds.Pairwise (· < ·) → ∀ x ∈ ds, grt N ds (N x) ∈ ds ∧ N (grt N ds (N x)) = N x ∧ ∀ y ∈ ds, N y = N x → y ≤ grt N ds (N x) := by
  suffices H : ∀ r : List Int, r.reverse.Pairwise (· < ·) → ∀ x ∈ r.reverse, grt N r.reverse (N x) ∈ r.reverse ∧ N (grt N r.reverse (N x)) = N x ∧ ∀ y ∈ r.reverse, N y = N x → y ≤ grt N r.reverse (N x) by
    have := H ds.reverse
    rwa [List.reverse_reverse] at this
  intro r
  induction r with
  | nil => intro _ x hx; simp at hx
  | cons d r ih =>
    intro hp x hx
    rw [List.reverse_cons] at hp hx ⊢
    obtain ⟨h1, _, h3⟩ := List.pairwise_append.1 hp
    rw [grt_snoc]
    by_cases e : N x = N d
    · rw [e, upd_same]
      refine ⟨by simp, rfl, fun y hy _ => ?_⟩
      rcases List.mem_append.1 hy with hy | hy
      · exact Int.le_of_lt (h3 y hy d (by simp))
      · rw [List.mem_singleton.1 hy]; exact Int.le_refl _
    · have hxr : x ∈ r.reverse := by
        rcases List.mem_append.1 hx with h | h
        · exact h
        · rw [List.mem_singleton.1 h] at e; exact absurd rfl e
      rw [upd_ne _ _ e]
      obtain ⟨g1, g2, g3⟩ := ih h1 x hxr
      refine ⟨List.mem_append_left _ g1, g2, fun y hy hyn => ?_⟩
      rcases List.mem_append.1 hy with hy | hy
      · exact g3 y hy hyn
      · rw [List.mem_singleton.1 hy] at hyn; exact absurd hyn.symm e

/-! ### what the reference counts -/
theorem byGo_spec (N : Int → Int) (n day : Int) : ∀ (rest later : List Int), later.Nodup → (∀ z ∈ later, N day < z) →
    ∃ L : List Int, L.Nodup ∧ (∀ z, z ∈ L ↔ z ∈ later ∨ (N day < z ∧ ∃ x ∈ rest, N x = z)) ∧ byGo N n day later rest = (if ∃ x ∈ rest, N x = N day ∧ x > day then false else decide ((L.length : Int) < n))
  | [], later, hn, hl => ⟨later, hn, fun z => by simp, by simp [byGo]⟩
  | x :: r, later, hn, hl => by
    unfold byGo
    by_cases h1 : N x = N day ∧ x > day
    · obtain ⟨L, g1, g2, g3⟩ := byGo_spec N n day r (if N day < N x ∧ N x ∉ later then later ++ [N x] else later) (by rw [if_neg (by omega)]; exact hn) (by rw [if_neg (by omega)]; exact hl)
      refine ⟨L, g1, fun z => ?_, by rw [if_pos h1, if_pos ⟨x, by simp, h1⟩]⟩
      rw [g2, if_neg (by omega)]
      constructor
      · rintro (h | ⟨h, y, hy, e⟩)
        · exact .inl h
        · exact .inr ⟨h, y, by simp [hy], e⟩
      · rintro (h | ⟨h, y, hy, e⟩)
        · exact .inl h
        · rcases List.mem_cons.1 hy with rfl | hy
          · omega
          · exact .inr ⟨h, y, hy, e⟩
    · rw [if_neg h1]
      have hex : (∃ y ∈ x :: r, N y = N day ∧ y > day) ↔ ∃ y ∈ r, N y = N day ∧ y > day := by
        constructor
        · rintro ⟨y, hy, e⟩
          rcases List.mem_cons.1 hy with rfl | hy
          · exact absurd e h1
          · exact ⟨y, hy, e⟩
        · rintro ⟨y, hy, e⟩; exact ⟨y, by simp [hy], e⟩
      by_cases h2 : N x > N day
      · rw [if_pos h2]
        cases hc : later.contains (N x)
        · have hnew : N x ∉ later := by simpa using hc
          obtain ⟨L, g1, g2, g3⟩ := byGo_spec N n day r (later ++ [N x]) (List.nodup_append.2 ⟨hn, by simp, fun a ha b hb => by rw [List.mem_singleton.1 hb]; exact fun e => hnew (e ▸ ha)⟩) (fun z hz => by
            rcases List.mem_append.1 hz with hz | hz
            · exact hl z hz
            · rw [List.mem_singleton.1 hz]; exact h2)
          refine ⟨L, g1, fun z => ?_, by rw [if_neg (by simp), g3]; simp only [hex]⟩
          rw [g2, List.mem_append, List.mem_singleton]
          constructor
          · rintro ((h | h) | ⟨h, y, hy, e⟩)
            · exact .inl h
            · exact .inr ⟨by omega, x, by simp, h.symm⟩
            · exact .inr ⟨h, y, by simp [hy], e⟩
          · rintro (h | ⟨h, y, hy, e⟩)
            · exact .inl (.inl h)
            · rcases List.mem_cons.1 hy with rfl | hy
              · exact .inl (.inr e.symm)
              · exact .inr ⟨h, y, hy, e⟩
        · have hold : N x ∈ later := by simpa using hc
          obtain ⟨L, g1, g2, g3⟩ := byGo_spec N n day r later hn hl
          refine ⟨L, g1, fun z => ?_, by rw [if_pos rfl, g3]; simp only [hex]⟩
          rw [g2]
          constructor
          · rintro (h | ⟨h, y, hy, e⟩)
            · exact .inl h
            · exact .inr ⟨h, y, by simp [hy], e⟩
          · rintro (h | ⟨h, y, hy, e⟩)
            · exact .inl h
            · rcases List.mem_cons.1 hy with rfl | hy
              · exact .inl (e ▸ hold)
              · exact .inr ⟨h, y, hy, e⟩
      · rw [if_neg h2]
        obtain ⟨L, g1, g2, g3⟩ := byGo_spec N n day r later hn hl
        refine ⟨L, g1, fun z => ?_, by rw [g3]; simp only [hex]⟩
        rw [g2]
        constructor
        · rintro (h | ⟨h, y, hy, e⟩)
          · exact .inl h
          · exact .inr ⟨h, y, by simp [hy], e⟩
        · rintro (h | ⟨h, y, hy, e⟩)
          · exact .inl h
          · rcases List.mem_cons.1 hy with rfl | hy
            · omega
            · exact .inr ⟨h, y, hy, e⟩
end Go.Proofs.Ytbahcpdhadhplaa.PX

set_option linter.unusedVariables false
set_option linter.unusedSimpArgs false
namespace Go.Proofs.Ytbahcpdhadhplaa.PX
open Go.RowKit Go.Proofs.Ytbahcpdhadhplaa.Hand Go.Proofs.Ytbahcpdhadhplaa.PS Go.Proofs.Ytbahcpdhadhplaa.PB

/-- Of the periods L, each at another day, the one at x turns x's sum. -/
theorem fold_at (g : Int → Int) (bit x : Int) : ∀ (L : List Int) (F : Int → Int), (L.map g).Nodup → L.foldl (stepP g bit) F x = if x ∈ L.map g then orI (F x) bit else F x
  | [], F, _ => by simp
  | p :: r, F, h => by
    rw [List.map_cons] at h
    obtain ⟨h1, h2⟩ := List.nodup_cons.1 h
    rw [List.foldl_cons, fold_at g bit x r _ h2]
    by_cases e : x = g p
    · have hx : x ∉ r.map g := by rw [e]; exact h1
      rw [if_neg hx, if_pos (by rw [List.map_cons, e]; simp), stepP, e, upd_same]
    · have hs : stepP g bit F p x = F x := upd_ne _ _ e
      rw [hs]
      have : x ∈ (p :: r).map g ↔ x ∈ r.map g := by rw [List.map_cons, List.mem_cons]; simp [e]
      simp only [this]
theorem periods_mem (N : Int → Int) (ds : List Int) (z : Int) : z ∈ periods N ds ↔ ∃ d ∈ ds, N d = z := by
  unfold periods
  rw [setL_mem, List.mem_map]
theorem periods_lt (N : Int → Int) (ds : List Int) : (periods N ds).Pairwise (· < ·) := setL_lt _
theorem grt_inj {N : Int → Int} {ds : List Int} (hd : ds.Pairwise (· < ·)) {L : List Int} (hL : ∀ p ∈ L, p ∈ periods N ds) (hn : L.Nodup) : (L.map (grt N ds)).Nodup := by
  refine List.pairwise_map.2 (hn.imp_of_mem fun {p q} hp hq hne e => hne ?_)
  have sp : ∀ p ∈ L, N (grt N ds p) = p := fun p hp => by
    have := hL p hp
    rw [periods_mem] at this
    obtain ⟨d, hd1, rfl⟩ := this
    exact (grt_spec N ds hd d hd1).2.1
  rw [← sp p hp, ← sp q hq, e]
/-- x is kept by this kind of periods. -/
def keptBy (N : Int → Int) (ds : List Int) (most x : Int) : Prop := N x ∈ lastP N ds most ∧ grt N ds (N x) = x
theorem stepK_at {N : Int → Int} {ds : List Int} (hd : ds.Pairwise (· < ·)) (F : Int → Int) (bit most x : Int) (hx : x ∈ ds) [Decidable (keptBy N ds most x)] : stepK ds F bit most N x = if keptBy N ds most x then orI (F x) bit else F x := by
  have hsub : ∀ p ∈ lastP N ds most, p ∈ periods N ds := fun p hp => List.mem_of_mem_drop hp
  have hn : (lastP N ds most).Nodup := (lt_nodup (periods_lt N ds)).sublist (List.drop_sublist _ _)
  rw [stepK, fold_at _ _ _ _ _ (grt_inj hd hsub hn)]
  have hiff : x ∈ (lastP N ds most).map (grt N ds) ↔ keptBy N ds most x := by
    rw [List.mem_map]
    constructor
    · rintro ⟨p, hp, e⟩
      have hq := hsub p hp
      rw [periods_mem] at hq
      obtain ⟨d, hd1, rfl⟩ := hq
      have h2 := (grt_spec N ds hd d hd1).2.1
      rw [e] at h2
      exact ⟨h2 ▸ hp, h2 ▸ e⟩
    · rintro ⟨h1, h2⟩
      exact ⟨_, h1, h2⟩
  by_cases hk : keptBy N ds most x
  · rw [if_pos (hiff.2 hk), if_pos hk]
  · rw [if_neg (fun h => hk (hiff.1 h)), if_neg hk]
/-- .. just if the reference says so. -/
theorem kept_by {N : Int → Int} {ds l : List Int} (hd : ds.Pairwise (· < ·)) (hm : ∀ z, z ∈ ds ↔ z ∈ l) (most x : Int) (hx : x ∈ ds) (h0 : 0 ≤ most) : keptBy N ds most x ↔ byGo N most x [] l = true := by
  obtain ⟨L, g1, g2, g3⟩ := byGo_spec N most x l [] List.nodup_nil (by simp)
  have hp : N x ∈ periods N ds := (periods_mem _ _ _).2 ⟨x, hx, rfl⟩
  have hlen : ((periods N ds).filter (fun z => decide (N x < z))).length = L.length := by
    refine List.Perm.length_eq ((List.perm_ext_iff_of_nodup ((lt_nodup (periods_lt N ds)).filter _) g1).2 fun z => ?_)
    rw [g2, List.mem_filter, periods_mem]
    simp only [decide_eq_true_eq, List.not_mem_nil, false_or]
    constructor
    · rintro ⟨⟨d, hd1, rfl⟩, h⟩; exact ⟨h, d, (hm d).1 hd1, rfl⟩
    · rintro ⟨h, d, hd1, rfl⟩; exact ⟨⟨d, (hm d).2 hd1, rfl⟩, h⟩
  obtain ⟨s1, s2, s3⟩ := grt_spec N ds hd x hx
  have hgr : grt N ds (N x) = x ↔ ¬ ∃ y ∈ l, N y = N x ∧ y > x := by
    constructor
    · rintro e ⟨y, hy, e1, e2⟩
      have := s3 y ((hm y).2 hy) e1
      omega
    · intro h
      have h1 := s3 x hx rfl
      rcases (by omega : x < grt N ds (N x) ∨ grt N ds (N x) ≤ x) with h2 | h2
      · exact absurd ⟨_, (hm _).1 s1, s2, h2⟩ h
      · omega
  have hlast : N x ∈ lastP N ds most ↔ (L.length : Int) < most := by
    rw [lastP, mem_last _ _ _ (periods_lt N ds) hp, hlen]
    omega
  rw [keptBy, hlast, hgr, g3]
  by_cases he : ∃ y ∈ l, N y = N x ∧ y > x
  · rw [if_pos he]; simp [he]
  · rw [if_neg he]; simp [he]
end Go.Proofs.Ytbahcpdhadhplaa.PX

set_option linter.unusedVariables false
set_option linter.unusedSimpArgs false
namespace Go.Proofs.Ytbahcpdhadhplaa.PX
open Go.RowKit Go.Proofs.Ytbahcpdhadhplaa.Hand Go.Proofs.Ytbahcpdhadhplaa.PS Go.Proofs.Ytbahcpdhadhplaa.PB

theorem or1 : orI 0 1 = 1 := by decide +kernel
theorem or2 (v : Int) (h : 0 ≤ v) (h1 : v < 2) : orI v 2 = v + 2 := by
  obtain rfl | rfl : v = 0 ∨ v = 1 := by omega
  all_goals decide +kernel
theorem or4 (v : Int) (h : 0 ≤ v) (h1 : v < 4) : orI v 4 = v + 4 := by
  obtain rfl | rfl | rfl | rfl : v = 0 ∨ v = 1 ∨ v = 2 ∨ v = 3 := by omega
  all_goals decide +kernel
theorem or8 (v : Int) (h : 0 ≤ v) (h1 : v < 8) : orI v 8 = v + 8 := by
  obtain rfl | rfl | rfl | rfl | rfl | rfl | rfl | rfl : v = 0 ∨ v = 1 ∨ v = 2 ∨ v = 3 ∨ v = 4 ∨ v = 5 ∨ v = 6 ∨ v = 7 := by omega
  all_goals decide +kernel
theorem or16 (v : Int) (h : 0 ≤ v) (h1 : v < 16) : orI v 16 = v + 16 ∧ orI (v + 16) 16 = v + 16 := by
  obtain rfl | rfl | rfl | rfl | rfl | rfl | rfl | rfl | rfl | rfl | rfl | rfl | rfl | rfl | rfl | rfl : v = 0 ∨ v = 1 ∨ v = 2 ∨ v = 3 ∨ v = 4 ∨ v = 5 ∨ v = 6 ∨ v = 7 ∨ v = 8 ∨ v = 9 ∨ v = 10 ∨ v = 11 ∨ v = 12 ∨ v = 13 ∨ v = 14 ∨ v = 15 := by omega
  all_goals decide +kernel
def topK (k : Nat) : Int := match k with | 0 => 1 | 1 => 2 | 2 => 4 | 3 => 8 | _ => 16
theorem or_bit (k : Nat) (hk : k < 4) (v : Int) (h : 0 ≤ v) (h1 : v < topK k) : orI v (bitK k) = v + bitK k ∧ v + bitK k < topK (k + 1) := by
  match k, hk with
  | 0, _ => simp only [topK] at h1; obtain rfl : v = 0 := by omega
            exact ⟨or1, by simp [topK, bitK]⟩
  | 1, _ => simp only [topK] at h1; exact ⟨or2 v h h1, by simp [topK, bitK]; omega⟩
  | 2, _ => simp only [topK] at h1; exact ⟨or4 v h h1, by simp [topK, bitK]; omega⟩
  | 3, _ => simp only [topK] at h1; exact ⟨or8 v h h1, by simp [topK, bitK]; omega⟩
theorem top_le (k : Nat) (hk : k < 4) : topK k ≤ topK (k + 1) := by
  match k, hk with
  | 0, _ => decide
  | 1, _ => decide
  | 2, _ => decide
  | 3, _ => decide
theorem upK_at {a b c d : Int} (hv : validB a b c d = true) {ds l : List Int} (hd : ds.Pairwise (· < ·)) (hm : ∀ z, z ∈ ds ↔ z ∈ l) (x : Int) (hx : x ∈ ds) : ∀ k, k ≤ 4 → upK a b c d ds k x = refK a b c d l x k ∧ 0 ≤ refK a b c d l x k ∧ refK a b c d l x k < topK k
  | 0, _ => ⟨rfl, by simp [refK], by simp [refK, topK]⟩
  | k + 1, hk => by
    obtain ⟨i1, i2, i3⟩ := upK_at hv hd hm x hx k (by omega)
    have h0 := (valid_nth hv k).1
    have hkb := kept_by (N := numK k) hd hm (nth4 a b c d k) x hx h0
    have ho := or_bit k (by omega) _ i2 i3
    have hb : 0 ≤ bitK k := by unfold bitK; split <;> omega
    have ht := top_le k (by omega)
    classical
    rw [upK_succ, stepK_at hd _ _ _ _ hx, i1, refK]
    by_cases h : byK a b c d l x k = true
    · rw [if_pos (hkb.2 h), if_pos h]
      exact ⟨ho.1, by omega, ho.2⟩
    · rw [if_neg (fun h2 => h (hkb.1 h2)), if_neg h]
      exact ⟨by omega, by omega, by omega⟩
theorem holds_at {ds : List Int} (x : Int) (hx : ds.contains x = true) : ∀ (hs : List Int) (F : Int → Int), orI (orI (F x) 16) 16 = orI (F x) 16 → hs.foldl (stepH ds) F x = if hs.contains x = true then orI (F x) 16 else F x
  | [], F, _ => by simp
  | y :: r, F, hi => by
    rw [List.foldl_cons]
    by_cases e : y = x
    · subst e
      have hs : stepH ds F y y = orI (F y) 16 := by rw [stepH, hx, if_pos rfl, upd_same]
      rw [holds_at y hx r _ (by rw [hs, hi, hi]), hs]
      by_cases h : r.contains y = true
      · rw [if_pos h, if_pos (by simp), hi]
      · rw [if_neg h, if_pos (by simp)]
    · have hs : stepH ds F y x = F x := by
        rw [stepH]
        split
        · exact upd_ne _ _ (fun h => e h.symm)
        · rfl
      rw [holds_at x hx r _ (by rw [hs]; exact hi), hs]
      have : (y :: r).contains x = r.contains x := by rw [List.contains_cons, show (x == y) = false by simpa using fun h => e h.symm, Bool.false_or]
      rw [this]
/-- The two say the same. -/
theorem reasF_refR {a b c d : Int} (hv : validB a b c d = true) {ds l : List Int} (hd : ds.Pairwise (· < ·)) (hm : ∀ z, z ∈ ds ↔ z ∈ l) (hs : List Int) (x : Int) (hx : x ∈ ds) : reasF a b c d ds hs x = refR a b c d l hs x := by
  obtain ⟨i1, i2, i3⟩ := upK_at hv hd hm x hx 4 (Nat.le_refl _)
  obtain ⟨o1, o2⟩ := or16 _ i2 i3
  rw [reasF, holds_at x (by simpa using hx) hs _ (by rw [i1, o1, o2]), i1, refR]
  split
  · exact o1
  · omega
end Go.Proofs.Ytbahcpdhadhplaa.PX

set_option linter.unusedVariables false
set_option linter.unusedSimpArgs false
namespace Go.Proofs.Ytbahcpdhadhplaa.PX
open Go.RowKit Go.Proofs.Ytbahcpdhadhplaa.Hand Go.Proofs.Ytbahcpdhadhplaa.PS Go.Proofs.Ytbahcpdhadhplaa.PB

theorem nodup_len : ∀ (A B : List Int), A.Nodup → (∀ z ∈ A, z ∈ B) → A.length ≤ B.length
  | [], _, _, _ => by simp
  | a :: r, B, hn, hs => by
    obtain ⟨h1, h2⟩ := List.nodup_cons.1 hn
    have ha : a ∈ B := hs a (by simp)
    have h3 := nodup_len r (B.erase a) h2 (fun z hz => (List.mem_erase_of_ne (by rintro rfl; exact h1 hz)).2 (hs z (by simp [hz])))
    rw [List.length_erase_of_mem ha] at h3
    have : 0 < B.length := List.length_pos_of_mem ha
    simp; omega

/-- x is kept: by some kind of periods, or by a hold. -/
def keptR (a b c d : Int) (l hs : List Int) (x : Int) : Prop := (∃ k, k < 4 ∧ byK a b c d l x k = true) ∨ x ∈ hs
theorem bitK_pos (k : Nat) : 0 < bitK k := by unfold bitK; split <;> omega
theorem refK_ne (a b c d : Int) (l : List Int) (x : Int) : ∀ n, refK a b c d l x n ≠ 0 ↔ ∃ k, k < n ∧ byK a b c d l x k = true
  | 0 => by simp [refK]
  | n + 1 => by
    have h0 := (refK_bd a b c d l x n).1
    have hp := bitK_pos n
    have ih := refK_ne a b c d l x n
    rw [refK]
    by_cases h : byK a b c d l x n = true
    · rw [if_pos h]
      exact ⟨fun _ => ⟨n, by omega, h⟩, fun _ => by omega⟩
    · rw [if_neg h, Int.add_zero, ih]
      constructor
      · rintro ⟨k, hk, hb⟩; exact ⟨k, by omega, hb⟩
      · rintro ⟨k, hk, hb⟩
        refine ⟨k, ?_, hb⟩
        rcases (by omega : k < n ∨ k = n) with h1 | rfl
        · exact h1
        · exact absurd hb h
theorem refR_ne (a b c d : Int) (l hs : List Int) (x : Int) : refR a b c d l hs x ≠ 0 ↔ keptR a b c d l hs x := by
  have h0 := (refK_bd a b c d l x 4).1
  have h1 := refK_ne a b c d l x 4
  unfold refR keptR
  rw [← h1]
  by_cases h : hs.contains x = true
  · rw [if_pos h]
    have : x ∈ hs := by simpa using h
    exact ⟨fun _ => .inr this, fun _ => by omega⟩
  · rw [if_neg h]
    have : x ∉ hs := by simpa using h
    simp [this]
theorem by_spec (N : Int → Int) (n x : Int) (l : List Int) : ∃ L : List Int, L.Nodup ∧ (∀ z, z ∈ L ↔ N x < z ∧ ∃ y ∈ l, N y = z) ∧ (byGo N n x [] l = true ↔ (¬ ∃ y ∈ l, N y = N x ∧ y > x) ∧ (L.length : Int) < n) := by
  obtain ⟨L, g1, g2, g3⟩ := byGo_spec N n x l [] List.nodup_nil (by simp)
  refine ⟨L, g1, fun z => by rw [g2]; simp, ?_⟩
  rw [g3]
  by_cases h : ∃ y ∈ l, N y = N x ∧ y > x
  · rw [if_pos h]; simp [h]
  · rw [if_neg h]; simp [h]
theorem by_mono {N : Int → Int} {n n' x : Int} {l l' : List Int} (hl : ∀ y ∈ l', y ∈ l) (hn : n ≤ n') (h : byGo N n x [] l = true) : byGo N n' x [] l' = true := by
  obtain ⟨L, g1, g2, g3⟩ := by_spec N n x l
  obtain ⟨L', g1', g2', g3'⟩ := by_spec N n' x l'
  obtain ⟨h1, h2⟩ := g3.1 h
  refine g3'.2 ⟨fun ⟨y, hy, e⟩ => h1 ⟨y, hl y hy, e⟩, ?_⟩
  have := nodup_len L' L g1' (fun z hz => by
    obtain ⟨e, y, hy, rfl⟩ := (g2' z).1 hz
    exact (g2 _).2 ⟨e, y, hl y hy, rfl⟩)
  omega
theorem kept_mono {a b c d a' b' c' d' : Int} {l l' hs hs' : List Int} (hn : a ≤ a' ∧ b ≤ b' ∧ c ≤ c' ∧ d ≤ d') (hl : ∀ y ∈ l', y ∈ l) (hh : ∀ y ∈ hs, y ∈ hs') {x : Int} (h : keptR a b c d l hs x) : keptR a' b' c' d' l' hs' x := by
  rcases h with ⟨k, hk, h⟩ | h
  · refine .inl ⟨k, hk, by_mono hl ?_ h⟩
    unfold nth4
    split <;> omega
  · exact .inr (hh x h)

/-! ### what split returns -/
theorem split_mem {a b c d : Int} {l hs : List Int} (h : chk a b c d l hs = 0) (x : Int) : x ∈ splitF a b c d l hs true ↔ x ∈ l ∧ keptR a b c d l hs x := by
  rw [splitF, if_pos h, List.mem_filter, setL_mem]
  refine and_congr_right fun hx => ?_
  rw [keepQ, reasF_refR (chk_ok h).1 (setL_lt l) (fun z => setL_mem z l) hs x ((setL_mem x l).2 hx), ← refR_ne]
  simp
theorem split_drop {a b c d : Int} {l hs : List Int} (h : chk a b c d l hs = 0) (x : Int) : x ∈ splitF a b c d l hs false ↔ x ∈ l ∧ ¬ keptR a b c d l hs x := by
  rw [splitF, if_pos h, List.mem_filter, setL_mem]
  refine and_congr_right fun hx => ?_
  rw [keepQ, reasF_refR (chk_ok h).1 (setL_lt l) (fun z => setL_mem z l) hs x ((setL_mem x l).2 hx), ← refR_ne]
  simp
theorem split_lt (a b c d : Int) (l hs : List Int) (kept : Bool) : (splitF a b c d l hs kept).Pairwise (· < ·) := by
  unfold splitF
  split
  · exact (setL_lt l).filter _
  · exact List.Pairwise.nil
theorem split_no {a b c d : Int} {l hs : List Int} (h : chk a b c d l hs ≠ 0) (kept : Bool) : splitF a b c d l hs kept = [] := by rw [splitF, if_neg h]
theorem split_len (a b c d : Int) (l hs : List Int) (kept : Bool) : (splitF a b c d l hs kept).length ≤ l.length := by
  unfold splitF
  split
  · exact Nat.le_trans (List.length_filter_le _ _) (setL_len_le l)
  · simp
theorem chk_of {a b c d : Int} {l hs : List Int} (h : validB a b c d = true) (h1 : ∀ x ∈ l, dayB x = true) (h2 : ∀ x ∈ hs, dayB x = true) : chk a b c d l hs = 0 := by
  unfold chk
  rw [if_pos]
  rw [h, List.all_eq_true.2 h1, List.all_eq_true.2 h2]; rfl
theorem chk_days {a b c d : Int} {l hs : List Int} (h : chk a b c d l hs = 0) {x : Int} (hx : x ∈ l) : 0 ≤ x ∧ x ≤ 999999 := by
  have := List.all_eq_true.1 (chk_ok h).2.1 x hx
  simpa [dayB] using this
/-! ### keeping the kept days again -/
theorem again_chk {a b c d : Int} {l hs : List Int} (h : chk a b c d l hs = 0) : chk a b c d (splitF a b c d l hs true) hs = 0 :=
  chk_of (chk_ok h).1 (fun x hx => List.all_eq_true.1 (chk_ok h).2.1 x ((split_mem h x).1 hx).1) (List.all_eq_true.1 (chk_ok h).2.2)
theorem again_keep {a b c d : Int} {l hs : List Int} (h : chk a b c d l hs = 0) : splitF a b c d (splitF a b c d l hs true) hs true = splitF a b c d l hs true := by
  refine lt_unique (split_lt _ _ _ _ _ _ _) (split_lt _ _ _ _ _ _ _) fun x => ?_
  rw [split_mem (again_chk h)]
  refine ⟨fun hx => hx.1, fun hx => ⟨hx, ?_⟩⟩
  exact kept_mono ⟨by omega, by omega, by omega, by omega⟩ (fun y hy => ((split_mem h y).1 hy).1) (fun y hy => hy) ((split_mem h x).1 hx).2
theorem again_drop {a b c d : Int} {l hs : List Int} (h : chk a b c d l hs = 0) : splitF a b c d (splitF a b c d l hs true) hs false = [] := by
  refine List.eq_nil_iff_forall_not_mem.2 fun x hx => ?_
  rw [split_drop (again_chk h)] at hx
  exact hx.2 (kept_mono ⟨by omega, by omega, by omega, by omega⟩ (fun y hy => ((split_mem h y).1 hy).1) (fun y hy => hy) ((split_mem h x).1 hx.1).2)

/-! ### the numbers grow with the days -/
theorem yearN_mono {x y : Int} (h0 : 0 ≤ x) (h : x ≤ y) : yearN x ≤ yearN y := by
  obtain ⟨a1, a2, a3⟩ := yearN_spec x h0
  obtain ⟨b1, b2, b3⟩ := yearN_spec y (by omega)
  rcases (by omega : yearN x ≤ yearN y ∨ yearN y + 1 ≤ yearN x) with h1 | h1
  · exact h1
  · have := C_le (yearN y + 1) (yearN x) (by omega) h1
    omega
theorem monthN_mono {x y : Int} (h0 : 0 ≤ x) (h : x ≤ y) : monthN x ≤ monthN y := by
  have hy := yearN_mono h0 h
  have h1 := isDate_N x h0
  have h2 := isDate_N y (by omega)
  have m1 := h1.m1
  have m0 := h2.m0
  unfold monthN
  rcases (by omega : yearN x < yearN y ∨ yearN x = yearN y) with e | e
  · omega
  · rcases (by omega : moN x ≤ moN y ∨ moN y + 1 ≤ moN x) with h3 | h3
    · omega
    · have hm := M_le (2000 + yearN y) (moN y + 1) (moN x) (by omega) h3 (by omega)
      have hs := M_succ (2000 + yearN y) (moN y) m0 h2.m1
      have e1 := h1.e
      have e2 := h2.e
      have d1 := h1.d0
      have d2 := h2.d1
      rw [e] at e1 d1
      omega
theorem numK_mono (k : Nat) {x y : Int} (h0 : 0 ≤ x) (h : x ≤ y) : numK k x ≤ numK k y := by
  unfold numK
  split
  · exact h
  · unfold weekN; omega
  · exact monthN_mono h0 h
  · exact yearN_mono h0 h
/-- The greatest day is kept by each kind that may keep one. -/
theorem great_kept {a b c d : Int} {l hs : List Int} (h : chk a b c d l hs = 0) {x : Int} (hx : x ∈ l) (hg : ∀ y ∈ l, y ≤ x) (hn : a + b + c + d ≠ 0) : keptR a b c d l hs x := by
  have v0 := (valid_nth (chk_ok h).1 0).1
  have v1 := (valid_nth (chk_ok h).1 1).1
  have v2 := (valid_nth (chk_ok h).1 2).1
  have v3 := (valid_nth (chk_ok h).1 3).1
  have hk : ∃ k, k < 4 ∧ 0 < nth4 a b c d k := by
    simp only [nth4] at v0 v1 v2 v3
    rcases (by omega : 0 < a ∨ 0 < b ∨ 0 < c ∨ 0 < d) with h | h | h | h
    · exact ⟨0, by omega, h⟩
    · exact ⟨1, by omega, h⟩
    · exact ⟨2, by omega, h⟩
    · exact ⟨3, by omega, h⟩
  obtain ⟨k, hk, hp⟩ := hk
  refine .inl ⟨k, hk, ?_⟩
  obtain ⟨L, g1, g2, g3⟩ := by_spec (numK k) (nth4 a b c d k) x l
  refine g3.2 ⟨fun ⟨y, hy, _, e⟩ => by have := hg y hy; omega, ?_⟩
  have : L = [] := List.eq_nil_iff_forall_not_mem.2 fun z hz => by
    obtain ⟨e, y, hy, rfl⟩ := (g2 z).1 hz
    have := numK_mono k (chk_days h hy).1 (hg y hy)
    omega
  rw [this]; simpa using hp

/-! ### rules with months alone -/
theorem months_kept (m : Int) (l : List Int) (x : Int) : keptR 0 0 m 0 l [] x ↔ byGo monthN m x [] l = true := by
  have hz : ∀ N : Int → Int, ¬ byGo N 0 x [] l = true := fun N h => by
    obtain ⟨L, g1, g2, g3⟩ := by_spec N 0 x l
    have := (g3.1 h).2
    omega
  unfold keptR
  constructor
  · rintro (⟨k, hk, h⟩ | h)
    · match k, hk with
      | 0, _ => exact absurd h (hz _)
      | 1, _ => exact absurd h (hz _)
      | 2, _ => exact h
      | 3, _ => exact absurd h (hz _)
    · simp at h
  · exact fun h => .inl ⟨2, by omega, h⟩
theorem months_lt {m : Int} {l : List Int} (h : chk 0 0 m 0 l [] = 0) : ((splitF 0 0 m 0 l [] true).map monthN).Pairwise (· < ·) := by
  refine List.pairwise_map.2 ((split_lt 0 0 m 0 l [] true).imp_of_mem fun {x y} hx hy hlt => ?_)
  obtain ⟨x1, x2⟩ := (split_mem h x).1 hx
  obtain ⟨y1, y2⟩ := (split_mem h y).1 hy
  have hm := monthN_mono (chk_days h x1).1 (Int.le_of_lt hlt)
  rw [months_kept] at x2
  obtain ⟨L, g1, g2, g3⟩ := by_spec monthN m x l
  have := (g3.1 x2).1
  rcases (by omega : monthN x < monthN y ∨ monthN x = monthN y) with e | e
  · exact e
  · exact absurd ⟨y, y1, e.symm, hlt⟩ this
theorem months_few {m : Int} {l : List Int} (h : chk 0 0 m 0 l [] = 0) : ((splitF 0 0 m 0 l [] true).length : Int) ≤ m := by
  have hp := months_lt h
  have hm0 : 0 ≤ m := (valid_nth (chk_ok h).1 2).1
  cases hk : splitF 0 0 m 0 l [] true with
  | nil => simpa using hm0
  | cons x r =>
    rw [hk] at hp
    obtain ⟨p1, p2⟩ := List.pairwise_cons.1 (by simpa only [List.map_cons] using hp)
    obtain ⟨x1, x2⟩ := (split_mem h x).1 (by rw [hk]; simp)
    rw [months_kept] at x2
    obtain ⟨L, g1, g2, g3⟩ := by_spec monthN m x l
    have h1 := (g3.1 x2).2
    have h2 := nodup_len (r.map monthN) L (lt_nodup p2) (fun z hz => by
      obtain ⟨y, hy, rfl⟩ := List.mem_map.1 hz
      exact (g2 _).2 ⟨p1 _ hz, y, ((split_mem h y).1 (by rw [hk]; simp [hy])).1, rfl⟩)
    rw [List.length_map] at h2
    rw [List.length_cons]
    push_cast
    omega
theorem months_near {m : Int} {l : List Int} (h : chk 0 0 m 0 l [] = 0) {x y : Int} (hx : x ∈ splitF 0 0 m 0 l [] true) (hy : y ∈ l) (hn : ¬ monthN y < monthN x) : ∃ g ∈ splitF 0 0 m 0 l [] true, monthN g = monthN y ∧ y ≤ g := by
  obtain ⟨s1, s2, s3⟩ := grt_spec monthN (setL l) (setL_lt l) y ((setL_mem y l).2 hy)
  refine ⟨grt monthN (setL l) (monthN y), (split_mem h _).2 ⟨(setL_mem _ _).1 s1, ?_⟩, s2, s3 y ((setL_mem y l).2 hy) rfl⟩
  obtain ⟨x1, x2⟩ := (split_mem h x).1 hx
  rw [months_kept] at x2 ⊢
  obtain ⟨L, g1, g2, g3⟩ := by_spec monthN m x l
  obtain ⟨L', g1', g2', g3'⟩ := by_spec monthN m (grt monthN (setL l) (monthN y)) l
  have h2 := (g3.1 x2).2
  refine g3'.2 ⟨fun ⟨z, hz, e, hlt⟩ => ?_, ?_⟩
  · have := s3 z ((setL_mem z l).2 hz) (e.trans s2)
    omega
  · have := nodup_len L' L g1' (fun z hz => by
      obtain ⟨e, w, hw, rfl⟩ := (g2' z).1 hz
      exact (g2 _).2 ⟨by rw [s2] at e; omega, w, hw, rfl⟩)
    omega
end Go.Proofs.Ytbahcpdhadhplaa.PX
