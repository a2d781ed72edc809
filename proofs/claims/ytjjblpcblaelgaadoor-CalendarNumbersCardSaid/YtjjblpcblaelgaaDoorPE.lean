/- Plain laws of the calendar, fourth part: Text and Parse; the examples that every statement asks first. -/
import Derived.Test.YtjjblpcblaelgaaDoorPD
import Derived.Test.YtjjblpcblaelgaaDoorQ5
import Derived.Test.YtjjblpcblaelgaaDoorQ17
set_option linter.unusedVariables false
set_option linter.unusedSimpArgs false
namespace Go.Proofs.YtjjblpcblaelgaaDoor.PB
open Go.RowKit Go.Proofs.YtjjblpcblaelgaaDoor.Q Go.Proofs.YtjjblpcblaelgaaDoor.Hand Go.Proofs.YtjjblpcblaelgaaDoorW.PrintWords Go.Proofs.YtjjblpcblaelgaaDoorW.PrintMore

/-- A digit's letter. -/
def dg (x : Nat) : UInt8 := UInt8.ofNat (48 + x)
theorem dg_nat {x : Nat} (h : x < 10) : (dg x).toNat = 48 + x := by
  unfold dg
  rw [UInt8.toNat_ofNat_of_lt' (by show 48 + x < 256; omega)]
def D4 (u : Nat) : ByteArray := ⟨#[dg (u / 1000), dg (u / 100 % 10), dg (u / 10 % 10), dg (u % 10)]⟩
def D2 (u : Nat) : ByteArray := ⟨#[dg (u / 10), dg (u % 10)]⟩
theorem dec4 (u : Nat) (h1 : 1000 ≤ u) (h2 : u < 10000) : Lib.decDigits u = [dg (u / 1000), dg (u / 100 % 10), dg (u / 10 % 10), dg (u % 10)] := by
  rw [Lib.decDigits, dif_neg (by omega), Lib.decDigits, dif_neg (by omega), Lib.decDigits, dif_neg (by omega), Lib.decDigits, dif_pos (by omega)]
  rw [show u / 10 / 10 / 10 = u / 1000 from by omega, show u / 10 / 10 % 10 = u / 100 % 10 from by omega]
  rfl
theorem dec2 (u : Nat) (h1 : 10 ≤ u) (h2 : u < 100) : Lib.decDigits u = [dg (u / 10), dg (u % 10)] := by
  rw [Lib.decDigits, dif_neg (by omega), Lib.decDigits, dif_pos (by omega)]
  rfl
theorem dec1 (u : Nat) (h2 : u < 10) : Lib.decDigits u = [dg u] := by
  rw [Lib.decDigits, dif_pos (by omega)]
  rfl
theorem itoa_nat (u : Nat) : Lib.itoa (u : Int) = Lib.decDigits u := by
  unfold Lib.itoa
  rw [if_neg (by omega)]
  rfl
theorem Itoa_nat (u : Nat) (h : u < 10000) : strconv_Itoa.f (u : Int) = some ⟨(Lib.decDigits u).toArray⟩ := by
  unfold strconv_Itoa.f
  rw [if_pos (by omega), itoa_nat]
theorem digits4 (u : Nat) (h1 : 1000 ≤ u) (h2 : u < 10000) : Ev (fun k => calendar_digits.f k (u : Int) 4) (D4 u) := by
  unfold calendar_digits.f
  refine Ev.const (Itoa_nat u h2) ?_
  rw [dec4 u h1 h2]
  refine Ev.step (fun k => calendar_digits.l0.eq_2 _ _ _) ?_
  exact Ev.neg (by show ¬ (4 : Int) < 4; decide) (Ev.now _)
theorem digits2 (u : Nat) (h2 : u < 100) : Ev (fun k => calendar_digits.f k (u : Int) 2) (D2 u) := by
  unfold calendar_digits.f
  refine Ev.const (Itoa_nat u (by omega)) ?_
  by_cases h : u < 10
  · rw [dec1 u h]
    refine Ev.step (fun k => calendar_digits.l0.eq_2 _ _ _) ?_
    refine Ev.pos (by show (1 : Int) < 2; decide) ?_
    refine Ev.pos (by show 1 + 1 ≤ 9223372036854775807; decide) ?_
    have e : (⟨#[48]⟩ : ByteArray) ++ ⟨[dg u].toArray⟩ = D2 u := by
      unfold D2
      rw [show u / 10 = 0 from by omega, show u % 10 = u from by omega]
      rfl
    rw [e]
    refine Ev.step (fun k => calendar_digits.l0.eq_2 _ _ _) ?_
    exact Ev.neg (by show ¬ (2 : Int) < 2; decide) (Ev.now _)
  · rw [dec2 u (by omega) h2]
    refine Ev.step (fun k => calendar_digits.l0.eq_2 _ _ _) ?_
    exact Ev.neg (by show ¬ (2 : Int) < 2; decide) (Ev.now _)

theorem last_digit (u : Nat) : strOfNums [wrap64 (48 + Int.tmod (u : Int) 10) % 256] = ⟨#[dg (u % 10)]⟩ := by
  rw [Int.tmod_eq_emod_of_nonneg (by omega), w64 (by omega) (by omega)]
  have e : ((48 + (u : Int) % 10) % 256).toNat = 48 + u % 10 := by omega
  simp [strOfNums, e, dg]
theorem div10 (u : Nat) (h : u < 10000) : wrap64 (Int.tdiv (u : Int) 10) = ((u / 10 : Nat) : Int) := by
  rw [Int.tdiv_eq_ediv_of_nonneg (by omega), w64 (by omega) (by omega)]
  omega
/-- One round of the specification's digits. -/
theorem rdigits_round (u : Nat) (h : u < 10000) (least i : Int) (hi : 0 ≤ i) (hi2 : i < 100) (s : ByteArray) (hs : s.size < 100) (r : ByteArray) (hc : i < least ∨ 0 < u)
    (k : Ev (fun k => kinkeepref21_digits.l0 k ((u / 10 : Nat) : Int) least ((⟨#[dg (u % 10)]⟩ : ByteArray) ++ s) (i + 1)) r) :
    Ev (fun k => kinkeepref21_digits.l0 k (u : Int) least s i) r := by
  refine Ev.step (fun k => kinkeepref21_digits.l0.eq_2 _ _ _ _ _) ?_
  have hsz : (strOfNums [wrap64 (48 + Int.tmod (u : Int) 10) % 256]).size + s.size ≤ 9223372036854775807 := by
    rw [last_digit]
    show 1 + s.size ≤ _
    omega
  have e : (i + 1) = wrap64 (i + 1) := (w64 (by omega) (by omega)).symm
  rw [e, ← last_digit, ← div10 u h] at k
  by_cases hl : i < least
  · refine Ev.pos hl ?_
    exact Ev.const rfl (Ev.pos hsz k)
  · refine Ev.neg hl (Ev.pos (by omega) ?_)
    exact Ev.const rfl (Ev.pos hsz k)
theorem rdigits_end (least i : Int) (s : ByteArray) (h : ¬ i < least) : Ev (fun k => kinkeepref21_digits.l0 k ((0 : Nat) : Int) least s i) s := by
  refine Ev.step (fun k => kinkeepref21_digits.l0.eq_2 _ _ _ _ _) ?_
  exact Ev.neg h (Ev.neg (by decide) (Ev.now _))
theorem rdigits4 (u : Nat) (h1 : 1000 ≤ u) (h2 : u < 10000) : Ev (fun k => kinkeepref21_digits.f k (u : Int) 4) (D4 u) := by
  unfold kinkeepref21_digits.f
  refine rdigits_round u h2 4 0 (by decide) (by decide) _ (by decide) _ (.inl (by decide)) ?_
  refine rdigits_round (u / 10) (by omega) 4 1 (by decide) (by decide) _ (by show 1 < 100; decide) _ (.inl (by decide)) ?_
  refine rdigits_round (u / 10 / 10) (by omega) 4 2 (by decide) (by decide) _ (by show 2 < 100; decide) _ (.inl (by decide)) ?_
  refine rdigits_round (u / 10 / 10 / 10) (by omega) 4 3 (by decide) (by decide) _ (by show 3 < 100; decide) _ (.inl (by decide)) ?_
  have e : u / 10 / 10 / 10 / 10 = 0 := by omega
  rw [e]
  refine Ev.to (rdigits_end 4 (3 + 1) _ (by decide)) ?_
  unfold D4
  rw [show u / 10 / 10 / 10 % 10 = u / 1000 from by omega, show u / 10 / 10 % 10 = u / 100 % 10 from by omega]
  rfl
theorem rdigits2 (u : Nat) (h2 : u < 100) : Ev (fun k => kinkeepref21_digits.f k (u : Int) 2) (D2 u) := by
  unfold kinkeepref21_digits.f
  refine rdigits_round u (by omega) 2 0 (by decide) (by decide) _ (by decide) _ (.inl (by decide)) ?_
  refine rdigits_round (u / 10) (by omega) 2 1 (by decide) (by decide) _ (by show 1 < 100; decide) _ (.inl (by decide)) ?_
  have e : u / 10 / 10 = 0 := by omega
  rw [e]
  refine Ev.to (rdigits_end 2 (1 + 1) _ (by decide)) ?_
  unfold D2
  rw [show u / 10 % 10 = u / 10 from by omega]
  rfl

/-- The text of a date. -/
def TX (y m d : Nat) : ByteArray := (((D4 y ++ (⟨#[45]⟩ : ByteArray)) ++ D2 m) ++ (⟨#[45]⟩ : ByteArray)) ++ D2 d
theorem TX_eq (y m d : Nat) : TX y m d = ⟨#[dg (y / 1000), dg (y / 100 % 10), dg (y / 10 % 10), dg (y % 10), 45, dg (m / 10), dg (m % 10), 45, dg (d / 10), dg (d % 10)]⟩ := rfl
theorem IsDate.small {day y m d : Int} (h : IsDate day y m d) (hd : day ≤ 999999) : ∃ a b c : Nat, y = a ∧ m = b ∧ d = c ∧ 1000 ≤ a ∧ a < 10000 ∧ b < 100 ∧ c < 100 := by
  have h1 := h.year_le hd
  have h2 := daysI_bd y m h.m0 h.m1
  obtain ⟨y0, m0, m1, d0, d1, e⟩ := h
  exact ⟨y.toNat, m.toNat, d.toNat, by omega, by omega, by omega, by omega, by omega, by omega, by omega⟩
theorem Text_ev {day : Int} {y m d : Nat} (h : IsDate day y m d) (hd : day ≤ 999999) : Ev (fun k => calendar_Text.f k day) (TX y m d, 0) := by
  have h1 := h.year_le hd
  have h2 := daysI_bd y m h.m0 h.m1
  have hy := h.y0
  have hm := h.m1
  have hd1 := h.d1
  unfold calendar_Text.f
  refine Ev.bind (Date_ev h hd) (Ev.pos rfl ?_)
  refine Ev.bind (digits4 y (by omega) (by omega)) ?_
  refine Ev.pos (by show 4 + 1 ≤ _; decide) ?_
  refine Ev.bind (digits2 m (by omega)) ?_
  refine Ev.pos (by show 4 + 1 + 2 ≤ _; decide) (Ev.pos (by show 4 + 1 + 2 + 1 ≤ _; decide) ?_)
  refine Ev.bind (digits2 d (by omega)) ?_
  exact Ev.pos (by show 4 + 1 + 2 + 1 + 2 ≤ _; decide) (Ev.now _)
theorem rText_ev {day : Int} {y m d : Nat} (h : IsDate day y m d) (hd : day ≤ 999999) : Ev (fun k => kinkeepref21_Text.f k day) (TX y m d, 0) := by
  have h1 := h.year_le hd
  have h2 := daysI_bd y m h.m0 h.m1
  have hy := h.y0
  have hm := h.m1
  have hd1 := h.d1
  unfold kinkeepref21_Text.f
  refine Ev.bind (rDate_ev h hd) (Ev.pos rfl ?_)
  refine Ev.bind (rdigits4 y (by omega) (by omega)) ?_
  refine Ev.pos (by show 4 + 1 ≤ _; decide) ?_
  refine Ev.bind (rdigits2 m (by omega)) ?_
  refine Ev.pos (by show 4 + 1 + 2 ≤ _; decide) (Ev.pos (by show 4 + 1 + 2 + 1 ≤ _; decide) ?_)
  refine Ev.bind (rdigits2 d (by omega)) ?_
  exact Ev.pos (by show 4 + 1 + 2 + 1 + 2 ≤ _; decide) (Ev.now _)
theorem Text_out {day : Int} (h : ¬ (0 ≤ day ∧ day ≤ 999999)) : Ev (fun k => calendar_Text.f k day) (⟨#[]⟩, dErr day) := by
  unfold calendar_Text.f
  exact Ev.bind (Date_out h) (Ev.neg (dErr_ne h) (Ev.now _))
theorem rText_out {day : Int} (h : ¬ (0 ≤ day ∧ day ≤ 999999)) : Ev (fun k => kinkeepref21_Text.f k day) (⟨#[]⟩, dErr day) := by
  unfold kinkeepref21_Text.f
  exact Ev.bind (rDate_out h) (Ev.neg (dErr_ne h) (Ev.now _))

/-! ### Parse -/
theorem digitVal_dg {x : Nat} (h : x < 10) : Lib.digitVal (dg x) = some x := by
  unfold Lib.digitVal
  rw [dg_nat h, if_pos (by omega)]
  congr 1
  omega
theorem dg_ne {x : Nat} (h : x < 10) (c : UInt8) (hc : c.toNat < 48) : (dg x == c) = false := by
  rw [beq_eq_false_iff_ne]
  intro e
  have := congrArg UInt8.toNat e
  rw [dg_nat h] at this
  omega
theorem num_step (s : ByteArray) (i : Nat) (x : Nat) (hx : x < 10) (hb : bt s i = ((dg x).toNat : Int)) (hi : i < s.size) (hs : s.size < 100) (r : Int × Bool)
    (k : Ev (fun k => calendar_number.l0 k s (s.size : Int) ((i + 1 : Nat) : Int)) r) : Ev (fun k => calendar_number.l0 k s (s.size : Int) (i : Int)) r := by
  refine Ev.step (fun k => calendar_number.l0.eq_2 _ _ _ _) ?_
  rw [hb, dg_nat hx]
  refine Ev.pos (by omega) (Ev.pos (by omega) (Ev.pos (by omega) (Ev.neg (by omega) (Ev.neg (by omega) ?_))))
  rw [w64 (by omega) (by omega)]
  exact k
theorem number4 (a b c d : Nat) (ha : a < 10) (hb : b < 10) (hc : c < 10) (hd : d < 10) : Ev (fun k => calendar_number.f k ⟨#[dg a, dg b, dg c, dg d]⟩) (((1000 * a + 100 * b + 10 * c + d : Nat) : Int), true) := by
  unfold calendar_number.f
  refine num_step _ 0 a ha rfl (by show 0 < 4; decide) (by show 4 < 100; decide) _ ?_
  refine num_step _ 1 b hb rfl (by show 1 < 4; decide) (by show 4 < 100; decide) _ ?_
  refine num_step _ 2 c hc rfl (by show 2 < 4; decide) (by show 4 < 100; decide) _ ?_
  refine num_step _ 3 d hd rfl (by show 3 < 4; decide) (by show 4 < 100; decide) _ ?_
  refine Ev.step (fun k => calendar_number.l0.eq_2 _ _ _ _) ?_
  refine Ev.neg (by show ¬ (4 : Int) < 4; decide) (Ev.neg (by show ¬ (4 : Int) > 9; decide) ?_)
  have e : strconv_Atoi.f ⟨#[dg a, dg b, dg c, dg d]⟩ = some (((1000 * a + 100 * b + 10 * c + d : Nat) : Int), none) := by
    unfold strconv_Atoi.f
    rw [if_pos (by show 4 ≤ 18; decide)]
    show (Lib.atoi [dg a, dg b, dg c, dg d]).map _ = _
    simp only [Lib.atoi, dg_ne ha 45 (by decide), dg_ne ha 43 (by decide), Lib.decNat, Lib.decFrom, digitVal_dg, ha, hb, hc, hd, List.isEmpty_cons, if_false, Option.map_some, Bool.false_eq_true]
    congr 3
    omega
  exact Ev.const e (Ev.pos rfl (Ev.now _))
theorem number2 (a b : Nat) (ha : a < 10) (hb : b < 10) : Ev (fun k => calendar_number.f k ⟨#[dg a, dg b]⟩) (((10 * a + b : Nat) : Int), true) := by
  unfold calendar_number.f
  refine num_step _ 0 a ha rfl (by show 0 < 2; decide) (by show 2 < 100; decide) _ ?_
  refine num_step _ 1 b hb rfl (by show 1 < 2; decide) (by show 2 < 100; decide) _ ?_
  refine Ev.step (fun k => calendar_number.l0.eq_2 _ _ _ _) ?_
  refine Ev.neg (by show ¬ (2 : Int) < 2; decide) (Ev.neg (by show ¬ (2 : Int) > 9; decide) ?_)
  have e : strconv_Atoi.f ⟨#[dg a, dg b]⟩ = some (((10 * a + b : Nat) : Int), none) := by
    unfold strconv_Atoi.f
    rw [if_pos (by show 2 ≤ 18; decide)]
    show (Lib.atoi [dg a, dg b]).map _ = _
    simp only [Lib.atoi, dg_ne ha 45 (by decide), dg_ne ha 43 (by decide), Lib.decNat, Lib.decFrom, digitVal_dg, ha, hb, List.isEmpty_cons, if_false, Option.map_some, Bool.false_eq_true]
    congr 3
    omega
  exact Ev.const e (Ev.pos rfl (Ev.now _))
theorem Parse_ev (a b c d e f g h : UInt8) (r1 r2 r3 : Int) (hy : r1 ≤ 9223372036854775807) (N1 : Ev (fun k => calendar_number.f k ⟨#[a, b, c, d]⟩) (r1, true)) (N2 : Ev (fun k => calendar_number.f k ⟨#[e, f]⟩) (r2, true)) (N3 : Ev (fun k => calendar_number.f k ⟨#[g, h]⟩) (r3, true)) :
    Ev (fun k => calendar_Parse.f k ⟨#[a, b, c, d, 45, e, f, 45, g, h]⟩) (dayOf r1 r2 r3) := by
  have hs : ((ByteArray.size ⟨#[a, b, c, d, 45, e, f, 45, g, h]⟩ : Nat) : Int) = 10 := rfl
  unfold calendar_Parse.f
  rw [hs]
  have hw : wrap64 ((10 : Int) - 6) = 4 := by unfold wrap64; omega
  have hw2 : wrap64 ((4 : Int) + 3) = 7 := by unfold wrap64; omega
  rw [hw, hw2]
  refine Ev.neg (by decide) (Ev.pos (by decide) (Ev.pos (by decide) (Ev.pos rfl (Ev.pos (by decide) (Ev.pos (by decide) (Ev.pos rfl (Ev.neg (by decide) ?_)))))))
  refine Ev.step (fun k => calendar_Parse.j0.eq_2 _ _ _ _) ?_
  rw [hs, hw2, show wrap64 ((4 : Int) + 1) = 5 from by unfold wrap64; omega, show wrap64 ((4 : Int) + 4) = 8 from by unfold wrap64; omega]
  refine Ev.neg (by decide) (Ev.pos (by decide) (Ev.pos (by decide) ?_))
  refine Ev.bind N1 ?_
  refine Ev.pos (by decide) (Ev.pos (by decide) (Ev.pos (by decide) ?_))
  refine Ev.bind N2 ?_
  refine Ev.pos (by decide) (Ev.pos (by decide) ?_)
  refine Ev.bind N3 ?_
  refine Ev.pos rfl (Ev.pos rfl (Ev.pos rfl ?_))
  exact Ev.bind (Day_ev r1 r2 r3 hy) (Ev.now _)
theorem Parse_TX (y m d : Nat) (hy : y < 10000) (hm : m < 100) (hd : d < 100) : Ev (fun k => calendar_Parse.f k (TX y m d)) (dayOf y m d) := by
  rw [TX_eq]
  have n1 := number4 (y / 1000) (y / 100 % 10) (y / 10 % 10) (y % 10) (by omega) (by omega) (by omega) (by omega)
  have n2 := number2 (m / 10) (m % 10) (by omega) (by omega)
  have n3 := number2 (d / 10) (d % 10) (by omega) (by omega)
  rw [show 1000 * (y / 1000) + 100 * (y / 100 % 10) + 10 * (y / 10 % 10) + y % 10 = y from by omega] at n1
  rw [show 10 * (m / 10) + m % 10 = m from by omega] at n2
  rw [show 10 * (d / 10) + d % 10 = d from by omega] at n3
  exact Parse_ev _ _ _ _ _ _ _ _ _ _ _ (by omega) n1 n2 n3

/-! ### the examples -/
theorem ex59 : IsDate 59 2000 2 29 := ⟨by decide, by decide, by decide, by decide, by decide, by decide⟩
theorem awake_ev : Ev kinkeeplaw21_awake.f true := by
  show Ev (fun k => kinkeeplaw21_awake.f k) true
  unfold kinkeeplaw21_awake.f
  refine Ev.bind (Date_ev ex59 (by decide)) ?_
  refine Ev.bind (add_ev (n := 12) ex59 (by decide)) ?_
  have ht := Text_ev (y := 2000) (m := 2) (d := 29) ex59 (by decide)
  refine Ev.bind ht ?_
  have hp := Parse_TX 2001 2 29 (by decide) (by decide) (by decide)
  refine Ev.bind (a := (0, 1)) hp ?_
  refine Ev.pos (by decide) (Ev.pos rfl (Ev.pos (by decide) (Ev.pos (by decide) (Ev.pos ?_ (Ev.pos rfl (Ev.pos rfl ?_))))))
  · rw [ByteArray.toList_eq]
    rfl
  refine Ev.const (weekday_ok (by decide) (by decide)) (Ev.pos (by decide) ?_)
  exact Ev.const (week_ok (by decide) (by decide)) (Ev.to (Ev.now _) (by decide))
end Go.Proofs.YtjjblpcblaelgaaDoor.PB
