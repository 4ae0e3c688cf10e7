/-
  Rounds: RoundDiv rounds to the nearest and turns its sign, CeilDiv is the least that covers, Clamp16 keeps what is in, for every code.
-/
import Derived.Test.YtmbmofjekdkjeaaPFnRoundsx
namespace Go.Proofs.Ytmbmofjekdkjeaa.Pure
open Go.RowKit Go.Proofs.Ytmbmofjekdkjeaa.PFnRounds Go.Proofs.YtmbmofjekdkjeaaW.PrintWords Go.Proofs.YtmbmofjekdkjeaaW.PrintLast Go.Proofs.YtmbmofjekdkjeaaW.PrintMore
set_option linter.unusedVariables false
set_option linter.unusedSimpArgs false

theorem w64 {x : Int} (h1 : -9223372036854775808 ≤ x) (h2 : x ≤ 9223372036854775807) : wrap64 x = x := by
  unfold wrap64; omega
theorem tdiv_pos {a : Int} (h : 0 ≤ a) (b : Int) : Int.tdiv a b = a / b := Int.tdiv_eq_ediv_of_nonneg h
theorem tmod_pos {a : Int} (h : 0 ≤ a) (b : Int) : Int.tmod a b = a % b := Int.tmod_eq_emod_of_nonneg h
theorem tdiv_neg {a : Int} (h : a ≤ 0) (b : Int) : Int.tdiv a b = -((-a) / b) := by
  have := Int.neg_tdiv (-a) b
  rw [Int.neg_neg] at this
  rw [this, tdiv_pos (by omega)]
theorem tmod_neg {a : Int} (h : a ≤ 0) (b : Int) : Int.tmod a b = -((-a) % b) := by
  have := Int.neg_tmod (-a) b
  rw [Int.neg_neg] at this
  rw [this, tmod_pos (by omega)]
theorem div_unique {x b q r : Int} (hb : 0 < b) (h : r + b * q = x) (h0 : 0 ≤ r) (h1 : r < b) : x / b = q :=
  ((Int.ediv_emod_unique hb).2 ⟨h, h0, h1⟩).1
theorem div_parts (x b : Int) : b * (x / b) + x % b = x := Int.mul_ediv_add_emod x b
theorem neg_div {a b : Int} (hb : 0 < b) : (-a) / b = if a % b = 0 then -(a / b) else -(a / b) - 1 := by
  have h := div_parts a b
  have h0 := Int.emod_nonneg a (Int.ne_of_gt hb)
  have h1 := Int.emod_lt_of_pos a hb
  split
  · exact div_unique (r := 0) hb (by rw [Int.mul_neg]; omega) (by omega) (by omega)
  · exact div_unique (r := b - a % b) hb (by rw [Int.mul_sub, Int.mul_neg]; omega) (by omega) (by omega)
theorem ceil_div {a b : Int} (hb : 0 < b) : (a + b - 1) / b = -((-a) / b) := by
  have h := div_parts (-a) b
  have h0 := Int.emod_nonneg (-a) (Int.ne_of_gt hb)
  have h1 := Int.emod_lt_of_pos (-a) hb
  exact div_unique (r := b - 1 - (-a) % b) hb (by rw [Int.mul_neg]; omega) (by omega) (by omega)
theorem div_bd {a b : Int} (ha : 0 ≤ a) (hb : 0 < b) : 0 ≤ a / b ∧ a / b ≤ a :=
  ⟨Int.ediv_nonneg ha (by omega), Int.ediv_le_self b ha⟩
theorem floor_tdiv {x b : Int} (hb : 0 < b) : (if Int.tmod x b < 0 then Int.tdiv x b - 1 else Int.tdiv x b) = x / b := by
  by_cases h : 0 ≤ x
  · have h0 := Int.emod_nonneg x (Int.ne_of_gt hb)
    rw [tmod_pos h, tdiv_pos h, if_neg (by omega)]
  · rw [tmod_neg (by omega), tdiv_neg (by omega)]
    have h0 := Int.emod_nonneg (-x) (Int.ne_of_gt hb)
    have e := neg_div (a := -x) hb
    rw [Int.neg_neg] at e
    rw [e]
    by_cases hz : (-x) % b = 0
    · rw [if_pos hz, if_neg (by omega)]
    · rw [if_neg hz, if_pos (by omega)]
theorem floor_bd {x b : Int} (hb : 0 < b) : (0 ≤ x → 0 ≤ x / b ∧ x / b ≤ x) ∧ (x < 0 → x ≤ x / b ∧ x / b < 0) := by
  refine ⟨fun h => div_bd h hb, fun h => ?_⟩
  have e := neg_div (a := -x) hb
  rw [Int.neg_neg] at e
  have d := div_bd (a := -x) (by omega) hb
  have p := div_parts (-x) b
  have h0 := Int.emod_nonneg (-x) (Int.ne_of_gt hb)
  rw [e]
  split
  · next hz =>
    rw [hz] at p
    have : (-x) / b ≠ 0 := fun e0 => by rw [e0, Int.mul_zero] at p; omega
    omega
  · next hz =>
    have : (-x) / b < -x := by
      rcases Int.lt_or_eq_of_le d.2 with h2 | h2
      · exact h2
      · exfalso
        rw [h2] at p
        have hb1 : b ≠ 1 := fun e1 => by subst e1; omega
        have : 2 * (-x) ≤ b * (-x) := Int.mul_le_mul_of_nonneg_right (by omega) (by omega)
        omega
    omega

theorem inRange_eq (a b c : Int) : impl_inRange.f a b c = some (decide (b ≤ a ∧ a ≤ c)) := by
  unfold impl_inRange.f; by_cases h : b ≤ a <;> simp [h]

theorem l1In_eq (a b c : Int) : spec_l1In.f a b c = some (decide (b ≤ a ∧ a ≤ c)) := by
  unfold spec_l1In.f; by_cases h : b ≤ a <;> simp [h]

theorem within_eq (a b : Int) (h0 : 0 ≤ b) (h1 : b ≤ 9000000000000000000) : impl_within.f a b = some (decide (-b ≤ a ∧ a ≤ b)) := by
  unfold impl_within.f; rw [inRange_eq, w64 (by omega) (by omega)]; rfl

theorem floorDiv_eq (x b : Int) (hb : 0 < b) (h0 : -9000000000000000000 ≤ x) (h1 : x ≤ 9000000000000000000) : impl_floorDiv.f x b = some (x / b) := by
  have e := floor_tdiv (x := x) hb
  have d := floor_bd (x := x) hb
  unfold impl_floorDiv.f
  rw [if_neg (by omega)]
  by_cases h : Int.tmod x b < 0
  · rw [if_pos h] at e ⊢
    rw [w64 (x := Int.tdiv x b) (by omega) (by omega), w64 (by omega) (by omega), e]
  · rw [if_neg h] at e ⊢
    rw [w64 (by omega) (by omega), e]

theorem ceilDiv_eq (x b : Int) (hb : 0 < b) (h0 : -9000000000000000000 ≤ x) (h1 : x ≤ 9000000000000000000) : impl_ceilDiv.f x b = some (-((-x) / b)) := by
  have d := floor_bd (x := -x) hb
  unfold impl_ceilDiv.f
  rw [w64 (by omega) (by omega), floorDiv_eq _ _ hb (by omega) (by omega)]
  simp only [Option.bind_some]
  rw [w64 (by omega) (by omega)]

theorem l1Ceil_eq (x b : Int) (hb : 0 < b) (h0 : 0 ≤ x) (h1 : x + b ≤ 9000000000000000000) : spec_l1Ceil.f x b = some (-((-x) / b)) := by
  have e := ceil_div (a := x) hb
  have d := div_bd (a := x + b - 1) (by omega) hb
  unfold spec_l1Ceil.f
  rw [if_neg (by omega), w64 (x := x + b) (by omega) (by omega), w64 (x := x + b - 1) (by omega) (by omega), tdiv_pos (by omega), w64 (by omega) (by omega), e]

theorem l1Top_eq (x : Int) : spec_l1Top.f x = some (decide (-1099511627776 ≤ x ∧ x ≤ 1099511627776)) := by
  unfold spec_l1Top.f; rw [l1In_eq]; rfl

theorem rd_nat (xs : List Int) (i : Nat) : rd xs (i : Int) = xs.getD i 0 := by unfold rd; rw [Int.toNat_natCast]
theorem rd_get (xs : List Int) (i : Nat) (h : i < xs.length) : rd xs (i : Int) = xs[i] := by
  rw [rd_nat, List.getD_eq_getElem?_getD, List.getElem?_eq_getElem h]; rfl
theorem w64_succ (i : Nat) (h : i ≤ 4000000000000000000) : wrap64 ((i : Int) + 1) = ((i + 1 : Nat) : Int) := by
  rw [w64 (by omega) (by omega)]; omega
theorem nat_nonneg (i : Nat) : 0 ≤ (i : Int) := Int.natCast_nonneg i
theorem set_get_take {xs ys : List Int} {i : Nat} (hl : ys.length = xs.length) (ht : ys.take i = xs.take i) (hi : i < xs.length) :
    (ys.set i (rd xs (i : Int))).take (i + 1) = xs.take (i + 1) := by
  rw [rd_get xs i hi]
  apply List.ext_getElem?
  intro n
  by_cases hn : n < i + 1
  · rw [List.getElem?_take_of_lt hn, List.getElem?_take_of_lt hn]
    by_cases e : n = i
    · subst e
      rw [List.getElem?_set_self (by omega), List.getElem?_eq_getElem hi]
    · rw [List.getElem?_set_ne (by omega)]
      have := congrArg (fun l => l[n]?) ht
      simp only [List.getElem?_take_of_lt (show n < i by omega)] at this
      exact this
  · rw [List.getElem?_take_eq_none (by omega), List.getElem?_take_eq_none (by omega)]

theorem u8_of_wf {x : Int} (h : (Lit.int .u8 x).wf = true) : 0 ≤ x ∧ x < 256 := by
  have := h
  simp [Lit.wf, IntKind.min, IntKind.max, IntKind.bits, IntKind.signed] at this
  omega
def Bytes (xs : List Int) : Prop := ∀ x ∈ xs, 0 ≤ x ∧ x < 256
theorem Bytes.rd {xs : List Int} (h : Bytes xs) (i : Nat) : 0 ≤ rd xs (i : Int) ∧ rd xs (i : Int) < 256 := by
  rw [rd_nat, List.getD_eq_getElem?_getD]
  by_cases hi : i < xs.length
  · rw [List.getElem?_eq_getElem hi]; exact h _ (List.getElem_mem hi)
  · rw [List.getElem?_eq_none (by omega)]; exact ⟨by simp, by simp⟩

theorem rd_bd {c : List Int} (hc : Bytes c) (i : Int) : 0 ≤ rd c i ∧ rd c i ≤ 255 := by
  unfold rd
  rw [List.getD_eq_getElem?_getD]
  by_cases h : i.toNat < c.length
  · rw [List.getElem?_eq_getElem h]
    have := hc _ (List.getElem_mem h)
    simp only [Option.getD_some]
    omega
  · rw [List.getElem?_eq_none (by omega)]
    simp
theorem tmod_bd {a : Int} (h : 0 ≤ a) {b : Int} (hb : 0 < b) : 0 ≤ Int.tmod a b ∧ Int.tmod a b < b := by
  rw [tmod_pos h]
  exact ⟨Int.emod_nonneg _ (by omega), Int.emod_lt_of_pos _ hb⟩
theorem l1Next_ok {c : List Int} (hc : Bytes c) (at' n : Int) (h0 : 0 ≤ at') (h1 : at' ≤ 1073741824) :
    ∃ v, spec_l1Next.f c at' n = some (v, at' + 1) ∧ (1 ≤ n → 0 ≤ v ∧ v < n) ∧ (n < 1 → v = 0) := by
  have e1 : wrap64 (at' + 1) = at' + 1 := w64 (by omega) (by omega)
  have e2 : at' + 1 - 1 = at' := by omega
  have e3 : wrap64 at' = at' := w64 (by omega) (by omega)
  have e4 : wrap64 (at' + 2) = at' + 2 := w64 (by omega) (by omega)
  unfold spec_l1Next.f
  simp only [e1, e2, e3, e4]
  by_cases hn1 : n < 1
  · rw [if_pos hn1]
    exact ⟨0, rfl, fun h => by omega, fun _ => rfl⟩
  · rw [if_neg hn1]
    by_cases hl : (c.length : Int) = 0
    · rw [if_pos hl, if_neg (by omega), w64 (x := at' * 7) (by omega) (by omega)]
      exact ⟨_, rfl, fun _ => tmod_bd (by omega) (by omega), fun h => absurd h hn1⟩
    · rw [if_neg hl]
      have hL : 0 < (c.length : Int) := by omega
      have q0 := tmod_bd h0 hL
      have q1 := tmod_bd (show 0 ≤ at' + 1 by omega) hL
      have q2 := tmod_bd (show 0 ≤ at' + 2 by omega) hL
      have hd := div_bd h0 hL
      rw [← tdiv_pos h0] at hd
      have r0 := rd_bd hc (Int.tmod at' c.length)
      have r1 := rd_bd hc (Int.tmod (at' + 1) c.length)
      have r2 := rd_bd hc (Int.tmod (at' + 2) c.length)
      rw [if_pos q0.1, if_pos q0.2, if_pos q1.1, if_pos q1.2, if_pos q2.1, if_pos q2.2]
      generalize rd c (Int.tmod at' c.length) = R0 at r0 ⊢
      generalize rd c (Int.tmod (at' + 1) c.length) = R1 at r1 ⊢
      generalize rd c (Int.tmod (at' + 2) c.length) = R2 at r2 ⊢
      generalize Int.tdiv at' c.length = D at hd ⊢
      simp (disch := omega) only [w64]
      simp only [if_neg (show ¬ n = 0 by omega)]
      by_cases g1 : n > 200
      · by_cases g2 : n > 60000
        · simp only [if_pos g1, if_pos g2]
          exact ⟨_, rfl, fun _ => tmod_bd (by omega) (by omega), fun h => absurd h hn1⟩
        · simp only [if_pos g1, if_neg g2]
          exact ⟨_, rfl, fun _ => tmod_bd (by omega) (by omega), fun h => absurd h hn1⟩
      · by_cases g2 : n > 60000
        · omega
        · simp only [if_neg g1, if_neg g2]
          exact ⟨_, rfl, fun _ => tmod_bd (by omega) (by omega), fun h => absurd h hn1⟩

theorem l1Pick_ok {c : List Int} (hc : Bytes c) (at' : Int) (xs : List Int) (h0 : 0 ≤ at') (h1 : at' ≤ 1073741824) (hx : 1 ≤ xs.length) :
    ∃ v, spec_l1Pick.f c at' xs = some (v, at' + 1) ∧ v ∈ xs := by
  obtain ⟨v, e, hv, _⟩ := l1Next_ok hc at' (xs.length : Int) h0 h1
  have hv := hv (by omega)
  refine ⟨rd xs v, ?_, ?_⟩
  · unfold spec_l1Pick.f
    rw [e]
    simp only [Option.bind_some]
    rw [if_pos hv.1, if_pos hv.2]
  · unfold rd
    rw [List.getD_eq_getElem?_getD, List.getElem?_eq_getElem (show v.toNat < xs.length by omega)]
    exact List.getElem_mem _

theorem l1Signed_ok {c : List Int} (hc : Bytes c) (at' n : Int) (h0 : 0 ≤ at') (h1 : at' ≤ 1073741824) (hn : 0 ≤ n) (hn2 : n ≤ 1152921504606846976) :
    ∃ v, spec_l1Signed.f c at' n = some (v, at' + 1) ∧ -n ≤ v ∧ v ≤ n := by
  obtain ⟨v, e, hv, _⟩ := l1Next_ok hc at' (2 * n + 1) h0 h1
  have hv := hv (by omega)
  refine ⟨v - n, ?_, by omega, by omega⟩
  unfold spec_l1Signed.f
  rw [w64 (x := 2 * n) (by omega) (by omega), w64 (x := 2 * n + 1) (by omega) (by omega), e]
  simp only [Option.bind_some]
  rw [w64 (by omega) (by omega)]

-- PLUS: lists bytes
def rv (a b : Int) : Int := if a < 0 then -((2 * (-a) + b) / (2 * b)) else (2 * a + b) / (2 * b)
theorem rv_bd {a b : Int} (hb : 0 < b) : -b ≤ 2 * (a - rv a b * b) ∧ 2 * (a - rv a b * b) ≤ b := by
  unfold rv
  split
  · next h =>
    have p := div_parts (2 * (-a) + b) (2 * b)
    have q0 := Int.emod_nonneg (2 * (-a) + b) (show 2 * b ≠ 0 by omega)
    have q1 := Int.emod_lt_of_pos (2 * (-a) + b) (show 0 < 2 * b by omega)
    rw [Int.mul_assoc] at p
    rw [Int.neg_mul, Int.mul_comm _ b]
    generalize b * ((2 * (-a) + b) / (2 * b)) = m at p ⊢
    omega
  · next h =>
    have p := div_parts (2 * a + b) (2 * b)
    have q0 := Int.emod_nonneg (2 * a + b) (show 2 * b ≠ 0 by omega)
    have q1 := Int.emod_lt_of_pos (2 * a + b) (show 0 < 2 * b by omega)
    rw [Int.mul_assoc] at p
    rw [Int.mul_comm _ b]
    generalize b * ((2 * a + b) / (2 * b)) = m at p ⊢
    omega
theorem rv_neg {a b : Int} (hb : 0 < b) : rv (-a) b = -(rv a b) := by
  unfold rv
  by_cases h : a < 0
  · rw [if_pos h, if_neg (by omega), Int.neg_neg]
  · by_cases z : a = 0
    · subst z
      have e : (2 * 0 + b) / (2 * b) = 0 := Int.ediv_eq_zero_of_lt (by omega) (by omega)
      have e2 : (2 * (-0) + b) / (2 * b) = 0 := Int.ediv_eq_zero_of_lt (by omega) (by omega)
      rw [if_neg (by omega), if_neg (by omega), e2, e]; rfl
    · rw [if_neg h, if_pos (by omega), Int.neg_neg]
theorem rv_wide {a b : Int} (hb : 0 < b) (h0 : -1099511627776 ≤ a) (h1 : a ≤ 1099511627776) (hb2 : b ≤ 33554432) : -1099545182208 ≤ rv a b ∧ rv a b ≤ 1099545182208 := by
  unfold rv
  split
  · have h := div_bd (a := 2 * (-a) + b) (b := 2 * b) (by omega) (by omega)
    have p := div_parts (2 * (-a) + b) (2 * b)
    have q0 := Int.emod_nonneg (2 * (-a) + b) (show 2 * b ≠ 0 by omega)
    have m := Int.mul_le_mul_of_nonneg_right (show (2 : Int) ≤ 2 * b by omega) h.1
    omega
  · have h := div_bd (a := 2 * a + b) (b := 2 * b) (by omega) (by omega)
    have p := div_parts (2 * a + b) (2 * b)
    have q0 := Int.emod_nonneg (2 * a + b) (show 2 * b ≠ 0 by omega)
    have m := Int.mul_le_mul_of_nonneg_right (show (2 : Int) ≤ 2 * b by omega) h.1
    omega
theorem round_pos (a b : Int) (hb : 0 < b) (hb2 : b ≤ 33554432) (ha : 0 ≤ a) (ha2 : a ≤ 1099511627776) (K : Nat) : spec_l1Round.f (K + 1) a b = some ((2 * a + b) / (2 * b)) ∧ impl_roundDiv.f (K + 1) a b = some ((2 * a + b) / (2 * b)) := by
  have e2 : wrap64 (2 * b) = 2 * b := w64 (by omega) (by omega)
  have e3 : wrap64 (2 * a) = 2 * a := w64 (by omega) (by omega)
  have e4 : wrap64 (2 * a + b) = 2 * a + b := w64 (by omega) (by omega)
  have d := div_bd (a := 2 * a + b) (b := 2 * b) (by omega) (by omega)
  have e5 : wrap64 ((2 * a + b) / (2 * b)) = (2 * a + b) / (2 * b) := w64 (by omega) (by omega)
  constructor
  · simp only [spec_l1Round.f]
    rw [if_neg (by omega), e2, if_neg (by omega), e3, e4, tdiv_pos (by omega), e5]
  · simp only [impl_roundDiv.f]
    rw [if_neg (by omega), e2, if_neg (by omega), e3, e4, tdiv_pos (by omega), e5]
theorem round_any (a b : Int) (hb : 0 < b) (hb2 : b ≤ 33554432) (ha : -1099511627776 ≤ a) (ha2 : a ≤ 1099511627776) (K : Nat) : spec_l1Round.f (K + 1 + 1) a b = some (rv a b) ∧ impl_roundDiv.f (K + 1 + 1) a b = some (rv a b) := by
  by_cases h : a < 0
  · have e : wrap64 (-a) = -a := w64 (by omega) (by omega)
    obtain ⟨e1, e2⟩ := round_pos (-a) b hb hb2 (by omega) (by omega) K
    have d := div_bd (a := 2 * (-a) + b) (b := 2 * b) (by omega) (by omega)
    have e5 : wrap64 (-((2 * (-a) + b) / (2 * b))) = -((2 * (-a) + b) / (2 * b)) := w64 (by omega) (by omega)
    constructor
    · rw [spec_l1Round.f, if_pos h, e, e1]
      simp only [Option.bind_some]
      rw [e5]; unfold rv; rw [if_pos h]
    · rw [impl_roundDiv.f, if_pos h, e, e2]
      simp only [Option.bind_some]
      rw [e5]; unfold rv; rw [if_pos h]
  · obtain ⟨e1, e2⟩ := round_pos a b hb hb2 (by omega) (by omega) (K + 1)
    rw [e1, e2]; unfold rv; rw [if_neg h]; exact ⟨rfl, rfl⟩
def rdF (a b : Int) : Int × Int := if -1099511627776 ≤ a ∧ a ≤ 1099511627776 then (if 1 ≤ b ∧ b ≤ 33554432 then (0, rv a b) else (3, 0)) else (3, 0)
theorem roundDiv_both (a b : Int) (K : Nat) : spec_RoundDiv.f (K + 1 + 1) a b = some (rdF a b) ∧ impl_RoundDiv.f (K + 1 + 1) a b = some (rdF a b) := by
  unfold spec_RoundDiv.f impl_RoundDiv.f rdF
  rw [l1Top_eq, l1In_eq, within_eq _ _ (by omega) (by omega), inRange_eq]
  simp only [Option.bind_some]
  by_cases h : -1099511627776 ≤ a ∧ a ≤ 1099511627776
  · by_cases g : 1 ≤ b ∧ b ≤ 33554432
    · obtain ⟨e1, e2⟩ := round_any a b (by omega) (by omega) (by omega) (by omega) K
      rw [e1, e2]
      simp [h, g]
    · simp [h, g]
  · simp [h]
def cdF (a b : Int) : Int × Int := if 0 ≤ a ∧ a ≤ 1099511627776 then (if 1 ≤ b ∧ b ≤ 33554432 then (0, -((-a) / b)) else (3, 0)) else (3, 0)
theorem ceilDiv_both (a b : Int) : spec_CeilDiv.f a b = some (cdF a b) ∧ impl_CeilDiv.f a b = some (cdF a b) := by
  unfold spec_CeilDiv.f impl_CeilDiv.f cdF
  rw [l1In_eq, l1In_eq, inRange_eq, inRange_eq]
  simp only [Option.bind_some]
  by_cases h : 0 ≤ a ∧ a ≤ 1099511627776
  · by_cases g : 1 ≤ b ∧ b ≤ 33554432
    · rw [l1Ceil_eq _ _ (by omega) (by omega) (by omega), ceilDiv_eq _ _ (by omega) (by omega) (by omega)]
      simp [h, g]
    · simp [h, g]
  · simp [h]
theorem rounds_j1 (a b : Int) (K : Nat) : laws_FnRounds.j1 (K + 1 + 1 + 1) a b false (rdF a b).1 (rdF a b).2 = some true := by
  simp only [laws_FnRounds.j1]
  rw [if_neg (by decide)]
  by_cases h : -1099511627776 ≤ a ∧ a ≤ 1099511627776
  · by_cases g : 1 ≤ b ∧ b ≤ 33554432
    · have e : rdF a b = (0, rv a b) := by unfold rdF; rw [if_pos h, if_pos g]
      have e' : rdF (-a) b = (0, rv (-a) b) := by unfold rdF; rw [if_pos (by omega), if_pos g]
      have d := rv_bd (a := a) (b := b) (by omega)
      have w := rv_wide (a := a) (b := b) (by omega) h.1 h.2 g.2
      rw [e]
      simp only [if_true]
      have e1 : wrap64 (rv a b * b) = rv a b * b := w64 (by omega) (by omega)
      have e2 : wrap64 (a - rv a b * b) = a - rv a b * b := w64 (by omega) (by omega)
      have e3 : wrap64 (-a) = -a := w64 (by omega) (by omega)
      have e4 : wrap64 (-(rv a b)) = -(rv a b) := w64 (by omega) (by omega)
      rw [e1, e2, e3, e4, (roundDiv_both (-a) b K).2, e', rv_neg (by omega)]
      unfold laws_lwAbs.f
      by_cases n : a - rv a b * b < 0
      · rw [if_pos n, w64 (x := -(a - rv a b * b)) (by omega) (by omega)]
        simp only [Option.bind_some]
        rw [w64 (by omega) (by omega), if_pos (by omega)]
        simp
      · rw [if_neg n]
        simp only [Option.bind_some]
        rw [w64 (by omega) (by omega), if_pos (by omega)]
        simp
    · have e : rdF a b = (3, 0) := by unfold rdF; rw [if_pos h, if_neg g]
      rw [e]; rfl
  · have e : rdF a b = (3, 0) := by unfold rdF; rw [if_neg h]
    rw [e]; rfl
theorem rounds_j0 (a b : Int) (K : Nat) : laws_FnRounds.j0 (K + 1 + 1 + 1 + 1) a b false (rdF a b).1 (rdF a b).2 (cdF a b).1 (cdF a b).2 = some true := by
  rw [laws_FnRounds.j0]
  rw [if_neg (by decide)]
  by_cases h : 0 ≤ a ∧ a ≤ 1099511627776
  · by_cases g : 1 ≤ b ∧ b ≤ 33554432
    · have e : cdF a b = (0, -((-a) / b)) := by unfold cdF; rw [if_pos h, if_pos g]
      rw [e]
      simp only [if_true]
      have p := div_parts (-a) b
      have q0 := Int.emod_nonneg (-a) (show b ≠ 0 by omega)
      have q1 := Int.emod_lt_of_pos (-a) (show 0 < b by omega)
      have f := floor_bd (x := -a) (b := b) (by omega)
      have x1 : -((-a) / b) * b = -(b * ((-a) / b)) := by rw [Int.neg_mul, Int.mul_comm]
      have e0 : wrap64 (-((-a) / b) - 1) = -((-a) / b) - 1 := w64 (by omega) (by omega)
      have x2 : (-((-a) / b) - 1) * b = -(b * ((-a) / b)) - b := by rw [Int.sub_mul, x1]; omega
      rw [e0, x1, x2]
      generalize b * ((-a) / b) = m at p ⊢
      rw [w64 (x := -m) (by omega) (by omega), w64 (x := -m - b) (by omega) (by omega), if_neg (by omega), decide_eq_false (by omega)]
      exact rounds_j1 a b K
    · have e : cdF a b = (3, 0) := by unfold cdF; rw [if_pos h, if_neg g]
      rw [e]
      exact rounds_j1 a b K
  · have e : cdF a b = (3, 0) := by unfold cdF; rw [if_neg h]
    rw [e]
    exact rounds_j1 a b K
theorem drawRound_ok {c : List Int} (hc : Bytes c) : ∃ a b, spec_DrawRoundDiv.f c = some (a, b) := by
  unfold spec_DrawRoundDiv.f spec_l1Source.f
  simp only [Option.bind_some]
  obtain ⟨v1, e1, _⟩ := l1Signed_ok hc 0 5000 (by omega) (by omega) (by omega) (by omega)
  obtain ⟨v2, e2, _⟩ := l1Signed_ok hc (0 + 1) 5000 (by omega) (by omega) (by omega) (by omega)
  rw [e1]; simp only [Option.bind_some]
  rw [e2]; simp only [Option.bind_some]
  obtain ⟨v3, e3, _⟩ := l1Pick_ok hc (0 + 1 + 1) [0, 5, -5, 7, -7, 1099511627776, -1099511627776, 1099511627777, v1, v2] (by omega) (by omega) (by simp)
  rw [e3]; simp only [Option.bind_some]
  obtain ⟨v4, e4, _⟩ := l1Next_ok hc (0 + 1 + 1 + 1) 99 (by omega) (by omega)
  rw [e4]; simp only [Option.bind_some]
  obtain ⟨v5, e5, _⟩ := l1Pick_ok hc (0 + 1 + 1 + 1 + 1) [1, 2, 3, 10, 1024, 33554432, 33554433, 0, wrap64 (1 + v4)] (by omega) (by omega) (by simp)
  rw [e5]; simp only [Option.bind_some]
  exact ⟨_, _, rfl⟩
theorem drawClamp_ok {c : List Int} (hc : Bytes c) : ∃ a, spec_DrawClamp16.f c = some a := by
  unfold spec_DrawClamp16.f spec_l1Source.f
  simp only [Option.bind_some]
  obtain ⟨v1, e1, _⟩ := l1Signed_ok hc 0 70000 (by omega) (by omega) (by omega) (by omega)
  rw [e1]; simp only [Option.bind_some]
  obtain ⟨v3, e3, _⟩ := l1Pick_ok hc (0 + 1) [0, 32767, 32768, -32768, -32769, v1, 9223372036854775807, -9223372036854775807] (by omega) (by omega) (by simp)
  rw [e3]; simp only [Option.bind_some]
  exact ⟨_, rfl⟩
theorem clamp_cases (t : Int) : ∃ r, impl_Clamp16.f t = some r ∧ -32768 ≤ r ∧ r ≤ 32767 ∧ (r = t ∨ t < -32768 ∨ t > 32767) := by
  unfold impl_Clamp16.f mn mx
  refine ⟨_, rfl, ?_⟩
  by_cases h1 : t < -32768
  · simp [h1]
  · by_cases h2 : 32767 < t
    · simp [h1, h2]
    · simp [h1, h2]; omega
theorem clamp_id {t : Int} (h0 : -32768 ≤ t) (h1 : t ≤ 32767) : impl_Clamp16.f t = some t := by
  unfold impl_Clamp16.f mn mx
  rw [if_neg (show ¬ t < -32768 by omega), if_neg (by omega)]
theorem FnRounds : laws_FnRounds.Pure := by
  intro l0 h1 h2 h3
  have hc : Bytes l0 := fun x hx => u8_of_wf (h3 x hx)
  obtain ⟨a, b, hd⟩ := drawRound_ok hc
  obtain ⟨t, ht⟩ := drawClamp_ok hc
  obtain ⟨r, er, r0, r1, r2⟩ := clamp_cases t
  refine ⟨100 + 1 + 1 + 1 + 1, ?_⟩
  unfold laws_FnRounds.f laws_lwBig.f
  simp only [Option.bind_some, hd, ht]
  split
  · rfl
  rw [(roundDiv_both a b (100 + 1 + 1)).2, (roundDiv_both a b (100 + 1 + 1)).1, (ceilDiv_both a b).1, (ceilDiv_both a b).2, er]
  simp only [Option.bind_some, if_true]
  rw [if_neg (by omega), if_neg (by omega), clamp_id r0 r1]
  simp only [Option.bind_some, if_true]
  by_cases g : r = t
  · rw [if_pos g]
    exact rounds_j0 a b 100
  · rw [if_neg g]
    by_cases g2 : t ≥ -32768
    · rw [if_pos g2, decide_eq_false (by omega)]
      exact rounds_j0 a b 100
    · rw [if_neg g2]
      exact rounds_j0 a b 100

end Go.Proofs.Ytmbmofjekdkjeaa.Pure
