/-
  Mixes: what MixPair mixed, PartPair parts, and the other way round, for every code.
-/
import Derived.Test.YtmbmofjekdkjeaaPFnMixesx
namespace Go.Proofs.Ytmbmofjekdkjeaa.Pure
open Go.RowKit Go.Proofs.Ytmbmofjekdkjeaa.PFnMixes Go.Proofs.YtmbmofjekdkjeaaW.PrintWords Go.Proofs.YtmbmofjekdkjeaaW.PrintLast Go.Proofs.YtmbmofjekdkjeaaW.PrintMore
set_option linter.unusedVariables false
set_option linter.unusedSimpArgs false

theorem w64 {x : Int} (h1 : -9223372036854775808 ≤ x) (h2 : x ≤ 9223372036854775807) : wrap64 x = x := by
  unfold wrap64; omega
theorem tdiv_pos {a : Int} (h : 0 ≤ a) (b : Int) : Int.tdiv a b = a / b := Int.tdiv_eq_ediv_of_nonneg h
theorem tmod_pos {a : Int} (h : 0 ≤ a) (b : Int) : Int.tmod a b = a % b := Int.tmod_eq_emod_of_nonneg h
theorem tdiv_neg {a : Int} (h : a ≤ 0) (b : Int) : Int.tdiv a b = -((-a) / b) := by
  have := Int.neg_tdiv (-a) b
  rw [Int.neg_neg] at this
  rw [this, tdiv_pos (by omega)]
theorem tmod_neg {a : Int} (h : a ≤ 0) (b : Int) : Int.tmod a b = -((-a) % b) := by
  have := Int.neg_tmod (-a) b
  rw [Int.neg_neg] at this
  rw [this, tmod_pos (by omega)]
theorem div_unique {x b q r : Int} (hb : 0 < b) (h : r + b * q = x) (h0 : 0 ≤ r) (h1 : r < b) : x / b = q :=
  ((Int.ediv_emod_unique hb).2 ⟨h, h0, h1⟩).1
theorem div_parts (x b : Int) : b * (x / b) + x % b = x := Int.mul_ediv_add_emod x b
theorem neg_div {a b : Int} (hb : 0 < b) : (-a) / b = if a % b = 0 then -(a / b) else -(a / b) - 1 := by
  have h := div_parts a b
  have h0 := Int.emod_nonneg a (Int.ne_of_gt hb)
  have h1 := Int.emod_lt_of_pos a hb
  split
  · exact div_unique (r := 0) hb (by rw [Int.mul_neg]; omega) (by omega) (by omega)
  · exact div_unique (r := b - a % b) hb (by rw [Int.mul_sub, Int.mul_neg]; omega) (by omega) (by omega)
theorem ceil_div {a b : Int} (hb : 0 < b) : (a + b - 1) / b = -((-a) / b) := by
  have h := div_parts (-a) b
  have h0 := Int.emod_nonneg (-a) (Int.ne_of_gt hb)
  have h1 := Int.emod_lt_of_pos (-a) hb
  exact div_unique (r := b - 1 - (-a) % b) hb (by rw [Int.mul_neg]; omega) (by omega) (by omega)
theorem div_bd {a b : Int} (ha : 0 ≤ a) (hb : 0 < b) : 0 ≤ a / b ∧ a / b ≤ a :=
  ⟨Int.ediv_nonneg ha (by omega), Int.ediv_le_self b ha⟩
theorem floor_tdiv {x b : Int} (hb : 0 < b) : (if Int.tmod x b < 0 then Int.tdiv x b - 1 else Int.tdiv x b) = x / b := by
  by_cases h : 0 ≤ x
  · have h0 := Int.emod_nonneg x (Int.ne_of_gt hb)
    rw [tmod_pos h, tdiv_pos h, if_neg (by omega)]
  · rw [tmod_neg (by omega), tdiv_neg (by omega)]
    have h0 := Int.emod_nonneg (-x) (Int.ne_of_gt hb)
    have e := neg_div (a := -x) hb
    rw [Int.neg_neg] at e
    rw [e]
    by_cases hz : (-x) % b = 0
    · rw [if_pos hz, if_neg (by omega)]
    · rw [if_neg hz, if_pos (by omega)]
theorem floor_bd {x b : Int} (hb : 0 < b) : (0 ≤ x → 0 ≤ x / b ∧ x / b ≤ x) ∧ (x < 0 → x ≤ x / b ∧ x / b < 0) := by
  refine ⟨fun h => div_bd h hb, fun h => ?_⟩
  have e := neg_div (a := -x) hb
  rw [Int.neg_neg] at e
  have d := div_bd (a := -x) (by omega) hb
  have p := div_parts (-x) b
  have h0 := Int.emod_nonneg (-x) (Int.ne_of_gt hb)
  rw [e]
  split
  · next hz =>
    rw [hz] at p
    have : (-x) / b ≠ 0 := fun e0 => by rw [e0, Int.mul_zero] at p; omega
    omega
  · next hz =>
    have : (-x) / b < -x := by
      rcases Int.lt_or_eq_of_le d.2 with h2 | h2
      · exact h2
      · exfalso
        rw [h2] at p
        have hb1 : b ≠ 1 := fun e1 => by subst e1; omega
        have : 2 * (-x) ≤ b * (-x) := Int.mul_le_mul_of_nonneg_right (by omega) (by omega)
        omega
    omega

theorem inRange_eq (a b c : Int) : impl_inRange.f a b c = some (decide (b ≤ a ∧ a ≤ c)) := by
  unfold impl_inRange.f; by_cases h : b ≤ a <;> simp [h]

theorem l1In_eq (a b c : Int) : spec_l1In.f a b c = some (decide (b ≤ a ∧ a ≤ c)) := by
  unfold spec_l1In.f; by_cases h : b ≤ a <;> simp [h]

theorem within_eq (a b : Int) (h0 : 0 ≤ b) (h1 : b ≤ 9000000000000000000) : impl_within.f a b = some (decide (-b ≤ a ∧ a ≤ b)) := by
  unfold impl_within.f; rw [inRange_eq, w64 (by omega) (by omega)]; rfl

theorem codeIf_eq (b : Bool) (c : Int) : impl_codeIf.f b c = some (if b = true then c else 0) := by
  unfold impl_codeIf.f; cases b <;> rfl

theorem floorDiv_eq (x b : Int) (hb : 0 < b) (h0 : -9000000000000000000 ≤ x) (h1 : x ≤ 9000000000000000000) : impl_floorDiv.f x b = some (x / b) := by
  have e := floor_tdiv (x := x) hb
  have d := floor_bd (x := x) hb
  unfold impl_floorDiv.f
  rw [if_neg (by omega)]
  by_cases h : Int.tmod x b < 0
  · rw [if_pos h] at e ⊢
    rw [w64 (x := Int.tdiv x b) (by omega) (by omega), w64 (by omega) (by omega), e]
  · rw [if_neg h] at e ⊢
    rw [w64 (by omega) (by omega), e]

theorem l1Ceil_eq (x b : Int) (hb : 0 < b) (h0 : 0 ≤ x) (h1 : x + b ≤ 9000000000000000000) : spec_l1Ceil.f x b = some (-((-x) / b)) := by
  have e := ceil_div (a := x) hb
  have d := div_bd (a := x + b - 1) (by omega) hb
  unfold spec_l1Ceil.f
  rw [if_neg (by omega), w64 (x := x + b) (by omega) (by omega), w64 (x := x + b - 1) (by omega) (by omega), tdiv_pos (by omega), w64 (by omega) (by omega), e]

theorem l1Floor_eq (x b : Int) (hb : 0 < b) (hb2 : b ≤ 1000000000000000000) (h0 : -8000000000000000000 ≤ x) (h1 : x ≤ 9000000000000000000) : spec_l1Floor.f x b = some (x / b) := by
  have d := floor_bd (x := x) hb
  unfold spec_l1Floor.f
  by_cases h : x < 0
  · rw [if_pos h, w64 (by omega) (by omega), l1Ceil_eq _ _ hb (by omega) (by omega)]
    simp only [Option.bind_some, Int.neg_neg]
    rw [w64 (by omega) (by omega)]
  · rw [if_neg h, if_neg (by omega), tdiv_pos (by omega), w64 (by omega) (by omega)]

theorem l5Wide_eq (a b : Int) : spec_l5Wide.f a b = some (decide ((-137438953472 ≤ a ∧ a ≤ 137438953472) ∧ (-137438953472 ≤ b ∧ b ≤ 137438953472))) := by
  unfold spec_l5Wide.f; rw [l1In_eq, l1In_eq]; simp only [Option.bind_some]
  by_cases h : (-137438953472 ≤ a ∧ a ≤ 137438953472) <;> simp [h]

theorem wideFault_eq (a b : Int) : impl_wideFault.f a b = some (if (-137438953472 ≤ a ∧ a ≤ 137438953472) ∧ (-137438953472 ≤ b ∧ b ≤ 137438953472) then 0 else 3) := by
  unfold impl_wideFault.f; rw [within_eq _ _ (by omega) (by omega), within_eq _ _ (by omega) (by omega)]; simp only [Option.bind_some, codeIf_eq]
  by_cases h : (-137438953472 ≤ a ∧ a ≤ 137438953472) <;> by_cases h2 : (-137438953472 ≤ b ∧ b ≤ 137438953472) <;> simp [h, h2]

theorem l5Mix_eq (a b : Int) (ha : -1000000000000000000 ≤ a ∧ a ≤ 1000000000000000000) (hb : -1000000000000000000 ≤ b ∧ b ≤ 1000000000000000000) : spec_l5Mix.f a b = some (b + (a - b) / 2, a - b) := by
  unfold spec_l5Mix.f
  rw [w64 (x := a - b) (by omega) (by omega), l1Floor_eq _ _ (by omega) (by omega) (by omega) (by omega)]
  simp only [Option.bind_some]
  rw [w64 (by omega) (by omega)]

theorem mix_eq (a b : Int) (ha : -1000000000000000000 ≤ a ∧ a ≤ 1000000000000000000) (hb : -1000000000000000000 ≤ b ∧ b ≤ 1000000000000000000) : impl_mix.f a b = some (b + (a - b) / 2, a - b) := by
  unfold impl_mix.f
  rw [w64 (x := a - b) (by omega) (by omega), floorDiv_eq _ _ (by omega) (by omega) (by omega)]
  simp only [Option.bind_some]
  rw [w64 (by omega) (by omega)]

theorem l5Part_eq (s d : Int) (hs : -1000000000000000000 ≤ s ∧ s ≤ 1000000000000000000) (hd : -1000000000000000000 ≤ d ∧ d ≤ 1000000000000000000) : spec_l5Part.f s d = some (s - d / 2 + d, s - d / 2) := by
  unfold spec_l5Part.f
  rw [l1Floor_eq _ _ (by omega) (by omega) (by omega) (by omega)]
  simp only [Option.bind_some]
  rw [w64 (x := s - d / 2) (by omega) (by omega), w64 (by omega) (by omega)]

theorem part_eq (s d : Int) (hs : -1000000000000000000 ≤ s ∧ s ≤ 1000000000000000000) (hd : -1000000000000000000 ≤ d ∧ d ≤ 1000000000000000000) : impl_part.f s d = some (s - d / 2 + d, s - d / 2) := by
  unfold impl_part.f
  rw [floorDiv_eq _ _ (by omega) (by omega) (by omega)]
  simp only [Option.bind_some]
  rw [w64 (x := s - d / 2) (by omega) (by omega), w64 (by omega) (by omega)]

theorem rd_nat (xs : List Int) (i : Nat) : rd xs (i : Int) = xs.getD i 0 := by unfold rd; rw [Int.toNat_natCast]
theorem rd_get (xs : List Int) (i : Nat) (h : i < xs.length) : rd xs (i : Int) = xs[i] := by
  rw [rd_nat, List.getD_eq_getElem?_getD, List.getElem?_eq_getElem h]; rfl
theorem w64_succ (i : Nat) (h : i ≤ 4000000000000000000) : wrap64 ((i : Int) + 1) = ((i + 1 : Nat) : Int) := by
  rw [w64 (by omega) (by omega)]; omega
theorem nat_nonneg (i : Nat) : 0 ≤ (i : Int) := Int.natCast_nonneg i
theorem set_get_take {xs ys : List Int} {i : Nat} (hl : ys.length = xs.length) (ht : ys.take i = xs.take i) (hi : i < xs.length) :
    (ys.set i (rd xs (i : Int))).take (i + 1) = xs.take (i + 1) := by
  rw [rd_get xs i hi]
  apply List.ext_getElem?
  intro n
  by_cases hn : n < i + 1
  · rw [List.getElem?_take_of_lt hn, List.getElem?_take_of_lt hn]
    by_cases e : n = i
    · subst e
      rw [List.getElem?_set_self (by omega), List.getElem?_eq_getElem hi]
    · rw [List.getElem?_set_ne (by omega)]
      have := congrArg (fun l => l[n]?) ht
      simp only [List.getElem?_take_of_lt (show n < i by omega)] at this
      exact this
  · rw [List.getElem?_take_eq_none (by omega), List.getElem?_take_eq_none (by omega)]

theorem u8_of_wf {x : Int} (h : (Lit.int .u8 x).wf = true) : 0 ≤ x ∧ x < 256 := by
  have := h
  simp [Lit.wf, IntKind.min, IntKind.max, IntKind.bits, IntKind.signed] at this
  omega
def Bytes (xs : List Int) : Prop := ∀ x ∈ xs, 0 ≤ x ∧ x < 256
theorem Bytes.rd {xs : List Int} (h : Bytes xs) (i : Nat) : 0 ≤ rd xs (i : Int) ∧ rd xs (i : Int) < 256 := by
  rw [rd_nat, List.getD_eq_getElem?_getD]
  by_cases hi : i < xs.length
  · rw [List.getElem?_eq_getElem hi]; exact h _ (List.getElem_mem hi)
  · rw [List.getElem?_eq_none (by omega)]; exact ⟨by simp, by simp⟩

theorem rd_bd {c : List Int} (hc : Bytes c) (i : Int) : 0 ≤ rd c i ∧ rd c i ≤ 255 := by
  unfold rd
  rw [List.getD_eq_getElem?_getD]
  by_cases h : i.toNat < c.length
  · rw [List.getElem?_eq_getElem h]
    have := hc _ (List.getElem_mem h)
    simp only [Option.getD_some]
    omega
  · rw [List.getElem?_eq_none (by omega)]
    simp
theorem tmod_bd {a : Int} (h : 0 ≤ a) {b : Int} (hb : 0 < b) : 0 ≤ Int.tmod a b ∧ Int.tmod a b < b := by
  rw [tmod_pos h]
  exact ⟨Int.emod_nonneg _ (by omega), Int.emod_lt_of_pos _ hb⟩
theorem l1Next_ok {c : List Int} (hc : Bytes c) (at' n : Int) (h0 : 0 ≤ at') (h1 : at' ≤ 1073741824) :
    ∃ v, spec_l1Next.f c at' n = some (v, at' + 1) ∧ (1 ≤ n → 0 ≤ v ∧ v < n) ∧ (n < 1 → v = 0) := by
  have e1 : wrap64 (at' + 1) = at' + 1 := w64 (by omega) (by omega)
  have e2 : at' + 1 - 1 = at' := by omega
  have e3 : wrap64 at' = at' := w64 (by omega) (by omega)
  have e4 : wrap64 (at' + 2) = at' + 2 := w64 (by omega) (by omega)
  unfold spec_l1Next.f
  simp only [e1, e2, e3, e4]
  by_cases hn1 : n < 1
  · rw [if_pos hn1]
    exact ⟨0, rfl, fun h => by omega, fun _ => rfl⟩
  · rw [if_neg hn1]
    by_cases hl : (c.length : Int) = 0
    · rw [if_pos hl, if_neg (by omega), w64 (x := at' * 7) (by omega) (by omega)]
      exact ⟨_, rfl, fun _ => tmod_bd (by omega) (by omega), fun h => absurd h hn1⟩
    · rw [if_neg hl]
      have hL : 0 < (c.length : Int) := by omega
      have q0 := tmod_bd h0 hL
      have q1 := tmod_bd (show 0 ≤ at' + 1 by omega) hL
      have q2 := tmod_bd (show 0 ≤ at' + 2 by omega) hL
      have hd := div_bd h0 hL
      rw [← tdiv_pos h0] at hd
      have r0 := rd_bd hc (Int.tmod at' c.length)
      have r1 := rd_bd hc (Int.tmod (at' + 1) c.length)
      have r2 := rd_bd hc (Int.tmod (at' + 2) c.length)
      rw [if_pos q0.1, if_pos q0.2, if_pos q1.1, if_pos q1.2, if_pos q2.1, if_pos q2.2]
      generalize rd c (Int.tmod at' c.length) = R0 at r0 ⊢
      generalize rd c (Int.tmod (at' + 1) c.length) = R1 at r1 ⊢
      generalize rd c (Int.tmod (at' + 2) c.length) = R2 at r2 ⊢
      generalize Int.tdiv at' c.length = D at hd ⊢
      simp (disch := omega) only [w64]
      simp only [if_neg (show ¬ n = 0 by omega)]
      by_cases g1 : n > 200
      · by_cases g2 : n > 60000
        · simp only [if_pos g1, if_pos g2]
          exact ⟨_, rfl, fun _ => tmod_bd (by omega) (by omega), fun h => absurd h hn1⟩
        · simp only [if_pos g1, if_neg g2]
          exact ⟨_, rfl, fun _ => tmod_bd (by omega) (by omega), fun h => absurd h hn1⟩
      · by_cases g2 : n > 60000
        · omega
        · simp only [if_neg g1, if_neg g2]
          exact ⟨_, rfl, fun _ => tmod_bd (by omega) (by omega), fun h => absurd h hn1⟩

theorem l1Pick_ok {c : List Int} (hc : Bytes c) (at' : Int) (xs : List Int) (h0 : 0 ≤ at') (h1 : at' ≤ 1073741824) (hx : 1 ≤ xs.length) :
    ∃ v, spec_l1Pick.f c at' xs = some (v, at' + 1) ∧ v ∈ xs := by
  obtain ⟨v, e, hv, _⟩ := l1Next_ok hc at' (xs.length : Int) h0 h1
  have hv := hv (by omega)
  refine ⟨rd xs v, ?_, ?_⟩
  · unfold spec_l1Pick.f
    rw [e]
    simp only [Option.bind_some]
    rw [if_pos hv.1, if_pos hv.2]
  · unfold rd
    rw [List.getD_eq_getElem?_getD, List.getElem?_eq_getElem (show v.toNat < xs.length by omega)]
    exact List.getElem_mem _

theorem l1Signed_ok {c : List Int} (hc : Bytes c) (at' n : Int) (h0 : 0 ≤ at') (h1 : at' ≤ 1073741824) (hn : 0 ≤ n) (hn2 : n ≤ 1152921504606846976) :
    ∃ v, spec_l1Signed.f c at' n = some (v, at' + 1) ∧ -n ≤ v ∧ v ≤ n := by
  obtain ⟨v, e, hv, _⟩ := l1Next_ok hc at' (2 * n + 1) h0 h1
  have hv := hv (by omega)
  refine ⟨v - n, ?_, by omega, by omega⟩
  unfold spec_l1Signed.f
  rw [w64 (x := 2 * n) (by omega) (by omega), w64 (x := 2 * n + 1) (by omega) (by omega), e]
  simp only [Option.bind_some]
  rw [w64 (by omega) (by omega)]

theorem l5Some_ok {c : List Int} (hc : Bytes c) (at' : Int) (h0 : 0 ≤ at') (h1 : at' ≤ 1073741000) :
    ∃ v, spec_l5Some.f c at' = some (v, at' + 5) := by
  unfold spec_l5Some.f
  obtain ⟨v1, e1, _⟩ := l1Signed_ok hc at' 9 h0 (by omega) (by omega) (by omega)
  obtain ⟨v2, e2, _⟩ := l1Signed_ok hc (at' + 1) 9 (by omega) (by omega) (by omega) (by omega)
  obtain ⟨v3, e3, _⟩ := l1Signed_ok hc (at' + 1 + 1) 40000 (by omega) (by omega) (by omega) (by omega)
  obtain ⟨v4, e4, _⟩ := l1Signed_ok hc (at' + 1 + 1 + 1) 40000 (by omega) (by omega) (by omega) (by omega)
  rw [e1]; simp only [Option.bind_some]
  rw [e2]; simp only [Option.bind_some]
  rw [e3]; simp only [Option.bind_some]
  rw [e4]; simp only [Option.bind_some]
  obtain ⟨v5, e5, _⟩ := l1Pick_ok hc (at' + 1 + 1 + 1 + 1) [0, 1, -1, v1, v2, v3, v4, 137438953472, -137438953472] (by omega) (by omega) (by simp)
  rw [e5]; simp only [Option.bind_some]
  exact ⟨v5, by rw [show at' + 1 + 1 + 1 + 1 + 1 = at' + 5 by omega]⟩

theorem drawTurnPair_ok {c : List Int} (hc : Bytes c) : ∃ s n a b, spec_DrawTurnPair.f c = some (s, n, a, b) := by
  have hT : ∃ s n, spec_DrawTurnOf.f c = some (s, n) := by
    unfold spec_DrawTurnOf.f spec_l1Source.f spec_l1BentSize.f
    simp only [Option.bind_some]
    obtain ⟨s, e1, _⟩ := l1Pick_ok hc 0 [4, 8, 16, 8, 4, 8, 16, 8, 4, 8, 16, 8, 0, 5, 32] (by omega) (by omega) (by simp)
    rw [e1]; simp only [Option.bind_some]
    obtain ⟨n, e2, _⟩ := l1Pick_ok hc (0 + 1) [0, 1, 2, 3, 4, 5, 6, 7, 0, 1, 8, -1] (by omega) (by omega) (by simp)
    rw [e2]; simp only [Option.bind_some]
    exact ⟨s, n, rfl⟩
  obtain ⟨s, n, eT⟩ := hT
  unfold spec_DrawTurnPair.f spec_l1Source.f
  simp only [Option.bind_some]
  rw [eT]; simp only [Option.bind_some]
  obtain ⟨v1, e1⟩ := l5Some_ok hc 0 (by omega) (by omega)
  obtain ⟨v2, e2⟩ := l5Some_ok hc (0 + 5) (by omega) (by omega)
  obtain ⟨v3, e3⟩ := l5Some_ok hc (0 + 5 + 5) (by omega) (by omega)
  rw [e1]; simp only [Option.bind_some]
  rw [e2]; simp only [Option.bind_some]
  rw [e3]; simp only [Option.bind_some]
  obtain ⟨v4, e4, _⟩ := l1Pick_ok hc (0 + 5 + 5 + 5) [v1, v2, v3, 137438953473] (by omega) (by omega) (by simp)
  rw [e4]; simp only [Option.bind_some]
  obtain ⟨v5, e5⟩ := l5Some_ok hc (0 + 5 + 5 + 5 + 1) (by omega) (by omega)
  obtain ⟨v6, e6⟩ := l5Some_ok hc (0 + 5 + 5 + 5 + 1 + 5) (by omega) (by omega)
  obtain ⟨v7, e7⟩ := l5Some_ok hc (0 + 5 + 5 + 5 + 1 + 5 + 5) (by omega) (by omega)
  rw [e5]; simp only [Option.bind_some]
  rw [e6]; simp only [Option.bind_some]
  rw [e7]; simp only [Option.bind_some]
  obtain ⟨v8, e8, _⟩ := l1Pick_ok hc (0 + 5 + 5 + 5 + 1 + 5 + 5 + 5) [v5, v6, v7, -137438953473] (by omega) (by omega) (by simp)
  rw [e8]; simp only [Option.bind_some]
  exact ⟨_, _, _, _, rfl⟩

def pmF (a b : Int) (r : Int × Int) : Int × Int × Int := if (-137438953472 ≤ a ∧ a ≤ 137438953472) ∧ (-137438953472 ≤ b ∧ b ≤ 137438953472) then (0, r.1, r.2) else (3, 0, 0)
theorem pmF_in {a b : Int} (h : (-137438953472 ≤ a ∧ a ≤ 137438953472) ∧ (-137438953472 ≤ b ∧ b ≤ 137438953472)) (r : Int × Int) : pmF a b r = (0, r.1, r.2) := by unfold pmF; rw [if_pos h]
theorem pmF_out {a b : Int} (h : ¬ ((-137438953472 ≤ a ∧ a ≤ 137438953472) ∧ (-137438953472 ≤ b ∧ b ≤ 137438953472))) (r : Int × Int) : pmF a b r = (3, 0, 0) := by unfold pmF; rw [if_neg h]

theorem spec_MixPair_eq (a b : Int) : spec_MixPair.f a b = some (pmF a b (b+(a-b)/2,a-b)) := by
  unfold spec_MixPair.f
  rw [l5Wide_eq]
  simp only [Option.bind_some]
  by_cases h : (-137438953472 ≤ a ∧ a ≤ 137438953472) ∧ (-137438953472 ≤ b ∧ b ≤ 137438953472)
  · rw [pmF_in h, l5Mix_eq _ _ (by omega) (by omega)]
    simp [h]
  · rw [pmF_out h]
    simp [h]

theorem spec_PartPair_eq (a b : Int) : spec_PartPair.f a b = some (pmF a b (a-b/2+b,a-b/2)) := by
  unfold spec_PartPair.f
  rw [l5Wide_eq]
  simp only [Option.bind_some]
  by_cases h : (-137438953472 ≤ a ∧ a ≤ 137438953472) ∧ (-137438953472 ≤ b ∧ b ≤ 137438953472)
  · rw [pmF_in h, l5Part_eq _ _ (by omega) (by omega)]
    simp [h]
  · rw [pmF_out h]
    simp [h]

theorem impl_MixPair_eq (a b : Int) : impl_MixPair.f a b = some (pmF a b (b+(a-b)/2,a-b)) := by
  unfold impl_MixPair.f
  rw [wideFault_eq]
  simp only [Option.bind_some]
  by_cases h : (-137438953472 ≤ a ∧ a ≤ 137438953472) ∧ (-137438953472 ≤ b ∧ b ≤ 137438953472)
  · rw [pmF_in h, mix_eq _ _ (by omega) (by omega)]
    simp [h]
  · rw [pmF_out h]
    simp [h]

theorem impl_PartPair_eq (a b : Int) : impl_PartPair.f a b = some (pmF a b (a-b/2+b,a-b/2)) := by
  unfold impl_PartPair.f
  rw [wideFault_eq]
  simp only [Option.bind_some]
  by_cases h : (-137438953472 ≤ a ∧ a ≤ 137438953472) ∧ (-137438953472 ≤ b ∧ b ≤ 137438953472)
  · rw [pmF_in h, part_eq _ _ (by omega) (by omega)]
    simp [h]
  · rw [pmF_out h]
    simp [h]

-- PLUS: lists bytes partmix
theorem mixes_j0 (a b : Int) (K : Nat) : laws_FnMixes.j0 (K + 1) a b false (pmF a b (b + (a - b) / 2, a - b)).1 (pmF a b (b + (a - b) / 2, a - b)).2.1 (pmF a b (b + (a - b) / 2, a - b)).2.2 (pmF a b (a - b / 2 + b, a - b / 2)).1 (pmF a b (a - b / 2 + b, a - b / 2)).2.1 (pmF a b (a - b / 2 + b, a - b / 2)).2.2 = some true := by
  simp only [laws_FnMixes.j0]
  rw [if_neg (by decide)]
  by_cases h : (-137438953472 ≤ a ∧ a ≤ 137438953472) ∧ (-137438953472 ≤ b ∧ b ≤ 137438953472)
  · rw [pmF_in h, pmF_in h]
    simp only [if_true]
    rw [impl_PartPair_eq, impl_MixPair_eq, spec_PartPair_eq, spec_MixPair_eq]
    simp only [Option.bind_some]
    have w1 : wrap64 (a - b / 2 + b - (a - b / 2)) = b := by rw [w64 (by omega) (by omega)]; omega
    have w2 : wrap64 (a - b) = a - b := w64 (by omega) (by omega)
    have p1 : b + (a - b) / 2 - (a - b) / 2 + (a - b) = a := by omega
    have p2 : b + (a - b) / 2 - (a - b) / 2 = b := by omega
    have m1 : a - b / 2 + (a - b / 2 + b - (a - b / 2)) / 2 = a := by
      rw [show a - b / 2 + b - (a - b / 2) = b by omega]; omega
    have m2 : a - b / 2 + b - (a - b / 2) = b := by omega
    rw [w1, w2, p1, p2, m1, m2]
    by_cases g1 : (-137438953472 ≤ b + (a - b) / 2 ∧ b + (a - b) / 2 ≤ 137438953472) ∧ (-137438953472 ≤ a - b ∧ a - b ≤ 137438953472)
    · by_cases g2 : (-137438953472 ≤ a - b / 2 + b ∧ a - b / 2 + b ≤ 137438953472) ∧ (-137438953472 ≤ a - b / 2 ∧ a - b / 2 ≤ 137438953472)
      · rw [pmF_in g1, pmF_in g2]; simp
      · rw [pmF_in g1, pmF_out g2]; simp
    · by_cases g2 : (-137438953472 ≤ a - b / 2 + b ∧ a - b / 2 + b ≤ 137438953472) ∧ (-137438953472 ≤ a - b / 2 ∧ a - b / 2 ≤ 137438953472)
      · rw [pmF_out g1, pmF_in g2]; simp
      · rw [pmF_out g1, pmF_out g2]; simp
  · rw [pmF_out h]; rfl
theorem FnMixes : laws_FnMixes.Pure := by
  intro l0 h1 h2 h3
  have hc : Bytes l0 := fun x hx => u8_of_wf (h3 x hx)
  obtain ⟨s, n, a, b, hd⟩ := drawTurnPair_ok hc
  refine ⟨101, ?_⟩
  unfold laws_FnMixes.f laws_lwBig.f spec_DrawMixPair.f
  simp only [Option.bind_some, hd]
  split
  · rfl
  rw [impl_MixPair_eq, impl_PartPair_eq, spec_MixPair_eq, spec_PartPair_eq]
  simp only [Option.bind_some, if_true, bne_self_eq_false]
  exact mixes_j0 a b 100

end Go.Proofs.Ytmbmofjekdkjeaa.Pure
