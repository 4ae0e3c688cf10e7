/-
  Turns: what TurnPair turned, BackPair turns back, and the other way round, for every code.
-/
import Derived.Test.YtgfnmglnmpmjgaaPFnTurnsx
namespace Go.Proofs.Ytgfnmglnmpmjgaa.Pure
open Go.RowKit Go.Proofs.Ytgfnmglnmpmjgaa.PFnTurns Go.Proofs.YtgfnmglnmpmjgaaW.PrintWords Go.Proofs.YtgfnmglnmpmjgaaW.PrintLast Go.Proofs.YtgfnmglnmpmjgaaW.PrintMore
set_option linter.unusedVariables false
set_option linter.unusedSimpArgs false

theorem w64 {x : Int} (h1 : -9223372036854775808 ≤ x) (h2 : x ≤ 9223372036854775807) : wrap64 x = x := by
  unfold wrap64; omega
theorem tdiv_pos {a : Int} (h : 0 ≤ a) (b : Int) : Int.tdiv a b = a / b := Int.tdiv_eq_ediv_of_nonneg h
theorem tmod_pos {a : Int} (h : 0 ≤ a) (b : Int) : Int.tmod a b = a % b := Int.tmod_eq_emod_of_nonneg h
theorem tdiv_neg {a : Int} (h : a ≤ 0) (b : Int) : Int.tdiv a b = -((-a) / b) := by
  have := Int.neg_tdiv (-a) b
  rw [Int.neg_neg] at this
  rw [this, tdiv_pos (by omega)]
theorem tmod_neg {a : Int} (h : a ≤ 0) (b : Int) : Int.tmod a b = -((-a) % b) := by
  have := Int.neg_tmod (-a) b
  rw [Int.neg_neg] at this
  rw [this, tmod_pos (by omega)]
theorem div_unique {x b q r : Int} (hb : 0 < b) (h : r + b * q = x) (h0 : 0 ≤ r) (h1 : r < b) : x / b = q :=
  ((Int.ediv_emod_unique hb).2 ⟨h, h0, h1⟩).1
theorem div_parts (x b : Int) : b * (x / b) + x % b = x := Int.mul_ediv_add_emod x b
theorem neg_div {a b : Int} (hb : 0 < b) : (-a) / b = if a % b = 0 then -(a / b) else -(a / b) - 1 := by
  have h := div_parts a b
  have h0 := Int.emod_nonneg a (Int.ne_of_gt hb)
  have h1 := Int.emod_lt_of_pos a hb
  split
  · exact div_unique (r := 0) hb (by rw [Int.mul_neg]; omega) (by omega) (by omega)
  · exact div_unique (r := b - a % b) hb (by rw [Int.mul_sub, Int.mul_neg]; omega) (by omega) (by omega)
theorem ceil_div {a b : Int} (hb : 0 < b) : (a + b - 1) / b = -((-a) / b) := by
  have h := div_parts (-a) b
  have h0 := Int.emod_nonneg (-a) (Int.ne_of_gt hb)
  have h1 := Int.emod_lt_of_pos (-a) hb
  exact div_unique (r := b - 1 - (-a) % b) hb (by rw [Int.mul_neg]; omega) (by omega) (by omega)
theorem div_bd {a b : Int} (ha : 0 ≤ a) (hb : 0 < b) : 0 ≤ a / b ∧ a / b ≤ a :=
  ⟨Int.ediv_nonneg ha (by omega), Int.ediv_le_self b ha⟩
theorem floor_tdiv {x b : Int} (hb : 0 < b) : (if Int.tmod x b < 0 then Int.tdiv x b - 1 else Int.tdiv x b) = x / b := by
  by_cases h : 0 ≤ x
  · have h0 := Int.emod_nonneg x (Int.ne_of_gt hb)
    rw [tmod_pos h, tdiv_pos h, if_neg (by omega)]
  · rw [tmod_neg (by omega), tdiv_neg (by omega)]
    have h0 := Int.emod_nonneg (-x) (Int.ne_of_gt hb)
    have e := neg_div (a := -x) hb
    rw [Int.neg_neg] at e
    rw [e]
    by_cases hz : (-x) % b = 0
    · rw [if_pos hz, if_neg (by omega)]
    · rw [if_neg hz, if_pos (by omega)]
theorem floor_bd {x b : Int} (hb : 0 < b) : (0 ≤ x → 0 ≤ x / b ∧ x / b ≤ x) ∧ (x < 0 → x ≤ x / b ∧ x / b < 0) := by
  refine ⟨fun h => div_bd h hb, fun h => ?_⟩
  have e := neg_div (a := -x) hb
  rw [Int.neg_neg] at e
  have d := div_bd (a := -x) (by omega) hb
  have p := div_parts (-x) b
  have h0 := Int.emod_nonneg (-x) (Int.ne_of_gt hb)
  rw [e]
  split
  · next hz =>
    rw [hz] at p
    have : (-x) / b ≠ 0 := fun e0 => by rw [e0, Int.mul_zero] at p; omega
    omega
  · next hz =>
    have : (-x) / b < -x := by
      rcases Int.lt_or_eq_of_le d.2 with h2 | h2
      · exact h2
      · exfalso
        rw [h2] at p
        have hb1 : b ≠ 1 := fun e1 => by subst e1; omega
        have : 2 * (-x) ≤ b * (-x) := Int.mul_le_mul_of_nonneg_right (by omega) (by omega)
        omega
    omega

theorem inRange_eq (a b c : Int) : impl_inRange.f a b c = some (decide (b ≤ a ∧ a ≤ c)) := by
  unfold impl_inRange.f; by_cases h : b ≤ a <;> simp [h]

theorem l1In_eq (a b c : Int) : spec_l1In.f a b c = some (decide (b ≤ a ∧ a ≤ c)) := by
  unfold spec_l1In.f; by_cases h : b ≤ a <;> simp [h]

theorem within_eq (a b : Int) (h0 : 0 ≤ b) (h1 : b ≤ 9000000000000000000) : impl_within.f a b = some (decide (-b ≤ a ∧ a ≤ b)) := by
  unfold impl_within.f; rw [inRange_eq, w64 (by omega) (by omega)]; rfl

theorem codeIf_eq (b : Bool) (c : Int) : impl_codeIf.f b c = some (if b = true then c else 0) := by
  unfold impl_codeIf.f; cases b <;> rfl

theorem l1Ceil_eq (x b : Int) (hb : 0 < b) (h0 : 0 ≤ x) (h1 : x + b ≤ 9000000000000000000) : spec_l1Ceil.f x b = some (-((-x) / b)) := by
  have e := ceil_div (a := x) hb
  have d := div_bd (a := x + b - 1) (by omega) hb
  unfold spec_l1Ceil.f
  rw [if_neg (by omega), w64 (x := x + b) (by omega) (by omega), w64 (x := x + b - 1) (by omega) (by omega), tdiv_pos (by omega), w64 (by omega) (by omega), e]

theorem l1Floor_eq (x b : Int) (hb : 0 < b) (hb2 : b ≤ 1000000000000000000) (h0 : -8000000000000000000 ≤ x) (h1 : x ≤ 9000000000000000000) : spec_l1Floor.f x b = some (x / b) := by
  have d := floor_bd (x := x) hb
  unfold spec_l1Floor.f
  by_cases h : x < 0
  · rw [if_pos h, w64 (by omega) (by omega), l1Ceil_eq _ _ hb (by omega) (by omega)]
    simp only [Option.bind_some, Int.neg_neg]
    rw [w64 (by omega) (by omega)]
  · rw [if_neg h, if_neg (by omega), tdiv_pos (by omega), w64 (by omega) (by omega)]

theorem l1Ten_eq (x : Int) (h0 : -7000000000000000000 ≤ x) (h1 : x ≤ 8000000000000000000) : spec_l1Ten.f x = some ((x + 512) / 1024) := by
  unfold spec_l1Ten.f
  rw [w64 (by omega) (by omega), l1Floor_eq _ _ (by omega) (by omega) (by omega) (by omega)]; rfl

theorem tenOf_eq (x : Int) (h0 : -7000000000000000000 ≤ x) (h1 : x ≤ 8000000000000000000) : impl_tenOf.f x = some ((x + 512) / 1024) := by
  unfold impl_tenOf.f
  rw [w64 (by omega) (by omega)]

theorem l5Wide_eq (a b : Int) : spec_l5Wide.f a b = some (decide ((-137438953472 ≤ a ∧ a ≤ 137438953472) ∧ (-137438953472 ≤ b ∧ b ≤ 137438953472))) := by
  unfold spec_l5Wide.f; rw [l1In_eq, l1In_eq]; simp only [Option.bind_some]
  by_cases h : (-137438953472 ≤ a ∧ a ≤ 137438953472) <;> simp [h]

theorem wideFault_eq (a b : Int) : impl_wideFault.f a b = some (if (-137438953472 ≤ a ∧ a ≤ 137438953472) ∧ (-137438953472 ≤ b ∧ b ≤ 137438953472) then 0 else 3) := by
  unfold impl_wideFault.f; rw [within_eq _ _ (by omega) (by omega), within_eq _ _ (by omega) (by omega)]; simp only [Option.bind_some, codeIf_eq]
  by_cases h : (-137438953472 ≤ a ∧ a ≤ 137438953472) <;> by_cases h2 : (-137438953472 ≤ b ∧ b ≤ 137438953472) <;> simp [h, h2]

theorem rd_nat (xs : List Int) (i : Nat) : rd xs (i : Int) = xs.getD i 0 := by unfold rd; rw [Int.toNat_natCast]
theorem rd_get (xs : List Int) (i : Nat) (h : i < xs.length) : rd xs (i : Int) = xs[i] := by
  rw [rd_nat, List.getD_eq_getElem?_getD, List.getElem?_eq_getElem h]; rfl
theorem w64_succ (i : Nat) (h : i ≤ 4000000000000000000) : wrap64 ((i : Int) + 1) = ((i + 1 : Nat) : Int) := by
  rw [w64 (by omega) (by omega)]; omega
theorem nat_nonneg (i : Nat) : 0 ≤ (i : Int) := Int.natCast_nonneg i
theorem set_get_take {xs ys : List Int} {i : Nat} (hl : ys.length = xs.length) (ht : ys.take i = xs.take i) (hi : i < xs.length) :
    (ys.set i (rd xs (i : Int))).take (i + 1) = xs.take (i + 1) := by
  rw [rd_get xs i hi]
  apply List.ext_getElem?
  intro n
  by_cases hn : n < i + 1
  · rw [List.getElem?_take_of_lt hn, List.getElem?_take_of_lt hn]
    by_cases e : n = i
    · subst e
      rw [List.getElem?_set_self (by omega), List.getElem?_eq_getElem hi]
    · rw [List.getElem?_set_ne (by omega)]
      have := congrArg (fun l => l[n]?) ht
      simp only [List.getElem?_take_of_lt (show n < i by omega)] at this
      exact this
  · rw [List.getElem?_take_eq_none (by omega), List.getElem?_take_eq_none (by omega)]

theorem u8_of_wf {x : Int} (h : (Lit.int .u8 x).wf = true) : 0 ≤ x ∧ x < 256 := by
  have := h
  simp [Lit.wf, IntKind.min, IntKind.max, IntKind.bits, IntKind.signed] at this
  omega
def Bytes (xs : List Int) : Prop := ∀ x ∈ xs, 0 ≤ x ∧ x < 256
theorem Bytes.rd {xs : List Int} (h : Bytes xs) (i : Nat) : 0 ≤ rd xs (i : Int) ∧ rd xs (i : Int) < 256 := by
  rw [rd_nat, List.getD_eq_getElem?_getD]
  by_cases hi : i < xs.length
  · rw [List.getElem?_eq_getElem hi]; exact h _ (List.getElem_mem hi)
  · rw [List.getElem?_eq_none (by omega)]; exact ⟨by simp, by simp⟩

theorem rd_bd {c : List Int} (hc : Bytes c) (i : Int) : 0 ≤ rd c i ∧ rd c i ≤ 255 := by
  unfold rd
  rw [List.getD_eq_getElem?_getD]
  by_cases h : i.toNat < c.length
  · rw [List.getElem?_eq_getElem h]
    have := hc _ (List.getElem_mem h)
    simp only [Option.getD_some]
    omega
  · rw [List.getElem?_eq_none (by omega)]
    simp
theorem tmod_bd {a : Int} (h : 0 ≤ a) {b : Int} (hb : 0 < b) : 0 ≤ Int.tmod a b ∧ Int.tmod a b < b := by
  rw [tmod_pos h]
  exact ⟨Int.emod_nonneg _ (by omega), Int.emod_lt_of_pos _ hb⟩
theorem l1Next_ok {c : List Int} (hc : Bytes c) (at' n : Int) (h0 : 0 ≤ at') (h1 : at' ≤ 1073741824) :
    ∃ v, spec_l1Next.f c at' n = some (v, at' + 1) ∧ (1 ≤ n → 0 ≤ v ∧ v < n) ∧ (n < 1 → v = 0) := by
  have e1 : wrap64 (at' + 1) = at' + 1 := w64 (by omega) (by omega)
  have e2 : at' + 1 - 1 = at' := by omega
  have e3 : wrap64 at' = at' := w64 (by omega) (by omega)
  have e4 : wrap64 (at' + 2) = at' + 2 := w64 (by omega) (by omega)
  unfold spec_l1Next.f
  simp only [e1, e2, e3, e4]
  by_cases hn1 : n < 1
  · rw [if_pos hn1]
    exact ⟨0, rfl, fun h => by omega, fun _ => rfl⟩
  · rw [if_neg hn1]
    by_cases hl : (c.length : Int) = 0
    · rw [if_pos hl, if_neg (by omega), w64 (x := at' * 7) (by omega) (by omega)]
      exact ⟨_, rfl, fun _ => tmod_bd (by omega) (by omega), fun h => absurd h hn1⟩
    · rw [if_neg hl]
      have hL : 0 < (c.length : Int) := by omega
      have q0 := tmod_bd h0 hL
      have q1 := tmod_bd (show 0 ≤ at' + 1 by omega) hL
      have q2 := tmod_bd (show 0 ≤ at' + 2 by omega) hL
      have hd := div_bd h0 hL
      rw [← tdiv_pos h0] at hd
      have r0 := rd_bd hc (Int.tmod at' c.length)
      have r1 := rd_bd hc (Int.tmod (at' + 1) c.length)
      have r2 := rd_bd hc (Int.tmod (at' + 2) c.length)
      rw [if_pos q0.1, if_pos q0.2, if_pos q1.1, if_pos q1.2, if_pos q2.1, if_pos q2.2]
      generalize rd c (Int.tmod at' c.length) = R0 at r0 ⊢
      generalize rd c (Int.tmod (at' + 1) c.length) = R1 at r1 ⊢
      generalize rd c (Int.tmod (at' + 2) c.length) = R2 at r2 ⊢
      generalize Int.tdiv at' c.length = D at hd ⊢
      simp (disch := omega) only [w64]
      simp only [if_neg (show ¬ n = 0 by omega)]
      by_cases g1 : n > 200
      · by_cases g2 : n > 60000
        · simp only [if_pos g1, if_pos g2]
          exact ⟨_, rfl, fun _ => tmod_bd (by omega) (by omega), fun h => absurd h hn1⟩
        · simp only [if_pos g1, if_neg g2]
          exact ⟨_, rfl, fun _ => tmod_bd (by omega) (by omega), fun h => absurd h hn1⟩
      · by_cases g2 : n > 60000
        · omega
        · simp only [if_neg g1, if_neg g2]
          exact ⟨_, rfl, fun _ => tmod_bd (by omega) (by omega), fun h => absurd h hn1⟩

theorem l1Pick_ok {c : List Int} (hc : Bytes c) (at' : Int) (xs : List Int) (h0 : 0 ≤ at') (h1 : at' ≤ 1073741824) (hx : 1 ≤ xs.length) :
    ∃ v, spec_l1Pick.f c at' xs = some (v, at' + 1) ∧ v ∈ xs := by
  obtain ⟨v, e, hv, _⟩ := l1Next_ok hc at' (xs.length : Int) h0 h1
  have hv := hv (by omega)
  refine ⟨rd xs v, ?_, ?_⟩
  · unfold spec_l1Pick.f
    rw [e]
    simp only [Option.bind_some]
    rw [if_pos hv.1, if_pos hv.2]
  · unfold rd
    rw [List.getD_eq_getElem?_getD, List.getElem?_eq_getElem (show v.toNat < xs.length by omega)]
    exact List.getElem_mem _

theorem l1Signed_ok {c : List Int} (hc : Bytes c) (at' n : Int) (h0 : 0 ≤ at') (h1 : at' ≤ 1073741824) (hn : 0 ≤ n) (hn2 : n ≤ 1152921504606846976) :
    ∃ v, spec_l1Signed.f c at' n = some (v, at' + 1) ∧ -n ≤ v ∧ v ≤ n := by
  obtain ⟨v, e, hv, _⟩ := l1Next_ok hc at' (2 * n + 1) h0 h1
  have hv := hv (by omega)
  refine ⟨v - n, ?_, by omega, by omega⟩
  unfold spec_l1Signed.f
  rw [w64 (x := 2 * n) (by omega) (by omega), w64 (x := 2 * n + 1) (by omega) (by omega), e]
  simp only [Option.bind_some]
  rw [w64 (by omega) (by omega)]

def sizeF (a : Int) : Int := if a = 4 then 0 else if a = 8 then 0 else if a = 16 then 0 else 3
theorem sizeF_cases (a : Int) : (sizeF a = 0 ∧ (a = 4 ∨ a = 8 ∨ a = 16)) ∨ (sizeF a = 3 ∧ a ≠ 4 ∧ a ≠ 8 ∧ a ≠ 16) := by
  unfold sizeF
  by_cases h1 : a = 4
  · simp [h1]
  · by_cases h2 : a = 8
    · simp [h2]
    · by_cases h3 : a = 16 <;> simp [h1, h2, h3]
def allIn (lo hi : Int) (xs : List Int) : Bool := xs.all fun n => decide (lo ≤ n ∧ n ≤ hi)
def In (lo hi : Int) (xs : List Int) : Prop := ∀ x ∈ xs, lo ≤ x ∧ x ≤ hi
theorem allIn_iff (lo hi : Int) (xs : List Int) : allIn lo hi xs = true ↔ In lo hi xs := by
  unfold allIn
  rw [List.all_eq_true]
  exact ⟨fun h x hx => by simpa using h x hx, fun h x hx => by simpa using h x hx⟩
theorem allIn_cons (lo hi x : Int) (xs : List Int) : allIn lo hi (x :: xs) = (decide (lo ≤ x ∧ x ≤ hi) && allIn lo hi xs) := rfl
theorem drop_rd' (xs : List Int) (i : Nat) (h : i < xs.length) : xs.drop i = rd xs (i : Int) :: xs.drop (i + 1) := by
  rw [rd_get xs i h]; exact List.drop_eq_getElem_cons h
def nz : List Int → Int
  | [] => 0
  | x :: xs => if x = 0 then nz xs else x

theorem spec_SizeFault_eq (a : Int) : spec_SizeFault.f a = some (sizeF a) := by
  unfold spec_SizeFault.f sizeF
  by_cases h1 : a = 4
  · simp [h1]
  · by_cases h2 : a = 8
    · simp [h2]
    · by_cases h3 : a = 16 <;> simp [h1, h2, h3]

theorem impl_SizeFault_eq (a : Int) : impl_SizeFault.f a = some (sizeF a) := by
  unfold impl_SizeFault.f sizeF
  by_cases h1 : a = 4
  · simp [h1]
  · by_cases h2 : a = 8
    · simp [h2]
    · by_cases h3 : a = 16 <;> simp [h1, h2, h3]

theorem first_l0 (xs : List Int) (hn : xs.length ≤ 1000) : ∀ (d i k : Nat), i + d = xs.length → d < k → impl_first.l0 k xs (xs.length : Int) (i : Int) = some (nz (xs.drop i)) := by
  intro d
  induction d with
  | zero =>
    intro i k hi hk
    obtain ⟨k, rfl⟩ : ∃ m, k = m + 1 := ⟨k - 1, by omega⟩
    simp only [impl_first.l0]
    rw [if_neg (by omega), List.drop_of_length_le (by omega)]; rfl
  | succ d ih =>
    intro i k hi hk
    obtain ⟨k, rfl⟩ : ∃ m, k = m + 1 := ⟨k - 1, by omega⟩
    simp only [impl_first.l0]
    rw [if_pos (by omega), if_pos (by omega), if_pos (by omega), drop_rd' xs i (by omega), nz]
    by_cases h : rd xs (i : Int) = 0
    · rw [if_pos h, if_pos h, w64_succ _ (by omega)]
      exact ih (i + 1) k (by omega) (by omega)
    · rw [if_neg h, if_neg h]
theorem first_eq (xs : List Int) (hn : xs.length ≤ 1000) (k : Nat) (hk : xs.length < k) : impl_first.f k xs = some (nz xs) :=
  first_l0 xs hn xs.length 0 k (by omega) hk

def tn (x : Int) : Int := (x + 512) / 1024
theorem mul_bd {p b M : Int} (hp : 0 ≤ p) (hp2 : p ≤ 1024) (hb : -M ≤ b) (hb2 : b ≤ M) : -(1024 * M) ≤ p * b ∧ p * b ≤ 1024 * M := by
  have h1 := Int.mul_le_mul_of_nonneg_left hb2 hp
  have h2 := Int.mul_le_mul_of_nonneg_left hb hp
  have h3 := Int.mul_le_mul_of_nonneg_right hp2 (show 0 ≤ M by omega)
  rw [Int.mul_neg] at h2
  omega
theorem tn_bd {x M : Int} (h0 : -(1024 * M) ≤ x) (h1 : x ≤ 1024 * M) : -M ≤ tn x ∧ tn x ≤ M := by unfold tn; omega
def forth (p u a b : Int) : Int × Int :=
  (a - tn (p * b) - tn (p * (b + tn (u * (a - tn (p * b))))), b + tn (u * (a - tn (p * b))))
def back (p u a b : Int) : Int × Int :=
  (a + tn (p * b) + tn (p * (b - tn (u * (a + tn (p * b))))), b - tn (u * (a + tn (p * b))))
theorem back_forth (p u a b : Int) : back p u (forth p u a b).1 (forth p u a b).2 = (a, b) := by
  unfold back forth
  simp only
  have e1 : a - tn (p * b) - tn (p * (b + tn (u * (a - tn (p * b))))) + tn (p * (b + tn (u * (a - tn (p * b))))) = a - tn (p * b) := by omega
  rw [e1]
  have e2 : b + tn (u * (a - tn (p * b))) - tn (u * (a - tn (p * b))) = b := by omega
  rw [e2]
  have e3 : a - tn (p * b) + tn (p * b) = a := by omega
  rw [e3]
theorem forth_back (p u a b : Int) : forth p u (back p u a b).1 (back p u a b).2 = (a, b) := by
  unfold back forth
  simp only
  have e1 : a + tn (p * b) + tn (p * (b - tn (u * (a + tn (p * b))))) - tn (p * (b - tn (u * (a + tn (p * b))))) = a + tn (p * b) := by omega
  rw [e1]
  have e2 : b - tn (u * (a + tn (p * b))) + tn (u * (a + tn (p * b))) = b := by omega
  rw [e2]
  have e3 : a + tn (p * b) - tn (p * b) = a := by omega
  rw [e3]
def Valid (s n : Int) : Prop := (s = 4 ∧ (n = 0 ∨ n = 1)) ∨ (s = 8 ∧ (n = 0 ∨ n = 1 ∨ n = 2 ∨ n = 3)) ∨ (s = 16 ∧ (n = 0 ∨ n = 1 ∨ n = 2 ∨ n = 3 ∨ n = 4 ∨ n = 5 ∨ n = 6 ∨ n = 7))
def tfault (s n : Int) : Int := if sizeF s = 0 then (if 0 ≤ n ∧ n ≤ wrap64 (wrap64 (Int.tdiv s 2) - 1) then 0 else 3) else 3
theorem tfault_cases (s n : Int) : (tfault s n = 0 ∧ Valid s n) ∨ tfault s n = 3 := by
  unfold tfault
  rcases sizeF_cases s with ⟨h, hc⟩ | ⟨h, _⟩
  · rw [if_pos h]
    by_cases hn : 0 ≤ n ∧ n ≤ wrap64 (wrap64 (Int.tdiv s 2) - 1)
    · rw [if_pos hn]
      refine .inl ⟨rfl, ?_⟩
      unfold Valid
      rcases hc with rfl | rfl | rfl
      · have e : wrap64 (wrap64 (Int.tdiv 4 2) - 1) = 1 := by unfold wrap64; decide
        rw [e] at hn; omega
      · have e : wrap64 (wrap64 (Int.tdiv 8 2) - 1) = 3 := by unfold wrap64; decide
        rw [e] at hn; omega
      · have e : wrap64 (wrap64 (Int.tdiv 16 2) - 1) = 7 := by unfold wrap64; decide
        rw [e] at hn; omega
    · rw [if_neg hn]; exact .inr rfl
  · rw [if_neg (by omega)]; exact .inr rfl

def pu (s n : Int) : Int × Int := (impl_turnOf.f s n).getD (0, 0)
theorem turnOf_eq {s n : Int} (h : Valid s n) : impl_turnOf.f s n = some (pu s n) ∧ (0 ≤ (pu s n).1 ∧ (pu s n).1 ≤ 1024) ∧ (0 ≤ (pu s n).2 ∧ (pu s n).2 ≤ 1024) := by
  unfold Valid at h
  rcases h with ⟨rfl, rfl | rfl⟩ | ⟨rfl, rfl | rfl | rfl | rfl⟩ | ⟨rfl, rfl | rfl | rfl | rfl | rfl | rfl | rfl | rfl⟩ <;> exact ⟨rfl, by decide, by decide⟩

theorem turnFault_eq (s n : Int) (k : Nat) (hk : 10 < k) : impl_turnFault.f k s n = some (tfault s n) := by
  unfold impl_turnFault.f
  rw [impl_SizeFault_eq, inRange_eq]
  simp only [Option.bind_some, codeIf_eq]
  rw [first_eq _ (by simp) k (by simp; omega)]
  simp only [Option.bind_some]
  congr 1
  unfold tfault
  rcases sizeF_cases s with ⟨h, _⟩ | ⟨h, _⟩
  · by_cases hn : 0 ≤ n ∧ n ≤ wrap64 (wrap64 (Int.tdiv s 2) - 1) <;> simp [nz, h, hn]
  · simp [nz, h]

theorem l5P_eq {s n : Int} (h : Valid s n) : spec_l5P.f s n = some (pu s n).1 := by
  unfold Valid at h
  rcases h with ⟨rfl, rfl | rfl⟩ | ⟨rfl, rfl | rfl | rfl | rfl⟩ | ⟨rfl, rfl | rfl | rfl | rfl | rfl | rfl | rfl | rfl⟩ <;> (unfold spec_l5P.f wrap64; decide)

theorem l5U_eq {s n : Int} (h : Valid s n) : spec_l5U.f s n = some (pu s n).2 := by
  unfold Valid at h
  rcases h with ⟨rfl, rfl | rfl⟩ | ⟨rfl, rfl | rfl | rfl | rfl⟩ | ⟨rfl, rfl | rfl | rfl | rfl | rfl | rfl | rfl | rfl⟩ <;> (unfold spec_l5U.f wrap64; decide)

theorem spec_TurnOf_eq (s n : Int) : spec_TurnOf.f s n = some (if tfault s n = 0 then (0, (pu s n).1, (pu s n).2) else (3, 0, 0)) := by
  unfold spec_TurnOf.f
  rw [spec_SizeFault_eq]
  simp only [Option.bind_some]
  rcases sizeF_cases s with ⟨h, _⟩ | ⟨h, _⟩
  · rw [if_pos h, l1In_eq]
    simp only [Option.bind_some]
    by_cases hn : 0 ≤ n ∧ n ≤ wrap64 (wrap64 (Int.tdiv s 2) - 1)
    · have ht : tfault s n = 0 := by unfold tfault; rw [if_pos h, if_pos hn]
      rcases tfault_cases s n with ⟨_, hv⟩ | h3
      · rw [if_pos (by simpa using hn), l5P_eq hv, l5U_eq hv, if_pos ht]; rfl
      · omega
    · have ht : tfault s n = 3 := by unfold tfault; rw [if_pos h, if_neg hn]
      rw [if_neg (by simpa using hn), ht]; rfl
  · have ht : tfault s n = 3 := by unfold tfault; rw [if_neg (by omega)]
    rw [h, ht]; rfl

theorem impl_TurnOf_eq (s n : Int) (k : Nat) (hk : 10 < k) : impl_TurnOf.f k s n = some (if tfault s n = 0 then (0, (pu s n).1, (pu s n).2) else (3, 0, 0)) := by
  unfold impl_TurnOf.f
  rw [turnFault_eq s n k hk]
  simp only [Option.bind_some]
  rcases tfault_cases s n with ⟨h, hv⟩ | h
  · rw [if_pos h, if_pos h, (turnOf_eq hv).1]; rfl
  · rw [h]; rfl

theorem turn_forth_eq (p u a b : Int) (hp : 0 ≤ p ∧ p ≤ 1024) (hu : 0 ≤ u ∧ u ≤ 1024) (ha : -1125899906842624 ≤ a ∧ a ≤ 1125899906842624) (hb : -1125899906842624 ≤ b ∧ b ≤ 1125899906842624) : impl_turn_forth.f p u a b = some (forth p u a b) := by
  have m1 := mul_bd hp.1 hp.2 hb.1 hb.2
  have t1 := tn_bd m1.1 m1.2
  have m2 := mul_bd (b := a - tn (p * b)) (M := 2251799813685248) hu.1 hu.2 (by omega) (by omega)
  have t2 := tn_bd m2.1 m2.2
  have m3 := mul_bd (b := b + tn (u * (a - tn (p * b)))) (M := 4503599627370496) hp.1 hp.2 (by omega) (by omega)
  have t3 := tn_bd m3.1 m3.2
  unfold impl_turn_forth.f
  rw [w64 (x := p * b) (by omega) (by omega), tenOf_eq _ (by omega) (by omega)]
  simp only [Option.bind_some]
  rw [show (p * b + 512) / 1024 = tn (p * b) from rfl, w64 (x := a - tn (p * b)) (by omega) (by omega), w64 (x := u * (a - tn (p * b))) (by omega) (by omega), tenOf_eq _ (by omega) (by omega)]
  simp only [Option.bind_some]
  rw [show (u * (a - tn (p * b)) + 512) / 1024 = tn (u * (a - tn (p * b))) from rfl, w64 (x := b + tn (u * (a - tn (p * b)))) (by omega) (by omega), w64 (x := p * (b + tn (u * (a - tn (p * b))))) (by omega) (by omega), tenOf_eq _ (by omega) (by omega)]
  simp only [Option.bind_some]
  rw [show (p * (b + tn (u * (a - tn (p * b)))) + 512) / 1024 = tn (p * (b + tn (u * (a - tn (p * b))))) from rfl, w64 (by omega) (by omega)]
  rfl

theorem turn_back_eq (p u a b : Int) (hp : 0 ≤ p ∧ p ≤ 1024) (hu : 0 ≤ u ∧ u ≤ 1024) (ha : -1125899906842624 ≤ a ∧ a ≤ 1125899906842624) (hb : -1125899906842624 ≤ b ∧ b ≤ 1125899906842624) : impl_turn_back.f p u a b = some (back p u a b) := by
  have m1 := mul_bd hp.1 hp.2 hb.1 hb.2
  have t1 := tn_bd m1.1 m1.2
  have m2 := mul_bd (b := a + tn (p * b)) (M := 2251799813685248) hu.1 hu.2 (by omega) (by omega)
  have t2 := tn_bd m2.1 m2.2
  have m3 := mul_bd (b := b - tn (u * (a + tn (p * b)))) (M := 4503599627370496) hp.1 hp.2 (by omega) (by omega)
  have t3 := tn_bd m3.1 m3.2
  unfold impl_turn_back.f
  rw [w64 (x := p * b) (by omega) (by omega), tenOf_eq _ (by omega) (by omega)]
  simp only [Option.bind_some]
  rw [show (p * b + 512) / 1024 = tn (p * b) from rfl, w64 (x := a + tn (p * b)) (by omega) (by omega), w64 (x := u * (a + tn (p * b))) (by omega) (by omega), tenOf_eq _ (by omega) (by omega)]
  simp only [Option.bind_some]
  rw [show (u * (a + tn (p * b)) + 512) / 1024 = tn (u * (a + tn (p * b))) from rfl, w64 (x := b - tn (u * (a + tn (p * b)))) (by omega) (by omega), w64 (x := p * (b - tn (u * (a + tn (p * b))))) (by omega) (by omega), tenOf_eq _ (by omega) (by omega)]
  simp only [Option.bind_some]
  rw [show (p * (b - tn (u * (a + tn (p * b)))) + 512) / 1024 = tn (p * (b - tn (u * (a + tn (p * b))))) from rfl, w64 (by omega) (by omega)]
  rfl

theorem l5Turn_eq {s n : Int} (hv : Valid s n) (a b : Int) (ha : -1125899906842624 ≤ a ∧ a ≤ 1125899906842624) (hb : -1125899906842624 ≤ b ∧ b ≤ 1125899906842624) : spec_l5Turn.f s n a b = some (forth (pu s n).1 (pu s n).2 a b) := by
  obtain ⟨_, hp, hu⟩ := turnOf_eq hv
  have eP := l5P_eq hv
  have eU := l5U_eq hv
  generalize (pu s n).1 = p at hp eP ⊢
  generalize (pu s n).2 = u at hu eU ⊢
  have m1 := mul_bd hp.1 hp.2 hb.1 hb.2
  have t1 := tn_bd m1.1 m1.2
  have m2 := mul_bd (b := a - tn (p * b)) (M := 2251799813685248) hu.1 hu.2 (by omega) (by omega)
  have t2 := tn_bd m2.1 m2.2
  have m3 := mul_bd (b := b + tn (u * (a - tn (p * b)))) (M := 4503599627370496) hp.1 hp.2 (by omega) (by omega)
  have t3 := tn_bd m3.1 m3.2
  unfold spec_l5Turn.f
  rw [eP, eU]
  simp only [Option.bind_some]
  rw [w64 (x := p * b) (by omega) (by omega), l1Ten_eq _ (by omega) (by omega)]
  simp only [Option.bind_some]
  rw [show (p * b + 512) / 1024 = tn (p * b) from rfl, w64 (x := a - tn (p * b)) (by omega) (by omega), w64 (x := u * (a - tn (p * b))) (by omega) (by omega), l1Ten_eq _ (by omega) (by omega)]
  simp only [Option.bind_some]
  rw [show (u * (a - tn (p * b)) + 512) / 1024 = tn (u * (a - tn (p * b))) from rfl, w64 (x := b + tn (u * (a - tn (p * b)))) (by omega) (by omega), w64 (x := p * (b + tn (u * (a - tn (p * b))))) (by omega) (by omega), l1Ten_eq _ (by omega) (by omega)]
  simp only [Option.bind_some]
  rw [show (p * (b + tn (u * (a - tn (p * b)))) + 512) / 1024 = tn (p * (b + tn (u * (a - tn (p * b))))) from rfl, w64 (by omega) (by omega)]
  rfl

theorem l5Back_eq {s n : Int} (hv : Valid s n) (a b : Int) (ha : -1125899906842624 ≤ a ∧ a ≤ 1125899906842624) (hb : -1125899906842624 ≤ b ∧ b ≤ 1125899906842624) : spec_l5Back.f s n a b = some (back (pu s n).1 (pu s n).2 a b) := by
  obtain ⟨_, hp, hu⟩ := turnOf_eq hv
  have eP := l5P_eq hv
  have eU := l5U_eq hv
  generalize (pu s n).1 = p at hp eP ⊢
  generalize (pu s n).2 = u at hu eU ⊢
  have m1 := mul_bd hp.1 hp.2 hb.1 hb.2
  have t1 := tn_bd m1.1 m1.2
  have m2 := mul_bd (b := a + tn (p * b)) (M := 2251799813685248) hu.1 hu.2 (by omega) (by omega)
  have t2 := tn_bd m2.1 m2.2
  have m3 := mul_bd (b := b - tn (u * (a + tn (p * b)))) (M := 4503599627370496) hp.1 hp.2 (by omega) (by omega)
  have t3 := tn_bd m3.1 m3.2
  unfold spec_l5Back.f
  rw [eP, eU]
  simp only [Option.bind_some]
  rw [w64 (x := p * b) (by omega) (by omega), l1Ten_eq _ (by omega) (by omega)]
  simp only [Option.bind_some]
  rw [show (p * b + 512) / 1024 = tn (p * b) from rfl, w64 (x := a + tn (p * b)) (by omega) (by omega), w64 (x := u * (a + tn (p * b))) (by omega) (by omega), l1Ten_eq _ (by omega) (by omega)]
  simp only [Option.bind_some]
  rw [show (u * (a + tn (p * b)) + 512) / 1024 = tn (u * (a + tn (p * b))) from rfl, w64 (x := b - tn (u * (a + tn (p * b)))) (by omega) (by omega), w64 (x := p * (b - tn (u * (a + tn (p * b))))) (by omega) (by omega), l1Ten_eq _ (by omega) (by omega)]
  simp only [Option.bind_some]
  rw [show (p * (b - tn (u * (a + tn (p * b)))) + 512) / 1024 = tn (p * (b - tn (u * (a + tn (p * b))))) from rfl, w64 (by omega) (by omega)]
  rfl

theorem l5Ask_eq (s n a b : Int) : spec_l5Ask.f s n a b = some (if tfault s n = 0 then (if (-137438953472 ≤ a ∧ a ≤ 137438953472) ∧ (-137438953472 ≤ b ∧ b ≤ 137438953472) then 0 else 3) else 3) := by
  unfold spec_l5Ask.f
  rw [spec_TurnOf_eq, l5Wide_eq]
  simp only [Option.bind_some]
  rcases tfault_cases s n with ⟨h, hv⟩ | h
  · by_cases hw : (-137438953472 ≤ a ∧ a ≤ 137438953472) ∧ (-137438953472 ≤ b ∧ b ≤ 137438953472) <;> simp [h, hw]
  · simp [h]

def pairF (s n a b : Int) (r : Int × Int) : Int × Int × Int := if tfault s n = 0 then (if (-137438953472 ≤ a ∧ a ≤ 137438953472) ∧ (-137438953472 ≤ b ∧ b ≤ 137438953472) then (0, r.1, r.2) else (3, 0, 0)) else (3, 0, 0)

theorem spec_TurnPair_eq (s n a b : Int) : spec_TurnPair.f s n a b = some (pairF s n a b (forth (pu s n).1 (pu s n).2 a b)) := by
  unfold spec_TurnPair.f pairF
  rw [l5Ask_eq]
  simp only [Option.bind_some]
  rcases tfault_cases s n with ⟨h, hv⟩ | h
  · by_cases hw : (-137438953472 ≤ a ∧ a ≤ 137438953472) ∧ (-137438953472 ≤ b ∧ b ≤ 137438953472)
    · simp only [if_pos h, if_pos hw, if_true]
      rw [l5Turn_eq hv a b (by omega) (by omega)]; rfl
    · simp only [if_pos h, if_neg hw]; rfl
  · simp [h]

theorem spec_BackPair_eq (s n a b : Int) : spec_BackPair.f s n a b = some (pairF s n a b (back (pu s n).1 (pu s n).2 a b)) := by
  unfold spec_BackPair.f pairF
  rw [l5Ask_eq]
  simp only [Option.bind_some]
  rcases tfault_cases s n with ⟨h, hv⟩ | h
  · by_cases hw : (-137438953472 ≤ a ∧ a ≤ 137438953472) ∧ (-137438953472 ≤ b ∧ b ≤ 137438953472)
    · simp only [if_pos h, if_pos hw, if_true]
      rw [l5Back_eq hv a b (by omega) (by omega)]; rfl
    · simp only [if_pos h, if_neg hw]; rfl
  · simp [h]

theorem impl_TurnPair_eq (s n a b : Int) (k : Nat) (hk : 10 < k) : impl_TurnPair.f k s n a b = some (pairF s n a b (forth (pu s n).1 (pu s n).2 a b)) := by
  unfold impl_TurnPair.f pairF
  rw [turnFault_eq s n k hk, wideFault_eq]
  simp only [Option.bind_some]
  rw [first_eq _ (by simp) k (by simp; omega)]
  simp only [Option.bind_some]
  rcases tfault_cases s n with ⟨h, hv⟩ | h
  · by_cases hw : (-137438953472 ≤ a ∧ a ≤ 137438953472) ∧ (-137438953472 ≤ b ∧ b ≤ 137438953472)
    · obtain ⟨e, hp, hu⟩ := turnOf_eq hv
      simp only [if_pos h, if_pos hw, h, nz, if_true, e, Option.bind_some]
      rw [turn_forth_eq _ _ a b hp hu (by omega) (by omega)]; rfl
    · simp only [if_pos h, if_neg hw, h, nz]; rfl
  · simp [h, nz]

theorem impl_BackPair_eq (s n a b : Int) (k : Nat) (hk : 10 < k) : impl_BackPair.f k s n a b = some (pairF s n a b (back (pu s n).1 (pu s n).2 a b)) := by
  unfold impl_BackPair.f pairF
  rw [turnFault_eq s n k hk, wideFault_eq]
  simp only [Option.bind_some]
  rw [first_eq _ (by simp) k (by simp; omega)]
  simp only [Option.bind_some]
  rcases tfault_cases s n with ⟨h, hv⟩ | h
  · by_cases hw : (-137438953472 ≤ a ∧ a ≤ 137438953472) ∧ (-137438953472 ≤ b ∧ b ≤ 137438953472)
    · obtain ⟨e, hp, hu⟩ := turnOf_eq hv
      simp only [if_pos h, if_pos hw, h, nz, if_true, e, Option.bind_some]
      rw [turn_back_eq _ _ a b hp hu (by omega) (by omega)]; rfl
    · simp only [if_pos h, if_neg hw, h, nz]; rfl
  · simp [h, nz]

theorem l5Some_ok {c : List Int} (hc : Bytes c) (at' : Int) (h0 : 0 ≤ at') (h1 : at' ≤ 1073741000) :
    ∃ v, spec_l5Some.f c at' = some (v, at' + 5) := by
  unfold spec_l5Some.f
  obtain ⟨v1, e1, _⟩ := l1Signed_ok hc at' 9 h0 (by omega) (by omega) (by omega)
  obtain ⟨v2, e2, _⟩ := l1Signed_ok hc (at' + 1) 9 (by omega) (by omega) (by omega) (by omega)
  obtain ⟨v3, e3, _⟩ := l1Signed_ok hc (at' + 1 + 1) 40000 (by omega) (by omega) (by omega) (by omega)
  obtain ⟨v4, e4, _⟩ := l1Signed_ok hc (at' + 1 + 1 + 1) 40000 (by omega) (by omega) (by omega) (by omega)
  rw [e1]; simp only [Option.bind_some]
  rw [e2]; simp only [Option.bind_some]
  rw [e3]; simp only [Option.bind_some]
  rw [e4]; simp only [Option.bind_some]
  obtain ⟨v5, e5, _⟩ := l1Pick_ok hc (at' + 1 + 1 + 1 + 1) [0, 1, -1, v1, v2, v3, v4, 137438953472, -137438953472] (by omega) (by omega) (by simp)
  rw [e5]; simp only [Option.bind_some]
  exact ⟨v5, by rw [show at' + 1 + 1 + 1 + 1 + 1 = at' + 5 by omega]⟩

theorem drawTurnPair_ok {c : List Int} (hc : Bytes c) : ∃ s n a b, spec_DrawTurnPair.f c = some (s, n, a, b) := by
  have hT : ∃ s n, spec_DrawTurnOf.f c = some (s, n) := by
    unfold spec_DrawTurnOf.f spec_l1Source.f spec_l1BentSize.f
    simp only [Option.bind_some]
    obtain ⟨s, e1, _⟩ := l1Pick_ok hc 0 [4, 8, 16, 8, 4, 8, 16, 8, 4, 8, 16, 8, 0, 5, 32] (by omega) (by omega) (by simp)
    rw [e1]; simp only [Option.bind_some]
    obtain ⟨n, e2, _⟩ := l1Pick_ok hc (0 + 1) [0, 1, 2, 3, 4, 5, 6, 7, 0, 1, 8, -1] (by omega) (by omega) (by simp)
    rw [e2]; simp only [Option.bind_some]
    exact ⟨s, n, rfl⟩
  obtain ⟨s, n, eT⟩ := hT
  unfold spec_DrawTurnPair.f spec_l1Source.f
  simp only [Option.bind_some]
  rw [eT]; simp only [Option.bind_some]
  obtain ⟨v1, e1⟩ := l5Some_ok hc 0 (by omega) (by omega)
  obtain ⟨v2, e2⟩ := l5Some_ok hc (0 + 5) (by omega) (by omega)
  obtain ⟨v3, e3⟩ := l5Some_ok hc (0 + 5 + 5) (by omega) (by omega)
  rw [e1]; simp only [Option.bind_some]
  rw [e2]; simp only [Option.bind_some]
  rw [e3]; simp only [Option.bind_some]
  obtain ⟨v4, e4, _⟩ := l1Pick_ok hc (0 + 5 + 5 + 5) [v1, v2, v3, 137438953473] (by omega) (by omega) (by simp)
  rw [e4]; simp only [Option.bind_some]
  obtain ⟨v5, e5⟩ := l5Some_ok hc (0 + 5 + 5 + 5 + 1) (by omega) (by omega)
  obtain ⟨v6, e6⟩ := l5Some_ok hc (0 + 5 + 5 + 5 + 1 + 5) (by omega) (by omega)
  obtain ⟨v7, e7⟩ := l5Some_ok hc (0 + 5 + 5 + 5 + 1 + 5 + 5) (by omega) (by omega)
  rw [e5]; simp only [Option.bind_some]
  rw [e6]; simp only [Option.bind_some]
  rw [e7]; simp only [Option.bind_some]
  obtain ⟨v8, e8, _⟩ := l1Pick_ok hc (0 + 5 + 5 + 5 + 1 + 5 + 5 + 5) [v5, v6, v7, -137438953473] (by omega) (by omega) (by simp)
  rw [e8]; simp only [Option.bind_some]
  exact ⟨_, _, _, _, rfl⟩

-- PLUS: lists sizef turns pairs bytes
theorem turns_j0 (s n a b : Int) (K : Nat) (hK : 10 < K) : laws_FnTurns.j0 (K + 1) s n a b false (pairF s n a b (forth (pu s n).1 (pu s n).2 a b)).1 (pairF s n a b (forth (pu s n).1 (pu s n).2 a b)).2.1 (pairF s n a b (forth (pu s n).1 (pu s n).2 a b)).2.2 = some true := by
  simp only [laws_FnTurns.j0]
  rw [if_neg (by decide)]
  by_cases h0 : (pairF s n a b (forth (pu s n).1 (pu s n).2 a b)).1 = 0
  · rw [if_pos h0]
    have hv : tfault s n = 0 ∧ ((-137438953472 ≤ a ∧ a ≤ 137438953472) ∧ (-137438953472 ≤ b ∧ b ≤ 137438953472)) := by
      unfold pairF at h0
      split at h0
      · next ht =>
        split at h0
        · next hw => exact ⟨ht, hw⟩
        · simp at h0
      · simp at h0
    have hp : ∀ r, pairF s n a b r = (0, r.1, r.2) := fun r => by unfold pairF; rw [if_pos hv.1, if_pos hv.2]
    rw [impl_BackPair_eq _ _ _ _ K hK, impl_BackPair_eq _ _ _ _ K hK, hp, hp]
    simp only [Option.bind_some]
    have hb : ∀ c d, pairF s n c d (back (pu s n).1 (pu s n).2 c d) = (0, (back (pu s n).1 (pu s n).2 c d).1, (back (pu s n).1 (pu s n).2 c d).2) ∨ (pairF s n c d (back (pu s n).1 (pu s n).2 c d)).1 = 3 := fun c d => by
      unfold pairF; rw [if_pos hv.1]; split
      · exact .inl rfl
      · exact .inr rfl
    rw [spec_BackPair_eq, spec_TurnPair_eq, impl_TurnPair_eq _ _ _ _ K hK]
    simp only [Option.bind_some]
    rcases hb (forth (pu s n).1 (pu s n).2 a b).1 (forth (pu s n).1 (pu s n).2 a b).2 with e | e
    · rw [e, back_forth]
      simp only [if_true]
      have ht : pairF s n (back (pu s n).1 (pu s n).2 a b).1 (back (pu s n).1 (pu s n).2 a b).2 (forth (pu s n).1 (pu s n).2 (back (pu s n).1 (pu s n).2 a b).1 (back (pu s n).1 (pu s n).2 a b).2) = (0, a, b) ∨ (pairF s n (back (pu s n).1 (pu s n).2 a b).1 (back (pu s n).1 (pu s n).2 a b).2 (forth (pu s n).1 (pu s n).2 (back (pu s n).1 (pu s n).2 a b).1 (back (pu s n).1 (pu s n).2 a b).2)).1 = 3 := by
        unfold pairF; rw [if_pos hv.1, forth_back]; split
        · exact .inl rfl
        · exact .inr rfl
      rcases ht with e2 | e2
      · rw [e2]; simp
      · rw [e2]; simp
    · rw [e]; simp
  · rw [if_neg h0]
theorem FnTurns : laws_FnTurns.Pure := by
  intro l0 h1 h2 h3
  have hc : Bytes l0 := fun x hx => u8_of_wf (h3 x hx)
  obtain ⟨s, n, a, b, hd⟩ := drawTurnPair_ok hc
  refine ⟨101, ?_⟩
  unfold laws_FnTurns.f laws_lwBig.f
  simp only [Option.bind_some, hd]
  split
  · rfl
  rw [impl_TurnPair_eq _ _ _ _ 101 (by omega), spec_TurnPair_eq, impl_TurnOf_eq _ _ 101 (by omega), spec_TurnOf_eq]
  simp only [Option.bind_some, if_true, beq_self_eq_true, Bool.not_true, Bool.or_self]
  exact turns_j0 s n a b 100 (by omega)

end Go.Proofs.Ytgfnmglnmpmjgaa.Pure
