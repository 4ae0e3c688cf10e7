/-
  Blocks: a block is restored from its coefficients, and a list from its halves, for every code.
-/
import Derived.Test.YtefagoglphajiaaPFnBlocksx13
namespace Go.Proofs.Ytefagoglphajiaa.Pure
open Go.RowKit Go.Proofs.Ytefagoglphajiaa.PFnBlocks Go.Proofs.YtefagoglphajiaaW.PrintWords Go.Proofs.YtefagoglphajiaaW.PrintLast Go.Proofs.YtefagoglphajiaaW.PrintMore
set_option linter.unusedVariables false
set_option linter.unusedSimpArgs false

theorem w64 {x : Int} (h1 : -9223372036854775808 ≤ x) (h2 : x ≤ 9223372036854775807) : wrap64 x = x := by
  unfold wrap64; omega
theorem tdiv_pos {a : Int} (h : 0 ≤ a) (b : Int) : Int.tdiv a b = a / b := Int.tdiv_eq_ediv_of_nonneg h
theorem tmod_pos {a : Int} (h : 0 ≤ a) (b : Int) : Int.tmod a b = a % b := Int.tmod_eq_emod_of_nonneg h
theorem tdiv_neg {a : Int} (h : a ≤ 0) (b : Int) : Int.tdiv a b = -((-a) / b) := by
  have := Int.neg_tdiv (-a) b
  rw [Int.neg_neg] at this
  rw [this, tdiv_pos (by omega)]
theorem tmod_neg {a : Int} (h : a ≤ 0) (b : Int) : Int.tmod a b = -((-a) % b) := by
  have := Int.neg_tmod (-a) b
  rw [Int.neg_neg] at this
  rw [this, tmod_pos (by omega)]
theorem div_unique {x b q r : Int} (hb : 0 < b) (h : r + b * q = x) (h0 : 0 ≤ r) (h1 : r < b) : x / b = q :=
  ((Int.ediv_emod_unique hb).2 ⟨h, h0, h1⟩).1
theorem div_parts (x b : Int) : b * (x / b) + x % b = x := Int.mul_ediv_add_emod x b
theorem neg_div {a b : Int} (hb : 0 < b) : (-a) / b = if a % b = 0 then -(a / b) else -(a / b) - 1 := by
  have h := div_parts a b
  have h0 := Int.emod_nonneg a (Int.ne_of_gt hb)
  have h1 := Int.emod_lt_of_pos a hb
  split
  · exact div_unique (r := 0) hb (by rw [Int.mul_neg]; omega) (by omega) (by omega)
  · exact div_unique (r := b - a % b) hb (by rw [Int.mul_sub, Int.mul_neg]; omega) (by omega) (by omega)
theorem ceil_div {a b : Int} (hb : 0 < b) : (a + b - 1) / b = -((-a) / b) := by
  have h := div_parts (-a) b
  have h0 := Int.emod_nonneg (-a) (Int.ne_of_gt hb)
  have h1 := Int.emod_lt_of_pos (-a) hb
  exact div_unique (r := b - 1 - (-a) % b) hb (by rw [Int.mul_neg]; omega) (by omega) (by omega)
theorem div_bd {a b : Int} (ha : 0 ≤ a) (hb : 0 < b) : 0 ≤ a / b ∧ a / b ≤ a :=
  ⟨Int.ediv_nonneg ha (by omega), Int.ediv_le_self b ha⟩
theorem floor_tdiv {x b : Int} (hb : 0 < b) : (if Int.tmod x b < 0 then Int.tdiv x b - 1 else Int.tdiv x b) = x / b := by
  by_cases h : 0 ≤ x
  · have h0 := Int.emod_nonneg x (Int.ne_of_gt hb)
    rw [tmod_pos h, tdiv_pos h, if_neg (by omega)]
  · rw [tmod_neg (by omega), tdiv_neg (by omega)]
    have h0 := Int.emod_nonneg (-x) (Int.ne_of_gt hb)
    have e := neg_div (a := -x) hb
    rw [Int.neg_neg] at e
    rw [e]
    by_cases hz : (-x) % b = 0
    · rw [if_pos hz, if_neg (by omega)]
    · rw [if_neg hz, if_pos (by omega)]
theorem floor_bd {x b : Int} (hb : 0 < b) : (0 ≤ x → 0 ≤ x / b ∧ x / b ≤ x) ∧ (x < 0 → x ≤ x / b ∧ x / b < 0) := by
  refine ⟨fun h => div_bd h hb, fun h => ?_⟩
  have e := neg_div (a := -x) hb
  rw [Int.neg_neg] at e
  have d := div_bd (a := -x) (by omega) hb
  have p := div_parts (-x) b
  have h0 := Int.emod_nonneg (-x) (Int.ne_of_gt hb)
  rw [e]
  split
  · next hz =>
    rw [hz] at p
    have : (-x) / b ≠ 0 := fun e0 => by rw [e0, Int.mul_zero] at p; omega
    omega
  · next hz =>
    have : (-x) / b < -x := by
      rcases Int.lt_or_eq_of_le d.2 with h2 | h2
      · exact h2
      · exfalso
        rw [h2] at p
        have hb1 : b ≠ 1 := fun e1 => by subst e1; omega
        have : 2 * (-x) ≤ b * (-x) := Int.mul_le_mul_of_nonneg_right (by omega) (by omega)
        omega
    omega

theorem inRange_eq (a b c : Int) : impl_inRange.f a b c = some (decide (b ≤ a ∧ a ≤ c)) := by
  unfold impl_inRange.f; by_cases h : b ≤ a <;> simp [h]

theorem l1In_eq (a b c : Int) : spec_l1In.f a b c = some (decide (b ≤ a ∧ a ≤ c)) := by
  unfold spec_l1In.f; by_cases h : b ≤ a <;> simp [h]

theorem within_eq (a b : Int) (h0 : 0 ≤ b) (h1 : b ≤ 9000000000000000000) : impl_within.f a b = some (decide (-b ≤ a ∧ a ≤ b)) := by
  unfold impl_within.f; rw [inRange_eq, w64 (by omega) (by omega)]; rfl

theorem codeIf_eq (b : Bool) (c : Int) : impl_codeIf.f b c = some (if b = true then c else 0) := by
  unfold impl_codeIf.f; cases b <;> rfl

theorem floorDiv_eq (x b : Int) (hb : 0 < b) (h0 : -9000000000000000000 ≤ x) (h1 : x ≤ 9000000000000000000) : impl_floorDiv.f x b = some (x / b) := by
  have e := floor_tdiv (x := x) hb
  have d := floor_bd (x := x) hb
  unfold impl_floorDiv.f
  rw [if_neg (by omega)]
  by_cases h : Int.tmod x b < 0
  · rw [if_pos h] at e ⊢
    rw [w64 (x := Int.tdiv x b) (by omega) (by omega), w64 (by omega) (by omega), e]
  · rw [if_neg h] at e ⊢
    rw [w64 (by omega) (by omega), e]

theorem l1Ceil_eq (x b : Int) (hb : 0 < b) (h0 : 0 ≤ x) (h1 : x + b ≤ 9000000000000000000) : spec_l1Ceil.f x b = some (-((-x) / b)) := by
  have e := ceil_div (a := x) hb
  have d := div_bd (a := x + b - 1) (by omega) hb
  unfold spec_l1Ceil.f
  rw [if_neg (by omega), w64 (x := x + b) (by omega) (by omega), w64 (x := x + b - 1) (by omega) (by omega), tdiv_pos (by omega), w64 (by omega) (by omega), e]

theorem l1Floor_eq (x b : Int) (hb : 0 < b) (hb2 : b ≤ 1000000000000000000) (h0 : -8000000000000000000 ≤ x) (h1 : x ≤ 9000000000000000000) : spec_l1Floor.f x b = some (x / b) := by
  have d := floor_bd (x := x) hb
  unfold spec_l1Floor.f
  by_cases h : x < 0
  · rw [if_pos h, w64 (by omega) (by omega), l1Ceil_eq _ _ hb (by omega) (by omega)]
    simp only [Option.bind_some, Int.neg_neg]
    rw [w64 (by omega) (by omega)]
  · rw [if_neg h, if_neg (by omega), tdiv_pos (by omega), w64 (by omega) (by omega)]

theorem l1Ten_eq (x : Int) (h0 : -7000000000000000000 ≤ x) (h1 : x ≤ 8000000000000000000) : spec_l1Ten.f x = some ((x + 512) / 1024) := by
  unfold spec_l1Ten.f
  rw [w64 (by omega) (by omega), l1Floor_eq _ _ (by omega) (by omega) (by omega) (by omega)]; rfl

theorem tenOf_eq (x : Int) (h0 : -7000000000000000000 ≤ x) (h1 : x ≤ 8000000000000000000) : impl_tenOf.f x = some ((x + 512) / 1024) := by
  unfold impl_tenOf.f
  rw [w64 (by omega) (by omega)]

theorem l5Mix_eq (a b : Int) (ha : -1000000000000000000 ≤ a ∧ a ≤ 1000000000000000000) (hb : -1000000000000000000 ≤ b ∧ b ≤ 1000000000000000000) : spec_l5Mix.f a b = some (b + (a - b) / 2, a - b) := by
  unfold spec_l5Mix.f
  rw [w64 (x := a - b) (by omega) (by omega), l1Floor_eq _ _ (by omega) (by omega) (by omega) (by omega)]
  simp only [Option.bind_some]
  rw [w64 (by omega) (by omega)]

theorem mix_eq (a b : Int) (ha : -1000000000000000000 ≤ a ∧ a ≤ 1000000000000000000) (hb : -1000000000000000000 ≤ b ∧ b ≤ 1000000000000000000) : impl_mix.f a b = some (b + (a - b) / 2, a - b) := by
  unfold impl_mix.f
  rw [w64 (x := a - b) (by omega) (by omega), floorDiv_eq _ _ (by omega) (by omega) (by omega)]
  simp only [Option.bind_some]
  rw [w64 (by omega) (by omega)]

theorem l5Part_eq (s d : Int) (hs : -1000000000000000000 ≤ s ∧ s ≤ 1000000000000000000) (hd : -1000000000000000000 ≤ d ∧ d ≤ 1000000000000000000) : spec_l5Part.f s d = some (s - d / 2 + d, s - d / 2) := by
  unfold spec_l5Part.f
  rw [l1Floor_eq _ _ (by omega) (by omega) (by omega) (by omega)]
  simp only [Option.bind_some]
  rw [w64 (x := s - d / 2) (by omega) (by omega), w64 (by omega) (by omega)]

theorem part_eq (s d : Int) (hs : -1000000000000000000 ≤ s ∧ s ≤ 1000000000000000000) (hd : -1000000000000000000 ≤ d ∧ d ≤ 1000000000000000000) : impl_part.f s d = some (s - d / 2 + d, s - d / 2) := by
  unfold impl_part.f
  rw [floorDiv_eq _ _ (by omega) (by omega) (by omega)]
  simp only [Option.bind_some]
  rw [w64 (x := s - d / 2) (by omega) (by omega), w64 (by omega) (by omega)]

theorem rd_nat (xs : List Int) (i : Nat) : rd xs (i : Int) = xs.getD i 0 := by unfold rd; rw [Int.toNat_natCast]
theorem rd_get (xs : List Int) (i : Nat) (h : i < xs.length) : rd xs (i : Int) = xs[i] := by
  rw [rd_nat, List.getD_eq_getElem?_getD, List.getElem?_eq_getElem h]; rfl
theorem w64_succ (i : Nat) (h : i ≤ 4000000000000000000) : wrap64 ((i : Int) + 1) = ((i + 1 : Nat) : Int) := by
  rw [w64 (by omega) (by omega)]; omega
theorem nat_nonneg (i : Nat) : 0 ≤ (i : Int) := Int.natCast_nonneg i
theorem set_get_take {xs ys : List Int} {i : Nat} (hl : ys.length = xs.length) (ht : ys.take i = xs.take i) (hi : i < xs.length) :
    (ys.set i (rd xs (i : Int))).take (i + 1) = xs.take (i + 1) := by
  rw [rd_get xs i hi]
  apply List.ext_getElem?
  intro n
  by_cases hn : n < i + 1
  · rw [List.getElem?_take_of_lt hn, List.getElem?_take_of_lt hn]
    by_cases e : n = i
    · subst e
      rw [List.getElem?_set_self (by omega), List.getElem?_eq_getElem hi]
    · rw [List.getElem?_set_ne (by omega)]
      have := congrArg (fun l => l[n]?) ht
      simp only [List.getElem?_take_of_lt (show n < i by omega)] at this
      exact this
  · rw [List.getElem?_take_eq_none (by omega), List.getElem?_take_eq_none (by omega)]

theorem u8_of_wf {x : Int} (h : (Lit.int .u8 x).wf = true) : 0 ≤ x ∧ x < 256 := by
  have := h
  simp [Lit.wf, IntKind.min, IntKind.max, IntKind.bits, IntKind.signed] at this
  omega
def Bytes (xs : List Int) : Prop := ∀ x ∈ xs, 0 ≤ x ∧ x < 256
theorem Bytes.rd {xs : List Int} (h : Bytes xs) (i : Nat) : 0 ≤ rd xs (i : Int) ∧ rd xs (i : Int) < 256 := by
  rw [rd_nat, List.getD_eq_getElem?_getD]
  by_cases hi : i < xs.length
  · rw [List.getElem?_eq_getElem hi]; exact h _ (List.getElem_mem hi)
  · rw [List.getElem?_eq_none (by omega)]; exact ⟨by simp, by simp⟩

theorem rd_bd {c : List Int} (hc : Bytes c) (i : Int) : 0 ≤ rd c i ∧ rd c i ≤ 255 := by
  unfold rd
  rw [List.getD_eq_getElem?_getD]
  by_cases h : i.toNat < c.length
  · rw [List.getElem?_eq_getElem h]
    have := hc _ (List.getElem_mem h)
    simp only [Option.getD_some]
    omega
  · rw [List.getElem?_eq_none (by omega)]
    simp
theorem tmod_bd {a : Int} (h : 0 ≤ a) {b : Int} (hb : 0 < b) : 0 ≤ Int.tmod a b ∧ Int.tmod a b < b := by
  rw [tmod_pos h]
  exact ⟨Int.emod_nonneg _ (by omega), Int.emod_lt_of_pos _ hb⟩
theorem l1Next_ok {c : List Int} (hc : Bytes c) (at' n : Int) (h0 : 0 ≤ at') (h1 : at' ≤ 1073741824) :
    ∃ v, spec_l1Next.f c at' n = some (v, at' + 1) ∧ (1 ≤ n → 0 ≤ v ∧ v < n) ∧ (n < 1 → v = 0) := by
  have e1 : wrap64 (at' + 1) = at' + 1 := w64 (by omega) (by omega)
  have e2 : at' + 1 - 1 = at' := by omega
  have e3 : wrap64 at' = at' := w64 (by omega) (by omega)
  have e4 : wrap64 (at' + 2) = at' + 2 := w64 (by omega) (by omega)
  unfold spec_l1Next.f
  simp only [e1, e2, e3, e4]
  by_cases hn1 : n < 1
  · rw [if_pos hn1]
    exact ⟨0, rfl, fun h => by omega, fun _ => rfl⟩
  · rw [if_neg hn1]
    by_cases hl : (c.length : Int) = 0
    · rw [if_pos hl, if_neg (by omega), w64 (x := at' * 7) (by omega) (by omega)]
      exact ⟨_, rfl, fun _ => tmod_bd (by omega) (by omega), fun h => absurd h hn1⟩
    · rw [if_neg hl]
      have hL : 0 < (c.length : Int) := by omega
      have q0 := tmod_bd h0 hL
      have q1 := tmod_bd (show 0 ≤ at' + 1 by omega) hL
      have q2 := tmod_bd (show 0 ≤ at' + 2 by omega) hL
      have hd := div_bd h0 hL
      rw [← tdiv_pos h0] at hd
      have r0 := rd_bd hc (Int.tmod at' c.length)
      have r1 := rd_bd hc (Int.tmod (at' + 1) c.length)
      have r2 := rd_bd hc (Int.tmod (at' + 2) c.length)
      rw [if_pos q0.1, if_pos q0.2, if_pos q1.1, if_pos q1.2, if_pos q2.1, if_pos q2.2]
      generalize rd c (Int.tmod at' c.length) = R0 at r0 ⊢
      generalize rd c (Int.tmod (at' + 1) c.length) = R1 at r1 ⊢
      generalize rd c (Int.tmod (at' + 2) c.length) = R2 at r2 ⊢
      generalize Int.tdiv at' c.length = D at hd ⊢
      simp (disch := omega) only [w64]
      simp only [if_neg (show ¬ n = 0 by omega)]
      by_cases g1 : n > 200
      · by_cases g2 : n > 60000
        · simp only [if_pos g1, if_pos g2]
          exact ⟨_, rfl, fun _ => tmod_bd (by omega) (by omega), fun h => absurd h hn1⟩
        · simp only [if_pos g1, if_neg g2]
          exact ⟨_, rfl, fun _ => tmod_bd (by omega) (by omega), fun h => absurd h hn1⟩
      · by_cases g2 : n > 60000
        · omega
        · simp only [if_neg g1, if_neg g2]
          exact ⟨_, rfl, fun _ => tmod_bd (by omega) (by omega), fun h => absurd h hn1⟩

theorem l1Pick_ok {c : List Int} (hc : Bytes c) (at' : Int) (xs : List Int) (h0 : 0 ≤ at') (h1 : at' ≤ 1073741824) (hx : 1 ≤ xs.length) :
    ∃ v, spec_l1Pick.f c at' xs = some (v, at' + 1) ∧ v ∈ xs := by
  obtain ⟨v, e, hv, _⟩ := l1Next_ok hc at' (xs.length : Int) h0 h1
  have hv := hv (by omega)
  refine ⟨rd xs v, ?_, ?_⟩
  · unfold spec_l1Pick.f
    rw [e]
    simp only [Option.bind_some]
    rw [if_pos hv.1, if_pos hv.2]
  · unfold rd
    rw [List.getD_eq_getElem?_getD, List.getElem?_eq_getElem (show v.toNat < xs.length by omega)]
    exact List.getElem_mem _

theorem l1Signed_ok {c : List Int} (hc : Bytes c) (at' n : Int) (h0 : 0 ≤ at') (h1 : at' ≤ 1073741824) (hn : 0 ≤ n) (hn2 : n ≤ 1152921504606846976) :
    ∃ v, spec_l1Signed.f c at' n = some (v, at' + 1) ∧ -n ≤ v ∧ v ≤ n := by
  obtain ⟨v, e, hv, _⟩ := l1Next_ok hc at' (2 * n + 1) h0 h1
  have hv := hv (by omega)
  refine ⟨v - n, ?_, by omega, by omega⟩
  unfold spec_l1Signed.f
  rw [w64 (x := 2 * n) (by omega) (by omega), w64 (x := 2 * n + 1) (by omega) (by omega), e]
  simp only [Option.bind_some]
  rw [w64 (by omega) (by omega)]

theorem any_not (p : Int → Bool) (xs : List Int) : (!xs.any fun n => !p n) = xs.all p := by
  induction xs with
  | nil => rfl
  | cons x xs ih => rw [List.any_cons, List.all_cons, ← ih]; cases p x <;> simp
theorem allWithin_eq (xs : List Int) (m : Int) (h0 : 0 ≤ m) (h1 : m ≤ 9000000000000000000) : impl_allWithin.f xs m = some (xs.all fun n => decide (-m ≤ n ∧ n ≤ m)) := by
  unfold impl_allWithin.f
  rw [if_pos ⟨h0, h1⟩, any_not]

def sizeF (a : Int) : Int := if a = 4 then 0 else if a = 8 then 0 else if a = 16 then 0 else 3
theorem sizeF_cases (a : Int) : (sizeF a = 0 ∧ (a = 4 ∨ a = 8 ∨ a = 16)) ∨ (sizeF a = 3 ∧ a ≠ 4 ∧ a ≠ 8 ∧ a ≠ 16) := by
  unfold sizeF
  by_cases h1 : a = 4
  · simp [h1]
  · by_cases h2 : a = 8
    · simp [h2]
    · by_cases h3 : a = 16 <;> simp [h1, h2, h3]
def allIn (lo hi : Int) (xs : List Int) : Bool := xs.all fun n => decide (lo ≤ n ∧ n ≤ hi)
def In (lo hi : Int) (xs : List Int) : Prop := ∀ x ∈ xs, lo ≤ x ∧ x ≤ hi
theorem allIn_iff (lo hi : Int) (xs : List Int) : allIn lo hi xs = true ↔ In lo hi xs := by
  unfold allIn
  rw [List.all_eq_true]
  exact ⟨fun h x hx => by simpa using h x hx, fun h x hx => by simpa using h x hx⟩
theorem allIn_cons (lo hi x : Int) (xs : List Int) : allIn lo hi (x :: xs) = (decide (lo ≤ x ∧ x ≤ hi) && allIn lo hi xs) := rfl
theorem drop_rd' (xs : List Int) (i : Nat) (h : i < xs.length) : xs.drop i = rd xs (i : Int) :: xs.drop (i + 1) := by
  rw [rd_get xs i h]; exact List.drop_eq_getElem_cons h
def nz : List Int → Int
  | [] => 0
  | x :: xs => if x = 0 then nz xs else x

theorem spec_SizeFault_eq (a : Int) : spec_SizeFault.f a = some (sizeF a) := by
  unfold spec_SizeFault.f sizeF
  by_cases h1 : a = 4
  · simp [h1]
  · by_cases h2 : a = 8
    · simp [h2]
    · by_cases h3 : a = 16 <;> simp [h1, h2, h3]

theorem impl_SizeFault_eq (a : Int) : impl_SizeFault.f a = some (sizeF a) := by
  unfold impl_SizeFault.f sizeF
  by_cases h1 : a = 4
  · simp [h1]
  · by_cases h2 : a = 8
    · simp [h2]
    · by_cases h3 : a = 16 <;> simp [h1, h2, h3]

theorem first_l0 (xs : List Int) (hn : xs.length ≤ 1000) : ∀ (d i k : Nat), i + d = xs.length → d < k → impl_first.l0 k xs (xs.length : Int) (i : Int) = some (nz (xs.drop i)) := by
  intro d
  induction d with
  | zero =>
    intro i k hi hk
    obtain ⟨k, rfl⟩ : ∃ m, k = m + 1 := ⟨k - 1, by omega⟩
    simp only [impl_first.l0]
    rw [if_neg (by omega), List.drop_of_length_le (by omega)]; rfl
  | succ d ih =>
    intro i k hi hk
    obtain ⟨k, rfl⟩ : ∃ m, k = m + 1 := ⟨k - 1, by omega⟩
    simp only [impl_first.l0]
    rw [if_pos (by omega), if_pos (by omega), if_pos (by omega), drop_rd' xs i (by omega), nz]
    by_cases h : rd xs (i : Int) = 0
    · rw [if_pos h, if_pos h, w64_succ _ (by omega)]
      exact ih (i + 1) k (by omega) (by omega)
    · rw [if_neg h, if_neg h]
theorem first_eq (xs : List Int) (hn : xs.length ≤ 1000) (k : Nat) (hk : xs.length < k) : impl_first.f k xs = some (nz xs) :=
  first_l0 xs hn xs.length 0 k (by omega) hk

def tn (x : Int) : Int := (x + 512) / 1024
theorem mul_bd {p b M : Int} (hp : 0 ≤ p) (hp2 : p ≤ 1024) (hb : -M ≤ b) (hb2 : b ≤ M) : -(1024 * M) ≤ p * b ∧ p * b ≤ 1024 * M := by
  have h1 := Int.mul_le_mul_of_nonneg_left hb2 hp
  have h2 := Int.mul_le_mul_of_nonneg_left hb hp
  have h3 := Int.mul_le_mul_of_nonneg_right hp2 (show 0 ≤ M by omega)
  rw [Int.mul_neg] at h2
  omega
theorem tn_bd {x M : Int} (h0 : -(1024 * M) ≤ x) (h1 : x ≤ 1024 * M) : -M ≤ tn x ∧ tn x ≤ M := by unfold tn; omega
def forth (p u a b : Int) : Int × Int :=
  (a - tn (p * b) - tn (p * (b + tn (u * (a - tn (p * b))))), b + tn (u * (a - tn (p * b))))
def back (p u a b : Int) : Int × Int :=
  (a + tn (p * b) + tn (p * (b - tn (u * (a + tn (p * b))))), b - tn (u * (a + tn (p * b))))
theorem back_forth (p u a b : Int) : back p u (forth p u a b).1 (forth p u a b).2 = (a, b) := by
  unfold back forth
  simp only
  have e1 : a - tn (p * b) - tn (p * (b + tn (u * (a - tn (p * b))))) + tn (p * (b + tn (u * (a - tn (p * b))))) = a - tn (p * b) := by omega
  rw [e1]
  have e2 : b + tn (u * (a - tn (p * b))) - tn (u * (a - tn (p * b))) = b := by omega
  rw [e2]
  have e3 : a - tn (p * b) + tn (p * b) = a := by omega
  rw [e3]
theorem forth_back (p u a b : Int) : forth p u (back p u a b).1 (back p u a b).2 = (a, b) := by
  unfold back forth
  simp only
  have e1 : a + tn (p * b) + tn (p * (b - tn (u * (a + tn (p * b))))) - tn (p * (b - tn (u * (a + tn (p * b))))) = a + tn (p * b) := by omega
  rw [e1]
  have e2 : b - tn (u * (a + tn (p * b))) + tn (u * (a + tn (p * b))) = b := by omega
  rw [e2]
  have e3 : a + tn (p * b) - tn (p * b) = a := by omega
  rw [e3]
def Valid (s n : Int) : Prop := (s = 4 ∧ (n = 0 ∨ n = 1)) ∨ (s = 8 ∧ (n = 0 ∨ n = 1 ∨ n = 2 ∨ n = 3)) ∨ (s = 16 ∧ (n = 0 ∨ n = 1 ∨ n = 2 ∨ n = 3 ∨ n = 4 ∨ n = 5 ∨ n = 6 ∨ n = 7))
def tfault (s n : Int) : Int := if sizeF s = 0 then (if 0 ≤ n ∧ n ≤ wrap64 (wrap64 (Int.tdiv s 2) - 1) then 0 else 3) else 3
theorem tfault_cases (s n : Int) : (tfault s n = 0 ∧ Valid s n) ∨ tfault s n = 3 := by
  unfold tfault
  rcases sizeF_cases s with ⟨h, hc⟩ | ⟨h, _⟩
  · rw [if_pos h]
    by_cases hn : 0 ≤ n ∧ n ≤ wrap64 (wrap64 (Int.tdiv s 2) - 1)
    · rw [if_pos hn]
      refine .inl ⟨rfl, ?_⟩
      unfold Valid
      rcases hc with rfl | rfl | rfl
      · have e : wrap64 (wrap64 (Int.tdiv 4 2) - 1) = 1 := by unfold wrap64; decide
        rw [e] at hn; omega
      · have e : wrap64 (wrap64 (Int.tdiv 8 2) - 1) = 3 := by unfold wrap64; decide
        rw [e] at hn; omega
      · have e : wrap64 (wrap64 (Int.tdiv 16 2) - 1) = 7 := by unfold wrap64; decide
        rw [e] at hn; omega
    · rw [if_neg hn]; exact .inr rfl
  · rw [if_neg (by omega)]; exact .inr rfl

def pu (s n : Int) : Int × Int := (impl_turnOf.f s n).getD (0, 0)
theorem turnOf_eq {s n : Int} (h : Valid s n) : impl_turnOf.f s n = some (pu s n) ∧ (0 ≤ (pu s n).1 ∧ (pu s n).1 ≤ 1024) ∧ (0 ≤ (pu s n).2 ∧ (pu s n).2 ≤ 1024) := by
  unfold Valid at h
  rcases h with ⟨rfl, rfl | rfl⟩ | ⟨rfl, rfl | rfl | rfl | rfl⟩ | ⟨rfl, rfl | rfl | rfl | rfl | rfl | rfl | rfl | rfl⟩ <;> exact ⟨rfl, by decide, by decide⟩

theorem l5P_eq {s n : Int} (h : Valid s n) : spec_l5P.f s n = some (pu s n).1 := by
  unfold Valid at h
  rcases h with ⟨rfl, rfl | rfl⟩ | ⟨rfl, rfl | rfl | rfl | rfl⟩ | ⟨rfl, rfl | rfl | rfl | rfl | rfl | rfl | rfl | rfl⟩ <;> (unfold spec_l5P.f wrap64; decide)

theorem l5U_eq {s n : Int} (h : Valid s n) : spec_l5U.f s n = some (pu s n).2 := by
  unfold Valid at h
  rcases h with ⟨rfl, rfl | rfl⟩ | ⟨rfl, rfl | rfl | rfl | rfl⟩ | ⟨rfl, rfl | rfl | rfl | rfl | rfl | rfl | rfl | rfl⟩ <;> (unfold spec_l5U.f wrap64; decide)

theorem turn_forth_eq (p u a b : Int) (hp : 0 ≤ p ∧ p ≤ 1024) (hu : 0 ≤ u ∧ u ≤ 1024) (ha : -1125899906842624 ≤ a ∧ a ≤ 1125899906842624) (hb : -1125899906842624 ≤ b ∧ b ≤ 1125899906842624) : impl_turn_forth.f p u a b = some (forth p u a b) := by
  have m1 := mul_bd hp.1 hp.2 hb.1 hb.2
  have t1 := tn_bd m1.1 m1.2
  have m2 := mul_bd (b := a - tn (p * b)) (M := 2251799813685248) hu.1 hu.2 (by omega) (by omega)
  have t2 := tn_bd m2.1 m2.2
  have m3 := mul_bd (b := b + tn (u * (a - tn (p * b)))) (M := 4503599627370496) hp.1 hp.2 (by omega) (by omega)
  have t3 := tn_bd m3.1 m3.2
  unfold impl_turn_forth.f
  rw [w64 (x := p * b) (by omega) (by omega), tenOf_eq _ (by omega) (by omega)]
  simp only [Option.bind_some]
  rw [show (p * b + 512) / 1024 = tn (p * b) from rfl, w64 (x := a - tn (p * b)) (by omega) (by omega), w64 (x := u * (a - tn (p * b))) (by omega) (by omega), tenOf_eq _ (by omega) (by omega)]
  simp only [Option.bind_some]
  rw [show (u * (a - tn (p * b)) + 512) / 1024 = tn (u * (a - tn (p * b))) from rfl, w64 (x := b + tn (u * (a - tn (p * b)))) (by omega) (by omega), w64 (x := p * (b + tn (u * (a - tn (p * b))))) (by omega) (by omega), tenOf_eq _ (by omega) (by omega)]
  simp only [Option.bind_some]
  rw [show (p * (b + tn (u * (a - tn (p * b)))) + 512) / 1024 = tn (p * (b + tn (u * (a - tn (p * b))))) from rfl, w64 (by omega) (by omega)]
  rfl

theorem turn_back_eq (p u a b : Int) (hp : 0 ≤ p ∧ p ≤ 1024) (hu : 0 ≤ u ∧ u ≤ 1024) (ha : -1125899906842624 ≤ a ∧ a ≤ 1125899906842624) (hb : -1125899906842624 ≤ b ∧ b ≤ 1125899906842624) : impl_turn_back.f p u a b = some (back p u a b) := by
  have m1 := mul_bd hp.1 hp.2 hb.1 hb.2
  have t1 := tn_bd m1.1 m1.2
  have m2 := mul_bd (b := a + tn (p * b)) (M := 2251799813685248) hu.1 hu.2 (by omega) (by omega)
  have t2 := tn_bd m2.1 m2.2
  have m3 := mul_bd (b := b - tn (u * (a + tn (p * b)))) (M := 4503599627370496) hp.1 hp.2 (by omega) (by omega)
  have t3 := tn_bd m3.1 m3.2
  unfold impl_turn_back.f
  rw [w64 (x := p * b) (by omega) (by omega), tenOf_eq _ (by omega) (by omega)]
  simp only [Option.bind_some]
  rw [show (p * b + 512) / 1024 = tn (p * b) from rfl, w64 (x := a + tn (p * b)) (by omega) (by omega), w64 (x := u * (a + tn (p * b))) (by omega) (by omega), tenOf_eq _ (by omega) (by omega)]
  simp only [Option.bind_some]
  rw [show (u * (a + tn (p * b)) + 512) / 1024 = tn (u * (a + tn (p * b))) from rfl, w64 (x := b - tn (u * (a + tn (p * b)))) (by omega) (by omega), w64 (x := p * (b - tn (u * (a + tn (p * b))))) (by omega) (by omega), tenOf_eq _ (by omega) (by omega)]
  simp only [Option.bind_some]
  rw [show (p * (b - tn (u * (a + tn (p * b)))) + 512) / 1024 = tn (p * (b - tn (u * (a + tn (p * b))))) from rfl, w64 (by omega) (by omega)]
  rfl

theorem l5Turn_eq {s n : Int} (hv : Valid s n) (a b : Int) (ha : -1125899906842624 ≤ a ∧ a ≤ 1125899906842624) (hb : -1125899906842624 ≤ b ∧ b ≤ 1125899906842624) : spec_l5Turn.f s n a b = some (forth (pu s n).1 (pu s n).2 a b) := by
  obtain ⟨_, hp, hu⟩ := turnOf_eq hv
  have eP := l5P_eq hv
  have eU := l5U_eq hv
  generalize (pu s n).1 = p at hp eP ⊢
  generalize (pu s n).2 = u at hu eU ⊢
  have m1 := mul_bd hp.1 hp.2 hb.1 hb.2
  have t1 := tn_bd m1.1 m1.2
  have m2 := mul_bd (b := a - tn (p * b)) (M := 2251799813685248) hu.1 hu.2 (by omega) (by omega)
  have t2 := tn_bd m2.1 m2.2
  have m3 := mul_bd (b := b + tn (u * (a - tn (p * b)))) (M := 4503599627370496) hp.1 hp.2 (by omega) (by omega)
  have t3 := tn_bd m3.1 m3.2
  unfold spec_l5Turn.f
  rw [eP, eU]
  simp only [Option.bind_some]
  rw [w64 (x := p * b) (by omega) (by omega), l1Ten_eq _ (by omega) (by omega)]
  simp only [Option.bind_some]
  rw [show (p * b + 512) / 1024 = tn (p * b) from rfl, w64 (x := a - tn (p * b)) (by omega) (by omega), w64 (x := u * (a - tn (p * b))) (by omega) (by omega), l1Ten_eq _ (by omega) (by omega)]
  simp only [Option.bind_some]
  rw [show (u * (a - tn (p * b)) + 512) / 1024 = tn (u * (a - tn (p * b))) from rfl, w64 (x := b + tn (u * (a - tn (p * b)))) (by omega) (by omega), w64 (x := p * (b + tn (u * (a - tn (p * b))))) (by omega) (by omega), l1Ten_eq _ (by omega) (by omega)]
  simp only [Option.bind_some]
  rw [show (p * (b + tn (u * (a - tn (p * b)))) + 512) / 1024 = tn (p * (b + tn (u * (a - tn (p * b))))) from rfl, w64 (by omega) (by omega)]
  rfl

theorem l5Back_eq {s n : Int} (hv : Valid s n) (a b : Int) (ha : -1125899906842624 ≤ a ∧ a ≤ 1125899906842624) (hb : -1125899906842624 ≤ b ∧ b ≤ 1125899906842624) : spec_l5Back.f s n a b = some (back (pu s n).1 (pu s n).2 a b) := by
  obtain ⟨_, hp, hu⟩ := turnOf_eq hv
  have eP := l5P_eq hv
  have eU := l5U_eq hv
  generalize (pu s n).1 = p at hp eP ⊢
  generalize (pu s n).2 = u at hu eU ⊢
  have m1 := mul_bd hp.1 hp.2 hb.1 hb.2
  have t1 := tn_bd m1.1 m1.2
  have m2 := mul_bd (b := a + tn (p * b)) (M := 2251799813685248) hu.1 hu.2 (by omega) (by omega)
  have t2 := tn_bd m2.1 m2.2
  have m3 := mul_bd (b := b - tn (u * (a + tn (p * b)))) (M := 4503599627370496) hp.1 hp.2 (by omega) (by omega)
  have t3 := tn_bd m3.1 m3.2
  unfold spec_l5Back.f
  rw [eP, eU]
  simp only [Option.bind_some]
  rw [w64 (x := p * b) (by omega) (by omega), l1Ten_eq _ (by omega) (by omega)]
  simp only [Option.bind_some]
  rw [show (p * b + 512) / 1024 = tn (p * b) from rfl, w64 (x := a + tn (p * b)) (by omega) (by omega), w64 (x := u * (a + tn (p * b))) (by omega) (by omega), l1Ten_eq _ (by omega) (by omega)]
  simp only [Option.bind_some]
  rw [show (u * (a + tn (p * b)) + 512) / 1024 = tn (u * (a + tn (p * b))) from rfl, w64 (x := b - tn (u * (a + tn (p * b)))) (by omega) (by omega), w64 (x := p * (b - tn (u * (a + tn (p * b))))) (by omega) (by omega), l1Ten_eq _ (by omega) (by omega)]
  simp only [Option.bind_some]
  rw [show (p * (b - tn (u * (a + tn (p * b)))) + 512) / 1024 = tn (p * (b - tn (u * (a + tn (p * b))))) from rfl, w64 (by omega) (by omega)]
  rfl

theorem l1All_l0 (xs : List Int) (lo hi : Int) (hn : xs.length ≤ 1000000000000) : ∀ (d i k : Nat), i + d = xs.length → d < k → spec_l1All.l0 k xs lo hi (i : Int) = some (allIn lo hi (xs.drop i)) := by
  intro d
  induction d with
  | zero =>
    intro i k hi' hk
    obtain ⟨k, rfl⟩ : ∃ m, k = m + 1 := ⟨k - 1, by omega⟩
    simp only [spec_l1All.l0]
    rw [if_neg (by omega), List.drop_of_length_le (by omega)]; rfl
  | succ d ih =>
    intro i k hi' hk
    obtain ⟨k, rfl⟩ : ∃ m, k = m + 1 := ⟨k - 1, by omega⟩
    simp only [spec_l1All.l0]
    rw [if_pos (by omega), if_pos (by omega), l1In_eq, drop_rd' xs i (by omega), allIn_cons]
    simp only [Option.bind_some]
    by_cases h : lo ≤ rd xs (i : Int) ∧ rd xs (i : Int) ≤ hi
    · rw [decide_eq_true h, if_pos rfl, w64_succ _ (by omega), ih (i + 1) k (by omega) (by omega)]; rfl
    · rw [decide_eq_false h]; rfl
theorem l1All_eq (xs : List Int) (lo hi : Int) (hn : xs.length ≤ 1000000000000) (k : Nat) (hk : xs.length < k) : spec_l1All.f k xs lo hi = some (allIn lo hi xs) :=
  l1All_l0 xs lo hi hn xs.length 0 k (by omega) hk

theorem bindS {α β : Type} (a : α) (f : α → Option β) : (some a).bind f = f a := by cases h : (some a).bind f <;> (rw [← h]; rfl)
def gen (n : Nat) (f : Nat → Int) : List Int := (List.range n).map f
theorem gen_length (n : Nat) (f : Nat → Int) : (gen n f).length = n := by simp [gen]
theorem rd_gen (n : Nat) (f : Nat → Int) {j : Nat} (h : j < n) : rd (gen n f) (j : Int) = f j := by
  rw [rd_get _ j (by rw [gen_length]; exact h)]; simp [gen]
theorem rd_out (xs : List Int) {j : Nat} (h : xs.length ≤ j) : rd xs (j : Int) = 0 := by
  rw [rd_nat, List.getD_eq_getElem?_getD, List.getElem?_eq_none h]; rfl
theorem rd_set (xs : List Int) {i : Nat} (v : Int) (h : i < xs.length) (j : Nat) : rd (xs.set i v) (j : Int) = if j = i then v else rd xs (j : Int) := by
  rw [rd_nat, rd_nat, List.getD_eq_getElem?_getD, List.getD_eq_getElem?_getD]
  by_cases e : j = i
  · subst e; rw [if_pos rfl, List.getElem?_set_self h]; rfl
  · rw [if_neg e, List.getElem?_set_ne (fun q => e q.symm)]
theorem ext_rd {xs ys : List Int} (hl : xs.length = ys.length) (h : ∀ j : Nat, j < xs.length → rd xs (j : Int) = rd ys (j : Int)) : xs = ys := by
  apply List.ext_getElem hl
  intro j h1 h2
  have := h j h1
  rwa [rd_get xs j h1, rd_get ys j h2] at this
theorem gen_succ (n : Nat) (f : Nat → Int) : gen (n + 1) f = gen n f ++ [f n] := by simp [gen, List.range_succ]
theorem gen_rd (xs : List Int) {n : Nat} (h : xs.length = n) : gen n (fun j => rd xs (j : Int)) = xs :=
  ext_rd (by rw [gen_length, h]) (fun j hj => by rw [gen_length] at hj; rw [rd_gen _ _ hj])
theorem gen_congr {n : Nat} {f g : Nat → Int} (h : ∀ j, j < n → f j = g j) : gen n f = gen n g :=
  ext_rd (by rw [gen_length, gen_length]) (fun j hj => by rw [gen_length] at hj; rw [rd_gen _ _ hj, rd_gen _ _ hj, h j hj])
theorem zeros_gen (n : Nat) : List.replicate n (0 : Int) = gen n (fun _ => 0) := List.ext_getElem (by simp [gen]) (fun i h1 h2 => by simp [gen])
/-- the last half of a list, written from both ends -/
def U (m : Nat) (f g : Nat → Int) (i : Nat) : List Int := gen (2 * m) fun j => if j < m then (if j < i then f j else 0) else (if 2 * m - 1 - j < i then g (2 * m - 1 - j) else 0)
theorem U_zero (m : Nat) (f g : Nat → Int) : U m f g 0 = List.replicate (2 * m) 0 := by
  rw [zeros_gen]; unfold U
  exact gen_congr (fun j _ => by by_cases h : j < m <;> simp [h])
theorem U_length (m : Nat) (f g : Nat → Int) (i : Nat) : (U m f g i).length = 2 * m := gen_length _ _
theorem U_step (m : Nat) (f g : Nat → Int) {i : Nat} (hi : i < m) : ((U m f g i).set i (f i)).set (2 * m - 1 - i) (g i) = U m f g (i + 1) := by
  refine ext_rd (by rw [List.length_set, List.length_set, U_length, U_length]) ?_
  intro j hj
  rw [List.length_set, List.length_set, U_length] at hj
  rw [rd_set _ _ (by rw [List.length_set, U_length]; omega), rd_set _ _ (by rw [U_length]; omega)]
  unfold U
  rw [rd_gen _ _ hj, rd_gen _ _ hj]
  by_cases h1 : j = 2 * m - 1 - i
  · rw [if_pos h1, if_neg (show ¬ j < m by omega), if_pos (show 2 * m - 1 - j < i + 1 by omega), show 2 * m - 1 - j = i by omega]
  · rw [if_neg h1]
    by_cases h2 : j = i
    · rw [if_pos h2, if_pos (show j < m by omega), if_pos (show j < i + 1 by omega), h2]
    · rw [if_neg h2]
      by_cases h3 : j < m
      · rw [if_pos h3, if_pos h3]
        by_cases h4 : j < i
        · rw [if_pos h4, if_pos (by omega)]
        · rw [if_neg h4, if_neg (by omega)]
      · rw [if_neg h3, if_neg h3]
        by_cases h4 : 2 * m - 1 - j < i
        · rw [if_pos h4, if_pos (by omega)]
        · rw [if_neg h4, if_neg (by omega)]
theorem U_end (m : Nat) (f g : Nat → Int) : U m f g m = gen (2 * m) fun j => if j < m then f j else g (2 * m - 1 - j) := by
  unfold U
  refine gen_congr (fun j hj => ?_)
  by_cases h : j < m
  · rw [if_pos h, if_pos h, if_pos h]
  · rw [if_neg h, if_neg h, if_pos (by omega)]
/-- a list turned from both ends -/
def W (m : Nat) (d : List Int) (f g : Nat → Int) (i : Nat) : List Int := gen m fun j => if j < i then f j else if m - 1 - j < i then g (m - 1 - j) else rd d (j : Int)
theorem W_zero (m : Nat) (d : List Int) (f g : Nat → Int) (h : d.length = m) : W m d f g 0 = d := by
  unfold W
  refine (gen_congr (fun j _ => ?_)).trans (gen_rd d h)
  rw [if_neg (by omega), if_neg (by omega)]
theorem W_length (m : Nat) (d : List Int) (f g : Nat → Int) (i : Nat) : (W m d f g i).length = m := gen_length _ _
theorem W_lo (m : Nat) (d : List Int) (f g : Nat → Int) {i : Nat} (h : 2 * (i + 1) ≤ m) : rd (W m d f g i) (i : Int) = rd d (i : Int) := by
  unfold W; rw [rd_gen _ _ (by omega), if_neg (by omega), if_neg (by omega)]
theorem W_hi (m : Nat) (d : List Int) (f g : Nat → Int) {i : Nat} (h : 2 * (i + 1) ≤ m) : rd (W m d f g i) ((m - 1 - i : Nat) : Int) = rd d ((m - 1 - i : Nat) : Int) := by
  unfold W; rw [rd_gen _ _ (by omega), if_neg (by omega), if_neg (by omega)]
theorem W_step (m : Nat) (d : List Int) (f g : Nat → Int) {i : Nat} (h : 2 * (i + 1) ≤ m) : ((W m d f g i).set i (f i)).set (m - 1 - i) (g i) = W m d f g (i + 1) := by
  refine ext_rd (by rw [List.length_set, List.length_set, W_length, W_length]) ?_
  intro j hj
  rw [List.length_set, List.length_set, W_length] at hj
  rw [rd_set _ _ (by rw [List.length_set, W_length]; omega), rd_set _ _ (by rw [W_length]; omega)]
  unfold W
  rw [rd_gen _ _ hj, rd_gen _ _ hj]
  by_cases h1 : j = m - 1 - i
  · rw [if_pos h1, if_neg (by omega), if_pos (by omega), show m - 1 - j = i by omega]
  · rw [if_neg h1]
    by_cases h2 : j = i
    · rw [if_pos h2, if_pos (by omega), h2]
    · rw [if_neg h2]
      by_cases h3 : j < i
      · rw [if_pos h3, if_pos (by omega)]
      · rw [if_neg h3, if_neg (show ¬ j < i + 1 by omega)]
        by_cases h4 : m - 1 - j < i
        · rw [if_pos h4, if_pos (by omega)]
        · rw [if_neg h4, if_neg (by omega)]
def twist (st : Nat → Int → Int → Int × Int) (q : Nat) (d : List Int) : List Int :=
  W d.length d (fun j => (st j (rd d (j : Int)) (rd d ((d.length - 1 - j : Nat) : Int))).1) (fun j => (st j (rd d (j : Int)) (rd d ((d.length - 1 - j : Nat) : Int))).2) q
theorem twist_length (st : Nat → Int → Int → Int × Int) (q : Nat) (d : List Int) : (twist st q d).length = d.length := W_length _ _ _ _ _
theorem twist_zero (st : Nat → Int → Int → Int × Int) (d : List Int) : twist st 0 d = d := W_zero _ _ _ _ rfl
theorem twist_lo (st : Nat → Int → Int → Int × Int) (d : List Int) {i : Nat} (h : 2 * (i + 1) ≤ d.length) : rd (twist st i d) (i : Int) = rd d (i : Int) := W_lo _ _ _ _ h
theorem twist_hi (st : Nat → Int → Int → Int × Int) (d : List Int) {i : Nat} (h : 2 * (i + 1) ≤ d.length) : rd (twist st i d) ((d.length - 1 - i : Nat) : Int) = rd d ((d.length - 1 - i : Nat) : Int) := W_hi _ _ _ _ h
theorem twist_step (st : Nat → Int → Int → Int × Int) (d : List Int) {i : Nat} (h : 2 * (i + 1) ≤ d.length) :
    ((twist st i d).set i (st i (rd d (i : Int)) (rd d ((d.length - 1 - i : Nat) : Int))).1).set (d.length - 1 - i) (st i (rd d (i : Int)) (rd d ((d.length - 1 - i : Nat) : Int))).2 = twist st (i + 1) d := W_step _ _ _ _ h
def Bd (M : Int) (xs : List Int) : Prop := ∀ j : Nat, -M ≤ rd xs (j : Int) ∧ rd xs (j : Int) ≤ M
theorem Bd.mono {M N : Int} {xs : List Int} (h : Bd M xs) (hm : M ≤ N) : Bd N xs := fun j => by have := h j; omega
theorem Bd_gen {n : Nat} {f : Nat → Int} {M : Int} (h0 : 0 ≤ M) (h : ∀ j, j < n → -M ≤ f j ∧ f j ≤ M) : Bd M (gen n f) := fun j => by
  by_cases hj : j < n
  · rw [rd_gen _ _ hj]; exact h j hj
  · rw [rd_out _ (by rw [gen_length]; omega)]; omega
theorem Bd_twist {st : Nat → Int → Int → Int × Int} {q : Nat} {d : List Int} {N M : Int} (h0 : 0 ≤ N) (hNM : N ≤ M) (hq : 2 * q ≤ d.length) (hd : Bd N d)
    (hs : ∀ i a b, i < q → (-N ≤ a ∧ a ≤ N) → (-N ≤ b ∧ b ≤ N) → (-M ≤ (st i a b).1 ∧ (st i a b).1 ≤ M) ∧ (-M ≤ (st i a b).2 ∧ (st i a b).2 ≤ M)) : Bd M (twist st q d) := by
  unfold twist W
  refine Bd_gen (by omega) (fun j hj => ?_)
  by_cases h1 : j < q
  · rw [if_pos h1]; exact (hs j _ _ h1 (hd _) (hd _)).1
  · rw [if_neg h1]
    by_cases h2 : d.length - 1 - j < q
    · rw [if_pos h2]; exact (hs _ _ _ h2 (hd _) (hd _)).2
    · rw [if_neg h2]; have := hd j; omega
theorem twist_inv {f g : Nat → Int → Int → Int × Int} {q : Nat} {d : List Int} (hq : 2 * q ≤ d.length) (h : ∀ i a b, i < q → g i (f i a b).1 (f i a b).2 = (a, b)) : twist g q (twist f q d) = d := by
  have hl := twist_length f q d
  have rlo : ∀ j, j < q → rd (twist f q d) (j : Int) = (f j (rd d (j : Int)) (rd d ((d.length - 1 - j : Nat) : Int))).1 := fun j hj => by
    unfold twist W; rw [rd_gen _ _ (by omega), if_pos hj]
  have rhi : ∀ j, j < q → rd (twist f q d) ((d.length - 1 - j : Nat) : Int) = (f j (rd d (j : Int)) (rd d ((d.length - 1 - j : Nat) : Int))).2 := fun j hj => by
    unfold twist W; rw [rd_gen _ _ (by omega), if_neg (by omega), if_pos (by omega), show d.length - 1 - (d.length - 1 - j) = j by omega]
  refine ext_rd (by rw [twist_length, hl]) (fun j hj => ?_)
  rw [twist_length, hl] at hj
  rw [show twist g q (twist f q d) = W (twist f q d).length (twist f q d) (fun j => (g j (rd (twist f q d) (j : Int)) (rd (twist f q d) (((twist f q d).length - 1 - j : Nat) : Int))).1) (fun j => (g j (rd (twist f q d) (j : Int)) (rd (twist f q d) (((twist f q d).length - 1 - j : Nat) : Int))).2) q from rfl, hl]
  unfold W
  rw [rd_gen _ _ hj]
  by_cases h1 : j < q
  · rw [if_pos h1]
    simp only [rlo j h1, rhi j h1, h j _ _ h1]
  · rw [if_neg h1]
    by_cases h2 : d.length - 1 - j < q
    · rw [if_pos h2]
      simp only [rlo _ h2, rhi _ h2, h _ _ _ h2]
      rw [show d.length - 1 - (d.length - 1 - j) = j by omega]
    · rw [if_neg h2]
      unfold twist W
      rw [rd_gen _ _ hj, if_neg h1, if_neg h2]
def outs (pf : Int → Int → Int × Int) (s e : List Int) : List Int := gen (2 * s.length) fun j => if j < s.length then (pf (rd s (j : Int)) (rd e (j : Int))).1 else (pf (rd s ((2 * s.length - 1 - j : Nat) : Int)) (rd e ((2 * s.length - 1 - j : Nat) : Int))).2
theorem outs_length (pf : Int → Int → Int × Int) (s e : List Int) : (outs pf s e).length = 2 * s.length := gen_length _ _
def uniteM (st : Nat → Nat → Int → Int → Int × Int) (pf : Int → Int → Int × Int) (s d : List Int) : List Int := outs pf s (twist (st (2 * s.length)) (s.length / 2) d)
theorem uniteM_length (st : Nat → Nat → Int → Int → Int × Int) (pf : Int → Int → Int × Int) (s d : List Int) : (uniteM st pf s d).length = 2 * s.length := gen_length _ _
def evens (c : List Int) : List Int := gen (c.length / 2) fun j => rd c ((2 * j : Nat) : Int)
def odds (c : List Int) : List Int := gen (c.length / 2) fun j => rd c ((2 * j + 1 : Nat) : Int)
def gatherM (st : Nat → Nat → Int → Int → Int × Int) (pf : Int → Int → Int × Int) : Nat → List Int → List Int
  | 0, c => c
  | L + 1, c => uniteM st pf (gatherM st pf L (evens c)) (gatherM st pf L (odds c))
theorem gatherM_length (st : Nat → Nat → Int → Int → Int × Int) (pf : Int → Int → Int × Int) : ∀ (L : Nat) (c : List Int), c.length = 2 ^ L → (gatherM st pf L c).length = 2 ^ L := by
  intro L
  induction L with
  | zero => intro c h; exact h
  | succ L ih =>
    intro c h
    rw [Nat.pow_succ] at h
    rw [gatherM, uniteM_length, ih _ (by unfold evens; rw [gen_length]; omega), Nat.pow_succ]; omega
theorem Bd_evens {M : Int} {c : List Int} (h0 : 0 ≤ M) (h : Bd M c) : Bd M (evens c) := Bd_gen h0 (fun j _ => h _)
theorem Bd_odds {M : Int} {c : List Int} (h0 : 0 ≤ M) (h : Bd M c) : Bd M (odds c) := Bd_gen h0 (fun j _ => h _)
def Sz (m : Nat) : Prop := m = 1 ∨ m = 2 ∨ m = 4 ∨ m = 8
theorem idx1 {m i : Nat} (hm : m ≤ 8) (hi : i < m) : wrap64 (wrap64 (wrap64 (Int.tdiv ((2 * m : Nat) : Int) 2) - 1) - (i : Int)) = ((m - 1 - i : Nat) : Int) := by
  rw [tdiv_pos (by omega), w64 (x := ((2 * m : Nat) : Int) / 2) (by omega) (by omega), w64 (x := ((2 * m : Nat) : Int) / 2 - 1) (by omega) (by omega), w64 (by omega) (by omega)]
  omega
theorem idx2 {m i : Nat} (hm : m ≤ 8) (hi : i < 2 * m) : wrap64 (wrap64 (((2 * m : Nat) : Int) - 1) - (i : Int)) = ((2 * m - 1 - i : Nat) : Int) := by
  rw [w64 (x := ((2 * m : Nat) : Int) - 1) (by omega) (by omega), w64 (by omega) (by omega)]
  omega
theorem quart {m : Nat} (hm : m ≤ 8) : wrap64 (Int.tdiv ((2 * m : Nat) : Int) 4) = ((m / 2 : Nat) : Int) := by
  rw [tdiv_pos (by omega), w64 (by omega) (by omega)]; omega
theorem halfI {m : Nat} (hm : m ≤ 8) : wrap64 (Int.tdiv ((2 * m : Nat) : Int) 2) = (m : Int) := by
  rw [tdiv_pos (by omega), w64 (by omega) (by omega)]; omega

theorem Bd_all {N : Int} {xs : List Int} (h0 : 0 ≤ N) (h : allIn (-N) N xs = true) : Bd N xs := fun j => by
  by_cases hj : j < xs.length
  · rw [rd_get xs j hj]; exact (allIn_iff _ _ _).1 h _ (List.getElem_mem hj)
  · rw [rd_out _ (by omega)]; omega
def lvl (n : Nat) : Nat := if n = 4 then 2 else if n = 8 then 3 else 4
theorem lvl_of {n : Nat} (h : sizeF (n : Int) = 0) : n = 2 ^ lvl n ∧ lvl n ≤ 4 := by
  rcases sizeF_cases (n : Int) with ⟨_, hc⟩ | ⟨h3, _⟩
  · unfold lvl
    rcases hc with e | e | e
    · obtain rfl : n = 4 := by omega
      exact ⟨rfl, by decide⟩
    · obtain rfl : n = 8 := by omega
      exact ⟨rfl, by decide⟩
    · obtain rfl : n = 16 := by omega
      exact ⟨rfl, by decide⟩
  · omega

theorem sUnite_l0 (s d : List Int) (st : Nat → Int → Int → Int × Int) (m : Nat) (hm : m ≤ 8) (hd : d.length = m)
    (hst : ∀ i, i < m / 2 → spec_l5Back.f ((2 * m : Nat) : Int) (i : Int) (rd d (i : Int)) (rd d ((m - 1 - i : Nat) : Int)) = some (st i (rd d (i : Int)) (rd d ((m - 1 - i : Nat) : Int)))) :
    ∀ (dd i k K : Nat), i + dd = m / 2 → K = k + dd + 1 → spec_l6Unite.l0 K s ((2 * m : Nat) : Int) (twist st i d) (i : Int) = spec_l6Unite.j1 k s ((2 * m : Nat) : Int) (twist st (m / 2) d) := by
  intro dd
  induction dd with
  | zero =>
    intro i k K hi hK
    obtain rfl : K = k + 1 := by omega
    simp only [spec_l6Unite.l0, quart hm]
    rw [if_neg (by omega), show i = m / 2 by omega]
  | succ dd ih =>
    intro i k K hi hK
    have hl : (twist st i d).length = m := by rw [twist_length, hd]
    have h2 : 2 * (i + 1) ≤ d.length := by omega
    have e1 := twist_lo st d h2
    have e2 := twist_hi st d h2
    have e3 := twist_step st d h2
    rw [hd] at e2 e3
    obtain ⟨K, rfl⟩ : ∃ q, K = q + 1 := ⟨K - 1, by omega⟩
    simp only [spec_l6Unite.l0, quart hm, idx1 hm (show i < m by omega), hl, e1, e2]
    rw [if_pos (by omega), if_pos (by omega), if_pos (by omega), if_pos (by omega), if_pos (by omega), hst i (by omega)]
    simp only [Option.bind_some]
    rw [w64_succ _ (by omega), Int.toNat_natCast, Int.toNat_natCast, e3]
    exact ih (i + 1) k K (by omega) (by omega)
theorem sUnite_l1 (s e : List Int) (pf : Int → Int → Int × Int) (m : Nat) (hm : m ≤ 8) (hs : s.length = m) (he : e.length = m)
    (hpf : ∀ i : Nat, i < m → spec_l5Part.f (rd s (i : Int)) (rd e (i : Int)) = some (pf (rd s (i : Int)) (rd e (i : Int)))) :
    ∀ (dd i k : Nat), i + dd = m → dd < k → spec_l6Unite.l1 k s ((2 * m : Nat) : Int) e (U m (fun j => (pf (rd s (j : Int)) (rd e (j : Int))).1) (fun j => (pf (rd s (j : Int)) (rd e (j : Int))).2) i) (i : Int) = some (outs pf s e) := by
  intro dd
  induction dd with
  | zero =>
    intro i k hi hk
    obtain ⟨k, rfl⟩ : ∃ q, k = q + 1 := ⟨k - 1, by omega⟩
    simp only [spec_l6Unite.l1, halfI hm]
    rw [if_neg (by omega), show i = m by omega, U_end]
    unfold outs; rw [hs]
  | succ dd ih =>
    intro i k hi hk
    obtain ⟨k, rfl⟩ : ∃ q, k = q + 1 := ⟨k - 1, by omega⟩
    have e3 := U_step m (fun j => (pf (rd s (j : Int)) (rd e (j : Int))).1) (fun j => (pf (rd s (j : Int)) (rd e (j : Int))).2) (show i < m by omega)
    simp only [spec_l6Unite.l1, halfI hm, idx2 hm (show i < 2 * m by omega), U_length]
    rw [if_pos (by omega), if_pos (by omega), if_pos (by omega), if_pos (by omega), hpf i (by omega)]
    simp only [Option.bind_some]
    rw [if_pos (by omega), if_pos (by omega), if_pos (by omega), w64_succ _ (by omega), Int.toNat_natCast, Int.toNat_natCast, e3]
    exact ih (i + 1) k (by omega) (by omega)
theorem l1Ints_eq (xs : List Int) (h : xs.length ≤ 1000000) : spec_l1Ints.f xs = some xs := by
  unfold spec_l1Ints.f
  simp only [Option.bind_some, List.length_nil, List.nil_append]
  rw [if_pos (by omega)]
theorem spec_unite_eq (st : Nat → Nat → Int → Int → Int × Int) (pf : Int → Int → Int × Int) (s d : List Int) (m : Nat) (hm : m ≤ 8) (hm0 : 1 ≤ m) (hs : s.length = m) (hd : d.length = m)
    (hst : ∀ i, i < m / 2 → spec_l5Back.f ((2 * m : Nat) : Int) (i : Int) (rd d (i : Int)) (rd d ((m - 1 - i : Nat) : Int)) = some (st (2 * m) i (rd d (i : Int)) (rd d ((m - 1 - i : Nat) : Int))))
    (hpf : ∀ i : Nat, i < m → spec_l5Part.f (rd s (i : Int)) (rd (twist (st (2 * m)) (m / 2) d) (i : Int)) = some (pf (rd s (i : Int)) (rd (twist (st (2 * m)) (m / 2) d) (i : Int)))) (k : Nat) (hk : 40 ≤ k) :
    spec_l6Unite.f k s d = some (uniteM st pf s d) := by
  unfold spec_l6Unite.f
  rw [l1Ints_eq d (by omega)]
  simp only [bindS]
  have e0 : wrap64 ((s.length : Int) * 2) = ((2 * m : Nat) : Int) := by rw [w64 (by omega) (by omega)]; omega
  rw [e0]
  have tail : ∀ k, 20 ≤ k → spec_l6Unite.j1 k s ((2 * m : Nat) : Int) (twist (st (2 * m)) (m / 2) d) = some (uniteM st pf s d) := by
    intro k hk
    obtain ⟨k, rfl⟩ : ∃ q, k = q + 1 := ⟨k - 1, by omega⟩
    simp only [spec_l6Unite.j1]
    unfold spec_l1Zeros.f
    rw [if_pos (by omega), if_pos (by omega), Int.toNat_natCast]
    simp only [bindS]
    have := sUnite_l1 s (twist (st (2 * m)) (m / 2) d) pf m hm hs (by rw [twist_length, hd]) hpf m 0 k (by omega) (by omega)
    rw [U_zero] at this
    unfold uniteM
    rw [hs]
    exact this
  by_cases h : ((2 * m : Nat) : Int) > 2
  · rw [if_pos h]
    have := sUnite_l0 s d (st (2 * m)) m hm hd hst (m / 2) 0 (k - m / 2 - 1) k (by omega) (by omega)
    rw [twist_zero] at this
    exact this.trans (tail _ (by omega))
  · rw [if_neg h]
    have e : m / 2 = 0 := by omega
    have := tail k (by omega)
    rw [e, twist_zero] at this
    exact this

theorem iUnite_l0 (S0 : Int → Int → Int → Int → Option (Int × Int)) (S1 : Int → Int → Option (Int × Int)) (s d o : List Int) (st : Nat → Int → Int → Int × Int) (m : Nat) (hm : m ≤ 8) (hd : d.length = m)
    (hst : ∀ i, i < m / 2 → S0 ((2 * m : Nat) : Int) (i : Int) (rd d (i : Int)) (rd d ((m - 1 - i : Nat) : Int)) = some (st i (rd d (i : Int)) (rd d ((m - 1 - i : Nat) : Int)))) :
    ∀ (dd i k K : Nat), i + dd = m / 2 → K = k + dd + 1 → impl_undo_unite.l0 K s (twist st i d) ((2 * m : Nat) : Int) o ((m / 2 : Nat) : Int) (i : Int) S0 S1 = impl_undo_unite.l1 k s (twist st (m / 2) d) ((2 * m : Nat) : Int) o (s.length : Int) 0 S0 S1 := by
  intro dd
  induction dd with
  | zero =>
    intro i k K hi hK
    obtain rfl : K = k + 1 := by omega
    simp only [impl_undo_unite.l0]
    rw [if_neg (by omega), show i = m / 2 by omega]
  | succ dd ih =>
    intro i k K hi hK
    have hl : (twist st i d).length = m := by rw [twist_length, hd]
    have h2 : 2 * (i + 1) ≤ d.length := by omega
    have e1 := twist_lo st d h2
    have e2 := twist_hi st d h2
    have e3 := twist_step st d h2
    rw [hd] at e2 e3
    obtain ⟨K, rfl⟩ : ∃ q, K = q + 1 := ⟨K - 1, by omega⟩
    simp only [impl_undo_unite.l0, idx1 hm (show i < m by omega), hl, e1, e2]
    rw [if_pos (by omega), if_pos (by omega), if_pos (by omega), if_pos (by omega), if_pos (by omega), hst i (by omega)]
    simp only [Option.bind_some]
    rw [w64_succ _ (by omega), Int.toNat_natCast, Int.toNat_natCast, e3]
    exact ih (i + 1) k K (by omega) (by omega)
theorem iUnite_l1 (S0 : Int → Int → Int → Int → Option (Int × Int)) (S1 : Int → Int → Option (Int × Int)) (s e : List Int) (pf : Int → Int → Int × Int) (m : Nat) (hm : m ≤ 8) (hs : s.length = m) (he : e.length = m)
    (hpf : ∀ i : Nat, i < m → S1 (rd s (i : Int)) (rd e (i : Int)) = some (pf (rd s (i : Int)) (rd e (i : Int)))) :
    ∀ (dd i k : Nat), i + dd = m → dd < k → impl_undo_unite.l1 k s e ((2 * m : Nat) : Int) (U m (fun j => (pf (rd s (j : Int)) (rd e (j : Int))).1) (fun j => (pf (rd s (j : Int)) (rd e (j : Int))).2) i) (m : Int) (i : Int) S0 S1 = some (outs pf s e, e) := by
  intro dd
  induction dd with
  | zero =>
    intro i k hi hk
    obtain ⟨k, rfl⟩ : ∃ q, k = q + 1 := ⟨k - 1, by omega⟩
    simp only [impl_undo_unite.l1]
    rw [if_neg (by omega), show i = m by omega, U_end]
    unfold outs; rw [hs]
  | succ dd ih =>
    intro i k hi hk
    obtain ⟨k, rfl⟩ : ∃ q, k = q + 1 := ⟨k - 1, by omega⟩
    have e3 := U_step m (fun j => (pf (rd s (j : Int)) (rd e (j : Int))).1) (fun j => (pf (rd s (j : Int)) (rd e (j : Int))).2) (show i < m by omega)
    simp only [impl_undo_unite.l1, idx2 hm (show i < 2 * m by omega), U_length]
    rw [if_pos (by omega), if_pos (by omega), if_pos (by omega), if_pos (by omega), hpf i (by omega)]
    simp only [Option.bind_some]
    rw [if_pos (by omega), if_pos (by omega), if_pos (by omega), w64_succ _ (by omega), Int.toNat_natCast, Int.toNat_natCast, e3]
    exact ih (i + 1) k (by omega) (by omega)
theorem impl_unite_eq (S0 : Int → Int → Int → Int → Option (Int × Int)) (S1 : Int → Int → Option (Int × Int)) (st : Nat → Nat → Int → Int → Int × Int) (pf : Int → Int → Int × Int) (s d : List Int) (m : Nat) (hm : m ≤ 8) (hs : s.length = m) (hd : d.length = m)
    (hst : ∀ i, i < m / 2 → S0 ((2 * m : Nat) : Int) (i : Int) (rd d (i : Int)) (rd d ((m - 1 - i : Nat) : Int)) = some (st (2 * m) i (rd d (i : Int)) (rd d ((m - 1 - i : Nat) : Int))))
    (hpf : ∀ i : Nat, i < m → S1 (rd s (i : Int)) (rd (twist (st (2 * m)) (m / 2) d) (i : Int)) = some (pf (rd s (i : Int)) (rd (twist (st (2 * m)) (m / 2) d) (i : Int)))) (k : Nat) (hk : 40 ≤ k) :
    impl_undo_unite.f k S0 S1 s d = some (uniteM st pf s d, twist (st (2 * m)) (m / 2) d) := by
  unfold impl_undo_unite.f
  have e0 : wrap64 (2 * (s.length : Int)) = ((2 * m : Nat) : Int) := by rw [w64 (by omega) (by omega)]; omega
  rw [e0, if_pos (by omega), if_pos (by omega), quart hm, Int.toNat_natCast]
  have h1 := iUnite_l0 S0 S1 s d (List.replicate (2 * m) 0) (st (2 * m)) m hm hd hst (m / 2) 0 (k - m / 2 - 1) k (by omega) (by omega)
  rw [twist_zero] at h1
  refine h1.trans ?_
  have h2 := iUnite_l1 S0 S1 s (twist (st (2 * m)) (m / 2) d) pf m hm hs (by rw [twist_length, hd]) hpf m 0 (k - m / 2 - 1) (by omega) (by omega)
  rw [U_zero] at h2
  unfold uniteM
  rw [hs]
  exact h2

theorem rot_crude {p u a b N : Int} (hp : 0 ≤ p ∧ p ≤ 1024) (hu : 0 ≤ u ∧ u ≤ 1024) (h0 : 0 ≤ N) (ha : -N ≤ a ∧ a ≤ N) (hb : -N ≤ b ∧ b ≤ N) :
    ((-(5 * N) ≤ (forth p u a b).1 ∧ (forth p u a b).1 ≤ 5 * N) ∧ (-(5 * N) ≤ (forth p u a b).2 ∧ (forth p u a b).2 ≤ 5 * N)) ∧ ((-(5 * N) ≤ (back p u a b).1 ∧ (back p u a b).1 ≤ 5 * N) ∧ (-(5 * N) ≤ (back p u a b).2 ∧ (back p u a b).2 ≤ 5 * N)) := by
  have m1 := mul_bd hp.1 hp.2 hb.1 hb.2
  have t1 := tn_bd m1.1 m1.2
  have m2 := mul_bd (b := a - tn (p * b)) (M := 2 * N) hu.1 hu.2 (by omega) (by omega)
  have t2 := tn_bd m2.1 m2.2
  have m3 := mul_bd (b := b + tn (u * (a - tn (p * b)))) (M := 3 * N) hp.1 hp.2 (by omega) (by omega)
  have t3 := tn_bd m3.1 m3.2
  have n2 := mul_bd (b := a + tn (p * b)) (M := 2 * N) hu.1 hu.2 (by omega) (by omega)
  have s2 := tn_bd n2.1 n2.2
  have n3 := mul_bd (b := b - tn (u * (a + tn (p * b)))) (M := 3 * N) hp.1 hp.2 (by omega) (by omega)
  have s3 := tn_bd n3.1 n3.2
  unfold forth back
  simp only
  clear m1 m2 m3 n2 n3
  generalize tn (p * (b + tn (u * (a - tn (p * b))))) = x3 at t3 ⊢
  generalize tn (p * (b - tn (u * (a + tn (p * b))))) = y3 at s3 ⊢
  generalize tn (u * (a - tn (p * b))) = x2 at t2 ⊢
  generalize tn (u * (a + tn (p * b))) = y2 at s2 ⊢
  generalize tn (p * b) = x1 at t1 ⊢
  omega
def backS (n i : Nat) (a b : Int) : Int × Int := back (pu (n : Int) (i : Int)).1 (pu (n : Int) (i : Int)).2 a b
def forthS (n i : Nat) (a b : Int) : Int × Int := forth (pu (n : Int) (i : Int)).1 (pu (n : Int) (i : Int)).2 a b
def pf (s d : Int) : Int × Int := (s - d / 2 + d, s - d / 2)
def mx (a b : Int) : Int × Int := (b + (a - b) / 2, a - b)
theorem valid_of {m i : Nat} (hm : Sz m) (hi : i < m / 2) : Valid ((2 * m : Nat) : Int) (i : Int) := by
  unfold Sz at hm
  unfold Valid
  rcases hm with rfl | rfl | rfl | rfl
  · omega
  · exact .inl ⟨rfl, by omega⟩
  · exact .inr (.inl ⟨rfl, by omega⟩)
  · exact .inr (.inr ⟨rfl, by omega⟩)
theorem Sz.le {m : Nat} (h : Sz m) : 1 ≤ m ∧ m ≤ 8 := by unfold Sz at h; omega
theorem Bd_back {m : Nat} (hm : Sz m) {d : List Int} (hd : d.length = m) {N M : Int} (hN : 0 ≤ N) (hM : 5 * N ≤ M) (h : Bd N d) : Bd M (twist (backS (2 * m)) (m / 2) d) := by
  refine Bd_twist (N := N) (by omega) (by omega) (by omega) h ?_
  intro i a b hi ha hb
  obtain ⟨_, hp, hu⟩ := turnOf_eq (valid_of hm hi)
  have := (rot_crude hp hu hN ha hb).2
  unfold backS
  omega
theorem Bd_forth {m : Nat} (hm : Sz m) {d : List Int} (hd : d.length = m) {N M : Int} (hN : 0 ≤ N) (hM : 5 * N ≤ M) (h : Bd N d) : Bd M (twist (forthS (2 * m)) (m / 2) d) := by
  refine Bd_twist (N := N) (by omega) (by omega) (by omega) h ?_
  intro i a b hi ha hb
  obtain ⟨_, hp, hu⟩ := turnOf_eq (valid_of hm hi)
  have := (rot_crude hp hu hN ha hb).1
  unfold forthS
  omega
theorem Bd_outs {s e : List Int} {A N M : Int} (hA : 0 ≤ A) (hN : 0 ≤ N) (hM : 2 * A + N + 1 ≤ 2 * M) (hs : Bd A s) (he : Bd N e) : Bd M (outs pf s e) := by
  unfold outs pf
  refine Bd_gen (by omega) (fun j hj => ?_)
  by_cases h : j < s.length
  · rw [if_pos h]
    have h1 := hs j
    have h2 := he j
    simp only
    omega
  · rw [if_neg h]
    have h1 := hs (2 * s.length - 1 - j)
    have h2 := he (2 * s.length - 1 - j)
    simp only
    omega
theorem Bd_unite {m : Nat} (hm : Sz m) {s d : List Int} (hs : s.length = m) (hd : d.length = m) {N : Int} (hN : 1 ≤ N) (h1 : Bd N s) (h2 : Bd N d) : Bd (4 * N) (uniteM backS pf s d) := by
  unfold uniteM
  rw [hs]
  have := Bd_back hm hd (M := 5 * N) (by omega) (by omega) h2
  exact Bd_outs (A := N) (N := 5 * N) (by omega) (by omega) (by omega) h1 this

theorem rot_both {s n : Int} (hv : Valid s n) {a b N : Int} (hN : 24 ≤ N) (ha : -N ≤ a ∧ a ≤ N) (hb : -N ≤ b ∧ b ≤ N) :
    ((-(3 * N) ≤ 2 * (forth (pu s n).1 (pu s n).2 a b).1 ∧ 2 * (forth (pu s n).1 (pu s n).2 a b).1 ≤ 3 * N) ∧ (-(3 * N) ≤ 2 * (forth (pu s n).1 (pu s n).2 a b).2 ∧ 2 * (forth (pu s n).1 (pu s n).2 a b).2 ≤ 3 * N)) ∧
    ((-(3 * N) ≤ 2 * (back (pu s n).1 (pu s n).2 a b).1 ∧ 2 * (back (pu s n).1 (pu s n).2 a b).1 ≤ 3 * N) ∧ (-(3 * N) ≤ 2 * (back (pu s n).1 (pu s n).2 a b).2 ∧ 2 * (back (pu s n).1 (pu s n).2 a b).2 ≤ 3 * N)) := by
  unfold Valid at hv
  have e1 : pu 4 0 = (101, 200) := rfl
  have e2 : pu 4 1 = (311, 569) := rfl
  have f1 : pu 8 0 = (50, 100) := rfl
  have f2 : pu 8 1 = (152, 297) := rfl
  have f3 : pu 8 2 = (257, 483) := rfl
  have f4 : pu 8 3 = (366, 650) := rfl
  have g1 : pu 16 0 = (25, 50) := rfl
  have g2 : pu 16 1 = (76, 150) := rfl
  have g3 : pu 16 2 = (126, 249) := rfl
  have g4 : pu 16 3 = (178, 345) := rfl
  have g5 : pu 16 4 = (230, 438) := rfl
  have g6 : pu 16 5 = (283, 526) := rfl
  have g7 : pu 16 6 = (338, 610) := rfl
  have g8 : pu 16 7 = (395, 688) := rfl
  rcases hv with ⟨rfl, rfl | rfl⟩ | ⟨rfl, rfl | rfl | rfl | rfl⟩ | ⟨rfl, rfl | rfl | rfl | rfl | rfl | rfl | rfl | rfl⟩ <;>
    (simp only [e1, e2, f1, f2, f3, f4, g1, g2, g3, g4, g5, g6, g7, g8, forth, back, tn]; clear e1 e2 f1 f2 f3 f4 g1 g2 g3 g4 g5 g6 g7 g8; refine ⟨⟨⟨?_, ?_⟩, ?_, ?_⟩, ⟨?_, ?_⟩, ?_, ?_⟩ <;> omega)
theorem Bf_back {m : Nat} (hm : Sz m) {d : List Int} (hd : d.length = m) {N M : Int} (hN : 24 ≤ N) (hM : 3 * N ≤ 2 * M) (h : Bd N d) : Bd M (twist (backS (2 * m)) (m / 2) d) := by
  refine Bd_twist (N := N) (by omega) (by omega) (by omega) h ?_
  intro i a b hi ha hb
  have := (rot_both (valid_of hm hi) hN ha hb).2
  exact ⟨⟨by have := this.1.1; unfold backS; omega, by have := this.1.2; unfold backS; omega⟩, ⟨by have := this.2.1; unfold backS; omega, by have := this.2.2; unfold backS; omega⟩⟩
theorem Bf_forth {m : Nat} (hm : Sz m) {d : List Int} (hd : d.length = m) {N M : Int} (hN : 24 ≤ N) (hM : 3 * N ≤ 2 * M) (h : Bd N d) : Bd M (twist (forthS (2 * m)) (m / 2) d) := by
  refine Bd_twist (N := N) (by omega) (by omega) (by omega) h ?_
  intro i a b hi ha hb
  have := (rot_both (valid_of hm hi) hN ha hb).1
  exact ⟨⟨by have := this.1.1; unfold forthS; omega, by have := this.1.2; unfold forthS; omega⟩, ⟨by have := this.2.1; unfold forthS; omega, by have := this.2.2; unfold forthS; omega⟩⟩
theorem Bf_unite {m : Nat} (hm : Sz m) {s d : List Int} (hs : s.length = m) (hd : d.length = m) {N : Int} (hN : 24 ≤ N) (h1 : Bd N s) (h2 : Bd N d) : Bd (2 * N) (uniteM backS pf s d) := by
  unfold uniteM
  rw [hs]
  have := Bf_back hm hd (M := (3 * N + 1) / 2) hN (by omega) h2
  exact Bd_outs (A := N) (N := (3 * N + 1) / 2) (by omega) (by omega) (by omega) h1 this

def hs (m : Nat) (xs : List Int) (j : Nat) : Int := (mx (rd xs (j : Int)) (rd xs ((2 * m - 1 - j : Nat) : Int))).1
def hd (m : Nat) (xs : List Int) (j : Nat) : Int := (mx (rd xs (j : Int)) (rd xs ((2 * m - 1 - j : Nat) : Int))).2
def halveS (xs : List Int) : List Int := gen (xs.length / 2) (hs (xs.length / 2) xs)
def halveD0 (xs : List Int) : List Int := gen (xs.length / 2) (hd (xs.length / 2) xs)
def halveD (xs : List Int) : List Int := twist (forthS xs.length) (xs.length / 2 / 2) (halveD0 xs)
theorem halveS_length (xs : List Int) : (halveS xs).length = xs.length / 2 := gen_length _ _
theorem halveD0_length (xs : List Int) : (halveD0 xs).length = xs.length / 2 := gen_length _ _
theorem halveD_length (xs : List Int) : (halveD xs).length = xs.length / 2 := by unfold halveD; rw [twist_length, halveD0_length]
def V (m : Nat) (f : Nat → Int) (i : Nat) : List Int := gen m fun j => if j < i then f j else 0
theorem V_zero (m : Nat) (f : Nat → Int) : V m f 0 = List.replicate m 0 := by
  rw [zeros_gen]; unfold V
  exact gen_congr (fun j _ => by simp)
theorem V_end (m : Nat) (f : Nat → Int) : V m f m = gen m f := by
  unfold V
  exact gen_congr (fun j h => by rw [if_pos h])
theorem V_step (m : Nat) (f : Nat → Int) {i : Nat} (hi : i < m) : (V m f i).set i (f i) = V m f (i + 1) := by
  refine ext_rd (by rw [List.length_set]; unfold V; rw [gen_length, gen_length]) ?_
  intro j hj
  have hl : (V m f i).length = m := gen_length _ _
  rw [List.length_set, hl] at hj
  rw [rd_set _ _ (by omega)]
  unfold V
  rw [rd_gen _ _ hj, rd_gen _ _ hj]
  by_cases e : j = i
  · rw [if_pos e, if_pos (by omega), e]
  · rw [if_neg e]
    by_cases h : j < i
    · rw [if_pos h, if_pos (by omega)]
    · rw [if_neg h, if_neg (by omega)]
theorem Bd_halveS {xs : List Int} {N : Int} (h0 : 0 ≤ N) (h : Bd N xs) : Bd N (halveS xs) := by
  unfold halveS hs mx
  refine Bd_gen h0 (fun j _ => ?_)
  have h1 := h j
  have h2 := h (2 * (xs.length / 2) - 1 - j)
  simp only
  omega
theorem Bd_halveD0 {xs : List Int} {N : Int} (h0 : 0 ≤ N) (h : Bd N xs) : Bd (2 * N) (halveD0 xs) := by
  unfold halveD0 hd mx
  refine Bd_gen (by omega) (fun j _ => ?_)
  have h1 := h j
  have h2 := h (2 * (xs.length / 2) - 1 - j)
  simp only
  omega
theorem Bd_halveD {m : Nat} (hm : Sz m) {xs : List Int} (hx : xs.length = 2 * m) {N : Int} (h0 : 0 ≤ N) (h : Bd N xs) : Bd (10 * N) (halveD xs) := by
  unfold halveD
  rw [show xs.length / 2 / 2 = m / 2 by omega, hx]
  exact Bd_forth hm (by rw [halveD0_length]; omega) (N := 2 * N) (by omega) (by omega) (Bd_halveD0 h0 h)

theorem sHalve_l1 (s d : List Int) (st : Nat → Int → Int → Int × Int) (m : Nat) (hm : m ≤ 8) (hd : d.length = m)
    (hst : ∀ i, i < m / 2 → spec_l5Turn.f ((2 * m : Nat) : Int) (i : Int) (rd d (i : Int)) (rd d ((m - 1 - i : Nat) : Int)) = some (st i (rd d (i : Int)) (rd d ((m - 1 - i : Nat) : Int)))) :
    ∀ (dd i K : Nat), i + dd = m / 2 → dd < K → spec_l6Halve.l1 K ((2 * m : Nat) : Int) s (twist st i d) (i : Int) = some (s, twist st (m / 2) d) := by
  intro dd
  induction dd with
  | zero =>
    intro i K hi hK
    obtain ⟨K, rfl⟩ : ∃ q, K = q + 1 := ⟨K - 1, by omega⟩
    simp only [spec_l6Halve.l1, quart hm]
    rw [if_neg (by omega), show i = m / 2 by omega]
  | succ dd ih =>
    intro i K hi hK
    have hl : (twist st i d).length = m := by rw [twist_length, hd]
    have h2 : 2 * (i + 1) ≤ d.length := by omega
    have e1 := twist_lo st d h2
    have e2 := twist_hi st d h2
    have e3 := twist_step st d h2
    rw [hd] at e2 e3
    obtain ⟨K, rfl⟩ : ∃ q, K = q + 1 := ⟨K - 1, by omega⟩
    simp only [spec_l6Halve.l1, quart hm, idx1 hm (show i < m by omega), hl, e1, e2]
    rw [if_pos (by omega), if_pos (by omega), if_pos (by omega), if_pos (by omega), if_pos (by omega), hst i (by omega)]
    simp only [Option.bind_some]
    rw [w64_succ _ (by omega), Int.toNat_natCast, Int.toNat_natCast, e3]
    exact ih (i + 1) K (by omega) (by omega)
theorem sHalve_l0 (xs : List Int) (m : Nat) (hm : m ≤ 8) (hx : xs.length = 2 * m) {N : Int} (hN : 0 ≤ N) (hN2 : N ≤ 200000000000000) (hB : Bd N xs) :
    ∀ (dd i k K : Nat), i + dd = m → K = k + dd + 1 → spec_l6Halve.l0 K xs ((2 * m : Nat) : Int) (gen i (hs m xs)) (gen i (hd m xs)) (i : Int) = (if ((2 * m : Nat) : Int) > 2 then spec_l6Halve.l1 k ((2 * m : Nat) : Int) (gen m (hs m xs)) (gen m (hd m xs)) 0 else some (gen m (hs m xs), gen m (hd m xs))) := by
  intro dd
  induction dd with
  | zero =>
    intro i k K hi hK
    obtain rfl : K = k + 1 := by omega
    simp only [spec_l6Halve.l0, halfI hm]
    rw [if_neg (by omega), show i = m by omega]
  | succ dd ih =>
    intro i k K hi hK
    obtain ⟨K, rfl⟩ : ∃ q, K = q + 1 := ⟨K - 1, by omega⟩
    have b1 := hB i
    have b2 := hB (2 * m - 1 - i)
    simp only [spec_l6Halve.l0, halfI hm, idx2 hm (show i < 2 * m by omega), gen_length]
    rw [if_pos (by omega), if_pos (by omega), if_pos (by omega), if_pos (by omega), if_pos (by omega), l5Mix_eq _ _ (by omega) (by omega)]
    simp only [Option.bind_some]
    rw [if_pos (by omega), if_pos (by omega), w64_succ _ (by omega)]
    have := ih (i + 1) k K (by omega) (by omega)
    rw [gen_succ, gen_succ] at this
    exact this
theorem sHalve {m : Nat} (hm : Sz m) {xs : List Int} (hx : xs.length = 2 * m) {N : Int} (hN : 0 ≤ N) (hN2 : N ≤ 20000000000000) (hB : Bd N xs) (k : Nat) (hk : 40 ≤ k) : spec_l6Halve.f k xs = some (halveS xs, halveD xs) := by
  unfold spec_l6Halve.f
  have hm8 := hm.le
  have h0 := sHalve_l0 xs m hm8.2 hx hN (by omega) hB m 0 (k - m - 1) k (by omega) (by omega)
  have hxm : xs.length / 2 = m := by omega
  have h1 := sHalve_l1 (gen m (hs m xs)) (halveD0 xs) (forthS (2 * m)) m hm8.2 (by rw [halveD0_length, hxm]) (fun i hi => by
    have bb := Bd_halveD0 hN hB
    have b1 := bb i
    have b2 := bb (m - 1 - i)
    exact l5Turn_eq (valid_of hm hi) _ _ (by omega) (by omega)) (m / 2) 0 (k - m - 1) (by omega) (by omega)
  rw [twist_zero] at h1
  have e1 : gen m (hd m xs) = halveD0 xs := by unfold halveD0; rw [hxm]
  have e2 : gen m (hs m xs) = halveS xs := by unfold halveS; rw [hxm]
  have e3 : twist (forthS (2 * m)) (m / 2) (halveD0 xs) = halveD xs := by unfold halveD; rw [hxm, hx]
  rw [e3, e2] at h1
  rw [e1, e2] at h0
  rw [hx]
  refine Eq.trans h0 ?_
  by_cases h : ((2 * m : Nat) : Int) > 2
  · rw [if_pos h]; exact h1
  · rw [if_neg h, ← e3, show m / 2 = 0 by omega, twist_zero]

theorem iHalve_l1 (s d : List Int) (m : Nat) (hm : Sz m) (hd : d.length = m) {N : Int} (hN2 : N ≤ 200000000000000) (hB : Bd N d) :
    ∀ (dd i K : Nat), i + dd = m / 2 → dd < K → impl_halve.l1 K ((2 * m : Nat) : Int) s (twist (forthS (2 * m)) i d) ((m / 2 : Nat) : Int) (i : Int) = some (s, twist (forthS (2 * m)) (m / 2) d) := by
  intro dd
  induction dd with
  | zero =>
    intro i K hi hK
    obtain ⟨K, rfl⟩ : ∃ q, K = q + 1 := ⟨K - 1, by omega⟩
    simp only [impl_halve.l1]
    rw [if_neg (by omega), show i = m / 2 by omega]
  | succ dd ih =>
    intro i K hi hK
    have hm8 := hm.le
    have hl : (twist (forthS (2 * m)) i d).length = m := by rw [twist_length, hd]
    have h2 : 2 * (i + 1) ≤ d.length := by omega
    have e1 := twist_lo (forthS (2 * m)) d h2
    have e2 := twist_hi (forthS (2 * m)) d h2
    have e3 := twist_step (forthS (2 * m)) d h2
    rw [hd] at e2 e3
    have b1 := hB i
    have b2 := hB (m - 1 - i)
    obtain ⟨ht, hp, hu⟩ := turnOf_eq (valid_of hm (show i < m / 2 by omega))
    obtain ⟨K, rfl⟩ : ∃ q, K = q + 1 := ⟨K - 1, by omega⟩
    have hf := turn_forth_eq _ _ (rd d (i : Int)) (rd d ((m - 1 - i : Nat) : Int)) hp hu (by omega) (by omega)
    rw [impl_halve.l1]
    rw [if_pos (by omega), ht]
    simp only [Option.bind_some, idx1 hm8.2 (show i < m by omega), hl, e1, e2]
    rw [if_pos (by omega), if_pos (by omega), if_pos (by omega), if_pos (by omega), hf]
    simp only [Option.bind_some]
    rw [w64_succ _ (by omega), Int.toNat_natCast, Int.toNat_natCast]
    have e4 := ih (i + 1) K (by omega) (by omega)
    rw [← e3] at e4
    exact e4
theorem iHalve_l0 (xs : List Int) (m : Nat) (hm : m ≤ 8) (hx : xs.length = 2 * m) {N : Int} (hN : 0 ≤ N) (hN2 : N ≤ 200000000000000) (hB : Bd N xs) :
    ∀ (dd i k K : Nat), i + dd = m → K = k + dd + 1 → impl_halve.l0 K xs ((2 * m : Nat) : Int) (V m (hs m xs) i) (V m (hd m xs) i) (m : Int) (i : Int) = impl_halve.l1 k ((2 * m : Nat) : Int) (gen m (hs m xs)) (gen m (hd m xs)) ((m / 2 : Nat) : Int) 0 := by
  intro dd
  induction dd with
  | zero =>
    intro i k K hi hK
    obtain rfl : K = k + 1 := by omega
    simp only [impl_halve.l0, quart hm]
    rw [if_neg (by omega), show i = m by omega, V_end, V_end]
  | succ dd ih =>
    intro i k K hi hK
    obtain ⟨K, rfl⟩ : ∃ q, K = q + 1 := ⟨K - 1, by omega⟩
    have b1 := hB i
    have b2 := hB (2 * m - 1 - i)
    have hv : ∀ f : Nat → Int, (V m f i).length = m := fun f => gen_length _ _
    have s1 := V_step m (hs m xs) (show i < m by omega)
    have s2 := V_step m (hd m xs) (show i < m by omega)
    simp only [impl_halve.l0, idx2 hm (show i < 2 * m by omega), hv]
    rw [if_pos (by omega), if_pos (by omega), if_pos (by omega), if_pos (by omega), if_pos (by omega), mix_eq _ _ (by omega) (by omega)]
    simp only [Option.bind_some]
    rw [if_pos (by omega), if_pos (by omega), w64_succ _ (by omega), Int.toNat_natCast]
    have := ih (i + 1) k K (by omega) (by omega)
    rw [← s1, ← s2] at this
    exact this
theorem iHalve {m : Nat} (hm : Sz m) {xs : List Int} (hx : xs.length = 2 * m) {N : Int} (hN : 0 ≤ N) (hN2 : N ≤ 20000000000000) (hB : Bd N xs) (k : Nat) (hk : 40 ≤ k) : impl_halve.f k xs = some (halveS xs, halveD xs) := by
  have hm8 := hm.le
  have h0 := iHalve_l0 xs m hm8.2 hx hN (by omega) hB m 0 (k - m - 1) k (by omega) (by omega)
  have hxm : xs.length / 2 = m := by omega
  have h1 := iHalve_l1 (gen m (hs m xs)) (halveD0 xs) m hm (by rw [halveD0_length, hxm]) (N := 2 * N) (by omega) (Bd_halveD0 hN hB) (m / 2) 0 (k - m - 1) (by omega) (by omega)
  rw [twist_zero] at h1
  have e1 : gen m (hd m xs) = halveD0 xs := by unfold halveD0; rw [hxm]
  have e2 : gen m (hs m xs) = halveS xs := by unfold halveS; rw [hxm]
  have e3 : twist (forthS (2 * m)) (m / 2) (halveD0 xs) = halveD xs := by unfold halveD; rw [hxm, hx]
  rw [e3, e2] at h1
  rw [e1, e2, V_zero, V_zero] at h0
  have ew : wrap64 ((xs.length : Int) / 2) = (m : Int) := by rw [w64 (by omega) (by omega)]; omega
  unfold impl_halve.f
  rw [ew, if_pos (by omega), Int.toNat_natCast, if_pos (by omega)]
  simp only [bindS, List.length_replicate]
  rw [hx]
  exact Eq.trans h0 h1

def halveR (xs : List Int) : Int × List Int × List Int := if xs.length = 2 ∨ xs.length = 4 ∨ xs.length = 8 ∨ xs.length = 16 then (if allIn (-1073741824) 1073741824 xs = true then (0, halveS xs, halveD xs) else (3, [], [])) else (2, [], [])
theorem spec_h0 (xs : List Int) (k : Nat) (hk : 100 ≤ k) (h : xs.length = 2 ∨ xs.length = 4 ∨ xs.length = 8 ∨ xs.length = 16) : spec_HalveList.j0 (k + 1) xs false = some (halveR xs) := by
  unfold halveR
  rw [if_pos h]
  simp only [spec_HalveList.j0]
  rw [if_neg (by decide), l1All_eq xs _ _ (by omega) k (by omega)]
  simp only [bindS]
  by_cases h1 : allIn (-1073741824) 1073741824 xs = true
  · rw [if_pos h1, if_pos h1, sHalve (m := xs.length / 2) (by unfold Sz; omega) (by omega) (N := 1073741824) (by omega) (by omega) (Bd_all (by omega) h1) k (by omega)]
    simp only [bindS]
  · rw [if_neg h1, if_neg h1]
theorem spec_H (xs : List Int) (k : Nat) (hk : 100 ≤ k) : spec_HalveList.f (k + 1) xs = some (halveR xs) := by
  unfold spec_HalveList.f
  by_cases h1 : (xs.length : Int) = 2
  · rw [if_pos h1]; exact spec_h0 xs k hk (by omega)
  rw [if_neg h1]
  by_cases h2 : (xs.length : Int) = 4
  · rw [if_pos h2]; exact spec_h0 xs k hk (by omega)
  rw [if_neg h2]
  by_cases h3 : (xs.length : Int) = 8
  · rw [if_pos h3]; exact spec_h0 xs k hk (by omega)
  rw [if_neg h3]
  by_cases h4 : (xs.length : Int) = 16
  · rw [show ((xs.length : Int) != 16) = false by rw [h4]; rfl]; exact spec_h0 xs k hk (by omega)
  · rw [show ((xs.length : Int) != 16) = true by simp; omega]
    unfold halveR
    rw [if_neg (by omega)]
    simp only [spec_HalveList.j0]
    rw [if_pos trivial]
theorem impl_H (xs : List Int) (k : Nat) (hk : 100 ≤ k) : impl_HalveList.f k xs = some (halveR xs) := by
  have w1 : impl_allWithin.f xs 1073741824 = some (allIn (-1073741824) 1073741824 xs) := allWithin_eq xs 1073741824 (by omega) (by omega)
  have hf : ∀ p q : Int, impl_first.f k [p, q] = some (nz [p, q]) := fun p q => first_eq _ (by simp) k (by simp; omega)
  unfold impl_HalveList.f impl_isBlock.f halveR
  simp only [impl_SizeFault_eq, bindS, w1, codeIf_eq, hf, nz]
  by_cases h : xs.length = 2 ∨ xs.length = 4 ∨ xs.length = 8 ∨ xs.length = 16
  · rw [if_pos h]
    by_cases h1 : allIn (-1073741824) 1073741824 xs = true
    · have e := iHalve (m := xs.length / 2) (by unfold Sz; omega) (xs := xs) (by omega) (N := 1073741824) (by omega) (by omega) (Bd_all (by omega) h1) k (by omega)
      by_cases h2 : (xs.length : Int) = 2
      · rw [if_pos h2, e]; simp [h1]
      · have hz : sizeF (xs.length : Int) = 0 := by
          rcases sizeF_cases (xs.length : Int) with ⟨q, _⟩ | ⟨_, q⟩
          · exact q
          · omega
        rw [if_neg h2, e]; simp [h1, hz]
    · by_cases h2 : (xs.length : Int) = 2
      · rw [if_pos h2]; simp [h1]
      · have hz : sizeF (xs.length : Int) = 0 := by
          rcases sizeF_cases (xs.length : Int) with ⟨q, _⟩ | ⟨_, q⟩
          · exact q
          · omega
        rw [if_neg h2]; simp [h1, hz]
  · rw [if_neg h, if_neg (by omega)]
    have hz : sizeF (xs.length : Int) = 3 := by
      rcases sizeF_cases (xs.length : Int) with ⟨_, q⟩ | ⟨q, _⟩
      · omega
      · exact q
    by_cases h1 : allIn (-1073741824) 1073741824 xs = true <;> simp [h1, hz]
theorem halveR_len (xs : List Int) : (halveR xs).2.1.length ≤ 8 ∧ (halveR xs).2.2.length ≤ 8 := by
  unfold halveR
  by_cases h : xs.length = 2 ∨ xs.length = 4 ∨ xs.length = 8 ∨ xs.length = 16
  · rw [if_pos h]
    split
    · simp only; rw [halveS_length, halveD_length]; omega
    · simp
  · rw [if_neg h]; simp

def zipM (a b : List Int) : List Int := gen (2 * a.length) fun j => if j % 2 = 0 then rd a ((j / 2 : Nat) : Int) else rd b ((j / 2 : Nat) : Int)
def zf (a b : List Int) (j : Nat) : Int := if j % 2 = 0 then rd a ((j / 2 : Nat) : Int) else rd b ((j / 2 : Nat) : Int)
theorem zipM_length (a b : List Int) : (zipM a b).length = 2 * a.length := gen_length _ _
theorem zf_step (a b : List Int) (i : Nat) : gen (2 * (i + 1)) (zf a b) = gen (2 * i) (zf a b) ++ [rd a (i : Int), rd b (i : Int)] := by
  rw [show 2 * (i + 1) = 2 * i + 1 + 1 by omega, gen_succ, gen_succ, List.append_assoc]
  have e1 : zf a b (2 * i) = rd a (i : Int) := by unfold zf; rw [if_pos (by omega), show 2 * i / 2 = i by omega]
  have e2 : zf a b (2 * i + 1) = rd b (i : Int) := by unfold zf; rw [if_neg (by omega), show (2 * i + 1) / 2 = i by omega]
  rw [e1, e2]; rfl
def spreadM : Nat → List Int → List Int
  | 0, c => c
  | L + 1, c => zipM (spreadM L (halveS c)) (spreadM L (halveD c))
theorem spreadM_length : ∀ (L : Nat) (c : List Int), c.length = 2 ^ L → (spreadM L c).length = 2 ^ L := by
  intro L
  induction L with
  | zero => intro c h; exact h
  | succ L ih =>
    intro c h
    rw [Nat.pow_succ] at h
    rw [spreadM, zipM_length, ih _ (by rw [halveS_length]; omega), Nat.pow_succ]; omega
theorem pow4' (L : Nat) (hL : L ≤ 4) : 1 ≤ 2 ^ L ∧ 2 ^ L ≤ 16 := ⟨Nat.two_pow_pos L, Nat.pow_le_pow_right (by omega) hL⟩
theorem Sz_pow' (L : Nat) (hL : L ≤ 3) : Sz (2 ^ L) := by
  unfold Sz
  match L, hL with
  | 0, _ => exact .inl rfl
  | 1, _ => exact .inr (.inl rfl)
  | 2, _ => exact .inr (.inr (.inl rfl))
  | 3, _ => exact .inr (.inr (.inr rfl))

theorem sSpread_l0 (a b : List Int) (hab : b.length = a.length) (ha : a.length ≤ 8) : ∀ (dd i K : Nat), i + dd = a.length → dd < K → spec_l6Spread.l0 K a b (gen (2 * i) (zf a b)) (i : Int) = some (zipM a b) := by
  intro dd
  induction dd with
  | zero =>
    intro i K hi hK
    obtain ⟨K, rfl⟩ : ∃ q, K = q + 1 := ⟨K - 1, by omega⟩
    simp only [spec_l6Spread.l0]
    rw [if_neg (by omega), show i = a.length by omega]; rfl
  | succ dd ih =>
    intro i K hi hK
    obtain ⟨K, rfl⟩ : ∃ q, K = q + 1 := ⟨K - 1, by omega⟩
    simp only [spec_l6Spread.l0, bindS, gen_length, List.length_cons, List.length_nil]
    rw [if_pos (by omega), if_pos (by omega), if_pos (by omega), if_pos (by omega), w64_succ _ (by omega), ← zf_step]
    exact ih (i + 1) K (by omega) (by omega)
theorem sSpread : ∀ (L : Nat) (c : List Int) (N : Int) (k : Nat), L ≤ 4 → c.length = 2 ^ L → 0 ≤ N → Bd N c → N * 10 ^ L ≤ 20000000000000 → 60 + 20 * L ≤ k → spec_l6Spread.f k c = some (spreadM L c) := by
  intro L
  induction L with
  | zero =>
    intro c N k _ hc _ _ _ hk
    obtain ⟨k, rfl⟩ : ∃ q, k = q + 1 := ⟨k - 1, by omega⟩
    simp only [spec_l6Spread.f]
    unfold spec_l1Ints.f
    simp only [bindS, List.length_nil, List.nil_append]
    rw [if_pos (by rw [hc]; rfl), if_pos (by rw [hc]; decide)]
    rfl
  | succ L ih =>
    intro c N k hL hc hN h hb hk
    obtain ⟨k, rfl⟩ : ∃ q, k = q + 1 := ⟨k - 1, by omega⟩
    have hp2 := pow4' L (by omega)
    have hpw : (2 : Nat) ^ (L + 1) = 2 * 2 ^ L := by rw [Nat.pow_succ]; omega
    have hp8 : 2 ^ L ≤ 8 := Nat.pow_le_pow_right (n := 2) (by omega) (show L ≤ 3 by omega)
    rw [hpw] at hc
    have hb' : 10 * N * 10 ^ L ≤ 20000000000000 := by
      rw [Int.pow_succ] at hb
      rw [Int.mul_comm 10 N, Int.mul_assoc, Int.mul_comm 10]; exact hb
    have hp : (1 : Int) ≤ 10 ^ L := Int.pow_pos (show (0 : Int) < 10 by decide)
    have hN10 : 10 * N ≤ 20000000000000 := by
      have := Int.mul_le_mul_of_nonneg_left hp (show 0 ≤ 10 * N by omega)
      omega
    have b1 : Bd (10 * N) (halveS c) := (Bd_halveS hN h).mono (by omega)
    have b2 : Bd (10 * N) (halveD c) := Bd_halveD (Sz_pow' L (by omega)) hc hN h
    have l1 : (halveS c).length = 2 ^ L := by rw [halveS_length]; omega
    have l2 : (halveD c).length = 2 ^ L := by rw [halveD_length]; omega
    have g0 := sHalve (Sz_pow' L (by omega)) hc hN (by omega) h k (by omega)
    have g1 := ih (halveS c) (10 * N) k (by omega) l1 (by omega) b1 hb' (by omega)
    have g2 := ih (halveD c) (10 * N) k (by omega) l2 (by omega) b2 hb' (by omega)
    have m1 := spreadM_length L _ l1
    have m2 := spreadM_length L _ l2
    have g3 := sSpread_l0 (spreadM L (halveS c)) (spreadM L (halveD c)) (by omega) (by omega) (2 ^ L) 0 k (by omega) (by omega)
    simp only [spec_l6Spread.f]
    rw [if_neg (by omega)]
    simp only [g0, g1, g2, bindS]
    exact g3

theorem iSpread_l0 (a b : List Int) (hab : b.length = a.length) (ha : a.length ≤ 8) : ∀ (dd i K : Nat), i + dd = a.length → dd < K → impl_spread.l0 K a b (gen (2 * i) (zf a b)) (a.length : Int) (i : Int) = some (zipM a b) := by
  intro dd
  induction dd with
  | zero =>
    intro i K hi hK
    obtain ⟨K, rfl⟩ : ∃ q, K = q + 1 := ⟨K - 1, by omega⟩
    simp only [impl_spread.l0]
    rw [if_neg (by omega), show i = a.length by omega]; rfl
  | succ dd ih =>
    intro i K hi hK
    obtain ⟨K, rfl⟩ : ∃ q, K = q + 1 := ⟨K - 1, by omega⟩
    simp only [impl_spread.l0, bindS, gen_length, List.length_cons, List.length_nil]
    rw [if_pos (by omega), if_pos (by omega), if_pos (by omega), if_pos (by omega), if_pos (by omega), w64_succ _ (by omega), ← zf_step]
    exact ih (i + 1) K (by omega) (by omega)
theorem iSpread : ∀ (L : Nat) (c : List Int) (N : Int) (k : Nat), L ≤ 4 → c.length = 2 ^ L → 0 ≤ N → Bd N c → N * 10 ^ L ≤ 20000000000000 → 60 + 20 * L ≤ k → impl_spread.f k c = some (spreadM L c) := by
  intro L
  induction L with
  | zero =>
    intro c N k _ hc _ _ _ hk
    obtain ⟨k, rfl⟩ : ∃ q, k = q + 1 := ⟨k - 1, by omega⟩
    have hc1 : c.length = 1 := hc
    simp only [impl_spread.f]
    rw [if_pos (by omega), if_pos (by omega), spreadM]
    match c, hc1 with
    | [x], _ => rfl
  | succ L ih =>
    intro c N k hL hc hN h hb hk
    obtain ⟨k, rfl⟩ : ∃ q, k = q + 1 := ⟨k - 1, by omega⟩
    have hp2 := pow4' L (by omega)
    have hpw : (2 : Nat) ^ (L + 1) = 2 * 2 ^ L := by rw [Nat.pow_succ]; omega
    have hp8 : 2 ^ L ≤ 8 := Nat.pow_le_pow_right (n := 2) (by omega) (show L ≤ 3 by omega)
    rw [hpw] at hc
    have hb' : 10 * N * 10 ^ L ≤ 20000000000000 := by
      rw [Int.pow_succ] at hb
      rw [Int.mul_comm 10 N, Int.mul_assoc, Int.mul_comm 10]; exact hb
    have hp : (1 : Int) ≤ 10 ^ L := Int.pow_pos (show (0 : Int) < 10 by decide)
    have hN10 : 10 * N ≤ 20000000000000 := by
      have := Int.mul_le_mul_of_nonneg_left hp (show 0 ≤ 10 * N by omega)
      omega
    have b1 : Bd (10 * N) (halveS c) := (Bd_halveS hN h).mono (by omega)
    have b2 : Bd (10 * N) (halveD c) := Bd_halveD (Sz_pow' L (by omega)) hc hN h
    have l1 : (halveS c).length = 2 ^ L := by rw [halveS_length]; omega
    have l2 : (halveD c).length = 2 ^ L := by rw [halveD_length]; omega
    have g0 := iHalve (Sz_pow' L (by omega)) hc hN (by omega) h k (by omega)
    have g1 := ih (halveS c) (10 * N) k (by omega) l1 (by omega) b1 hb' (by omega)
    have g2 := ih (halveD c) (10 * N) k (by omega) l2 (by omega) b2 hb' (by omega)
    have m1 := spreadM_length L _ l1
    have m2 := spreadM_length L _ l2
    have g3 := iSpread_l0 (spreadM L (halveS c)) (spreadM L (halveD c)) (by omega) (by omega) (2 ^ L) 0 k (by omega) (by omega)
    simp only [impl_spread.f]
    rw [if_neg (by omega)]
    simp only [g0, g1, g2, bindS]
    exact g3

def spreadR (xs : List Int) : Int × List Int := if sizeF (xs.length : Int) = 0 then (if allIn (-65536) 65536 xs = true then (0, spreadM (lvl xs.length) xs) else (3, [])) else (2, [])
theorem pow_top' (L : Nat) (hL : L ≤ 4) : (65536 : Int) * 10 ^ L ≤ 20000000000000 := by
  match L, hL with
  | 0, _ => decide
  | 1, _ => decide
  | 2, _ => decide
  | 3, _ => decide
  | 4, _ => decide
theorem spec_spreadR (xs : List Int) (k : Nat) (hk : 1000 ≤ k) (hl : xs.length < k) : spec_SpreadBlock.f k xs = some (spreadR xs) := by
  have e1 : wrap64 (-65536) = -65536 := by unfold wrap64; decide
  unfold spec_SpreadBlock.f spec_l6Ask.f spreadR
  simp only [spec_SizeFault_eq, bindS]
  by_cases h : sizeF (xs.length : Int) = 0
  · obtain ⟨hn, hL⟩ := lvl_of h
    have h16 := pow4' _ hL
    rw [if_pos h, if_pos h, e1, l1All_eq xs _ _ (by omega) k hl]
    simp only [bindS]
    by_cases h1 : allIn (-65536) 65536 xs = true
    · rw [if_pos h1, if_pos h1]
      simp only [bindS]
      rw [if_pos trivial, sSpread (lvl xs.length) xs 65536 k hL hn (by omega) (Bd_all (by omega) h1) (pow_top' _ hL) (by omega)]
      simp only [bindS]
    · rw [if_neg h1, if_neg h1]
      simp only [bindS]
      rw [if_neg (by decide)]
  · rw [if_neg h, if_neg h]
    simp only [bindS]
    rw [if_neg (by decide)]
theorem impl_spreadR (xs : List Int) (k : Nat) (hk : 1000 ≤ k) : impl_SpreadBlock.f k xs = some (spreadR xs) := by
  have w1 : impl_allWithin.f xs 65536 = some (allIn (-65536) 65536 xs) := allWithin_eq xs 65536 (by omega) (by omega)
  have hf : ∀ p q : Int, impl_first.f k [p, q] = some (nz [p, q]) := fun p q => first_eq _ (by simp) k (by simp; omega)
  unfold impl_SpreadBlock.f impl_isBlock.f spreadR
  simp only [impl_SizeFault_eq, bindS, w1, codeIf_eq, hf, nz]
  by_cases h : sizeF (xs.length : Int) = 0
  · by_cases h1 : allIn (-65536) 65536 xs = true
    · obtain ⟨hn, hL⟩ := lvl_of h
      have e := iSpread (lvl xs.length) xs 65536 k hL hn (by omega) (Bd_all (by omega) h1) (pow_top' _ hL) (by omega)
      rw [e]; simp [h, h1]
    · simp [h, h1]
  · by_cases h1 : allIn (-65536) 65536 xs = true <;> simp [h, h1]
theorem spreadR_len (xs : List Int) : (spreadR xs).2.length ≤ 16 := by
  unfold spreadR
  by_cases h : sizeF (xs.length : Int) = 0
  · rw [if_pos h]
    obtain ⟨hn, hL⟩ := lvl_of h
    have h16 := pow4' _ hL
    split
    · simp only; rw [spreadM_length _ _ hn]; omega
    · simp
  · rw [if_neg h]; simp

theorem sUnite {m : Nat} (hm : Sz m) {s d : List Int} (hs : s.length = m) (hd : d.length = m) {N : Int} (hN : 0 ≤ N) (hN2 : N ≤ 200000000000000) (h1 : Bd N s) (h2 : Bd N d) (k : Nat) (hk : 40 ≤ k) : spec_l6Unite.f k s d = some (uniteM backS pf s d) := by
  have hb := Bd_back hm hd (M := 5 * N) hN (by omega) h2
  refine spec_unite_eq backS pf s d m hm.le.2 hm.le.1 hs hd ?_ ?_ k hk
  · intro i hi
    have b1 := h2 i
    have b2 := h2 (m - 1 - i)
    exact l5Back_eq (valid_of hm hi) _ _ (by omega) (by omega)
  · intro i hi
    have b1 := h1 i
    have b2 := hb i
    exact l5Part_eq _ _ (by omega) (by omega)
theorem samples1_eq {s n : Int} (hv : Valid s n) (a b : Int) (ha : -1125899906842624 ≤ a ∧ a ≤ 1125899906842624) (hb : -1125899906842624 ≤ b ∧ b ≤ 1125899906842624) : impl_samples_1.f s n a b = some (back (pu s n).1 (pu s n).2 a b) := by
  unfold impl_samples_1.f
  obtain ⟨e, hp, hu⟩ := turnOf_eq hv
  rw [e]
  simp only [Option.bind_some]
  rw [turn_back_eq _ _ _ _ hp hu ha hb]; rfl
theorem iUnite {m : Nat} (hm : Sz m) {s d : List Int} (hs : s.length = m) (hd : d.length = m) {N : Int} (hN : 0 ≤ N) (hN2 : N ≤ 200000000000000) (h1 : Bd N s) (h2 : Bd N d) (k : Nat) (hk : 40 ≤ k) : ∃ e, impl_undo_unite.f k impl_samples_1.f impl_part.f s d = some (uniteM backS pf s d, e) := by
  have hb := Bd_back hm hd (M := 5 * N) hN (by omega) h2
  refine ⟨_, impl_unite_eq impl_samples_1.f impl_part.f backS pf s d m hm.le.2 hs hd ?_ ?_ k hk⟩
  · intro i hi
    have b1 := h2 i
    have b2 := h2 (m - 1 - i)
    exact samples1_eq (valid_of hm hi) _ _ (by omega) (by omega)
  · intro i hi
    have b1 := h1 i
    have b2 := hb i
    exact part_eq _ _ (by omega) (by omega)

def okL (xs ys : List Int) : Prop := (xs.length = 1 ∨ xs.length = 2 ∨ xs.length = 4 ∨ xs.length = 8) ∧ ys.length = xs.length
instance (xs ys : List Int) : Decidable (okL xs ys) := by unfold okL; infer_instance
def uniteR (xs ys : List Int) : Int × List Int := if okL xs ys then (if allIn (-1073741824) 1073741824 xs = true then (if allIn (-1073741824) 1073741824 ys = true then (0, uniteM backS pf xs ys) else (3, [])) else (3, [])) else (2, [])
theorem spec_j0 (xs ys : List Int) (k : Nat) (hk : 100 ≤ k) (h : okL xs ys) : spec_UniteHalves.j0 (k + 1) xs ys false = some (uniteR xs ys) := by
  unfold uniteR
  rw [if_pos h]
  unfold okL at h
  simp only [spec_UniteHalves.j0]
  rw [if_neg (by decide), l1All_eq xs _ _ (by omega) k (by omega), l1All_eq ys _ _ (by omega) k (by omega)]
  simp only [bindS]
  by_cases h1 : allIn (-1073741824) 1073741824 xs = true
  · rw [if_pos h1, if_pos h1]
    by_cases h2 : allIn (-1073741824) 1073741824 ys = true
    · rw [if_pos h2, if_pos h2, sUnite (m := xs.length) (by unfold Sz; exact h.1) rfl h.2 (N := 1073741824) (by omega) (by omega) (Bd_all (by omega) h1) (Bd_all (by omega) h2) k (by omega)]
      simp only [bindS]
    · rw [if_neg h2, if_neg h2]
  · rw [if_neg h1, if_neg h1]
theorem spec_j0_t (xs ys : List Int) (k : Nat) (h : ¬ okL xs ys) : spec_UniteHalves.j0 (k + 1) xs ys true = some (uniteR xs ys) := by
  unfold uniteR
  rw [if_neg h]
  simp only [spec_UniteHalves.j0]
  rw [if_pos trivial]
theorem spec_U (xs ys : List Int) (k : Nat) (hk : 100 ≤ k) : spec_UniteHalves.f (k + 1) xs ys = some (uniteR xs ys) := by
  have hb : ∀ n : Nat, xs.length = n → (xs.length = 1 ∨ xs.length = 2 ∨ xs.length = 4 ∨ xs.length = 8) → spec_UniteHalves.j0 (k + 1) xs ys ((ys.length : Int) != (xs.length : Int)) = some (uniteR xs ys) := by
    intro n _ hn
    by_cases e : ys.length = xs.length
    · rw [show ((ys.length : Int) != (xs.length : Int)) = false by rw [e]; simp]
      exact spec_j0 xs ys k hk ⟨hn, e⟩
    · rw [show ((ys.length : Int) != (xs.length : Int)) = true by simp; omega]
      exact spec_j0_t xs ys k (fun h => e h.2)
  unfold spec_UniteHalves.f
  by_cases h1 : (xs.length : Int) = 1
  · rw [if_pos h1]; exact hb _ rfl (by omega)
  rw [if_neg h1]
  by_cases h2 : (xs.length : Int) = 2
  · rw [if_pos h2]; exact hb _ rfl (by omega)
  rw [if_neg h2]
  by_cases h3 : (xs.length : Int) = 4
  · rw [if_pos h3]; exact hb _ rfl (by omega)
  rw [if_neg h3]
  by_cases h4 : (xs.length : Int) = 8
  · rw [if_pos h4]; exact hb _ rfl (by omega)
  rw [if_neg h4]
  exact spec_j0_t xs ys k (fun h => by unfold okL at h; omega)
theorem impl_j1_bad (xs ys : List Int) (c : Int) (k : Nat) (h : c ≠ 0) : impl_UniteHalves.j1 (k + 1) xs ys c = some (c, []) := by
  simp only [impl_UniteHalves.j1]
  rw [if_neg h]
theorem impl_j1_ok (xs ys : List Int) (k : Nat) (hk : 100 ≤ k) (h : okL xs ys) (h1 : allIn (-1073741824) 1073741824 xs = true) (h2 : allIn (-1073741824) 1073741824 ys = true) : impl_UniteHalves.j1 (k + 1) xs ys 0 = some (0, uniteM backS pf xs ys) := by
  unfold okL at h
  obtain ⟨e, he⟩ := iUnite (m := xs.length) (by unfold Sz; exact h.1) (s := xs) (d := ys) rfl h.2 (N := 1073741824) (by omega) (by omega) (Bd_all (by omega) h1) (Bd_all (by omega) h2) k (by omega)
  simp only [impl_UniteHalves.j1]
  unfold impl_samples.f
  rw [if_pos trivial]
  simp only [bindS, List.length_nil, List.nil_append]
  rw [if_pos (by omega), he]
  simp only [bindS]
theorem impl_j0 (xs ys : List Int) (b : Bool) (k : Nat) (hk : 100 ≤ k) (hb : b = true ↔ ¬ okL xs ys) : impl_UniteHalves.j0 (k + 1 + 1) xs ys b = some (uniteR xs ys) := by
  have w1 : impl_allWithin.f xs 1073741824 = some (allIn (-1073741824) 1073741824 xs) := allWithin_eq xs 1073741824 (by omega) (by omega)
  have w2 : impl_allWithin.f ys 1073741824 = some (allIn (-1073741824) 1073741824 ys) := allWithin_eq ys 1073741824 (by omega) (by omega)
  have hf : ∀ p q : Int, impl_first.f (k + 1) [p, q] = some (nz [p, q]) := fun p q => first_eq _ (by simp) (k + 1) (by simp; omega)
  rw [impl_UniteHalves.j0]
  simp only [bindS, w1, w2, codeIf_eq, hf, nz]
  unfold uniteR
  by_cases h : okL xs ys
  · have hb' : b = false := by
      cases b
      · rfl
      · exact absurd h (hb.1 rfl)
    subst hb'
    rw [if_pos h]
    by_cases h1 : allIn (-1073741824) 1073741824 xs = true
    · by_cases h2 : allIn (-1073741824) 1073741824 ys = true
      · have e := impl_j1_ok xs ys k hk h h1 h2
        simpa [h1, h2] using e
      · have e := impl_j1_bad xs ys 3 k (by decide)
        simpa [h1, h2] using e
    · have e := impl_j1_bad xs ys 3 k (by decide)
      simpa [h1] using e
  · have hb' : b = true := hb.2 h
    subst hb'
    rw [if_neg h]
    have e := impl_j1_bad xs ys 2 k (by decide)
    by_cases h1 : allIn (-1073741824) 1073741824 xs = true <;> simpa [h1] using e
theorem impl_U (xs ys : List Int) (k : Nat) (hk : 100 ≤ k) : impl_UniteHalves.f (k + 1 + 1) xs ys = some (uniteR xs ys) := by
  have hb : (xs.length = 1 ∨ xs.length = 2 ∨ xs.length = 4 ∨ xs.length = 8) → impl_UniteHalves.j0 (k + 1 + 1) xs ys ((ys.length : Int) != (xs.length : Int)) = some (uniteR xs ys) := by
    intro hn
    refine impl_j0 xs ys _ k hk ?_
    unfold okL
    simp only [bne_iff_ne, ne_eq]
    omega
  unfold impl_UniteHalves.f
  by_cases h1 : (xs.length : Int) = 1
  · rw [if_pos h1]; exact hb (by omega)
  rw [if_neg h1]
  by_cases h2 : (xs.length : Int) = 2
  · rw [if_pos h2]; exact hb (by omega)
  rw [if_neg h2]
  by_cases h3 : (xs.length : Int) = 4
  · rw [if_pos h3]; exact hb (by omega)
  rw [if_neg h3]
  by_cases h4 : (xs.length : Int) = 8
  · rw [if_pos h4]; exact hb (by omega)
  rw [if_neg h4]
  refine impl_j0 xs ys _ k hk ?_
  unfold okL
  simp only [true_iff]
  omega
theorem uniteR_len (xs ys : List Int) : (uniteR xs ys).2.length ≤ 16 := by
  unfold uniteR
  by_cases h : okL xs ys
  · rw [if_pos h]
    unfold okL at h
    split
    · split
      · rw [uniteM_length]; omega
      · simp
    · simp
  · rw [if_neg h]; simp

theorem pow4 (L : Nat) (hL : L ≤ 4) : 1 ≤ 2 ^ L ∧ 2 ^ L ≤ 16 := ⟨Nat.two_pow_pos L, Nat.pow_le_pow_right (by omega) hL⟩
theorem Sz_pow (L : Nat) (hL : L ≤ 3) : Sz (2 ^ L) := by
  unfold Sz
  match L, hL with
  | 0, _ => exact .inl rfl
  | 1, _ => exact .inr (.inl rfl)
  | 2, _ => exact .inr (.inr (.inl rfl))
  | 3, _ => exact .inr (.inr (.inr rfl))
theorem evens_length (c : List Int) : (evens c).length = c.length / 2 := gen_length _ _
theorem odds_length (c : List Int) : (odds c).length = c.length / 2 := gen_length _ _
theorem Bd_gather : ∀ (L : Nat) (c : List Int) (N : Int), L ≤ 4 → c.length = 2 ^ L → 1 ≤ N → Bd N c → Bd (4 ^ L * N) (gatherM backS pf L c) := by
  intro L
  induction L with
  | zero => intro c N _ _ _ h; rw [gatherM]; simpa using h
  | succ L ih =>
    intro c N hL hc hN h
    rw [Nat.pow_succ] at hc
    have e1 : (evens c).length = 2 ^ L := by rw [evens_length]; omega
    have e2 : (odds c).length = 2 ^ L := by rw [odds_length]; omega
    have b1 := ih (evens c) N (by omega) e1 hN (Bd_evens (by omega) h)
    have b2 := ih (odds c) N (by omega) e2 hN (Bd_odds (by omega) h)
    have hp : (1 : Int) ≤ 4 ^ L := Int.pow_pos (show (0 : Int) < 4 by decide)
    have hpN : 1 ≤ (4 : Int) ^ L * N := by have := Int.mul_le_mul_of_nonneg_right hp (show 0 ≤ N by omega); omega
    have := Bd_unite (Sz_pow L (by omega)) (gatherM_length backS pf L _ e1) (gatherM_length backS pf L _ e2) hpN b1 b2
    rw [gatherM]
    rwa [← Int.mul_assoc, Int.mul_comm 4 ((4 : Int) ^ L), ← Int.pow_succ] at this

theorem iGather_l0 (S0 : Int → Int → Int → Int → Option (Int × Int)) (S1 : Int → Int → Option (Int × Int)) (c : List Int) (m : Nat) (hc : c.length = 2 * m) (hm : m ≤ 8) : ∀ (dd i k K : Nat), i + dd = m → K = k + 2 * dd + 1 →
    impl_undo_gather.l0 K (gen i fun j => rd c ((2 * j : Nat) : Int)) (gen i fun j => rd c ((2 * j + 1 : Nat) : Int)) c (c.length : Int) ((2 * i : Nat) : Int) S0 S1 = (impl_undo_gather.f k S0 S1 (evens c)).bind fun a => (impl_undo_gather.f k S0 S1 (odds c)).bind fun b => (impl_undo_unite.f k S0 S1 a b).bind fun t => some t.1 := by
  intro dd
  induction dd with
  | zero =>
    intro i k K hi hK
    obtain rfl : K = k + 1 := by omega
    simp only [impl_undo_gather.l0]
    rw [if_neg (by omega)]
    unfold evens odds
    rw [hc, show 2 * m / 2 = i by omega]
  | succ dd ih =>
    intro i k K hi hK
    obtain ⟨K, rfl⟩ : ∃ q, K = q + 1 := ⟨K - 1, by omega⟩
    have t0 : Int.tmod ((2 * i : Nat) : Int) 2 = 0 := by rw [tmod_pos (by omega)]; omega
    have t1 : ¬ Int.tmod ((2 * i + 1 : Nat) : Int) 2 = 0 := by rw [tmod_pos (by omega)]; omega
    rw [impl_undo_gather.l0]
    rw [if_pos (by omega), if_pos (by omega), if_pos (by omega), if_pos t0, gen_length, if_pos (by omega), w64_succ _ (by omega)]
    obtain ⟨K, rfl⟩ : ∃ q, K = q + 1 := ⟨K - 1, by omega⟩
    rw [impl_undo_gather.l0]
    rw [if_pos (by omega), if_pos (by omega), if_pos (by omega), if_neg t1, gen_length, if_pos (by omega), w64_succ _ (by omega)]
    have := ih (i + 1) k K (by omega) (by omega)
    rw [gen_succ, gen_succ] at this
    exact this
theorem iGather : ∀ (L : Nat) (c : List Int) (N : Int) (k : Nat), L ≤ 4 → c.length = 2 ^ L → 1 ≤ N → Bd N c → 4 ^ L * N ≤ 200000000000000 → 60 + 30 * L ≤ k → impl_undo_gather.f k impl_samples_1.f impl_part.f c = some (gatherM backS pf L c) := by
  intro L
  induction L with
  | zero =>
    intro c N k _ hc _ _ _ hk
    obtain ⟨k, rfl⟩ : ∃ q, k = q + 1 := ⟨k - 1, by omega⟩
    have hc1 : c.length = 1 := hc
    simp only [impl_undo_gather.f]
    rw [if_pos (by omega), if_pos (by omega), gatherM]
    match c, hc1 with
    | [x], _ => rfl
  | succ L ih =>
    intro c N k hL hc hN h hb hk
    obtain ⟨k, rfl⟩ : ∃ q, k = q + 1 := ⟨k - 1, by omega⟩
    have hp2 := pow4 L (by omega)
    have hpw : (2 : Nat) ^ (L + 1) = 2 * 2 ^ L := by rw [Nat.pow_succ]; omega
    have hp8 : 2 ^ L ≤ 8 := by
      have := Nat.pow_le_pow_right (n := 2) (by omega) (show L ≤ 3 by omega)
      exact this
    rw [hpw] at hc
    have e1 : (evens c).length = 2 ^ L := by rw [evens_length]; omega
    have e2 : (odds c).length = 2 ^ L := by rw [odds_length]; omega
    have hp : (1 : Int) ≤ 4 ^ L := Int.pow_pos (show (0 : Int) < 4 by decide)
    have hpN : 1 ≤ (4 : Int) ^ L * N := by have := Int.mul_le_mul_of_nonneg_right hp (show 0 ≤ N by omega); omega
    have hb' : 4 * ((4 : Int) ^ L * N) ≤ 200000000000000 := by rw [← Int.mul_assoc, Int.mul_comm 4 ((4 : Int) ^ L), ← Int.pow_succ]; exact hb
    have b1 := Bd_gather L (evens c) N (by omega) e1 hN (Bd_evens (by omega) h)
    have b2 := Bd_gather L (odds c) N (by omega) e2 hN (Bd_odds (by omega) h)
    have l1 := gatherM_length backS pf L _ e1
    have l2 := gatherM_length backS pf L _ e2
    have g1 := ih (evens c) N (k - 2 * 2 ^ L - 1) (by omega) e1 hN (Bd_evens (by omega) h) (by omega) (by omega)
    have g2 := ih (odds c) N (k - 2 * 2 ^ L - 1) (by omega) e2 hN (Bd_odds (by omega) h) (by omega) (by omega)
    obtain ⟨e, g3⟩ := iUnite (Sz_pow L (by omega)) l1 l2 (by omega) (by omega) b1 b2 (k - 2 * 2 ^ L - 1) (by omega)
    have g0 := iGather_l0 impl_samples_1.f impl_part.f c (2 ^ L) hc hp8 (2 ^ L) 0 (k - 2 * 2 ^ L - 1) k (by omega) (by omega)
    simp only [impl_undo_gather.f]
    rw [if_neg (by omega)]
    refine Eq.trans g0 ?_
    simp only [g1, g2, g3, bindS]
    rw [gatherM]

def gatherR (xs : List Int) : Int × List Int := if sizeF (xs.length : Int) = 0 then (if allIn (-16777216) 16777216 xs = true then (0, gatherM backS pf (lvl xs.length) xs) else (3, [])) else (2, [])
theorem pow_top (L : Nat) (hL : L ≤ 4) : (4 : Int) ^ L * 16777216 ≤ 200000000000000 := by
  match L, hL with
  | 0, _ => decide
  | 1, _ => decide
  | 2, _ => decide
  | 3, _ => decide
  | 4, _ => decide
theorem gatherFault_eq (xs : List Int) (k : Nat) (hk : 100 ≤ k) : impl_gatherFault.f k xs = some (if sizeF (xs.length : Int) = 0 then (if allIn (-16777216) 16777216 xs = true then 0 else 3) else 2) := by
  have w1 : impl_allWithin.f xs 16777216 = some (allIn (-16777216) 16777216 xs) := allWithin_eq xs 16777216 (by omega) (by omega)
  have hf : ∀ p q : Int, impl_first.f k [p, q] = some (nz [p, q]) := fun p q => first_eq _ (by simp) k (by simp; omega)
  unfold impl_gatherFault.f impl_isBlock.f
  simp only [impl_SizeFault_eq, bindS, w1, codeIf_eq, hf, nz]
  by_cases h : sizeF (xs.length : Int) = 0
  · by_cases h1 : allIn (-16777216) 16777216 xs = true <;> simp [h, h1]
  · by_cases h1 : allIn (-16777216) 16777216 xs = true <;> simp [h, h1]
theorem impl_gatherR (xs : List Int) (k : Nat) (hk : 1000 ≤ k) : impl_GatherBlock.f k xs = some (gatherR xs) := by
  unfold impl_GatherBlock.f gatherR impl_samples.f
  rw [gatherFault_eq xs k (by omega)]
  simp only [bindS]
  by_cases h : sizeF (xs.length : Int) = 0
  · obtain ⟨hn, hL⟩ := lvl_of h
    have h16 := pow4 _ hL
    rw [if_pos h, if_pos h]
    by_cases h1 : allIn (-16777216) 16777216 xs = true
    · rw [if_pos h1, if_pos h1, if_pos rfl, iGather (lvl xs.length) xs 16777216 k hL hn (by omega) (Bd_all (by omega) h1) (pow_top _ hL) (by omega)]
      simp only [bindS]
    · rw [if_neg h1, if_neg h1, if_neg (by decide)]
  · rw [if_neg h, if_neg h, if_neg (by decide)]
theorem gatherR_len (xs : List Int) : (gatherR xs).2.length ≤ 16 := by
  unfold gatherR
  by_cases h : sizeF (xs.length : Int) = 0
  · rw [if_pos h]
    obtain ⟨hn, hL⟩ := lvl_of h
    have h16 := pow4 _ hL
    split
    · simp only; rw [gatherM_length _ _ _ _ hn]; omega
    · simp
  · rw [if_neg h]; simp

theorem pf_mx (a b : Int) : pf (mx a b).1 (mx a b).2 = (a, b) := by
  unfold pf mx
  simp only [Prod.mk.injEq]
  omega
theorem mx_pf (s d : Int) : mx (pf s d).1 (pf s d).2 = (s, d) := by
  unfold pf mx
  simp only [Prod.mk.injEq]
  have e : s - d / 2 + d - (s - d / 2) = d := by omega
  rw [e]
  exact ⟨by omega, rfl⟩
theorem back_forthS (n i : Nat) (a b : Int) : backS n i (forthS n i a b).1 (forthS n i a b).2 = (a, b) := back_forth _ _ _ _
theorem forth_backS (n i : Nat) (a b : Int) : forthS n i (backS n i a b).1 (backS n i a b).2 = (a, b) := forth_back _ _ _ _
theorem unite_halve {m : Nat} {xs : List Int} (hx : xs.length = 2 * m) : uniteM backS pf (halveS xs) (halveD xs) = xs := by
  have hS : (halveS xs).length = m := by rw [halveS_length]; omega
  have hD0 : (halveD0 xs).length = m := by rw [halveD0_length]; omega
  have et : twist (backS (2 * m)) (m / 2) (halveD xs) = halveD0 xs := by
    unfold halveD
    rw [hx, show 2 * m / 2 / 2 = m / 2 by omega]
    exact twist_inv (by omega) (fun i a b _ => back_forthS _ _ _ _)
  unfold uniteM
  rw [hS, et]
  have r1 : ∀ j, j < m → rd (halveS xs) (j : Int) = (mx (rd xs (j : Int)) (rd xs ((2 * m - 1 - j : Nat) : Int))).1 := fun j hj => by
    unfold halveS; rw [show xs.length / 2 = m by omega, rd_gen _ _ hj]; rfl
  have r2 : ∀ j, j < m → rd (halveD0 xs) (j : Int) = (mx (rd xs (j : Int)) (rd xs ((2 * m - 1 - j : Nat) : Int))).2 := fun j hj => by
    unfold halveD0; rw [show xs.length / 2 = m by omega, rd_gen _ _ hj]; rfl
  refine ext_rd (by rw [outs_length, hS, hx]) (fun j hj => ?_)
  rw [outs_length, hS] at hj
  unfold outs
  rw [hS, rd_gen _ _ hj]
  by_cases h : j < m
  · rw [if_pos h, r1 j h, r2 j h, pf_mx]
  · rw [if_neg h, r1 _ (by omega), r2 _ (by omega), pf_mx]
    simp only
    rw [show 2 * m - 1 - (2 * m - 1 - j) = j by omega]
theorem halve_unite {m : Nat} {s d : List Int} (hs' : s.length = m) (hd' : d.length = m) : halveS (uniteM backS pf s d) = s ∧ halveD (uniteM backS pf s d) = d := by
  have hU : (uniteM backS pf s d).length = 2 * m := by rw [uniteM_length, hs']
  have he : (twist (backS (2 * m)) (m / 2) d).length = m := by rw [twist_length, hd']
  have lo : ∀ j, j < m → rd (uniteM backS pf s d) (j : Int) = (pf (rd s (j : Int)) (rd (twist (backS (2 * m)) (m / 2) d) (j : Int))).1 := fun j hj => by
    unfold uniteM outs; rw [hs', rd_gen _ _ (by omega), if_pos hj]
  have hi : ∀ j, j < m → rd (uniteM backS pf s d) ((2 * m - 1 - j : Nat) : Int) = (pf (rd s (j : Int)) (rd (twist (backS (2 * m)) (m / 2) d) (j : Int))).2 := fun j hj => by
    unfold uniteM outs; rw [hs', rd_gen _ _ (by omega), if_neg (by omega), show 2 * m - 1 - (2 * m - 1 - j) = j by omega]
  have hm2 : (uniteM backS pf s d).length / 2 = m := by omega
  have e0 : halveD0 (uniteM backS pf s d) = twist (backS (2 * m)) (m / 2) d := by
    refine ext_rd (by rw [halveD0_length, he, hm2]) (fun j hj => ?_)
    rw [halveD0_length, hm2] at hj
    unfold halveD0 hd
    rw [hm2, rd_gen _ _ hj, lo j hj, hi j hj, mx_pf]
  constructor
  · refine ext_rd (by rw [halveS_length, hs', hm2]) (fun j hj => ?_)
    rw [halveS_length, hm2] at hj
    unfold halveS hs
    rw [hm2, rd_gen _ _ hj, lo j hj, hi j hj, mx_pf]
  · unfold halveD
    rw [e0, hU, show 2 * m / 2 / 2 = m / 2 by omega]
    exact twist_inv (by omega) (fun i a b _ => forth_backS _ _ _ _)
theorem evens_zip (a b : List Int) : evens (zipM a b) = a := by
  refine ext_rd (by rw [evens_length, zipM_length]; omega) (fun j hj => ?_)
  rw [evens_length, zipM_length] at hj
  unfold evens zipM
  rw [gen_length, rd_gen _ _ hj, rd_gen _ _ (by omega), if_pos (by omega), show 2 * j / 2 = j by omega]
theorem odds_zip {a b : List Int} (h : b.length = a.length) : odds (zipM a b) = b := by
  refine ext_rd (by rw [odds_length, zipM_length]; omega) (fun j hj => ?_)
  rw [odds_length, zipM_length] at hj
  unfold odds zipM
  rw [gen_length, rd_gen _ _ hj, rd_gen _ _ (by omega), if_neg (by omega), show (2 * j + 1) / 2 = j by omega]
theorem zip_evens {c : List Int} {m : Nat} (h : c.length = 2 * m) : zipM (evens c) (odds c) = c := by
  have he : (evens c).length = m := by rw [evens_length]; omega
  refine ext_rd (by rw [zipM_length, he, h]) (fun j hj => ?_)
  rw [zipM_length, he] at hj
  unfold zipM
  rw [he, rd_gen _ _ hj]
  by_cases e : j % 2 = 0
  · rw [if_pos e]
    unfold evens
    rw [show c.length / 2 = m by omega, rd_gen _ _ (by omega), show 2 * (j / 2) = j by omega]
  · rw [if_neg e]
    unfold odds
    rw [show c.length / 2 = m by omega, rd_gen _ _ (by omega), show 2 * (j / 2) + 1 = j by omega]
theorem gather_spread : ∀ (L : Nat) (xs : List Int), xs.length = 2 ^ L → gatherM backS pf L (spreadM L xs) = xs := by
  intro L
  induction L with
  | zero => intro xs _; rfl
  | succ L ih =>
    intro xs h
    rw [Nat.pow_succ] at h
    have l1 : (halveS xs).length = 2 ^ L := by rw [halveS_length]; omega
    have l2 : (halveD xs).length = 2 ^ L := by rw [halveD_length]; omega
    rw [spreadM, gatherM, evens_zip, odds_zip (by rw [spreadM_length L _ l1, spreadM_length L _ l2]), ih _ l1, ih _ l2]
    exact unite_halve (m := 2 ^ L) (by omega)
theorem spread_gather : ∀ (L : Nat) (c : List Int), c.length = 2 ^ L → spreadM L (gatherM backS pf L c) = c := by
  intro L
  induction L with
  | zero => intro c _; rfl
  | succ L ih =>
    intro c h
    rw [Nat.pow_succ] at h
    have e1 : (evens c).length = 2 ^ L := by rw [evens_length]; omega
    have e2 : (odds c).length = 2 ^ L := by rw [odds_length]; omega
    obtain ⟨u1, u2⟩ := halve_unite (gatherM_length backS pf L _ e1) (gatherM_length backS pf L _ e2)
    rw [gatherM, spreadM, u1, u2, ih _ e1, ih _ e2]
    exact zip_evens (m := 2 ^ L) (by omega)

theorem Bf_halveD {m : Nat} (hm : Sz m) {xs : List Int} (hx : xs.length = 2 * m) {N : Int} (h0 : 12 ≤ N) (h : Bd N xs) : Bd (3 * N) (halveD xs) := by
  unfold halveD
  rw [show xs.length / 2 / 2 = m / 2 by omega, hx]
  exact Bf_forth hm (by rw [halveD0_length]; omega) (N := 2 * N) (by omega) (by omega) (Bd_halveD0 (by omega) h)
theorem Bf_spread : ∀ (L : Nat) (c : List Int) (N : Int), L ≤ 4 → c.length = 2 ^ L → 12 ≤ N → Bd N c → Bd (3 ^ L * N) (spreadM L c) := by
  intro L
  induction L with
  | zero => intro c N _ _ _ h; rw [spreadM]; simpa using h
  | succ L ih =>
    intro c N hL hc hN h
    rw [Nat.pow_succ] at hc
    have l1 : (halveS c).length = 2 ^ L := by rw [halveS_length]; omega
    have l2 : (halveD c).length = 2 ^ L := by rw [halveD_length]; omega
    have b1 : Bd (3 * N) (halveS c) := (Bd_halveS (by omega) h).mono (by omega)
    have b2 : Bd (3 * N) (halveD c) := Bf_halveD (Sz_pow' L (by omega)) (by omega) hN h
    have g1 := ih (halveS c) (3 * N) (by omega) l1 (by omega) b1
    have g2 := ih (halveD c) (3 * N) (by omega) l2 (by omega) b2
    have hp : (1 : Int) ≤ 3 ^ L := Int.pow_pos (show (0 : Int) < 3 by decide)
    have e : (3 : Int) ^ (L + 1) * N = 3 ^ L * (3 * N) := by rw [Int.pow_succ, Int.mul_assoc]
    have hn : (0 : Int) ≤ 3 ^ L * (3 * N) := Int.mul_nonneg (by omega) (by omega)
    rw [spreadM, e]
    unfold zipM
    refine Bd_gen hn (fun j _ => ?_)
    by_cases q : j % 2 = 0
    · rw [if_pos q]; exact g1 _
    · rw [if_neg q]; exact g2 _
theorem all_Bd {N M : Int} {xs : List Int} (h : Bd N xs) (hM : N ≤ M) : allIn (-M) M xs = true := by
  rw [allIn_iff]
  intro x hx
  obtain ⟨i, hi, rfl⟩ := List.mem_iff_getElem.1 hx
  have := h i
  rw [rd_get xs i hi] at this
  omega

theorem lwNums_l0 (xs : List Int) (hn : xs.length ≤ 1000000) : ∀ (d i k : Nat), i + d = xs.length → d < k → laws_lwNums.l0 k xs xs (i : Int) = some true := by
  intro d
  induction d with
  | zero =>
    intro i k hi hk
    obtain ⟨k, rfl⟩ : ∃ m, k = m + 1 := ⟨k - 1, by omega⟩
    simp only [laws_lwNums.l0]
    rw [if_neg (by omega)]
  | succ d ih =>
    intro i k hi hk
    obtain ⟨k, rfl⟩ : ∃ m, k = m + 1 := ⟨k - 1, by omega⟩
    simp only [laws_lwNums.l0]
    rw [if_pos (by omega), if_pos (by omega), if_pos (by omega), if_pos trivial, w64_succ _ (by omega)]
    exact ih (i + 1) k (by omega) (by omega)
theorem lwNums_refl (xs : List Int) (hn : xs.length ≤ 1000000) (k : Nat) (hk : xs.length < k) : laws_lwNums.f k xs xs = some true := by
  unfold laws_lwNums.f
  rw [if_pos rfl]
  exact lwNums_l0 xs hn xs.length 0 k (by omega) hk

theorem drawList_l0 {c : List Int} (hc : Bytes c) (b : Int) (hb0 : 0 ≤ b) (hb1 : b ≤ 1000000) : ∀ (d : Nat) (at' : Int) (xs : List Int) (k : Nat), d < k → 0 ≤ at' → at' + d ≤ 1073741824 → xs.length + d ≤ 1000000 →
    ∃ ys, spec_l1DrawList.l0 k (d : Int) b xs c at' = some (ys, at' + d) ∧ ys.length = xs.length + d := by
  intro d
  induction d with
  | zero =>
    intro at' xs k hk h0 h1 hl
    obtain ⟨k, rfl⟩ : ∃ q, k = q + 1 := ⟨k - 1, by omega⟩
    refine ⟨xs, ?_, rfl⟩
    simp only [spec_l1DrawList.l0]
    rw [if_neg (by omega)]; simp
  | succ d ih =>
    intro at' xs k hk h0 h1 hl
    obtain ⟨k, rfl⟩ : ∃ q, k = q + 1 := ⟨k - 1, by omega⟩
    obtain ⟨v, e, _⟩ := l1Signed_ok hc at' b h0 (by omega) hb0 (by omega)
    obtain ⟨ys, h2, h4⟩ := ih (at' + 1) (xs ++ [v]) k (by omega) (by omega) (by omega) (by simp; omega)
    refine ⟨ys, ?_, by rw [h4]; simp; omega⟩
    simp only [spec_l1DrawList.l0]
    rw [if_pos (by omega), e]
    simp only [Option.bind_some]
    rw [if_pos (by omega), w64 (by omega) (by omega), show ((d + 1 : Nat) : Int) - 1 = (d : Int) by omega, h2]
    rw [show at' + 1 + (d : Int) = at' + ((d + 1 : Nat) : Int) by omega]
theorem drawList_ok {c : List Int} (hc : Bytes c) (n : Nat) (b at' : Int) (k : Nat) (hk : n < k) (hb0 : 0 ≤ b) (hb1 : b ≤ 1000000) (h0 : 0 ≤ at') (h1 : at' + n ≤ 1073741824) (hn : n ≤ 1000000) :
    ∃ ys, spec_l1DrawList.f k c at' (n : Int) b = some (ys, at' + n) ∧ ys.length = n := by
  obtain ⟨ys, e, hl⟩ := drawList_l0 hc b hb0 hb1 n at' [] k hk h0 h1 (by simp; omega)
  exact ⟨ys, e, by rw [hl]; simp⟩

theorem drawSpread_ok {c : List Int} (hc : Bytes c) (k : Nat) (hk : 100 ≤ k) : ∃ xs, spec_DrawSpreadBlock.f (k + 1) c = some xs ∧ xs.length ≤ 16 := by
  unfold spec_DrawSpreadBlock.f spec_l1Source.f
  simp only [bindS]
  obtain ⟨n, e1, hm⟩ := l1Pick_ok hc 0 [4, 8, 16, 4, 8, 16, 2, 0] (by omega) (by omega) (by simp)
  have hn : 0 ≤ n ∧ n ≤ 16 := by
    simp only [List.mem_cons, List.not_mem_nil, or_false] at hm
    omega
  clear hm
  obtain ⟨b, e2, hm⟩ := l1Pick_ok hc (0 + 1) [5, 900, 46000, 65536] (by omega) (by omega) (by simp)
  have hb : 0 ≤ b ∧ b ≤ 65536 := by
    simp only [List.mem_cons, List.not_mem_nil, or_false] at hm
    omega
  clear hm
  obtain ⟨m, rfl⟩ := Int.eq_ofNat_of_zero_le hn.1
  obtain ⟨xs, e3, hl⟩ := drawList_ok hc m b (0 + 1 + 1) (k + 1) (by omega) (by omega) (by omega) (by omega) (by omega) (by omega)
  simp only [e1, e2, e3, bindS]
  have h0 : ∀ q, spec_DrawSpreadBlock.j0 (k + 1) (m : Int) xs false c q = some xs := fun q => by
    simp only [spec_DrawSpreadBlock.j0]
    rw [if_neg (by decide)]
  by_cases h : (xs.length : Int) > 0
  · rw [if_pos h]
    unfold spec_l1Chance.f
    obtain ⟨v, e4, _⟩ := l1Next_ok hc (0 + 1 + 1 + (m : Int)) 8 (by omega) (by omega)
    simp only [e4, bindS]
    by_cases g : (v == 0) = true
    · rw [g]
      simp only [spec_DrawSpreadBlock.j0]
      rw [if_pos trivial]
      obtain ⟨p, e5, hp, _⟩ := l1Next_ok hc (0 + 1 + 1 + (m : Int) + 1) (m : Int) (by omega) (by omega)
      have hp := hp (by omega)
      obtain ⟨w, e6, _⟩ := l1Pick_ok hc (0 + 1 + 1 + (m : Int) + 1 + 1) [65536, -65536, 65537] (by omega) (by omega) (by simp)
      simp only [e5, e6, bindS]
      rw [if_pos hp.1, if_pos (by omega)]
      exact ⟨_, rfl, by rw [List.length_set]; omega⟩
    · rw [Bool.not_eq_true] at g
      rw [g, h0]
      exact ⟨_, rfl, by omega⟩
  · rw [if_neg h, h0]
    exact ⟨_, rfl, by omega⟩

theorem drawHalve_ok {c : List Int} (hc : Bytes c) (k : Nat) (hk : 100 ≤ k) : ∃ xs, spec_DrawHalveList.f k c = some xs ∧ xs.length ≤ 16 := by
  unfold spec_DrawHalveList.f spec_l1Source.f
  simp only [bindS]
  obtain ⟨n, e1, hm⟩ := l1Pick_ok hc 0 [2, 4, 8, 16, 4, 8, 16, 0, 3] (by omega) (by omega) (by simp)
  have hn : 0 ≤ n ∧ n ≤ 16 := by
    simp only [List.mem_cons, List.not_mem_nil, or_false] at hm
    omega
  clear hm
  obtain ⟨b, e2, hm⟩ := l1Pick_ok hc (0 + 1) [5, 900, 60000] (by omega) (by omega) (by simp)
  have hb : 0 ≤ b ∧ b ≤ 60000 := by
    simp only [List.mem_cons, List.not_mem_nil, or_false] at hm
    omega
  clear hm
  obtain ⟨m, rfl⟩ := Int.eq_ofNat_of_zero_le hn.1
  obtain ⟨xs, e3, hl⟩ := drawList_ok hc m b (0 + 1 + 1) k (by omega) (by omega) (by omega) (by omega) (by omega) (by omega)
  simp only [e1, e2, e3, bindS]
  by_cases h : (xs.length : Int) > 0
  · rw [if_pos h]
    unfold spec_l1Chance.f
    obtain ⟨v, e4, _⟩ := l1Next_ok hc (0 + 1 + 1 + (m : Int)) 8 (by omega) (by omega)
    simp only [e4, bindS]
    by_cases g : (v == 0) = true
    · rw [if_pos g]
      obtain ⟨w, e6, _⟩ := l1Pick_ok hc (0 + 1 + 1 + (m : Int) + 1) [1073741824, -1073741824, 1073741825] (by omega) (by omega) (by simp)
      simp only [e6, bindS]
      rw [if_pos (by omega)]
      exact ⟨_, rfl, by rw [List.length_set]; omega⟩
    · rw [if_neg g]
      exact ⟨_, rfl, by omega⟩
  · rw [if_neg h]
    exact ⟨_, rfl, by omega⟩

-- PLUS: lists bytes sizef turns blk rot rotfine uniteb uniteR boundall gatherb gatherR halves halveR spreads spreadR invs finespread
-- SKIP: spec_l1Some
theorem blocks_l0 (l ys : List Int) (K0 : Nat) (hl : ys.length ≤ 16) (hB : Bd 8388608 ys) (hg : ∀ k, 1000 ≤ k → impl_GatherBlock.f k ys = some (0, l)) (hn : l.length ≤ 16) : ∀ (d i k : Nat), i + d = ys.length → d + 1100 < k → laws_FnBlocks.l0 k l (i : Int) 0 ys = some true := by
  intro d
  induction d with
  | zero =>
    intro i k hi hk
    obtain ⟨k, rfl⟩ : ∃ q, k = q + 1 := ⟨k - 1, by omega⟩
    simp only [laws_FnBlocks.l0]
    rw [if_neg (by omega), hg k (by omega)]
    simp only [bindS]
    rw [if_pos trivial, lwNums_refl l (by omega) k (by omega)]
    simp only [bindS]
  | succ d ih =>
    intro i k hi hk
    obtain ⟨k, rfl⟩ : ∃ q, k = q + 1 := ⟨k - 1, by omega⟩
    have hb := hB i
    simp only [laws_FnBlocks.l0]
    rw [if_pos (by omega), if_pos (by omega)]
    have hx := ih (i + 1) k (by omega) (by omega)
    unfold laws_lwAbs.f
    by_cases h : rd ys (i : Int) < 0
    · rw [if_pos h, w64 (by omega) (by omega)]
      simp only [bindS]
      rw [if_neg (by omega), w64_succ i (by omega)]; exact hx
    · rw [if_neg h]
      simp only [bindS]
      rw [if_neg (by omega), w64_succ i (by omega)]; exact hx
theorem blocks_j1 (l : List Int) (k : Nat) (hk : 2000 ≤ k) : laws_FnBlocks.j1 (k + 1) l (spreadR l).1 (spreadR l).2 = some true := by
  simp only [laws_FnBlocks.j1]
  by_cases h : (spreadR l).1 = 0
  · rw [if_pos h]
    have hv : sizeF (l.length : Int) = 0 ∧ allIn (-65536) 65536 l = true ∧ spreadR l = (0, spreadM (lvl l.length) l) := by
      unfold spreadR at h ⊢
      by_cases hz : sizeF (l.length : Int) = 0
      · rw [if_pos hz] at h ⊢
        by_cases ha : allIn (-65536) 65536 l = true
        · rw [if_pos ha]; exact ⟨hz, ha, rfl⟩
        · rw [if_neg ha] at h; simp at h
      · rw [if_neg hz] at h; simp at h
    obtain ⟨hz, ha, e⟩ := hv
    obtain ⟨hn, hL⟩ := lvl_of hz
    have h16 := pow4' _ hL
    have hlen : (spreadM (lvl l.length) l).length = l.length := by rw [spreadM_length _ _ hn]; exact hn.symm
    have hb := Bf_spread (lvl l.length) l 65536 hL hn (by omega) (Bd_all (by omega) ha)
    have ht : ∀ L, L ≤ 4 → (3 : Int) ^ L * 65536 ≤ 8388608 := fun L hL => by
      match L, hL with
      | 0, _ => decide
      | 1, _ => decide
      | 2, _ => decide
      | 3, _ => decide
      | 4, _ => decide
    have hb' := hb.mono (ht _ hL)
    rw [e]
    refine blocks_l0 l _ 0 (by omega) hb' (fun k hk => ?_) (by omega) _ 0 k (Nat.zero_add _) (by omega)
    rw [impl_gatherR _ k hk]
    unfold gatherR
    rw [hlen, if_pos hz, if_pos (all_Bd hb' (by omega)), gather_spread _ _ hn]
  · rw [if_neg h]
theorem blocks_j0 (l x : List Int) (hx : x.length ≤ 16) (k : Nat) (hk : 3000 ≤ k) : laws_FnBlocks.j0 (k + 1 + 1) l x false (spreadR l).1 (spreadR l).2 (halveR x).1 (halveR x).2.1 (halveR x).2.2 = some true := by
  have hj := blocks_j1 l k (by omega)
  rw [laws_FnBlocks.j0]
  rw [if_neg (by decide)]
  by_cases h : (halveR x).1 = 0
  · rw [if_pos h]
    have hv : (x.length = 2 ∨ x.length = 4 ∨ x.length = 8 ∨ x.length = 16) ∧ halveR x = (0, halveS x, halveD x) := by
      unfold halveR at h ⊢
      by_cases hz : x.length = 2 ∨ x.length = 4 ∨ x.length = 8 ∨ x.length = 16
      · rw [if_pos hz] at h ⊢
        by_cases ha : allIn (-1073741824) 1073741824 x = true
        · rw [if_pos ha]; exact ⟨hz, rfl⟩
        · rw [if_neg ha] at h; simp at h
      · rw [if_neg hz] at h; simp at h
    obtain ⟨hz, e⟩ := hv
    rw [e]
    simp only
    obtain ⟨k2, rfl⟩ : ∃ q, k = q + 2 := ⟨k - 2, by omega⟩
    have i1 := impl_U (halveS x) (halveD x) (k2 + 1) (by omega)
    have s1 := spec_U (halveS x) (halveD x) (k2 + 2) (by omega)
    have hS := halveS_length x
    have eU : (uniteR (halveS x) (halveD x)).1 = 0 → (uniteR (halveS x) (halveD x)).2 = x := by
      unfold uniteR
      intro hh
      by_cases ho : okL (halveS x) (halveD x)
      · rw [if_pos ho] at hh ⊢
        by_cases a1 : allIn (-1073741824) 1073741824 (halveS x) = true
        · rw [if_pos a1] at hh ⊢
          by_cases a2 : allIn (-1073741824) 1073741824 (halveD x) = true
          · rw [if_pos a2]; exact unite_halve (m := x.length / 2) (by omega)
          · rw [if_neg a2] at hh; simp at hh
        · rw [if_neg a1] at hh; simp at hh
      · rw [if_neg ho] at hh; simp at hh
    have ew : wrap64 (((halveS x).length : Int) * 2) = (x.length : Int) := by
      rw [w64 (by omega) (by omega)]; omega
    simp only [i1, s1, bindS]
    by_cases g : (uniteR (halveS x) (halveD x)).1 = 0
    · rw [if_pos g, eU g, lwNums_refl x (by omega) (k2 + 2 + 1) (by omega)]
      simp only [bindS]
      rw [if_pos trivial, if_pos ew]
      exact hj
    · rw [if_neg g, if_pos trivial, if_pos ew]
      exact hj
  · rw [if_neg h]
    exact hj
theorem FnBlocks : laws_FnBlocks.Pure := by
  intro l0 h1 h2 h3
  have hc : Bytes l0 := fun x hx => u8_of_wf (h3 x hx)
  obtain ⟨K, hK⟩ : ∃ K, K = 4000 := ⟨_, rfl⟩
  obtain ⟨l, hd, hl⟩ := drawSpread_ok hc (K + 1) (by omega)
  obtain ⟨x, hd2, hl2⟩ := drawHalve_ok hc (K + 1 + 1) (by omega)
  have hj := blocks_j0 l x hl2 K (by omega)
  refine ⟨K + 1 + 1, ?_⟩
  unfold laws_FnBlocks.f laws_lwBig.f
  simp only [bindS]
  split
  · rfl
  simp only [hd, hd2, impl_spreadR l (K + 1 + 1) (by omega), spec_spreadR l (K + 1 + 1) (by omega) (by omega), impl_H x (K + 1 + 1) (by omega), spec_H x (K + 1) (by omega), bindS, if_true, bne_self_eq_false]
  exact hj

end Go.Proofs.Ytefagoglphajiaa.Pure
