/-
  States: a lap that is fed and a synth that plays stay right ones, and program and reference tell the same, for every code.
-/
import Derived.Test.YtmhnpogjkbmmnaaPFnStatesx
namespace Go.Proofs.Ytmhnpogjkbmmnaa.Pure
open Go.RowKit Go.Proofs.Ytmhnpogjkbmmnaa.PFnStates Go.Proofs.YtmhnpogjkbmmnaaW.PrintWords Go.Proofs.YtmhnpogjkbmmnaaW.PrintLast Go.Proofs.YtmhnpogjkbmmnaaW.PrintMore
set_option linter.unusedVariables false
set_option linter.unusedSimpArgs false
theorem w64 {x : Int} (h1 : -9223372036854775808 ≤ x) (h2 : x ≤ 9223372036854775807) : wrap64 x = x := by
  unfold wrap64; omega
theorem tdiv_pos {a : Int} (h : 0 ≤ a) (b : Int) : Int.tdiv a b = a / b := Int.tdiv_eq_ediv_of_nonneg h
theorem tmod_pos {a : Int} (h : 0 ≤ a) (b : Int) : Int.tmod a b = a % b := Int.tmod_eq_emod_of_nonneg h
theorem tdiv_neg {a : Int} (h : a ≤ 0) (b : Int) : Int.tdiv a b = -((-a) / b) := by
  have := Int.neg_tdiv (-a) b
  rw [Int.neg_neg] at this
  rw [this, tdiv_pos (by omega)]
theorem tmod_neg {a : Int} (h : a ≤ 0) (b : Int) : Int.tmod a b = -((-a) % b) := by
  have := Int.neg_tmod (-a) b
  rw [Int.neg_neg] at this
  rw [this, tmod_pos (by omega)]
theorem div_unique {x b q r : Int} (hb : 0 < b) (h : r + b * q = x) (h0 : 0 ≤ r) (h1 : r < b) : x / b = q :=
  ((Int.ediv_emod_unique hb).2 ⟨h, h0, h1⟩).1
theorem div_parts (x b : Int) : b * (x / b) + x % b = x := Int.mul_ediv_add_emod x b
theorem neg_div {a b : Int} (hb : 0 < b) : (-a) / b = if a % b = 0 then -(a / b) else -(a / b) - 1 := by
  have h := div_parts a b
  have h0 := Int.emod_nonneg a (Int.ne_of_gt hb)
  have h1 := Int.emod_lt_of_pos a hb
  split
  · exact div_unique (r := 0) hb (by rw [Int.mul_neg]; omega) (by omega) (by omega)
  · exact div_unique (r := b - a % b) hb (by rw [Int.mul_sub, Int.mul_neg]; omega) (by omega) (by omega)
theorem ceil_div {a b : Int} (hb : 0 < b) : (a + b - 1) / b = -((-a) / b) := by
  have h := div_parts (-a) b
  have h0 := Int.emod_nonneg (-a) (Int.ne_of_gt hb)
  have h1 := Int.emod_lt_of_pos (-a) hb
  exact div_unique (r := b - 1 - (-a) % b) hb (by rw [Int.mul_neg]; omega) (by omega) (by omega)
theorem div_bd {a b : Int} (ha : 0 ≤ a) (hb : 0 < b) : 0 ≤ a / b ∧ a / b ≤ a :=
  ⟨Int.ediv_nonneg ha (by omega), Int.ediv_le_self b ha⟩
theorem floor_tdiv {x b : Int} (hb : 0 < b) : (if Int.tmod x b < 0 then Int.tdiv x b - 1 else Int.tdiv x b) = x / b := by
  by_cases h : 0 ≤ x
  · have h0 := Int.emod_nonneg x (Int.ne_of_gt hb)
    rw [tmod_pos h, tdiv_pos h, if_neg (by omega)]
  · rw [tmod_neg (by omega), tdiv_neg (by omega)]
    have h0 := Int.emod_nonneg (-x) (Int.ne_of_gt hb)
    have e := neg_div (a := -x) hb
    rw [Int.neg_neg] at e
    rw [e]
    by_cases hz : (-x) % b = 0
    · rw [if_pos hz, if_neg (by omega)]
    · rw [if_neg hz, if_pos (by omega)]
theorem floor_bd {x b : Int} (hb : 0 < b) : (0 ≤ x → 0 ≤ x / b ∧ x / b ≤ x) ∧ (x < 0 → x ≤ x / b ∧ x / b < 0) := by
  refine ⟨fun h => div_bd h hb, fun h => ?_⟩
  have e := neg_div (a := -x) hb
  rw [Int.neg_neg] at e
  have d := div_bd (a := -x) (by omega) hb
  have p := div_parts (-x) b
  have h0 := Int.emod_nonneg (-x) (Int.ne_of_gt hb)
  rw [e]
  split
  · next hz =>
    rw [hz] at p
    have : (-x) / b ≠ 0 := fun e0 => by rw [e0, Int.mul_zero] at p; omega
    omega
  · next hz =>
    have : (-x) / b < -x := by
      rcases Int.lt_or_eq_of_le d.2 with h2 | h2
      · exact h2
      · exfalso
        rw [h2] at p
        have hb1 : b ≠ 1 := fun e1 => by subst e1; omega
        have : 2 * (-x) ≤ b * (-x) := Int.mul_le_mul_of_nonneg_right (by omega) (by omega)
        omega
    omega

theorem l1In_eq (a b c : Int) : spec_l1In.f a b c = some (decide (b ≤ a ∧ a ≤ c)) := by
  unfold spec_l1In.f; by_cases h : b ≤ a <;> simp [h]

theorem codeIf_eq (b : Bool) (c : Int) : impl_codeIf.f b c = some (if b = true then c else 0) := by
  unfold impl_codeIf.f; cases b <;> rfl

theorem floorDiv_eq (x b : Int) (hb : 0 < b) (h0 : -9000000000000000000 ≤ x) (h1 : x ≤ 9000000000000000000) : impl_floorDiv.f x b = some (x / b) := by
  have e := floor_tdiv (x := x) hb
  have d := floor_bd (x := x) hb
  unfold impl_floorDiv.f
  rw [if_neg (by omega)]
  by_cases h : Int.tmod x b < 0
  · rw [if_pos h] at e ⊢
    rw [w64 (x := Int.tdiv x b) (by omega) (by omega), w64 (by omega) (by omega), e]
  · rw [if_neg h] at e ⊢
    rw [w64 (by omega) (by omega), e]

theorem l1Ceil_eq (x b : Int) (hb : 0 < b) (h0 : 0 ≤ x) (h1 : x + b ≤ 9000000000000000000) : spec_l1Ceil.f x b = some (-((-x) / b)) := by
  have e := ceil_div (a := x) hb
  have d := div_bd (a := x + b - 1) (by omega) hb
  unfold spec_l1Ceil.f
  rw [if_neg (by omega), w64 (x := x + b) (by omega) (by omega), w64 (x := x + b - 1) (by omega) (by omega), tdiv_pos (by omega), w64 (by omega) (by omega), e]

theorem l1Floor_eq (x b : Int) (hb : 0 < b) (hb2 : b ≤ 1000000000000000000) (h0 : -8000000000000000000 ≤ x) (h1 : x ≤ 9000000000000000000) : spec_l1Floor.f x b = some (x / b) := by
  have d := floor_bd (x := x) hb
  unfold spec_l1Floor.f
  by_cases h : x < 0
  · rw [if_pos h, w64 (by omega) (by omega), l1Ceil_eq _ _ hb (by omega) (by omega)]
    simp only [Option.bind_some, Int.neg_neg]
    rw [w64 (by omega) (by omega)]
  · rw [if_neg h, if_neg (by omega), tdiv_pos (by omega), w64 (by omega) (by omega)]

theorem l1Ten_eq (x : Int) (h0 : -7000000000000000000 ≤ x) (h1 : x ≤ 8000000000000000000) : spec_l1Ten.f x = some ((x + 512) / 1024) := by
  unfold spec_l1Ten.f
  rw [w64 (by omega) (by omega), l1Floor_eq _ _ (by omega) (by omega) (by omega) (by omega)]; rfl

theorem tenOf_eq (x : Int) (h0 : -7000000000000000000 ≤ x) (h1 : x ≤ 8000000000000000000) : impl_tenOf.f x = some ((x + 512) / 1024) := by
  unfold impl_tenOf.f
  rw [w64 (by omega) (by omega)]

theorem l5Mix_eq (a b : Int) (ha : -1000000000000000000 ≤ a ∧ a ≤ 1000000000000000000) (hb : -1000000000000000000 ≤ b ∧ b ≤ 1000000000000000000) : spec_l5Mix.f a b = some (b + (a - b) / 2, a - b) := by
  unfold spec_l5Mix.f
  rw [w64 (x := a - b) (by omega) (by omega), l1Floor_eq _ _ (by omega) (by omega) (by omega) (by omega)]
  simp only [Option.bind_some]
  rw [w64 (by omega) (by omega)]

theorem mix_eq (a b : Int) (ha : -1000000000000000000 ≤ a ∧ a ≤ 1000000000000000000) (hb : -1000000000000000000 ≤ b ∧ b ≤ 1000000000000000000) : impl_mix.f a b = some (b + (a - b) / 2, a - b) := by
  unfold impl_mix.f
  rw [w64 (x := a - b) (by omega) (by omega), floorDiv_eq _ _ (by omega) (by omega) (by omega)]
  simp only [Option.bind_some]
  rw [w64 (by omega) (by omega)]

theorem l5Part_eq (s d : Int) (hs : -1000000000000000000 ≤ s ∧ s ≤ 1000000000000000000) (hd : -1000000000000000000 ≤ d ∧ d ≤ 1000000000000000000) : spec_l5Part.f s d = some (s - d / 2 + d, s - d / 2) := by
  unfold spec_l5Part.f
  rw [l1Floor_eq _ _ (by omega) (by omega) (by omega) (by omega)]
  simp only [Option.bind_some]
  rw [w64 (x := s - d / 2) (by omega) (by omega), w64 (by omega) (by omega)]

theorem part_eq (s d : Int) (hs : -1000000000000000000 ≤ s ∧ s ≤ 1000000000000000000) (hd : -1000000000000000000 ≤ d ∧ d ≤ 1000000000000000000) : impl_part.f s d = some (s - d / 2 + d, s - d / 2) := by
  unfold impl_part.f
  rw [floorDiv_eq _ _ (by omega) (by omega) (by omega)]
  simp only [Option.bind_some]
  rw [w64 (x := s - d / 2) (by omega) (by omega), w64 (by omega) (by omega)]

theorem rd_nat (xs : List Int) (i : Nat) : rd xs (i : Int) = xs.getD i 0 := by unfold rd; rw [Int.toNat_natCast]
theorem rd_get (xs : List Int) (i : Nat) (h : i < xs.length) : rd xs (i : Int) = xs[i] := by
  rw [rd_nat, List.getD_eq_getElem?_getD, List.getElem?_eq_getElem h]; rfl
theorem w64_succ (i : Nat) (h : i ≤ 4000000000000000000) : wrap64 ((i : Int) + 1) = ((i + 1 : Nat) : Int) := by
  rw [w64 (by omega) (by omega)]; omega
theorem u8_of_wf {x : Int} (h : (Lit.int .u8 x).wf = true) : 0 ≤ x ∧ x < 256 := by
  have := h
  simp [Lit.wf, IntKind.min, IntKind.max, IntKind.bits, IntKind.signed] at this
  omega
def Bytes (xs : List Int) : Prop := ∀ x ∈ xs, 0 ≤ x ∧ x < 256
theorem Bytes.rd {xs : List Int} (h : Bytes xs) (i : Nat) : 0 ≤ rd xs (i : Int) ∧ rd xs (i : Int) < 256 := by
  rw [rd_nat, List.getD_eq_getElem?_getD]
  by_cases hi : i < xs.length
  · rw [List.getElem?_eq_getElem hi]; exact h _ (List.getElem_mem hi)
  · rw [List.getElem?_eq_none (by omega)]; exact ⟨by simp, by simp⟩

theorem rd_bd {c : List Int} (hc : Bytes c) (i : Int) : 0 ≤ rd c i ∧ rd c i ≤ 255 := by
  unfold rd
  rw [List.getD_eq_getElem?_getD]
  by_cases h : i.toNat < c.length
  · rw [List.getElem?_eq_getElem h]
    have := hc _ (List.getElem_mem h)
    simp only [Option.getD_some]
    omega
  · rw [List.getElem?_eq_none (by omega)]
    simp
theorem tmod_bd {a : Int} (h : 0 ≤ a) {b : Int} (hb : 0 < b) : 0 ≤ Int.tmod a b ∧ Int.tmod a b < b := by
  rw [tmod_pos h]
  exact ⟨Int.emod_nonneg _ (by omega), Int.emod_lt_of_pos _ hb⟩
theorem l1Next_ok {c : List Int} (hc : Bytes c) (at' n : Int) (h0 : 0 ≤ at') (h1 : at' ≤ 1073741824) :
    ∃ v, spec_l1Next.f c at' n = some (v, at' + 1) ∧ (1 ≤ n → 0 ≤ v ∧ v < n) ∧ (n < 1 → v = 0) := by
  have e1 : wrap64 (at' + 1) = at' + 1 := w64 (by omega) (by omega)
  have e2 : at' + 1 - 1 = at' := by omega
  have e3 : wrap64 at' = at' := w64 (by omega) (by omega)
  have e4 : wrap64 (at' + 2) = at' + 2 := w64 (by omega) (by omega)
  unfold spec_l1Next.f
  simp only [e1, e2, e3, e4]
  by_cases hn1 : n < 1
  · rw [if_pos hn1]
    exact ⟨0, rfl, fun h => by omega, fun _ => rfl⟩
  · rw [if_neg hn1]
    by_cases hl : (c.length : Int) = 0
    · rw [if_pos hl, if_neg (by omega), w64 (x := at' * 7) (by omega) (by omega)]
      exact ⟨_, rfl, fun _ => tmod_bd (by omega) (by omega), fun h => absurd h hn1⟩
    · rw [if_neg hl]
      have hL : 0 < (c.length : Int) := by omega
      have q0 := tmod_bd h0 hL
      have q1 := tmod_bd (show 0 ≤ at' + 1 by omega) hL
      have q2 := tmod_bd (show 0 ≤ at' + 2 by omega) hL
      have hd := div_bd h0 hL
      rw [← tdiv_pos h0] at hd
      have r0 := rd_bd hc (Int.tmod at' c.length)
      have r1 := rd_bd hc (Int.tmod (at' + 1) c.length)
      have r2 := rd_bd hc (Int.tmod (at' + 2) c.length)
      rw [if_pos q0.1, if_pos q0.2, if_pos q1.1, if_pos q1.2, if_pos q2.1, if_pos q2.2]
      generalize rd c (Int.tmod at' c.length) = R0 at r0 ⊢
      generalize rd c (Int.tmod (at' + 1) c.length) = R1 at r1 ⊢
      generalize rd c (Int.tmod (at' + 2) c.length) = R2 at r2 ⊢
      generalize Int.tdiv at' c.length = D at hd ⊢
      simp (disch := omega) only [w64]
      simp only [if_neg (show ¬ n = 0 by omega)]
      by_cases g1 : n > 200
      · by_cases g2 : n > 60000
        · simp only [if_pos g1, if_pos g2]
          exact ⟨_, rfl, fun _ => tmod_bd (by omega) (by omega), fun h => absurd h hn1⟩
        · simp only [if_pos g1, if_neg g2]
          exact ⟨_, rfl, fun _ => tmod_bd (by omega) (by omega), fun h => absurd h hn1⟩
      · by_cases g2 : n > 60000
        · omega
        · simp only [if_neg g1, if_neg g2]
          exact ⟨_, rfl, fun _ => tmod_bd (by omega) (by omega), fun h => absurd h hn1⟩

theorem l1Pick_ok {c : List Int} (hc : Bytes c) (at' : Int) (xs : List Int) (h0 : 0 ≤ at') (h1 : at' ≤ 1073741824) (hx : 1 ≤ xs.length) :
    ∃ v, spec_l1Pick.f c at' xs = some (v, at' + 1) ∧ v ∈ xs := by
  obtain ⟨v, e, hv, _⟩ := l1Next_ok hc at' (xs.length : Int) h0 h1
  have hv := hv (by omega)
  refine ⟨rd xs v, ?_, ?_⟩
  · unfold spec_l1Pick.f
    rw [e]
    simp only [Option.bind_some]
    rw [if_pos hv.1, if_pos hv.2]
  · unfold rd
    rw [List.getD_eq_getElem?_getD, List.getElem?_eq_getElem (show v.toNat < xs.length by omega)]
    exact List.getElem_mem _

theorem l1Signed_ok {c : List Int} (hc : Bytes c) (at' n : Int) (h0 : 0 ≤ at') (h1 : at' ≤ 1073741824) (hn : 0 ≤ n) (hn2 : n ≤ 1152921504606846976) :
    ∃ v, spec_l1Signed.f c at' n = some (v, at' + 1) ∧ -n ≤ v ∧ v ≤ n := by
  obtain ⟨v, e, hv, _⟩ := l1Next_ok hc at' (2 * n + 1) h0 h1
  have hv := hv (by omega)
  refine ⟨v - n, ?_, by omega, by omega⟩
  unfold spec_l1Signed.f
  rw [w64 (x := 2 * n) (by omega) (by omega), w64 (x := 2 * n + 1) (by omega) (by omega), e]
  simp only [Option.bind_some]
  rw [w64 (by omega) (by omega)]

theorem any_not (p : Int → Bool) (xs : List Int) : (!xs.any fun n => !p n) = xs.all p := by
  induction xs with
  | nil => rfl
  | cons x xs ih => rw [List.any_cons, List.all_cons, ← ih]; cases p x <;> simp
theorem allWithin_eq (xs : List Int) (m : Int) (h0 : 0 ≤ m) (h1 : m ≤ 9000000000000000000) : impl_allWithin.f xs m = some (xs.all fun n => decide (-m ≤ n ∧ n ≤ m)) := by
  unfold impl_allWithin.f
  rw [if_pos ⟨h0, h1⟩, any_not]

def sizeF (a : Int) : Int := if a = 4 then 0 else if a = 8 then 0 else if a = 16 then 0 else 3
theorem sizeF_cases (a : Int) : (sizeF a = 0 ∧ (a = 4 ∨ a = 8 ∨ a = 16)) ∨ (sizeF a = 3 ∧ a ≠ 4 ∧ a ≠ 8 ∧ a ≠ 16) := by
  unfold sizeF
  by_cases h1 : a = 4
  · simp [h1]
  · by_cases h2 : a = 8
    · simp [h2]
    · by_cases h3 : a = 16 <;> simp [h1, h2, h3]
def allIn (lo hi : Int) (xs : List Int) : Bool := xs.all fun n => decide (lo ≤ n ∧ n ≤ hi)
def In (lo hi : Int) (xs : List Int) : Prop := ∀ x ∈ xs, lo ≤ x ∧ x ≤ hi
theorem allIn_iff (lo hi : Int) (xs : List Int) : allIn lo hi xs = true ↔ In lo hi xs := by
  unfold allIn
  rw [List.all_eq_true]
  exact ⟨fun h x hx => by simpa using h x hx, fun h x hx => by simpa using h x hx⟩
theorem allIn_cons (lo hi x : Int) (xs : List Int) : allIn lo hi (x :: xs) = (decide (lo ≤ x ∧ x ≤ hi) && allIn lo hi xs) := rfl
theorem drop_rd' (xs : List Int) (i : Nat) (h : i < xs.length) : xs.drop i = rd xs (i : Int) :: xs.drop (i + 1) := by
  rw [rd_get xs i h]; exact List.drop_eq_getElem_cons h
def nz : List Int → Int
  | [] => 0
  | x :: xs => if x = 0 then nz xs else x

theorem spec_SizeFault_eq (a : Int) : spec_SizeFault.f a = some (sizeF a) := by
  unfold spec_SizeFault.f sizeF
  by_cases h1 : a = 4
  · simp [h1]
  · by_cases h2 : a = 8
    · simp [h2]
    · by_cases h3 : a = 16 <;> simp [h1, h2, h3]

theorem impl_SizeFault_eq (a : Int) : impl_SizeFault.f a = some (sizeF a) := by
  unfold impl_SizeFault.f sizeF
  by_cases h1 : a = 4
  · simp [h1]
  · by_cases h2 : a = 8
    · simp [h2]
    · by_cases h3 : a = 16 <;> simp [h1, h2, h3]

theorem first_l0 (xs : List Int) (hn : xs.length ≤ 1000) : ∀ (d i k : Nat), i + d = xs.length → d < k → impl_first.l0 k xs (xs.length : Int) (i : Int) = some (nz (xs.drop i)) := by
  intro d
  induction d with
  | zero =>
    intro i k hi hk
    obtain ⟨k, rfl⟩ : ∃ m, k = m + 1 := ⟨k - 1, by omega⟩
    simp only [impl_first.l0]
    rw [if_neg (by omega), List.drop_of_length_le (by omega)]; rfl
  | succ d ih =>
    intro i k hi hk
    obtain ⟨k, rfl⟩ : ∃ m, k = m + 1 := ⟨k - 1, by omega⟩
    simp only [impl_first.l0]
    rw [if_pos (by omega), if_pos (by omega), if_pos (by omega), drop_rd' xs i (by omega), nz]
    by_cases h : rd xs (i : Int) = 0
    · rw [if_pos h, if_pos h, w64_succ _ (by omega)]
      exact ih (i + 1) k (by omega) (by omega)
    · rw [if_neg h, if_neg h]
theorem first_eq (xs : List Int) (hn : xs.length ≤ 1000) (k : Nat) (hk : xs.length < k) : impl_first.f k xs = some (nz xs) :=
  first_l0 xs hn xs.length 0 k (by omega) hk

theorem any_not' (p : Int → Bool) (xs : List Int) : (!xs.any fun n => !p n) = xs.all p := by
  induction xs with
  | nil => rfl
  | cons x xs ih => rw [List.any_cons, List.all_cons, ← ih]; cases p x <;> simp
theorem areSamples_eq (xs : List Int) : impl_areSamples.f xs = some (allIn (-32768) 32767 xs) := by
  unfold impl_areSamples.f slices_ContainsFunc_int64_int64.f allIn
  rw [← any_not']; rfl

theorem spec_sf_l0 (xs : List Int) (hn : xs.length ≤ 1000000000000) : ∀ (d i k : Nat), i + d = xs.length → d < k → spec_SamplesFault.l0 k xs (i : Int) = some (if allIn (-32768) 32767 (xs.drop i) = true then 0 else 3) := by
  intro d
  induction d with
  | zero =>
    intro i k hi hk
    obtain ⟨k, rfl⟩ : ∃ m, k = m + 1 := ⟨k - 1, by omega⟩
    simp only [spec_SamplesFault.l0]
    rw [if_neg (by omega), List.drop_of_length_le (by omega)]; rfl
  | succ d ih =>
    intro i k hi hk
    obtain ⟨k, rfl⟩ : ∃ m, k = m + 1 := ⟨k - 1, by omega⟩
    simp only [spec_SamplesFault.l0]
    rw [if_pos (by omega), if_pos (by omega), l1In_eq, drop_rd' xs i (by omega), allIn_cons]
    simp only [Option.bind_some]
    by_cases h : -32768 ≤ rd xs (i : Int) ∧ rd xs (i : Int) ≤ 32767
    · rw [if_pos (by simpa using h), w64_succ _ (by omega), ih (i + 1) k (by omega) (by omega), decide_eq_true h, Bool.true_and]
    · rw [if_neg (by simpa using h), decide_eq_false h, Bool.false_and]; rfl
def sampF (a : Int) (xs : List Int) : Int := if sizeF a = 0 then (if (xs.length : Int) = a then (if allIn (-32768) 32767 xs = true then 0 else 3) else 2) else sizeF a
theorem spec_SamplesFault_eq (a : Int) (xs : List Int) (hn : xs.length ≤ 1000000000000) (k : Nat) (hk : xs.length < k) : spec_SamplesFault.f k a xs = some (sampF a xs) := by
  unfold spec_SamplesFault.f sampF
  rw [spec_SizeFault_eq]
  simp only [Option.bind_some]
  by_cases h : sizeF a = 0
  · rw [if_pos h, if_pos h]
    by_cases hl : (xs.length : Int) = a
    · rw [if_pos hl, if_pos hl]
      exact spec_sf_l0 xs hn xs.length 0 k (by omega) hk
    · rw [if_neg hl, if_neg hl]
  · rw [if_neg h, if_neg h]

theorem impl_SamplesFault_eq (a : Int) (xs : List Int) (k : Nat) (hk : 10 < k) : impl_SamplesFault.f k a xs = some (sampF a xs) := by
  unfold impl_SamplesFault.f
  rw [impl_SizeFault_eq, areSamples_eq]
  simp only [Option.bind_some, codeIf_eq]
  rw [first_eq _ (by simp) k (by simp; omega)]
  simp only [Option.bind_some]
  congr 1
  unfold sampF
  rcases sizeF_cases a with ⟨h, _⟩ | ⟨h, _⟩
  · by_cases hl : (xs.length : Int) = a
    · cases hs : allIn (-32768) 32767 xs <;> simp [nz, h, hl]
    · cases hs : allIn (-32768) 32767 xs <;> simp [nz, h, hl]
  · simp [nz, h]

def tn (x : Int) : Int := (x + 512) / 1024
theorem mul_bd {p b M : Int} (hp : 0 ≤ p) (hp2 : p ≤ 1024) (hb : -M ≤ b) (hb2 : b ≤ M) : -(1024 * M) ≤ p * b ∧ p * b ≤ 1024 * M := by
  have h1 := Int.mul_le_mul_of_nonneg_left hb2 hp
  have h2 := Int.mul_le_mul_of_nonneg_left hb hp
  have h3 := Int.mul_le_mul_of_nonneg_right hp2 (show 0 ≤ M by omega)
  rw [Int.mul_neg] at h2
  omega
theorem tn_bd {x M : Int} (h0 : -(1024 * M) ≤ x) (h1 : x ≤ 1024 * M) : -M ≤ tn x ∧ tn x ≤ M := by unfold tn; omega
def forth (p u a b : Int) : Int × Int :=
  (a - tn (p * b) - tn (p * (b + tn (u * (a - tn (p * b))))), b + tn (u * (a - tn (p * b))))
def back (p u a b : Int) : Int × Int :=
  (a + tn (p * b) + tn (p * (b - tn (u * (a + tn (p * b))))), b - tn (u * (a + tn (p * b))))
def Valid (s n : Int) : Prop := (s = 4 ∧ (n = 0 ∨ n = 1)) ∨ (s = 8 ∧ (n = 0 ∨ n = 1 ∨ n = 2 ∨ n = 3)) ∨ (s = 16 ∧ (n = 0 ∨ n = 1 ∨ n = 2 ∨ n = 3 ∨ n = 4 ∨ n = 5 ∨ n = 6 ∨ n = 7))
def pu (s n : Int) : Int × Int := (impl_turnOf.f s n).getD (0, 0)
theorem turnOf_eq {s n : Int} (h : Valid s n) : impl_turnOf.f s n = some (pu s n) ∧ (0 ≤ (pu s n).1 ∧ (pu s n).1 ≤ 1024) ∧ (0 ≤ (pu s n).2 ∧ (pu s n).2 ≤ 1024) := by
  unfold Valid at h
  rcases h with ⟨rfl, rfl | rfl⟩ | ⟨rfl, rfl | rfl | rfl | rfl⟩ | ⟨rfl, rfl | rfl | rfl | rfl | rfl | rfl | rfl | rfl⟩ <;> exact ⟨rfl, by decide, by decide⟩

theorem l5P_eq {s n : Int} (h : Valid s n) : spec_l5P.f s n = some (pu s n).1 := by
  unfold Valid at h
  rcases h with ⟨rfl, rfl | rfl⟩ | ⟨rfl, rfl | rfl | rfl | rfl⟩ | ⟨rfl, rfl | rfl | rfl | rfl | rfl | rfl | rfl | rfl⟩ <;> (unfold spec_l5P.f wrap64; decide)

theorem l5U_eq {s n : Int} (h : Valid s n) : spec_l5U.f s n = some (pu s n).2 := by
  unfold Valid at h
  rcases h with ⟨rfl, rfl | rfl⟩ | ⟨rfl, rfl | rfl | rfl | rfl⟩ | ⟨rfl, rfl | rfl | rfl | rfl | rfl | rfl | rfl | rfl⟩ <;> (unfold spec_l5U.f wrap64; decide)

theorem turn_forth_eq (p u a b : Int) (hp : 0 ≤ p ∧ p ≤ 1024) (hu : 0 ≤ u ∧ u ≤ 1024) (ha : -1125899906842624 ≤ a ∧ a ≤ 1125899906842624) (hb : -1125899906842624 ≤ b ∧ b ≤ 1125899906842624) : impl_turn_forth.f p u a b = some (forth p u a b) := by
  have m1 := mul_bd hp.1 hp.2 hb.1 hb.2
  have t1 := tn_bd m1.1 m1.2
  have m2 := mul_bd (b := a - tn (p * b)) (M := 2251799813685248) hu.1 hu.2 (by omega) (by omega)
  have t2 := tn_bd m2.1 m2.2
  have m3 := mul_bd (b := b + tn (u * (a - tn (p * b)))) (M := 4503599627370496) hp.1 hp.2 (by omega) (by omega)
  have t3 := tn_bd m3.1 m3.2
  unfold impl_turn_forth.f
  rw [w64 (x := p * b) (by omega) (by omega), tenOf_eq _ (by omega) (by omega)]
  simp only [Option.bind_some]
  rw [show (p * b + 512) / 1024 = tn (p * b) from rfl, w64 (x := a - tn (p * b)) (by omega) (by omega), w64 (x := u * (a - tn (p * b))) (by omega) (by omega), tenOf_eq _ (by omega) (by omega)]
  simp only [Option.bind_some]
  rw [show (u * (a - tn (p * b)) + 512) / 1024 = tn (u * (a - tn (p * b))) from rfl, w64 (x := b + tn (u * (a - tn (p * b)))) (by omega) (by omega), w64 (x := p * (b + tn (u * (a - tn (p * b))))) (by omega) (by omega), tenOf_eq _ (by omega) (by omega)]
  simp only [Option.bind_some]
  rw [show (p * (b + tn (u * (a - tn (p * b)))) + 512) / 1024 = tn (p * (b + tn (u * (a - tn (p * b))))) from rfl, w64 (by omega) (by omega)]
  rfl

theorem turn_back_eq (p u a b : Int) (hp : 0 ≤ p ∧ p ≤ 1024) (hu : 0 ≤ u ∧ u ≤ 1024) (ha : -1125899906842624 ≤ a ∧ a ≤ 1125899906842624) (hb : -1125899906842624 ≤ b ∧ b ≤ 1125899906842624) : impl_turn_back.f p u a b = some (back p u a b) := by
  have m1 := mul_bd hp.1 hp.2 hb.1 hb.2
  have t1 := tn_bd m1.1 m1.2
  have m2 := mul_bd (b := a + tn (p * b)) (M := 2251799813685248) hu.1 hu.2 (by omega) (by omega)
  have t2 := tn_bd m2.1 m2.2
  have m3 := mul_bd (b := b - tn (u * (a + tn (p * b)))) (M := 4503599627370496) hp.1 hp.2 (by omega) (by omega)
  have t3 := tn_bd m3.1 m3.2
  unfold impl_turn_back.f
  rw [w64 (x := p * b) (by omega) (by omega), tenOf_eq _ (by omega) (by omega)]
  simp only [Option.bind_some]
  rw [show (p * b + 512) / 1024 = tn (p * b) from rfl, w64 (x := a + tn (p * b)) (by omega) (by omega), w64 (x := u * (a + tn (p * b))) (by omega) (by omega), tenOf_eq _ (by omega) (by omega)]
  simp only [Option.bind_some]
  rw [show (u * (a + tn (p * b)) + 512) / 1024 = tn (u * (a + tn (p * b))) from rfl, w64 (x := b - tn (u * (a + tn (p * b)))) (by omega) (by omega), w64 (x := p * (b - tn (u * (a + tn (p * b))))) (by omega) (by omega), tenOf_eq _ (by omega) (by omega)]
  simp only [Option.bind_some]
  rw [show (p * (b - tn (u * (a + tn (p * b)))) + 512) / 1024 = tn (p * (b - tn (u * (a + tn (p * b))))) from rfl, w64 (by omega) (by omega)]
  rfl

theorem l5Turn_eq {s n : Int} (hv : Valid s n) (a b : Int) (ha : -1125899906842624 ≤ a ∧ a ≤ 1125899906842624) (hb : -1125899906842624 ≤ b ∧ b ≤ 1125899906842624) : spec_l5Turn.f s n a b = some (forth (pu s n).1 (pu s n).2 a b) := by
  obtain ⟨_, hp, hu⟩ := turnOf_eq hv
  have eP := l5P_eq hv
  have eU := l5U_eq hv
  generalize (pu s n).1 = p at hp eP ⊢
  generalize (pu s n).2 = u at hu eU ⊢
  have m1 := mul_bd hp.1 hp.2 hb.1 hb.2
  have t1 := tn_bd m1.1 m1.2
  have m2 := mul_bd (b := a - tn (p * b)) (M := 2251799813685248) hu.1 hu.2 (by omega) (by omega)
  have t2 := tn_bd m2.1 m2.2
  have m3 := mul_bd (b := b + tn (u * (a - tn (p * b)))) (M := 4503599627370496) hp.1 hp.2 (by omega) (by omega)
  have t3 := tn_bd m3.1 m3.2
  unfold spec_l5Turn.f
  rw [eP, eU]
  simp only [Option.bind_some]
  rw [w64 (x := p * b) (by omega) (by omega), l1Ten_eq _ (by omega) (by omega)]
  simp only [Option.bind_some]
  rw [show (p * b + 512) / 1024 = tn (p * b) from rfl, w64 (x := a - tn (p * b)) (by omega) (by omega), w64 (x := u * (a - tn (p * b))) (by omega) (by omega), l1Ten_eq _ (by omega) (by omega)]
  simp only [Option.bind_some]
  rw [show (u * (a - tn (p * b)) + 512) / 1024 = tn (u * (a - tn (p * b))) from rfl, w64 (x := b + tn (u * (a - tn (p * b)))) (by omega) (by omega), w64 (x := p * (b + tn (u * (a - tn (p * b))))) (by omega) (by omega), l1Ten_eq _ (by omega) (by omega)]
  simp only [Option.bind_some]
  rw [show (p * (b + tn (u * (a - tn (p * b)))) + 512) / 1024 = tn (p * (b + tn (u * (a - tn (p * b))))) from rfl, w64 (by omega) (by omega)]
  rfl

theorem l5Back_eq {s n : Int} (hv : Valid s n) (a b : Int) (ha : -1125899906842624 ≤ a ∧ a ≤ 1125899906842624) (hb : -1125899906842624 ≤ b ∧ b ≤ 1125899906842624) : spec_l5Back.f s n a b = some (back (pu s n).1 (pu s n).2 a b) := by
  obtain ⟨_, hp, hu⟩ := turnOf_eq hv
  have eP := l5P_eq hv
  have eU := l5U_eq hv
  generalize (pu s n).1 = p at hp eP ⊢
  generalize (pu s n).2 = u at hu eU ⊢
  have m1 := mul_bd hp.1 hp.2 hb.1 hb.2
  have t1 := tn_bd m1.1 m1.2
  have m2 := mul_bd (b := a + tn (p * b)) (M := 2251799813685248) hu.1 hu.2 (by omega) (by omega)
  have t2 := tn_bd m2.1 m2.2
  have m3 := mul_bd (b := b - tn (u * (a + tn (p * b)))) (M := 4503599627370496) hp.1 hp.2 (by omega) (by omega)
  have t3 := tn_bd m3.1 m3.2
  unfold spec_l5Back.f
  rw [eP, eU]
  simp only [Option.bind_some]
  rw [w64 (x := p * b) (by omega) (by omega), l1Ten_eq _ (by omega) (by omega)]
  simp only [Option.bind_some]
  rw [show (p * b + 512) / 1024 = tn (p * b) from rfl, w64 (x := a + tn (p * b)) (by omega) (by omega), w64 (x := u * (a + tn (p * b))) (by omega) (by omega), l1Ten_eq _ (by omega) (by omega)]
  simp only [Option.bind_some]
  rw [show (u * (a + tn (p * b)) + 512) / 1024 = tn (u * (a + tn (p * b))) from rfl, w64 (x := b - tn (u * (a + tn (p * b)))) (by omega) (by omega), w64 (x := p * (b - tn (u * (a + tn (p * b))))) (by omega) (by omega), l1Ten_eq _ (by omega) (by omega)]
  simp only [Option.bind_some]
  rw [show (p * (b - tn (u * (a + tn (p * b)))) + 512) / 1024 = tn (p * (b - tn (u * (a + tn (p * b))))) from rfl, w64 (by omega) (by omega)]
  rfl

theorem sEqual_l0 (xs ys : List Int) (hl : xs.length = ys.length) (hn : xs.length ≤ 1000000000000) : ∀ (d i k : Nat), i + d = xs.length → d < k → slices_Equal_int64_int64.l0 k xs ys (xs.length : Int) (i : Int) = some (decide (xs.drop i = ys.drop i)) := by
  intro d
  induction d with
  | zero =>
    intro i k hi hk
    obtain ⟨k, rfl⟩ : ∃ m, k = m + 1 := ⟨k - 1, by omega⟩
    simp only [slices_Equal_int64_int64.l0]
    rw [if_neg (by omega), List.drop_of_length_le (by omega), List.drop_of_length_le (by omega)]; rfl
  | succ d ih =>
    intro i k hi hk
    obtain ⟨k, rfl⟩ : ∃ m, k = m + 1 := ⟨k - 1, by omega⟩
    simp only [slices_Equal_int64_int64.l0]
    rw [if_pos (by omega), if_pos (by omega), if_pos (by omega), if_pos (by omega), drop_rd' xs i (by omega), drop_rd' ys i (by omega)]
    by_cases h : rd xs (i : Int) = rd ys (i : Int)
    · rw [if_pos h, w64_succ _ (by omega), ih (i + 1) k (by omega) (by omega), h]; simp
    · rw [if_neg h]; simp [h]
theorem sEqual_eq (xs ys : List Int) (hn : xs.length ≤ 1000000000000) (k : Nat) (hk : xs.length < k) : slices_Equal_int64_int64.f k xs ys = some (decide (xs = ys)) := by
  unfold slices_Equal_int64_int64.f
  by_cases h : xs.length = ys.length
  · rw [if_pos (by omega)]
    exact sEqual_l0 xs ys h hn xs.length 0 k (by omega) hk
  · rw [if_neg (by omega), decide_eq_false (fun e => h (by rw [e]))]

theorem l1All_l0 (xs : List Int) (lo hi : Int) (hn : xs.length ≤ 1000000000000) : ∀ (d i k : Nat), i + d = xs.length → d < k → spec_l1All.l0 k xs lo hi (i : Int) = some (allIn lo hi (xs.drop i)) := by
  intro d
  induction d with
  | zero =>
    intro i k hi' hk
    obtain ⟨k, rfl⟩ : ∃ m, k = m + 1 := ⟨k - 1, by omega⟩
    simp only [spec_l1All.l0]
    rw [if_neg (by omega), List.drop_of_length_le (by omega)]; rfl
  | succ d ih =>
    intro i k hi' hk
    obtain ⟨k, rfl⟩ : ∃ m, k = m + 1 := ⟨k - 1, by omega⟩
    simp only [spec_l1All.l0]
    rw [if_pos (by omega), if_pos (by omega), l1In_eq, drop_rd' xs i (by omega), allIn_cons]
    simp only [Option.bind_some]
    by_cases h : lo ≤ rd xs (i : Int) ∧ rd xs (i : Int) ≤ hi
    · rw [decide_eq_true h, if_pos rfl, w64_succ _ (by omega), ih (i + 1) k (by omega) (by omega)]; rfl
    · rw [decide_eq_false h]; rfl
theorem l1All_eq (xs : List Int) (lo hi : Int) (hn : xs.length ≤ 1000000000000) (k : Nat) (hk : xs.length < k) : spec_l1All.f k xs lo hi = some (allIn lo hi xs) :=
  l1All_l0 xs lo hi hn xs.length 0 k (by omega) hk

def faultF (a : Int) (x y : List Int) : Int := if sizeF a = 0 then (if (x.length : Int) = wrap64 (Int.tdiv a 2) then (if (y.length : Int) = wrap64 (Int.tdiv a 2) then (if allIn (-65536) 65536 x = true then (if allIn (-32768) 32767 y = true then 0 else 3) else 3) else 2) else 2) else sizeF a
theorem spec_fault_eq (a : Int) (x y : List Int) (hx : x.length ≤ 1000000000000) (hy : y.length ≤ 1000000000000) (k : Nat) (hk : x.length < k) (hk2 : y.length < k) : spec_LapFault.f (k + 1) a x y = some (faultF a x y) := by
  unfold spec_LapFault.f faultF
  rw [spec_SizeFault_eq]
  simp only [Option.bind_some]
  by_cases h : sizeF a = 0
  · rw [if_pos h, if_pos h]
    by_cases g : (x.length : Int) = wrap64 (Int.tdiv a 2)
    · rw [if_pos g, if_pos g]
      by_cases e : (y.length : Int) = wrap64 (Int.tdiv a 2)
      · rw [if_pos e, show ((y.length : Int) != wrap64 (Int.tdiv a 2)) = false by rw [e]; simp]
        simp only [spec_LapFault.j0]
        rw [if_neg (by decide), l1All_eq x _ _ hx k hk, l1All_eq y _ _ hy k hk2]
        simp only [Option.bind_some]
        by_cases p : allIn (-65536) 65536 x = true
        · rw [if_pos p, if_pos p]
          by_cases q : allIn (-32768) 32767 y = true
          · rw [if_pos q, if_pos q]
          · rw [if_neg q, if_neg q]
        · rw [if_neg p, if_neg p]
      · rw [if_neg e, show ((y.length : Int) != wrap64 (Int.tdiv a 2)) = true by simp [e]]
        simp only [spec_LapFault.j0]
        rw [if_pos trivial]
    · rw [if_neg g, if_neg g]
      simp only [spec_LapFault.j0]
      rw [if_pos trivial]
  · rw [if_neg h, if_neg h]
theorem impl_fault_eq (a : Int) (x y : List Int) (k : Nat) (hk : 10 < k) : impl_LapFault.f k a x y = some (faultF a x y) := by
  have w1 : impl_allWithin.f x 65536 = some (allIn (-65536) 65536 x) := allWithin_eq x 65536 (by omega) (by omega)
  have w2 : impl_areSamples.f y = some (allIn (-32768) 32767 y) := areSamples_eq y
  unfold impl_LapFault.f faultF impl_halfOf.f
  rw [impl_SizeFault_eq]
  simp only [Option.bind_some, w1, w2, codeIf_eq]
  have hf : ∀ p q r : Int, impl_first.f k [p, q, r] = some (nz [p, q, r]) := fun p q r => first_eq _ (by simp) k (by simp; omega)
  simp only [hf, nz]
  by_cases h : sizeF a = 0
  · by_cases g : (x.length : Int) = wrap64 (Int.tdiv a 2)
    · by_cases e : (y.length : Int) = wrap64 (Int.tdiv a 2)
      · by_cases p : allIn (-65536) 65536 x = true
        · by_cases q : allIn (-32768) 32767 y = true
          · simp [h, g, e, p, q]
          · simp [h, g, e, p, q]
        · simp [h, g, e, p]
      · by_cases p : allIn (-65536) 65536 x = true <;> simp [h, g, e, p]
    · by_cases p : allIn (-65536) 65536 x = true <;> simp [h, g, p]
  · by_cases g : (x.length : Int) = wrap64 (Int.tdiv a 2)
    · by_cases p : allIn (-65536) 65536 x = true <;> simp [h, g, p]
    · by_cases p : allIn (-65536) 65536 x = true <;> simp [h, g, p]

def faultS (a : Int) (x y : List Int) : Int := if sizeF a = 0 then (if (x.length : Int) = wrap64 (Int.tdiv a 2) then (if (y.length : Int) = wrap64 (Int.tdiv a 2) then (if allIn (-1073741824) 1073741824 x = true then (if allIn (-268435456) 268435456 y = true then 0 else 3) else 3) else 2) else 2) else sizeF a
theorem spec_faultS_eq (a : Int) (x y : List Int) (hx : x.length ≤ 1000000000000) (hy : y.length ≤ 1000000000000) (k : Nat) (hk : x.length < k) (hk2 : y.length < k) : spec_SynthFault.f (k + 1) a x y = some (faultS a x y) := by
  unfold spec_SynthFault.f faultS
  rw [spec_SizeFault_eq]
  simp only [Option.bind_some]
  by_cases h : sizeF a = 0
  · rw [if_pos h, if_pos h]
    by_cases g : (x.length : Int) = wrap64 (Int.tdiv a 2)
    · rw [if_pos g, if_pos g]
      by_cases e : (y.length : Int) = wrap64 (Int.tdiv a 2)
      · rw [if_pos e, show ((y.length : Int) != wrap64 (Int.tdiv a 2)) = false by rw [e]; simp]
        simp only [spec_SynthFault.j0]
        rw [if_neg (by decide), l1All_eq x _ _ hx k hk, l1All_eq y _ _ hy k hk2]
        simp only [Option.bind_some]
        by_cases p : allIn (-1073741824) 1073741824 x = true
        · rw [if_pos p, if_pos p]
          by_cases q : allIn (-268435456) 268435456 y = true
          · rw [if_pos q, if_pos q]
          · rw [if_neg q, if_neg q]
        · rw [if_neg p, if_neg p]
      · rw [if_neg e, show ((y.length : Int) != wrap64 (Int.tdiv a 2)) = true by simp [e]]
        simp only [spec_SynthFault.j0]
        rw [if_pos trivial]
    · rw [if_neg g, if_neg g]
      simp only [spec_SynthFault.j0]
      rw [if_pos trivial]
  · rw [if_neg h, if_neg h]
theorem impl_faultS_eq (a : Int) (x y : List Int) (k : Nat) (hk : 10 < k) : impl_SynthFault.f k a x y = some (faultS a x y) := by
  have w1 : impl_allWithin.f x 1073741824 = some (allIn (-1073741824) 1073741824 x) := allWithin_eq x 1073741824 (by omega) (by omega)
  have w2 : impl_allWithin.f y 268435456 = some (allIn (-268435456) 268435456 y) := allWithin_eq y 268435456 (by omega) (by omega)
  unfold impl_SynthFault.f faultS impl_halfOf.f
  rw [impl_SizeFault_eq]
  simp only [Option.bind_some, w1, w2, codeIf_eq]
  have hf : ∀ p q r : Int, impl_first.f k [p, q, r] = some (nz [p, q, r]) := fun p q r => first_eq _ (by simp) k (by simp; omega)
  simp only [hf, nz]
  by_cases h : sizeF a = 0
  · by_cases g : (x.length : Int) = wrap64 (Int.tdiv a 2)
    · by_cases e : (y.length : Int) = wrap64 (Int.tdiv a 2)
      · by_cases p : allIn (-1073741824) 1073741824 x = true
        · by_cases q : allIn (-268435456) 268435456 y = true
          · simp [h, g, e, p, q]
          · simp [h, g, e, p, q]
        · simp [h, g, e, p]
      · by_cases p : allIn (-1073741824) 1073741824 x = true <;> simp [h, g, e, p]
    · by_cases p : allIn (-1073741824) 1073741824 x = true <;> simp [h, g, p]
  · by_cases g : (x.length : Int) = wrap64 (Int.tdiv a 2)
    · by_cases p : allIn (-1073741824) 1073741824 x = true <;> simp [h, g, p]
    · by_cases p : allIn (-1073741824) 1073741824 x = true <;> simp [h, g, p]

theorem bindS {α β : Type} (a : α) (f : α → Option β) : (some a).bind f = f a := by cases h : (some a).bind f <;> (rw [← h]; rfl)
def gen (n : Nat) (f : Nat → Int) : List Int := (List.range n).map f
theorem gen_length (n : Nat) (f : Nat → Int) : (gen n f).length = n := by simp [gen]
theorem rd_gen (n : Nat) (f : Nat → Int) {j : Nat} (h : j < n) : rd (gen n f) (j : Int) = f j := by
  rw [rd_get _ j (by rw [gen_length]; exact h)]; simp [gen]
theorem rd_out (xs : List Int) {j : Nat} (h : xs.length ≤ j) : rd xs (j : Int) = 0 := by
  rw [rd_nat, List.getD_eq_getElem?_getD, List.getElem?_eq_none h]; rfl
theorem rd_set (xs : List Int) {i : Nat} (v : Int) (h : i < xs.length) (j : Nat) : rd (xs.set i v) (j : Int) = if j = i then v else rd xs (j : Int) := by
  rw [rd_nat, rd_nat, List.getD_eq_getElem?_getD, List.getD_eq_getElem?_getD]
  by_cases e : j = i
  · subst e; rw [if_pos rfl, List.getElem?_set_self h]; rfl
  · rw [if_neg e, List.getElem?_set_ne (fun q => e q.symm)]
theorem ext_rd {xs ys : List Int} (hl : xs.length = ys.length) (h : ∀ j : Nat, j < xs.length → rd xs (j : Int) = rd ys (j : Int)) : xs = ys := by
  apply List.ext_getElem hl
  intro j h1 h2
  have := h j h1
  rwa [rd_get xs j h1, rd_get ys j h2] at this
theorem gen_succ (n : Nat) (f : Nat → Int) : gen (n + 1) f = gen n f ++ [f n] := by simp [gen, List.range_succ]
theorem gen_rd (xs : List Int) {n : Nat} (h : xs.length = n) : gen n (fun j => rd xs (j : Int)) = xs :=
  ext_rd (by rw [gen_length, h]) (fun j hj => by rw [gen_length] at hj; rw [rd_gen _ _ hj])
theorem gen_congr {n : Nat} {f g : Nat → Int} (h : ∀ j, j < n → f j = g j) : gen n f = gen n g :=
  ext_rd (by rw [gen_length, gen_length]) (fun j hj => by rw [gen_length] at hj; rw [rd_gen _ _ hj, rd_gen _ _ hj, h j hj])
theorem zeros_gen (n : Nat) : List.replicate n (0 : Int) = gen n (fun _ => 0) := List.ext_getElem (by simp [gen]) (fun i h1 h2 => by simp [gen])
/-- the last half of a list, written from both ends -/
def U (m : Nat) (f g : Nat → Int) (i : Nat) : List Int := gen (2 * m) fun j => if j < m then (if j < i then f j else 0) else (if 2 * m - 1 - j < i then g (2 * m - 1 - j) else 0)
theorem U_zero (m : Nat) (f g : Nat → Int) : U m f g 0 = List.replicate (2 * m) 0 := by
  rw [zeros_gen]; unfold U
  exact gen_congr (fun j _ => by by_cases h : j < m <;> simp [h])
theorem U_length (m : Nat) (f g : Nat → Int) (i : Nat) : (U m f g i).length = 2 * m := gen_length _ _
theorem U_step (m : Nat) (f g : Nat → Int) {i : Nat} (hi : i < m) : ((U m f g i).set i (f i)).set (2 * m - 1 - i) (g i) = U m f g (i + 1) := by
  refine ext_rd (by rw [List.length_set, List.length_set, U_length, U_length]) ?_
  intro j hj
  rw [List.length_set, List.length_set, U_length] at hj
  rw [rd_set _ _ (by rw [List.length_set, U_length]; omega), rd_set _ _ (by rw [U_length]; omega)]
  unfold U
  rw [rd_gen _ _ hj, rd_gen _ _ hj]
  by_cases h1 : j = 2 * m - 1 - i
  · rw [if_pos h1, if_neg (show ¬ j < m by omega), if_pos (show 2 * m - 1 - j < i + 1 by omega), show 2 * m - 1 - j = i by omega]
  · rw [if_neg h1]
    by_cases h2 : j = i
    · rw [if_pos h2, if_pos (show j < m by omega), if_pos (show j < i + 1 by omega), h2]
    · rw [if_neg h2]
      by_cases h3 : j < m
      · rw [if_pos h3, if_pos h3]
        by_cases h4 : j < i
        · rw [if_pos h4, if_pos (by omega)]
        · rw [if_neg h4, if_neg (by omega)]
      · rw [if_neg h3, if_neg h3]
        by_cases h4 : 2 * m - 1 - j < i
        · rw [if_pos h4, if_pos (by omega)]
        · rw [if_neg h4, if_neg (by omega)]
theorem U_end (m : Nat) (f g : Nat → Int) : U m f g m = gen (2 * m) fun j => if j < m then f j else g (2 * m - 1 - j) := by
  unfold U
  refine gen_congr (fun j hj => ?_)
  by_cases h : j < m
  · rw [if_pos h, if_pos h, if_pos h]
  · rw [if_neg h, if_neg h, if_pos (by omega)]
/-- a list turned from both ends -/
def W (m : Nat) (d : List Int) (f g : Nat → Int) (i : Nat) : List Int := gen m fun j => if j < i then f j else if m - 1 - j < i then g (m - 1 - j) else rd d (j : Int)
theorem W_zero (m : Nat) (d : List Int) (f g : Nat → Int) (h : d.length = m) : W m d f g 0 = d := by
  unfold W
  refine (gen_congr (fun j _ => ?_)).trans (gen_rd d h)
  rw [if_neg (by omega), if_neg (by omega)]
theorem W_length (m : Nat) (d : List Int) (f g : Nat → Int) (i : Nat) : (W m d f g i).length = m := gen_length _ _
theorem W_lo (m : Nat) (d : List Int) (f g : Nat → Int) {i : Nat} (h : 2 * (i + 1) ≤ m) : rd (W m d f g i) (i : Int) = rd d (i : Int) := by
  unfold W; rw [rd_gen _ _ (by omega), if_neg (by omega), if_neg (by omega)]
theorem W_hi (m : Nat) (d : List Int) (f g : Nat → Int) {i : Nat} (h : 2 * (i + 1) ≤ m) : rd (W m d f g i) ((m - 1 - i : Nat) : Int) = rd d ((m - 1 - i : Nat) : Int) := by
  unfold W; rw [rd_gen _ _ (by omega), if_neg (by omega), if_neg (by omega)]
theorem W_step (m : Nat) (d : List Int) (f g : Nat → Int) {i : Nat} (h : 2 * (i + 1) ≤ m) : ((W m d f g i).set i (f i)).set (m - 1 - i) (g i) = W m d f g (i + 1) := by
  refine ext_rd (by rw [List.length_set, List.length_set, W_length, W_length]) ?_
  intro j hj
  rw [List.length_set, List.length_set, W_length] at hj
  rw [rd_set _ _ (by rw [List.length_set, W_length]; omega), rd_set _ _ (by rw [W_length]; omega)]
  unfold W
  rw [rd_gen _ _ hj, rd_gen _ _ hj]
  by_cases h1 : j = m - 1 - i
  · rw [if_pos h1, if_neg (by omega), if_pos (by omega), show m - 1 - j = i by omega]
  · rw [if_neg h1]
    by_cases h2 : j = i
    · rw [if_pos h2, if_pos (by omega), h2]
    · rw [if_neg h2]
      by_cases h3 : j < i
      · rw [if_pos h3, if_pos (by omega)]
      · rw [if_neg h3, if_neg (show ¬ j < i + 1 by omega)]
        by_cases h4 : m - 1 - j < i
        · rw [if_pos h4, if_pos (by omega)]
        · rw [if_neg h4, if_neg (by omega)]
def twist (st : Nat → Int → Int → Int × Int) (q : Nat) (d : List Int) : List Int :=
  W d.length d (fun j => (st j (rd d (j : Int)) (rd d ((d.length - 1 - j : Nat) : Int))).1) (fun j => (st j (rd d (j : Int)) (rd d ((d.length - 1 - j : Nat) : Int))).2) q
theorem twist_length (st : Nat → Int → Int → Int × Int) (q : Nat) (d : List Int) : (twist st q d).length = d.length := W_length _ _ _ _ _
theorem twist_zero (st : Nat → Int → Int → Int × Int) (d : List Int) : twist st 0 d = d := W_zero _ _ _ _ rfl
theorem twist_lo (st : Nat → Int → Int → Int × Int) (d : List Int) {i : Nat} (h : 2 * (i + 1) ≤ d.length) : rd (twist st i d) (i : Int) = rd d (i : Int) := W_lo _ _ _ _ h
theorem twist_hi (st : Nat → Int → Int → Int × Int) (d : List Int) {i : Nat} (h : 2 * (i + 1) ≤ d.length) : rd (twist st i d) ((d.length - 1 - i : Nat) : Int) = rd d ((d.length - 1 - i : Nat) : Int) := W_hi _ _ _ _ h
theorem twist_step (st : Nat → Int → Int → Int × Int) (d : List Int) {i : Nat} (h : 2 * (i + 1) ≤ d.length) :
    ((twist st i d).set i (st i (rd d (i : Int)) (rd d ((d.length - 1 - i : Nat) : Int))).1).set (d.length - 1 - i) (st i (rd d (i : Int)) (rd d ((d.length - 1 - i : Nat) : Int))).2 = twist st (i + 1) d := W_step _ _ _ _ h
def Bd (M : Int) (xs : List Int) : Prop := ∀ j : Nat, -M ≤ rd xs (j : Int) ∧ rd xs (j : Int) ≤ M
theorem Bd.mono {M N : Int} {xs : List Int} (h : Bd M xs) (hm : M ≤ N) : Bd N xs := fun j => by have := h j; omega
theorem Bd_gen {n : Nat} {f : Nat → Int} {M : Int} (h0 : 0 ≤ M) (h : ∀ j, j < n → -M ≤ f j ∧ f j ≤ M) : Bd M (gen n f) := fun j => by
  by_cases hj : j < n
  · rw [rd_gen _ _ hj]; exact h j hj
  · rw [rd_out _ (by rw [gen_length]; omega)]; omega
theorem Bd_twist {st : Nat → Int → Int → Int × Int} {q : Nat} {d : List Int} {N M : Int} (h0 : 0 ≤ N) (hNM : N ≤ M) (hq : 2 * q ≤ d.length) (hd : Bd N d)
    (hs : ∀ i a b, i < q → (-N ≤ a ∧ a ≤ N) → (-N ≤ b ∧ b ≤ N) → (-M ≤ (st i a b).1 ∧ (st i a b).1 ≤ M) ∧ (-M ≤ (st i a b).2 ∧ (st i a b).2 ≤ M)) : Bd M (twist st q d) := by
  unfold twist W
  refine Bd_gen (by omega) (fun j hj => ?_)
  by_cases h1 : j < q
  · rw [if_pos h1]; exact (hs j _ _ h1 (hd _) (hd _)).1
  · rw [if_neg h1]
    by_cases h2 : d.length - 1 - j < q
    · rw [if_pos h2]; exact (hs _ _ _ h2 (hd _) (hd _)).2
    · rw [if_neg h2]; have := hd j; omega
def outs (pf : Int → Int → Int × Int) (s e : List Int) : List Int := gen (2 * s.length) fun j => if j < s.length then (pf (rd s (j : Int)) (rd e (j : Int))).1 else (pf (rd s ((2 * s.length - 1 - j : Nat) : Int)) (rd e ((2 * s.length - 1 - j : Nat) : Int))).2
def uniteM (st : Nat → Nat → Int → Int → Int × Int) (pf : Int → Int → Int × Int) (s d : List Int) : List Int := outs pf s (twist (st (2 * s.length)) (s.length / 2) d)
theorem uniteM_length (st : Nat → Nat → Int → Int → Int × Int) (pf : Int → Int → Int × Int) (s d : List Int) : (uniteM st pf s d).length = 2 * s.length := gen_length _ _
def evens (c : List Int) : List Int := gen (c.length / 2) fun j => rd c ((2 * j : Nat) : Int)
def odds (c : List Int) : List Int := gen (c.length / 2) fun j => rd c ((2 * j + 1 : Nat) : Int)
def gatherM (st : Nat → Nat → Int → Int → Int × Int) (pf : Int → Int → Int × Int) : Nat → List Int → List Int
  | 0, c => c
  | L + 1, c => uniteM st pf (gatherM st pf L (evens c)) (gatherM st pf L (odds c))
theorem gatherM_length (st : Nat → Nat → Int → Int → Int × Int) (pf : Int → Int → Int × Int) : ∀ (L : Nat) (c : List Int), c.length = 2 ^ L → (gatherM st pf L c).length = 2 ^ L := by
  intro L
  induction L with
  | zero => intro c h; exact h
  | succ L ih =>
    intro c h
    rw [Nat.pow_succ] at h
    rw [gatherM, uniteM_length, ih _ (by unfold evens; rw [gen_length]; omega), Nat.pow_succ]; omega
theorem Bd_evens {M : Int} {c : List Int} (h0 : 0 ≤ M) (h : Bd M c) : Bd M (evens c) := Bd_gen h0 (fun j _ => h _)
theorem Bd_odds {M : Int} {c : List Int} (h0 : 0 ≤ M) (h : Bd M c) : Bd M (odds c) := Bd_gen h0 (fun j _ => h _)
def Sz (m : Nat) : Prop := m = 1 ∨ m = 2 ∨ m = 4 ∨ m = 8
theorem idx1 {m i : Nat} (hm : m ≤ 8) (hi : i < m) : wrap64 (wrap64 (wrap64 (Int.tdiv ((2 * m : Nat) : Int) 2) - 1) - (i : Int)) = ((m - 1 - i : Nat) : Int) := by
  rw [tdiv_pos (by omega), w64 (x := ((2 * m : Nat) : Int) / 2) (by omega) (by omega), w64 (x := ((2 * m : Nat) : Int) / 2 - 1) (by omega) (by omega), w64 (by omega) (by omega)]
  omega
theorem idx2 {m i : Nat} (hm : m ≤ 8) (hi : i < 2 * m) : wrap64 (wrap64 (((2 * m : Nat) : Int) - 1) - (i : Int)) = ((2 * m - 1 - i : Nat) : Int) := by
  rw [w64 (x := ((2 * m : Nat) : Int) - 1) (by omega) (by omega), w64 (by omega) (by omega)]
  omega
theorem quart {m : Nat} (hm : m ≤ 8) : wrap64 (Int.tdiv ((2 * m : Nat) : Int) 4) = ((m / 2 : Nat) : Int) := by
  rw [tdiv_pos (by omega), w64 (by omega) (by omega)]; omega
theorem halfI {m : Nat} (hm : m ≤ 8) : wrap64 (Int.tdiv ((2 * m : Nat) : Int) 2) = (m : Int) := by
  rw [tdiv_pos (by omega), w64 (by omega) (by omega)]; omega

theorem l1IntsS_eq (xs : List Int) (h : xs.length ≤ 1000000) : spec_l1Ints.f xs = some xs := by
  unfold spec_l1Ints.f
  rw [bindS, if_pos (by simp only [List.length_nil]; omega), List.nil_append]

theorem cloneI_eq (xs : List Int) (h : xs.length ≤ 1000000) : slices_Clone_int64_int64.f xs = some xs := by
  unfold slices_Clone_int64_int64.f; rw [if_pos (by omega)]

theorem concatI_eq (xs ys : List Int) (h : xs.length + ys.length < 100000000) (K : Nat) : slices_Concat_int64_int64.f (K + 1 + 1 + 1 + 1 + 1 + 1) [xs, ys] = some (xs ++ ys) := by
  have s0 : wrap64 (0 + 1) = 1 := by unfold wrap64; decide
  have s1 : wrap64 (1 + 1) = 2 := by unfold wrap64; decide
  have r0 : rd_L1 [xs, ys] 0 = xs := rfl
  have r1 : rd_L1 [xs, ys] 1 = ys := rfl
  have l2 : (([xs, ys] : List (List Int)).length : Int) = 2 := rfl
  unfold slices_Concat_int64_int64.f
  rw [slices_Concat_int64_int64.l0, l2, if_pos (by omega), if_pos (by omega), if_pos (by omega), r0, w64 (x := 0 + (xs.length : Int)) (by omega) (by omega), if_neg (by omega), s0]
  rw [slices_Concat_int64_int64.l0, l2, if_pos (by omega), if_pos (by omega), if_pos (by omega), r1, w64 (x := 0 + (xs.length : Int) + (ys.length : Int)) (by omega) (by omega), if_neg (by omega), s1]
  rw [slices_Concat_int64_int64.l0, if_neg (by omega)]
  unfold slices_Grow_int64_int64.f
  rw [if_pos (by omega)]
  simp only [Option.bind_some]
  rw [slices_Concat_int64_int64.l1, l2, if_pos (by omega), if_pos (by omega), if_pos (by omega), r0, if_pos (by simp; omega), s0]
  rw [slices_Concat_int64_int64.l1, l2, if_pos (by omega), if_pos (by omega), if_pos (by omega), r1, if_pos (by simp; omega), s1]
  rw [slices_Concat_int64_int64.l1, if_neg (by omega)]
  rfl

theorem Bd_all {N : Int} {xs : List Int} (h0 : 0 ≤ N) (h : allIn (-N) N xs = true) : Bd N xs := fun j => by
  by_cases hj : j < xs.length
  · rw [rd_get xs j hj]; exact (allIn_iff _ _ _).1 h _ (List.getElem_mem hj)
  · rw [rd_out _ (by omega)]; omega
def lvl (n : Nat) : Nat := if n = 4 then 2 else if n = 8 then 3 else 4
theorem sUnite_l0 (s d : List Int) (st : Nat → Int → Int → Int × Int) (m : Nat) (hm : m ≤ 8) (hd : d.length = m)
    (hst : ∀ i, i < m / 2 → spec_l5Back.f ((2 * m : Nat) : Int) (i : Int) (rd d (i : Int)) (rd d ((m - 1 - i : Nat) : Int)) = some (st i (rd d (i : Int)) (rd d ((m - 1 - i : Nat) : Int)))) :
    ∀ (dd i k K : Nat), i + dd = m / 2 → K = k + dd + 1 → spec_l6Unite.l0 K s ((2 * m : Nat) : Int) (twist st i d) (i : Int) = spec_l6Unite.j1 k s ((2 * m : Nat) : Int) (twist st (m / 2) d) := by
  intro dd
  induction dd with
  | zero =>
    intro i k K hi hK
    obtain rfl : K = k + 1 := by omega
    simp only [spec_l6Unite.l0, quart hm]
    rw [if_neg (by omega), show i = m / 2 by omega]
  | succ dd ih =>
    intro i k K hi hK
    have hl : (twist st i d).length = m := by rw [twist_length, hd]
    have h2 : 2 * (i + 1) ≤ d.length := by omega
    have e1 := twist_lo st d h2
    have e2 := twist_hi st d h2
    have e3 := twist_step st d h2
    rw [hd] at e2 e3
    obtain ⟨K, rfl⟩ : ∃ q, K = q + 1 := ⟨K - 1, by omega⟩
    simp only [spec_l6Unite.l0, quart hm, idx1 hm (show i < m by omega), hl, e1, e2]
    rw [if_pos (by omega), if_pos (by omega), if_pos (by omega), if_pos (by omega), if_pos (by omega), hst i (by omega)]
    simp only [Option.bind_some]
    rw [w64_succ _ (by omega), Int.toNat_natCast, Int.toNat_natCast, e3]
    exact ih (i + 1) k K (by omega) (by omega)
theorem sUnite_l1 (s e : List Int) (pf : Int → Int → Int × Int) (m : Nat) (hm : m ≤ 8) (hs : s.length = m) (he : e.length = m)
    (hpf : ∀ i : Nat, i < m → spec_l5Part.f (rd s (i : Int)) (rd e (i : Int)) = some (pf (rd s (i : Int)) (rd e (i : Int)))) :
    ∀ (dd i k : Nat), i + dd = m → dd < k → spec_l6Unite.l1 k s ((2 * m : Nat) : Int) e (U m (fun j => (pf (rd s (j : Int)) (rd e (j : Int))).1) (fun j => (pf (rd s (j : Int)) (rd e (j : Int))).2) i) (i : Int) = some (outs pf s e) := by
  intro dd
  induction dd with
  | zero =>
    intro i k hi hk
    obtain ⟨k, rfl⟩ : ∃ q, k = q + 1 := ⟨k - 1, by omega⟩
    simp only [spec_l6Unite.l1, halfI hm]
    rw [if_neg (by omega), show i = m by omega, U_end]
    unfold outs; rw [hs]
  | succ dd ih =>
    intro i k hi hk
    obtain ⟨k, rfl⟩ : ∃ q, k = q + 1 := ⟨k - 1, by omega⟩
    have e3 := U_step m (fun j => (pf (rd s (j : Int)) (rd e (j : Int))).1) (fun j => (pf (rd s (j : Int)) (rd e (j : Int))).2) (show i < m by omega)
    simp only [spec_l6Unite.l1, halfI hm, idx2 hm (show i < 2 * m by omega), U_length]
    rw [if_pos (by omega), if_pos (by omega), if_pos (by omega), if_pos (by omega), hpf i (by omega)]
    simp only [Option.bind_some]
    rw [if_pos (by omega), if_pos (by omega), if_pos (by omega), w64_succ _ (by omega), Int.toNat_natCast, Int.toNat_natCast, e3]
    exact ih (i + 1) k (by omega) (by omega)
theorem l1Ints_eq (xs : List Int) (h : xs.length ≤ 1000000) : spec_l1Ints.f xs = some xs := by
  unfold spec_l1Ints.f
  simp only [Option.bind_some, List.length_nil, List.nil_append]
  rw [if_pos (by omega)]
theorem spec_unite_eq (st : Nat → Nat → Int → Int → Int × Int) (pf : Int → Int → Int × Int) (s d : List Int) (m : Nat) (hm : m ≤ 8) (hm0 : 1 ≤ m) (hs : s.length = m) (hd : d.length = m)
    (hst : ∀ i, i < m / 2 → spec_l5Back.f ((2 * m : Nat) : Int) (i : Int) (rd d (i : Int)) (rd d ((m - 1 - i : Nat) : Int)) = some (st (2 * m) i (rd d (i : Int)) (rd d ((m - 1 - i : Nat) : Int))))
    (hpf : ∀ i : Nat, i < m → spec_l5Part.f (rd s (i : Int)) (rd (twist (st (2 * m)) (m / 2) d) (i : Int)) = some (pf (rd s (i : Int)) (rd (twist (st (2 * m)) (m / 2) d) (i : Int)))) (k : Nat) (hk : 40 ≤ k) :
    spec_l6Unite.f k s d = some (uniteM st pf s d) := by
  unfold spec_l6Unite.f
  rw [l1Ints_eq d (by omega)]
  simp only [bindS]
  have e0 : wrap64 ((s.length : Int) * 2) = ((2 * m : Nat) : Int) := by rw [w64 (by omega) (by omega)]; omega
  rw [e0]
  have tail : ∀ k, 20 ≤ k → spec_l6Unite.j1 k s ((2 * m : Nat) : Int) (twist (st (2 * m)) (m / 2) d) = some (uniteM st pf s d) := by
    intro k hk
    obtain ⟨k, rfl⟩ : ∃ q, k = q + 1 := ⟨k - 1, by omega⟩
    simp only [spec_l6Unite.j1]
    unfold spec_l1Zeros.f
    rw [if_pos (by omega), if_pos (by omega), Int.toNat_natCast]
    simp only [bindS]
    have := sUnite_l1 s (twist (st (2 * m)) (m / 2) d) pf m hm hs (by rw [twist_length, hd]) hpf m 0 k (by omega) (by omega)
    rw [U_zero] at this
    unfold uniteM
    rw [hs]
    exact this
  by_cases h : ((2 * m : Nat) : Int) > 2
  · rw [if_pos h]
    have := sUnite_l0 s d (st (2 * m)) m hm hd hst (m / 2) 0 (k - m / 2 - 1) k (by omega) (by omega)
    rw [twist_zero] at this
    exact this.trans (tail _ (by omega))
  · rw [if_neg h]
    have e : m / 2 = 0 := by omega
    have := tail k (by omega)
    rw [e, twist_zero] at this
    exact this

theorem iUnite_l0 (S0 : Int → Int → Int → Int → Option (Int × Int)) (S1 : Int → Int → Option (Int × Int)) (s d o : List Int) (st : Nat → Int → Int → Int × Int) (m : Nat) (hm : m ≤ 8) (hd : d.length = m)
    (hst : ∀ i, i < m / 2 → S0 ((2 * m : Nat) : Int) (i : Int) (rd d (i : Int)) (rd d ((m - 1 - i : Nat) : Int)) = some (st i (rd d (i : Int)) (rd d ((m - 1 - i : Nat) : Int)))) :
    ∀ (dd i k K : Nat), i + dd = m / 2 → K = k + dd + 1 → impl_undo_unite.l0 K s (twist st i d) ((2 * m : Nat) : Int) o ((m / 2 : Nat) : Int) (i : Int) S0 S1 = impl_undo_unite.l1 k s (twist st (m / 2) d) ((2 * m : Nat) : Int) o (s.length : Int) 0 S0 S1 := by
  intro dd
  induction dd with
  | zero =>
    intro i k K hi hK
    obtain rfl : K = k + 1 := by omega
    simp only [impl_undo_unite.l0]
    rw [if_neg (by omega), show i = m / 2 by omega]
  | succ dd ih =>
    intro i k K hi hK
    have hl : (twist st i d).length = m := by rw [twist_length, hd]
    have h2 : 2 * (i + 1) ≤ d.length := by omega
    have e1 := twist_lo st d h2
    have e2 := twist_hi st d h2
    have e3 := twist_step st d h2
    rw [hd] at e2 e3
    obtain ⟨K, rfl⟩ : ∃ q, K = q + 1 := ⟨K - 1, by omega⟩
    simp only [impl_undo_unite.l0, idx1 hm (show i < m by omega), hl, e1, e2]
    rw [if_pos (by omega), if_pos (by omega), if_pos (by omega), if_pos (by omega), if_pos (by omega), hst i (by omega)]
    simp only [Option.bind_some]
    rw [w64_succ _ (by omega), Int.toNat_natCast, Int.toNat_natCast, e3]
    exact ih (i + 1) k K (by omega) (by omega)
theorem iUnite_l1 (S0 : Int → Int → Int → Int → Option (Int × Int)) (S1 : Int → Int → Option (Int × Int)) (s e : List Int) (pf : Int → Int → Int × Int) (m : Nat) (hm : m ≤ 8) (hs : s.length = m) (he : e.length = m)
    (hpf : ∀ i : Nat, i < m → S1 (rd s (i : Int)) (rd e (i : Int)) = some (pf (rd s (i : Int)) (rd e (i : Int)))) :
    ∀ (dd i k : Nat), i + dd = m → dd < k → impl_undo_unite.l1 k s e ((2 * m : Nat) : Int) (U m (fun j => (pf (rd s (j : Int)) (rd e (j : Int))).1) (fun j => (pf (rd s (j : Int)) (rd e (j : Int))).2) i) (m : Int) (i : Int) S0 S1 = some (outs pf s e, e) := by
  intro dd
  induction dd with
  | zero =>
    intro i k hi hk
    obtain ⟨k, rfl⟩ : ∃ q, k = q + 1 := ⟨k - 1, by omega⟩
    simp only [impl_undo_unite.l1]
    rw [if_neg (by omega), show i = m by omega, U_end]
    unfold outs; rw [hs]
  | succ dd ih =>
    intro i k hi hk
    obtain ⟨k, rfl⟩ : ∃ q, k = q + 1 := ⟨k - 1, by omega⟩
    have e3 := U_step m (fun j => (pf (rd s (j : Int)) (rd e (j : Int))).1) (fun j => (pf (rd s (j : Int)) (rd e (j : Int))).2) (show i < m by omega)
    simp only [impl_undo_unite.l1, idx2 hm (show i < 2 * m by omega), U_length]
    rw [if_pos (by omega), if_pos (by omega), if_pos (by omega), if_pos (by omega), hpf i (by omega)]
    simp only [Option.bind_some]
    rw [if_pos (by omega), if_pos (by omega), if_pos (by omega), w64_succ _ (by omega), Int.toNat_natCast, Int.toNat_natCast, e3]
    exact ih (i + 1) k (by omega) (by omega)
theorem impl_unite_eq (S0 : Int → Int → Int → Int → Option (Int × Int)) (S1 : Int → Int → Option (Int × Int)) (st : Nat → Nat → Int → Int → Int × Int) (pf : Int → Int → Int × Int) (s d : List Int) (m : Nat) (hm : m ≤ 8) (hs : s.length = m) (hd : d.length = m)
    (hst : ∀ i, i < m / 2 → S0 ((2 * m : Nat) : Int) (i : Int) (rd d (i : Int)) (rd d ((m - 1 - i : Nat) : Int)) = some (st (2 * m) i (rd d (i : Int)) (rd d ((m - 1 - i : Nat) : Int))))
    (hpf : ∀ i : Nat, i < m → S1 (rd s (i : Int)) (rd (twist (st (2 * m)) (m / 2) d) (i : Int)) = some (pf (rd s (i : Int)) (rd (twist (st (2 * m)) (m / 2) d) (i : Int)))) (k : Nat) (hk : 40 ≤ k) :
    impl_undo_unite.f k S0 S1 s d = some (uniteM st pf s d, twist (st (2 * m)) (m / 2) d) := by
  unfold impl_undo_unite.f
  have e0 : wrap64 (2 * (s.length : Int)) = ((2 * m : Nat) : Int) := by rw [w64 (by omega) (by omega)]; omega
  rw [e0, if_pos (by omega), if_pos (by omega), quart hm, Int.toNat_natCast]
  have h1 := iUnite_l0 S0 S1 s d (List.replicate (2 * m) 0) (st (2 * m)) m hm hd hst (m / 2) 0 (k - m / 2 - 1) k (by omega) (by omega)
  rw [twist_zero] at h1
  refine h1.trans ?_
  have h2 := iUnite_l1 S0 S1 s (twist (st (2 * m)) (m / 2) d) pf m hm hs (by rw [twist_length, hd]) hpf m 0 (k - m / 2 - 1) (by omega) (by omega)
  rw [U_zero] at h2
  unfold uniteM
  rw [hs]
  exact h2

theorem rot_crude {p u a b N : Int} (hp : 0 ≤ p ∧ p ≤ 1024) (hu : 0 ≤ u ∧ u ≤ 1024) (h0 : 0 ≤ N) (ha : -N ≤ a ∧ a ≤ N) (hb : -N ≤ b ∧ b ≤ N) :
    ((-(5 * N) ≤ (forth p u a b).1 ∧ (forth p u a b).1 ≤ 5 * N) ∧ (-(5 * N) ≤ (forth p u a b).2 ∧ (forth p u a b).2 ≤ 5 * N)) ∧ ((-(5 * N) ≤ (back p u a b).1 ∧ (back p u a b).1 ≤ 5 * N) ∧ (-(5 * N) ≤ (back p u a b).2 ∧ (back p u a b).2 ≤ 5 * N)) := by
  have m1 := mul_bd hp.1 hp.2 hb.1 hb.2
  have t1 := tn_bd m1.1 m1.2
  have m2 := mul_bd (b := a - tn (p * b)) (M := 2 * N) hu.1 hu.2 (by omega) (by omega)
  have t2 := tn_bd m2.1 m2.2
  have m3 := mul_bd (b := b + tn (u * (a - tn (p * b)))) (M := 3 * N) hp.1 hp.2 (by omega) (by omega)
  have t3 := tn_bd m3.1 m3.2
  have n2 := mul_bd (b := a + tn (p * b)) (M := 2 * N) hu.1 hu.2 (by omega) (by omega)
  have s2 := tn_bd n2.1 n2.2
  have n3 := mul_bd (b := b - tn (u * (a + tn (p * b)))) (M := 3 * N) hp.1 hp.2 (by omega) (by omega)
  have s3 := tn_bd n3.1 n3.2
  unfold forth back
  simp only
  clear m1 m2 m3 n2 n3
  generalize tn (p * (b + tn (u * (a - tn (p * b))))) = x3 at t3 ⊢
  generalize tn (p * (b - tn (u * (a + tn (p * b))))) = y3 at s3 ⊢
  generalize tn (u * (a - tn (p * b))) = x2 at t2 ⊢
  generalize tn (u * (a + tn (p * b))) = y2 at s2 ⊢
  generalize tn (p * b) = x1 at t1 ⊢
  omega
def backS (n i : Nat) (a b : Int) : Int × Int := back (pu (n : Int) (i : Int)).1 (pu (n : Int) (i : Int)).2 a b
def forthS (n i : Nat) (a b : Int) : Int × Int := forth (pu (n : Int) (i : Int)).1 (pu (n : Int) (i : Int)).2 a b
def pf (s d : Int) : Int × Int := (s - d / 2 + d, s - d / 2)
def mx (a b : Int) : Int × Int := (b + (a - b) / 2, a - b)
theorem valid_of {m i : Nat} (hm : Sz m) (hi : i < m / 2) : Valid ((2 * m : Nat) : Int) (i : Int) := by
  unfold Sz at hm
  unfold Valid
  rcases hm with rfl | rfl | rfl | rfl
  · omega
  · exact .inl ⟨rfl, by omega⟩
  · exact .inr (.inl ⟨rfl, by omega⟩)
  · exact .inr (.inr ⟨rfl, by omega⟩)
theorem Sz.le {m : Nat} (h : Sz m) : 1 ≤ m ∧ m ≤ 8 := by unfold Sz at h; omega
theorem Bd_back {m : Nat} (hm : Sz m) {d : List Int} (hd : d.length = m) {N M : Int} (hN : 0 ≤ N) (hM : 5 * N ≤ M) (h : Bd N d) : Bd M (twist (backS (2 * m)) (m / 2) d) := by
  refine Bd_twist (N := N) (by omega) (by omega) (by omega) h ?_
  intro i a b hi ha hb
  obtain ⟨_, hp, hu⟩ := turnOf_eq (valid_of hm hi)
  have := (rot_crude hp hu hN ha hb).2
  unfold backS
  omega
theorem Bd_forth {m : Nat} (hm : Sz m) {d : List Int} (hd : d.length = m) {N M : Int} (hN : 0 ≤ N) (hM : 5 * N ≤ M) (h : Bd N d) : Bd M (twist (forthS (2 * m)) (m / 2) d) := by
  refine Bd_twist (N := N) (by omega) (by omega) (by omega) h ?_
  intro i a b hi ha hb
  obtain ⟨_, hp, hu⟩ := turnOf_eq (valid_of hm hi)
  have := (rot_crude hp hu hN ha hb).1
  unfold forthS
  omega
theorem Bd_outs {s e : List Int} {A N M : Int} (hA : 0 ≤ A) (hN : 0 ≤ N) (hM : 2 * A + N + 1 ≤ 2 * M) (hs : Bd A s) (he : Bd N e) : Bd M (outs pf s e) := by
  unfold outs pf
  refine Bd_gen (by omega) (fun j hj => ?_)
  by_cases h : j < s.length
  · rw [if_pos h]
    have h1 := hs j
    have h2 := he j
    simp only
    omega
  · rw [if_neg h]
    have h1 := hs (2 * s.length - 1 - j)
    have h2 := he (2 * s.length - 1 - j)
    simp only
    omega
theorem Bd_unite {m : Nat} (hm : Sz m) {s d : List Int} (hs : s.length = m) (hd : d.length = m) {N : Int} (hN : 1 ≤ N) (h1 : Bd N s) (h2 : Bd N d) : Bd (4 * N) (uniteM backS pf s d) := by
  unfold uniteM
  rw [hs]
  have := Bd_back hm hd (M := 5 * N) (by omega) (by omega) h2
  exact Bd_outs (A := N) (N := 5 * N) (by omega) (by omega) (by omega) h1 this

theorem rot_both {s n : Int} (hv : Valid s n) {a b N : Int} (hN : 24 ≤ N) (ha : -N ≤ a ∧ a ≤ N) (hb : -N ≤ b ∧ b ≤ N) :
    ((-(3 * N) ≤ 2 * (forth (pu s n).1 (pu s n).2 a b).1 ∧ 2 * (forth (pu s n).1 (pu s n).2 a b).1 ≤ 3 * N) ∧ (-(3 * N) ≤ 2 * (forth (pu s n).1 (pu s n).2 a b).2 ∧ 2 * (forth (pu s n).1 (pu s n).2 a b).2 ≤ 3 * N)) ∧
    ((-(3 * N) ≤ 2 * (back (pu s n).1 (pu s n).2 a b).1 ∧ 2 * (back (pu s n).1 (pu s n).2 a b).1 ≤ 3 * N) ∧ (-(3 * N) ≤ 2 * (back (pu s n).1 (pu s n).2 a b).2 ∧ 2 * (back (pu s n).1 (pu s n).2 a b).2 ≤ 3 * N)) := by
  unfold Valid at hv
  have e1 : pu 4 0 = (101, 200) := rfl
  have e2 : pu 4 1 = (311, 569) := rfl
  have f1 : pu 8 0 = (50, 100) := rfl
  have f2 : pu 8 1 = (152, 297) := rfl
  have f3 : pu 8 2 = (257, 483) := rfl
  have f4 : pu 8 3 = (366, 650) := rfl
  have g1 : pu 16 0 = (25, 50) := rfl
  have g2 : pu 16 1 = (76, 150) := rfl
  have g3 : pu 16 2 = (126, 249) := rfl
  have g4 : pu 16 3 = (178, 345) := rfl
  have g5 : pu 16 4 = (230, 438) := rfl
  have g6 : pu 16 5 = (283, 526) := rfl
  have g7 : pu 16 6 = (338, 610) := rfl
  have g8 : pu 16 7 = (395, 688) := rfl
  rcases hv with ⟨rfl, rfl | rfl⟩ | ⟨rfl, rfl | rfl | rfl | rfl⟩ | ⟨rfl, rfl | rfl | rfl | rfl | rfl | rfl | rfl | rfl⟩ <;>
    (simp only [e1, e2, f1, f2, f3, f4, g1, g2, g3, g4, g5, g6, g7, g8, forth, back, tn]; clear e1 e2 f1 f2 f3 f4 g1 g2 g3 g4 g5 g6 g7 g8; refine ⟨⟨⟨?_, ?_⟩, ?_, ?_⟩, ⟨?_, ?_⟩, ?_, ?_⟩ <;> omega)
theorem Bf_back {m : Nat} (hm : Sz m) {d : List Int} (hd : d.length = m) {N M : Int} (hN : 24 ≤ N) (hM : 3 * N ≤ 2 * M) (h : Bd N d) : Bd M (twist (backS (2 * m)) (m / 2) d) := by
  refine Bd_twist (N := N) (by omega) (by omega) (by omega) h ?_
  intro i a b hi ha hb
  have := (rot_both (valid_of hm hi) hN ha hb).2
  exact ⟨⟨by have := this.1.1; unfold backS; omega, by have := this.1.2; unfold backS; omega⟩, ⟨by have := this.2.1; unfold backS; omega, by have := this.2.2; unfold backS; omega⟩⟩
theorem Bf_forth {m : Nat} (hm : Sz m) {d : List Int} (hd : d.length = m) {N M : Int} (hN : 24 ≤ N) (hM : 3 * N ≤ 2 * M) (h : Bd N d) : Bd M (twist (forthS (2 * m)) (m / 2) d) := by
  refine Bd_twist (N := N) (by omega) (by omega) (by omega) h ?_
  intro i a b hi ha hb
  have := (rot_both (valid_of hm hi) hN ha hb).1
  exact ⟨⟨by have := this.1.1; unfold forthS; omega, by have := this.1.2; unfold forthS; omega⟩, ⟨by have := this.2.1; unfold forthS; omega, by have := this.2.2; unfold forthS; omega⟩⟩
theorem Bf_unite {m : Nat} (hm : Sz m) {s d : List Int} (hs : s.length = m) (hd : d.length = m) {N : Int} (hN : 24 ≤ N) (h1 : Bd N s) (h2 : Bd N d) : Bd (2 * N) (uniteM backS pf s d) := by
  unfold uniteM
  rw [hs]
  have := Bf_back hm hd (M := (3 * N + 1) / 2) hN (by omega) h2
  exact Bd_outs (A := N) (N := (3 * N + 1) / 2) (by omega) (by omega) (by omega) h1 this

def hs (m : Nat) (xs : List Int) (j : Nat) : Int := (mx (rd xs (j : Int)) (rd xs ((2 * m - 1 - j : Nat) : Int))).1
def hd (m : Nat) (xs : List Int) (j : Nat) : Int := (mx (rd xs (j : Int)) (rd xs ((2 * m - 1 - j : Nat) : Int))).2
def halveS (xs : List Int) : List Int := gen (xs.length / 2) (hs (xs.length / 2) xs)
def halveD0 (xs : List Int) : List Int := gen (xs.length / 2) (hd (xs.length / 2) xs)
def halveD (xs : List Int) : List Int := twist (forthS xs.length) (xs.length / 2 / 2) (halveD0 xs)
theorem halveS_length (xs : List Int) : (halveS xs).length = xs.length / 2 := gen_length _ _
theorem halveD0_length (xs : List Int) : (halveD0 xs).length = xs.length / 2 := gen_length _ _
theorem halveD_length (xs : List Int) : (halveD xs).length = xs.length / 2 := by unfold halveD; rw [twist_length, halveD0_length]
def V (m : Nat) (f : Nat → Int) (i : Nat) : List Int := gen m fun j => if j < i then f j else 0
theorem V_zero (m : Nat) (f : Nat → Int) : V m f 0 = List.replicate m 0 := by
  rw [zeros_gen]; unfold V
  exact gen_congr (fun j _ => by simp)
theorem V_end (m : Nat) (f : Nat → Int) : V m f m = gen m f := by
  unfold V
  exact gen_congr (fun j h => by rw [if_pos h])
theorem V_step (m : Nat) (f : Nat → Int) {i : Nat} (hi : i < m) : (V m f i).set i (f i) = V m f (i + 1) := by
  refine ext_rd (by rw [List.length_set]; unfold V; rw [gen_length, gen_length]) ?_
  intro j hj
  have hl : (V m f i).length = m := gen_length _ _
  rw [List.length_set, hl] at hj
  rw [rd_set _ _ (by omega)]
  unfold V
  rw [rd_gen _ _ hj, rd_gen _ _ hj]
  by_cases e : j = i
  · rw [if_pos e, if_pos (by omega), e]
  · rw [if_neg e]
    by_cases h : j < i
    · rw [if_pos h, if_pos (by omega)]
    · rw [if_neg h, if_neg (by omega)]
theorem Bd_halveS {xs : List Int} {N : Int} (h0 : 0 ≤ N) (h : Bd N xs) : Bd N (halveS xs) := by
  unfold halveS hs mx
  refine Bd_gen h0 (fun j _ => ?_)
  have h1 := h j
  have h2 := h (2 * (xs.length / 2) - 1 - j)
  simp only
  omega
theorem Bd_halveD0 {xs : List Int} {N : Int} (h0 : 0 ≤ N) (h : Bd N xs) : Bd (2 * N) (halveD0 xs) := by
  unfold halveD0 hd mx
  refine Bd_gen (by omega) (fun j _ => ?_)
  have h1 := h j
  have h2 := h (2 * (xs.length / 2) - 1 - j)
  simp only
  omega
theorem Bd_halveD {m : Nat} (hm : Sz m) {xs : List Int} (hx : xs.length = 2 * m) {N : Int} (h0 : 0 ≤ N) (h : Bd N xs) : Bd (10 * N) (halveD xs) := by
  unfold halveD
  rw [show xs.length / 2 / 2 = m / 2 by omega, hx]
  exact Bd_forth hm (by rw [halveD0_length]; omega) (N := 2 * N) (by omega) (by omega) (Bd_halveD0 h0 h)

theorem sHalve_l1 (s d : List Int) (st : Nat → Int → Int → Int × Int) (m : Nat) (hm : m ≤ 8) (hd : d.length = m)
    (hst : ∀ i, i < m / 2 → spec_l5Turn.f ((2 * m : Nat) : Int) (i : Int) (rd d (i : Int)) (rd d ((m - 1 - i : Nat) : Int)) = some (st i (rd d (i : Int)) (rd d ((m - 1 - i : Nat) : Int)))) :
    ∀ (dd i K : Nat), i + dd = m / 2 → dd < K → spec_l6Halve.l1 K ((2 * m : Nat) : Int) s (twist st i d) (i : Int) = some (s, twist st (m / 2) d) := by
  intro dd
  induction dd with
  | zero =>
    intro i K hi hK
    obtain ⟨K, rfl⟩ : ∃ q, K = q + 1 := ⟨K - 1, by omega⟩
    simp only [spec_l6Halve.l1, quart hm]
    rw [if_neg (by omega), show i = m / 2 by omega]
  | succ dd ih =>
    intro i K hi hK
    have hl : (twist st i d).length = m := by rw [twist_length, hd]
    have h2 : 2 * (i + 1) ≤ d.length := by omega
    have e1 := twist_lo st d h2
    have e2 := twist_hi st d h2
    have e3 := twist_step st d h2
    rw [hd] at e2 e3
    obtain ⟨K, rfl⟩ : ∃ q, K = q + 1 := ⟨K - 1, by omega⟩
    simp only [spec_l6Halve.l1, quart hm, idx1 hm (show i < m by omega), hl, e1, e2]
    rw [if_pos (by omega), if_pos (by omega), if_pos (by omega), if_pos (by omega), if_pos (by omega), hst i (by omega)]
    simp only [Option.bind_some]
    rw [w64_succ _ (by omega), Int.toNat_natCast, Int.toNat_natCast, e3]
    exact ih (i + 1) K (by omega) (by omega)
theorem sHalve_l0 (xs : List Int) (m : Nat) (hm : m ≤ 8) (hx : xs.length = 2 * m) {N : Int} (hN : 0 ≤ N) (hN2 : N ≤ 200000000000000) (hB : Bd N xs) :
    ∀ (dd i k K : Nat), i + dd = m → K = k + dd + 1 → spec_l6Halve.l0 K xs ((2 * m : Nat) : Int) (gen i (hs m xs)) (gen i (hd m xs)) (i : Int) = (if ((2 * m : Nat) : Int) > 2 then spec_l6Halve.l1 k ((2 * m : Nat) : Int) (gen m (hs m xs)) (gen m (hd m xs)) 0 else some (gen m (hs m xs), gen m (hd m xs))) := by
  intro dd
  induction dd with
  | zero =>
    intro i k K hi hK
    obtain rfl : K = k + 1 := by omega
    simp only [spec_l6Halve.l0, halfI hm]
    rw [if_neg (by omega), show i = m by omega]
  | succ dd ih =>
    intro i k K hi hK
    obtain ⟨K, rfl⟩ : ∃ q, K = q + 1 := ⟨K - 1, by omega⟩
    have b1 := hB i
    have b2 := hB (2 * m - 1 - i)
    simp only [spec_l6Halve.l0, halfI hm, idx2 hm (show i < 2 * m by omega), gen_length]
    rw [if_pos (by omega), if_pos (by omega), if_pos (by omega), if_pos (by omega), if_pos (by omega), l5Mix_eq _ _ (by omega) (by omega)]
    simp only [Option.bind_some]
    rw [if_pos (by omega), if_pos (by omega), w64_succ _ (by omega)]
    have := ih (i + 1) k K (by omega) (by omega)
    rw [gen_succ, gen_succ] at this
    exact this
theorem sHalve {m : Nat} (hm : Sz m) {xs : List Int} (hx : xs.length = 2 * m) {N : Int} (hN : 0 ≤ N) (hN2 : N ≤ 20000000000000) (hB : Bd N xs) (k : Nat) (hk : 40 ≤ k) : spec_l6Halve.f k xs = some (halveS xs, halveD xs) := by
  unfold spec_l6Halve.f
  have hm8 := hm.le
  have h0 := sHalve_l0 xs m hm8.2 hx hN (by omega) hB m 0 (k - m - 1) k (by omega) (by omega)
  have hxm : xs.length / 2 = m := by omega
  have h1 := sHalve_l1 (gen m (hs m xs)) (halveD0 xs) (forthS (2 * m)) m hm8.2 (by rw [halveD0_length, hxm]) (fun i hi => by
    have bb := Bd_halveD0 hN hB
    have b1 := bb i
    have b2 := bb (m - 1 - i)
    exact l5Turn_eq (valid_of hm hi) _ _ (by omega) (by omega)) (m / 2) 0 (k - m - 1) (by omega) (by omega)
  rw [twist_zero] at h1
  have e1 : gen m (hd m xs) = halveD0 xs := by unfold halveD0; rw [hxm]
  have e2 : gen m (hs m xs) = halveS xs := by unfold halveS; rw [hxm]
  have e3 : twist (forthS (2 * m)) (m / 2) (halveD0 xs) = halveD xs := by unfold halveD; rw [hxm, hx]
  rw [e3, e2] at h1
  rw [e1, e2] at h0
  rw [hx]
  refine Eq.trans h0 ?_
  by_cases h : ((2 * m : Nat) : Int) > 2
  · rw [if_pos h]; exact h1
  · rw [if_neg h, ← e3, show m / 2 = 0 by omega, twist_zero]

theorem iHalve_l1 (s d : List Int) (m : Nat) (hm : Sz m) (hd : d.length = m) {N : Int} (hN2 : N ≤ 200000000000000) (hB : Bd N d) :
    ∀ (dd i K : Nat), i + dd = m / 2 → dd < K → impl_halve.l1 K ((2 * m : Nat) : Int) s (twist (forthS (2 * m)) i d) ((m / 2 : Nat) : Int) (i : Int) = some (s, twist (forthS (2 * m)) (m / 2) d) := by
  intro dd
  induction dd with
  | zero =>
    intro i K hi hK
    obtain ⟨K, rfl⟩ : ∃ q, K = q + 1 := ⟨K - 1, by omega⟩
    simp only [impl_halve.l1]
    rw [if_neg (by omega), show i = m / 2 by omega]
  | succ dd ih =>
    intro i K hi hK
    have hm8 := hm.le
    have hl : (twist (forthS (2 * m)) i d).length = m := by rw [twist_length, hd]
    have h2 : 2 * (i + 1) ≤ d.length := by omega
    have e1 := twist_lo (forthS (2 * m)) d h2
    have e2 := twist_hi (forthS (2 * m)) d h2
    have e3 := twist_step (forthS (2 * m)) d h2
    rw [hd] at e2 e3
    have b1 := hB i
    have b2 := hB (m - 1 - i)
    obtain ⟨ht, hp, hu⟩ := turnOf_eq (valid_of hm (show i < m / 2 by omega))
    obtain ⟨K, rfl⟩ : ∃ q, K = q + 1 := ⟨K - 1, by omega⟩
    have hf := turn_forth_eq _ _ (rd d (i : Int)) (rd d ((m - 1 - i : Nat) : Int)) hp hu (by omega) (by omega)
    rw [impl_halve.l1]
    rw [if_pos (by omega), ht]
    simp only [Option.bind_some, idx1 hm8.2 (show i < m by omega), hl, e1, e2]
    rw [if_pos (by omega), if_pos (by omega), if_pos (by omega), if_pos (by omega), hf]
    simp only [Option.bind_some]
    rw [w64_succ _ (by omega), Int.toNat_natCast, Int.toNat_natCast]
    have e4 := ih (i + 1) K (by omega) (by omega)
    rw [← e3] at e4
    exact e4
theorem iHalve_l0 (xs : List Int) (m : Nat) (hm : m ≤ 8) (hx : xs.length = 2 * m) {N : Int} (hN : 0 ≤ N) (hN2 : N ≤ 200000000000000) (hB : Bd N xs) :
    ∀ (dd i k K : Nat), i + dd = m → K = k + dd + 1 → impl_halve.l0 K xs ((2 * m : Nat) : Int) (V m (hs m xs) i) (V m (hd m xs) i) (m : Int) (i : Int) = impl_halve.l1 k ((2 * m : Nat) : Int) (gen m (hs m xs)) (gen m (hd m xs)) ((m / 2 : Nat) : Int) 0 := by
  intro dd
  induction dd with
  | zero =>
    intro i k K hi hK
    obtain rfl : K = k + 1 := by omega
    simp only [impl_halve.l0, quart hm]
    rw [if_neg (by omega), show i = m by omega, V_end, V_end]
  | succ dd ih =>
    intro i k K hi hK
    obtain ⟨K, rfl⟩ : ∃ q, K = q + 1 := ⟨K - 1, by omega⟩
    have b1 := hB i
    have b2 := hB (2 * m - 1 - i)
    have hv : ∀ f : Nat → Int, (V m f i).length = m := fun f => gen_length _ _
    have s1 := V_step m (hs m xs) (show i < m by omega)
    have s2 := V_step m (hd m xs) (show i < m by omega)
    simp only [impl_halve.l0, idx2 hm (show i < 2 * m by omega), hv]
    rw [if_pos (by omega), if_pos (by omega), if_pos (by omega), if_pos (by omega), if_pos (by omega), mix_eq _ _ (by omega) (by omega)]
    simp only [Option.bind_some]
    rw [if_pos (by omega), if_pos (by omega), w64_succ _ (by omega), Int.toNat_natCast]
    have := ih (i + 1) k K (by omega) (by omega)
    rw [← s1, ← s2] at this
    exact this
theorem iHalve {m : Nat} (hm : Sz m) {xs : List Int} (hx : xs.length = 2 * m) {N : Int} (hN : 0 ≤ N) (hN2 : N ≤ 20000000000000) (hB : Bd N xs) (k : Nat) (hk : 40 ≤ k) : impl_halve.f k xs = some (halveS xs, halveD xs) := by
  have hm8 := hm.le
  have h0 := iHalve_l0 xs m hm8.2 hx hN (by omega) hB m 0 (k - m - 1) k (by omega) (by omega)
  have hxm : xs.length / 2 = m := by omega
  have h1 := iHalve_l1 (gen m (hs m xs)) (halveD0 xs) m hm (by rw [halveD0_length, hxm]) (N := 2 * N) (by omega) (Bd_halveD0 hN hB) (m / 2) 0 (k - m - 1) (by omega) (by omega)
  rw [twist_zero] at h1
  have e1 : gen m (hd m xs) = halveD0 xs := by unfold halveD0; rw [hxm]
  have e2 : gen m (hs m xs) = halveS xs := by unfold halveS; rw [hxm]
  have e3 : twist (forthS (2 * m)) (m / 2) (halveD0 xs) = halveD xs := by unfold halveD; rw [hxm, hx]
  rw [e3, e2] at h1
  rw [e1, e2, V_zero, V_zero] at h0
  have ew : wrap64 ((xs.length : Int) / 2) = (m : Int) := by rw [w64 (by omega) (by omega)]; omega
  unfold impl_halve.f
  rw [ew, if_pos (by omega), Int.toNat_natCast, if_pos (by omega)]
  simp only [bindS, List.length_replicate]
  rw [hx]
  exact Eq.trans h0 h1

def zipM (a b : List Int) : List Int := gen (2 * a.length) fun j => if j % 2 = 0 then rd a ((j / 2 : Nat) : Int) else rd b ((j / 2 : Nat) : Int)
def zf (a b : List Int) (j : Nat) : Int := if j % 2 = 0 then rd a ((j / 2 : Nat) : Int) else rd b ((j / 2 : Nat) : Int)
theorem zipM_length (a b : List Int) : (zipM a b).length = 2 * a.length := gen_length _ _
theorem zf_step (a b : List Int) (i : Nat) : gen (2 * (i + 1)) (zf a b) = gen (2 * i) (zf a b) ++ [rd a (i : Int), rd b (i : Int)] := by
  rw [show 2 * (i + 1) = 2 * i + 1 + 1 by omega, gen_succ, gen_succ, List.append_assoc]
  have e1 : zf a b (2 * i) = rd a (i : Int) := by unfold zf; rw [if_pos (by omega), show 2 * i / 2 = i by omega]
  have e2 : zf a b (2 * i + 1) = rd b (i : Int) := by unfold zf; rw [if_neg (by omega), show (2 * i + 1) / 2 = i by omega]
  rw [e1, e2]; rfl
def spreadM : Nat → List Int → List Int
  | 0, c => c
  | L + 1, c => zipM (spreadM L (halveS c)) (spreadM L (halveD c))
theorem spreadM_length : ∀ (L : Nat) (c : List Int), c.length = 2 ^ L → (spreadM L c).length = 2 ^ L := by
  intro L
  induction L with
  | zero => intro c h; exact h
  | succ L ih =>
    intro c h
    rw [Nat.pow_succ] at h
    rw [spreadM, zipM_length, ih _ (by rw [halveS_length]; omega), Nat.pow_succ]; omega
theorem pow4' (L : Nat) (hL : L ≤ 4) : 1 ≤ 2 ^ L ∧ 2 ^ L ≤ 16 := ⟨Nat.two_pow_pos L, Nat.pow_le_pow_right (by omega) hL⟩
theorem Sz_pow' (L : Nat) (hL : L ≤ 3) : Sz (2 ^ L) := by
  unfold Sz
  match L, hL with
  | 0, _ => exact .inl rfl
  | 1, _ => exact .inr (.inl rfl)
  | 2, _ => exact .inr (.inr (.inl rfl))
  | 3, _ => exact .inr (.inr (.inr rfl))

theorem sSpread_l0 (a b : List Int) (hab : b.length = a.length) (ha : a.length ≤ 8) : ∀ (dd i K : Nat), i + dd = a.length → dd < K → spec_l6Spread.l0 K a b (gen (2 * i) (zf a b)) (i : Int) = some (zipM a b) := by
  intro dd
  induction dd with
  | zero =>
    intro i K hi hK
    obtain ⟨K, rfl⟩ : ∃ q, K = q + 1 := ⟨K - 1, by omega⟩
    simp only [spec_l6Spread.l0]
    rw [if_neg (by omega), show i = a.length by omega]; rfl
  | succ dd ih =>
    intro i K hi hK
    obtain ⟨K, rfl⟩ : ∃ q, K = q + 1 := ⟨K - 1, by omega⟩
    simp only [spec_l6Spread.l0, bindS, gen_length, List.length_cons, List.length_nil]
    rw [if_pos (by omega), if_pos (by omega), if_pos (by omega), if_pos (by omega), w64_succ _ (by omega), ← zf_step]
    exact ih (i + 1) K (by omega) (by omega)
theorem sSpread : ∀ (L : Nat) (c : List Int) (N : Int) (k : Nat), L ≤ 4 → c.length = 2 ^ L → 0 ≤ N → Bd N c → N * 10 ^ L ≤ 20000000000000 → 60 + 20 * L ≤ k → spec_l6Spread.f k c = some (spreadM L c) := by
  intro L
  induction L with
  | zero =>
    intro c N k _ hc _ _ _ hk
    obtain ⟨k, rfl⟩ : ∃ q, k = q + 1 := ⟨k - 1, by omega⟩
    simp only [spec_l6Spread.f]
    unfold spec_l1Ints.f
    simp only [bindS, List.length_nil, List.nil_append]
    rw [if_pos (by rw [hc]; rfl), if_pos (by rw [hc]; decide)]
    rfl
  | succ L ih =>
    intro c N k hL hc hN h hb hk
    obtain ⟨k, rfl⟩ : ∃ q, k = q + 1 := ⟨k - 1, by omega⟩
    have hp2 := pow4' L (by omega)
    have hpw : (2 : Nat) ^ (L + 1) = 2 * 2 ^ L := by rw [Nat.pow_succ]; omega
    have hp8 : 2 ^ L ≤ 8 := Nat.pow_le_pow_right (n := 2) (by omega) (show L ≤ 3 by omega)
    rw [hpw] at hc
    have hb' : 10 * N * 10 ^ L ≤ 20000000000000 := by
      rw [Int.pow_succ] at hb
      rw [Int.mul_comm 10 N, Int.mul_assoc, Int.mul_comm 10]; exact hb
    have hp : (1 : Int) ≤ 10 ^ L := Int.pow_pos (show (0 : Int) < 10 by decide)
    have hN10 : 10 * N ≤ 20000000000000 := by
      have := Int.mul_le_mul_of_nonneg_left hp (show 0 ≤ 10 * N by omega)
      omega
    have b1 : Bd (10 * N) (halveS c) := (Bd_halveS hN h).mono (by omega)
    have b2 : Bd (10 * N) (halveD c) := Bd_halveD (Sz_pow' L (by omega)) hc hN h
    have l1 : (halveS c).length = 2 ^ L := by rw [halveS_length]; omega
    have l2 : (halveD c).length = 2 ^ L := by rw [halveD_length]; omega
    have g0 := sHalve (Sz_pow' L (by omega)) hc hN (by omega) h k (by omega)
    have g1 := ih (halveS c) (10 * N) k (by omega) l1 (by omega) b1 hb' (by omega)
    have g2 := ih (halveD c) (10 * N) k (by omega) l2 (by omega) b2 hb' (by omega)
    have m1 := spreadM_length L _ l1
    have m2 := spreadM_length L _ l2
    have g3 := sSpread_l0 (spreadM L (halveS c)) (spreadM L (halveD c)) (by omega) (by omega) (2 ^ L) 0 k (by omega) (by omega)
    simp only [spec_l6Spread.f]
    rw [if_neg (by omega)]
    simp only [g0, g1, g2, bindS]
    exact g3

theorem iSpread_l0 (a b : List Int) (hab : b.length = a.length) (ha : a.length ≤ 8) : ∀ (dd i K : Nat), i + dd = a.length → dd < K → impl_spread.l0 K a b (gen (2 * i) (zf a b)) (a.length : Int) (i : Int) = some (zipM a b) := by
  intro dd
  induction dd with
  | zero =>
    intro i K hi hK
    obtain ⟨K, rfl⟩ : ∃ q, K = q + 1 := ⟨K - 1, by omega⟩
    simp only [impl_spread.l0]
    rw [if_neg (by omega), show i = a.length by omega]; rfl
  | succ dd ih =>
    intro i K hi hK
    obtain ⟨K, rfl⟩ : ∃ q, K = q + 1 := ⟨K - 1, by omega⟩
    simp only [impl_spread.l0, bindS, gen_length, List.length_cons, List.length_nil]
    rw [if_pos (by omega), if_pos (by omega), if_pos (by omega), if_pos (by omega), if_pos (by omega), w64_succ _ (by omega), ← zf_step]
    exact ih (i + 1) K (by omega) (by omega)
theorem iSpread : ∀ (L : Nat) (c : List Int) (N : Int) (k : Nat), L ≤ 4 → c.length = 2 ^ L → 0 ≤ N → Bd N c → N * 10 ^ L ≤ 20000000000000 → 60 + 20 * L ≤ k → impl_spread.f k c = some (spreadM L c) := by
  intro L
  induction L with
  | zero =>
    intro c N k _ hc _ _ _ hk
    obtain ⟨k, rfl⟩ : ∃ q, k = q + 1 := ⟨k - 1, by omega⟩
    have hc1 : c.length = 1 := hc
    simp only [impl_spread.f]
    rw [if_pos (by omega), if_pos (by omega), spreadM]
    match c, hc1 with
    | [x], _ => rfl
  | succ L ih =>
    intro c N k hL hc hN h hb hk
    obtain ⟨k, rfl⟩ : ∃ q, k = q + 1 := ⟨k - 1, by omega⟩
    have hp2 := pow4' L (by omega)
    have hpw : (2 : Nat) ^ (L + 1) = 2 * 2 ^ L := by rw [Nat.pow_succ]; omega
    have hp8 : 2 ^ L ≤ 8 := Nat.pow_le_pow_right (n := 2) (by omega) (show L ≤ 3 by omega)
    rw [hpw] at hc
    have hb' : 10 * N * 10 ^ L ≤ 20000000000000 := by
      rw [Int.pow_succ] at hb
      rw [Int.mul_comm 10 N, Int.mul_assoc, Int.mul_comm 10]; exact hb
    have hp : (1 : Int) ≤ 10 ^ L := Int.pow_pos (show (0 : Int) < 10 by decide)
    have hN10 : 10 * N ≤ 20000000000000 := by
      have := Int.mul_le_mul_of_nonneg_left hp (show 0 ≤ 10 * N by omega)
      omega
    have b1 : Bd (10 * N) (halveS c) := (Bd_halveS hN h).mono (by omega)
    have b2 : Bd (10 * N) (halveD c) := Bd_halveD (Sz_pow' L (by omega)) hc hN h
    have l1 : (halveS c).length = 2 ^ L := by rw [halveS_length]; omega
    have l2 : (halveD c).length = 2 ^ L := by rw [halveD_length]; omega
    have g0 := iHalve (Sz_pow' L (by omega)) hc hN (by omega) h k (by omega)
    have g1 := ih (halveS c) (10 * N) k (by omega) l1 (by omega) b1 hb' (by omega)
    have g2 := ih (halveD c) (10 * N) k (by omega) l2 (by omega) b2 hb' (by omega)
    have m1 := spreadM_length L _ l1
    have m2 := spreadM_length L _ l2
    have g3 := iSpread_l0 (spreadM L (halveS c)) (spreadM L (halveD c)) (by omega) (by omega) (2 ^ L) 0 k (by omega) (by omega)
    simp only [impl_spread.f]
    rw [if_neg (by omega)]
    simp only [g0, g1, g2, bindS]
    exact g3

theorem size_m {a : Int} (h : sizeF a = 0) : ∃ m : Nat, (m = 2 ∨ m = 4 ∨ m = 8) ∧ a = ((2 * m : Nat) : Int) := by
  rcases sizeF_cases a with ⟨_, h4 | h8 | h16⟩ | ⟨h3, _⟩
  · exact ⟨2, .inl rfl, h4⟩
  · exact ⟨4, .inr (.inl rfl), h8⟩
  · exact ⟨8, .inr (.inr rfl), h16⟩
  · omega
theorem lvl_m {m : Nat} (h : m = 2 ∨ m = 4 ∨ m = 8) : 2 * m = 2 ^ lvl (2 * m) ∧ lvl (2 * m) ≤ 4 := by
  rcases h with rfl | rfl | rfl <;> decide

def SA (m : Nat) (f z : Nat → Int) (i : Nat) : List Int := gen m fun j => if m - 1 - j < i then f (m - 1 - j) else z j
def SB (m : Nat) (g z : Nat → Int) (i : Nat) : List Int := gen m fun j => if j < i then g j else z j
theorem SA_length (m : Nat) (f z : Nat → Int) (i : Nat) : (SA m f z i).length = m := gen_length _ _
theorem SB_length (m : Nat) (g z : Nat → Int) (i : Nat) : (SB m g z i).length = m := gen_length _ _
theorem SA_zero (m : Nat) (f z : Nat → Int) : SA m f z 0 = gen m z := gen_congr fun j _ => if_neg (by omega)
theorem SB_zero (m : Nat) (f z : Nat → Int) : SB m f z 0 = gen m z := gen_congr fun j _ => if_neg (by omega)
theorem SA_end (m : Nat) (f z : Nat → Int) : SA m f z m = gen m fun j => f (m - 1 - j) := gen_congr fun j _ => if_pos (by omega)
theorem SB_end (m : Nat) (f z : Nat → Int) : SB m f z m = gen m f := gen_congr fun j hj => if_pos hj
theorem SA_at (m : Nat) (f z : Nat → Int) {i : Nat} (h : i < m) : rd (SA m f z i) ((m - 1 - i : Nat) : Int) = z (m - 1 - i) := by
  unfold SA; rw [rd_gen _ _ (by omega), if_neg (by omega)]
theorem SB_at (m : Nat) (f z : Nat → Int) {i : Nat} (h : i < m) : rd (SB m f z i) (i : Int) = z i := by
  unfold SB; rw [rd_gen _ _ (by omega), if_neg (by omega)]
theorem SA_step (m : Nat) (f z : Nat → Int) {i : Nat} (h : i < m) : (SA m f z i).set (m - 1 - i) (f i) = SA m f z (i + 1) := by
  refine ext_rd (by rw [List.length_set, SA_length, SA_length]) ?_
  intro j hj
  rw [List.length_set, SA_length] at hj
  rw [rd_set _ _ (by rw [SA_length]; omega)]
  unfold SA
  rw [rd_gen _ _ hj, rd_gen _ _ hj]
  by_cases e : j = m - 1 - i
  · rw [if_pos e, if_pos (by omega), show m - 1 - j = i by omega]
  · rw [if_neg e]
    by_cases g : m - 1 - j < i
    · rw [if_pos g, if_pos (by omega)]
    · rw [if_neg g, if_neg (by omega)]
theorem SB_step (m : Nat) (f z : Nat → Int) {i : Nat} (h : i < m) : (SB m f z i).set i (f i) = SB m f z (i + 1) := by
  refine ext_rd (by rw [List.length_set, SB_length, SB_length]) ?_
  intro j hj
  rw [List.length_set, SB_length] at hj
  rw [rd_set _ _ (by rw [SB_length]; omega)]
  unfold SB
  rw [rd_gen _ _ hj, rd_gen _ _ hj]
  by_cases e : j = i
  · rw [if_pos e, if_pos (by omega), e]
  · rw [if_neg e]
    by_cases g : j < i
    · rw [if_pos g, if_pos (by omega)]
    · rw [if_neg g, if_neg (by omega)]
/-- What a seam tells, by what each step tells. -/
def seamA (m : Nat) (F : Nat → Int × Int) : List Int := gen m fun j => (F (m - 1 - j)).1
def seamB (m : Nat) (F : Nat → Int × Int) : List Int := gen m fun j => (F j).2
theorem seamA_length (m : Nat) (F : Nat → Int × Int) : (seamA m F).length = m := gen_length _ _
theorem seamB_length (m : Nat) (F : Nat → Int × Int) : (seamB m F).length = m := gen_length _ _
theorem idxS {m i : Nat} (hm : m ≤ 8) (hi : i < m) : wrap64 (wrap64 ((m : Int) - 1) - (i : Int)) = ((m - 1 - i : Nat) : Int) := by
  rw [w64 (x := (m : Int) - 1) (by omega) (by omega), w64 (by omega) (by omega)]; omega
def stB (m : Nat) (a b : List Int) (i : Nat) : Int × Int := backS (2 * m) i (rd a ((m - 1 - i : Nat) : Int)) (rd b (i : Int))
def stF (m : Nat) (a b : List Int) (i : Nat) : Int × Int := forthS (2 * m) i (rd a ((m - 1 - i : Nat) : Int)) (rd b (i : Int))
theorem validS {m i : Nat} (hm : m = 2 ∨ m = 4 ∨ m = 8) (hi : i < m) : Valid ((2 * m : Nat) : Int) (i : Int) := by
  unfold Valid; omega
theorem Bd_seam {m : Nat} {F : Nat → Int × Int} {M : Int} (h0 : 0 ≤ M) (h : ∀ i, i < m → (-M ≤ (F i).1 ∧ (F i).1 ≤ M) ∧ (-M ≤ (F i).2 ∧ (F i).2 ≤ M)) : Bd M (seamA m F) ∧ Bd M (seamB m F) :=
  ⟨Bd_gen h0 fun j hj => (h (m - 1 - j) (by omega)).1, Bd_gen h0 fun j hj => (h j hj).2⟩
theorem Bd_append {N : Int} (h0 : 0 ≤ N) {xs ys : List Int} (hx : Bd N xs) (hy : Bd N ys) : Bd N (xs ++ ys) := by
  intro j
  by_cases h : j < xs.length
  · have := hx j
    rw [rd_nat] at this ⊢
    rw [List.getD_eq_getElem?_getD] at this ⊢
    rwa [List.getElem?_append_left h]
  · have := hy (j - xs.length)
    rw [rd_nat] at this ⊢
    rw [List.getD_eq_getElem?_getD] at this ⊢
    rwa [List.getElem?_append_right (by omega)]
theorem Bd_take {N : Int} (h0 : 0 ≤ N) {xs : List Int} (n : Nat) (hx : Bd N xs) : Bd N (xs.take n) := by
  intro j
  have := hx j
  rw [rd_nat, List.getD_eq_getElem?_getD] at this ⊢
  rw [List.getElem?_take]
  split
  · exact this
  · exact ⟨by show -N ≤ (0 : Int); omega, h0⟩
theorem Bd_drop {N : Int} {xs : List Int} (n : Nat) (hx : Bd N xs) : Bd N (xs.drop n) := by
  intro j
  have := hx (n + j)
  rw [rd_nat, List.getD_eq_getElem?_getD] at this ⊢
  rwa [List.getElem?_drop]

theorem iSeam_l0 {m : Nat} (hm : m ≤ 8) (S : Int → Int → Int → Option (Int × Int)) (F : Nat → Int × Int) (za zb : Nat → Int) (h : ∀ i, i < m → S (i : Int) (za (m - 1 - i)) (zb i) = some (F i)) : ∀ (d i K : Nat), i + d = m → d < K →
    impl_seam.l0 K S (SA m (fun i => (F i).1) za i) (SB m (fun i => (F i).2) zb i) (m : Int) (i : Int) = some (seamA m F, seamB m F) := by
  intro d
  induction d with
  | zero =>
    intro i K hi hK
    obtain ⟨K, rfl⟩ : ∃ q, K = q + 1 := ⟨K - 1, by omega⟩
    obtain rfl : i = m := by omega
    rw [impl_seam.l0, if_neg (by omega), SA_end, SB_end]; rfl
  | succ d ih =>
    intro i K hi hK
    obtain ⟨K, rfl⟩ : ∃ q, K = q + 1 := ⟨K - 1, by omega⟩
    have ix := idxS hm (show i < m by omega)
    rw [impl_seam.l0, SA_length, SB_length, ix, SA_at _ _ _ (by omega), SB_at _ _ _ (by omega), h i (by omega)]
    rw [if_pos (by omega), if_pos (by omega), if_pos (by omega), if_pos (by omega), if_pos (by omega), bindS, Int.toNat_natCast, Int.toNat_natCast, w64_succ i (by omega)]
    have e1 := SA_step m (fun i => (F i).1) za (i := i) (by omega)
    have e2 := SB_step m (fun i => (F i).2) zb (i := i) (by omega)
    rw [e1, e2]
    exact ih (i + 1) K (by omega) (by omega)
theorem iSeam {m : Nat} (hm : m ≤ 8) (S : Int → Int → Int → Option (Int × Int)) (F : Nat → Int × Int) (a b : List Int) (ha : a.length = m) (hb : b.length = m) (h : ∀ i : Nat, i < m → S (i : Int) (rd a ((m - 1 - i : Nat) : Int)) (rd b (i : Int)) = some (F i)) (K : Nat) (hK : 20 ≤ K) :
    impl_seam.f K a b S = some (seamA m F, seamB m F) := by
  unfold impl_seam.f
  rw [cloneI_eq a (by omega), bindS, cloneI_eq b (by omega), bindS, hb]
  have := iSeam_l0 hm S F (fun j => rd a (j : Int)) (fun j => rd b (j : Int)) h m 0 K (by omega) (by omega)
  rw [SA_zero, SB_zero, gen_rd a ha, gen_rd b hb] at this
  exact this

theorem zeros_eq {m : Nat} (hm : m ≤ 1000) : spec_l1Zeros.f (m : Int) = some (gen m fun _ => 0) := by
  unfold spec_l1Zeros.f
  rw [if_pos (by omega), Int.toNat_natCast, if_pos (by omega), zeros_gen]
theorem sSeam_l0 {m : Nat} (hm : m ≤ 8) (s : Int) (x : Bool) (F : Nat → Int × Int) (a b : List Int) (ha : a.length = m) (hb : b.length = m)
    (h : ∀ i : Nat, i < m → (if x = true then spec_l5Back.f s (i : Int) (rd a ((m - 1 - i : Nat) : Int)) (rd b (i : Int)) else spec_l5Turn.f s (i : Int) (rd a ((m - 1 - i : Nat) : Int)) (rd b (i : Int))) = some (F i)) : ∀ (d i K : Nat), i + d = m → d < K →
    spec_l7Seam.l0 K s a b x (m : Int) (SA m (fun i => (F i).1) (fun _ => 0) i) (SB m (fun i => (F i).2) (fun _ => 0) i) (i : Int) = some (seamA m F, seamB m F) := by
  intro d
  induction d with
  | zero =>
    intro i K hi hK
    obtain ⟨K, rfl⟩ : ∃ q, K = q + 1 := ⟨K - 1, by omega⟩
    obtain rfl : i = m := by omega
    rw [spec_l7Seam.l0, if_neg (by omega), SA_end, SB_end]; rfl
  | succ d ih =>
    intro i K hi hK
    obtain ⟨K, rfl⟩ : ∃ q, K = q + 1 := ⟨K - 1, by omega⟩
    have ix := idxS hm (show i < m by omega)
    have e1 := SA_step m (fun i => (F i).1) (fun _ => 0) (i := i) (by omega)
    have e2 := SB_step m (fun i => (F i).2) (fun _ => 0) (i := i) (by omega)
    have hh := h i (by omega)
    have ih' := ih (i + 1) K (by omega) (by omega)
    rw [spec_l7Seam.l0, SA_length, SB_length, ix]
    cases x with
    | true =>
      rw [if_pos rfl] at hh
      rw [hh]
      rw [if_pos (by omega), if_pos rfl, if_pos (by omega), if_pos (by omega), if_pos (by omega), if_pos (by omega), bindS, if_pos (by omega), if_pos (by omega), Int.toNat_natCast, Int.toNat_natCast, w64_succ i (by omega), e1, e2]
      exact ih'
    | false =>
      rw [if_neg (by decide)] at hh
      rw [hh]
      rw [if_pos (by omega), if_neg (by decide), if_pos (by omega), if_pos (by omega), if_pos (by omega), if_pos (by omega), bindS, if_pos (by omega), if_pos (by omega), Int.toNat_natCast, Int.toNat_natCast, w64_succ i (by omega), e1, e2]
      exact ih'
theorem sSeam {m : Nat} (hm : m ≤ 8) (x : Bool) (F : Nat → Int × Int) (a b : List Int) (ha : a.length = m) (hb : b.length = m)
    (h : ∀ i : Nat, i < m → (if x = true then spec_l5Back.f ((2 * m : Nat) : Int) (i : Int) (rd a ((m - 1 - i : Nat) : Int)) (rd b (i : Int)) else spec_l5Turn.f ((2 * m : Nat) : Int) (i : Int) (rd a ((m - 1 - i : Nat) : Int)) (rd b (i : Int))) = some (F i)) (K : Nat) (hK : 20 ≤ K) :
    spec_l7Seam.f K ((2 * m : Nat) : Int) a b x = some (seamA m F, seamB m F) := by
  unfold spec_l7Seam.f
  rw [halfI hm, zeros_eq (by omega), bindS, bindS]
  have := sSeam_l0 hm _ x F a b ha hb h m 0 K (by omega) (by omega)
  rw [SA_zero, SB_zero] at this
  exact this

theorem sUnite {m : Nat} (hm : Sz m) {s d : List Int} (hs : s.length = m) (hd : d.length = m) {N : Int} (hN : 0 ≤ N) (hN2 : N ≤ 200000000000000) (h1 : Bd N s) (h2 : Bd N d) (k : Nat) (hk : 40 ≤ k) : spec_l6Unite.f k s d = some (uniteM backS pf s d) := by
  have hb := Bd_back hm hd (M := 5 * N) hN (by omega) h2
  refine spec_unite_eq backS pf s d m hm.le.2 hm.le.1 hs hd ?_ ?_ k hk
  · intro i hi
    have b1 := h2 i
    have b2 := h2 (m - 1 - i)
    exact l5Back_eq (valid_of hm hi) _ _ (by omega) (by omega)
  · intro i hi
    have b1 := h1 i
    have b2 := hb i
    exact l5Part_eq _ _ (by omega) (by omega)
theorem samples1_eq {s n : Int} (hv : Valid s n) (a b : Int) (ha : -1125899906842624 ≤ a ∧ a ≤ 1125899906842624) (hb : -1125899906842624 ≤ b ∧ b ≤ 1125899906842624) : impl_samples_1.f s n a b = some (back (pu s n).1 (pu s n).2 a b) := by
  unfold impl_samples_1.f
  obtain ⟨e, hp, hu⟩ := turnOf_eq hv
  rw [e]
  simp only [Option.bind_some]
  rw [turn_back_eq _ _ _ _ hp hu ha hb]; rfl
theorem iUnite {m : Nat} (hm : Sz m) {s d : List Int} (hs : s.length = m) (hd : d.length = m) {N : Int} (hN : 0 ≤ N) (hN2 : N ≤ 200000000000000) (h1 : Bd N s) (h2 : Bd N d) (k : Nat) (hk : 40 ≤ k) : ∃ e, impl_undo_unite.f k impl_samples_1.f impl_part.f s d = some (uniteM backS pf s d, e) := by
  have hb := Bd_back hm hd (M := 5 * N) hN (by omega) h2
  refine ⟨_, impl_unite_eq impl_samples_1.f impl_part.f backS pf s d m hm.le.2 hs hd ?_ ?_ k hk⟩
  · intro i hi
    have b1 := h2 i
    have b2 := h2 (m - 1 - i)
    exact samples1_eq (valid_of hm hi) _ _ (by omega) (by omega)
  · intro i hi
    have b1 := h1 i
    have b2 := hb i
    exact part_eq _ _ (by omega) (by omega)

theorem iGather_l0 (S0 : Int → Int → Int → Int → Option (Int × Int)) (S1 : Int → Int → Option (Int × Int)) (c : List Int) (m : Nat) (hc : c.length = 2 * m) (hm : m ≤ 8) : ∀ (dd i k K : Nat), i + dd = m → K = k + 2 * dd + 1 →
    impl_undo_gather.l0 K (gen i fun j => rd c ((2 * j : Nat) : Int)) (gen i fun j => rd c ((2 * j + 1 : Nat) : Int)) c (c.length : Int) ((2 * i : Nat) : Int) S0 S1 = (impl_undo_gather.f k S0 S1 (evens c)).bind fun a => (impl_undo_gather.f k S0 S1 (odds c)).bind fun b => (impl_undo_unite.f k S0 S1 a b).bind fun t => some t.1 := by
  intro dd
  induction dd with
  | zero =>
    intro i k K hi hK
    obtain rfl : K = k + 1 := by omega
    simp only [impl_undo_gather.l0]
    rw [if_neg (by omega)]
    unfold evens odds
    rw [hc, show 2 * m / 2 = i by omega]
  | succ dd ih =>
    intro i k K hi hK
    obtain ⟨K, rfl⟩ : ∃ q, K = q + 1 := ⟨K - 1, by omega⟩
    have t0 : Int.tmod ((2 * i : Nat) : Int) 2 = 0 := by rw [tmod_pos (by omega)]; omega
    have t1 : ¬ Int.tmod ((2 * i + 1 : Nat) : Int) 2 = 0 := by rw [tmod_pos (by omega)]; omega
    rw [impl_undo_gather.l0]
    rw [if_pos (by omega), if_pos (by omega), if_pos (by omega), if_pos t0, gen_length, if_pos (by omega), w64_succ _ (by omega)]
    obtain ⟨K, rfl⟩ : ∃ q, K = q + 1 := ⟨K - 1, by omega⟩
    rw [impl_undo_gather.l0]
    rw [if_pos (by omega), if_pos (by omega), if_pos (by omega), if_neg t1, gen_length, if_pos (by omega), w64_succ _ (by omega)]
    have := ih (i + 1) k K (by omega) (by omega)
    rw [gen_succ, gen_succ] at this
    exact this

theorem pow4 (L : Nat) (hL : L ≤ 4) : 1 ≤ 2 ^ L ∧ 2 ^ L ≤ 16 := ⟨Nat.two_pow_pos L, Nat.pow_le_pow_right (by omega) hL⟩
theorem Sz_pow (L : Nat) (hL : L ≤ 3) : Sz (2 ^ L) := by
  unfold Sz
  match L, hL with
  | 0, _ => exact .inl rfl
  | 1, _ => exact .inr (.inl rfl)
  | 2, _ => exact .inr (.inr (.inl rfl))
  | 3, _ => exact .inr (.inr (.inr rfl))
theorem evens_length (c : List Int) : (evens c).length = c.length / 2 := gen_length _ _
theorem odds_length (c : List Int) : (odds c).length = c.length / 2 := gen_length _ _
theorem Bd_gather : ∀ (L : Nat) (c : List Int) (N : Int), L ≤ 4 → c.length = 2 ^ L → 1 ≤ N → Bd N c → Bd (4 ^ L * N) (gatherM backS pf L c) := by
  intro L
  induction L with
  | zero => intro c N _ _ _ h; rw [gatherM]; simpa using h
  | succ L ih =>
    intro c N hL hc hN h
    rw [Nat.pow_succ] at hc
    have e1 : (evens c).length = 2 ^ L := by rw [evens_length]; omega
    have e2 : (odds c).length = 2 ^ L := by rw [odds_length]; omega
    have b1 := ih (evens c) N (by omega) e1 hN (Bd_evens (by omega) h)
    have b2 := ih (odds c) N (by omega) e2 hN (Bd_odds (by omega) h)
    have hp : (1 : Int) ≤ 4 ^ L := Int.pow_pos (show (0 : Int) < 4 by decide)
    have hpN : 1 ≤ (4 : Int) ^ L * N := by have := Int.mul_le_mul_of_nonneg_right hp (show 0 ≤ N by omega); omega
    have := Bd_unite (Sz_pow L (by omega)) (gatherM_length backS pf L _ e1) (gatherM_length backS pf L _ e2) hpN b1 b2
    rw [gatherM]
    rwa [← Int.mul_assoc, Int.mul_comm 4 ((4 : Int) ^ L), ← Int.pow_succ] at this

theorem sGather_l0 (c : List Int) (m : Nat) (hc : c.length = 2 * m) (hm : m ≤ 8) : ∀ (dd i k K : Nat), i + dd = m → K = k + dd + 1 →
    spec_l6Gather.l0 K c (gen i fun j => rd c ((2 * j : Nat) : Int)) (gen i fun j => rd c ((2 * j + 1 : Nat) : Int)) ((2 * i : Nat) : Int) = (spec_l6Gather.f k (evens c)).bind fun a => (spec_l6Gather.f k (odds c)).bind fun b => (spec_l6Unite.f k a b).bind fun t => some t := by
  intro dd
  induction dd with
  | zero =>
    intro i k K hi hK
    obtain rfl : K = k + 1 := by omega
    simp only [spec_l6Gather.l0]
    rw [w64_succ _ (by omega), if_neg (by omega)]
    unfold evens odds
    rw [hc, show 2 * m / 2 = i by omega]
  | succ dd ih =>
    intro i k K hi hK
    obtain ⟨K, rfl⟩ : ∃ q, K = q + 1 := ⟨K - 1, by omega⟩
    simp only [spec_l6Gather.l0, gen_length]
    have e2 : wrap64 (((2 * i : Nat) : Int) + 2) = ((2 * (i + 1) : Nat) : Int) := by rw [w64 (by omega) (by omega)]; omega
    rw [w64_succ _ (by omega), e2, if_pos (by omega), if_pos (by omega), if_pos (by omega), if_pos (by omega), if_pos (by omega), if_pos (by omega)]
    have := ih (i + 1) k K (by omega) (by omega)
    rw [gen_succ, gen_succ] at this
    exact this
theorem sGather : ∀ (L : Nat) (c : List Int) (N : Int) (k : Nat), L ≤ 4 → c.length = 2 ^ L → 1 ≤ N → Bd N c → 4 ^ L * N ≤ 200000000000000 → 60 + 20 * L ≤ k → spec_l6Gather.f k c = some (gatherM backS pf L c) := by
  intro L
  induction L with
  | zero =>
    intro c N k _ hc _ _ _ hk
    obtain ⟨k, rfl⟩ : ∃ q, k = q + 1 := ⟨k - 1, by omega⟩
    simp only [spec_l6Gather.f]
    rw [if_pos (by rw [hc]; rfl), l1Ints_eq c (by rw [hc]; decide)]
    rfl
  | succ L ih =>
    intro c N k hL hc hN h hb hk
    obtain ⟨k, rfl⟩ : ∃ q, k = q + 1 := ⟨k - 1, by omega⟩
    have hp2 := pow4 L (by omega)
    have hpw : (2 : Nat) ^ (L + 1) = 2 * 2 ^ L := by rw [Nat.pow_succ]; omega
    have hp8 : 2 ^ L ≤ 8 := by
      have := Nat.pow_le_pow_right (n := 2) (by omega) (show L ≤ 3 by omega)
      exact this
    rw [hpw] at hc
    have e1 : (evens c).length = 2 ^ L := by rw [evens_length]; omega
    have e2 : (odds c).length = 2 ^ L := by rw [odds_length]; omega
    have hp : (1 : Int) ≤ 4 ^ L := Int.pow_pos (show (0 : Int) < 4 by decide)
    have hpN : 1 ≤ (4 : Int) ^ L * N := by have := Int.mul_le_mul_of_nonneg_right hp (show 0 ≤ N by omega); omega
    have hb' : 4 * ((4 : Int) ^ L * N) ≤ 200000000000000 := by rw [← Int.mul_assoc, Int.mul_comm 4 ((4 : Int) ^ L), ← Int.pow_succ]; exact hb
    have b1 := Bd_gather L (evens c) N (by omega) e1 hN (Bd_evens (by omega) h)
    have b2 := Bd_gather L (odds c) N (by omega) e2 hN (Bd_odds (by omega) h)
    have l1 := gatherM_length backS pf L _ e1
    have l2 := gatherM_length backS pf L _ e2
    have g1 := ih (evens c) N (k - 2 ^ L - 1) (by omega) e1 hN (Bd_evens (by omega) h) (by omega) (by omega)
    have g2 := ih (odds c) N (k - 2 ^ L - 1) (by omega) e2 hN (Bd_odds (by omega) h) (by omega) (by omega)
    have g3 := sUnite (Sz_pow L (by omega)) l1 l2 (by omega) (by omega) b1 b2 (k - 2 ^ L - 1) (by omega)
    have g0 := sGather_l0 c (2 ^ L) hc hp8 (2 ^ L) 0 (k - 2 ^ L - 1) k (by omega) (by omega)
    simp only [spec_l6Gather.f]
    rw [if_neg (by omega)]
    refine Eq.trans g0 ?_
    simp only [g1, g2, g3, bindS]
    rw [gatherM]

theorem iGather : ∀ (L : Nat) (c : List Int) (N : Int) (k : Nat), L ≤ 4 → c.length = 2 ^ L → 1 ≤ N → Bd N c → 4 ^ L * N ≤ 200000000000000 → 60 + 30 * L ≤ k → impl_undo_gather.f k impl_samples_1.f impl_part.f c = some (gatherM backS pf L c) := by
  intro L
  induction L with
  | zero =>
    intro c N k _ hc _ _ _ hk
    obtain ⟨k, rfl⟩ : ∃ q, k = q + 1 := ⟨k - 1, by omega⟩
    have hc1 : c.length = 1 := hc
    simp only [impl_undo_gather.f]
    rw [if_pos (by omega), if_pos (by omega), gatherM]
    match c, hc1 with
    | [x], _ => rfl
  | succ L ih =>
    intro c N k hL hc hN h hb hk
    obtain ⟨k, rfl⟩ : ∃ q, k = q + 1 := ⟨k - 1, by omega⟩
    have hp2 := pow4 L (by omega)
    have hpw : (2 : Nat) ^ (L + 1) = 2 * 2 ^ L := by rw [Nat.pow_succ]; omega
    have hp8 : 2 ^ L ≤ 8 := by
      have := Nat.pow_le_pow_right (n := 2) (by omega) (show L ≤ 3 by omega)
      exact this
    rw [hpw] at hc
    have e1 : (evens c).length = 2 ^ L := by rw [evens_length]; omega
    have e2 : (odds c).length = 2 ^ L := by rw [odds_length]; omega
    have hp : (1 : Int) ≤ 4 ^ L := Int.pow_pos (show (0 : Int) < 4 by decide)
    have hpN : 1 ≤ (4 : Int) ^ L * N := by have := Int.mul_le_mul_of_nonneg_right hp (show 0 ≤ N by omega); omega
    have hb' : 4 * ((4 : Int) ^ L * N) ≤ 200000000000000 := by rw [← Int.mul_assoc, Int.mul_comm 4 ((4 : Int) ^ L), ← Int.pow_succ]; exact hb
    have b1 := Bd_gather L (evens c) N (by omega) e1 hN (Bd_evens (by omega) h)
    have b2 := Bd_gather L (odds c) N (by omega) e2 hN (Bd_odds (by omega) h)
    have l1 := gatherM_length backS pf L _ e1
    have l2 := gatherM_length backS pf L _ e2
    have g1 := ih (evens c) N (k - 2 * 2 ^ L - 1) (by omega) e1 hN (Bd_evens (by omega) h) (by omega) (by omega)
    have g2 := ih (odds c) N (k - 2 * 2 ^ L - 1) (by omega) e2 hN (Bd_odds (by omega) h) (by omega) (by omega)
    obtain ⟨e, g3⟩ := iUnite (Sz_pow L (by omega)) l1 l2 (by omega) (by omega) b1 b2 (k - 2 * 2 ^ L - 1) (by omega)
    have g0 := iGather_l0 impl_samples_1.f impl_part.f c (2 ^ L) hc hp8 (2 ^ L) 0 (k - 2 * 2 ^ L - 1) k (by omega) (by omega)
    simp only [impl_undo_gather.f]
    rw [if_neg (by omega)]
    refine Eq.trans g0 ?_
    simp only [g1, g2, g3, bindS]
    rw [gatherM]

theorem pow_top (L : Nat) (hL : L ≤ 4) : (4 : Int) ^ L * 16777216 ≤ 200000000000000 := by
  match L, hL with
  | 0, _ => decide
  | 1, _ => decide
  | 2, _ => decide
  | 3, _ => decide
  | 4, _ => decide
theorem gatherFault_eq (xs : List Int) (k : Nat) (hk : 100 ≤ k) : impl_gatherFault.f k xs = some (if sizeF (xs.length : Int) = 0 then (if allIn (-16777216) 16777216 xs = true then 0 else 3) else 2) := by
  have w1 : impl_allWithin.f xs 16777216 = some (allIn (-16777216) 16777216 xs) := allWithin_eq xs 16777216 (by omega) (by omega)
  have hf : ∀ p q : Int, impl_first.f k [p, q] = some (nz [p, q]) := fun p q => first_eq _ (by simp) k (by simp; omega)
  unfold impl_gatherFault.f impl_isBlock.f
  simp only [impl_SizeFault_eq, bindS, w1, codeIf_eq, hf, nz]
  by_cases h : sizeF (xs.length : Int) = 0
  · by_cases h1 : allIn (-16777216) 16777216 xs = true <;> simp [h, h1]
  · by_cases h1 : allIn (-16777216) 16777216 xs = true <;> simp [h, h1]

theorem Bf_halveD {m : Nat} (hm : Sz m) {xs : List Int} (hx : xs.length = 2 * m) {N : Int} (h0 : 12 ≤ N) (h : Bd N xs) : Bd (3 * N) (halveD xs) := by
  unfold halveD
  rw [show xs.length / 2 / 2 = m / 2 by omega, hx]
  exact Bf_forth hm (by rw [halveD0_length]; omega) (N := 2 * N) (by omega) (by omega) (Bd_halveD0 (by omega) h)
theorem Bf_spread : ∀ (L : Nat) (c : List Int) (N : Int), L ≤ 4 → c.length = 2 ^ L → 12 ≤ N → Bd N c → Bd (3 ^ L * N) (spreadM L c) := by
  intro L
  induction L with
  | zero => intro c N _ _ _ h; rw [spreadM]; simpa using h
  | succ L ih =>
    intro c N hL hc hN h
    rw [Nat.pow_succ] at hc
    have l1 : (halveS c).length = 2 ^ L := by rw [halveS_length]; omega
    have l2 : (halveD c).length = 2 ^ L := by rw [halveD_length]; omega
    have b1 : Bd (3 * N) (halveS c) := (Bd_halveS (by omega) h).mono (by omega)
    have b2 : Bd (3 * N) (halveD c) := Bf_halveD (Sz_pow' L (by omega)) (by omega) hN h
    have g1 := ih (halveS c) (3 * N) (by omega) l1 (by omega) b1
    have g2 := ih (halveD c) (3 * N) (by omega) l2 (by omega) b2
    have hp : (1 : Int) ≤ 3 ^ L := Int.pow_pos (show (0 : Int) < 3 by decide)
    have e : (3 : Int) ^ (L + 1) * N = 3 ^ L * (3 * N) := by rw [Int.pow_succ, Int.mul_assoc]
    have hn : (0 : Int) ≤ 3 ^ L * (3 * N) := Int.mul_nonneg (by omega) (by omega)
    rw [spreadM, e]
    unfold zipM
    refine Bd_gen hn (fun j _ => ?_)
    by_cases q : j % 2 = 0
    · rw [if_pos q]; exact g1 _
    · rw [if_neg q]; exact g2 _
theorem all_Bd {N M : Int} {xs : List Int} (h : Bd N xs) (hM : N ≤ M) : allIn (-M) M xs = true := by
  rw [allIn_iff]
  intro x hx
  obtain ⟨i, hi, rfl⟩ := List.mem_iff_getElem.1 hx
  have := h i
  rw [rd_get xs i hi] at this
  omega

theorem lwNums_l0 (xs : List Int) (hn : xs.length ≤ 1000000) : ∀ (d i k : Nat), i + d = xs.length → d < k → laws_lwNums.l0 k xs xs (i : Int) = some true := by
  intro d
  induction d with
  | zero =>
    intro i k hi hk
    obtain ⟨k, rfl⟩ : ∃ m, k = m + 1 := ⟨k - 1, by omega⟩
    simp only [laws_lwNums.l0]
    rw [if_neg (by omega)]
  | succ d ih =>
    intro i k hi hk
    obtain ⟨k, rfl⟩ : ∃ m, k = m + 1 := ⟨k - 1, by omega⟩
    simp only [laws_lwNums.l0]
    rw [if_pos (by omega), if_pos (by omega), if_pos (by omega), if_pos trivial, w64_succ _ (by omega)]
    exact ih (i + 1) k (by omega) (by omega)
theorem lwNums_refl (xs : List Int) (hn : xs.length ≤ 1000000) (k : Nat) (hk : xs.length < k) : laws_lwNums.f k xs xs = some true := by
  unfold laws_lwNums.f
  rw [if_pos rfl]
  exact lwNums_l0 xs hn xs.length 0 k (by omega) hk

theorem drawList_l0 {c : List Int} (hc : Bytes c) (b : Int) (hb0 : 0 ≤ b) (hb1 : b ≤ 1000000) : ∀ (d : Nat) (at' : Int) (xs : List Int) (k : Nat), d < k → 0 ≤ at' → at' + d ≤ 1073741824 → xs.length + d ≤ 1000000 →
    ∃ ys, spec_l1DrawList.l0 k (d : Int) b xs c at' = some (ys, at' + d) ∧ ys.length = xs.length + d := by
  intro d
  induction d with
  | zero =>
    intro at' xs k hk h0 h1 hl
    obtain ⟨k, rfl⟩ : ∃ q, k = q + 1 := ⟨k - 1, by omega⟩
    refine ⟨xs, ?_, rfl⟩
    simp only [spec_l1DrawList.l0]
    rw [if_neg (by omega)]; simp
  | succ d ih =>
    intro at' xs k hk h0 h1 hl
    obtain ⟨k, rfl⟩ : ∃ q, k = q + 1 := ⟨k - 1, by omega⟩
    obtain ⟨v, e, _⟩ := l1Signed_ok hc at' b h0 (by omega) hb0 (by omega)
    obtain ⟨ys, h2, h4⟩ := ih (at' + 1) (xs ++ [v]) k (by omega) (by omega) (by omega) (by simp; omega)
    refine ⟨ys, ?_, by rw [h4]; simp; omega⟩
    simp only [spec_l1DrawList.l0]
    rw [if_pos (by omega), e]
    simp only [Option.bind_some]
    rw [if_pos (by omega), w64 (by omega) (by omega), show ((d + 1 : Nat) : Int) - 1 = (d : Int) by omega, h2]
    rw [show at' + 1 + (d : Int) = at' + ((d + 1 : Nat) : Int) by omega]
theorem drawList_ok {c : List Int} (hc : Bytes c) (n : Nat) (b at' : Int) (k : Nat) (hk : n < k) (hb0 : 0 ≤ b) (hb1 : b ≤ 1000000) (h0 : 0 ≤ at') (h1 : at' + n ≤ 1073741824) (hn : n ≤ 1000000) :
    ∃ ys, spec_l1DrawList.f k c at' (n : Int) b = some (ys, at' + n) ∧ ys.length = n := by
  obtain ⟨ys, e, hl⟩ := drawList_l0 hc b hb0 hb1 n at' [] k hk h0 h1 (by simp; omega)
  exact ⟨ys, e, by rw [hl]; simp⟩

theorem sample_Bd {xs : List Int} (h : allIn (-32768) 32767 xs = true) : Bd 32768 xs := by
  refine Bd_all (by omega) ?_
  rw [allIn_iff] at h ⊢
  intro x hx
  have := h x hx
  omega
theorem feed1_eq {s n : Int} (hv : Valid s n) (a b : Int) (ha : -1125899906842624 ≤ a ∧ a ≤ 1125899906842624) (hb : -1125899906842624 ≤ b ∧ b ≤ 1125899906842624) : impl_FeedFrame_1.f s n a b = some (forth (pu s n).1 (pu s n).2 a b) := by
  obtain ⟨e, hp, hu⟩ := turnOf_eq hv
  unfold impl_FeedFrame_1.f
  rw [e, bindS, turn_forth_eq _ _ _ _ hp hu ha hb, bindS]
/-- A lap and a frame that are right: half the size, and what the lap's lists and the frame hold. -/
structure Right (m : Nat) (x y fr : List Int) : Prop where
  m3 : m = 2 ∨ m = 4 ∨ m = 8
  lx : x.length = m
  ly : y.length = m
  lf : fr.length = 2 * m
  bx : Bd 65536 x
  by' : Bd 32768 y
  bf : Bd 32768 fr
theorem right_of {a : Int} {x y fr : List Int} (h1 : faultF a x y = 0) (h2 : sampF a fr = 0) : ∃ m, a = ((2 * m : Nat) : Int) ∧ Right m x y fr := by
  have hs : sizeF a = 0 := by
    by_cases h : sizeF a = 0
    · exact h
    · unfold faultF at h1; rw [if_neg h] at h1; exact h1
  obtain ⟨m, m3, rfl⟩ := size_m hs
  refine ⟨m, rfl, ?_⟩
  have hh : wrap64 (Int.tdiv ((2 * m : Nat) : Int) 2) = (m : Int) := halfI (by omega)
  unfold faultF at h1
  unfold sampF at h2
  rw [if_pos hs, hh] at h1
  rw [if_pos hs] at h2
  by_cases g : (x.length : Int) = (m : Int)
  · rw [if_pos g] at h1
    by_cases e : (y.length : Int) = (m : Int)
    · rw [if_pos e] at h1
      by_cases p : allIn (-65536) 65536 x = true
      · rw [if_pos p] at h1
        by_cases q : allIn (-32768) 32767 y = true
        · by_cases l : (fr.length : Int) = ((2 * m : Nat) : Int)
          · rw [if_pos l] at h2
            by_cases z : allIn (-32768) 32767 fr = true
            · exact ⟨m3, by omega, by omega, by omega, Bd_all (by omega) p, sample_Bd q, sample_Bd z⟩
            · rw [if_neg z] at h2; omega
          · rw [if_neg l] at h2; omega
        · rw [if_neg q] at h1; omega
      · rw [if_neg p] at h1; omega
    · rw [if_neg e] at h1; omega
  · rw [if_neg g] at h1; omega
/-- The step's pairs, and what a feed tells. -/
def feedF (m : Nat) (y fr : List Int) : Nat → Int × Int := stF m y (fr.take m)
theorem feedF_bd {m : Nat} {x y fr : List Int} (h : Right m x y fr) : ∀ i, i < m → (-163840 ≤ (feedF m y fr i).1 ∧ (feedF m y fr i).1 ≤ 163840) ∧ (-163840 ≤ (feedF m y fr i).2 ∧ (feedF m y fr i).2 ≤ 163840) := by
  intro i hi
  obtain ⟨_, hp, hu⟩ := turnOf_eq (validS h.m3 hi)
  exact (rot_crude (N := 32768) hp hu (by omega) (h.by' _) (Bd_take (by omega) m h.bf i)).1
def feedL (m : Nat) (x y fr : List Int) : List Int := x ++ seamA m (feedF m y fr)
theorem feedL_length {m : Nat} {x y fr : List Int} (h : Right m x y fr) : (feedL m x y fr).length = 2 * m := by
  unfold feedL; rw [List.length_append, seamA_length, h.lx]; omega
theorem feedL_bd {m : Nat} {x y fr : List Int} (h : Right m x y fr) : Bd 163840 (feedL m x y fr) :=
  Bd_append (by omega) (h.bx.mono (by omega)) (Bd_seam (by omega) (feedF_bd h)).1
theorem pow_feed (L : Nat) (hL : L ≤ 4) : (163840 : Int) * 10 ^ L ≤ 20000000000000 := by
  match L, hL with
  | 0, _ => decide
  | 1, _ => decide
  | 2, _ => decide
  | 3, _ => decide
  | 4, _ => decide
theorem spec_feed_ok {m : Nat} {x y fr : List Int} (h : Right m x y fr) (k : Nat) (hk : 1000 ≤ k) :
    spec_l7Feed.f k ((2 * m : Nat) : Int) x y fr = some (((2 * m : Nat) : Int), seamB m (feedF m y fr), fr.drop m, spreadM (lvl (2 * m)) (feedL m x y fr)) := by
  have hm8 : m ≤ 8 := by have := h.m3; omega
  have lt : (fr.take m).length = m := by rw [List.length_take, h.lf]; omega
  have ld : (fr.drop m).length = m := by rw [List.length_drop, h.lf]; omega
  have hst : ∀ i : Nat, i < m → (if false = true then spec_l5Back.f ((2 * m : Nat) : Int) (i : Int) (rd y ((m - 1 - i : Nat) : Int)) (rd (fr.take m) (i : Int)) else spec_l5Turn.f ((2 * m : Nat) : Int) (i : Int) (rd y ((m - 1 - i : Nat) : Int)) (rd (fr.take m) (i : Int))) = some (feedF m y fr i) := by
    intro i hi
    rw [if_neg (by decide)]
    have a1 := h.by' (m - 1 - i)
    have a2 := Bd_take (by omega) m h.bf i
    exact l5Turn_eq (validS h.m3 hi) _ _ (by omega) (by omega)
  have e1 := sSeam hm8 false (feedF m y fr) y (fr.take m) h.ly lt hst k (by omega)
  have e2 := sSpread (lvl (2 * m)) (feedL m x y fr) 163840 k (lvl_m h.m3).2 (by rw [feedL_length h]; exact (lvl_m h.m3).1) (by omega) (feedL_bd h) (pow_feed _ (lvl_m h.m3).2) (by have := (lvl_m h.m3).2; omega)
  unfold spec_l7Feed.f
  rw [halfI hm8, if_pos (by omega), if_pos (by have := h.lf; omega), Int.toNat_natCast, e1, bindS, l1IntsS_eq x (by have := h.lx; omega), bindS]
  simp only [seamA_length]
  rw [if_pos (by have := h.lx; omega), l1IntsS_eq _ (by omega), bindS]
  show (spec_l6Spread.f k (feedL m x y fr)).bind _ = _
  rw [e2, bindS]
theorem impl_feed_ok {m : Nat} {x y fr : List Int} (h : Right m x y fr) (h1 : faultF ((2 * m : Nat) : Int) x y = 0) (h2 : sampF ((2 * m : Nat) : Int) fr = 0) (k : Nat) (hk : 1000 ≤ k) :
    impl_FeedFrame.f k ((2 * m : Nat) : Int) x y fr = some (0, ((2 * m : Nat) : Int), seamB m (feedF m y fr), fr.drop m, spreadM (lvl (2 * m)) (feedL m x y fr)) := by
  have hm8 : m ≤ 8 := by have := h.m3; omega
  have lt : (fr.take m).length = m := by rw [List.length_take, h.lf]; omega
  have ld : (fr.drop m).length = m := by rw [List.length_drop, h.lf]; omega
  have hst : ∀ i : Nat, i < m → impl_FeedFrame_1.f ((2 * m : Nat) : Int) (i : Int) (rd y ((m - 1 - i : Nat) : Int)) (rd (fr.take m) (i : Int)) = some (feedF m y fr i) := by
    intro i hi
    have a1 := h.by' (m - 1 - i)
    have a2 := Bd_take (by omega) m h.bf i
    exact feed1_eq (validS h.m3 hi) _ _ (by omega) (by omega)
  have e1 := iSeam hm8 (impl_FeedFrame_1.f ((2 * m : Nat) : Int)) (feedF m y fr) y (fr.take m) h.ly lt hst k (by omega)
  have e2 := iSpread (lvl (2 * m)) (feedL m x y fr) 163840 k (lvl_m h.m3).2 (by rw [feedL_length h]; exact (lvl_m h.m3).1) (by omega) (feedL_bd h) (pow_feed _ (lvl_m h.m3).2) (by have := (lvl_m h.m3).2; omega)
  obtain ⟨q, hq⟩ : ∃ q, k = q + 1 + 1 + 1 + 1 + 1 + 1 := ⟨k - 6, by omega⟩
  have e3 := concatI_eq x (seamA m (feedF m y fr)) (by rw [seamA_length]; have := h.lx; omega) q
  rw [← hq] at e3
  have hf : impl_first.f k [0, 0] = some 0 := first_eq [0, 0] (by simp) k (by simp; omega)
  unfold impl_FeedFrame.f
  rw [impl_fault_eq _ x y k (by omega), h1, bindS, impl_SamplesFault_eq _ fr k (by omega), h2, bindS, hf, bindS, if_pos rfl, halfI hm8, if_pos (by omega), if_pos (by have := h.lf; omega), Int.toNat_natCast, e1, bindS]
  simp only
  rw [e3, bindS]
  show (impl_spread.f k (feedL m x y fr)).bind _ = _
  rw [e2, bindS, cloneI_eq _ (by omega), bindS]
theorem rot_fine {m i : Nat} (m3 : m = 2 ∨ m = 4 ∨ m = 8) (hi : i < m) {a b : Int} (ha : -32768 ≤ a ∧ a ≤ 32768) (hb : -32768 ≤ b ∧ b ≤ 32768) :
    (-49152 ≤ (forthS (2 * m) i a b).1 ∧ (forthS (2 * m) i a b).1 ≤ 49152) ∧ (-49152 ≤ (forthS (2 * m) i a b).2 ∧ (forthS (2 * m) i a b).2 ≤ 49152) := by
  have := (rot_both (validS m3 hi) (N := 32768) (by omega) ha hb).1
  unfold forthS
  omega
theorem seam_fine {m : Nat} (m3 : m = 2 ∨ m = 4 ∨ m = 8) {y f : List Int} (hy : Bd 32768 y) (hf : Bd 32768 f) : Bd 49152 (seamA m (stF m y f)) ∧ Bd 49152 (seamB m (stF m y f)) :=
  Bd_seam (by omega) fun i hi => rot_fine m3 hi (hy _) (hf _)
def Smp (n : Nat) (xs : List Int) : Prop := xs.length = n ∧ ∀ v ∈ xs, -32768 ≤ v ∧ v ≤ 32767
theorem Smp.all {n : Nat} {xs : List Int} (h : Smp n xs) : allIn (-32768) 32767 xs = true := (allIn_iff _ _ _).2 h.2
theorem Smp.bd {n : Nat} {xs : List Int} (h : Smp n xs) : Bd 32768 xs := sample_Bd h.all
theorem Smp.take {m : Nat} {xs : List Int} (h : Smp (2 * m) xs) : Smp m (xs.take m) := ⟨by rw [List.length_take, h.1]; omega, fun v hv => h.2 v (List.mem_of_mem_take hv)⟩
theorem Smp.drop {m : Nat} {xs : List Int} (h : Smp (2 * m) xs) : Smp m (xs.drop m) := ⟨by rw [List.length_drop, h.1]; omega, fun v hv => h.2 v (List.mem_of_mem_drop hv)⟩
theorem Smp.zero (m : Nat) : Smp m (List.replicate m 0) := ⟨List.length_replicate, fun v hv => by rw [List.eq_of_mem_replicate hv]; omega⟩
theorem sizeM {m : Nat} (m3 : m = 2 ∨ m = 4 ∨ m = 8) : sizeF ((2 * m : Nat) : Int) = 0 := by rcases m3 with rfl | rfl | rfl <;> rfl
theorem faultF_ok {m : Nat} (m3 : m = 2 ∨ m = 4 ∨ m = 8) {x y : List Int} (lx : x.length = m) (bx : Bd 65536 x) (hy : Smp m y) : faultF ((2 * m : Nat) : Int) x y = 0 := by
  unfold faultF
  rw [if_pos (sizeM m3), halfI (by omega), if_pos (by rw [lx]), if_pos (by rw [hy.1]), if_pos (all_Bd bx (Int.le_refl _)), if_pos hy.all]
theorem pow_spread (L : Nat) (hL : L ≤ 4) : (3 : Int) ^ L * 49152 ≤ 16777216 := by
  match L, hL with
  | 0, _ => decide
  | 1, _ => decide
  | 2, _ => decide
  | 3, _ => decide
  | 4, _ => decide
theorem feed_next {m : Nat} {x y fr : List Int} (h : Right m x y fr) (h2 : sampF ((2 * m : Nat) : Int) fr = 0) : faultF ((2 * m : Nat) : Int) (seamB m (feedF m y fr)) (fr.drop m) = 0 := by
  have hs : Smp (2 * m) fr := by
    unfold sampF at h2
    rw [if_pos (sizeM h.m3), if_pos (by rw [h.lf])] at h2
    by_cases z : allIn (-32768) 32767 fr = true
    · exact ⟨h.lf, (allIn_iff _ _ _).1 z⟩
    · rw [if_neg z] at h2; omega
  have b := (seam_fine h.m3 h.by' (Bd_take (by omega) m h.bf)).2
  exact faultF_ok h.m3 (seamB_length _ _) (b.mono (by omega)) hs.drop
theorem feed_both (a : Int) (x y fr : List Int) (hx : x.length ≤ 1048576) (hy : y.length ≤ 1048576) (hf : fr.length ≤ 1048576) :
    ∃ c s nx rs cf, (nx.length ≤ 16 ∧ rs.length ≤ 16 ∧ cf.length ≤ 16 ∧ (c = 0 → faultF s nx rs = 0)) ∧ ∀ k : Nat, 2000 ≤ k → x.length < k → y.length < k → fr.length < k →
      spec_FeedFrame.f (k + 1) a x y fr = some (c, s, nx, rs, cf) ∧ impl_FeedFrame.f k a x y fr = some (c, s, nx, rs, cf) := by
  by_cases h1 : faultF a x y = 0
  · by_cases h2 : sampF a fr = 0
    · obtain ⟨m, rfl, h⟩ := right_of h1 h2
      have hm8 : m ≤ 8 := by have := h.m3; omega
      refine ⟨_, _, _, _, _, ⟨?_, ?_, ?_, fun _ => feed_next h h2⟩, fun k k1 k2 k3 k4 => ⟨?_, impl_feed_ok h h1 h2 k (by omega)⟩⟩
      · rw [seamB_length]; omega
      · rw [List.length_drop, h.lf]; omega
      · rw [spreadM_length _ _ (by rw [feedL_length h]; exact (lvl_m h.m3).1), ← (lvl_m h.m3).1]; omega
      · unfold spec_FeedFrame.f
        rw [spec_fault_eq _ x y (by omega) (by omega) k k2 k3, h1, bindS, if_pos rfl, spec_SamplesFault_eq _ fr (by omega) (k + 1) (by omega), h2, bindS, if_pos rfl, spec_feed_ok h (k + 1) (by omega), bindS]
    · refine ⟨sampF a fr, 0, [], [], [], ⟨by simp, by simp, by simp, fun h => absurd h h2⟩, fun k k1 k2 k3 k4 => ?_⟩
      have hf : impl_first.f k [0, sampF a fr] = some (sampF a fr) := by
        rw [first_eq [0, sampF a fr] (by simp) k (by simp; omega)]
        simp only [nz, if_true, if_neg h2]
      constructor
      · unfold spec_FeedFrame.f
        rw [spec_fault_eq _ x y (by omega) (by omega) k k2 k3, h1, bindS, if_pos rfl, spec_SamplesFault_eq _ fr (by omega) (k + 1) (by omega), bindS, if_neg h2]
      · unfold impl_FeedFrame.f
        rw [impl_fault_eq _ x y k (by omega), h1, bindS, impl_SamplesFault_eq _ fr k (by omega), bindS, hf, bindS, if_neg h2]
  · refine ⟨faultF a x y, 0, [], [], [], ⟨by simp, by simp, by simp, fun h => absurd h h1⟩, fun k k1 k2 k3 k4 => ?_⟩
    have hf : impl_first.f k [faultF a x y, sampF a fr] = some (faultF a x y) := by
      rw [first_eq [faultF a x y, sampF a fr] (by simp) k (by simp; omega)]
      simp only [nz, if_neg h1]
    constructor
    · unfold spec_FeedFrame.f
      rw [spec_fault_eq _ x y (by omega) (by omega) k k2 k3, bindS, if_neg h1]
    · unfold impl_FeedFrame.f
      rw [impl_fault_eq _ x y k (by omega), bindS, impl_SamplesFault_eq _ fr k (by omega), bindS, hf, bindS, if_neg h1]
theorem l6Ask_eq (xs : List Int) (hn : xs.length ≤ 1000000000) (k : Nat) (hk : xs.length < k) : spec_l6Ask.f k xs 16777216 = some (if sizeF (xs.length : Int) = 0 then (if allIn (-16777216) 16777216 xs = true then 0 else 3) else 2) := by
  have e1 : wrap64 (-16777216) = -16777216 := by unfold wrap64; decide
  unfold spec_l6Ask.f
  rw [spec_SizeFault_eq, bindS, e1]
  by_cases h : sizeF (xs.length : Int) = 0
  · rw [if_pos h, if_pos h, l1All_eq xs _ _ (by omega) k hk, bindS]
    by_cases g : allIn (-16777216) 16777216 xs = true
    · rw [if_pos g, if_pos g]
    · rw [if_neg g, if_neg g]
  · rw [if_neg h, if_neg h]
/-- A synth and a block that are right. -/
structure RightS (m : Nat) (x y c : List Int) : Prop where
  m3 : m = 2 ∨ m = 4 ∨ m = 8
  lx : x.length = m
  ly : y.length = m
  lc : c.length = 2 * m
  bx : Bd 1073741824 x
  by' : Bd 268435456 y
  bc : Bd 16777216 c
def gatherC (c : List Int) : Int := if sizeF (c.length : Int) = 0 then (if allIn (-16777216) 16777216 c = true then 0 else 3) else 2
theorem rightS_of {a : Int} {x y c : List Int} (h1 : faultS a x y = 0) (h2 : (c.length : Int) = a) (h3 : gatherC c = 0) : ∃ m, a = ((2 * m : Nat) : Int) ∧ RightS m x y c := by
  have hs : sizeF a = 0 := by
    by_cases h : sizeF a = 0
    · exact h
    · unfold faultS at h1; rw [if_neg h] at h1; exact h1
  obtain ⟨m, m3, rfl⟩ := size_m hs
  refine ⟨m, rfl, ?_⟩
  have hh : wrap64 (Int.tdiv ((2 * m : Nat) : Int) 2) = (m : Int) := halfI (by omega)
  unfold faultS at h1
  unfold gatherC at h3
  rw [if_pos hs, hh] at h1
  rw [h2, if_pos hs] at h3
  by_cases g : (x.length : Int) = (m : Int)
  · rw [if_pos g] at h1
    by_cases e : (y.length : Int) = (m : Int)
    · rw [if_pos e] at h1
      by_cases p : allIn (-1073741824) 1073741824 x = true
      · rw [if_pos p] at h1
        by_cases q : allIn (-268435456) 268435456 y = true
        · by_cases z : allIn (-16777216) 16777216 c = true
          · exact ⟨m3, by omega, by omega, by omega, Bd_all (by omega) p, Bd_all (by omega) q, Bd_all (by omega) z⟩
          · rw [if_neg z] at h3; omega
        · rw [if_neg q] at h1; omega
      · rw [if_neg p] at h1; omega
    · rw [if_neg e] at h1; omega
  · rw [if_neg g] at h1; omega
def playB (m : Nat) (c : List Int) : List Int := gatherM backS pf (lvl (2 * m)) c
def playF (m : Nat) (y c : List Int) : Nat → Int × Int := stB m y ((playB m c).take m)
theorem playB_length {m : Nat} {x y c : List Int} (h : RightS m x y c) : (playB m c).length = 2 * m := by
  unfold playB
  rw [gatherM_length _ _ _ _ (by rw [h.lc]; exact (lvl_m h.m3).1)]; exact (lvl_m h.m3).1.symm
theorem playB_bd {m : Nat} {x y c : List Int} (h : RightS m x y c) : Bd 200000000000000 (playB m c) :=
  (Bd_gather (lvl (2 * m)) c 16777216 (lvl_m h.m3).2 (by rw [h.lc]; exact (lvl_m h.m3).1) (by omega) h.bc).mono (pow_top _ (lvl_m h.m3).2)
theorem spec_play_ok {m : Nat} {x y c : List Int} (h : RightS m x y c) (k : Nat) (hk : 1000 ≤ k) :
    spec_l7Play.f k ((2 * m : Nat) : Int) x y c = some (((2 * m : Nat) : Int), seamB m (playF m y c), (playB m c).drop m, x ++ seamA m (playF m y c)) := by
  have hm8 : m ≤ 8 := by have := h.m3; omega
  have lB := playB_length h
  have lt : ((playB m c).take m).length = m := by rw [List.length_take, lB]; omega
  have ld : ((playB m c).drop m).length = m := by rw [List.length_drop, lB]; omega
  have hst : ∀ i : Nat, i < m → (if true = true then spec_l5Back.f ((2 * m : Nat) : Int) (i : Int) (rd y ((m - 1 - i : Nat) : Int)) (rd ((playB m c).take m) (i : Int)) else spec_l5Turn.f ((2 * m : Nat) : Int) (i : Int) (rd y ((m - 1 - i : Nat) : Int)) (rd ((playB m c).take m) (i : Int))) = some (playF m y c i) := by
    intro i hi
    rw [if_pos rfl]
    have a1 := h.by' (m - 1 - i)
    have a2 := Bd_take (by omega) m (playB_bd h) i
    exact l5Back_eq (validS h.m3 hi) _ _ (by omega) (by omega)
  have e1 := sSeam hm8 true (playF m y c) y ((playB m c).take m) h.ly lt hst k (by omega)
  have e2 : spec_l6Gather.f k c = some (playB m c) := sGather (lvl (2 * m)) c 16777216 k (lvl_m h.m3).2 (by rw [h.lc]; exact (lvl_m h.m3).1) (by omega) h.bc (pow_top _ (lvl_m h.m3).2) (by have := (lvl_m h.m3).2; omega)
  unfold spec_l7Play.f
  rw [e2, bindS, halfI hm8, if_pos (by omega), if_pos (by omega), Int.toNat_natCast, e1, bindS, l1IntsS_eq _ (by omega), bindS, l1IntsS_eq x (by have := h.lx; omega), bindS]
  simp only [seamA_length]
  rw [if_pos (by have := h.lx; omega)]
theorem impl_play_ok {m : Nat} {x y c : List Int} (h : RightS m x y c) (h1 : faultS ((2 * m : Nat) : Int) x y = 0) (h3 : gatherC c = 0) (k : Nat) (hk : 1000 ≤ k) :
    impl_PlayBlock.f k ((2 * m : Nat) : Int) x y c = some (0, ((2 * m : Nat) : Int), seamB m (playF m y c), (playB m c).drop m, x ++ seamA m (playF m y c)) := by
  have hm8 : m ≤ 8 := by have := h.m3; omega
  have lB := playB_length h
  have lt : ((playB m c).take m).length = m := by rw [List.length_take, lB]; omega
  have ld : ((playB m c).drop m).length = m := by rw [List.length_drop, lB]; omega
  have hst : ∀ i : Nat, i < m → impl_samples_1.f ((2 * m : Nat) : Int) (i : Int) (rd y ((m - 1 - i : Nat) : Int)) (rd ((playB m c).take m) (i : Int)) = some (playF m y c i) := by
    intro i hi
    have a1 := h.by' (m - 1 - i)
    have a2 := Bd_take (by omega) m (playB_bd h) i
    exact samples1_eq (validS h.m3 hi) _ _ (by omega) (by omega)
  have e1 := iSeam hm8 (impl_samples_1.f ((2 * m : Nat) : Int)) (playF m y c) y ((playB m c).take m) h.ly lt hst k (by omega)
  have e2 : impl_undo_gather.f k impl_samples_1.f impl_part.f c = some (playB m c) := iGather (lvl (2 * m)) c 16777216 k (lvl_m h.m3).2 (by rw [h.lc]; exact (lvl_m h.m3).1) (by omega) h.bc (pow_top _ (lvl_m h.m3).2) (by have := (lvl_m h.m3).2; omega)
  obtain ⟨q, hq⟩ : ∃ q, k = q + 1 + 1 + 1 + 1 + 1 + 1 := ⟨k - 6, by omega⟩
  have e3 := concatI_eq x (seamA m (playF m y c)) (by rw [seamA_length]; have := h.lx; omega) q
  rw [← hq] at e3
  have hf : impl_first.f k [0, 0, 0] = some 0 := first_eq [0, 0, 0] (by simp) k (by simp; omega)
  have hg : impl_gatherFault.f k c = some 0 := (gatherFault_eq c k (by omega)).trans (congrArg some h3)
  have hc : ((c.length : Int) != ((2 * m : Nat) : Int)) = false := by rw [h.lc]; simp
  unfold impl_PlayBlock.f
  rw [impl_faultS_eq _ x y k (by omega), h1, bindS, hc, codeIf_eq, bindS, hg, bindS]
  rw [show (if false = true then (2 : Int) else 0) = 0 from rfl, hf, bindS, if_pos rfl, impl_samples.f, bindS, e2, bindS, halfI hm8, if_pos (by omega), if_pos (by omega), Int.toNat_natCast, e1, bindS, cloneI_eq _ (by omega), bindS]
  simp only
  rw [e3, bindS]
theorem SzP (L : Nat) (hL : L ≤ 3) : Sz (2 ^ L) := by
  unfold Sz
  match L, hL with
  | 0, _ => exact .inl rfl
  | 1, _ => exact .inr (.inl rfl)
  | 2, _ => exact .inr (.inr (.inl rfl))
  | 3, _ => exact .inr (.inr (.inr rfl))
theorem evensL (c : List Int) : (evens c).length = c.length / 2 := gen_length _ _
theorem oddsL (c : List Int) : (odds c).length = c.length / 2 := gen_length _ _
structure OkS (m : Nat) (x y : List Int) : Prop where
  lx : x.length = m
  ly : y.length = m
  bx : Bd 1073741824 x
  by' : Bd 268435456 y
theorem okS_fault {m : Nat} (m3 : m = 2 ∨ m = 4 ∨ m = 8) {x y : List Int} (h : OkS m x y) : faultS ((2 * m : Nat) : Int) x y = 0 := by
  unfold faultS
  rw [if_pos (sizeM m3), halfI (by omega), if_pos (by rw [h.lx]), if_pos (by rw [h.ly]), if_pos (all_Bd h.bx (Int.le_refl _)), if_pos (all_Bd h.by' (Int.le_refl _))]
theorem okS_right {m : Nat} (m3 : m = 2 ∨ m = 4 ∨ m = 8) {x y c : List Int} (h : OkS m x y) (lc : c.length = 2 * m) (hb : Bd 16777216 c) : RightS m x y c := ⟨m3, h.lx, h.ly, lc, h.bx, h.by', hb⟩
theorem Bf_gather : ∀ (L : Nat) (c : List Int) (N : Int), L ≤ 4 → c.length = 2 ^ L → 24 ≤ N → Bd N c → Bd (2 ^ L * N) (gatherM backS pf L c) := by
  intro L
  induction L with
  | zero => intro c N _ _ _ h; rw [gatherM]; simpa using h
  | succ L ih =>
    intro c N hL hc hN h
    rw [Nat.pow_succ] at hc
    have e1 : (evens c).length = 2 ^ L := by rw [evensL]; omega
    have e2 : (odds c).length = 2 ^ L := by rw [oddsL]; omega
    have b1 := ih (evens c) N (by omega) e1 hN (Bd_evens (by omega) h)
    have b2 := ih (odds c) N (by omega) e2 hN (Bd_odds (by omega) h)
    have hp : (1 : Int) ≤ 2 ^ L := Int.pow_pos (show (0 : Int) < 2 by decide)
    have hpN : 24 ≤ (2 : Int) ^ L * N := by have := Int.mul_le_mul_of_nonneg_right hp (show 0 ≤ N by omega); omega
    have := Bf_unite (SzP L (by omega)) (gatherM_length backS pf L _ e1) (gatherM_length backS pf L _ e2) hpN b1 b2
    rw [gatherM]
    rwa [← Int.mul_assoc, Int.mul_comm 2 ((2 : Int) ^ L), ← Int.pow_succ] at this
theorem pow_fine (L : Nat) (hL : L ≤ 4) : (2 : Int) ^ L * 16777216 ≤ 268435456 := by
  match L, hL with
  | 0, _ => decide
  | 1, _ => decide
  | 2, _ => decide
  | 3, _ => decide
  | 4, _ => decide
theorem playB_fine {m : Nat} (m3 : m = 2 ∨ m = 4 ∨ m = 8) {c : List Int} (lc : c.length = 2 * m) (hb : Bd 16777216 c) : Bd 268435456 (playB m c) :=
  (Bf_gather (lvl (2 * m)) c 16777216 (lvl_m m3).2 (by rw [lc]; exact (lvl_m m3).1) (by omega) hb).mono (pow_fine _ (lvl_m m3).2)
theorem playB_len {m : Nat} (m3 : m = 2 ∨ m = 4 ∨ m = 8) {c : List Int} (lc : c.length = 2 * m) : (playB m c).length = 2 * m := by
  unfold playB
  rw [gatherM_length _ _ _ _ (by rw [lc]; exact (lvl_m m3).1)]; exact (lvl_m m3).1.symm
theorem okS_next {m : Nat} (m3 : m = 2 ∨ m = 4 ∨ m = 8) {x y c : List Int} (h : OkS m x y) (lc : c.length = 2 * m) (hb : Bd 16777216 c) : OkS m (seamB m (playF m y c)) ((playB m c).drop m) := by
  have hB := playB_fine m3 lc hb
  refine ⟨seamB_length _ _, by rw [List.length_drop, playB_len m3 lc]; omega, ?_, Bd_drop m hB⟩
  refine (Bd_seam (by omega) fun i hi => ?_).2
  have := (rot_both (validS m3 hi) (N := 268435456) (by omega) (h.by' (m - 1 - i)) (Bd_take (by omega) m hB i)).2
  unfold playF stB backS
  omega
theorem play_next {m : Nat} {x y c : List Int} (h : RightS m x y c) : faultS ((2 * m : Nat) : Int) (seamB m (playF m y c)) ((playB m c).drop m) = 0 :=
  okS_fault h.m3 (okS_next h.m3 ⟨h.lx, h.ly, h.bx, h.by'⟩ h.lc h.bc)
theorem play_both (a : Int) (x y c : List Int) (hx : x.length ≤ 1048576) (hy : y.length ≤ 1048576) (hf : c.length ≤ 1048576) :
    ∃ o s nx rs fr, (nx.length ≤ 16 ∧ rs.length ≤ 16 ∧ fr.length ≤ 16 ∧ (o = 0 → faultS s nx rs = 0)) ∧ ∀ k : Nat, 2000 ≤ k → x.length < k → y.length < k → c.length < k →
      spec_PlayBlock.f (k + 1) a x y c = some (o, s, nx, rs, fr) ∧ impl_PlayBlock.f k a x y c = some (o, s, nx, rs, fr) := by
  have hA : ∀ k : Nat, c.length < k → spec_l6Ask.f k c 16777216 = some (gatherC c) := fun k hk => l6Ask_eq c (by omega) k hk
  have hG : ∀ k : Nat, 2000 ≤ k → impl_gatherFault.f k c = some (gatherC c) := fun k hk => gatherFault_eq c k (by omega)
  have hF : ∀ (k : Nat) (p q r : Int), 2000 ≤ k → impl_first.f k [p, q, r] = some (nz [p, q, r]) := fun k p q r hk => first_eq [p, q, r] (by simp) k (by simp; omega)
  by_cases h1 : faultS a x y = 0
  · by_cases h2 : (c.length : Int) = a
    · have hne : ((c.length : Int) != a) = false := by rw [h2]; simp
      by_cases h3 : gatherC c = 0
      · obtain ⟨m, rfl, h⟩ := rightS_of h1 h2 h3
        have hm8 : m ≤ 8 := by have := h.m3; omega
        refine ⟨_, _, _, _, _, ⟨?_, ?_, ?_, fun _ => play_next h⟩, fun k k1 k2 k3 k4 => ⟨?_, impl_play_ok h h1 h3 k (by omega)⟩⟩
        · rw [seamB_length]; omega
        · rw [List.length_drop, playB_length h]; omega
        · rw [List.length_append, seamA_length, h.lx]; omega
        · unfold spec_PlayBlock.f
          rw [spec_faultS_eq _ x y (by omega) (by omega) k k2 k3, h1, bindS, if_pos rfl, if_pos h2, hA (k + 1) (by omega), h3, bindS, if_pos rfl, spec_play_ok h (k + 1) (by omega), bindS]
      · refine ⟨gatherC c, 0, [], [], [], ⟨by simp, by simp, by simp, fun h => absurd h h3⟩, fun k k1 k2 k3 k4 => ⟨?_, ?_⟩⟩
        · unfold spec_PlayBlock.f
          rw [spec_faultS_eq _ x y (by omega) (by omega) k k2 k3, h1, bindS, if_pos rfl, if_pos h2, hA (k + 1) (by omega), bindS, if_neg h3]
        · unfold impl_PlayBlock.f
          rw [impl_faultS_eq _ x y k (by omega), h1, bindS, hne, codeIf_eq, bindS, hG k k1, bindS, show (if false = true then (2 : Int) else 0) = 0 from rfl, hF k _ _ _ k1, bindS]
          simp only [nz, if_true, if_neg h3]
    · have hne : ((c.length : Int) != a) = true := by simp [h2]
      refine ⟨2, 0, [], [], [], ⟨by simp, by simp, by simp, fun h => by omega⟩, fun k k1 k2 k3 k4 => ⟨?_, ?_⟩⟩
      · unfold spec_PlayBlock.f
        rw [spec_faultS_eq _ x y (by omega) (by omega) k k2 k3, h1, bindS, if_pos rfl, if_neg h2]
      · unfold impl_PlayBlock.f
        rw [impl_faultS_eq _ x y k (by omega), h1, bindS, hne, codeIf_eq, bindS, hG k k1, bindS, show (if true = true then (2 : Int) else 0) = 2 from rfl, hF k _ _ _ k1, bindS]
        simp only [nz, if_true, if_neg (show ¬ (2 : Int) = 0 by decide)]
  · refine ⟨faultS a x y, 0, [], [], [], ⟨by simp, by simp, by simp, fun h => absurd h h1⟩, fun k k1 k2 k3 k4 => ⟨?_, ?_⟩⟩
    · unfold spec_PlayBlock.f
      rw [spec_faultS_eq _ x y (by omega) (by omega) k k2 k3, bindS, if_neg h1]
    · unfold impl_PlayBlock.f
      rw [impl_faultS_eq _ x y k (by omega), bindS, codeIf_eq, bindS, hG k k1, bindS, hF k _ _ _ k1, bindS]
      simp only [nz, if_neg h1]
theorem clamp_ok (a : Int) : ∃ v, spec_Clamp16.f a = some v ∧ -32768 ≤ v ∧ v ≤ 32767 := by
  unfold spec_Clamp16.f
  by_cases h : a < -32768
  · rw [if_pos h]; exact ⟨_, rfl, by omega⟩
  · rw [if_neg h]
    by_cases g : a > 32767
    · rw [if_pos g]; exact ⟨_, rfl, by omega⟩
    · rw [if_neg g]; exact ⟨_, rfl, by omega⟩
theorem samples_l0 {c : List Int} (hc : Bytes c) (n : Nat) (hn : n ≤ 100) (x6 x7 x8 : Int) : ∀ (d i : Nat) (ys : List Int) (q : Int) (K : Nat), i + d = n → d < K → Smp i ys → 0 ≤ q → q + d ≤ 1073741000 →
    ∃ zs q', spec_l1Samples.l0 K (n : Int) ys x6 x7 x8 (i : Int) c q = some (zs, q') ∧ Smp n zs ∧ 0 ≤ q' ∧ q' ≤ q + d := by
  intro d
  induction d with
  | zero =>
    intro i ys q K hi hK hs h0 h1
    obtain ⟨K, rfl⟩ : ∃ k, K = k + 1 := ⟨K - 1, by omega⟩
    rw [spec_l1Samples.l0, if_neg (by omega)]
    obtain rfl : i = n := by omega
    exact ⟨_, _, rfl, hs, h0, by omega⟩
  | succ d ih =>
    intro i ys q K hi hK hs h0 h1
    obtain ⟨K, rfl⟩ : ∃ k, K = k + 1 := ⟨K - 1, by omega⟩
    have push : ∀ (v q2 : Int), (-32768 ≤ v ∧ v ≤ 32767) → 0 ≤ q2 → q2 ≤ q + 1 → ∃ zs q', spec_l1Samples.l0 K (n : Int) (ys ++ [v]) x6 x7 x8 (wrap64 ((i : Int) + 1)) c q2 = some (zs, q') ∧ Smp n zs ∧ 0 ≤ q' ∧ q' ≤ q + (d + 1 : Nat) := fun v q2 hv a1 a2 => by
      rw [w64_succ _ (by omega)]
      obtain ⟨zs, q', e, s, b1, b2⟩ := ih (i + 1) (ys ++ [v]) q2 K (by omega) (by omega) ⟨by rw [List.length_append, hs.1]; rfl, fun w hw => by
        rcases List.mem_append.1 hw with hw | hw
        · exact hs.2 w hw
        · rw [List.mem_singleton] at hw; rw [hw]; exact hv⟩ a1 (by omega)
      exact ⟨zs, q', e, s, b1, by omega⟩
    have hly : ys.length < 17592186044416 := by rw [hs.1]; omega
    rw [spec_l1Samples.l0, if_pos (by omega)]
    by_cases g0 : x8 = 0
    · obtain ⟨v, ev, hv⟩ := clamp_ok 0
      rw [if_pos g0, ev, bindS, if_pos hly]
      exact push v q hv h0 (by omega)
    · rw [if_neg g0]
      by_cases g1 : x8 = 1
      · obtain ⟨a, ea, _⟩ := l1Signed_ok hc q 32767 h0 (by omega) (by omega) (by omega)
        obtain ⟨v, ev, hv⟩ := clamp_ok a
        rw [if_pos g1, ea, bindS]
        simp only
        rw [ev, bindS, if_pos hly]
        exact push v (q + 1) hv (by omega) (by omega)
      · rw [if_neg g1]
        by_cases g2 : x8 = 2
        · obtain ⟨a, ea, _⟩ := l1Pick_ok hc q [32767, (-32768), 0] h0 (by omega) (by simp)
          obtain ⟨v, ev, hv⟩ := clamp_ok a
          rw [if_pos g2, ea, bindS]
          simp only
          rw [ev, bindS, if_pos hly]
          exact push v (q + 1) hv (by omega) (by omega)
        · rw [if_neg g2]
          by_cases g3 : x8 = 3
          · obtain ⟨a, ea, _⟩ := l1Signed_ok hc q 20 h0 (by omega) (by omega) (by omega)
            obtain ⟨v, ev, hv⟩ := clamp_ok (wrap64 ((wrap64 (x6 + (wrap64 (x7 * (i : Int))))) + a))
            rw [if_pos g3, ea, bindS]
            simp only
            rw [ev, bindS, if_pos hly]
            exact push v (q + 1) hv (by omega) (by omega)
          · obtain ⟨v, ev, hv⟩ := clamp_ok (wrap64 (x6 + (wrap64 (x7 * (i : Int)))))
            rw [if_neg g3, ev, bindS, if_pos hly]
            exact push v q hv h0 (by omega)
theorem samples_ok {c : List Int} (hc : Bytes c) (n : Nat) (hn : n ≤ 100) (q : Int) (h0 : 0 ≤ q) (h1 : q ≤ 1073000000) (K : Nat) (hK : 200 ≤ K) :
    ∃ zs q', spec_l1Samples.f K c q (n : Int) = some (zs, q') ∧ Smp n zs ∧ 0 ≤ q' ∧ q' ≤ q + 200 := by
  unfold spec_l1Samples.f
  obtain ⟨v1, e1, _⟩ := l1Signed_ok hc q 20000 h0 (by omega) (by omega) (by omega)
  obtain ⟨v2, e2, _⟩ := l1Pick_ok hc (q + 1) [0, 1, 50, 700, (-300)] (by omega) (by omega) (by simp)
  obtain ⟨v3, e3, _⟩ := l1Next_ok hc (q + 1 + 1) 5 (by omega) (by omega)
  simp only [e1, e2, e3, bindS]
  obtain ⟨zs, q', e, s, b1, b2⟩ := samples_l0 hc n hn v1 v2 v3 n 0 [] (q + 1 + 1 + 1) K (by omega) (by omega) ⟨rfl, fun v hv => by cases hv⟩ (by omega) (by omega)
  exact ⟨zs, q', e, s, b1, by omega⟩
theorem zeros_ok (n : Nat) (hn : n ≤ 1000) : spec_l1Zeros.f (n : Int) = some (List.replicate n 0) := by
  unfold spec_l1Zeros.f
  rw [if_pos (by omega), Int.toNat_natCast, if_pos (by omega)]
theorem size_ok {c : List Int} (hc : Bytes c) (q : Int) (h0 : 0 ≤ q) (h1 : q ≤ 1073000000) : ∃ m : Nat, (m = 2 ∨ m = 4 ∨ m = 8) ∧ spec_l1Size.f c q = some (((2 * m : Nat) : Int), q + 1) := by
  unfold spec_l1Size.f
  obtain ⟨s, e1, m1⟩ := l1Pick_ok hc q [4, 8, 16, 8] h0 (by omega) (by simp)
  rw [e1, bindS]
  simp only [List.mem_cons, List.not_mem_nil, or_false] at m1
  have : s = 4 ∨ s = 8 ∨ s = 16 := by omega
  rcases this with rfl | rfl | rfl
  · exact ⟨2, by omega, rfl⟩
  · exact ⟨4, by omega, rfl⟩
  · exact ⟨8, by omega, rfl⟩
theorem dec (d : Nat) (h : d ≤ 1000) : wrap64 (((d + 1 : Nat) : Int) - 1) = (d : Int) := by rw [w64 (by omega) (by omega)]; omega
theorem fed {m : Nat} (m3 : m = 2 ∨ m = 4 ∨ m = 8) {x y zs : List Int} (lx : x.length = m) (bx : Bd 49152 x) (hy : Smp m y) (hz : Smp (2 * m) zs) :
    Right m x y zs ∧ (seamB m (feedF m y zs)).length = m ∧ Bd 49152 (seamB m (feedF m y zs)) ∧ (spreadM (lvl (2 * m)) (feedL m x y zs)).length = 2 * m ∧ Bd 16777216 (spreadM (lvl (2 * m)) (feedL m x y zs)) := by
  have R : Right m x y zs := ⟨m3, lx, hy.1, hz.1, bx.mono (by omega), hy.bd, hz.bd⟩
  have b2 := seam_fine m3 hy.bd hz.take.bd
  have lL := feedL_length R
  have hL := lvl_m m3
  have bL : Bd 49152 (feedL m x y zs) := Bd_append (by omega) bx b2.1
  refine ⟨R, seamB_length _ _, b2.2, ?_, (Bf_spread _ _ 49152 hL.2 (by rw [lL]; exact hL.1) (by omega) bL).mono (pow_spread _ hL.2)⟩
  rw [spreadM_length _ _ (by rw [lL]; exact hL.1)]; exact hL.1.symm
theorem draw_l0 {c : List Int} (hc : Bytes c) {m : Nat} (m3 : m = 2 ∨ m = 4 ∨ m = 8) : ∀ (d : Nat) (x y : List Int) (q : Int) (K : Nat), d + 1200 ≤ K → d ≤ 10 → x.length = m → Bd 49152 x → Smp m y → 0 ≤ q → q + 200 * d ≤ 1000000 →
    ∃ x' y' q', spec_l7Draw.l0 K (d : Int) c q ((2 * m : Nat) : Int) x y = some (((2 * m : Nat) : Int), x', y', q') ∧ x'.length = m ∧ y'.length = m ∧ 0 ≤ q' ∧ q' ≤ q + 200 * d := by
  intro d
  induction d with
  | zero =>
    intro x y q K hK hd lx bx hy h0 h1
    obtain ⟨K, rfl⟩ : ∃ k, K = k + 1 := ⟨K - 1, by omega⟩
    rw [spec_l7Draw.l0, if_neg (by omega)]
    exact ⟨_, _, _, rfl, lx, hy.1, h0, by omega⟩
  | succ d ih =>
    intro x y q K hK hd lx bx hy h0 h1
    obtain ⟨K, rfl⟩ : ∃ k, K = k + 1 := ⟨K - 1, by omega⟩
    obtain ⟨zs, q1, e1, s1, b1, b2⟩ := samples_ok hc (2 * m) (by omega) q h0 (by omega) K (by omega)
    obtain ⟨R, r1, r2, _, _⟩ := fed m3 lx bx hy s1
    obtain ⟨x', y', q', e, z1, z2, z3, z4⟩ := ih _ _ q1 K (by omega) (by omega) r1 r2 s1.drop b1 (by omega)
    refine ⟨x', y', q', ?_, z1, z2, z3, by omega⟩
    rw [spec_l7Draw.l0, if_pos (by omega), e1, bindS]
    simp only
    rw [spec_feed_ok R K (by omega), bindS, dec d (by omega)]
    exact e
theorem zero_bd (m : Nat) (N : Int) (h : 0 ≤ N) : Bd N (List.replicate m 0) := by
  have := (Smp.zero m).2
  refine Bd_all h ((allIn_iff _ _ _).2 fun v hv => ?_)
  rw [List.eq_of_mem_replicate hv]; omega
theorem lap_ok {c : List Int} (hc : Bytes c) (K : Nat) (hK : 3000 ≤ K) : ∃ (m : Nat) (x y : List Int) (q : Int), (m = 2 ∨ m = 4 ∨ m = 8) ∧ spec_l7Draw.f K c 0 = some (((2 * m : Nat) : Int), x, y, q) ∧ x.length = m ∧ y.length = m ∧ 0 ≤ q ∧ q ≤ 1000 := by
  obtain ⟨m, m3, e1⟩ := size_ok hc 0 (by omega) (by omega)
  obtain ⟨v, e2, hv, _⟩ := l1Next_ok hc (0 + 1) 3 (by omega) (by omega)
  have hv := hv (by omega)
  obtain ⟨d, rfl⟩ : ∃ d : Nat, v = (d : Int) := ⟨v.toNat, by omega⟩
  have hh : wrap64 (Int.tdiv ((2 * m : Nat) : Int) 2) = (m : Int) := halfI (by omega)
  obtain ⟨x', y', q', e, z1, z2, z3, z4⟩ := draw_l0 hc m3 d (List.replicate m 0) (List.replicate m 0) (0 + 1 + 1) K (by omega) (by omega) List.length_replicate (zero_bd m _ (by omega)) (Smp.zero m) (by omega) (by omega)
  refine ⟨m, x', y', q', m3, ?_, z1, z2, z3, by omega⟩
  unfold spec_l7Draw.f spec_l7New.f
  simp only [e1, hh, zeros_ok m (by omega), e2, bindS]
  exact e
theorem bent_ok {c : List Int} (hc : Bytes c) (K : Nat) (hK : 3000 ≤ K) : ∃ (a : Int) (x y : List Int) (q : Int), spec_l7Bent.f K c 0 = some (a, x, y, q) ∧ x.length ≤ 16 ∧ y.length ≤ 16 ∧ 0 ≤ q ∧ q ≤ 2000 := by
  obtain ⟨m, x, y, q, m3, e, lx, ly, q0, q1⟩ := lap_ok hc K hK
  obtain ⟨v, e1, _, _⟩ := l1Next_ok hc q 14 q0 (by omega)
  unfold spec_l7Bent.f
  rw [e, bindS]
  simp only
  rw [e1, bindS]
  simp only
  by_cases g : v = 0
  · obtain ⟨a, e2, _⟩ := l1Pick_ok hc (q + 1) [4, 8, 16, 8, 4, 8, 16, 8, 4, 8, 16, 8, 0, 5, 32] (by omega) (by omega) (by simp)
    rw [if_pos g]
    unfold spec_l1BentSize.f
    rw [e2, bindS, bindS]
    exact ⟨_, _, _, _, rfl, by omega, by omega, by simp only; omega, by simp only; omega⟩
  rw [if_neg g]
  by_cases g : v = 1
  · rw [if_pos g, if_pos (by omega)]
    exact ⟨_, _, _, _, rfl, by rw [List.length_drop]; omega, by omega, by omega, by omega⟩
  rw [if_neg g]
  by_cases g : v = 2
  · obtain ⟨a, e2, _⟩ := l1Pick_ok hc (q + 1) [65536, 65537, (-65537)] (by omega) (by omega) (by simp)
    rw [if_pos g, e2, bindS]
    simp only
    rw [if_pos (by omega)]
    exact ⟨_, _, _, _, rfl, by rw [List.length_set]; omega, by omega, by omega, by omega⟩
  rw [if_neg g]
  by_cases g : v = 3
  · obtain ⟨a, e2, _⟩ := l1Pick_ok hc (q + 1) [32767, 32768, (-32769)] (by omega) (by omega) (by simp)
    rw [if_pos g, e2, bindS]
    simp only
    rw [if_pos (by omega)]
    exact ⟨_, _, _, _, rfl, by omega, by rw [List.length_set]; omega, by omega, by omega⟩
  rw [if_neg g]
  exact ⟨_, _, _, _, rfl, by omega, by omega, by omega, by omega⟩
theorem mm_ok (a : Int) : ∃ (t : Int) (n : Nat), spec_l1Max.f a 0 = some t ∧ spec_l1Min.f t 20 = some (n : Int) ∧ n ≤ 20 := by
  unfold spec_l1Max.f spec_l1Min.f
  by_cases h : a > 0
  · refine ⟨a, if a < 20 then a.toNat else 20, if_pos h, ?_, ?_⟩
    · by_cases g : a < 20
      · rw [if_pos g, if_pos g, Int.toNat_of_nonneg (by omega)]
      · rw [if_neg g, if_neg g]; rfl
    · split <;> omega
  · exact ⟨0, 0, if_neg h, rfl, by omega⟩
theorem bentS_ok {c : List Int} (hc : Bytes c) (a q : Int) (q0 : 0 ≤ q) (q1 : q ≤ 100000) (K : Nat) (hK : 3000 ≤ K) : ∃ (fr : List Int) (q' : Int), spec_l1BentSamples.f K c q a = some (fr, q') ∧ fr.length ≤ 21 := by
  obtain ⟨t, n, e1, e2, hn⟩ := mm_ok a
  obtain ⟨zs, p, e3, s, p0, p1⟩ := samples_ok hc n (by omega) q q0 (by omega) K (by omega)
  obtain ⟨v, e4, _, _⟩ := l1Next_ok hc p 12 p0 (by omega)
  have ls := s.1
  unfold spec_l1BentSamples.f
  simp only [e1, e2, e3, e4, bindS]
  by_cases g : v = 0
  · rw [if_pos g, if_pos (by omega)]
    exact ⟨_, _, rfl, by rw [List.length_append, List.length_singleton]; omega⟩
  rw [if_neg g]
  by_cases g : v = 1
  · rw [if_pos g]
    by_cases z : (zs.length : Int) > 0
    · obtain ⟨u, e5, hu, _⟩ := l1Next_ok hc (p + 1) (zs.length : Int) (by omega) (by omega)
      have hu := hu (by omega)
      obtain ⟨b, e6, _⟩ := l1Pick_ok hc (p + 1 + 1) [32768, (-32769)] (by omega) (by omega) (by simp)
      rw [if_pos z, e5, bindS]
      simp only
      rw [e6, bindS]
      simp only
      rw [if_pos hu.1, if_pos hu.2]
      exact ⟨_, _, rfl, by rw [List.length_set]; omega⟩
    · rw [if_neg z]
      exact ⟨_, _, rfl, by omega⟩
  rw [if_neg g]
  exact ⟨_, _, rfl, by omega⟩
theorem drawF_ok {c : List Int} (hc : Bytes c) (K : Nat) (hK : 3000 ≤ K) : ∃ (a : Int) (x y fr : List Int), spec_DrawFeedFrame.f K c = some (a, x, y, fr) ∧ x.length ≤ 16 ∧ y.length ≤ 16 ∧ fr.length ≤ 21 := by
  obtain ⟨a, x, y, q, e, lx, ly, q0, q1⟩ := bent_ok hc K hK
  obtain ⟨fr, q', e2, lf⟩ := bentS_ok hc a q q0 (by omega) K hK
  refine ⟨a, x, y, fr, ?_, lx, ly, lf⟩
  unfold spec_DrawFeedFrame.f spec_l1Source.f
  rw [bindS]
  simp only
  rw [e, bindS]
  simp only
  rw [e2, bindS]
theorem synth_l0 {c : List Int} (hc : Bytes c) {m : Nat} (m3 : m = 2 ∨ m = 4 ∨ m = 8) : ∀ (d : Nat) (u v x y : List Int) (q : Int) (K : Nat), d + 1200 ≤ K → d ≤ 10 → OkS m u v → x.length = m → Bd 49152 x → Smp m y → 0 ≤ q → q + 200 * d ≤ 1000000 →
    ∃ u' v' q', spec_l7Synth.l0 K (d : Int) c q ((2 * m : Nat) : Int) u v ((2 * m : Nat) : Int) x y = some (((2 * m : Nat) : Int), u', v', q') ∧ u'.length = m ∧ v'.length = m ∧ 0 ≤ q' ∧ q' ≤ q + 200 * d := by
  intro d
  induction d with
  | zero =>
    intro u v x y q K hK hd ho lx bx hy h0 h1
    obtain ⟨K, rfl⟩ : ∃ k, K = k + 1 := ⟨K - 1, by omega⟩
    rw [spec_l7Synth.l0, if_neg (by omega)]
    exact ⟨_, _, _, rfl, ho.lx, ho.ly, h0, by omega⟩
  | succ d ih =>
    intro u v x y q K hK hd ho lx bx hy h0 h1
    obtain ⟨K, rfl⟩ : ∃ k, K = k + 1 := ⟨K - 1, by omega⟩
    obtain ⟨zs, q1, e1, s1, b1, b2⟩ := samples_ok hc (2 * m) (by omega) q h0 (by omega) K (by omega)
    obtain ⟨R, r1, r2, r3, r4⟩ := fed m3 lx bx hy s1
    obtain ⟨u', v', q', e, z1, z2, z3, z4⟩ := ih _ _ _ _ q1 K (by omega) (by omega) (okS_next m3 ho r3 r4) r1 r2 s1.drop b1 (by omega)
    refine ⟨u', v', q', ?_, z1, z2, z3, by omega⟩
    rw [spec_l7Synth.l0, if_pos (by omega), e1, bindS]
    simp only
    rw [spec_feed_ok R K (by omega), bindS]
    simp only
    rw [spec_play_ok (okS_right m3 ho r3 r4) K (by omega), bindS, dec d (by omega)]
    exact e
theorem synth_ok {c : List Int} (hc : Bytes c) (K : Nat) (hK : 3000 ≤ K) : ∃ (m : Nat) (x y : List Int) (q : Int), (m = 2 ∨ m = 4 ∨ m = 8) ∧ spec_l7Synth.f K c 0 = some (((2 * m : Nat) : Int), x, y, q) ∧ x.length = m ∧ y.length = m ∧ 0 ≤ q ∧ q ≤ 1000 := by
  obtain ⟨m, m3, e1⟩ := size_ok hc 0 (by omega) (by omega)
  obtain ⟨v, e2, hv, _⟩ := l1Next_ok hc (0 + 1) 4 (by omega) (by omega)
  have hv := hv (by omega)
  obtain ⟨d, rfl⟩ : ∃ d : Nat, v = (d : Int) := ⟨v.toNat, by omega⟩
  have hh : wrap64 (Int.tdiv ((2 * m : Nat) : Int) 2) = (m : Int) := halfI (by omega)
  have hr : (List.replicate m (0 : Int)).length = m := List.length_replicate
  obtain ⟨x', y', q', e, z1, z2, z3, z4⟩ := synth_l0 hc m3 d (List.replicate m 0) (List.replicate m 0) (List.replicate m 0) (List.replicate m 0) (0 + 1 + 1) K (by omega) (by omega) ⟨hr, hr, zero_bd m _ (by omega), zero_bd m _ (by omega)⟩ hr (zero_bd m _ (by omega)) (Smp.zero m) (by omega) (by omega)
  refine ⟨m, x', y', q', m3, ?_, z1, z2, z3, by omega⟩
  unfold spec_l7Synth.f spec_l7NewSynth.f spec_l7New.f
  simp only [e1, hh, zeros_ok m (by omega), e2, bindS]
  exact e
theorem bentSy_ok {c : List Int} (hc : Bytes c) (K : Nat) (hK : 3000 ≤ K) : ∃ (a : Int) (x y : List Int) (q : Int), spec_l7BentSynth.f K c 0 = some (a, x, y, q) ∧ x.length ≤ 17 ∧ y.length ≤ 17 ∧ 0 ≤ q ∧ q ≤ 2000 := by
  obtain ⟨m, x, y, q, m3, e, lx, ly, q0, q1⟩ := synth_ok hc K hK
  obtain ⟨v, e1, _, _⟩ := l1Next_ok hc q 14 q0 (by omega)
  unfold spec_l7BentSynth.f
  rw [e, bindS]
  simp only
  rw [e1, bindS]
  simp only
  by_cases g : v = 0
  · obtain ⟨a, e2, _⟩ := l1Pick_ok hc (q + 1) [4, 8, 16, 8, 4, 8, 16, 8, 4, 8, 16, 8, 0, 5, 32] (by omega) (by omega) (by simp)
    rw [if_pos g]
    unfold spec_l1BentSize.f
    rw [e2, bindS, bindS]
    exact ⟨_, _, _, _, rfl, by omega, by omega, by simp only; omega, by simp only; omega⟩
  rw [if_neg g]
  by_cases g : v = 1
  · rw [if_pos g, if_pos (by omega)]
    exact ⟨_, _, _, _, rfl, by omega, by rw [List.length_append, List.length_singleton]; omega, by omega, by omega⟩
  rw [if_neg g]
  by_cases g : v = 2
  · obtain ⟨a, e2, _⟩ := l1Pick_ok hc (q + 1) [1073741824, (-1073741824), 1073741825] (by omega) (by omega) (by simp)
    rw [if_pos g, e2, bindS]
    simp only
    rw [if_pos (by omega)]
    exact ⟨_, _, _, _, rfl, by rw [List.length_set]; omega, by omega, by omega, by omega⟩
  rw [if_neg g]
  by_cases g : v = 3
  · obtain ⟨a, e2, _⟩ := l1Pick_ok hc (q + 1) [268435456, (-268435456), (-268435457)] (by omega) (by omega) (by simp)
    rw [if_pos g, e2, bindS]
    simp only
    rw [if_pos (by omega)]
    exact ⟨_, _, _, _, rfl, by omega, by rw [List.length_set]; omega, by omega, by omega⟩
  rw [if_neg g]
  exact ⟨_, _, _, _, rfl, by omega, by omega, by omega, by omega⟩
theorem drawP_ok {c : List Int} (hc : Bytes c) (K : Nat) (hK : 3000 ≤ K) : ∃ (a : Int) (x y co : List Int), spec_DrawPlayBlock.f K c = some (a, x, y, co) ∧ x.length ≤ 17 ∧ y.length ≤ 17 ∧ co.length ≤ 21 := by
  obtain ⟨a, x, y, q, e, lx, ly, q0, q1⟩ := bentSy_ok hc K hK
  obtain ⟨t, n, e1, e2, hn⟩ := mm_ok a
  obtain ⟨b, e3, hb⟩ := l1Pick_ok hc q [9, 4000, 200000] q0 (by omega) (by simp)
  simp only [List.mem_cons, List.not_mem_nil, or_false] at hb
  obtain ⟨ys, e4, ls⟩ := drawList_ok hc n b (q + 1) K (by omega) (by omega) (by omega) (by omega) (by omega) (by omega)
  obtain ⟨v, e5, _, _⟩ := l1Next_ok hc (q + 1 + n) 12 (by omega) (by omega)
  unfold spec_DrawPlayBlock.f spec_l1Source.f
  simp only [bindS, e, e1, e2, e3, e4, e5]
  by_cases g : v = 0
  · rw [if_pos g, if_pos (by omega)]
    exact ⟨_, _, _, _, rfl, lx, ly, by rw [List.length_append, List.length_singleton]; omega⟩
  rw [if_neg g]
  by_cases g : v = 1
  · rw [if_pos g]
    by_cases z : (ys.length : Int) > 0
    · obtain ⟨w, e6, _⟩ := l1Pick_ok hc (q + 1 + n + 1) [16777216, (-16777216), 16777217] (by omega) (by omega) (by simp)
      rw [if_pos z, e6, bindS]
      simp only
      rw [if_pos (by omega)]
      exact ⟨_, _, _, _, rfl, lx, ly, by rw [List.length_set]; omega⟩
    · rw [if_neg z]
      exact ⟨_, _, _, _, rfl, lx, ly, by omega⟩
  rw [if_neg g]
  exact ⟨_, _, _, _, rfl, lx, ly, by omega⟩
theorem sameL (s : Int) (x y : List Int) (hx : x.length ≤ 16) (hy : y.length ≤ 16) (k : Nat) (hk : 100 ≤ k) : impl_SameLaps.f k s x y s x y = some true ∧ impl_SameSynths.f k s x y s x y = some true := by
  unfold impl_SameLaps.f impl_SameSynths.f
  rw [if_pos rfl, sEqual_eq x x (by omega) k (by omega), bindS, if_pos (by simp), sEqual_eq y y (by omega) k (by omega), bindS, decide_eq_true rfl]
  exact ⟨rfl, rfl⟩
theorem FnStates : laws_FnStates.Pure := by
  intro l0 h1 h2 h3
  have hc : Bytes l0 := fun x hx => u8_of_wf (h3 x hx)
  obtain ⟨M, hM⟩ : ∃ M, M = 5000 := ⟨_, rfl⟩
  obtain ⟨a, x, y, fr, e1, lx, ly, lf⟩ := drawF_ok hc (M + 3) (by omega)
  obtain ⟨b, u, v, co, e2, lu, lv, lc⟩ := drawP_ok hc (M + 3) (by omega)
  obtain ⟨c, s, nx, rs, cf, ⟨n1, n2, n3, n4⟩, hh⟩ := feed_both a x y fr (by omega) (by omega) (by omega)
  obtain ⟨o, z, hx, tl, pf, ⟨p1, p2, p3, p4⟩, hp⟩ := play_both b u v co (by omega) (by omega) (by omega)
  refine ⟨M + 3, ?_⟩
  have J : laws_FnStates.j1 (M + 2) co false b u v o z hx tl pf = some true := by
    rw [laws_FnStates.j1, if_neg (by decide)]
    by_cases g : o = 0
    · rw [if_pos g, impl_faultS_eq _ _ _ _ (by omega), p4 g, bindS, if_pos rfl, (hp M (by omega) (by omega) (by omega) (by omega)).1, bindS]
      simp only
      rw [lwNums_refl _ (by omega) _ (by omega), bindS, if_pos rfl, bindS]
      simp only
      rw [(sameL z hx tl (by omega) (by omega) (M + 1) (by omega)).2, bindS]
    · rw [if_neg g]
  unfold laws_FnStates.f laws_lwBig.f
  rw [bindS]
  split
  · rfl
  rw [e1, bindS]
  simp only
  rw [(hh (M + 3) (by omega) (by omega) (by omega) (by omega)).2, bindS]
  simp only
  rw [e2, bindS]
  simp only
  rw [(hp (M + 3) (by omega) (by omega) (by omega) (by omega)).2, bindS]
  simp only
  rw [(hh (M + 2) (by omega) (by omega) (by omega) (by omega)).1, bindS]
  simp only
  rw [if_pos trivial, (hp (M + 2) (by omega) (by omega) (by omega) (by omega)).1, bindS]
  simp only
  rw [show (o != o) = false by simp, laws_FnStates.j0, if_neg (by decide)]
  by_cases g : c = 0
  · rw [if_pos g, impl_fault_eq _ _ _ _ (by omega), n4 g, bindS, if_pos rfl, (hh (M + 1) (by omega) (by omega) (by omega) (by omega)).1, bindS]
    simp only
    rw [lwNums_refl _ (by omega) _ (by omega), bindS, if_pos rfl, bindS]
    simp only
    rw [(sameL s nx rs (by omega) (by omega) (M + 2) (by omega)).1, bindS]
    exact J
  · rw [if_neg g]
    exact J

end Go.Proofs.Ytmhnpogjkbmmnaa.Pure
