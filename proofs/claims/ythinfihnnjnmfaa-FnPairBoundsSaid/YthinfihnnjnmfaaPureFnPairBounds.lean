/-
  PairBounds: what is turned back out of two numbers that are off by their bounds is off by no more than is told; so it is with parts; for every code.
-/
import Derived.Test.YthinfihnnjnmfaaPFnPairBoundsx
namespace Go.Proofs.Ythinfihnnjnmfaa.Pure
open Go.RowKit Go.Proofs.Ythinfihnnjnmfaa.PFnPairBounds Go.Proofs.YthinfihnnjnmfaaW.PrintWords Go.Proofs.YthinfihnnjnmfaaW.PrintLast Go.Proofs.YthinfihnnjnmfaaW.PrintMore
set_option linter.unusedVariables false
set_option linter.unusedSimpArgs false
theorem w64 {x : Int} (h1 : -9223372036854775808 ≤ x) (h2 : x ≤ 9223372036854775807) : wrap64 x = x := by
  unfold wrap64; omega
theorem tdiv_pos {a : Int} (h : 0 ≤ a) (b : Int) : Int.tdiv a b = a / b := Int.tdiv_eq_ediv_of_nonneg h
theorem tmod_pos {a : Int} (h : 0 ≤ a) (b : Int) : Int.tmod a b = a % b := Int.tmod_eq_emod_of_nonneg h
theorem tdiv_neg {a : Int} (h : a ≤ 0) (b : Int) : Int.tdiv a b = -((-a) / b) := by
  have := Int.neg_tdiv (-a) b
  rw [Int.neg_neg] at this
  rw [this, tdiv_pos (by omega)]
theorem tmod_neg {a : Int} (h : a ≤ 0) (b : Int) : Int.tmod a b = -((-a) % b) := by
  have := Int.neg_tmod (-a) b
  rw [Int.neg_neg] at this
  rw [this, tmod_pos (by omega)]
theorem div_unique {x b q r : Int} (hb : 0 < b) (h : r + b * q = x) (h0 : 0 ≤ r) (h1 : r < b) : x / b = q :=
  ((Int.ediv_emod_unique hb).2 ⟨h, h0, h1⟩).1
theorem div_parts (x b : Int) : b * (x / b) + x % b = x := Int.mul_ediv_add_emod x b
theorem neg_div {a b : Int} (hb : 0 < b) : (-a) / b = if a % b = 0 then -(a / b) else -(a / b) - 1 := by
  have h := div_parts a b
  have h0 := Int.emod_nonneg a (Int.ne_of_gt hb)
  have h1 := Int.emod_lt_of_pos a hb
  split
  · exact div_unique (r := 0) hb (by rw [Int.mul_neg]; omega) (by omega) (by omega)
  · exact div_unique (r := b - a % b) hb (by rw [Int.mul_sub, Int.mul_neg]; omega) (by omega) (by omega)
theorem ceil_div {a b : Int} (hb : 0 < b) : (a + b - 1) / b = -((-a) / b) := by
  have h := div_parts (-a) b
  have h0 := Int.emod_nonneg (-a) (Int.ne_of_gt hb)
  have h1 := Int.emod_lt_of_pos (-a) hb
  exact div_unique (r := b - 1 - (-a) % b) hb (by rw [Int.mul_neg]; omega) (by omega) (by omega)
theorem div_bd {a b : Int} (ha : 0 ≤ a) (hb : 0 < b) : 0 ≤ a / b ∧ a / b ≤ a :=
  ⟨Int.ediv_nonneg ha (by omega), Int.ediv_le_self b ha⟩
theorem floor_tdiv {x b : Int} (hb : 0 < b) : (if Int.tmod x b < 0 then Int.tdiv x b - 1 else Int.tdiv x b) = x / b := by
  by_cases h : 0 ≤ x
  · have h0 := Int.emod_nonneg x (Int.ne_of_gt hb)
    rw [tmod_pos h, tdiv_pos h, if_neg (by omega)]
  · rw [tmod_neg (by omega), tdiv_neg (by omega)]
    have h0 := Int.emod_nonneg (-x) (Int.ne_of_gt hb)
    have e := neg_div (a := -x) hb
    rw [Int.neg_neg] at e
    rw [e]
    by_cases hz : (-x) % b = 0
    · rw [if_pos hz, if_neg (by omega)]
    · rw [if_neg hz, if_pos (by omega)]
theorem floor_bd {x b : Int} (hb : 0 < b) : (0 ≤ x → 0 ≤ x / b ∧ x / b ≤ x) ∧ (x < 0 → x ≤ x / b ∧ x / b < 0) := by
  refine ⟨fun h => div_bd h hb, fun h => ?_⟩
  have e := neg_div (a := -x) hb
  rw [Int.neg_neg] at e
  have d := div_bd (a := -x) (by omega) hb
  have p := div_parts (-x) b
  have h0 := Int.emod_nonneg (-x) (Int.ne_of_gt hb)
  rw [e]
  split
  · next hz =>
    rw [hz] at p
    have : (-x) / b ≠ 0 := fun e0 => by rw [e0, Int.mul_zero] at p; omega
    omega
  · next hz =>
    have : (-x) / b < -x := by
      rcases Int.lt_or_eq_of_le d.2 with h2 | h2
      · exact h2
      · exfalso
        rw [h2] at p
        have hb1 : b ≠ 1 := fun e1 => by subst e1; omega
        have : 2 * (-x) ≤ b * (-x) := Int.mul_le_mul_of_nonneg_right (by omega) (by omega)
        omega
    omega

theorem inRange_eq (a b c : Int) : impl_inRange.f a b c = some (decide (b ≤ a ∧ a ≤ c)) := by
  unfold impl_inRange.f; by_cases h : b ≤ a <;> simp [h]

theorem l1In_eq (a b c : Int) : spec_l1In.f a b c = some (decide (b ≤ a ∧ a ≤ c)) := by
  unfold spec_l1In.f; by_cases h : b ≤ a <;> simp [h]

theorem within_eq (a b : Int) (h0 : 0 ≤ b) (h1 : b ≤ 9000000000000000000) : impl_within.f a b = some (decide (-b ≤ a ∧ a ≤ b)) := by
  unfold impl_within.f; rw [inRange_eq, w64 (by omega) (by omega)]; rfl

theorem codeIf_eq (b : Bool) (c : Int) : impl_codeIf.f b c = some (if b = true then c else 0) := by
  unfold impl_codeIf.f; cases b <;> rfl

theorem floorDiv_eq (x b : Int) (hb : 0 < b) (h0 : -9000000000000000000 ≤ x) (h1 : x ≤ 9000000000000000000) : impl_floorDiv.f x b = some (x / b) := by
  have e := floor_tdiv (x := x) hb
  have d := floor_bd (x := x) hb
  unfold impl_floorDiv.f
  rw [if_neg (by omega)]
  by_cases h : Int.tmod x b < 0
  · rw [if_pos h] at e ⊢
    rw [w64 (x := Int.tdiv x b) (by omega) (by omega), w64 (by omega) (by omega), e]
  · rw [if_neg h] at e ⊢
    rw [w64 (by omega) (by omega), e]

theorem ceilDiv_eq (x b : Int) (hb : 0 < b) (h0 : -9000000000000000000 ≤ x) (h1 : x ≤ 9000000000000000000) : impl_ceilDiv.f x b = some (-((-x) / b)) := by
  have d := floor_bd (x := -x) hb
  unfold impl_ceilDiv.f
  rw [w64 (by omega) (by omega), floorDiv_eq _ _ hb (by omega) (by omega)]
  simp only [Option.bind_some]
  rw [w64 (by omega) (by omega)]

theorem l1Ceil_eq (x b : Int) (hb : 0 < b) (h0 : 0 ≤ x) (h1 : x + b ≤ 9000000000000000000) : spec_l1Ceil.f x b = some (-((-x) / b)) := by
  have e := ceil_div (a := x) hb
  have d := div_bd (a := x + b - 1) (by omega) hb
  unfold spec_l1Ceil.f
  rw [if_neg (by omega), w64 (x := x + b) (by omega) (by omega), w64 (x := x + b - 1) (by omega) (by omega), tdiv_pos (by omega), w64 (by omega) (by omega), e]

theorem tenOf_eq (x : Int) (h0 : -7000000000000000000 ≤ x) (h1 : x ≤ 8000000000000000000) : impl_tenOf.f x = some ((x + 512) / 1024) := by
  unfold impl_tenOf.f
  rw [w64 (by omega) (by omega)]

theorem wideFault_eq (a b : Int) : impl_wideFault.f a b = some (if (-137438953472 ≤ a ∧ a ≤ 137438953472) ∧ (-137438953472 ≤ b ∧ b ≤ 137438953472) then 0 else 3) := by
  unfold impl_wideFault.f; rw [within_eq _ _ (by omega) (by omega), within_eq _ _ (by omega) (by omega)]; simp only [Option.bind_some, codeIf_eq]
  by_cases h : (-137438953472 ≤ a ∧ a ≤ 137438953472) <;> by_cases h2 : (-137438953472 ≤ b ∧ b ≤ 137438953472) <;> simp [h, h2]

theorem part_eq (s d : Int) (hs : -1000000000000000000 ≤ s ∧ s ≤ 1000000000000000000) (hd : -1000000000000000000 ≤ d ∧ d ≤ 1000000000000000000) : impl_part.f s d = some (s - d / 2 + d, s - d / 2) := by
  unfold impl_part.f
  rw [floorDiv_eq _ _ (by omega) (by omega) (by omega)]
  simp only [Option.bind_some]
  rw [w64 (x := s - d / 2) (by omega) (by omega), w64 (by omega) (by omega)]

theorem rd_nat (xs : List Int) (i : Nat) : rd xs (i : Int) = xs.getD i 0 := by unfold rd; rw [Int.toNat_natCast]
theorem rd_get (xs : List Int) (i : Nat) (h : i < xs.length) : rd xs (i : Int) = xs[i] := by
  rw [rd_nat, List.getD_eq_getElem?_getD, List.getElem?_eq_getElem h]; rfl
theorem w64_succ (i : Nat) (h : i ≤ 4000000000000000000) : wrap64 ((i : Int) + 1) = ((i + 1 : Nat) : Int) := by
  rw [w64 (by omega) (by omega)]; omega
theorem u8_of_wf {x : Int} (h : (Lit.int .u8 x).wf = true) : 0 ≤ x ∧ x < 256 := by
  have := h
  simp [Lit.wf, IntKind.min, IntKind.max, IntKind.bits, IntKind.signed] at this
  omega
def Bytes (xs : List Int) : Prop := ∀ x ∈ xs, 0 ≤ x ∧ x < 256
theorem Bytes.rd {xs : List Int} (h : Bytes xs) (i : Nat) : 0 ≤ rd xs (i : Int) ∧ rd xs (i : Int) < 256 := by
  rw [rd_nat, List.getD_eq_getElem?_getD]
  by_cases hi : i < xs.length
  · rw [List.getElem?_eq_getElem hi]; exact h _ (List.getElem_mem hi)
  · rw [List.getElem?_eq_none (by omega)]; exact ⟨by simp, by simp⟩

theorem rd_bd {c : List Int} (hc : Bytes c) (i : Int) : 0 ≤ rd c i ∧ rd c i ≤ 255 := by
  unfold rd
  rw [List.getD_eq_getElem?_getD]
  by_cases h : i.toNat < c.length
  · rw [List.getElem?_eq_getElem h]
    have := hc _ (List.getElem_mem h)
    simp only [Option.getD_some]
    omega
  · rw [List.getElem?_eq_none (by omega)]
    simp
theorem tmod_bd {a : Int} (h : 0 ≤ a) {b : Int} (hb : 0 < b) : 0 ≤ Int.tmod a b ∧ Int.tmod a b < b := by
  rw [tmod_pos h]
  exact ⟨Int.emod_nonneg _ (by omega), Int.emod_lt_of_pos _ hb⟩
theorem l1Next_ok {c : List Int} (hc : Bytes c) (at' n : Int) (h0 : 0 ≤ at') (h1 : at' ≤ 1073741824) :
    ∃ v, spec_l1Next.f c at' n = some (v, at' + 1) ∧ (1 ≤ n → 0 ≤ v ∧ v < n) ∧ (n < 1 → v = 0) := by
  have e1 : wrap64 (at' + 1) = at' + 1 := w64 (by omega) (by omega)
  have e2 : at' + 1 - 1 = at' := by omega
  have e3 : wrap64 at' = at' := w64 (by omega) (by omega)
  have e4 : wrap64 (at' + 2) = at' + 2 := w64 (by omega) (by omega)
  unfold spec_l1Next.f
  simp only [e1, e2, e3, e4]
  by_cases hn1 : n < 1
  · rw [if_pos hn1]
    exact ⟨0, rfl, fun h => by omega, fun _ => rfl⟩
  · rw [if_neg hn1]
    by_cases hl : (c.length : Int) = 0
    · rw [if_pos hl, if_neg (by omega), w64 (x := at' * 7) (by omega) (by omega)]
      exact ⟨_, rfl, fun _ => tmod_bd (by omega) (by omega), fun h => absurd h hn1⟩
    · rw [if_neg hl]
      have hL : 0 < (c.length : Int) := by omega
      have q0 := tmod_bd h0 hL
      have q1 := tmod_bd (show 0 ≤ at' + 1 by omega) hL
      have q2 := tmod_bd (show 0 ≤ at' + 2 by omega) hL
      have hd := div_bd h0 hL
      rw [← tdiv_pos h0] at hd
      have r0 := rd_bd hc (Int.tmod at' c.length)
      have r1 := rd_bd hc (Int.tmod (at' + 1) c.length)
      have r2 := rd_bd hc (Int.tmod (at' + 2) c.length)
      rw [if_pos q0.1, if_pos q0.2, if_pos q1.1, if_pos q1.2, if_pos q2.1, if_pos q2.2]
      generalize rd c (Int.tmod at' c.length) = R0 at r0 ⊢
      generalize rd c (Int.tmod (at' + 1) c.length) = R1 at r1 ⊢
      generalize rd c (Int.tmod (at' + 2) c.length) = R2 at r2 ⊢
      generalize Int.tdiv at' c.length = D at hd ⊢
      simp (disch := omega) only [w64]
      simp only [if_neg (show ¬ n = 0 by omega)]
      by_cases g1 : n > 200
      · by_cases g2 : n > 60000
        · simp only [if_pos g1, if_pos g2]
          exact ⟨_, rfl, fun _ => tmod_bd (by omega) (by omega), fun h => absurd h hn1⟩
        · simp only [if_pos g1, if_neg g2]
          exact ⟨_, rfl, fun _ => tmod_bd (by omega) (by omega), fun h => absurd h hn1⟩
      · by_cases g2 : n > 60000
        · omega
        · simp only [if_neg g1, if_neg g2]
          exact ⟨_, rfl, fun _ => tmod_bd (by omega) (by omega), fun h => absurd h hn1⟩

theorem l1Pick_ok {c : List Int} (hc : Bytes c) (at' : Int) (xs : List Int) (h0 : 0 ≤ at') (h1 : at' ≤ 1073741824) (hx : 1 ≤ xs.length) :
    ∃ v, spec_l1Pick.f c at' xs = some (v, at' + 1) ∧ v ∈ xs := by
  obtain ⟨v, e, hv, _⟩ := l1Next_ok hc at' (xs.length : Int) h0 h1
  have hv := hv (by omega)
  refine ⟨rd xs v, ?_, ?_⟩
  · unfold spec_l1Pick.f
    rw [e]
    simp only [Option.bind_some]
    rw [if_pos hv.1, if_pos hv.2]
  · unfold rd
    rw [List.getD_eq_getElem?_getD, List.getElem?_eq_getElem (show v.toNat < xs.length by omega)]
    exact List.getElem_mem _

theorem l1Signed_ok {c : List Int} (hc : Bytes c) (at' n : Int) (h0 : 0 ≤ at') (h1 : at' ≤ 1073741824) (hn : 0 ≤ n) (hn2 : n ≤ 1152921504606846976) :
    ∃ v, spec_l1Signed.f c at' n = some (v, at' + 1) ∧ -n ≤ v ∧ v ≤ n := by
  obtain ⟨v, e, hv, _⟩ := l1Next_ok hc at' (2 * n + 1) h0 h1
  have hv := hv (by omega)
  refine ⟨v - n, ?_, by omega, by omega⟩
  unfold spec_l1Signed.f
  rw [w64 (x := 2 * n) (by omega) (by omega), w64 (x := 2 * n + 1) (by omega) (by omega), e]
  simp only [Option.bind_some]
  rw [w64 (by omega) (by omega)]

def sizeF (a : Int) : Int := if a = 4 then 0 else if a = 8 then 0 else if a = 16 then 0 else 3
theorem sizeF_cases (a : Int) : (sizeF a = 0 ∧ (a = 4 ∨ a = 8 ∨ a = 16)) ∨ (sizeF a = 3 ∧ a ≠ 4 ∧ a ≠ 8 ∧ a ≠ 16) := by
  unfold sizeF
  by_cases h1 : a = 4
  · simp [h1]
  · by_cases h2 : a = 8
    · simp [h2]
    · by_cases h3 : a = 16 <;> simp [h1, h2, h3]
theorem drop_rd' (xs : List Int) (i : Nat) (h : i < xs.length) : xs.drop i = rd xs (i : Int) :: xs.drop (i + 1) := by
  rw [rd_get xs i h]; exact List.drop_eq_getElem_cons h
def nz : List Int → Int
  | [] => 0
  | x :: xs => if x = 0 then nz xs else x

theorem spec_SizeFault_eq (a : Int) : spec_SizeFault.f a = some (sizeF a) := by
  unfold spec_SizeFault.f sizeF
  by_cases h1 : a = 4
  · simp [h1]
  · by_cases h2 : a = 8
    · simp [h2]
    · by_cases h3 : a = 16 <;> simp [h1, h2, h3]

theorem impl_SizeFault_eq (a : Int) : impl_SizeFault.f a = some (sizeF a) := by
  unfold impl_SizeFault.f sizeF
  by_cases h1 : a = 4
  · simp [h1]
  · by_cases h2 : a = 8
    · simp [h2]
    · by_cases h3 : a = 16 <;> simp [h1, h2, h3]

theorem first_l0 (xs : List Int) (hn : xs.length ≤ 1000) : ∀ (d i k : Nat), i + d = xs.length → d < k → impl_first.l0 k xs (xs.length : Int) (i : Int) = some (nz (xs.drop i)) := by
  intro d
  induction d with
  | zero =>
    intro i k hi hk
    obtain ⟨k, rfl⟩ : ∃ m, k = m + 1 := ⟨k - 1, by omega⟩
    simp only [impl_first.l0]
    rw [if_neg (by omega), List.drop_of_length_le (by omega)]; rfl
  | succ d ih =>
    intro i k hi hk
    obtain ⟨k, rfl⟩ : ∃ m, k = m + 1 := ⟨k - 1, by omega⟩
    simp only [impl_first.l0]
    rw [if_pos (by omega), if_pos (by omega), if_pos (by omega), drop_rd' xs i (by omega), nz]
    by_cases h : rd xs (i : Int) = 0
    · rw [if_pos h, if_pos h, w64_succ _ (by omega)]
      exact ih (i + 1) k (by omega) (by omega)
    · rw [if_neg h, if_neg h]
theorem first_eq (xs : List Int) (hn : xs.length ≤ 1000) (k : Nat) (hk : xs.length < k) : impl_first.f k xs = some (nz xs) :=
  first_l0 xs hn xs.length 0 k (by omega) hk

def tn (x : Int) : Int := (x + 512) / 1024
theorem mul_bd {p b M : Int} (hp : 0 ≤ p) (hp2 : p ≤ 1024) (hb : -M ≤ b) (hb2 : b ≤ M) : -(1024 * M) ≤ p * b ∧ p * b ≤ 1024 * M := by
  have h1 := Int.mul_le_mul_of_nonneg_left hb2 hp
  have h2 := Int.mul_le_mul_of_nonneg_left hb hp
  have h3 := Int.mul_le_mul_of_nonneg_right hp2 (show 0 ≤ M by omega)
  rw [Int.mul_neg] at h2
  omega
theorem tn_bd {x M : Int} (h0 : -(1024 * M) ≤ x) (h1 : x ≤ 1024 * M) : -M ≤ tn x ∧ tn x ≤ M := by unfold tn; omega
def back (p u a b : Int) : Int × Int :=
  (a + tn (p * b) + tn (p * (b - tn (u * (a + tn (p * b))))), b - tn (u * (a + tn (p * b))))
def Valid (s n : Int) : Prop := (s = 4 ∧ (n = 0 ∨ n = 1)) ∨ (s = 8 ∧ (n = 0 ∨ n = 1 ∨ n = 2 ∨ n = 3)) ∨ (s = 16 ∧ (n = 0 ∨ n = 1 ∨ n = 2 ∨ n = 3 ∨ n = 4 ∨ n = 5 ∨ n = 6 ∨ n = 7))
def tfault (s n : Int) : Int := if sizeF s = 0 then (if 0 ≤ n ∧ n ≤ wrap64 (wrap64 (Int.tdiv s 2) - 1) then 0 else 3) else 3
theorem tfault_cases (s n : Int) : (tfault s n = 0 ∧ Valid s n) ∨ tfault s n = 3 := by
  unfold tfault
  rcases sizeF_cases s with ⟨h, hc⟩ | ⟨h, _⟩
  · rw [if_pos h]
    by_cases hn : 0 ≤ n ∧ n ≤ wrap64 (wrap64 (Int.tdiv s 2) - 1)
    · rw [if_pos hn]
      refine .inl ⟨rfl, ?_⟩
      unfold Valid
      rcases hc with rfl | rfl | rfl
      · have e : wrap64 (wrap64 (Int.tdiv 4 2) - 1) = 1 := by unfold wrap64; decide
        rw [e] at hn; omega
      · have e : wrap64 (wrap64 (Int.tdiv 8 2) - 1) = 3 := by unfold wrap64; decide
        rw [e] at hn; omega
      · have e : wrap64 (wrap64 (Int.tdiv 16 2) - 1) = 7 := by unfold wrap64; decide
        rw [e] at hn; omega
    · rw [if_neg hn]; exact .inr rfl
  · rw [if_neg (by omega)]; exact .inr rfl

def pu (s n : Int) : Int × Int := (impl_turnOf.f s n).getD (0, 0)
theorem turnOf_eq {s n : Int} (h : Valid s n) : impl_turnOf.f s n = some (pu s n) ∧ (0 ≤ (pu s n).1 ∧ (pu s n).1 ≤ 1024) ∧ (0 ≤ (pu s n).2 ∧ (pu s n).2 ≤ 1024) := by
  unfold Valid at h
  rcases h with ⟨rfl, rfl | rfl⟩ | ⟨rfl, rfl | rfl | rfl | rfl⟩ | ⟨rfl, rfl | rfl | rfl | rfl | rfl | rfl | rfl | rfl⟩ <;> exact ⟨rfl, by decide, by decide⟩

theorem turnFault_eq (s n : Int) (k : Nat) (hk : 10 < k) : impl_turnFault.f k s n = some (tfault s n) := by
  unfold impl_turnFault.f
  rw [impl_SizeFault_eq, inRange_eq]
  simp only [Option.bind_some, codeIf_eq]
  rw [first_eq _ (by simp) k (by simp; omega)]
  simp only [Option.bind_some]
  congr 1
  unfold tfault
  rcases sizeF_cases s with ⟨h, _⟩ | ⟨h, _⟩
  · by_cases hn : 0 ≤ n ∧ n ≤ wrap64 (wrap64 (Int.tdiv s 2) - 1) <;> simp [nz, h, hn]
  · simp [nz, h]

theorem l5P_eq {s n : Int} (h : Valid s n) : spec_l5P.f s n = some (pu s n).1 := by
  unfold Valid at h
  rcases h with ⟨rfl, rfl | rfl⟩ | ⟨rfl, rfl | rfl | rfl | rfl⟩ | ⟨rfl, rfl | rfl | rfl | rfl | rfl | rfl | rfl | rfl⟩ <;> (unfold spec_l5P.f wrap64; decide)

theorem l5U_eq {s n : Int} (h : Valid s n) : spec_l5U.f s n = some (pu s n).2 := by
  unfold Valid at h
  rcases h with ⟨rfl, rfl | rfl⟩ | ⟨rfl, rfl | rfl | rfl | rfl⟩ | ⟨rfl, rfl | rfl | rfl | rfl | rfl | rfl | rfl | rfl⟩ <;> (unfold spec_l5U.f wrap64; decide)

theorem spec_TurnOf_eq (s n : Int) : spec_TurnOf.f s n = some (if tfault s n = 0 then (0, (pu s n).1, (pu s n).2) else (3, 0, 0)) := by
  unfold spec_TurnOf.f
  rw [spec_SizeFault_eq]
  simp only [Option.bind_some]
  rcases sizeF_cases s with ⟨h, _⟩ | ⟨h, _⟩
  · rw [if_pos h, l1In_eq]
    simp only [Option.bind_some]
    by_cases hn : 0 ≤ n ∧ n ≤ wrap64 (wrap64 (Int.tdiv s 2) - 1)
    · have ht : tfault s n = 0 := by unfold tfault; rw [if_pos h, if_pos hn]
      rcases tfault_cases s n with ⟨_, hv⟩ | h3
      · rw [if_pos (by simpa using hn), l5P_eq hv, l5U_eq hv, if_pos ht]; rfl
      · omega
    · have ht : tfault s n = 3 := by unfold tfault; rw [if_pos h, if_neg hn]
      rw [if_neg (by simpa using hn), ht]; rfl
  · have ht : tfault s n = 3 := by unfold tfault; rw [if_neg (by omega)]
    rw [h, ht]; rfl

theorem turn_back_eq (p u a b : Int) (hp : 0 ≤ p ∧ p ≤ 1024) (hu : 0 ≤ u ∧ u ≤ 1024) (ha : -1125899906842624 ≤ a ∧ a ≤ 1125899906842624) (hb : -1125899906842624 ≤ b ∧ b ≤ 1125899906842624) : impl_turn_back.f p u a b = some (back p u a b) := by
  have m1 := mul_bd hp.1 hp.2 hb.1 hb.2
  have t1 := tn_bd m1.1 m1.2
  have m2 := mul_bd (b := a + tn (p * b)) (M := 2251799813685248) hu.1 hu.2 (by omega) (by omega)
  have t2 := tn_bd m2.1 m2.2
  have m3 := mul_bd (b := b - tn (u * (a + tn (p * b)))) (M := 4503599627370496) hp.1 hp.2 (by omega) (by omega)
  have t3 := tn_bd m3.1 m3.2
  unfold impl_turn_back.f
  rw [w64 (x := p * b) (by omega) (by omega), tenOf_eq _ (by omega) (by omega)]
  simp only [Option.bind_some]
  rw [show (p * b + 512) / 1024 = tn (p * b) from rfl, w64 (x := a + tn (p * b)) (by omega) (by omega), w64 (x := u * (a + tn (p * b))) (by omega) (by omega), tenOf_eq _ (by omega) (by omega)]
  simp only [Option.bind_some]
  rw [show (u * (a + tn (p * b)) + 512) / 1024 = tn (u * (a + tn (p * b))) from rfl, w64 (x := b - tn (u * (a + tn (p * b)))) (by omega) (by omega), w64 (x := p * (b - tn (u * (a + tn (p * b))))) (by omega) (by omega), tenOf_eq _ (by omega) (by omega)]
  simp only [Option.bind_some]
  rw [show (p * (b - tn (u * (a + tn (p * b)))) + 512) / 1024 = tn (p * (b - tn (u * (a + tn (p * b))))) from rfl, w64 (by omega) (by omega)]
  rfl

def pairF (s n a b : Int) (r : Int × Int) : Int × Int × Int := if tfault s n = 0 then (if (-137438953472 ≤ a ∧ a ≤ 137438953472) ∧ (-137438953472 ≤ b ∧ b ≤ 137438953472) then (0, r.1, r.2) else (3, 0, 0)) else (3, 0, 0)

theorem impl_BackPair_eq (s n a b : Int) (k : Nat) (hk : 10 < k) : impl_BackPair.f k s n a b = some (pairF s n a b (back (pu s n).1 (pu s n).2 a b)) := by
  unfold impl_BackPair.f pairF
  rw [turnFault_eq s n k hk, wideFault_eq]
  simp only [Option.bind_some]
  rw [first_eq _ (by simp) k (by simp; omega)]
  simp only [Option.bind_some]
  rcases tfault_cases s n with ⟨h, hv⟩ | h
  · by_cases hw : (-137438953472 ≤ a ∧ a ≤ 137438953472) ∧ (-137438953472 ≤ b ∧ b ≤ 137438953472)
    · obtain ⟨e, hp, hu⟩ := turnOf_eq hv
      simp only [if_pos h, if_pos hw, h, nz, if_true, e, Option.bind_some]
      rw [turn_back_eq _ _ a b hp hu (by omega) (by omega)]; rfl
    · simp only [if_pos h, if_neg hw, h, nz]; rfl
  · simp [h, nz]

def pmF (a b : Int) (r : Int × Int) : Int × Int × Int := if (-137438953472 ≤ a ∧ a ≤ 137438953472) ∧ (-137438953472 ≤ b ∧ b ≤ 137438953472) then (0, r.1, r.2) else (3, 0, 0)
theorem pmF_in {a b : Int} (h : (-137438953472 ≤ a ∧ a ≤ 137438953472) ∧ (-137438953472 ≤ b ∧ b ≤ 137438953472)) (r : Int × Int) : pmF a b r = (0, r.1, r.2) := by unfold pmF; rw [if_pos h]
theorem pmF_out {a b : Int} (h : ¬ ((-137438953472 ≤ a ∧ a ≤ 137438953472) ∧ (-137438953472 ≤ b ∧ b ≤ 137438953472))) (r : Int × Int) : pmF a b r = (3, 0, 0) := by unfold pmF; rw [if_neg h]

theorem impl_PartPair_eq (a b : Int) : impl_PartPair.f a b = some (pmF a b (a-b/2+b,a-b/2)) := by
  unfold impl_PartPair.f
  rw [wideFault_eq]
  simp only [Option.bind_some]
  by_cases h : (-137438953472 ≤ a ∧ a ≤ 137438953472) ∧ (-137438953472 ≤ b ∧ b ≤ 137438953472)
  · rw [pmF_in h, part_eq _ _ (by omega) (by omega)]
    simp [h]
  · rw [pmF_out h]
    simp [h]

def sh (f b : Int) : Int := -((-(f * b)) / 1024)
theorem sh_bd {f b : Int} (hf : 0 ≤ f) (hf2 : f ≤ 1024) (hb : 0 ≤ b) : 0 ≤ sh f b ∧ sh f b ≤ b ∧ 0 ≤ f * b ∧ f * b ≤ 1024 * b := by
  have h1 := Int.mul_le_mul_of_nonneg_right hf2 hb
  have h2 := Int.mul_nonneg hf hb
  unfold sh
  omega
def tb (p u a b : Int) : Int × Int := (a + sh p b + sh p (b + sh u (a + sh p b)), b + sh u (a + sh p b))

theorem l8Share_eq (f b : Int) (hf : 0 ≤ f ∧ f ≤ 1024) (hb : 0 ≤ b ∧ b ≤ 1125899906842624) : spec_l8Share.f f b = some (sh f b) := by
  have h := sh_bd hf.1 hf.2 hb.1
  unfold spec_l8Share.f
  rw [w64 (x := f * b) (by omega) (by omega), l1Ceil_eq _ _ (by omega) (by omega) (by omega)]
  rfl

theorem share_eq (f b : Int) (hf : 0 ≤ f ∧ f ≤ 1024) (hb : 0 ≤ b ∧ b ≤ 1125899906842624) : impl_share.f f b = some (sh f b) := by
  have h := sh_bd hf.1 hf.2 hb.1
  unfold impl_share.f
  rw [w64 (x := f * b) (by omega) (by omega), ceilDiv_eq _ _ (by omega) (by omega) (by omega)]
  rfl

theorem turn_bounds_eq (p u a b : Int) (hp : 0 ≤ p ∧ p ≤ 1024) (hu : 0 ≤ u ∧ u ≤ 1024) (ha : 0 ≤ a ∧ a ≤ 140737488355328) (hb : 0 ≤ b ∧ b ≤ 140737488355328) : impl_turn_bounds.f p u a b = some (tb p u a b) := by
  have h1 := sh_bd hp.1 hp.2 hb.1
  have h2 := sh_bd (b := a + sh p b) hu.1 hu.2 (by omega)
  have h3 := sh_bd (b := b + sh u (a + sh p b)) hp.1 hp.2 (by omega)
  unfold impl_turn_bounds.f
  rw [share_eq p b hp (by omega)]
  simp only [Option.bind_some]
  rw [w64 (x := a + sh p b) (by omega) (by omega), share_eq u _ hu (by omega)]
  simp only [Option.bind_some]
  rw [w64 (x := b + sh u (a + sh p b)) (by omega) (by omega), share_eq p _ hp (by omega)]
  simp only [Option.bind_some]
  rw [w64 (by omega) (by omega)]
  rfl

theorem l8Turn_eq {s n : Int} (hv : Valid s n) (a b : Int) (ha : 0 ≤ a ∧ a ≤ 140737488355328) (hb : 0 ≤ b ∧ b ≤ 140737488355328) : spec_l8Turn.f s n a b = some (tb (pu s n).1 (pu s n).2 a b) := by
  obtain ⟨_, hp, hu⟩ := turnOf_eq hv
  have eP := l5P_eq hv
  have eU := l5U_eq hv
  generalize (pu s n).1 = p at hp eP ⊢
  generalize (pu s n).2 = u at hu eU ⊢
  have h1 := sh_bd hp.1 hp.2 hb.1
  have h2 := sh_bd (b := a + sh p b) hu.1 hu.2 (by omega)
  have h3 := sh_bd (b := b + sh u (a + sh p b)) hp.1 hp.2 (by omega)
  unfold spec_l8Turn.f
  rw [eP, eU]
  simp only [Option.bind_some]
  rw [l8Share_eq p b hp (by omega)]
  simp only [Option.bind_some]
  rw [w64 (x := a + sh p b) (by omega) (by omega), l8Share_eq u _ hu (by omega)]
  simp only [Option.bind_some]
  rw [w64 (x := b + sh u (a + sh p b)) (by omega) (by omega), l8Share_eq p _ hp (by omega)]
  simp only [Option.bind_some]
  rw [w64 (by omega) (by omega)]
  rfl

theorem l8Bounds_eq (a b : Int) : spec_l8Bounds.f a b = some (decide ((0 ≤ a ∧ a ≤ 137438953472) ∧ (0 ≤ b ∧ b ≤ 137438953472))) := by
  unfold spec_l8Bounds.f
  rw [l1In_eq, l1In_eq]
  by_cases h : 0 ≤ a ∧ a ≤ 137438953472 <;> simp [h]

theorem boundFault_eq (a b : Int) : impl_boundFault.f a b = some (if (0 ≤ a ∧ a ≤ 137438953472) ∧ (0 ≤ b ∧ b ≤ 137438953472) then 0 else 3) := by
  unfold impl_boundFault.f
  rw [inRange_eq, inRange_eq]
  simp only [Option.bind_some, codeIf_eq]
  by_cases h : 0 ≤ a ∧ a ≤ 137438953472
  · by_cases g : 0 ≤ b ∧ b ≤ 137438953472 <;> simp [h, g]
  · simp [h]

def boundF (s n a b : Int) : Int × Int × Int := if tfault s n = 0 then (if (0 ≤ a ∧ a ≤ 137438953472) ∧ (0 ≤ b ∧ b ≤ 137438953472) then (0, (tb (pu s n).1 (pu s n).2 a b).1, (tb (pu s n).1 (pu s n).2 a b).2) else (3, 0, 0)) else (3, 0, 0)
theorem spec_TurnBounds_eq (s n a b : Int) : spec_TurnBounds.f s n a b = some (boundF s n a b) := by
  unfold spec_TurnBounds.f boundF
  rw [spec_TurnOf_eq]
  simp only [Option.bind_some]
  rcases tfault_cases s n with ⟨h, hv⟩ | h
  · simp only [if_pos h, if_true]
    rw [l8Bounds_eq]
    simp only [Option.bind_some]
    by_cases hw : (0 ≤ a ∧ a ≤ 137438953472) ∧ (0 ≤ b ∧ b ≤ 137438953472)
    · rw [if_pos (by simpa using hw), if_pos hw, l8Turn_eq hv a b (by omega) (by omega)]; rfl
    · rw [if_neg (by simpa using hw), if_neg hw]
  · simp [h]

theorem impl_TurnBounds_eq (s n a b : Int) (k : Nat) (hk : 10 < k) : impl_TurnBounds.f k s n a b = some (boundF s n a b) := by
  unfold impl_TurnBounds.f boundF
  rw [turnFault_eq s n k hk, boundFault_eq]
  simp only [Option.bind_some]
  rw [first_eq _ (by simp) k (by simp; omega)]
  simp only [Option.bind_some]
  rcases tfault_cases s n with ⟨h, hv⟩ | h
  · by_cases hw : (0 ≤ a ∧ a ≤ 137438953472) ∧ (0 ≤ b ∧ b ≤ 137438953472)
    · obtain ⟨e, hp, hu⟩ := turnOf_eq hv
      simp only [if_pos h, if_pos hw, h, nz, if_true, e, Option.bind_some]
      rw [turn_bounds_eq _ _ a b hp hu (by omega) (by omega)]; rfl
    · simp only [if_pos h, if_neg hw, h, nz]; rfl
  · simp [h, nz]

theorem lwAt_any {c : List Int} (hc : Bytes c) (a n : Int) (ha0 : 0 ≤ a) (ha1 : a ≤ 100000) : ∃ v, laws_lwAt.f c a n = some v ∧ 0 ≤ v ∧ (v < n ∨ v = 0) := by
  unfold laws_lwAt.f
  by_cases hn : n ≤ 1
  · rw [if_pos hn]; exact ⟨_, rfl, by omega, .inr rfl⟩
  · rw [if_neg hn]
    by_cases hl : (c.length : Int) = 0
    · rw [if_pos hl, if_neg (by omega), w64 (x := a * 7) (by omega) (by omega)]
      have q := tmod_bd (show (0 : Int) ≤ a * 7 by omega) (show 0 < n by omega)
      exact ⟨_, rfl, q.1, .inl q.2⟩
    · have hL : 0 < (c.length : Int) := by omega
      have q0 := tmod_bd ha0 hL
      have q1 := tmod_bd (show (0 : Int) ≤ a + 1 by omega) hL
      have hd := div_bd ha0 hL
      rw [← tdiv_pos ha0] at hd
      have r0 := rd_bd hc (Int.tmod a c.length)
      have r1 := rd_bd hc (Int.tmod (a + 1) c.length)
      rw [if_neg hl, w64 (x := a + 1) (by omega) (by omega), if_pos q0.1, if_pos q0.2]
      generalize rd c (Int.tmod a c.length) = R0 at r0 ⊢
      generalize rd c (Int.tmod (a + 1) c.length) = R1 at r1 ⊢
      generalize Int.tdiv a c.length = D at hd ⊢
      have e1 : wrap64 R0 = R0 := w64 (by omega) (by omega)
      have e2 : wrap64 D = D := w64 (by omega) (by omega)
      have e3 : wrap64 (D * 3) = D * 3 := w64 (by omega) (by omega)
      have e4 : wrap64 (R0 + D * 3) = R0 + D * 3 := w64 (by omega) (by omega)
      have e5 : wrap64 ((R0 + D * 3) * 251) = (R0 + D * 3) * 251 := w64 (by omega) (by omega)
      have e6 : wrap64 R1 = R1 := w64 (by omega) (by omega)
      have e7 : wrap64 ((R0 + D * 3) * 251 + R1) = (R0 + D * 3) * 251 + R1 := w64 (by omega) (by omega)
      simp only [e1, e2, e3, e4, e5, e6, e7]
      by_cases g : n > 200
      · rw [if_pos g, if_pos q1.1, if_pos q1.2, if_neg (by omega)]
        have q := tmod_bd (show 0 ≤ (R0 + D * 3) * 251 + R1 by omega) (show 0 < n by omega)
        exact ⟨_, rfl, q.1, .inl q.2⟩
      · rw [if_neg g, if_neg (by omega)]
        have q := tmod_bd (show 0 ≤ R0 + D * 3 by omega) (show 0 < n by omega)
        exact ⟨_, rfl, q.1, .inl q.2⟩
def Near (x b y : Int) : Prop := 0 ≤ b → b ≤ 1099511627776 → -1099511627776 ≤ x → x ≤ 1099511627776 → -b ≤ y - x ∧ y - x ≤ b
theorem bent_j1 {c : List Int} (hc : Bytes c) (xs bs : List Int) (fr : Int) (hf : 0 ≤ fr) (hf2 : fr ≤ 1000) (i : Nat) (ys : List Int) (k : Nat) (hi : i < xs.length) (hb : i < bs.length) (hx : xs.length ≤ 1000) (hy : ys.length ≤ 1000) :
    ∃ y, Near (rd xs (i : Int)) (rd bs (i : Int)) y ∧ laws_lwBent.j1 (k + 1) xs bs c fr ys (i : Int) true = laws_lwBent.l0 k xs bs c fr (ys ++ [y]) ((i + 1 : Nat) : Int) := by
  generalize hX : rd xs (i : Int) = x
  generalize hB : rd bs (i : Int) = b
  obtain ⟨v, ev, v0, v1⟩ := lwAt_any hc (fr + (i : Int)) (wrap64 (wrap64 (2 * b) + 1)) (by omega) (by omega)
  obtain ⟨v2, ev2, _⟩ := lwAt_any hc (fr + (i : Int) + 1) 3 (by omega) (by omega)
  obtain ⟨v3, ev3, _⟩ := lwAt_any hc (fr + (i : Int) + 2) 5 (by omega) (by omega)
  have e1 : wrap64 (fr + (i : Int)) = fr + (i : Int) := w64 (by omega) (by omega)
  have e2 : wrap64 (fr + (i : Int) + 1) = fr + (i : Int) + 1 := w64 (by omega) (by omega)
  have e3 : wrap64 (fr + (i : Int) + 2) = fr + (i : Int) + 2 := w64 (by omega) (by omega)
  have hn : Near x b (wrap64 (x + wrap64 (-b))) := fun b0 b1 x0 x1 => by
    rw [w64 (x := -b) (by omega) (by omega), w64 (by omega) (by omega)]; omega
  have hp : Near x b (wrap64 (x + b)) := fun b0 b1 x0 x1 => by
    rw [w64 (by omega) (by omega)]; omega
  have hm : Near x b (wrap64 (x + wrap64 (v - b))) := fun b0 b1 x0 x1 => by
    rw [w64 (x := 2 * b) (by omega) (by omega), w64 (x := 2 * b + 1) (by omega) (by omega)] at v1
    rw [w64 (x := v - b) (by omega) (by omega), w64 (by omega) (by omega)]; omega
  simp only [laws_lwBent.j1, hX, hB, e1, e2, e3, ev, ev2, ev3, Option.bind_some, w64_succ i (show i ≤ 4000000000000000000 by omega)]
  rw [if_pos trivial, if_pos (show (0 : Int) ≤ (i : Int) by omega), if_pos (show (i : Int) < (bs.length : Int) by omega)]
  by_cases g2 : v2 = 0
  · rw [if_pos g2]
    by_cases g3 : v3 = 0
    · rw [if_pos g3, if_pos (show (i : Int) < (xs.length : Int) by omega), if_pos (show ys.length < 17592186044416 by omega)]
      exact ⟨_, hn, rfl⟩
    · rw [if_neg g3, if_pos (show (i : Int) < (xs.length : Int) by omega), if_pos (show ys.length < 17592186044416 by omega)]
      exact ⟨_, hp, rfl⟩
  · rw [if_neg g2]
    by_cases g3 : v3 = 0
    · rw [if_pos g3, if_pos (show (i : Int) < (xs.length : Int) by omega), if_pos (show ys.length < 17592186044416 by omega)]
      exact ⟨_, hn, rfl⟩
    · rw [if_neg g3, if_pos (show (i : Int) < (xs.length : Int) by omega), if_pos (show ys.length < 17592186044416 by omega)]
      exact ⟨_, hm, rfl⟩
theorem bent_l0 {c : List Int} (hc : Bytes c) (xs bs : List Int) (fr : Int) (hf : 0 ≤ fr) (hf2 : fr ≤ 1000) (hl : bs.length = xs.length) (hx : xs.length ≤ 1000) : ∀ (d i : Nat) (ys : List Int) (k : Nat), i + d = xs.length → 2 * d + 2 < k → ys.length = i → (∀ j : Nat, j < i → Near (rd xs (j : Int)) (rd bs (j : Int)) (rd ys (j : Int))) →
    ∃ zs, laws_lwBent.l0 k xs bs c fr ys (i : Int) = some zs ∧ zs.length = xs.length ∧ ∀ j : Nat, j < xs.length → Near (rd xs (j : Int)) (rd bs (j : Int)) (rd zs (j : Int)) := by
  intro d
  induction d with
  | zero =>
    intro i ys k hi hk hy hn
    obtain ⟨k, rfl⟩ : ∃ q, k = q + 1 + 1 := ⟨k - 2, by omega⟩
    refine ⟨ys, ?_, by omega, fun j hj => hn j (by omega)⟩
    rw [laws_lwBent.l0, if_neg (by omega)]
    simp only [laws_lwBent.j1]
    rw [if_neg (by decide)]
  | succ d ih =>
    intro i ys k hi hk hy hn
    obtain ⟨k, rfl⟩ : ∃ q, k = q + 1 + 1 := ⟨k - 2, by omega⟩
    obtain ⟨y, hN, e⟩ := bent_j1 hc xs bs fr hf hf2 i ys k (by omega) (by omega) hx (by omega)
    rw [laws_lwBent.l0, if_pos (by omega), decide_eq_true (show (i : Int) < (bs.length : Int) by omega), e]
    refine ih (i + 1) (ys ++ [y]) k (by omega) (by omega) (by simp [hy]) (fun j hj => ?_)
    by_cases q : j < i
    · have : rd (ys ++ [y]) (j : Int) = rd ys (j : Int) := by
        rw [rd_nat, rd_nat, List.getD_eq_getElem?_getD, List.getD_eq_getElem?_getD, List.getElem?_append_left (by omega)]
      rw [this]; exact hn j q
    · have ej : j = i := by omega
      have : rd (ys ++ [y]) (j : Int) = y := by
        rw [rd_nat, List.getD_eq_getElem?_getD, List.getElem?_append_right (by omega), ej, hy]; simp
      rw [this, ej]; exact hN
theorem bent_ok {c : List Int} (hc : Bytes c) (xs bs : List Int) (fr : Int) (hf : 0 ≤ fr) (hf2 : fr ≤ 1000) (hl : bs.length = xs.length) (hx : xs.length ≤ 1000) (k : Nat) (hk : 2 * xs.length + 2 < k) :
    ∃ zs, laws_lwBent.f k xs bs c fr = some zs ∧ zs.length = xs.length ∧ ∀ j : Nat, j < xs.length → Near (rd xs (j : Int)) (rd bs (j : Int)) (rd zs (j : Int)) :=
  bent_l0 hc xs bs fr hf hf2 hl hx xs.length 0 [] k (by omega) hk rfl (fun j hj => by omega)

theorem l8Some_ok {c : List Int} (hc : Bytes c) (at' : Int) (h0 : 0 ≤ at') (h1 : at' ≤ 1073741000) : ∃ v, spec_l8Some.f c at' = some (v, at' + 4) := by
  unfold spec_l8Some.f
  obtain ⟨v1, e1, _⟩ := l1Next_ok hc at' 9 h0 (by omega)
  obtain ⟨v2, e2, _⟩ := l1Next_ok hc (at' + 1) 500 (by omega) (by omega)
  obtain ⟨v3, e3, _⟩ := l1Next_ok hc (at' + 1 + 1) 40000 (by omega) (by omega)
  rw [e1]; simp only [Option.bind_some]
  rw [e2]; simp only [Option.bind_some]
  rw [e3]; simp only [Option.bind_some]
  obtain ⟨v4, e4, _⟩ := l1Pick_ok hc (at' + 1 + 1 + 1) [0, 0, 1, 2, v1, v2, v3] (by omega) (by omega) (by simp)
  rw [e4]; simp only [Option.bind_some]
  exact ⟨v4, by rw [show at' + 1 + 1 + 1 + 1 = at' + 4 by omega]⟩
theorem drawTurn_ok {c : List Int} (hc : Bytes c) : ∃ s n, spec_DrawTurnOf.f c = some (s, n) := by
  unfold spec_DrawTurnOf.f spec_l1Source.f spec_l1BentSize.f
  simp only [Option.bind_some]
  obtain ⟨s, e1, _⟩ := l1Pick_ok hc 0 [4, 8, 16, 8, 4, 8, 16, 8, 4, 8, 16, 8, 0, 5, 32] (by omega) (by omega) (by simp)
  rw [e1]; simp only [Option.bind_some]
  obtain ⟨n, e2, _⟩ := l1Pick_ok hc (0 + 1) [0, 1, 2, 3, 4, 5, 6, 7, 0, 1, 8, -1] (by omega) (by omega) (by simp)
  rw [e2]; simp only [Option.bind_some]
  exact ⟨s, n, rfl⟩
theorem drawBounds_ok {c : List Int} (hc : Bytes c) : ∃ s n a b, spec_DrawTurnBounds.f c = some (s, n, a, b) := by
  obtain ⟨s, n, eT⟩ := drawTurn_ok hc
  unfold spec_DrawTurnBounds.f spec_l1Source.f
  simp only [Option.bind_some]
  rw [eT]; simp only [Option.bind_some]
  obtain ⟨v1, e1⟩ := l8Some_ok hc 0 (by omega) (by omega)
  obtain ⟨v2, e2⟩ := l8Some_ok hc (0 + 4) (by omega) (by omega)
  obtain ⟨v3, e3⟩ := l8Some_ok hc (0 + 4 + 4) (by omega) (by omega)
  rw [e1]; simp only [Option.bind_some]
  rw [e2]; simp only [Option.bind_some]
  rw [e3]; simp only [Option.bind_some]
  obtain ⟨v4, e4, _⟩ := l1Pick_ok hc (0 + 4 + 4 + 4) [v1, v2, v3, 137438953472, 137438953473, -1] (by omega) (by omega) (by simp)
  rw [e4]; simp only [Option.bind_some]
  obtain ⟨v5, e5⟩ := l8Some_ok hc (0 + 4 + 4 + 4 + 1) (by omega) (by omega)
  obtain ⟨v6, e6⟩ := l8Some_ok hc (0 + 4 + 4 + 4 + 1 + 4) (by omega) (by omega)
  obtain ⟨v7, e7⟩ := l8Some_ok hc (0 + 4 + 4 + 4 + 1 + 4 + 4) (by omega) (by omega)
  rw [e5]; simp only [Option.bind_some]
  rw [e6]; simp only [Option.bind_some]
  rw [e7]; simp only [Option.bind_some]
  obtain ⟨v8, e8, _⟩ := l1Pick_ok hc (0 + 4 + 4 + 4 + 1 + 4 + 4 + 4) [v5, v6, v7, 137438953472, -1] (by omega) (by omega) (by simp)
  rw [e8]; simp only [Option.bind_some]
  exact ⟨_, _, _, _, rfl⟩
def partR (a b : Int) : Int × Int × Int := if (0 ≤ a ∧ a ≤ 137438953472) ∧ (0 ≤ b ∧ b ≤ 137438953472) then (0, a + -((-b) / 2), a + -((-b) / 2)) else (3, 0, 0)
theorem partR_both (a b : Int) : spec_PartBounds.f a b = some (partR a b) ∧ impl_PartBounds.f a b = some (partR a b) := by
  unfold spec_PartBounds.f impl_PartBounds.f spec_l8Bounds.f impl_boundFault.f impl_partBounds.f partR
  rw [l1In_eq, l1In_eq, inRange_eq, inRange_eq]
  simp only [Option.bind_some, codeIf_eq]
  by_cases h : 0 ≤ a ∧ a ≤ 137438953472
  · by_cases g : 0 ≤ b ∧ b ≤ 137438953472
    · rw [l1Ceil_eq _ _ (by omega) (by omega) (by omega), ceilDiv_eq _ _ (by omega) (by omega) (by omega)]
      have w : wrap64 (a + -(-b / 2)) = a + -(-b / 2) := w64 (by omega) (by omega)
      simp [h, g, w]
    · simp [h, g]
  · simp [h]
theorem tn_diff {x y M : Int} (h1 : -M ≤ x - y) (h2 : x - y ≤ M) : tn x - tn y ≤ -((-M) / 1024) ∧ -(-((-M) / 1024)) ≤ tn x - tn y := by
  unfold tn; omega
theorem mul_diff {f x y e : Int} (hf : 0 ≤ f) (h1 : -e ≤ x - y) (h2 : x - y ≤ e) : -(f * e) ≤ f * x - f * y ∧ f * x - f * y ≤ f * e := by
  have a1 := Int.mul_le_mul_of_nonneg_left h1 hf
  have a2 := Int.mul_le_mul_of_nonneg_left h2 hf
  rw [Int.mul_sub] at a1 a2
  rw [Int.mul_neg] at a1
  exact ⟨a1, a2⟩
theorem tn_sh {f x y e : Int} (hf : 0 ≤ f) (h1 : -e ≤ x - y) (h2 : x - y ≤ e) : -(sh f e) ≤ tn (f * x) - tn (f * y) ∧ tn (f * x) - tn (f * y) ≤ sh f e := by
  have m := mul_diff hf h1 h2
  have t := tn_diff m.1 m.2
  exact ⟨t.2, t.1⟩
theorem back_near {p u a b c d e f : Int} (hp : 0 ≤ p) (hu : 0 ≤ u) (h1 : -e ≤ a - c) (h2 : a - c ≤ e) (h3 : -f ≤ b - d) (h4 : b - d ≤ f) :
    (-(tb p u e f).1 ≤ (back p u a b).1 - (back p u c d).1 ∧ (back p u a b).1 - (back p u c d).1 ≤ (tb p u e f).1) ∧ (-(tb p u e f).2 ≤ (back p u a b).2 - (back p u c d).2 ∧ (back p u a b).2 - (back p u c d).2 ≤ (tb p u e f).2) := by
  have s1 := tn_sh hp h3 h4
  have k1 : -(e + sh p f) ≤ (a + tn (p * b)) - (c + tn (p * d)) := by omega
  have k2 : (a + tn (p * b)) - (c + tn (p * d)) ≤ e + sh p f := by omega
  have s2 := tn_sh hu k1 k2
  have k3 : -(f + sh u (e + sh p f)) ≤ (b - tn (u * (a + tn (p * b)))) - (d - tn (u * (c + tn (p * d)))) := by omega
  have k4 : (b - tn (u * (a + tn (p * b)))) - (d - tn (u * (c + tn (p * d)))) ≤ f + sh u (e + sh p f) := by omega
  have s3 := tn_sh hp k3 k4
  unfold back tb
  simp only
  omega
theorem abs_le {x M : Int} (h0 : -1099511627776 ≤ x) (h1 : x ≤ 1099511627776) (h2 : -M ≤ x) (h3 : x ≤ M) : ∃ v, laws_lwAbs.f (wrap64 x) = some v ∧ v ≤ M := by
  rw [w64 (by omega) (by omega)]
  unfold laws_lwAbs.f
  by_cases h : x < 0
  · rw [if_pos h, w64 (by omega) (by omega)]; exact ⟨_, rfl, by omega⟩
  · rw [if_neg h]; exact ⟨_, rfl, by omega⟩
theorem abs_some (x : Int) : ∃ v, laws_lwAbs.f x = some v := by
  unfold laws_lwAbs.f
  split <;> exact ⟨_, rfl⟩
theorem abs_small {x v : Int} (hx : -137438953473 ≤ x ∧ x ≤ 137438953473) (h : laws_lwAbs.f x = some v) (hv : v ≤ 268435456) : -268435456 ≤ x ∧ x ≤ 268435456 := by
  unfold laws_lwAbs.f at h
  by_cases g : x < 0
  · rw [if_pos g, w64 (by omega) (by omega)] at h; injection h with h; omega
  · rw [if_neg g] at h; injection h with h; omega
theorem j1_true (s n a b e f : Int) (zs : List Int) (t1 t2 t3 p1 p2 p3 : Int) (k : Nat) : laws_FnPairBounds.j1 (k + 1) s n a b e f zs true t1 t2 t3 p1 p2 p3 = some true := by
  simp only [laws_FnPairBounds.j1]
  rw [if_pos trivial]
theorem j1_false (s n a b e f : Int) (zs : List Int) (k : Nat) (hk : 100 ≤ k) (hz : zs.length = 2) (hv : Valid s n) (he : 0 ≤ e ∧ e ≤ 16777216) (hf : 0 ≤ f ∧ f ≤ 16777216) (ha : -268435456 ≤ a ∧ a ≤ 268435456) (hb : -268435456 ≤ b ∧ b ≤ 268435456)
    (h1 : -e ≤ rd zs 0 - a ∧ rd zs 0 - a ≤ e) (h2 : -f ≤ rd zs 1 - b ∧ rd zs 1 - b ≤ f) (hT : tfault s n = 0) :
    laws_FnPairBounds.j1 (k + 1 + 1) s n a b e f zs false (boundF s n e f).1 (boundF s n e f).2.1 (boundF s n e f).2.2 (partR e f).1 (partR e f).2.1 (partR e f).2.2 = some true := by
  obtain ⟨_, hp, hu⟩ := turnOf_eq hv
  have pa : pairF s n a b (back (pu s n).1 (pu s n).2 a b) = (0, (back (pu s n).1 (pu s n).2 a b).1, (back (pu s n).1 (pu s n).2 a b).2) := by
    unfold pairF; rw [if_pos hT, if_pos (by omega)]
  have pz : pairF s n (rd zs 0) (rd zs 1) (back (pu s n).1 (pu s n).2 (rd zs 0) (rd zs 1)) = (0, (back (pu s n).1 (pu s n).2 (rd zs 0) (rd zs 1)).1, (back (pu s n).1 (pu s n).2 (rd zs 0) (rd zs 1)).2) := by
    unfold pairF; rw [if_pos hT, if_pos (by omega)]
  have qa := pmF_in (a := a) (b := b) (by omega) (a - b / 2 + b, a - b / 2)
  have qz := pmF_in (a := rd zs 0) (b := rd zs 1) (by omega) (rd zs 0 - rd zs 1 / 2 + rd zs 1, rd zs 0 - rd zs 1 / 2)
  have et : boundF s n e f = (0, (tb (pu s n).1 (pu s n).2 e f).1, (tb (pu s n).1 (pu s n).2 e f).2) := by
    unfold boundF; rw [if_pos hT, if_pos (by omega)]
  have ep : partR e f = (0, e + -((-f) / 2), e + -((-f) / 2)) := by unfold partR; rw [if_pos (by omega)]
  have nr := back_near (p := (pu s n).1) (u := (pu s n).2) (a := a) (b := b) (c := rd zs 0) (d := rd zs 1) (e := e) (f := f) hp.1 hu.1 (by omega) (by omega) (by omega) (by omega)
  have sA := sh_bd hp.1 hp.2 hf.1
  have sB := sh_bd (f := (pu s n).2) (b := e + sh (pu s n).1 f) hu.1 hu.2 (by omega)
  have sC := sh_bd (f := (pu s n).1) (b := f + sh (pu s n).2 (e + sh (pu s n).1 f)) hp.1 hp.2 (by omega)
  have t1 : (tb (pu s n).1 (pu s n).2 e f).1 ≤ 1000000000 := by unfold tb; simp only; omega
  have t2 : (tb (pu s n).1 (pu s n).2 e f).2 ≤ 1000000000 := by unfold tb; simp only; omega
  rw [laws_FnPairBounds.j1, if_neg (by decide), impl_BackPair_eq _ _ _ _ (k + 1) (by omega), impl_BackPair_eq _ _ _ _ (k + 1) (by omega), impl_PartPair_eq, impl_PartPair_eq, pa, pz, qa, qz, et, ep]
  simp only [Option.bind_some]
  rw [if_pos (by omega), if_pos (by omega), if_pos trivial, if_pos trivial, if_pos trivial]
  rw [show ((0 : Int) != 0) = false from rfl]
  obtain ⟨v1, e1, l1⟩ := abs_le (x := (back (pu s n).1 (pu s n).2 a b).1 - (back (pu s n).1 (pu s n).2 (rd zs 0) (rd zs 1)).1) (M := (tb (pu s n).1 (pu s n).2 e f).1) (by omega) (by omega) nr.1.1 nr.1.2
  obtain ⟨v2, e2, l2⟩ := abs_le (x := (back (pu s n).1 (pu s n).2 a b).2 - (back (pu s n).1 (pu s n).2 (rd zs 0) (rd zs 1)).2) (M := (tb (pu s n).1 (pu s n).2 e f).2) (by omega) (by omega) nr.2.1 nr.2.2
  obtain ⟨v3, e3, l3⟩ := abs_le (x := a - b / 2 + b - (rd zs 0 - rd zs 1 / 2 + rd zs 1)) (M := e + -((-f) / 2)) (by omega) (by omega) (by omega) (by omega)
  obtain ⟨v4, e4, l4⟩ := abs_le (x := a - b / 2 - (rd zs 0 - rd zs 1 / 2)) (M := e + -((-f) / 2)) (by omega) (by omega) (by omega) (by omega)
  simp only [laws_FnPairBounds.j2]
  rw [if_neg (by decide), e1]
  simp only [Option.bind_some]
  rw [if_pos l1, e2]
  simp only [Option.bind_some]
  rw [if_pos l2, e3]
  simp only [Option.bind_some]
  rw [if_pos l3, e4]
  simp only [Option.bind_some]
  rw [if_pos l4, spec_TurnBounds_eq, et, (partR_both e f).1, ep]
  simp only [Option.bind_some]
  rw [if_pos trivial]
  simp
theorem j0_ok (c : List Int) (hc : Bytes c) (s n a b e f : Int) (hab : (-137438953473 ≤ a ∧ a ≤ 137438953473) ∧ (-137438953473 ≤ b ∧ b ≤ 137438953473)) (k : Nat) (hk : 200 ≤ k) :
    laws_FnPairBounds.j0 (k + 1 + 1 + 1) c s n a b e f false (boundF s n e f).1 (boundF s n e f).2.1 (boundF s n e f).2.2 (partR e f).1 (partR e f).2.1 (partR e f).2.2 = some true := by
  obtain ⟨zs, ez, hz, hn⟩ := bent_ok hc [a, b] [e, f] 3 (by omega) (by omega) rfl (by simp) (k + 1 + 1) (by simp; omega)
  have hz2 : zs.length = 2 := hz
  have n0 : Near a e (rd zs 0) := hn 0 (by simp)
  have n1 : Near b f (rd zs 1) := hn 1 (by simp)
  rw [laws_FnPairBounds.j0, if_neg (by decide), ez]
  simp only [Option.bind_some]
  by_cases ht : (boundF s n e f).1 = 0
  · rw [if_pos ht]
    by_cases hp : (partR e f).1 = 0
    · rw [if_pos hp]
      by_cases he : e > 16777216
      · rw [if_pos he]; exact j1_true _ _ _ _ _ _ _ _ _ _ _ _ _ _
      · rw [if_neg he]
        by_cases hf : f > 16777216
        · rw [if_pos hf]; exact j1_true _ _ _ _ _ _ _ _ _ _ _ _ _ _
        · rw [if_neg hf]
          obtain ⟨va, ea⟩ := abs_some a
          obtain ⟨vb, eb⟩ := abs_some b
          rw [ea]
          simp only [Option.bind_some]
          by_cases hva : va > 268435456
          · rw [if_pos hva]; exact j1_true _ _ _ _ _ _ _ _ _ _ _ _ _ _
          · rw [if_neg hva, eb]
            simp only [Option.bind_some]
            by_cases hvb : vb > 268435456
            · rw [decide_eq_true hvb]; exact j1_true _ _ _ _ _ _ _ _ _ _ _ _ _ _
            · rw [decide_eq_false hvb]
              have hT : tfault s n = 0 ∧ (0 ≤ e ∧ 0 ≤ f) := by
                unfold boundF at ht
                by_cases g : tfault s n = 0
                · rw [if_pos g] at ht
                  by_cases g2 : (0 ≤ e ∧ e ≤ 137438953472) ∧ (0 ≤ f ∧ f ≤ 137438953472)
                  · exact ⟨g, by omega⟩
                  · rw [if_neg g2] at ht; simp at ht
                · rw [if_neg g] at ht; simp at ht
              have hv : Valid s n := by
                rcases tfault_cases s n with ⟨_, h⟩ | h
                · exact h
                · omega
              have sa := abs_small hab.1 ea (by omega)
              have sb := abs_small hab.2 eb (by omega)
              exact j1_false s n a b e f zs k (by omega) hz2 hv (by omega) (by omega) sa sb (n0 (by omega) (by omega) (by omega) (by omega)) (n1 (by omega) (by omega) (by omega) (by omega)) hT.1
    · rw [if_neg hp]; exact j1_true _ _ _ _ _ _ _ _ _ _ _ _ _ _
  · rw [if_neg ht]; exact j1_true _ _ _ _ _ _ _ _ _ _ _ _ _ _
theorem l5Some_rng {c : List Int} (hc : Bytes c) (at' : Int) (h0 : 0 ≤ at') (h1 : at' ≤ 1073741000) :
    ∃ v, spec_l5Some.f c at' = some (v, at' + 5) ∧ -137438953472 ≤ v ∧ v ≤ 137438953472 := by
  unfold spec_l5Some.f
  obtain ⟨v1, e1, r1⟩ := l1Signed_ok hc at' 9 h0 (by omega) (by omega) (by omega)
  obtain ⟨v2, e2, r2⟩ := l1Signed_ok hc (at' + 1) 9 (by omega) (by omega) (by omega) (by omega)
  obtain ⟨v3, e3, r3⟩ := l1Signed_ok hc (at' + 1 + 1) 40000 (by omega) (by omega) (by omega) (by omega)
  obtain ⟨v4, e4, r4⟩ := l1Signed_ok hc (at' + 1 + 1 + 1) 40000 (by omega) (by omega) (by omega) (by omega)
  rw [e1]; simp only [Option.bind_some]
  rw [e2]; simp only [Option.bind_some]
  rw [e3]; simp only [Option.bind_some]
  rw [e4]; simp only [Option.bind_some]
  obtain ⟨v5, e5, hm⟩ := l1Pick_ok hc (at' + 1 + 1 + 1 + 1) [0, 1, -1, v1, v2, v3, v4, 137438953472, -137438953472] (by omega) (by omega) (by simp)
  rw [e5]; simp only [Option.bind_some]
  simp only [List.mem_cons, List.not_mem_nil, or_false] at hm
  exact ⟨v5, by rw [show at' + 1 + 1 + 1 + 1 + 1 = at' + 5 by omega], by omega, by omega⟩
theorem drawPair_rng {c : List Int} (hc : Bytes c) : ∃ s n a b, spec_DrawBackPair.f c = some (s, n, a, b) ∧ (-137438953473 ≤ a ∧ a ≤ 137438953473) ∧ (-137438953473 ≤ b ∧ b ≤ 137438953473) := by
  obtain ⟨s, n, eT⟩ := drawTurn_ok hc
  unfold spec_DrawBackPair.f spec_DrawTurnPair.f spec_l1Source.f
  simp only [Option.bind_some]
  rw [eT]; simp only [Option.bind_some]
  obtain ⟨v1, e1, r1⟩ := l5Some_rng hc 0 (by omega) (by omega)
  obtain ⟨v2, e2, r2⟩ := l5Some_rng hc (0 + 5) (by omega) (by omega)
  obtain ⟨v3, e3, r3⟩ := l5Some_rng hc (0 + 5 + 5) (by omega) (by omega)
  rw [e1]; simp only [Option.bind_some]
  rw [e2]; simp only [Option.bind_some]
  rw [e3]; simp only [Option.bind_some]
  obtain ⟨v4, e4, m4⟩ := l1Pick_ok hc (0 + 5 + 5 + 5) [v1, v2, v3, 137438953473] (by omega) (by omega) (by simp)
  rw [e4]; simp only [Option.bind_some]
  obtain ⟨v5, e5, r5⟩ := l5Some_rng hc (0 + 5 + 5 + 5 + 1) (by omega) (by omega)
  obtain ⟨v6, e6, r6⟩ := l5Some_rng hc (0 + 5 + 5 + 5 + 1 + 5) (by omega) (by omega)
  obtain ⟨v7, e7, r7⟩ := l5Some_rng hc (0 + 5 + 5 + 5 + 1 + 5 + 5) (by omega) (by omega)
  rw [e5]; simp only [Option.bind_some]
  rw [e6]; simp only [Option.bind_some]
  rw [e7]; simp only [Option.bind_some]
  obtain ⟨v8, e8, m8⟩ := l1Pick_ok hc (0 + 5 + 5 + 5 + 1 + 5 + 5 + 5) [v5, v6, v7, -137438953473] (by omega) (by omega) (by simp)
  rw [e8]; simp only [Option.bind_some]
  simp only [List.mem_cons, List.not_mem_nil, or_false] at m4 m8
  exact ⟨_, _, _, _, rfl, by omega, by omega⟩
theorem FnPairBounds : laws_FnPairBounds.Pure := by
  intro l0 h1 h2 h3
  have hc : Bytes l0 := fun x hx => u8_of_wf (h3 x hx)
  obtain ⟨s, n, a, b, hd, hab⟩ := drawPair_rng hc
  obtain ⟨s', n', e, f, hd2⟩ := drawBounds_ok hc
  obtain ⟨K, hK⟩ : ∃ K, K = 300 := ⟨_, rfl⟩
  have hj := j0_ok l0 hc s n a b e f hab K (by omega)
  refine ⟨K + 1 + 1 + 1, ?_⟩
  unfold laws_FnPairBounds.f laws_lwBig.f
  simp only [Option.bind_some]
  split
  · rfl
  simp only [hd, hd2, impl_TurnBounds_eq s n e f (K + 1 + 1 + 1) (by omega), spec_TurnBounds_eq, (partR_both e f).1, (partR_both e f).2, Option.bind_some, if_true, bne_self_eq_false]
  exact hj

end Go.Proofs.Ythinfihnnjnmfaa.Pure
