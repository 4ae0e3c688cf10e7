/-
  TurnBounds answers as the reference does, for every four numbers.
-/
import Derived.Test.YtgfnmglnmpmjgaaPFnExactTurnBoundsx
namespace Go.Proofs.Ytgfnmglnmpmjgaa.Pure
open Go.RowKit Go.Proofs.Ytgfnmglnmpmjgaa.PFnExactTurnBounds Go.Proofs.YtgfnmglnmpmjgaaW.PrintWords Go.Proofs.YtgfnmglnmpmjgaaW.PrintLast Go.Proofs.YtgfnmglnmpmjgaaW.PrintMore
set_option linter.unusedVariables false
set_option linter.unusedSimpArgs false

theorem w64 {x : Int} (h1 : -9223372036854775808 ≤ x) (h2 : x ≤ 9223372036854775807) : wrap64 x = x := by
  unfold wrap64; omega
theorem tdiv_pos {a : Int} (h : 0 ≤ a) (b : Int) : Int.tdiv a b = a / b := Int.tdiv_eq_ediv_of_nonneg h
theorem tmod_pos {a : Int} (h : 0 ≤ a) (b : Int) : Int.tmod a b = a % b := Int.tmod_eq_emod_of_nonneg h
theorem tdiv_neg {a : Int} (h : a ≤ 0) (b : Int) : Int.tdiv a b = -((-a) / b) := by
  have := Int.neg_tdiv (-a) b
  rw [Int.neg_neg] at this
  rw [this, tdiv_pos (by omega)]
theorem tmod_neg {a : Int} (h : a ≤ 0) (b : Int) : Int.tmod a b = -((-a) % b) := by
  have := Int.neg_tmod (-a) b
  rw [Int.neg_neg] at this
  rw [this, tmod_pos (by omega)]
theorem div_unique {x b q r : Int} (hb : 0 < b) (h : r + b * q = x) (h0 : 0 ≤ r) (h1 : r < b) : x / b = q :=
  ((Int.ediv_emod_unique hb).2 ⟨h, h0, h1⟩).1
theorem div_parts (x b : Int) : b * (x / b) + x % b = x := Int.mul_ediv_add_emod x b
theorem neg_div {a b : Int} (hb : 0 < b) : (-a) / b = if a % b = 0 then -(a / b) else -(a / b) - 1 := by
  have h := div_parts a b
  have h0 := Int.emod_nonneg a (Int.ne_of_gt hb)
  have h1 := Int.emod_lt_of_pos a hb
  split
  · exact div_unique (r := 0) hb (by rw [Int.mul_neg]; omega) (by omega) (by omega)
  · exact div_unique (r := b - a % b) hb (by rw [Int.mul_sub, Int.mul_neg]; omega) (by omega) (by omega)
theorem ceil_div {a b : Int} (hb : 0 < b) : (a + b - 1) / b = -((-a) / b) := by
  have h := div_parts (-a) b
  have h0 := Int.emod_nonneg (-a) (Int.ne_of_gt hb)
  have h1 := Int.emod_lt_of_pos (-a) hb
  exact div_unique (r := b - 1 - (-a) % b) hb (by rw [Int.mul_neg]; omega) (by omega) (by omega)
theorem div_bd {a b : Int} (ha : 0 ≤ a) (hb : 0 < b) : 0 ≤ a / b ∧ a / b ≤ a :=
  ⟨Int.ediv_nonneg ha (by omega), Int.ediv_le_self b ha⟩
theorem floor_tdiv {x b : Int} (hb : 0 < b) : (if Int.tmod x b < 0 then Int.tdiv x b - 1 else Int.tdiv x b) = x / b := by
  by_cases h : 0 ≤ x
  · have h0 := Int.emod_nonneg x (Int.ne_of_gt hb)
    rw [tmod_pos h, tdiv_pos h, if_neg (by omega)]
  · rw [tmod_neg (by omega), tdiv_neg (by omega)]
    have h0 := Int.emod_nonneg (-x) (Int.ne_of_gt hb)
    have e := neg_div (a := -x) hb
    rw [Int.neg_neg] at e
    rw [e]
    by_cases hz : (-x) % b = 0
    · rw [if_pos hz, if_neg (by omega)]
    · rw [if_neg hz, if_pos (by omega)]
theorem floor_bd {x b : Int} (hb : 0 < b) : (0 ≤ x → 0 ≤ x / b ∧ x / b ≤ x) ∧ (x < 0 → x ≤ x / b ∧ x / b < 0) := by
  refine ⟨fun h => div_bd h hb, fun h => ?_⟩
  have e := neg_div (a := -x) hb
  rw [Int.neg_neg] at e
  have d := div_bd (a := -x) (by omega) hb
  have p := div_parts (-x) b
  have h0 := Int.emod_nonneg (-x) (Int.ne_of_gt hb)
  rw [e]
  split
  · next hz =>
    rw [hz] at p
    have : (-x) / b ≠ 0 := fun e0 => by rw [e0, Int.mul_zero] at p; omega
    omega
  · next hz =>
    have : (-x) / b < -x := by
      rcases Int.lt_or_eq_of_le d.2 with h2 | h2
      · exact h2
      · exfalso
        rw [h2] at p
        have hb1 : b ≠ 1 := fun e1 => by subst e1; omega
        have : 2 * (-x) ≤ b * (-x) := Int.mul_le_mul_of_nonneg_right (by omega) (by omega)
        omega
    omega

theorem inRange_eq (a b c : Int) : impl_inRange.f a b c = some (decide (b ≤ a ∧ a ≤ c)) := by
  unfold impl_inRange.f; by_cases h : b ≤ a <;> simp [h]

theorem l1In_eq (a b c : Int) : spec_l1In.f a b c = some (decide (b ≤ a ∧ a ≤ c)) := by
  unfold spec_l1In.f; by_cases h : b ≤ a <;> simp [h]

theorem codeIf_eq (b : Bool) (c : Int) : impl_codeIf.f b c = some (if b = true then c else 0) := by
  unfold impl_codeIf.f; cases b <;> rfl

theorem floorDiv_eq (x b : Int) (hb : 0 < b) (h0 : -9000000000000000000 ≤ x) (h1 : x ≤ 9000000000000000000) : impl_floorDiv.f x b = some (x / b) := by
  have e := floor_tdiv (x := x) hb
  have d := floor_bd (x := x) hb
  unfold impl_floorDiv.f
  rw [if_neg (by omega)]
  by_cases h : Int.tmod x b < 0
  · rw [if_pos h] at e ⊢
    rw [w64 (x := Int.tdiv x b) (by omega) (by omega), w64 (by omega) (by omega), e]
  · rw [if_neg h] at e ⊢
    rw [w64 (by omega) (by omega), e]

theorem ceilDiv_eq (x b : Int) (hb : 0 < b) (h0 : -9000000000000000000 ≤ x) (h1 : x ≤ 9000000000000000000) : impl_ceilDiv.f x b = some (-((-x) / b)) := by
  have d := floor_bd (x := -x) hb
  unfold impl_ceilDiv.f
  rw [w64 (by omega) (by omega), floorDiv_eq _ _ hb (by omega) (by omega)]
  simp only [Option.bind_some]
  rw [w64 (by omega) (by omega)]

theorem l1Ceil_eq (x b : Int) (hb : 0 < b) (h0 : 0 ≤ x) (h1 : x + b ≤ 9000000000000000000) : spec_l1Ceil.f x b = some (-((-x) / b)) := by
  have e := ceil_div (a := x) hb
  have d := div_bd (a := x + b - 1) (by omega) hb
  unfold spec_l1Ceil.f
  rw [if_neg (by omega), w64 (x := x + b) (by omega) (by omega), w64 (x := x + b - 1) (by omega) (by omega), tdiv_pos (by omega), w64 (by omega) (by omega), e]

theorem eqPair_refl (a b c : Int) : laws_eqPairResult.f a b c a b c = some true := by unfold laws_eqPairResult.f; rw [if_pos rfl, if_pos rfl, if_pos rfl]

theorem rd_nat (xs : List Int) (i : Nat) : rd xs (i : Int) = xs.getD i 0 := by unfold rd; rw [Int.toNat_natCast]
theorem rd_get (xs : List Int) (i : Nat) (h : i < xs.length) : rd xs (i : Int) = xs[i] := by
  rw [rd_nat, List.getD_eq_getElem?_getD, List.getElem?_eq_getElem h]; rfl
theorem w64_succ (i : Nat) (h : i ≤ 4000000000000000000) : wrap64 ((i : Int) + 1) = ((i + 1 : Nat) : Int) := by
  rw [w64 (by omega) (by omega)]; omega
theorem nat_nonneg (i : Nat) : 0 ≤ (i : Int) := Int.natCast_nonneg i
theorem set_get_take {xs ys : List Int} {i : Nat} (hl : ys.length = xs.length) (ht : ys.take i = xs.take i) (hi : i < xs.length) :
    (ys.set i (rd xs (i : Int))).take (i + 1) = xs.take (i + 1) := by
  rw [rd_get xs i hi]
  apply List.ext_getElem?
  intro n
  by_cases hn : n < i + 1
  · rw [List.getElem?_take_of_lt hn, List.getElem?_take_of_lt hn]
    by_cases e : n = i
    · subst e
      rw [List.getElem?_set_self (by omega), List.getElem?_eq_getElem hi]
    · rw [List.getElem?_set_ne (by omega)]
      have := congrArg (fun l => l[n]?) ht
      simp only [List.getElem?_take_of_lt (show n < i by omega)] at this
      exact this
  · rw [List.getElem?_take_eq_none (by omega), List.getElem?_take_eq_none (by omega)]

def sizeF (a : Int) : Int := if a = 4 then 0 else if a = 8 then 0 else if a = 16 then 0 else 3
theorem sizeF_cases (a : Int) : (sizeF a = 0 ∧ (a = 4 ∨ a = 8 ∨ a = 16)) ∨ (sizeF a = 3 ∧ a ≠ 4 ∧ a ≠ 8 ∧ a ≠ 16) := by
  unfold sizeF
  by_cases h1 : a = 4
  · simp [h1]
  · by_cases h2 : a = 8
    · simp [h2]
    · by_cases h3 : a = 16 <;> simp [h1, h2, h3]
def allIn (lo hi : Int) (xs : List Int) : Bool := xs.all fun n => decide (lo ≤ n ∧ n ≤ hi)
def In (lo hi : Int) (xs : List Int) : Prop := ∀ x ∈ xs, lo ≤ x ∧ x ≤ hi
theorem allIn_iff (lo hi : Int) (xs : List Int) : allIn lo hi xs = true ↔ In lo hi xs := by
  unfold allIn
  rw [List.all_eq_true]
  exact ⟨fun h x hx => by simpa using h x hx, fun h x hx => by simpa using h x hx⟩
theorem allIn_cons (lo hi x : Int) (xs : List Int) : allIn lo hi (x :: xs) = (decide (lo ≤ x ∧ x ≤ hi) && allIn lo hi xs) := rfl
theorem drop_rd' (xs : List Int) (i : Nat) (h : i < xs.length) : xs.drop i = rd xs (i : Int) :: xs.drop (i + 1) := by
  rw [rd_get xs i h]; exact List.drop_eq_getElem_cons h
def nz : List Int → Int
  | [] => 0
  | x :: xs => if x = 0 then nz xs else x

theorem spec_SizeFault_eq (a : Int) : spec_SizeFault.f a = some (sizeF a) := by
  unfold spec_SizeFault.f sizeF
  by_cases h1 : a = 4
  · simp [h1]
  · by_cases h2 : a = 8
    · simp [h2]
    · by_cases h3 : a = 16 <;> simp [h1, h2, h3]

theorem impl_SizeFault_eq (a : Int) : impl_SizeFault.f a = some (sizeF a) := by
  unfold impl_SizeFault.f sizeF
  by_cases h1 : a = 4
  · simp [h1]
  · by_cases h2 : a = 8
    · simp [h2]
    · by_cases h3 : a = 16 <;> simp [h1, h2, h3]

theorem first_l0 (xs : List Int) (hn : xs.length ≤ 1000) : ∀ (d i k : Nat), i + d = xs.length → d < k → impl_first.l0 k xs (xs.length : Int) (i : Int) = some (nz (xs.drop i)) := by
  intro d
  induction d with
  | zero =>
    intro i k hi hk
    obtain ⟨k, rfl⟩ : ∃ m, k = m + 1 := ⟨k - 1, by omega⟩
    simp only [impl_first.l0]
    rw [if_neg (by omega), List.drop_of_length_le (by omega)]; rfl
  | succ d ih =>
    intro i k hi hk
    obtain ⟨k, rfl⟩ : ∃ m, k = m + 1 := ⟨k - 1, by omega⟩
    simp only [impl_first.l0]
    rw [if_pos (by omega), if_pos (by omega), if_pos (by omega), drop_rd' xs i (by omega), nz]
    by_cases h : rd xs (i : Int) = 0
    · rw [if_pos h, if_pos h, w64_succ _ (by omega)]
      exact ih (i + 1) k (by omega) (by omega)
    · rw [if_neg h, if_neg h]
theorem first_eq (xs : List Int) (hn : xs.length ≤ 1000) (k : Nat) (hk : xs.length < k) : impl_first.f k xs = some (nz xs) :=
  first_l0 xs hn xs.length 0 k (by omega) hk

def tn (x : Int) : Int := (x + 512) / 1024
theorem mul_bd {p b M : Int} (hp : 0 ≤ p) (hp2 : p ≤ 1024) (hb : -M ≤ b) (hb2 : b ≤ M) : -(1024 * M) ≤ p * b ∧ p * b ≤ 1024 * M := by
  have h1 := Int.mul_le_mul_of_nonneg_left hb2 hp
  have h2 := Int.mul_le_mul_of_nonneg_left hb hp
  have h3 := Int.mul_le_mul_of_nonneg_right hp2 (show 0 ≤ M by omega)
  rw [Int.mul_neg] at h2
  omega
theorem tn_bd {x M : Int} (h0 : -(1024 * M) ≤ x) (h1 : x ≤ 1024 * M) : -M ≤ tn x ∧ tn x ≤ M := by unfold tn; omega
def forth (p u a b : Int) : Int × Int :=
  (a - tn (p * b) - tn (p * (b + tn (u * (a - tn (p * b))))), b + tn (u * (a - tn (p * b))))
def back (p u a b : Int) : Int × Int :=
  (a + tn (p * b) + tn (p * (b - tn (u * (a + tn (p * b))))), b - tn (u * (a + tn (p * b))))
theorem back_forth (p u a b : Int) : back p u (forth p u a b).1 (forth p u a b).2 = (a, b) := by
  unfold back forth
  simp only
  have e1 : a - tn (p * b) - tn (p * (b + tn (u * (a - tn (p * b))))) + tn (p * (b + tn (u * (a - tn (p * b))))) = a - tn (p * b) := by omega
  rw [e1]
  have e2 : b + tn (u * (a - tn (p * b))) - tn (u * (a - tn (p * b))) = b := by omega
  rw [e2]
  have e3 : a - tn (p * b) + tn (p * b) = a := by omega
  rw [e3]
theorem forth_back (p u a b : Int) : forth p u (back p u a b).1 (back p u a b).2 = (a, b) := by
  unfold back forth
  simp only
  have e1 : a + tn (p * b) + tn (p * (b - tn (u * (a + tn (p * b))))) - tn (p * (b - tn (u * (a + tn (p * b))))) = a + tn (p * b) := by omega
  rw [e1]
  have e2 : b - tn (u * (a + tn (p * b))) + tn (u * (a + tn (p * b))) = b := by omega
  rw [e2]
  have e3 : a + tn (p * b) - tn (p * b) = a := by omega
  rw [e3]
def Valid (s n : Int) : Prop := (s = 4 ∧ (n = 0 ∨ n = 1)) ∨ (s = 8 ∧ (n = 0 ∨ n = 1 ∨ n = 2 ∨ n = 3)) ∨ (s = 16 ∧ (n = 0 ∨ n = 1 ∨ n = 2 ∨ n = 3 ∨ n = 4 ∨ n = 5 ∨ n = 6 ∨ n = 7))
def tfault (s n : Int) : Int := if sizeF s = 0 then (if 0 ≤ n ∧ n ≤ wrap64 (wrap64 (Int.tdiv s 2) - 1) then 0 else 3) else 3
theorem tfault_cases (s n : Int) : (tfault s n = 0 ∧ Valid s n) ∨ tfault s n = 3 := by
  unfold tfault
  rcases sizeF_cases s with ⟨h, hc⟩ | ⟨h, _⟩
  · rw [if_pos h]
    by_cases hn : 0 ≤ n ∧ n ≤ wrap64 (wrap64 (Int.tdiv s 2) - 1)
    · rw [if_pos hn]
      refine .inl ⟨rfl, ?_⟩
      unfold Valid
      rcases hc with rfl | rfl | rfl
      · have e : wrap64 (wrap64 (Int.tdiv 4 2) - 1) = 1 := by unfold wrap64; decide
        rw [e] at hn; omega
      · have e : wrap64 (wrap64 (Int.tdiv 8 2) - 1) = 3 := by unfold wrap64; decide
        rw [e] at hn; omega
      · have e : wrap64 (wrap64 (Int.tdiv 16 2) - 1) = 7 := by unfold wrap64; decide
        rw [e] at hn; omega
    · rw [if_neg hn]; exact .inr rfl
  · rw [if_neg (by omega)]; exact .inr rfl

def pu (s n : Int) : Int × Int := (impl_turnOf.f s n).getD (0, 0)
theorem turnOf_eq {s n : Int} (h : Valid s n) : impl_turnOf.f s n = some (pu s n) ∧ (0 ≤ (pu s n).1 ∧ (pu s n).1 ≤ 1024) ∧ (0 ≤ (pu s n).2 ∧ (pu s n).2 ≤ 1024) := by
  unfold Valid at h
  rcases h with ⟨rfl, rfl | rfl⟩ | ⟨rfl, rfl | rfl | rfl | rfl⟩ | ⟨rfl, rfl | rfl | rfl | rfl | rfl | rfl | rfl | rfl⟩ <;> exact ⟨rfl, by decide, by decide⟩

theorem turnFault_eq (s n : Int) (k : Nat) (hk : 10 < k) : impl_turnFault.f k s n = some (tfault s n) := by
  unfold impl_turnFault.f
  rw [impl_SizeFault_eq, inRange_eq]
  simp only [Option.bind_some, codeIf_eq]
  rw [first_eq _ (by simp) k (by simp; omega)]
  simp only [Option.bind_some]
  congr 1
  unfold tfault
  rcases sizeF_cases s with ⟨h, _⟩ | ⟨h, _⟩
  · by_cases hn : 0 ≤ n ∧ n ≤ wrap64 (wrap64 (Int.tdiv s 2) - 1) <;> simp [nz, h, hn]
  · simp [nz, h]

theorem l5P_eq {s n : Int} (h : Valid s n) : spec_l5P.f s n = some (pu s n).1 := by
  unfold Valid at h
  rcases h with ⟨rfl, rfl | rfl⟩ | ⟨rfl, rfl | rfl | rfl | rfl⟩ | ⟨rfl, rfl | rfl | rfl | rfl | rfl | rfl | rfl | rfl⟩ <;> (unfold spec_l5P.f wrap64; decide)

theorem l5U_eq {s n : Int} (h : Valid s n) : spec_l5U.f s n = some (pu s n).2 := by
  unfold Valid at h
  rcases h with ⟨rfl, rfl | rfl⟩ | ⟨rfl, rfl | rfl | rfl | rfl⟩ | ⟨rfl, rfl | rfl | rfl | rfl | rfl | rfl | rfl | rfl⟩ <;> (unfold spec_l5U.f wrap64; decide)

theorem spec_TurnOf_eq (s n : Int) : spec_TurnOf.f s n = some (if tfault s n = 0 then (0, (pu s n).1, (pu s n).2) else (3, 0, 0)) := by
  unfold spec_TurnOf.f
  rw [spec_SizeFault_eq]
  simp only [Option.bind_some]
  rcases sizeF_cases s with ⟨h, _⟩ | ⟨h, _⟩
  · rw [if_pos h, l1In_eq]
    simp only [Option.bind_some]
    by_cases hn : 0 ≤ n ∧ n ≤ wrap64 (wrap64 (Int.tdiv s 2) - 1)
    · have ht : tfault s n = 0 := by unfold tfault; rw [if_pos h, if_pos hn]
      rcases tfault_cases s n with ⟨_, hv⟩ | h3
      · rw [if_pos (by simpa using hn), l5P_eq hv, l5U_eq hv, if_pos ht]; rfl
      · omega
    · have ht : tfault s n = 3 := by unfold tfault; rw [if_pos h, if_neg hn]
      rw [if_neg (by simpa using hn), ht]; rfl
  · have ht : tfault s n = 3 := by unfold tfault; rw [if_neg (by omega)]
    rw [h, ht]; rfl

def sh (f b : Int) : Int := -((-(f * b)) / 1024)
theorem sh_bd {f b : Int} (hf : 0 ≤ f) (hf2 : f ≤ 1024) (hb : 0 ≤ b) : 0 ≤ sh f b ∧ sh f b ≤ b ∧ 0 ≤ f * b ∧ f * b ≤ 1024 * b := by
  have h1 := Int.mul_le_mul_of_nonneg_right hf2 hb
  have h2 := Int.mul_nonneg hf hb
  unfold sh
  omega
def tb (p u a b : Int) : Int × Int := (a + sh p b + sh p (b + sh u (a + sh p b)), b + sh u (a + sh p b))

theorem l8Share_eq (f b : Int) (hf : 0 ≤ f ∧ f ≤ 1024) (hb : 0 ≤ b ∧ b ≤ 1125899906842624) : spec_l8Share.f f b = some (sh f b) := by
  have h := sh_bd hf.1 hf.2 hb.1
  unfold spec_l8Share.f
  rw [w64 (x := f * b) (by omega) (by omega), l1Ceil_eq _ _ (by omega) (by omega) (by omega)]
  rfl

theorem share_eq (f b : Int) (hf : 0 ≤ f ∧ f ≤ 1024) (hb : 0 ≤ b ∧ b ≤ 1125899906842624) : impl_share.f f b = some (sh f b) := by
  have h := sh_bd hf.1 hf.2 hb.1
  unfold impl_share.f
  rw [w64 (x := f * b) (by omega) (by omega), ceilDiv_eq _ _ (by omega) (by omega) (by omega)]
  rfl

theorem turn_bounds_eq (p u a b : Int) (hp : 0 ≤ p ∧ p ≤ 1024) (hu : 0 ≤ u ∧ u ≤ 1024) (ha : 0 ≤ a ∧ a ≤ 140737488355328) (hb : 0 ≤ b ∧ b ≤ 140737488355328) : impl_turn_bounds.f p u a b = some (tb p u a b) := by
  have h1 := sh_bd hp.1 hp.2 hb.1
  have h2 := sh_bd (b := a + sh p b) hu.1 hu.2 (by omega)
  have h3 := sh_bd (b := b + sh u (a + sh p b)) hp.1 hp.2 (by omega)
  unfold impl_turn_bounds.f
  rw [share_eq p b hp (by omega)]
  simp only [Option.bind_some]
  rw [w64 (x := a + sh p b) (by omega) (by omega), share_eq u _ hu (by omega)]
  simp only [Option.bind_some]
  rw [w64 (x := b + sh u (a + sh p b)) (by omega) (by omega), share_eq p _ hp (by omega)]
  simp only [Option.bind_some]
  rw [w64 (by omega) (by omega)]
  rfl

theorem l8Turn_eq {s n : Int} (hv : Valid s n) (a b : Int) (ha : 0 ≤ a ∧ a ≤ 140737488355328) (hb : 0 ≤ b ∧ b ≤ 140737488355328) : spec_l8Turn.f s n a b = some (tb (pu s n).1 (pu s n).2 a b) := by
  obtain ⟨_, hp, hu⟩ := turnOf_eq hv
  have eP := l5P_eq hv
  have eU := l5U_eq hv
  generalize (pu s n).1 = p at hp eP ⊢
  generalize (pu s n).2 = u at hu eU ⊢
  have h1 := sh_bd hp.1 hp.2 hb.1
  have h2 := sh_bd (b := a + sh p b) hu.1 hu.2 (by omega)
  have h3 := sh_bd (b := b + sh u (a + sh p b)) hp.1 hp.2 (by omega)
  unfold spec_l8Turn.f
  rw [eP, eU]
  simp only [Option.bind_some]
  rw [l8Share_eq p b hp (by omega)]
  simp only [Option.bind_some]
  rw [w64 (x := a + sh p b) (by omega) (by omega), l8Share_eq u _ hu (by omega)]
  simp only [Option.bind_some]
  rw [w64 (x := b + sh u (a + sh p b)) (by omega) (by omega), l8Share_eq p _ hp (by omega)]
  simp only [Option.bind_some]
  rw [w64 (by omega) (by omega)]
  rfl

theorem l8Bounds_eq (a b : Int) : spec_l8Bounds.f a b = some (decide ((0 ≤ a ∧ a ≤ 137438953472) ∧ (0 ≤ b ∧ b ≤ 137438953472))) := by
  unfold spec_l8Bounds.f
  rw [l1In_eq, l1In_eq]
  by_cases h : 0 ≤ a ∧ a ≤ 137438953472 <;> simp [h]

theorem boundFault_eq (a b : Int) : impl_boundFault.f a b = some (if (0 ≤ a ∧ a ≤ 137438953472) ∧ (0 ≤ b ∧ b ≤ 137438953472) then 0 else 3) := by
  unfold impl_boundFault.f
  rw [inRange_eq, inRange_eq]
  simp only [Option.bind_some, codeIf_eq]
  by_cases h : 0 ≤ a ∧ a ≤ 137438953472
  · by_cases g : 0 ≤ b ∧ b ≤ 137438953472 <;> simp [h, g]
  · simp [h]

def boundF (s n a b : Int) : Int × Int × Int := if tfault s n = 0 then (if (0 ≤ a ∧ a ≤ 137438953472) ∧ (0 ≤ b ∧ b ≤ 137438953472) then (0, (tb (pu s n).1 (pu s n).2 a b).1, (tb (pu s n).1 (pu s n).2 a b).2) else (3, 0, 0)) else (3, 0, 0)
theorem spec_TurnBounds_eq (s n a b : Int) : spec_TurnBounds.f s n a b = some (boundF s n a b) := by
  unfold spec_TurnBounds.f boundF
  rw [spec_TurnOf_eq]
  simp only [Option.bind_some]
  rcases tfault_cases s n with ⟨h, hv⟩ | h
  · simp only [if_pos h, if_true]
    rw [l8Bounds_eq]
    simp only [Option.bind_some]
    by_cases hw : (0 ≤ a ∧ a ≤ 137438953472) ∧ (0 ≤ b ∧ b ≤ 137438953472)
    · rw [if_pos (by simpa using hw), if_pos hw, l8Turn_eq hv a b (by omega) (by omega)]; rfl
    · rw [if_neg (by simpa using hw), if_neg hw]
  · simp [h]

theorem impl_TurnBounds_eq (s n a b : Int) (k : Nat) (hk : 10 < k) : impl_TurnBounds.f k s n a b = some (boundF s n a b) := by
  unfold impl_TurnBounds.f boundF
  rw [turnFault_eq s n k hk, boundFault_eq]
  simp only [Option.bind_some]
  rw [first_eq _ (by simp) k (by simp; omega)]
  simp only [Option.bind_some]
  rcases tfault_cases s n with ⟨h, hv⟩ | h
  · by_cases hw : (0 ≤ a ∧ a ≤ 137438953472) ∧ (0 ≤ b ∧ b ≤ 137438953472)
    · obtain ⟨e, hp, hu⟩ := turnOf_eq hv
      simp only [if_pos h, if_pos hw, h, nz, if_true, e, Option.bind_some]
      rw [turn_bounds_eq _ _ a b hp hu (by omega) (by omega)]; rfl
    · simp only [if_pos h, if_neg hw, h, nz]; rfl
  · simp [h, nz]

-- PLUS: lists sizef turns bounds
theorem FnExactTurnBounds : laws_FnExactTurnBounds.Pure := by
  intro a0 a1 a2 a3 _ _ _ _
  refine ⟨100, ?_⟩
  unfold laws_FnExactTurnBounds.f
  rw [spec_TurnBounds_eq, impl_TurnBounds_eq _ _ _ _ _ (by omega)]
  simp only [Option.bind_some, eqPair_refl, if_true]

end Go.Proofs.Ytgfnmglnmpmjgaa.Pure
