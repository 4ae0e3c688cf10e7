/-
  EncodeValues answers as the reference does, for every list of numbers, leaves it as it was, and shares no memory with it.
-/
import Derived.Test.YtgfmmoomekjkbaaDoorPFnExactEncodeValuesx
namespace Go.Proofs.YtgfmmoomekjkbaaDoor.Pure
open Go.RowKit Go.Proofs.YtgfmmoomekjkbaaDoor.PFnExactEncodeValues Go.Proofs.YtgfmmoomekjkbaaDoorW.PrintWords Go.Proofs.YtgfmmoomekjkbaaDoorW.PrintLast Go.Proofs.YtgfmmoomekjkbaaDoorW.PrintMore
set_option linter.unusedVariables false
set_option linter.unusedSimpArgs false

theorem w64 {x : Int} (h1 : -9223372036854775808 ≤ x) (h2 : x ≤ 9223372036854775807) : wrap64 x = x := by
  unfold wrap64; omega
theorem tdiv_pos {a : Int} (h : 0 ≤ a) (b : Int) : Int.tdiv a b = a / b := Int.tdiv_eq_ediv_of_nonneg h
theorem tmod_pos {a : Int} (h : 0 ≤ a) (b : Int) : Int.tmod a b = a % b := Int.tmod_eq_emod_of_nonneg h
theorem tdiv_neg {a : Int} (h : a ≤ 0) (b : Int) : Int.tdiv a b = -((-a) / b) := by
  have := Int.neg_tdiv (-a) b
  rw [Int.neg_neg] at this
  rw [this, tdiv_pos (by omega)]
theorem tmod_neg {a : Int} (h : a ≤ 0) (b : Int) : Int.tmod a b = -((-a) % b) := by
  have := Int.neg_tmod (-a) b
  rw [Int.neg_neg] at this
  rw [this, tmod_pos (by omega)]
theorem div_unique {x b q r : Int} (hb : 0 < b) (h : r + b * q = x) (h0 : 0 ≤ r) (h1 : r < b) : x / b = q :=
  ((Int.ediv_emod_unique hb).2 ⟨h, h0, h1⟩).1
theorem div_parts (x b : Int) : b * (x / b) + x % b = x := Int.mul_ediv_add_emod x b
theorem neg_div {a b : Int} (hb : 0 < b) : (-a) / b = if a % b = 0 then -(a / b) else -(a / b) - 1 := by
  have h := div_parts a b
  have h0 := Int.emod_nonneg a (Int.ne_of_gt hb)
  have h1 := Int.emod_lt_of_pos a hb
  split
  · exact div_unique (r := 0) hb (by rw [Int.mul_neg]; omega) (by omega) (by omega)
  · exact div_unique (r := b - a % b) hb (by rw [Int.mul_sub, Int.mul_neg]; omega) (by omega) (by omega)
theorem ceil_div {a b : Int} (hb : 0 < b) : (a + b - 1) / b = -((-a) / b) := by
  have h := div_parts (-a) b
  have h0 := Int.emod_nonneg (-a) (Int.ne_of_gt hb)
  have h1 := Int.emod_lt_of_pos (-a) hb
  exact div_unique (r := b - 1 - (-a) % b) hb (by rw [Int.mul_neg]; omega) (by omega) (by omega)
theorem div_bd {a b : Int} (ha : 0 ≤ a) (hb : 0 < b) : 0 ≤ a / b ∧ a / b ≤ a :=
  ⟨Int.ediv_nonneg ha (by omega), Int.ediv_le_self b ha⟩
theorem floor_tdiv {x b : Int} (hb : 0 < b) : (if Int.tmod x b < 0 then Int.tdiv x b - 1 else Int.tdiv x b) = x / b := by
  by_cases h : 0 ≤ x
  · have h0 := Int.emod_nonneg x (Int.ne_of_gt hb)
    rw [tmod_pos h, tdiv_pos h, if_neg (by omega)]
  · rw [tmod_neg (by omega), tdiv_neg (by omega)]
    have h0 := Int.emod_nonneg (-x) (Int.ne_of_gt hb)
    have e := neg_div (a := -x) hb
    rw [Int.neg_neg] at e
    rw [e]
    by_cases hz : (-x) % b = 0
    · rw [if_pos hz, if_neg (by omega)]
    · rw [if_neg hz, if_pos (by omega)]
theorem floor_bd {x b : Int} (hb : 0 < b) : (0 ≤ x → 0 ≤ x / b ∧ x / b ≤ x) ∧ (x < 0 → x ≤ x / b ∧ x / b < 0) := by
  refine ⟨fun h => div_bd h hb, fun h => ?_⟩
  have e := neg_div (a := -x) hb
  rw [Int.neg_neg] at e
  have d := div_bd (a := -x) (by omega) hb
  have p := div_parts (-x) b
  have h0 := Int.emod_nonneg (-x) (Int.ne_of_gt hb)
  rw [e]
  split
  · next hz =>
    rw [hz] at p
    have : (-x) / b ≠ 0 := fun e0 => by rw [e0, Int.mul_zero] at p; omega
    omega
  · next hz =>
    have : (-x) / b < -x := by
      rcases Int.lt_or_eq_of_le d.2 with h2 | h2
      · exact h2
      · exfalso
        rw [h2] at p
        have hb1 : b ≠ 1 := fun e1 => by subst e1; omega
        have : 2 * (-x) ≤ b * (-x) := Int.mul_le_mul_of_nonneg_right (by omega) (by omega)
        omega
    omega

theorem inRange_eq (a b c : Int) : impl_inRange.f a b c = some (decide (b ≤ a ∧ a ≤ c)) := by
  unfold impl_inRange.f; by_cases h : b ≤ a <;> simp [h]

theorem l1In_eq (a b c : Int) : spec_l1In.f a b c = some (decide (b ≤ a ∧ a ≤ c)) := by
  unfold spec_l1In.f; by_cases h : b ≤ a <;> simp [h]

theorem within_eq (a b : Int) (h0 : 0 ≤ b) (h1 : b ≤ 9000000000000000000) : impl_within.f a b = some (decide (-b ≤ a ∧ a ≤ b)) := by
  unfold impl_within.f; rw [inRange_eq, w64 (by omega) (by omega)]; rfl

theorem codeIf_eq (b : Bool) (c : Int) : impl_codeIf.f b c = some (if b = true then c else 0) := by
  unfold impl_codeIf.f; cases b <;> rfl

theorem rd_nat (xs : List Int) (i : Nat) : rd xs (i : Int) = xs.getD i 0 := by unfold rd; rw [Int.toNat_natCast]
theorem rd_get (xs : List Int) (i : Nat) (h : i < xs.length) : rd xs (i : Int) = xs[i] := by
  rw [rd_nat, List.getD_eq_getElem?_getD, List.getElem?_eq_getElem h]; rfl
theorem w64_succ (i : Nat) (h : i ≤ 4000000000000000000) : wrap64 ((i : Int) + 1) = ((i + 1 : Nat) : Int) := by
  rw [w64 (by omega) (by omega)]; omega
theorem nat_nonneg (i : Nat) : 0 ≤ (i : Int) := Int.natCast_nonneg i
theorem set_get_take {xs ys : List Int} {i : Nat} (hl : ys.length = xs.length) (ht : ys.take i = xs.take i) (hi : i < xs.length) :
    (ys.set i (rd xs (i : Int))).take (i + 1) = xs.take (i + 1) := by
  rw [rd_get xs i hi]
  apply List.ext_getElem?
  intro n
  by_cases hn : n < i + 1
  · rw [List.getElem?_take_of_lt hn, List.getElem?_take_of_lt hn]
    by_cases e : n = i
    · subst e
      rw [List.getElem?_set_self (by omega), List.getElem?_eq_getElem hi]
    · rw [List.getElem?_set_ne (by omega)]
      have := congrArg (fun l => l[n]?) ht
      simp only [List.getElem?_take_of_lt (show n < i by omega)] at this
      exact this
  · rw [List.getElem?_take_eq_none (by omega), List.getElem?_take_eq_none (by omega)]

theorem toInt64S_l0 (xs : List Int) (hn : xs.length ≤ 1000000000000000000) : ∀ (d i : Nat) (ys : List Int) (k : Nat), i + d = xs.length → d < k → ys.length = xs.length → ys.take i = xs.take i →
    laws_toInt64S.l0 k xs ys (i : Int) = some xs := by
  intro d
  induction d with
  | zero =>
    intro i ys k hi hk hl ht
    obtain ⟨k, rfl⟩ : ∃ m, k = m + 1 := ⟨k - 1, by omega⟩
    simp only [laws_toInt64S.l0]
    rw [if_neg (by omega)]
    rw [List.take_of_length_le (by omega), List.take_of_length_le (by omega)] at ht
    rw [ht]
  | succ d ih =>
    intro i ys k hi hk hl ht
    obtain ⟨k, rfl⟩ : ∃ m, k = m + 1 := ⟨k - 1, by omega⟩
    simp only [laws_toInt64S.l0]
    rw [if_pos (by omega), if_pos (by omega), if_pos (by omega), w64_succ _ (by omega), Int.toNat_natCast]
    exact ih (i + 1) _ k (by omega) (by omega) (by rw [List.length_set, hl]) (set_get_take hl ht (by omega))
theorem toInt64S_eq (xs : List Int) (hn : xs.length ≤ 1048576) (k : Nat) (hk : xs.length < k) : laws_toInt64S.f k xs = some xs := by
  unfold laws_toInt64S.f
  rw [if_pos (by omega), if_pos (by omega), Int.toNat_natCast]
  exact toInt64S_l0 xs (by omega) xs.length 0 _ k (by omega) hk (by simp) (by simp)

theorem eqInt64S_l0 (xs : List Int) (hn : xs.length ≤ 1000000000000000000) : ∀ (d i : Nat) (k : Nat), i + d = xs.length → d < k → laws_eqInt64S.l0 k xs xs (i : Int) = some true := by
  intro d
  induction d with
  | zero =>
    intro i k hi hk
    obtain ⟨k, rfl⟩ : ∃ m, k = m + 1 := ⟨k - 1, by omega⟩
    simp only [laws_eqInt64S.l0]
    rw [if_neg (by omega)]
  | succ d ih =>
    intro i k hi hk
    obtain ⟨k, rfl⟩ : ∃ m, k = m + 1 := ⟨k - 1, by omega⟩
    simp only [laws_eqInt64S.l0]
    rw [if_pos (by omega), if_pos (by omega), if_pos (by omega), if_pos trivial, w64_succ _ (by omega)]
    exact ih (i + 1) k (by omega) (by omega)
theorem eqInt64S_refl (xs : List Int) (hn : xs.length ≤ 1000000000000000000) (k : Nat) (hk : xs.length < k) : laws_eqInt64S.f k xs xs = some true := by
  unfold laws_eqInt64S.f
  rw [if_pos rfl]
  exact eqInt64S_l0 xs hn xs.length 0 k (by omega) hk

theorem eqByteS_l0 (xs : List Int) (hn : xs.length ≤ 1000000000000000000) : ∀ (d i : Nat) (k : Nat), i + d = xs.length → d < k → laws_eqByteS.l0 k xs xs (i : Int) = some true := by
  intro d
  induction d with
  | zero =>
    intro i k hi hk
    obtain ⟨k, rfl⟩ : ∃ m, k = m + 1 := ⟨k - 1, by omega⟩
    simp only [laws_eqByteS.l0]
    rw [if_neg (by omega)]
  | succ d ih =>
    intro i k hi hk
    obtain ⟨k, rfl⟩ : ∃ m, k = m + 1 := ⟨k - 1, by omega⟩
    simp only [laws_eqByteS.l0]
    rw [if_pos (by omega), if_pos (by omega), if_pos (by omega), if_pos trivial, w64_succ _ (by omega)]
    exact ih (i + 1) k (by omega) (by omega)
theorem eqByteS_refl (xs : List Int) (hn : xs.length ≤ 1000000000000000000) (k : Nat) (hk : xs.length < k) : laws_eqByteS.f k xs xs = some true := by
  unfold laws_eqByteS.f
  rw [if_pos rfl]
  exact eqByteS_l0 xs hn xs.length 0 k (by omega) hk

theorem eqBytesResult_refl (c : Int) (xs : List Int) (hn : xs.length ≤ 1000000000000000000) (k : Nat) (hk : xs.length < k) : laws_eqBytesResult.f k c xs c xs = some true := by
  unfold laws_eqBytesResult.f
  rw [if_pos rfl, eqByteS_refl xs hn k hk]; rfl

theorem markByteS_l0 : ∀ (d i : Nat) (xs : List Int) (m k : Nat), i + d = xs.length → d < k → xs.length ≤ 1000000000000000000 → m + d ≤ 1000000000000000000 →
    ∃ ys, laws_markByteS.l0 k xs (m : Int) (i : Int) = some (((m + d : Nat) : Int), ys) ∧ ys.length = xs.length ∧ (∀ j, j < i → ys.getD j 0 = xs.getD j 0) ∧ ∀ j, i ≤ j → j < xs.length → ys.getD j 0 = ((m + (j - i) : Nat) : Int) % 256 := by
  intro d
  induction d with
  | zero =>
    intro i xs m k hi hk hn hm
    obtain ⟨k, rfl⟩ : ∃ q, k = q + 1 := ⟨k - 1, by omega⟩
    refine ⟨xs, ?_, rfl, fun j _ => rfl, fun j h1 h2 => by omega⟩
    simp only [laws_markByteS.l0]
    rw [if_neg (by omega)]; rfl
  | succ d ih =>
    intro i xs m k hi hk hn hm
    obtain ⟨k, rfl⟩ : ∃ q, k = q + 1 := ⟨k - 1, by omega⟩
    obtain ⟨ys, h1, h2, h3, h4⟩ := ih (i + 1) (xs.set i (((m : Nat) : Int) % 256)) (m + 1) k (by rw [List.length_set]; omega) (by omega) (by rw [List.length_set]; omega) (by omega)
    rw [List.length_set] at h2 h4
    refine ⟨ys, ?_, h2, fun j hj => ?_, fun j hj1 hj2 => ?_⟩
    · simp only [laws_markByteS.l0]
      rw [if_pos (by omega), if_pos (by omega), w64_succ _ (by omega), w64_succ _ (by omega), Int.toNat_natCast, h1]
      rw [show m + 1 + d = m + (d + 1) by omega]
    · rw [h3 j (by omega), List.getD_eq_getElem?_getD, List.getElem?_set_ne (by omega), ← List.getD_eq_getElem?_getD]
    · by_cases e : j = i
      · subst e
        rw [h3 j (by omega), List.getD_eq_getElem?_getD, List.getElem?_set_self (by omega)]
        simp
      · rw [h4 j (by omega) hj2]
        rw [show m + 1 + (j - (i + 1)) = m + (j - i) by omega]

theorem heldByteS_l0 (ys : List Int) (m0 : Nat) (hn : ys.length ≤ 1000000000000000000) (hm : m0 ≤ 1000000000000000000) (hy : ∀ j, j < ys.length → ys.getD j 0 = ((m0 + j : Nat) : Int) % 256) : ∀ (d i k : Nat), i + d = ys.length → d < k →
    laws_heldByteS.l0 k ys ((m0 + i : Nat) : Int) (i : Int) = some ((m0 + ys.length : Nat) : Int) := by
  intro d
  induction d with
  | zero =>
    intro i k hi hk
    obtain ⟨k, rfl⟩ : ∃ q, k = q + 1 := ⟨k - 1, by omega⟩
    simp only [laws_heldByteS.l0]
    rw [if_neg (by omega)]
    rw [show i = ys.length by omega]
  | succ d ih =>
    intro i k hi hk
    obtain ⟨k, rfl⟩ : ∃ q, k = q + 1 := ⟨k - 1, by omega⟩
    simp only [laws_heldByteS.l0]
    rw [if_pos (by omega), if_pos (by omega), rd_nat, if_pos (hy i (by omega)), w64_succ _ (by omega), w64_succ _ (by omega)]
    exact ih (i + 1) k (by omega) (by omega)
theorem mark_held_bytes (xs : List Int) (m k : Nat) (hn : xs.length ≤ 100000000000000000) (hm : m ≤ 100000000000000000) (hk : xs.length < k) :
    ∃ ys, laws_markByteS.f k xs (m : Int) = some (((m + xs.length : Nat) : Int), ys) ∧ ys.length = xs.length ∧ laws_heldByteS.f k ys (m : Int) = some ((m + xs.length : Nat) : Int) := by
  obtain ⟨ys, h1, h2, h3, h4⟩ := markByteS_l0 xs.length 0 xs m k (by omega) hk (by omega) (by omega)
  refine ⟨ys, h1, h2, ?_⟩
  have := heldByteS_l0 ys m (by omega) (by omega) (fun j hj => by have := h4 j (by omega) (by omega); simpa using this) ys.length 0 k (by omega) (by omega)
  rw [h2] at this
  exact this

theorem markInt64S_l0 : ∀ (d i : Nat) (xs : List Int) (m k : Nat), i + d = xs.length → d < k → xs.length ≤ 1000000000000000000 → m + d ≤ 1000000000000000000 →
    ∃ ys, laws_markInt64S.l0 k xs (m : Int) (i : Int) = some (((m + d : Nat) : Int), ys) ∧ ys.length = xs.length ∧ (∀ j, j < i → ys.getD j 0 = xs.getD j 0) ∧ ∀ j, i ≤ j → j < xs.length → ys.getD j 0 = ((m + (j - i) : Nat) : Int) := by
  intro d
  induction d with
  | zero =>
    intro i xs m k hi hk hn hm
    obtain ⟨k, rfl⟩ : ∃ q, k = q + 1 := ⟨k - 1, by omega⟩
    refine ⟨xs, ?_, rfl, fun j _ => rfl, fun j h1 h2 => by omega⟩
    simp only [laws_markInt64S.l0]
    rw [if_neg (by omega)]; rfl
  | succ d ih =>
    intro i xs m k hi hk hn hm
    obtain ⟨k, rfl⟩ : ∃ q, k = q + 1 := ⟨k - 1, by omega⟩
    obtain ⟨ys, h1, h2, h3, h4⟩ := ih (i + 1) (xs.set i (((m : Nat) : Int))) (m + 1) k (by rw [List.length_set]; omega) (by omega) (by rw [List.length_set]; omega) (by omega)
    rw [List.length_set] at h2 h4
    refine ⟨ys, ?_, h2, fun j hj => ?_, fun j hj1 hj2 => ?_⟩
    · simp only [laws_markInt64S.l0]
      rw [if_pos (by omega), if_pos (by omega), w64_succ _ (by omega), w64_succ _ (by omega), Int.toNat_natCast, h1]
      rw [show m + 1 + d = m + (d + 1) by omega]
    · rw [h3 j (by omega), List.getD_eq_getElem?_getD, List.getElem?_set_ne (by omega), ← List.getD_eq_getElem?_getD]
    · by_cases e : j = i
      · subst e
        rw [h3 j (by omega), List.getD_eq_getElem?_getD, List.getElem?_set_self (by omega)]
        simp
      · rw [h4 j (by omega) hj2]
        rw [show m + 1 + (j - (i + 1)) = m + (j - i) by omega]

theorem u8_of_wf {x : Int} (h : (Lit.int .u8 x).wf = true) : 0 ≤ x ∧ x < 256 := by
  have := h
  simp [Lit.wf, IntKind.min, IntKind.max, IntKind.bits, IntKind.signed] at this
  omega
def Bytes (xs : List Int) : Prop := ∀ x ∈ xs, 0 ≤ x ∧ x < 256
theorem Bytes.rd {xs : List Int} (h : Bytes xs) (i : Nat) : 0 ≤ rd xs (i : Int) ∧ rd xs (i : Int) < 256 := by
  rw [rd_nat, List.getD_eq_getElem?_getD]
  by_cases hi : i < xs.length
  · rw [List.getElem?_eq_getElem hi]; exact h _ (List.getElem_mem hi)
  · rw [List.getElem?_eq_none (by omega)]; exact ⟨by simp, by simp⟩

def sizeF (a : Int) : Int := if a = 4 then 0 else if a = 8 then 0 else if a = 16 then 0 else 3
theorem sizeF_cases (a : Int) : (sizeF a = 0 ∧ (a = 4 ∨ a = 8 ∨ a = 16)) ∨ (sizeF a = 3 ∧ a ≠ 4 ∧ a ≠ 8 ∧ a ≠ 16) := by
  unfold sizeF
  by_cases h1 : a = 4
  · simp [h1]
  · by_cases h2 : a = 8
    · simp [h2]
    · by_cases h3 : a = 16 <;> simp [h1, h2, h3]
def allIn (lo hi : Int) (xs : List Int) : Bool := xs.all fun n => decide (lo ≤ n ∧ n ≤ hi)
def In (lo hi : Int) (xs : List Int) : Prop := ∀ x ∈ xs, lo ≤ x ∧ x ≤ hi
theorem allIn_iff (lo hi : Int) (xs : List Int) : allIn lo hi xs = true ↔ In lo hi xs := by
  unfold allIn
  rw [List.all_eq_true]
  exact ⟨fun h x hx => by simpa using h x hx, fun h x hx => by simpa using h x hx⟩
theorem allIn_cons (lo hi x : Int) (xs : List Int) : allIn lo hi (x :: xs) = (decide (lo ≤ x ∧ x ≤ hi) && allIn lo hi xs) := rfl
theorem drop_rd' (xs : List Int) (i : Nat) (h : i < xs.length) : xs.drop i = rd xs (i : Int) :: xs.drop (i + 1) := by
  rw [rd_get xs i h]; exact List.drop_eq_getElem_cons h
def nz : List Int → Int
  | [] => 0
  | x :: xs => if x = 0 then nz xs else x

theorem neg_cast (n : Nat) : ¬ ((n : Int) < 0) := by omega

theorem l1Copy_eq (xs : List Int) (h : xs.length < 140737488355328) : spec_l1Copy.f xs = some xs := by
  unfold spec_l1Copy.f
  simp only [Option.bind_some]
  rw [if_pos (by simp; omega)]
  rfl

theorem l2Length_l0 : ∀ (d x m k : Nat), x < 2 ^ d → d ≤ 64 → m + d ≤ 1000 → d < k → spec_l2Length.l0 k (x : Int) (m : Int) = some ((m + Lib.bitLen x : Nat) : Int) := by
  intro d
  induction d with
  | zero =>
    intro x m k hx hd hm hk
    obtain ⟨k, rfl⟩ : ∃ q, k = q + 1 := ⟨k - 1, by omega⟩
    have : x = 0 := by simpa using hx
    subst this
    simp only [spec_l2Length.l0]
    rw [if_neg (by omega)]
    rfl
  | succ d ih =>
    intro x m k hx hd hm hk
    obtain ⟨k, rfl⟩ : ∃ q, k = q + 1 := ⟨k - 1, by omega⟩
    have hx2 : x < 2 ^ 64 := Nat.lt_of_lt_of_le hx (Nat.pow_le_pow_right (by omega) hd)
    simp only [spec_l2Length.l0]
    by_cases h : x = 0
    · subst h
      rw [if_neg (by omega)]
      rfl
    · rw [Nat.pow_succ] at hx
      rw [if_pos (by omega), tdiv_pos (by omega), show (x : Int) / 2 = ((x / 2 : Nat) : Int) by omega, w64 (x := ((x / 2 : Nat) : Int)) (by omega) (by omega), w64_succ m (by omega), ih (x / 2) (m + 1) k (by omega) (by omega) (by omega) (by omega), Lib.bitLen_half x h hx2]
      congr 2
      omega
theorem l2Length_eq (x k : Nat) (hx : x < 65536) (hk : 20 < k) : spec_l2Length.f k (x : Int) = some ((Lib.bitLen x : Nat) : Int) := by
  have := l2Length_l0 16 x 0 k (by omega) (by omega) (by omega) (by omega)
  rw [Nat.zero_add] at this
  exact this

theorem rdT_nat (xs : List S48) (i : Nat) : rd_T48 xs (i : Int) = xs.getD i z48 := by unfold rd_T48; rw [Int.toNat_natCast]

theorem lift {α : Type} {f : Nat → Option α} (h : ∀ k, LeO (f k) (f (k + 1))) {k : Nat} {r : α} (e : f k = some r) (m : Nat) (hm : k ≤ m) : f m = some r := by
  obtain ⟨d, rfl⟩ := Nat.le.dest hm
  clear hm
  induction d with
  | zero => exact e
  | succ d ih => exact h _ _ ih
def zig (a : Int) : Nat := if a < 0 then (-2 * a - 1).toNat else (2 * a).toNat
theorem zig_bd {a : Int} (h : -65535 ≤ a ∧ a ≤ 65535) : zig a ≤ 131070 := by unfold zig; split <;> omega
theorem zigF {a : Int} (h : -65535 ≤ a ∧ a ≤ 65535) : (if a < 0 then (some (wrap64 ((wrap64 ((-2) * a)) - 1))) else (some (wrap64 (2 * a)))) = some (zig a : Int) := by
  unfold zig
  split
  · rw [w64 (x := -2 * a) (by omega) (by omega), w64 (by omega) (by omega), Int.toNat_of_nonneg (by omega)]
  · rw [w64 (by omega) (by omega), Int.toNat_of_nonneg (by omega)]
theorem l4Zig_eq {a : Int} (h : -65535 ≤ a ∧ a ≤ 65535) : spec_l4Zig.f a = some (zig a : Int) := zigF h
theorem zigOf_eq {a : Int} (h : -65535 ≤ a ∧ a ≤ 65535) : impl_zigOf.f a = some (zig a : Int) := zigF h
def cls (n : Nat) : S48 := match impl_classSlot.f 40 (n : Int) with
  | some p => ⟨p.1, p.2.1, p.2.2⟩
  | none => z48
theorem cls_all : ∀ n : Fin 18, spec_l4Class.f 40 (n.val : Int) = some ((cls n.val).f0, (cls n.val).f1, (cls n.val).f2) ∧ impl_classSlot.f 40 (n.val : Int) = some ((cls n.val).f0, (cls n.val).f1, (cls n.val).f2) := by decide +kernel
theorem specClass_eq (n k : Nat) (hn : n < 18) (hk : 40 ≤ k) : spec_l4Class.f k (n : Int) = some ((cls n).f0, (cls n).f1, (cls n).f2) := lift (spec_l4Class.mono n) (cls_all ⟨n, hn⟩).1 k hk
theorem implClass_eq (n k : Nat) (hn : n < 18) (hk : 40 ≤ k) : impl_classSlot.f k (n : Int) = some ((cls n).f0, (cls n).f1, (cls n).f2) := lift (impl_classSlot.mono n) (cls_all ⟨n, hn⟩).2 k hk
theorem two_all : ∀ w : Fin 18, spec_l4Two.f 40 (w.val : Int) = some ((2 ^ w.val : Nat) : Int) := by decide +kernel
theorem two_eq (w k : Nat) (hw : w ≤ 17) (hk : 40 ≤ k) : spec_l4Two.f k (w : Int) = some ((2 ^ w : Nat) : Int) := lift (spec_l4Two.mono w) (two_all ⟨w, by omega⟩) k hk
def pcs (n : Nat) : List Int := if n < 2 then [] else if n - 1 > 8 then [((n - 9 : Nat) : Int), 8] else [((n - 1 : Nat) : Int)]
theorem pieces_all : ∀ n : Fin 18, spec_l4Pieces.f (n.val : Int) = some (pcs n.val) ∧ impl_pieces.f (n.val : Int) = some (pcs n.val) := by decide +kernel
def sl (z w s : Nat) : S48 := ⟨((z / 2 ^ s % 2 ^ w : Nat) : Int), 1, ((2 ^ w : Nat) : Int)⟩
def slotsL (z : Nat) : List S48 := [cls (Lib.bitLen z)] ++ (if Lib.bitLen z < 2 then [] else if Lib.bitLen z - 1 > 8 then [sl z (Lib.bitLen z - 9) 8, sl z 8 0] else [sl z (Lib.bitLen z - 1) 0])
theorem cast_step (s w : Nat) (h1 : w ≤ 17) (h2 : s ≤ 17) : wrap64 (((s + w : Nat) : Int) - (w : Int)) = (s : Int) := by
  rw [w64 (by omega) (by omega)]; omega
theorem spec_step (k z : Nat) (xs : List S48) (ps : List Int) (i w s : Nat) (hk : 40 ≤ k) (hi : i < ps.length) (hp : ps.length ≤ 10) (hw : rd ps (i : Int) = (w : Int)) (h1 : w ≤ 17) (h2 : s ≤ 17) (hz : z < 131072) (hx : xs.length ≤ 10) :
    spec_l4Slots.l0 (k + 1) (z : Int) xs ps ((s + w : Nat) : Int) (i : Int) = spec_l4Slots.l0 k (z : Int) (xs ++ [sl z w s]) ps (s : Int) ((i + 1 : Nat) : Int) := by
  simp only [spec_l4Slots.l0]
  rw [if_pos (by omega), if_pos (by omega)]
  simp only [hw, cast_step s w h1 h2, two_eq w k h1 hk, two_eq s k h2 hk, Option.bind_some, w64_succ i (show i ≤ 4000000000000000000 by omega)]
  have hq : 0 < 2 ^ w := Nat.two_pow_pos w
  have hs : 0 < 2 ^ s := Nat.two_pow_pos s
  unfold sl
  generalize 2 ^ w = q at hq ⊢
  generalize 2 ^ s = p at hs ⊢
  have hd : z / p ≤ z := Nat.div_le_self z p
  have hd0 : (0 : Int) ≤ ((z / p : Nat) : Int) := Int.natCast_nonneg _
  have e2 : Int.tmod (wrap64 (Int.tdiv (z : Int) (p : Int))) (q : Int) = ((z / p % q : Nat) : Int) := by
    rw [tdiv_pos (by omega), ← Int.natCast_ediv, w64 (by omega) (by omega), tmod_pos (by omega)]
    rfl
  rw [if_neg (by omega), if_neg (by omega), if_pos (by omega), e2]
theorem shl_all : ∀ w : Fin 18, shl .i64 1 (w.val : Int) = ((2 ^ w.val : Nat) : Int) ∧ wrap64 (((2 ^ w.val : Nat) : Int) - 1) = (2 : Int) ^ w.val - 1 := by decide +kernel
theorem shr_eq (z s : Nat) (hs : s ≤ 17) : shr .i64 (z : Int) (s : Int) = ((z / 2 ^ s : Nat) : Int) := by
  unfold shr
  rw [Int.toNat_natCast, show IntKind.i64.bits = 64 from rfl, Nat.min_eq_left (by omega), Int.natCast_ediv, Int.natCast_pow]
  rfl
theorem impl_step (k z : Nat) (xs : List S48) (ps : List Int) (i w s : Nat) (hi : i < ps.length) (hp : ps.length ≤ 10) (hw : rd ps (i : Int) = (w : Int)) (h1 : w ≤ 17) (h2 : s ≤ 17) (hz : z < 131072) (hx : xs.length ≤ 10) :
    impl_slotsOf.l0 (k + 1) (z : Int) xs ((s + w : Nat) : Int) ps (ps.length : Int) (i : Int) = impl_slotsOf.l0 k (z : Int) (xs ++ [sl z w s]) (s : Int) ps (ps.length : Int) ((i + 1 : Nat) : Int) := by
  simp only [impl_slotsOf.l0]
  rw [if_pos (by omega), if_pos (by omega), if_pos (by omega)]
  have hd : z / 2 ^ s ≤ z := Nat.div_le_self z _
  have hd0 : (0 : Int) ≤ ((z / 2 ^ s : Nat) : Int) := Int.natCast_nonneg _
  have hb := bits_mask .i64 62 (by decide) (fun n h0 h1 => by rw [IntKind.wrap_i64]; omega) w (by omega) ((z / 2 ^ s : Nat) : Int) (by omega) (by omega)
  have ha := shl_all ⟨w, by omega⟩
  simp only [hw, cast_step s w h1 h2, ha.1, ha.2, shr_eq z s h2, w64_succ i (show i ≤ 4000000000000000000 by omega), hb]
  rw [if_pos (by omega), if_pos (by omega), if_pos (by omega)]
  unfold sl
  rw [Int.natCast_emod, Int.natCast_pow]
  rfl
theorem len17 {z : Nat} (hz : z < 131072) : Lib.bitLen z < 18 := by
  have := Lib.bitLen_le z 17 (by omega) (by omega)
  omega
theorem pcs_cases (n : Nat) : (n < 2 ∧ pcs n = []) ∨ (2 ≤ n ∧ n - 1 > 8 ∧ pcs n = [((n - 9 : Nat) : Int), 8]) ∨ (2 ≤ n ∧ ¬ n - 1 > 8 ∧ pcs n = [((n - 1 : Nat) : Int)]) := by
  unfold pcs
  by_cases h : n < 2
  · exact .inl ⟨h, by rw [if_pos h]⟩
  · by_cases g : n - 1 > 8
    · exact .inr (.inl ⟨by omega, g, by rw [if_neg h, if_pos g]⟩)
    · exact .inr (.inr ⟨by omega, g, by rw [if_neg h, if_neg g]⟩)
theorem pred64 (n : Nat) (h : n < 18) (h2 : 2 ≤ n) : wrap64 ((n : Int) - 1) = ((n - 1 : Nat) : Int) := by
  rw [w64 (by omega) (by omega)]; omega
theorem spec_run (z k n : Nat) (hz : z < 131072) (hn : n < 18) (hk : 50 ≤ k) : spec_l4Slots.l0 k (z : Int) [cls n] (pcs n) (wrap64 ((n : Int) - 1)) 0 = some ([cls n] ++ (if n < 2 then [] else if n - 1 > 8 then [sl z (n - 9) 8, sl z 8 0] else [sl z (n - 1) 0])) := by
  obtain ⟨k, rfl⟩ : ∃ q, k = q + 3 := ⟨k - 3, by omega⟩
  rcases pcs_cases n with ⟨h, e⟩ | ⟨h2, h, e⟩ | ⟨h2, h, e⟩
  · rw [e, if_pos h]
    simp only [spec_l4Slots.l0]
    rw [if_neg (by simp)]
    rfl
  · have s1 := spec_step (k + 2) z [cls n] (pcs n) 0 (n - 9) 8 (by omega) (by rw [e]; simp) (by rw [e]; simp) (by rw [e]; rfl) (by omega) (by omega) hz (by simp)
    have s2 := spec_step (k + 1) z ([cls n] ++ [sl z (n - 9) 8]) (pcs n) 1 8 0 (by omega) (by rw [e]; simp) (by rw [e]; simp) (by rw [e]; rfl) (by omega) (by omega) hz (by simp)
    rw [pred64 n hn h2, show n - 1 = 8 + (n - 9) by omega]
    refine s1.trans (Eq.trans s2 ?_)
    rw [if_neg (by omega), if_pos (by omega)]
    simp only [spec_l4Slots.l0]
    rw [if_neg (by rw [e]; simp)]
    rfl
  · have s1 := spec_step (k + 2) z [cls n] (pcs n) 0 (n - 1) 0 (by omega) (by rw [e]; simp) (by rw [e]; simp) (by rw [e]; rfl) (by omega) (by omega) hz (by simp)
    rw [pred64 n hn h2]
    rw [Nat.zero_add] at s1
    refine s1.trans ?_
    rw [if_neg (by omega), if_neg h]
    simp only [spec_l4Slots.l0]
    rw [if_neg (by rw [e]; simp)]
theorem impl_run (z k n : Nat) (hz : z < 131072) (hn : n < 18) (hk : 50 ≤ k) : impl_slotsOf.l0 k (z : Int) [cls n] (wrap64 ((n : Int) - 1)) (pcs n) ((pcs n).length : Int) 0 = some ([cls n] ++ (if n < 2 then [] else if n - 1 > 8 then [sl z (n - 9) 8, sl z 8 0] else [sl z (n - 1) 0])) := by
  obtain ⟨k, rfl⟩ : ∃ q, k = q + 3 := ⟨k - 3, by omega⟩
  rcases pcs_cases n with ⟨h, e⟩ | ⟨h2, h, e⟩ | ⟨h2, h, e⟩
  · rw [e, if_pos h]
    simp only [impl_slotsOf.l0]
    rw [if_neg (by simp)]
    rfl
  · have s1 := impl_step (k + 2) z [cls n] (pcs n) 0 (n - 9) 8 (by rw [e]; simp) (by rw [e]; simp) (by rw [e]; rfl) (by omega) (by omega) hz (by simp)
    have s2 := impl_step (k + 1) z ([cls n] ++ [sl z (n - 9) 8]) (pcs n) 1 8 0 (by rw [e]; simp) (by rw [e]; simp) (by rw [e]; rfl) (by omega) (by omega) hz (by simp)
    rw [pred64 n hn h2, show n - 1 = 8 + (n - 9) by omega]
    refine s1.trans (Eq.trans s2 ?_)
    rw [if_neg (by omega), if_pos (by omega)]
    simp only [impl_slotsOf.l0]
    rw [if_neg (by rw [e]; simp)]
    rfl
  · have s1 := impl_step (k + 2) z [cls n] (pcs n) 0 (n - 1) 0 (by rw [e]; simp) (by rw [e]; simp) (by rw [e]; rfl) (by omega) (by omega) hz (by simp)
    rw [pred64 n hn h2]
    rw [Nat.zero_add] at s1
    refine s1.trans ?_
    rw [if_neg (by omega), if_neg h]
    simp only [impl_slotsOf.l0]
    rw [if_neg (by rw [e]; simp)]
theorem l2Length_eq17 (x k : Nat) (hx : x < 131072) (hk : 20 < k) : spec_l2Length.f k (x : Int) = some ((Lib.bitLen x : Nat) : Int) := by
  have := l2Length_l0 17 x 0 k (by omega) (by omega) (by omega) (by omega)
  rw [Nat.zero_add] at this
  exact this
theorem u64_id' {n : Int} (h0 : 0 ≤ n) (h1 : n < 9223372036854775808) : IntKind.u64.wrap n = n := by
  rw [IntKind.wrap_u64]; omega
theorem bitsLen_eq (x : Nat) (hx : x < 131072) : bits_Len64.f (IntKind.u64.wrap (x : Int)) = some ((Lib.bitLen x : Nat) : Int) := by
  unfold bits_Len64.f; rw [u64_id' (by omega) (by omega), if_pos (by omega), Int.toNat_natCast]
theorem spec_slots_eq {a : Int} (h : -65535 ≤ a ∧ a ≤ 65535) (k : Nat) (hk : 50 ≤ k) : spec_l4Slots.f k a = some (slotsL (zig a)) := by
  have hz : zig a < 131072 := by have := zig_bd h; omega
  unfold spec_l4Slots.f
  simp only [l4Zig_eq h, Option.bind_some, l2Length_eq17 _ k hz (by omega), specClass_eq _ k (len17 hz) (by omega), (pieces_all ⟨_, len17 hz⟩).1]
  exact spec_run _ k _ hz (len17 hz) hk
theorem impl_slots_eq {a : Int} (h : -65535 ≤ a ∧ a ≤ 65535) (k : Nat) (hk : 50 ≤ k) : impl_slotsOf.f k a = some (slotsL (zig a)) := by
  have hz : zig a < 131072 := by have := zig_bd h; omega
  unfold impl_slotsOf.f
  simp only [zigOf_eq h, Option.bind_some, bitsLen_eq _ hz, implClass_eq _ k (len17 hz) (by omega), (pieces_all ⟨_, len17 hz⟩).2]
  exact impl_run _ k _ hz (len17 hz) hk
theorem slotsL_len (z : Nat) : 1 ≤ (slotsL z).length ∧ (slotsL z).length ≤ 3 := by
  unfold slotsL
  split
  · simp
  · split <;> simp
theorem isValue_eq (a : Int) : impl_isValue.f a = some (decide (-65535 ≤ a ∧ a ≤ 65535)) := by
  unfold impl_isValue.f; rw [within_eq _ _ (by omega) (by omega)]; rfl

/-! ## the range coder: the program's encoding is the reference's -/
def SlotOk (s : S48) : Prop := (1 ≤ s.f2 ∧ s.f2 ≤ 1024) ∧ (1 ≤ s.f1 ∧ s.f1 ≤ s.f2) ∧ (0 ≤ s.f0 ∧ s.f0 ≤ s.f2 - s.f1)
def val : List Int → Int
  | [] => 0
  | b :: t => b * 256 ^ t.length + val t
theorem p256 (n : Nat) : (0 : Int) < 256 ^ n := Int.pow_pos (by decide)
theorem p256s (n : Nat) : (256 : Int) ^ (n + 1) = 256 * 256 ^ n := by rw [Int.pow_succ, Int.mul_comm]
theorem val_append (b : Int) : ∀ xs : List Int, val (xs ++ [b]) = 256 * val xs + b
  | [] => by simp [val]
  | a :: t => by
    have ih := val_append b t
    show a * 256 ^ (t ++ [b]).length + val (t ++ [b]) = 256 * (a * 256 ^ t.length + val t) + b
    rw [ih, List.length_append, List.length_cons, List.length_nil, Nat.zero_add, p256s, ← Int.mul_assoc, Int.mul_comm a 256, Int.mul_assoc]
    generalize a * 256 ^ t.length = q
    omega
theorem val_set (v : Int) : ∀ (xs : List Int) (i : Nat), i < xs.length → val (xs.set i v) = val xs + (v - xs.getD i 0) * 256 ^ (xs.length - 1 - i)
  | a :: t, 0, _ => by
    show v * 256 ^ t.length + val t = a * 256 ^ t.length + val t + (v - a) * 256 ^ (t.length + 1 - 1 - 0)
    rw [Nat.add_sub_cancel, Nat.sub_zero, Int.sub_mul]
    omega
  | a :: t, i + 1, h => by
    have ih := val_set v t i (by simp only [List.length_cons] at h; omega)
    have e : (a :: t).length - 1 - (i + 1) = t.length - 1 - i := by simp only [List.length_cons]; omega
    show a * 256 ^ (t.set i v).length + val (t.set i v) = a * 256 ^ t.length + val t + (v - t.getD i 0) * 256 ^ ((a :: t).length - 1 - (i + 1))
    rw [e, List.length_set, ih]
    omega
theorem Bytes.set {xs : List Int} (h : Bytes xs) (i : Nat) {v : Int} (hv : 0 ≤ v ∧ v < 256) : Bytes (xs.set i v) := by
  intro x hx
  rcases List.mem_or_eq_of_mem_set hx with hx | rfl
  · exact h x hx
  · exact hv
theorem Bytes.snoc {xs : List Int} (h : Bytes xs) {v : Int} (hv : 0 ≤ v ∧ v < 256) : Bytes (xs ++ [v]) := by
  intro x hx
  rcases List.mem_append.1 hx with hx | hx
  · exact h x hx
  · rw [List.mem_singleton] at hx; subst hx; exact hv
theorem val_nonneg : ∀ (xs : List Int), Bytes xs → 0 ≤ val xs
  | [], _ => by simp [val]
  | a :: t, h => by
    have ih := val_nonneg t (fun x hx => h x (List.mem_cons_of_mem _ hx))
    have ha := (h a (List.mem_cons_self ..)).1
    have hp := p256 t.length
    have := Int.mul_nonneg ha (Int.le_of_lt hp)
    show 0 ≤ a * 256 ^ t.length + val t
    omega
theorem carry_l0 : ∀ (j : Nat) (xs : List Int), j ≤ xs.length → Bytes xs → xs.length ≤ 1000000 → val xs + 256 ^ (xs.length - j) < 256 ^ xs.length →
    ∃ ys, (Bytes ys ∧ ys.length = xs.length ∧ val ys = val xs + 256 ^ (xs.length - j)) ∧ ∀ k1 k2 : Nat, j < k1 → j < k2 → impl_carry.l0 k1 xs ((j : Int) - 1) = some ys ∧ spec_l3Carry.l0 k2 xs ((j : Int) - 1) = some ys := by
  intro j
  induction j with
  | zero =>
    intro xs _ hb _ h
    rw [Nat.sub_zero] at h
    have := val_nonneg xs hb
    omega
  | succ j ih =>
    intro xs hj hb hn h
    have e0 : ((j + 1 : Nat) : Int) - 1 = (j : Int) := by omega
    have hp := p256s (xs.length - 1 - j)
    have e1 : xs.length - (j + 1) = xs.length - 1 - j := by omega
    have e2 : xs.length - j = xs.length - 1 - j + 1 := by omega
    have hx := hb.rd j
    rw [rd_nat] at hx
    by_cases c : xs.getD j 0 = 255
    · have hv := val_set 0 xs j (by omega)
      rw [c] at hv
      obtain ⟨ys, ⟨y1, y2, y3⟩, y4⟩ := ih (xs.set j 0) (by rw [List.length_set]; omega) (hb.set j (by omega)) (by rw [List.length_set]; exact hn) (by
        rw [List.length_set, e2, hp, hv]; rw [e1] at h; generalize (256 : Int) ^ (xs.length - 1 - j) = q at *; omega)
      rw [List.length_set] at y2 y3
      refine ⟨ys, ⟨y1, y2, ?_⟩, fun k1 k2 h1 h2 => ?_⟩
      · rw [y3, hv, e2, hp, e1]; generalize (256 : Int) ^ (xs.length - 1 - j) = q at *; omega
      · obtain ⟨k1, rfl⟩ : ∃ q, k1 = q + 1 := ⟨k1 - 1, by omega⟩
        obtain ⟨k2, rfl⟩ : ∃ q, k2 = q + 1 := ⟨k2 - 1, by omega⟩
        have w : wrap64 ((j : Int) - 1) = (j : Int) - 1 := w64 (by omega) (by omega)
        have := y4 k1 k2 (by omega) (by omega)
        simp only [impl_carry.l0, spec_l3Carry.l0, e0, rd_nat, c, w, Int.toNat_natCast]
        rw [if_pos (by omega), if_pos (by omega), if_pos trivial, if_pos (by omega), if_pos (by omega), if_pos (by omega), if_neg (by omega)]
        exact this
    · have hv := val_set ((xs.getD j 0 + 1) % 256) xs j (by omega)
      have m : (xs.getD j 0 + 1) % 256 = xs.getD j 0 + 1 := by omega
      rw [m, show xs.getD j 0 + 1 - xs.getD j 0 = 1 by omega, Int.one_mul] at hv
      refine ⟨xs.set j (xs.getD j 0 + 1), ⟨hb.set j (by omega), List.length_set, ?_⟩, fun k1 k2 h1 h2 => ?_⟩
      · rw [hv, e1]
      · obtain ⟨k1, rfl⟩ : ∃ q, k1 = q + 1 := ⟨k1 - 1, by omega⟩
        obtain ⟨k2, rfl⟩ : ∃ q, k2 = q + 1 := ⟨k2 - 1, by omega⟩
        simp only [impl_carry.l0, spec_l3Carry.l0, e0, rd_nat, Int.toNat_natCast, m]
        rw [if_pos (by omega), if_pos (by omega), if_neg c, if_pos (by omega), if_pos (by omega), if_pos (by omega), if_pos (by omega)]
        exact ⟨rfl, rfl⟩
theorem carry_both (xs : List Int) (hb : Bytes xs) (hn : xs.length ≤ 1000000) (h : val xs + 1 < 256 ^ xs.length) :
    ∃ ys, (Bytes ys ∧ ys.length = xs.length ∧ val ys = val xs + 1) ∧ ∀ k1 k2 : Nat, xs.length < k1 → xs.length < k2 → impl_carry.f k1 xs = some ys ∧ spec_l3Carry.f k2 xs = some ys := by
  have e : (256 : Int) ^ (xs.length - xs.length) = 1 := by rw [Nat.sub_self]; rfl
  obtain ⟨ys, y1, y2⟩ := carry_l0 xs.length xs (Nat.le_refl _) hb hn (by rw [e]; exact h)
  rw [e] at y1
  refine ⟨ys, y1, fun k1 k2 h1 h2 => ?_⟩
  have w : wrap64 ((xs.length : Int) - 1) = (xs.length : Int) - 1 := w64 (by omega) (by omega)
  unfold impl_carry.f spec_l3Carry.f
  rw [l1Copy_eq xs (by omega), Option.bind_some, w]
  exact y2 k1 k2 h1 h2
theorem narrow_both (r : Int) (s : S48) (h : SlotOk s) (h1 : 65536 ≤ r) (h2 : r ≤ 16777216) :
    ∃ b nx, (0 ≤ b ∧ 1 ≤ nx ∧ b + nx ≤ r) ∧ impl_narrowed.f r s.f0 s.f1 s.f2 = some (b, nx) ∧ spec_l3Narrow.f r s.f0 s.f1 s.f2 = some nx ∧ wrap64 ((wrap64 (Int.tdiv r s.f2)) * s.f0) = b := by
  obtain ⟨⟨t1, t2⟩, ⟨z1, z2⟩, l1, l2⟩ := h
  have ed := tdiv_pos (a := r) (by omega) s.f2
  have dm := Int.ediv_mul_le r (show s.f2 ≠ 0 by omega)
  have bd := div_bd (a := r) (b := s.f2) (by omega) (by omega)
  have u1 : 1 ≤ r / s.f2 := Int.le_ediv_of_mul_le (by omega) (by omega)
  generalize r / s.f2 = u at *
  have a1 : u * s.f0 + u * s.f1 ≤ u * s.f2 := by rw [← Int.mul_add]; exact Int.mul_le_mul_of_nonneg_left (by omega) (by omega)
  have a2 : 0 ≤ u * s.f0 := Int.mul_nonneg (by omega) l1
  have a3 : u ≤ u * s.f1 := by have := Int.mul_le_mul_of_nonneg_left z1 (show 0 ≤ u by omega); omega
  have w0 : wrap64 u = u := w64 (by omega) (by omega)
  have w1 : wrap64 (u * s.f0) = u * s.f0 := w64 (by omega) (by omega)
  have w2 : wrap64 (u * s.f1) = u * s.f1 := w64 (by omega) (by omega)
  have w3 : wrap64 (s.f0 + s.f1) = s.f0 + s.f1 := w64 (by omega) (by omega)
  have w4 : wrap64 (r - u * s.f0) = r - u * s.f0 := w64 (by omega) (by omega)
  unfold impl_narrowed.f spec_l3Narrow.f
  have tz : ¬ s.f2 = 0 := by omega
  rw [ed, w0, w1, w2, w3, w4]
  simp only [if_neg tz]
  by_cases c : s.f0 + s.f1 = s.f2
  · simp only [if_pos c]
    exact ⟨_, _, ⟨a2, by omega, by omega⟩, rfl, rfl, rfl⟩
  · simp only [if_neg c]
    exact ⟨_, _, ⟨a2, by omega, by omega⟩, rfl, rfl, rfl⟩
/-- What the two encoders hold. -/
structure Held (out : List Int) (low r : Int) : Prop where
  by' : Bytes out
  lo : 0 ≤ low ∧ low < 16777216
  r0 : r ≤ 16777216
  sum : val out * 16777216 + low + r ≤ 256 ^ out.length * 16777216
def thr : Nat → Int
  | 0 => 65536
  | 1 => 256
  | _ + 2 => 1
theorem shift_both (L : List S48) (n i : Int) : ∀ (d : Nat) (out : List Int) (low r : Int), thr d ≤ r → Held out low r → out.length + d ≤ 100000 →
    ∃ out' low' r', (Held out' low' r' ∧ 65536 ≤ r' ∧ out'.length ≤ out.length + d) ∧ ∀ f1 f2 : Nat, ∃ g1 g2, f1 ≤ g1 ∧ f2 ≤ g2 ∧
      spec_l3Encode.l1 (f1 + d + 1) L out low r i = spec_l3Encode.l0 g1 L out' low' r' (wrap64 (i + 1)) ∧
      impl_encode.l1 (f2 + d + 1) out low r L n i = impl_encode.l0 g2 out' low' r' L n (wrap64 (i + 1)) := by
  intro d
  induction d with
  | zero =>
    intro out low r ht hH hl
    have ht' : 65536 ≤ r := ht
    refine ⟨out, low, r, ⟨hH, ht', by omega⟩, fun f1 f2 => ⟨f1 + 0, f2 + 0, by omega, by omega, ?_, ?_⟩⟩
    · simp only [spec_l3Encode.l1]; rw [if_neg (by omega), Nat.add_zero]
    · simp only [impl_encode.l1]; rw [if_neg (by omega), Nat.add_zero]
  | succ d ih =>
    intro out low r ht hH hl
    by_cases c : r < 65536
    · have h0 := hH.lo
      have hr1 : 1 ≤ r := by
        match d, ht with
        | 0, ht => have : (256 : Int) ≤ r := ht; omega
        | d + 1, ht => exact ht
      have ht' : thr d ≤ r * 256 := by
        match d, ht with
        | 0, ht => have : (256 : Int) ≤ r := ht; show (65536 : Int) ≤ r * 256; omega
        | 1, ht => have : (1 : Int) ≤ r := ht; show (256 : Int) ≤ r * 256; omega
        | d + 2, ht => have : (1 : Int) ≤ r := ht; show (1 : Int) ≤ r * 256; omega
      have e1 : (wrap64 (Int.tdiv low 65536)) % 256 = low / 65536 := by rw [tdiv_pos h0.1, w64 (by omega) (by omega)]; omega
      have e2 : (low / 65536) % 256 = low / 65536 := by omega
      have e3 : wrap64 ((Int.tmod low 65536) * 256) = low % 65536 * 256 := by rw [tmod_pos h0.1, w64 (by omega) (by omega)]
      have e4 : wrap64 (r * 256) = r * 256 := w64 (by omega) (by omega)
      have hs := hH.sum
      have hH' : Held (out ++ [low / 65536]) (low % 65536 * 256) (r * 256) := by
        refine ⟨hH.by'.snoc (by omega), by omega, by omega, ?_⟩
        rw [val_append, List.length_append, List.length_cons, List.length_nil, Nat.zero_add, p256s]
        generalize (256 : Int) ^ out.length = P at *
        omega
      obtain ⟨out', low', r', ⟨q1, q2, q3⟩, q4⟩ := ih _ _ _ ht' hH' (by rw [List.length_append, List.length_cons, List.length_nil]; omega)
      rw [List.length_append, List.length_cons, List.length_nil] at q3
      refine ⟨out', low', r', ⟨q1, q2, by omega⟩, fun f1 f2 => ?_⟩
      obtain ⟨g1, g2, u1, u2, u3, u4⟩ := q4 f1 f2
      refine ⟨g1, g2, u1, u2, ?_, ?_⟩
      · rw [show f1 + (d + 1) + 1 = f1 + d + 1 + 1 by omega]
        rw [spec_l3Encode.l1]
        rw [if_pos c, if_pos (by omega), e1, e3, e4]
        exact u3
      · rw [show f2 + (d + 1) + 1 = f2 + d + 1 + 1 by omega]
        rw [impl_encode.l1]
        rw [if_pos c, if_pos (by omega), e2, e3, e4]
        exact u4
    · refine ⟨out, low, r, ⟨hH, by omega, by omega⟩, fun f1 f2 => ⟨f1 + (d + 1), f2 + (d + 1), by omega, by omega, ?_, ?_⟩⟩
      · rw [spec_l3Encode.l1]; rw [if_neg c]
      · rw [impl_encode.l1]; rw [if_neg c]
theorem trim_both : ∀ (n : Nat) (xs : List Int), xs.length = n → n ≤ 1000000 →
    ∃ ys, ys.length ≤ n ∧ ∀ k1 k2 : Nat, n < k1 → n < k2 → spec_l3Encode.l2 k1 xs = some ys ∧ bytes_trimRightByte.l0 k2 xs 0 = some ys := by
  intro n
  induction n with
  | zero =>
    intro xs hx _
    refine ⟨xs, by omega, fun k1 k2 h1 h2 => ?_⟩
    obtain ⟨k1, rfl⟩ : ∃ q, k1 = q + 1 := ⟨k1 - 1, by omega⟩
    obtain ⟨k2, rfl⟩ : ∃ q, k2 = q + 1 := ⟨k2 - 1, by omega⟩
    rw [spec_l3Encode.l2, bytes_trimRightByte.l0]
    rw [if_neg (by omega), if_neg (by omega)]
    exact ⟨rfl, rfl⟩
  | succ n ih =>
    intro xs hx hn
    have w : wrap64 ((xs.length : Int) - 1) = (n : Int) := by rw [hx, w64 (by omega) (by omega)]; omega
    by_cases c : rd xs (n : Int) = 0
    · obtain ⟨ys, y1, y2⟩ := ih (xs.take n) (by rw [List.length_take]; omega) (by omega)
      refine ⟨ys, by omega, fun k1 k2 h1 h2 => ?_⟩
      obtain ⟨k1, rfl⟩ : ∃ q, k1 = q + 1 := ⟨k1 - 1, by omega⟩
      obtain ⟨k2, rfl⟩ : ∃ q, k2 = q + 1 := ⟨k2 - 1, by omega⟩
      rw [spec_l3Encode.l2, bytes_trimRightByte.l0]
      simp only [w, Int.toNat_natCast]
      rw [if_pos (by omega), if_pos (by omega), if_pos (by omega), if_pos c, if_pos (by omega), if_pos (by omega), if_pos (by omega), if_pos (by omega), if_pos c, if_pos (by omega)]
      exact y2 k1 k2 (by omega) (by omega)
    · refine ⟨xs, by omega, fun k1 k2 h1 h2 => ?_⟩
      obtain ⟨k1, rfl⟩ : ∃ q, k1 = q + 1 := ⟨k1 - 1, by omega⟩
      obtain ⟨k2, rfl⟩ : ∃ q, k2 = q + 1 := ⟨k2 - 1, by omega⟩
      rw [spec_l3Encode.l2, bytes_trimRightByte.l0]
      simp only [w, Int.toNat_natCast]
      rw [if_pos (by omega), if_pos (by omega), if_pos (by omega), if_neg c, if_pos (by omega), if_pos (by omega), if_pos (by omega), if_neg c]
      exact ⟨rfl, rfl⟩
theorem bt0 : bt (⟨#[0]⟩ : ByteArray) 0 = 0 := by rfl
theorem trimRight_eq (xs : List Int) (h : 0 < xs.length) (k : Nat) (ys : List Int) (e : bytes_trimRightByte.l0 k xs 0 = some ys) : bytes_TrimRight.f (k + 1 + 1) xs (⟨#[0]⟩ : ByteArray) = some ys := by
  have hb : ((⟨#[0]⟩ : ByteArray).toList == ([] : List UInt8)) = false := by decide +kernel
  have hz : (((⟨#[0]⟩ : ByteArray).size : Nat) : Int) = 1 := by rfl
  unfold bytes_TrimRight.f
  rw [if_neg (by omega), hb, bytes_TrimRight.j0]
  rw [if_neg (by decide), hz, if_pos rfl, if_pos (by decide), bt0, decide_eq_true (by decide), bytes_TrimRight.j1]
  rw [if_pos rfl, hz, if_pos (by decide), bt0]
  unfold bytes_trimRightByte.f
  rw [e]; rfl
theorem clone_eq (xs : List Int) (h : xs.length ≤ 1000000) : slices_Clone_byte_byte.f xs = some xs := by
  unfold slices_Clone_byte_byte.f; rw [if_pos (by omega)]
theorem bindS' {α β : Type} (a : α) (f : α → Option β) : (some a).bind f = f a := by cases h : (some a).bind f <;> (rw [← h]; rfl)
theorem spec_near (K : Nat) (L : List S48) (out : List Int) (low r b nx : Int) (i : Nat) (hi : i < L.length) (tz : ¬ (L.getD i z48).f2 = 0) (n2 : spec_l3Narrow.f r (L.getD i z48).f0 (L.getD i z48).f1 (L.getD i z48).f2 = some nx)
    (n3 : wrap64 ((wrap64 (Int.tdiv r (L.getD i z48).f2)) * (L.getD i z48).f0) = b) (w1 : wrap64 (low + b) = low + b) (c : ¬ low + b ≥ 16777216) : spec_l3Encode.l0 (K + 1) L out low r (i : Int) = spec_l3Encode.j1 K L out (low + b) nx (i : Int) := by
  rw [spec_l3Encode.l0, rdT_nat]
  rw [if_pos (by omega), if_pos (by omega), if_neg tz, n2, bindS', n3, w1, if_neg c]
theorem spec_far (K : Nat) (L : List S48) (out cs : List Int) (low r b nx lo : Int) (i : Nat) (hi : i < L.length) (tz : ¬ (L.getD i z48).f2 = 0) (n2 : spec_l3Narrow.f r (L.getD i z48).f0 (L.getD i z48).f1 (L.getD i z48).f2 = some nx)
    (n3 : wrap64 ((wrap64 (Int.tdiv r (L.getD i z48).f2)) * (L.getD i z48).f0) = b) (w1 : wrap64 (low + b) = low + b) (c : low + b ≥ 16777216) (cc : spec_l3Carry.f K out = some cs) (w2 : wrap64 (low + b - 16777216) = lo) :
    spec_l3Encode.l0 (K + 1) L out low r (i : Int) = spec_l3Encode.j1 K L cs lo nx (i : Int) := by
  rw [spec_l3Encode.l0, rdT_nat]
  rw [if_pos (by omega), if_pos (by omega), if_neg tz, n2, bindS', n3, w1, if_pos c, cc, bindS', w2]
theorem impl_near (K : Nat) (L : List S48) (out : List Int) (low r b nx : Int) (i : Nat) (hi : i < L.length) (n1 : impl_narrowed.f r (L.getD i z48).f0 (L.getD i z48).f1 (L.getD i z48).f2 = some (b, nx))
    (w1 : wrap64 (low + b) = low + b) (c : ¬ low + b ≥ 16777216) : impl_encode.l0 (K + 1) out low r L (L.length : Int) (i : Int) = impl_encode.j1 K out (low + b) nx L (L.length : Int) (i : Int) := by
  rw [impl_encode.l0, rdT_nat]
  rw [if_pos (by omega), if_pos (by omega), if_pos (by omega), n1, bindS', w1, if_neg c]
theorem impl_far (K : Nat) (L : List S48) (out cs : List Int) (low r b nx lo : Int) (i : Nat) (hi : i < L.length) (n1 : impl_narrowed.f r (L.getD i z48).f0 (L.getD i z48).f1 (L.getD i z48).f2 = some (b, nx))
    (w1 : wrap64 (low + b) = low + b) (c : low + b ≥ 16777216) (cc : impl_carry.f K out = some cs) (w2 : wrap64 (low + b - 16777216) = lo) :
    impl_encode.l0 (K + 1) out low r L (L.length : Int) (i : Int) = impl_encode.j1 K cs lo nx L (L.length : Int) (i : Int) := by
  rw [impl_encode.l0, rdT_nat]
  rw [if_pos (by omega), if_pos (by omega), if_pos (by omega), n1, bindS', w1, if_pos c, cc, bindS', w2]
theorem spec_j1 (K : Nat) (L : List S48) (out : List Int) (low r i : Int) : spec_l3Encode.j1 (K + 1) L out low r i = spec_l3Encode.l1 K L out low r i := by rw [spec_l3Encode.j1]
theorem impl_j1 (K : Nat) (L : List S48) (out : List Int) (low r n i : Int) : impl_encode.j1 (K + 1) out low r L n i = impl_encode.l1 K out low r L n i := by rw [impl_encode.j1]
theorem enc_both (L : List S48) (hL : ∀ i, i < L.length → SlotOk (L.getD i z48)) (hn : L.length ≤ 400) : ∀ (d i : Nat) (out : List Int) (low r : Int), i + d = L.length → Held out low r → 65536 ≤ r → out.length + 2 * d ≤ 1000 →
    ∃ ys, ys.length ≤ 1003 ∧ ∀ f1 f2 : Nat, 2000 + 5 * d ≤ f1 → 2000 + 5 * d ≤ f2 → spec_l3Encode.l0 f1 L out low r (i : Int) = some ys ∧ impl_encode.l0 f2 out low r L (L.length : Int) (i : Int) = some ys := by
  intro d
  induction d with
  | zero =>
    intro i out low r hi hH hr hl
    have h0 := hH.lo
    have e1 : (wrap64 (Int.tdiv low 65536)) % 256 = low / 65536 % 256 := by rw [tdiv_pos h0.1, w64 (by omega) (by omega)]
    have e2 : (Int.tmod (wrap64 (Int.tdiv low 256)) 256) % 256 = low / 256 % 256 := by rw [tdiv_pos h0.1, w64 (by omega) (by omega), tmod_pos (by omega)]; omega
    have e3 : (Int.tmod low 256) % 256 = low % 256 := by rw [tmod_pos h0.1]; omega
    have hlen : (out ++ [low / 65536 % 256, low / 256 % 256, low % 256]).length = out.length + 3 := by rw [List.length_append]; rfl
    obtain ⟨ys, y1, y2⟩ := trim_both _ (out ++ [low / 65536 % 256, low / 256 % 256, low % 256]) rfl (by omega)
    refine ⟨ys, by omega, fun f1 f2 g1 g2 => ?_⟩
    obtain ⟨f1, rfl⟩ : ∃ q, f1 = q + 1 := ⟨f1 - 1, by omega⟩
    obtain ⟨f2, rfl⟩ : ∃ q, f2 = q + 1 + 1 + 1 := ⟨f2 - 3, by omega⟩
    have y3 := y2 f1 f2 (by omega) (by omega)
    have y4 := trimRight_eq _ (by omega) f2 ys y3.2
    constructor
    · rw [spec_l3Encode.l0]
      rw [if_neg (by omega), Option.bind_some, if_pos (by simp only [List.length_cons, List.length_nil]; omega), e1, e2, e3]
      exact y3.1
    · rw [impl_encode.l0]
      rw [if_neg (by omega), Option.bind_some, if_pos (by simp only [List.length_cons, List.length_nil]; omega), y4, Option.bind_some, clone_eq ys (by omega), Option.bind_some]
  | succ d ih =>
    intro i out low r hi hH hr hl
    obtain ⟨b, nx, ⟨b0, b1, b2⟩, n1, n2, n3⟩ := narrow_both r (L.getD i z48) (hL i (by omega)) hr hH.r0
    have hk := hL i (by omega)
    have h0 := hH.lo
    have hr0 := hH.r0
    have hs := hH.sum
    have w1 : wrap64 (low + b) = low + b := w64 (by omega) (by omega)
    have ws : wrap64 ((i : Int) + 1) = ((i + 1 : Nat) : Int) := w64_succ i (by omega)
    have tz : ¬ (L.getD i z48).f2 = 0 := by have := hk.1; omega
    have t2 : thr 2 ≤ nx := b1
    by_cases c : low + b ≥ 16777216
    · obtain ⟨cs, ⟨c1, c2, c3⟩, c4⟩ := carry_both out hH.by' (by omega) (by generalize (256 : Int) ^ out.length = P at *; omega)
      have w2 : wrap64 (low + b - 16777216) = low + b - 16777216 := w64 (by omega) (by omega)
      have hH' : Held cs (low + b - 16777216) nx := ⟨c1, by omega, by omega, by rw [c2, c3]; generalize (256 : Int) ^ out.length = P at *; omega⟩
      obtain ⟨out', low', r', ⟨q1, q2, q3⟩, q4⟩ := shift_both L (L.length : Int) (i : Int) 2 cs _ _ t2 hH' (by omega)
      obtain ⟨ys, y1, y2⟩ := ih (i + 1) out' low' r' (by omega) q1 q2 (by omega)
      refine ⟨ys, y1, fun f1 f2 g1 g2 => ?_⟩
      obtain ⟨m1, m2, v1, v2, v3, v4⟩ := q4 (f1 - 5) (f2 - 5)
      have y3 := y2 m1 m2 (by omega) (by omega)
      obtain ⟨A1, hA1⟩ : ∃ A, f1 = A + 1 := ⟨f1 - 1, by omega⟩
      obtain ⟨B1, hB1⟩ : ∃ A, A1 = A + 1 := ⟨A1 - 1, by omega⟩
      obtain ⟨A2, hA2⟩ : ∃ A, f2 = A + 1 := ⟨f2 - 1, by omega⟩
      obtain ⟨B2, hB2⟩ : ∃ A, A2 = A + 1 := ⟨A2 - 1, by omega⟩
      have cc := c4 A2 A1 (by omega) (by omega)
      rw [show f1 - 5 + 2 + 1 = B1 by omega] at v3
      rw [show f2 - 5 + 2 + 1 = B2 by omega] at v4
      constructor
      · rw [hA1, spec_far A1 L out cs low r b nx _ i (by omega) tz n2 n3 w1 c cc.2 w2, hB1, spec_j1, v3, ws]; exact y3.1
      · rw [hA2, impl_far A2 L out cs low r b nx _ i (by omega) n1 w1 c cc.1 w2, hB2, impl_j1, v4, ws]; exact y3.2
    · have hH' : Held out (low + b) nx := ⟨hH.by', by omega, by omega, by omega⟩
      obtain ⟨out', low', r', ⟨q1, q2, q3⟩, q4⟩ := shift_both L (L.length : Int) (i : Int) 2 out _ _ t2 hH' (by omega)
      obtain ⟨ys, y1, y2⟩ := ih (i + 1) out' low' r' (by omega) q1 q2 (by omega)
      refine ⟨ys, y1, fun f1 f2 g1 g2 => ?_⟩
      obtain ⟨m1, m2, v1, v2, v3, v4⟩ := q4 (f1 - 5) (f2 - 5)
      have y3 := y2 m1 m2 (by omega) (by omega)
      obtain ⟨A1, hA1⟩ : ∃ A, f1 = A + 1 := ⟨f1 - 1, by omega⟩
      obtain ⟨B1, hB1⟩ : ∃ A, A1 = A + 1 := ⟨A1 - 1, by omega⟩
      obtain ⟨A2, hA2⟩ : ∃ A, f2 = A + 1 := ⟨f2 - 1, by omega⟩
      obtain ⟨B2, hB2⟩ : ∃ A, A2 = A + 1 := ⟨A2 - 1, by omega⟩
      rw [show f1 - 5 + 2 + 1 = B1 by omega] at v3
      rw [show f2 - 5 + 2 + 1 = B2 by omega] at v4
      constructor
      · rw [hA1, spec_near A1 L out low r b nx i (by omega) tz n2 n3 w1 c, hB1, spec_j1, v3, ws]; exact y3.1
      · rw [hA2, impl_near A2 L out low r b nx i (by omega) n1 w1 c, hB2, impl_j1, v4, ws]; exact y3.2
theorem encode_both (L : List S48) (hL : ∀ i, i < L.length → SlotOk (L.getD i z48)) (hn : L.length ≤ 400) :
    ∃ ys, ys.length ≤ 1003 ∧ ∀ f1 f2 : Nat, 4000 ≤ f1 → 4000 ≤ f2 → spec_l3Encode.f f1 L = some ys ∧ impl_encode.f f2 L = some ys := by
  obtain ⟨ys, y1, y2⟩ := enc_both L hL hn L.length 0 [] 0 16777216 (by omega) ⟨fun x hx => absurd hx (by simp), by omega, by omega, by simp [val]⟩ (by omega) (by simp only [List.length_nil]; omega)
  exact ⟨ys, y1, fun f1 f2 h1 h2 => y2 f1 f2 (by omega) (by omega)⟩

theorem l1All_l0 (xs : List Int) (lo hi : Int) (hn : xs.length ≤ 1000000000000) : ∀ (d i k : Nat), i + d = xs.length → d < k → spec_l1All.l0 k xs lo hi (i : Int) = some (allIn lo hi (xs.drop i)) := by
  intro d
  induction d with
  | zero =>
    intro i k hi' hk
    obtain ⟨k, rfl⟩ : ∃ m, k = m + 1 := ⟨k - 1, by omega⟩
    simp only [spec_l1All.l0]
    rw [if_neg (by omega), List.drop_of_length_le (by omega)]; rfl
  | succ d ih =>
    intro i k hi' hk
    obtain ⟨k, rfl⟩ : ∃ m, k = m + 1 := ⟨k - 1, by omega⟩
    simp only [spec_l1All.l0]
    rw [if_pos (by omega), if_pos (by omega), l1In_eq, drop_rd' xs i (by omega), allIn_cons]
    simp only [Option.bind_some]
    by_cases h : lo ≤ rd xs (i : Int) ∧ rd xs (i : Int) ≤ hi
    · rw [decide_eq_true h, if_pos rfl, w64_succ _ (by omega), ih (i + 1) k (by omega) (by omega)]; rfl
    · rw [decide_eq_false h]; rfl
theorem l1All_eq (xs : List Int) (lo hi : Int) (hn : xs.length ≤ 1000000000000) (k : Nat) (hk : xs.length < k) : spec_l1All.f k xs lo hi = some (allIn lo hi xs) :=
  l1All_l0 xs lo hi hn xs.length 0 k (by omega) hk

-- PLUS: lists bytes marks sizef slots zigs enc
theorem cls_ok : ∀ n : Fin 18, (1 ≤ (cls n.val).f2 ∧ (cls n.val).f2 ≤ 1024) ∧ (1 ≤ (cls n.val).f1 ∧ (cls n.val).f1 ≤ (cls n.val).f2) ∧ (0 ≤ (cls n.val).f0 ∧ (cls n.val).f0 ≤ (cls n.val).f2 - (cls n.val).f1) := by decide +kernel
theorem pow8 : ∀ w : Fin 9, 1 ≤ 2 ^ w.val ∧ 2 ^ w.val ≤ 256 := by decide
theorem sl_ok (z w s : Nat) (h : w ≤ 8) : SlotOk (sl z w s) := by
  have := pow8 ⟨w, by omega⟩
  have hm := Nat.mod_lt (z / 2 ^ s) (show 0 < 2 ^ w by simp only at this; omega)
  simp only at this
  unfold SlotOk sl
  simp only
  generalize 2 ^ w = p at *
  generalize z / 2 ^ s % p = q at *
  omega
theorem slotsL_ok (z : Nat) (hz : z < 131072) : ∀ s ∈ slotsL z, SlotOk s := by
  have hl := len17 hz
  have c := cls_ok ⟨Lib.bitLen z, hl⟩
  intro s hs
  unfold slotsL at hs
  generalize Lib.bitLen z = n at *
  rcases List.mem_append.1 hs with h | h
  · rw [List.mem_singleton] at h; subst h; exact c
  · split at h
    · exact absurd h (by simp)
    · split at h
      · simp only [List.mem_cons, List.not_mem_nil, or_false] at h
        rcases h with rfl | rfl
        · exact sl_ok _ _ _ (by omega)
        · exact sl_ok _ _ _ (by omega)
      · rw [List.mem_singleton] at h; subst h; exact sl_ok _ _ _ (by omega)
def all (xs : List Int) : List S48 := xs.flatMap fun a => slotsL (zig a)
theorem all_cons (a : Int) (xs : List Int) : all (a :: xs) = slotsL (zig a) ++ all xs := by unfold all; rw [List.flatMap_cons]
theorem drop_cons (xs : List Int) (i : Nat) (h : i < xs.length) : xs.drop i = rd xs (i : Int) :: xs.drop (i + 1) := by
  rw [rd_get xs i h]; exact List.drop_eq_getElem_cons h
theorem all_ok (xs : List Int) (h : allIn (-65535) 65535 xs = true) : (∀ s ∈ all xs, SlotOk s) ∧ (all xs).length ≤ 3 * xs.length := by
  induction xs with
  | nil => exact ⟨fun s hs => absurd hs (by simp [all]), by simp [all]⟩
  | cons a xs ih =>
    have h' : (-65535 ≤ a ∧ a ≤ 65535) ∧ allIn (-65535) 65535 xs = true := by
      rw [allIn_iff] at h
      exact ⟨h a (List.mem_cons_self ..), (allIn_iff ..).2 fun x hx => h x (List.mem_cons_of_mem _ hx)⟩
    have hz := zig_bd h'.1
    have i1 := ih h'.2
    rw [all_cons]
    refine ⟨fun s hs => ?_, ?_⟩
    · rcases List.mem_append.1 hs with q | q
      · exact slotsL_ok _ (by omega) s q
      · exact i1.1 s q
    · have := (slotsL_len (zig a)).2
      rw [List.length_append, List.length_cons]; omega
theorem spec_vals (xs : List Int) (hn : xs.length ≤ 64) (h : ∀ i, i < xs.length → -65535 ≤ rd xs (i : Int) ∧ rd xs (i : Int) ≤ 65535) : ∀ (d i : Nat) (acc : List S48), i + d = xs.length → acc.length + 3 * d ≤ 1000 → ∀ f : Nat, 60 + d < f →
    ∃ g, f ≤ g + d + 1 ∧ spec_l4Encode.l0 f xs acc (i : Int) = spec_l3Encode.f g (acc ++ all (xs.drop i)) := by
  intro d
  induction d with
  | zero =>
    intro i acc hi hl f hf
    obtain ⟨f, rfl⟩ : ∃ q, f = q + 1 := ⟨f - 1, by omega⟩
    refine ⟨f, by omega, ?_⟩
    rw [spec_l4Encode.l0]
    rw [if_neg (by omega), List.drop_of_length_le (by omega), show all [] = [] from rfl, List.append_nil]
    cases spec_l3Encode.f f acc <;> rfl
  | succ d ih =>
    intro i acc hi hl f hf
    obtain ⟨f, rfl⟩ : ∃ q, f = q + 1 := ⟨f - 1, by omega⟩
    have hs := (slotsL_len (zig (rd xs (i : Int)))).2
    obtain ⟨g, g1, g2⟩ := ih (i + 1) (acc ++ slotsL (zig (rd xs (i : Int)))) (by omega) (by rw [List.length_append]; omega) f (by omega)
    refine ⟨g, by omega, ?_⟩
    rw [spec_l4Encode.l0]
    rw [if_pos (by omega), if_pos (by omega), spec_slots_eq (h i (by omega)) f (by omega), Option.bind_some, if_pos (by omega), w64_succ i (by omega), g2, drop_cons xs i (by omega), all_cons, List.append_assoc]
theorem impl_vals (xs : List Int) (hn : xs.length ≤ 64) : ∀ (d i : Nat) (acc : List S48), i + d = xs.length → acc.length + 3 * d ≤ 1000 → ∀ f : Nat, 60 + d < f →
    (allIn (-65535) 65535 (xs.drop i) = false ∧ impl_EncodeValues.l0 f acc xs (xs.length : Int) (i : Int) = some (3, [])) ∨
    (allIn (-65535) 65535 (xs.drop i) = true ∧ ∃ g, f ≤ g + d + 1 ∧ impl_EncodeValues.l0 f acc xs (xs.length : Int) (i : Int) = impl_EncodeSlots.f g (acc ++ all (xs.drop i))) := by
  intro d
  induction d with
  | zero =>
    intro i acc hi hl f hf
    obtain ⟨f, rfl⟩ : ∃ q, f = q + 1 := ⟨f - 1, by omega⟩
    refine .inr ⟨by rw [List.drop_of_length_le (by omega)]; rfl, f, by omega, ?_⟩
    rw [impl_EncodeValues.l0]
    rw [if_neg (by omega), List.drop_of_length_le (by omega), show all [] = [] from rfl, List.append_nil]
    cases impl_EncodeSlots.f f acc <;> rfl
  | succ d ih =>
    intro i acc hi hl f hf
    obtain ⟨f, rfl⟩ : ∃ q, f = q + 1 := ⟨f - 1, by omega⟩
    have hs := (slotsL_len (zig (rd xs (i : Int)))).2
    have hd := drop_cons xs i (by omega)
    by_cases c : -65535 ≤ rd xs (i : Int) ∧ rd xs (i : Int) ≤ 65535
    · have e : impl_EncodeValues.l0 (f + 1) acc xs (xs.length : Int) (i : Int) = impl_EncodeValues.l0 f (acc ++ slotsL (zig (rd xs (i : Int)))) xs (xs.length : Int) ((i + 1 : Nat) : Int) := by
        rw [impl_EncodeValues.l0]
        rw [if_pos (by omega), if_pos (by omega), if_pos (by omega), isValue_eq, Option.bind_some, decide_eq_true c, if_pos rfl, impl_slots_eq c f (by omega), Option.bind_some, if_pos (by omega), w64_succ i (by omega)]
      have ha : allIn (-65535) 65535 (xs.drop i) = allIn (-65535) 65535 (xs.drop (i + 1)) := by rw [hd, allIn_cons, decide_eq_true c]; rfl
      rcases ih (i + 1) (acc ++ slotsL (zig (rd xs (i : Int)))) (by omega) (by rw [List.length_append]; omega) f (by omega) with ⟨q1, q2⟩ | ⟨q1, g, q2, q3⟩
      · exact .inl ⟨ha.trans q1, e.trans q2⟩
      · refine .inr ⟨ha.trans q1, g, by omega, ?_⟩
        rw [e, q3, hd, all_cons, List.append_assoc]
    · refine .inl ⟨by rw [hd, allIn_cons, decide_eq_false c]; rfl, ?_⟩
      rw [impl_EncodeValues.l0]
      rw [if_pos (by omega), if_pos (by omega), if_pos (by omega), isValue_eq, Option.bind_some, decide_eq_false c, if_neg (by decide)]
theorem fault_ok (s : S48) (h : SlotOk s) : impl_SlotFault.f s.f0 s.f1 s.f2 = some 0 := by
  obtain ⟨t, z, l⟩ := h
  have w : wrap64 (s.f2 - s.f1) = s.f2 - s.f1 := w64 (by omega) (by omega)
  unfold impl_SlotFault.f
  simp only [inRange_eq, codeIf_eq, Option.bind_some, w]
  simp [t, z, l]
theorem impl_good (L : List S48) (hn : L.length ≤ 400) (ok : ∀ j, j < L.length → SlotOk (L.getD j z48)) : ∀ (d i : Nat), i + d = L.length → ∀ f : Nat, d < f →
    ∃ g, f ≤ g + d + 1 ∧ impl_EncodeSlots.l0 f L L (L.length : Int) (i : Int) = (impl_encode.f g L).bind fun t => some (0, t) := by
  intro d
  induction d with
  | zero =>
    intro i hi f hf
    obtain ⟨f, rfl⟩ : ∃ q, f = q + 1 := ⟨f - 1, by omega⟩
    refine ⟨f, by omega, ?_⟩
    rw [impl_EncodeSlots.l0]; rw [if_neg (by omega)]
  | succ d ih =>
    intro i hi f hf
    obtain ⟨f, rfl⟩ : ∃ q, f = q + 1 := ⟨f - 1, by omega⟩
    have ws : wrap64 ((i : Int) + 1) = ((i + 1 : Nat) : Int) := w64_succ i (by omega)
    obtain ⟨g, p2, p3⟩ := ih (i + 1) (by omega) f (by omega)
    refine ⟨g, by omega, ?_⟩
    rw [impl_EncodeSlots.l0]
    simp only [rdT_nat]
    rw [if_pos (by omega), if_pos (by omega), if_pos (by omega), fault_ok _ (ok i (by omega)), Option.bind_some, if_pos rfl, ws]; exact p3
theorem good_told (L : List S48) (hn : L.length ≤ 400) (ok : ∀ j, j < L.length → SlotOk (L.getD j z48)) :
    ∃ ys, ys.length ≤ 1003 ∧ ∀ f1 f2 : Nat, 5000 ≤ f1 → 5000 ≤ f2 → spec_l3Encode.f f1 L = some ys ∧ impl_EncodeSlots.f f2 L = some (0, ys) := by
  obtain ⟨ys, y1, y2⟩ := encode_both L ok hn
  refine ⟨ys, y1, fun f1 f2 h1 h2 => ?_⟩
  obtain ⟨g, p2, p3⟩ := impl_good L hn ok L.length 0 (by omega) f2 (by omega)
  have y3 := y2 f1 g (by omega) (by omega)
  unfold impl_EncodeSlots.f
  rw [if_neg (by omega), show (0 : Int) = ((0 : Nat) : Int) from rfl, p3, y3.2, Option.bind_some]
  exact ⟨y3.1, rfl⟩
theorem values_both (xs : List Int) : ∃ c ys, ys.length ≤ 1003 ∧ ∀ f1 f2 : Nat, 6000 ≤ f1 → 6000 ≤ f2 → spec_EncodeValues.f f1 xs = some (c, ys) ∧ impl_EncodeValues.f f2 xs = some (c, ys) := by
  unfold spec_EncodeValues.f impl_EncodeValues.f
  by_cases h : (xs.length : Int) > 64
  · refine ⟨2, [], by simp, fun f1 f2 h1 h2 => ?_⟩
    rw [if_pos h, if_pos h]; exact ⟨rfl, rfl⟩
  · have hI := impl_vals xs (by omega) xs.length 0 [] (by omega) (by simp only [List.length_nil]; omega)
    rw [List.drop_zero, List.nil_append] at hI
    have hA : ∀ f : Nat, 6000 ≤ f → spec_l1All.f f xs (-65535) 65535 = some (allIn (-65535) 65535 xs) := fun f hf => l1All_eq xs _ _ (by omega) f (by omega)
    by_cases a : allIn (-65535) 65535 xs = true
    · obtain ⟨ok, hl⟩ := all_ok xs a
      have ok' : ∀ j, j < (all xs).length → SlotOk ((all xs).getD j z48) := fun j hj => by
        rw [List.getD_eq_getElem?_getD, List.getElem?_eq_getElem hj]; exact ok _ (List.getElem_mem hj)
      have hr : ∀ i, i < xs.length → -65535 ≤ rd xs (i : Int) ∧ rd xs (i : Int) ≤ 65535 := fun i hi => by
        rw [rd_get xs i hi]; exact ((allIn_iff ..).1 a _ (List.getElem_mem hi))
      rcases good_told (all xs) (by omega) ok' with ⟨ys, y0, q⟩
      · refine ⟨0, ys, y0, fun f1 f2 h1 h2 => ?_⟩
        obtain ⟨g1, u1, u2⟩ := spec_vals xs (by omega) hr xs.length 0 [] (by omega) (by simp only [List.length_nil]; omega) f1 (by omega)
        rw [List.drop_zero, List.nil_append] at u2
        rcases hI f2 (by omega) with ⟨v1, _⟩ | ⟨_, g2, v2, v3⟩
        · rw [a] at v1; exact absurd v1 (by decide)
        · have y1 := q g1 g2 (by omega) (by omega)
          rw [if_neg h, if_neg h, hA f1 h1, Option.bind_some, if_pos a]
          unfold spec_l4Encode.f
          rw [show (0 : Int) = ((0 : Nat) : Int) from rfl, u2, v3, y1.1, Option.bind_some]
          exact ⟨rfl, y1.2⟩
    · refine ⟨3, [], by simp, fun f1 f2 h1 h2 => ?_⟩
      rcases hI f2 (by omega) with ⟨_, v1⟩ | ⟨v0, _⟩
      · rw [if_neg h, if_neg h, hA f1 h1, Option.bind_some, if_neg a]
        exact ⟨rfl, v1⟩
      · exact absurd v0 a
theorem FnExactEncodeValues (l0 : List Int) (h1 : l0.length ≤ maxLen) (h3 : ∀ x ∈ l0, (Lit.int .i64 x).wf = true) : ∃ k, laws_FnExactEncodeValues.f k l0 = some true := by
  have hmx : maxLen ≤ 9223372036854775807 := by decide
  unfold laws_FnExactEncodeValues.f
  by_cases hb : (l0.length : Int) > 1048576
  · exact ⟨0, by rw [if_pos hb]⟩
  obtain ⟨c, ys, y1, y2⟩ := values_both l0
  obtain ⟨K, hK⟩ : ∃ K, K = l0.length + 7000 := ⟨_, rfl⟩
  have t1 := toInt64S_eq l0 (by omega) K (by omega)
  have t2 := toInt64S_eq l0 (by omega) (K + 1) (by omega)
  have b1 := y2 K K (by omega) (by omega)
  have b2 := y2 (K + 1) (K + 1) (by omega) (by omega)
  have q1 := eqBytesResult_refl c ys (by omega) K (by omega)
  have q2 := eqBytesResult_refl c ys (by omega) (K + 1) (by omega)
  have s1 := eqInt64S_refl l0 (by omega) (K + 1) (by omega)
  obtain ⟨zs, m1, m2, m3⟩ := mark_held_bytes ys 1 K (by omega) (by omega) (by omega)
  have hm : laws_markBytesResult.f K c ys 1 = some (((1 + ys.length : Nat) : Int), zs) := by
    unfold laws_markBytesResult.f
    rw [show (1 : Int) = ((1 : Nat) : Int) from rfl, m1]; rfl
  have hh : laws_heldBytesResult.f K c zs 1 = some ((1 + ys.length : Nat) : Int) := by
    unfold laws_heldBytesResult.f
    rw [show (1 : Int) = ((1 : Nat) : Int) from rfl, m3]
    simp only [Option.bind_some]
    rw [if_neg (neg_cast _)]
  have hj : laws_FnExactEncodeValues.j0 (K + 1) l0 false c ys c ys = some true := by
    rw [laws_FnExactEncodeValues.j0, if_neg (by decide)]
    simp only [hm, hh, t1, b1.2, q1, Option.bind_some, if_true, if_neg (neg_cast _)]
  obtain ⟨ws, n1, _⟩ := markInt64S_l0 l0.length 0 l0 1 (K + 1) (by omega) (by omega) (by omega) (by omega)
  have hk : laws_markInt64S.f (K + 1) l0 1 = some (((1 + l0.length : Nat) : Int), ws) := n1
  refine ⟨K + 1, ?_⟩
  rw [if_neg hb]
  simp only [t2, b2.1, b2.2, q2, s1, hk, Option.bind_some, if_true, if_neg (neg_cast _), Bool.not_true]
  exact hj

end Go.Proofs.YtgfmmoomekjkbaaDoor.Pure
