/-
  FlipBits answers as the reference does, for every list of bytes and every two numbers, leaves the list as it was, and shares no memory with it.
-/
import Derived.Test.YtgfnmglnmpmjgaaPFnExactFlipBitsx
namespace Go.Proofs.Ytgfnmglnmpmjgaa.Pure
open Go.RowKit Go.Proofs.Ytgfnmglnmpmjgaa.PFnExactFlipBits Go.Proofs.YtgfnmglnmpmjgaaW.PrintWords Go.Proofs.YtgfnmglnmpmjgaaW.PrintLast Go.Proofs.YtgfnmglnmpmjgaaW.PrintMore
set_option linter.unusedVariables false
set_option linter.unusedSimpArgs false

theorem w64 {x : Int} (h1 : -9223372036854775808 ≤ x) (h2 : x ≤ 9223372036854775807) : wrap64 x = x := by
  unfold wrap64; omega
theorem tdiv_pos {a : Int} (h : 0 ≤ a) (b : Int) : Int.tdiv a b = a / b := Int.tdiv_eq_ediv_of_nonneg h
theorem tmod_pos {a : Int} (h : 0 ≤ a) (b : Int) : Int.tmod a b = a % b := Int.tmod_eq_emod_of_nonneg h
theorem tdiv_neg {a : Int} (h : a ≤ 0) (b : Int) : Int.tdiv a b = -((-a) / b) := by
  have := Int.neg_tdiv (-a) b
  rw [Int.neg_neg] at this
  rw [this, tdiv_pos (by omega)]
theorem tmod_neg {a : Int} (h : a ≤ 0) (b : Int) : Int.tmod a b = -((-a) % b) := by
  have := Int.neg_tmod (-a) b
  rw [Int.neg_neg] at this
  rw [this, tmod_pos (by omega)]
theorem div_unique {x b q r : Int} (hb : 0 < b) (h : r + b * q = x) (h0 : 0 ≤ r) (h1 : r < b) : x / b = q :=
  ((Int.ediv_emod_unique hb).2 ⟨h, h0, h1⟩).1
theorem div_parts (x b : Int) : b * (x / b) + x % b = x := Int.mul_ediv_add_emod x b
theorem neg_div {a b : Int} (hb : 0 < b) : (-a) / b = if a % b = 0 then -(a / b) else -(a / b) - 1 := by
  have h := div_parts a b
  have h0 := Int.emod_nonneg a (Int.ne_of_gt hb)
  have h1 := Int.emod_lt_of_pos a hb
  split
  · exact div_unique (r := 0) hb (by rw [Int.mul_neg]; omega) (by omega) (by omega)
  · exact div_unique (r := b - a % b) hb (by rw [Int.mul_sub, Int.mul_neg]; omega) (by omega) (by omega)
theorem ceil_div {a b : Int} (hb : 0 < b) : (a + b - 1) / b = -((-a) / b) := by
  have h := div_parts (-a) b
  have h0 := Int.emod_nonneg (-a) (Int.ne_of_gt hb)
  have h1 := Int.emod_lt_of_pos (-a) hb
  exact div_unique (r := b - 1 - (-a) % b) hb (by rw [Int.mul_neg]; omega) (by omega) (by omega)
theorem div_bd {a b : Int} (ha : 0 ≤ a) (hb : 0 < b) : 0 ≤ a / b ∧ a / b ≤ a :=
  ⟨Int.ediv_nonneg ha (by omega), Int.ediv_le_self b ha⟩
theorem floor_tdiv {x b : Int} (hb : 0 < b) : (if Int.tmod x b < 0 then Int.tdiv x b - 1 else Int.tdiv x b) = x / b := by
  by_cases h : 0 ≤ x
  · have h0 := Int.emod_nonneg x (Int.ne_of_gt hb)
    rw [tmod_pos h, tdiv_pos h, if_neg (by omega)]
  · rw [tmod_neg (by omega), tdiv_neg (by omega)]
    have h0 := Int.emod_nonneg (-x) (Int.ne_of_gt hb)
    have e := neg_div (a := -x) hb
    rw [Int.neg_neg] at e
    rw [e]
    by_cases hz : (-x) % b = 0
    · rw [if_pos hz, if_neg (by omega)]
    · rw [if_neg hz, if_pos (by omega)]
theorem floor_bd {x b : Int} (hb : 0 < b) : (0 ≤ x → 0 ≤ x / b ∧ x / b ≤ x) ∧ (x < 0 → x ≤ x / b ∧ x / b < 0) := by
  refine ⟨fun h => div_bd h hb, fun h => ?_⟩
  have e := neg_div (a := -x) hb
  rw [Int.neg_neg] at e
  have d := div_bd (a := -x) (by omega) hb
  have p := div_parts (-x) b
  have h0 := Int.emod_nonneg (-x) (Int.ne_of_gt hb)
  rw [e]
  split
  · next hz =>
    rw [hz] at p
    have : (-x) / b ≠ 0 := fun e0 => by rw [e0, Int.mul_zero] at p; omega
    omega
  · next hz =>
    have : (-x) / b < -x := by
      rcases Int.lt_or_eq_of_le d.2 with h2 | h2
      · exact h2
      · exfalso
        rw [h2] at p
        have hb1 : b ≠ 1 := fun e1 => by subst e1; omega
        have : 2 * (-x) ≤ b * (-x) := Int.mul_le_mul_of_nonneg_right (by omega) (by omega)
        omega
    omega

theorem inRange_eq (a b c : Int) : impl_inRange.f a b c = some (decide (b ≤ a ∧ a ≤ c)) := by
  unfold impl_inRange.f; by_cases h : b ≤ a <;> simp [h]

theorem l1In_eq (a b c : Int) : spec_l1In.f a b c = some (decide (b ≤ a ∧ a ≤ c)) := by
  unfold spec_l1In.f; by_cases h : b ≤ a <;> simp [h]

theorem rd_nat (xs : List Int) (i : Nat) : rd xs (i : Int) = xs.getD i 0 := by unfold rd; rw [Int.toNat_natCast]
theorem rd_get (xs : List Int) (i : Nat) (h : i < xs.length) : rd xs (i : Int) = xs[i] := by
  rw [rd_nat, List.getD_eq_getElem?_getD, List.getElem?_eq_getElem h]; rfl
theorem w64_succ (i : Nat) (h : i ≤ 4000000000000000000) : wrap64 ((i : Int) + 1) = ((i + 1 : Nat) : Int) := by
  rw [w64 (by omega) (by omega)]; omega
theorem nat_nonneg (i : Nat) : 0 ≤ (i : Int) := Int.natCast_nonneg i
theorem set_get_take {xs ys : List Int} {i : Nat} (hl : ys.length = xs.length) (ht : ys.take i = xs.take i) (hi : i < xs.length) :
    (ys.set i (rd xs (i : Int))).take (i + 1) = xs.take (i + 1) := by
  rw [rd_get xs i hi]
  apply List.ext_getElem?
  intro n
  by_cases hn : n < i + 1
  · rw [List.getElem?_take_of_lt hn, List.getElem?_take_of_lt hn]
    by_cases e : n = i
    · subst e
      rw [List.getElem?_set_self (by omega), List.getElem?_eq_getElem hi]
    · rw [List.getElem?_set_ne (by omega)]
      have := congrArg (fun l => l[n]?) ht
      simp only [List.getElem?_take_of_lt (show n < i by omega)] at this
      exact this
  · rw [List.getElem?_take_eq_none (by omega), List.getElem?_take_eq_none (by omega)]

theorem toByteS_l0 (xs : List Int) (hn : xs.length ≤ 1000000000000000000) : ∀ (d i : Nat) (ys : List Int) (k : Nat), i + d = xs.length → d < k → ys.length = xs.length → ys.take i = xs.take i →
    laws_toByteS.l0 k xs ys (i : Int) = some xs := by
  intro d
  induction d with
  | zero =>
    intro i ys k hi hk hl ht
    obtain ⟨k, rfl⟩ : ∃ m, k = m + 1 := ⟨k - 1, by omega⟩
    simp only [laws_toByteS.l0]
    rw [if_neg (by omega)]
    rw [List.take_of_length_le (by omega), List.take_of_length_le (by omega)] at ht
    rw [ht]
  | succ d ih =>
    intro i ys k hi hk hl ht
    obtain ⟨k, rfl⟩ : ∃ m, k = m + 1 := ⟨k - 1, by omega⟩
    simp only [laws_toByteS.l0]
    rw [if_pos (by omega), if_pos (by omega), if_pos (by omega), w64_succ _ (by omega), Int.toNat_natCast]
    exact ih (i + 1) _ k (by omega) (by omega) (by rw [List.length_set, hl]) (set_get_take hl ht (by omega))
theorem toByteS_eq (xs : List Int) (hn : xs.length ≤ 1048576) (k : Nat) (hk : xs.length < k) : laws_toByteS.f k xs = some xs := by
  unfold laws_toByteS.f
  rw [if_pos (by omega), if_pos (by omega), Int.toNat_natCast]
  exact toByteS_l0 xs (by omega) xs.length 0 _ k (by omega) hk (by simp) (by simp)

theorem eqByteS_l0 (xs : List Int) (hn : xs.length ≤ 1000000000000000000) : ∀ (d i : Nat) (k : Nat), i + d = xs.length → d < k → laws_eqByteS.l0 k xs xs (i : Int) = some true := by
  intro d
  induction d with
  | zero =>
    intro i k hi hk
    obtain ⟨k, rfl⟩ : ∃ m, k = m + 1 := ⟨k - 1, by omega⟩
    simp only [laws_eqByteS.l0]
    rw [if_neg (by omega)]
  | succ d ih =>
    intro i k hi hk
    obtain ⟨k, rfl⟩ : ∃ m, k = m + 1 := ⟨k - 1, by omega⟩
    simp only [laws_eqByteS.l0]
    rw [if_pos (by omega), if_pos (by omega), if_pos (by omega), if_pos trivial, w64_succ _ (by omega)]
    exact ih (i + 1) k (by omega) (by omega)
theorem eqByteS_refl (xs : List Int) (hn : xs.length ≤ 1000000000000000000) (k : Nat) (hk : xs.length < k) : laws_eqByteS.f k xs xs = some true := by
  unfold laws_eqByteS.f
  rw [if_pos rfl]
  exact eqByteS_l0 xs hn xs.length 0 k (by omega) hk

theorem eqBytesResult_refl (c : Int) (xs : List Int) (hn : xs.length ≤ 1000000000000000000) (k : Nat) (hk : xs.length < k) : laws_eqBytesResult.f k c xs c xs = some true := by
  unfold laws_eqBytesResult.f
  rw [if_pos rfl, eqByteS_refl xs hn k hk]; rfl

theorem markByteS_l0 : ∀ (d i : Nat) (xs : List Int) (m k : Nat), i + d = xs.length → d < k → xs.length ≤ 1000000000000000000 → m + d ≤ 1000000000000000000 →
    ∃ ys, laws_markByteS.l0 k xs (m : Int) (i : Int) = some (((m + d : Nat) : Int), ys) ∧ ys.length = xs.length ∧ (∀ j, j < i → ys.getD j 0 = xs.getD j 0) ∧ ∀ j, i ≤ j → j < xs.length → ys.getD j 0 = ((m + (j - i) : Nat) : Int) % 256 := by
  intro d
  induction d with
  | zero =>
    intro i xs m k hi hk hn hm
    obtain ⟨k, rfl⟩ : ∃ q, k = q + 1 := ⟨k - 1, by omega⟩
    refine ⟨xs, ?_, rfl, fun j _ => rfl, fun j h1 h2 => by omega⟩
    simp only [laws_markByteS.l0]
    rw [if_neg (by omega)]; rfl
  | succ d ih =>
    intro i xs m k hi hk hn hm
    obtain ⟨k, rfl⟩ : ∃ q, k = q + 1 := ⟨k - 1, by omega⟩
    obtain ⟨ys, h1, h2, h3, h4⟩ := ih (i + 1) (xs.set i (((m : Nat) : Int) % 256)) (m + 1) k (by rw [List.length_set]; omega) (by omega) (by rw [List.length_set]; omega) (by omega)
    rw [List.length_set] at h2 h4
    refine ⟨ys, ?_, h2, fun j hj => ?_, fun j hj1 hj2 => ?_⟩
    · simp only [laws_markByteS.l0]
      rw [if_pos (by omega), if_pos (by omega), w64_succ _ (by omega), w64_succ _ (by omega), Int.toNat_natCast, h1]
      rw [show m + 1 + d = m + (d + 1) by omega]
    · rw [h3 j (by omega), List.getD_eq_getElem?_getD, List.getElem?_set_ne (by omega), ← List.getD_eq_getElem?_getD]
    · by_cases e : j = i
      · subst e
        rw [h3 j (by omega), List.getD_eq_getElem?_getD, List.getElem?_set_self (by omega)]
        simp
      · rw [h4 j (by omega) hj2]
        rw [show m + 1 + (j - (i + 1)) = m + (j - i) by omega]

theorem heldByteS_l0 (ys : List Int) (m0 : Nat) (hn : ys.length ≤ 1000000000000000000) (hm : m0 ≤ 1000000000000000000) (hy : ∀ j, j < ys.length → ys.getD j 0 = ((m0 + j : Nat) : Int) % 256) : ∀ (d i k : Nat), i + d = ys.length → d < k →
    laws_heldByteS.l0 k ys ((m0 + i : Nat) : Int) (i : Int) = some ((m0 + ys.length : Nat) : Int) := by
  intro d
  induction d with
  | zero =>
    intro i k hi hk
    obtain ⟨k, rfl⟩ : ∃ q, k = q + 1 := ⟨k - 1, by omega⟩
    simp only [laws_heldByteS.l0]
    rw [if_neg (by omega)]
    rw [show i = ys.length by omega]
  | succ d ih =>
    intro i k hi hk
    obtain ⟨k, rfl⟩ : ∃ q, k = q + 1 := ⟨k - 1, by omega⟩
    simp only [laws_heldByteS.l0]
    rw [if_pos (by omega), if_pos (by omega), rd_nat, if_pos (hy i (by omega)), w64_succ _ (by omega), w64_succ _ (by omega)]
    exact ih (i + 1) k (by omega) (by omega)
theorem mark_held_bytes (xs : List Int) (m k : Nat) (hn : xs.length ≤ 100000000000000000) (hm : m ≤ 100000000000000000) (hk : xs.length < k) :
    ∃ ys, laws_markByteS.f k xs (m : Int) = some (((m + xs.length : Nat) : Int), ys) ∧ ys.length = xs.length ∧ laws_heldByteS.f k ys (m : Int) = some ((m + xs.length : Nat) : Int) := by
  obtain ⟨ys, h1, h2, h3, h4⟩ := markByteS_l0 xs.length 0 xs m k (by omega) hk (by omega) (by omega)
  refine ⟨ys, h1, h2, ?_⟩
  have := heldByteS_l0 ys m (by omega) (by omega) (fun j hj => by have := h4 j (by omega) (by omega); simpa using this) ys.length 0 k (by omega) (by omega)
  rw [h2] at this
  exact this

theorem u8_of_wf {x : Int} (h : (Lit.int .u8 x).wf = true) : 0 ≤ x ∧ x < 256 := by
  have := h
  simp [Lit.wf, IntKind.min, IntKind.max, IntKind.bits, IntKind.signed] at this
  omega
def Bytes (xs : List Int) : Prop := ∀ x ∈ xs, 0 ≤ x ∧ x < 256
theorem Bytes.rd {xs : List Int} (h : Bytes xs) (i : Nat) : 0 ≤ rd xs (i : Int) ∧ rd xs (i : Int) < 256 := by
  rw [rd_nat, List.getD_eq_getElem?_getD]
  by_cases hi : i < xs.length
  · rw [List.getElem?_eq_getElem hi]; exact h _ (List.getElem_mem hi)
  · rw [List.getElem?_eq_none (by omega)]; exact ⟨by simp, by simp⟩

theorem and1_i64 (x : Int) (h0 : 0 ≤ x) (h1 : x < 4611686018427387904) : Go.bits .and .i64 x 1 = x % 2 :=
  bits_mask .i64 62 (by decide) (fun n h0 h1 => by rw [IntKind.wrap_i64]; omega) 1 (by decide) x h0 h1
theorem and1_u8 (x : Int) (h0 : 0 ≤ x) (h1 : x < 256) : Go.bits .and .u8 x 1 = x % 2 :=
  bits_mask .u8 8 (by decide) wraps_u8 1 (by decide) x h0 h1
theorem and16_i64 (x : Int) (h0 : 0 ≤ x) (h1 : x < 4611686018427387904) : Go.bits .and .i64 x 65535 = x % 65536 :=
  bits_mask .i64 62 (by decide) (fun n h0 h1 => by rw [IntKind.wrap_i64]; omega) 16 (by decide) x h0 h1
theorem xor_i64 (a b : Nat) (ha : a < 65536) (hb : b < 65536) : Go.bits .xor .i64 (a : Int) (b : Int) = ((a ^^^ b : Nat) : Int) := by
  have h : a ^^^ b < 65536 := Nat.xor_lt_two_pow (n := 16) ha hb
  have ha' : a % 2 ^ 64 = a := by omega
  have hb' : b % 2 ^ 64 = b := by omega
  have e : IntKind.i64.bits = 64 := rfl
  simp only [Go.bits, BitVec.ofInt_natCast, BitVec.toNat_xor, BitVec.toNat_ofNat, e, ha', hb']
  rw [IntKind.wrap_i64]; omega
def cstep (s b : Nat) : Nat := if s / 32768 = b then s * 2 % 65536 else (s * 2 % 65536) ^^^ 4129
theorem cstep_lt (s b : Nat) : cstep s b < 65536 := by
  unfold cstep
  split
  · omega
  · exact Nat.xor_lt_two_pow (n := 16) (by omega) (by omega)
def cbits (s b : Nat) : Nat → Nat
  | 0 => s
  | j + 1 => cbits (cstep s (b / 2 ^ j % 2)) b j
theorem cbits_lt (b : Nat) : ∀ j s, s < 65536 → cbits s b j < 65536 := by
  intro j
  induction j with
  | zero => intro s h; exact h
  | succ j ih => intro s _; exact ih _ (cstep_lt _ _)
def ccrc (s : Nat) : List Int → Nat
  | [] => s
  | x :: xs => ccrc (cbits s x.toNat 8) xs
theorem ccrc_lt : ∀ (xs : List Int) s, s < 65536 → ccrc s xs < 65536 := by
  intro xs
  induction xs with
  | nil => intro s h; exact h
  | cons x xs ih => intro s h; exact ih _ (cbits_lt _ _ _ h)
theorem ccrc_append : ∀ (xs ys : List Int) s, ccrc s (xs ++ ys) = ccrc (ccrc s xs) ys := by
  intro xs
  induction xs with
  | nil => intro ys s; rfl
  | cons x xs ih => intro ys s; exact ih ys _

theorem neg_cast (n : Nat) : ¬ ((n : Int) < 0) := by omega

theorem l1Copy_eq (xs : List Int) (h : xs.length < 140737488355328) : spec_l1Copy.f xs = some xs := by
  unfold spec_l1Copy.f
  simp only [Option.bind_some]
  rw [if_pos (by simp; omega)]
  rfl

theorem u64_id {n : Int} (h0 : 0 ≤ n) (h1 : n < 9223372036854775808) : IntKind.u64.wrap n = n := by
  simp only [IntKind.wrap, IntKind.bits, IntKind.signed]
  simp
  omega
theorem mask8 {m : Int} (h0 : 0 ≤ m) (h1 : m < 8) : shl .u8 1 (7 - m) = shr .u8 128 m := by
  have h : m = 0 ∨ m = 1 ∨ m = 2 ∨ m = 3 ∨ m = 4 ∨ m = 5 ∨ m = 6 ∨ m = 7 := by omega
  rcases h with rfl | rfl | rfl | rfl | rfl | rfl | rfl | rfl <;> rfl

theorem l2Length_l0 : ∀ (d x m k : Nat), x < 2 ^ d → d ≤ 64 → m + d ≤ 1000 → d < k → spec_l2Length.l0 k (x : Int) (m : Int) = some ((m + Lib.bitLen x : Nat) : Int) := by
  intro d
  induction d with
  | zero =>
    intro x m k hx hd hm hk
    obtain ⟨k, rfl⟩ : ∃ q, k = q + 1 := ⟨k - 1, by omega⟩
    have : x = 0 := by simpa using hx
    subst this
    simp only [spec_l2Length.l0]
    rw [if_neg (by omega)]
    rfl
  | succ d ih =>
    intro x m k hx hd hm hk
    obtain ⟨k, rfl⟩ : ∃ q, k = q + 1 := ⟨k - 1, by omega⟩
    have hx2 : x < 2 ^ 64 := Nat.lt_of_lt_of_le hx (Nat.pow_le_pow_right (by omega) hd)
    simp only [spec_l2Length.l0]
    by_cases h : x = 0
    · subst h
      rw [if_neg (by omega)]
      rfl
    · rw [Nat.pow_succ] at hx
      rw [if_pos (by omega), tdiv_pos (by omega), show (x : Int) / 2 = ((x / 2 : Nat) : Int) by omega, w64 (x := ((x / 2 : Nat) : Int)) (by omega) (by omega), w64_succ m (by omega), ih (x / 2) (m + 1) k (by omega) (by omega) (by omega) (by omega), Lib.bitLen_half x h hx2]
      congr 2
      omega
theorem l2Length_eq (x k : Nat) (hx : x < 65536) (hk : 20 < k) : spec_l2Length.f k (x : Int) = some ((Lib.bitLen x : Nat) : Int) := by
  have := l2Length_l0 16 x 0 k (by omega) (by omega) (by omega) (by omega)
  rw [Nat.zero_add] at this
  exact this

theorem flip_idx {x i L : Int} (h0 : 0 ≤ x) (hi : 0 ≤ i) (hc : ¬ (x + i ≥ L * 8)) : 0 ≤ (x + i) / 8 ∧ (x + i) / 8 < L ∧ 0 ≤ 7 - (x + i) % 8 ∧ 0 ≤ (x + i) % 8 := by omega
theorem flip_both (x1 p : Int) (L n : Nat) (h1 : 0 ≤ x1) (h1' : x1 ≤ 100000) (hn : n ≤ 64) (hL : L ≤ 1000) : ∀ (d i : Nat) (ys : List Int) (k : Nat), i + d = n → d < k → ys.length = L →
    ∃ c zs, spec_FlipBits.l0 k x1 p ((L : Int) * 8) ys (n : Int) (i : Int) = some (c, zs) ∧ impl_FlipBits.l0 k x1 p ((L : Int) * 8) ys (n : Int) (n : Int) (i : Int) = some (c, zs) ∧ zs.length ≤ L := by
  intro d
  induction d with
  | zero =>
    intro i ys k hi hk hy
    obtain ⟨k, rfl⟩ : ∃ q, k = q + 1 := ⟨k - 1, by omega⟩
    refine ⟨0, ys, ?_, ?_, by omega⟩
    · simp only [spec_FlipBits.l0]; rw [if_neg (by omega)]
    · simp only [impl_FlipBits.l0]; rw [if_neg (by omega)]
  | succ d ih =>
    intro i ys k hi hk hy
    obtain ⟨k, rfl⟩ : ∃ q, k = q + 1 := ⟨k - 1, by omega⟩
    have e1 : wrap64 ((n : Int) - 1) = (n : Int) - 1 := w64 (by omega) (by omega)
    have e2 : wrap64 ((n : Int) - 1 - i) = (n : Int) - 1 - i := w64 (by omega) (by omega)
    have e3 : IntKind.u64.wrap ((n : Int) - 1 - i) = (n : Int) - 1 - i := u64_id (by omega) (by omega)
    have e4 : wrap64 (x1 + i) = x1 + i := w64 (by omega) (by omega)
    have e5 : wrap64 ((x1 + i) / 8) = (x1 + i) / 8 := w64 (by omega) (by omega)
    have e6 : Int.tdiv (x1 + i) 8 = (x1 + i) / 8 := tdiv_pos (by omega) 8
    have e7 : Int.tmod (x1 + i) 8 = (x1 + i) % 8 := tmod_pos (by omega) 8
    have e8 : wrap64 (7 - (x1 + i) % 8) = 7 - (x1 + i) % 8 := w64 (by omega) (by omega)
    have e9 : IntKind.u64.wrap (7 - (x1 + i) % 8) = 7 - (x1 + i) % 8 := u64_id (by omega) (by omega)
    have e10 := mask8 (m := (x1 + i) % 8) (by omega) (by omega)
    have e11 := w64_succ i (by omega)
    simp only [spec_FlipBits.l0, impl_FlipBits.l0, e1, e2, e3, e4, e5, e6, e7, e8, e9, e10, e11]
    rw [if_pos (show (i : Int) < n by omega), if_pos (show (i : Int) < n by omega), if_pos (show (0 : Int) ≤ n - 1 - i by omega), if_pos (show (0 : Int) ≤ n - 1 - i by omega)]
    by_cases hb : Go.bits .and .i64 (shr .i64 p ((n : Int) - 1 - i)) 1 = 0
    · rw [if_pos hb, if_pos hb]
      exact ih (i + 1) ys k (by omega) (by omega) hy
    · rw [if_neg hb, if_neg hb]
      by_cases hc : x1 + i ≥ (L : Int) * 8
      · rw [if_pos hc, if_pos hc]
        exact ⟨3, [], rfl, rfl, by simp⟩
      · obtain ⟨f1, f2, f3, f4⟩ := flip_idx h1 (nat_nonneg i) hc
        rw [← hy] at f2
        rw [if_neg hc, if_neg hc, if_pos f1, if_pos f1, if_pos f2, if_pos f2, if_pos f3, if_pos f4]
        exact ih (i + 1) _ k (by omega) (by omega) (by rw [List.length_set]; exact hy)
theorem flips_both (xs : List Int) (a p : Int) (k : Nat) (hk : 200 < k) : ∃ c zs, spec_FlipBits.f k xs a p = some (c, zs) ∧ impl_FlipBits.f k xs a p = some (c, zs) ∧ zs.length ≤ 160 := by
  unfold spec_FlipBits.f impl_FlipBits.f
  by_cases h : (xs.length : Int) > 160
  · rw [if_pos h, if_pos h]
    exact ⟨2, [], rfl, rfl, by simp⟩
  · obtain ⟨k, rfl⟩ : ∃ q, k = q + 1 := ⟨k - 1, by omega⟩
    have e1 : wrap64 ((xs.length : Int) * 8) = (xs.length : Int) * 8 := w64 (by omega) (by omega)
    rw [if_neg h, if_neg h, l1In_eq, l1In_eq, inRange_eq, inRange_eq, e1]
    simp only [Option.bind_some]
    by_cases ha : 0 ≤ a ∧ a ≤ wrap64 ((xs.length : Int) * 8 - 1)
    · rw [w64 (by omega) (by omega)] at ha
      rw [w64 (x := (xs.length : Int) * 8 - 1) (by omega) (by omega), if_pos (by simpa using ha), if_pos (by simpa using ha)]
      simp only [spec_FlipBits.j0]
      by_cases hp : 1 ≤ p ∧ p ≤ 65535
      · obtain ⟨q, rfl⟩ : ∃ q : Nat, p = q := ⟨p.toNat, by omega⟩
        rw [if_neg (by simpa using hp), if_pos (by simpa using hp), l1Copy_eq xs (by omega)]
        unfold slices_Clone_byte_byte.f bits_Len64.f
        rw [if_pos (by omega), u64_id (by omega) (by omega)]
        simp only [Option.bind_some]
        rw [l2Length_eq q k (by omega) (by omega), if_pos (by omega), Int.toNat_natCast]
        simp only [Option.bind_some]
        have hl := Lib.bitLen_le q 16 (by omega) (by omega)
        obtain ⟨c, zs, s1, s2, s3⟩ := flip_both a q xs.length (Lib.bitLen q) (by omega) (by omega) (by omega) (by omega) (Lib.bitLen q) 0 xs k (by omega) (by omega) rfl
        exact ⟨c, zs, s1, impl_FlipBits.mono_l k _ _ _ _ _ _ _ _ s2, by omega⟩
      · rw [if_pos (by rw [decide_eq_false hp]; rfl), if_neg (by rw [decide_eq_false hp]; decide)]
        exact ⟨3, [], rfl, rfl, by simp⟩
    · rw [if_neg (by simpa using ha), if_neg (by simpa using ha)]
      simp only [spec_FlipBits.j0]
      exact ⟨3, [], rfl, rfl, by simp⟩

-- PLUS: lists bytes crc marks flips
theorem flip_j0 (l0 ys : List Int) (a b : Int) (c : Int) (K : Nat) (hi : impl_FlipBits.f K l0 a b = some (c, ys)) (hn : l0.length ≤ 1048576) (hK : l0.length < K) (hy : ys.length ≤ 1000000000) (hyK : ys.length < K) :
    laws_FnExactFlipBits.j0 (K + 1) l0 a b false c ys c ys = some true := by
  obtain ⟨zs, m1, m2, m3⟩ := mark_held_bytes ys 1 K (by omega) (by omega) hyK
  have hm : laws_markBytesResult.f K c ys 1 = some (((1 + ys.length : Nat) : Int), zs) := by
    unfold laws_markBytesResult.f
    rw [show (1 : Int) = ((1 : Nat) : Int) from rfl, m1]; rfl
  have hh : laws_heldBytesResult.f K c zs 1 = some ((1 + ys.length : Nat) : Int) := by
    unfold laws_heldBytesResult.f
    rw [show (1 : Int) = ((1 : Nat) : Int) from rfl, m3]
    simp only [Option.bind_some]
    rw [if_neg (neg_cast _)]
  have ht := toByteS_eq l0 (by omega) K hK
  have he : laws_eqBytesResult.f K c ys c ys = some true := by
    unfold laws_eqBytesResult.f
    rw [if_pos rfl, eqByteS_refl ys (by omega) K hyK]; rfl
  simp only [laws_FnExactFlipBits.j0]
  rw [if_neg (by decide)]
  simp only [hm, hh, ht, hi, he, Option.bind_some, if_true, if_neg (neg_cast _)]
theorem FnExactFlipBits : laws_FnExactFlipBits.Pure := by
  intro l0 a b h1 h2 h3 _ _
  obtain ⟨K, hK⟩ : ∃ K, K = l0.length + 2000 := ⟨_, rfl⟩
  refine ⟨K + 1, ?_⟩
  unfold laws_FnExactFlipBits.f
  by_cases hb : (l0.length : Int) > 1048576
  · rw [if_pos hb]
  rw [if_neg hb]
  obtain ⟨c, ys, hs0, hi, hl⟩ := flips_both l0 a b K (by omega)
  have hs := spec_FlipBits.mono _ _ _ _ _ hs0
  have hi' := impl_FlipBits.mono _ _ _ _ _ hi
  have ht := toByteS_eq l0 (by omega) (K + 1) (by omega)
  have hq := eqByteS_refl l0 (by omega) (K + 1) (by omega)
  have he : laws_eqBytesResult.f (K + 1) c ys c ys = some true := by
    unfold laws_eqBytesResult.f
    rw [if_pos rfl, eqByteS_refl ys (by omega) (K + 1) (by omega)]; rfl
  obtain ⟨zs, m1, m2, m3⟩ := mark_held_bytes l0 1 (K + 1) (by omega) (by omega) (by omega)
  have hm : laws_markByteS.f (K + 1) l0 1 = some (((1 + l0.length : Nat) : Int), zs) := m1
  have hj := flip_j0 l0 ys a b c K hi (by omega) (by omega) (by omega) (by omega)
  simp only [ht, hs, hi', he, hq, hm, Option.bind_some, if_true, if_neg (neg_cast _), Bool.not_true]
  exact hj

end Go.Proofs.Ytgfnmglnmpmjgaa.Pure
