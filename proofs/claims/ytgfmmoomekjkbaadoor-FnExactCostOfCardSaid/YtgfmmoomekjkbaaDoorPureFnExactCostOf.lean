/-
  CostOf answers as the reference does, for every list of slots, and leaves it as it was.
-/
import Derived.Test.YtgfmmoomekjkbaaDoorPFnExactCostOfx
namespace Go.Proofs.YtgfmmoomekjkbaaDoor.Pure
open Go.RowKit Go.Proofs.YtgfmmoomekjkbaaDoor.PFnExactCostOf Go.Proofs.YtgfmmoomekjkbaaDoorW.PrintWords Go.Proofs.YtgfmmoomekjkbaaDoorW.PrintLast Go.Proofs.YtgfmmoomekjkbaaDoorW.PrintMore
set_option linter.unusedVariables false
set_option linter.unusedSimpArgs false

theorem w64 {x : Int} (h1 : -9223372036854775808 ≤ x) (h2 : x ≤ 9223372036854775807) : wrap64 x = x := by
  unfold wrap64; omega
theorem tdiv_pos {a : Int} (h : 0 ≤ a) (b : Int) : Int.tdiv a b = a / b := Int.tdiv_eq_ediv_of_nonneg h
theorem tmod_pos {a : Int} (h : 0 ≤ a) (b : Int) : Int.tmod a b = a % b := Int.tmod_eq_emod_of_nonneg h
theorem tdiv_neg {a : Int} (h : a ≤ 0) (b : Int) : Int.tdiv a b = -((-a) / b) := by
  have := Int.neg_tdiv (-a) b
  rw [Int.neg_neg] at this
  rw [this, tdiv_pos (by omega)]
theorem tmod_neg {a : Int} (h : a ≤ 0) (b : Int) : Int.tmod a b = -((-a) % b) := by
  have := Int.neg_tmod (-a) b
  rw [Int.neg_neg] at this
  rw [this, tmod_pos (by omega)]
theorem div_unique {x b q r : Int} (hb : 0 < b) (h : r + b * q = x) (h0 : 0 ≤ r) (h1 : r < b) : x / b = q :=
  ((Int.ediv_emod_unique hb).2 ⟨h, h0, h1⟩).1
theorem div_parts (x b : Int) : b * (x / b) + x % b = x := Int.mul_ediv_add_emod x b
theorem neg_div {a b : Int} (hb : 0 < b) : (-a) / b = if a % b = 0 then -(a / b) else -(a / b) - 1 := by
  have h := div_parts a b
  have h0 := Int.emod_nonneg a (Int.ne_of_gt hb)
  have h1 := Int.emod_lt_of_pos a hb
  split
  · exact div_unique (r := 0) hb (by rw [Int.mul_neg]; omega) (by omega) (by omega)
  · exact div_unique (r := b - a % b) hb (by rw [Int.mul_sub, Int.mul_neg]; omega) (by omega) (by omega)
theorem ceil_div {a b : Int} (hb : 0 < b) : (a + b - 1) / b = -((-a) / b) := by
  have h := div_parts (-a) b
  have h0 := Int.emod_nonneg (-a) (Int.ne_of_gt hb)
  have h1 := Int.emod_lt_of_pos (-a) hb
  exact div_unique (r := b - 1 - (-a) % b) hb (by rw [Int.mul_neg]; omega) (by omega) (by omega)
theorem div_bd {a b : Int} (ha : 0 ≤ a) (hb : 0 < b) : 0 ≤ a / b ∧ a / b ≤ a :=
  ⟨Int.ediv_nonneg ha (by omega), Int.ediv_le_self b ha⟩
theorem floor_tdiv {x b : Int} (hb : 0 < b) : (if Int.tmod x b < 0 then Int.tdiv x b - 1 else Int.tdiv x b) = x / b := by
  by_cases h : 0 ≤ x
  · have h0 := Int.emod_nonneg x (Int.ne_of_gt hb)
    rw [tmod_pos h, tdiv_pos h, if_neg (by omega)]
  · rw [tmod_neg (by omega), tdiv_neg (by omega)]
    have h0 := Int.emod_nonneg (-x) (Int.ne_of_gt hb)
    have e := neg_div (a := -x) hb
    rw [Int.neg_neg] at e
    rw [e]
    by_cases hz : (-x) % b = 0
    · rw [if_pos hz, if_neg (by omega)]
    · rw [if_neg hz, if_pos (by omega)]
theorem floor_bd {x b : Int} (hb : 0 < b) : (0 ≤ x → 0 ≤ x / b ∧ x / b ≤ x) ∧ (x < 0 → x ≤ x / b ∧ x / b < 0) := by
  refine ⟨fun h => div_bd h hb, fun h => ?_⟩
  have e := neg_div (a := -x) hb
  rw [Int.neg_neg] at e
  have d := div_bd (a := -x) (by omega) hb
  have p := div_parts (-x) b
  have h0 := Int.emod_nonneg (-x) (Int.ne_of_gt hb)
  rw [e]
  split
  · next hz =>
    rw [hz] at p
    have : (-x) / b ≠ 0 := fun e0 => by rw [e0, Int.mul_zero] at p; omega
    omega
  · next hz =>
    have : (-x) / b < -x := by
      rcases Int.lt_or_eq_of_le d.2 with h2 | h2
      · exact h2
      · exfalso
        rw [h2] at p
        have hb1 : b ≠ 1 := fun e1 => by subst e1; omega
        have : 2 * (-x) ≤ b * (-x) := Int.mul_le_mul_of_nonneg_right (by omega) (by omega)
        omega
    omega

theorem inRange_eq (a b c : Int) : impl_inRange.f a b c = some (decide (b ≤ a ∧ a ≤ c)) := by
  unfold impl_inRange.f; by_cases h : b ≤ a <;> simp [h]

theorem l1In_eq (a b c : Int) : spec_l1In.f a b c = some (decide (b ≤ a ∧ a ≤ c)) := by
  unfold spec_l1In.f; by_cases h : b ≤ a <;> simp [h]

theorem codeIf_eq (b : Bool) (c : Int) : impl_codeIf.f b c = some (if b = true then c else 0) := by
  unfold impl_codeIf.f; cases b <;> rfl

theorem eqInt_refl (a b : Int) : laws_eqIntResult.f a b a b = some true := by unfold laws_eqIntResult.f; rw [if_pos rfl, if_pos rfl]

theorem rd_nat (xs : List Int) (i : Nat) : rd xs (i : Int) = xs.getD i 0 := by unfold rd; rw [Int.toNat_natCast]
theorem rd_get (xs : List Int) (i : Nat) (h : i < xs.length) : rd xs (i : Int) = xs[i] := by
  rw [rd_nat, List.getD_eq_getElem?_getD, List.getElem?_eq_getElem h]; rfl
theorem w64_succ (i : Nat) (h : i ≤ 4000000000000000000) : wrap64 ((i : Int) + 1) = ((i + 1 : Nat) : Int) := by
  rw [w64 (by omega) (by omega)]; omega
theorem nat_nonneg (i : Nat) : 0 ≤ (i : Int) := Int.natCast_nonneg i
theorem set_get_take {xs ys : List Int} {i : Nat} (hl : ys.length = xs.length) (ht : ys.take i = xs.take i) (hi : i < xs.length) :
    (ys.set i (rd xs (i : Int))).take (i + 1) = xs.take (i + 1) := by
  rw [rd_get xs i hi]
  apply List.ext_getElem?
  intro n
  by_cases hn : n < i + 1
  · rw [List.getElem?_take_of_lt hn, List.getElem?_take_of_lt hn]
    by_cases e : n = i
    · subst e
      rw [List.getElem?_set_self (by omega), List.getElem?_eq_getElem hi]
    · rw [List.getElem?_set_ne (by omega)]
      have := congrArg (fun l => l[n]?) ht
      simp only [List.getElem?_take_of_lt (show n < i by omega)] at this
      exact this
  · rw [List.getElem?_take_eq_none (by omega), List.getElem?_take_eq_none (by omega)]

theorem u8_of_wf {x : Int} (h : (Lit.int .u8 x).wf = true) : 0 ≤ x ∧ x < 256 := by
  have := h
  simp [Lit.wf, IntKind.min, IntKind.max, IntKind.bits, IntKind.signed] at this
  omega
def Bytes (xs : List Int) : Prop := ∀ x ∈ xs, 0 ≤ x ∧ x < 256
theorem Bytes.rd {xs : List Int} (h : Bytes xs) (i : Nat) : 0 ≤ rd xs (i : Int) ∧ rd xs (i : Int) < 256 := by
  rw [rd_nat, List.getD_eq_getElem?_getD]
  by_cases hi : i < xs.length
  · rw [List.getElem?_eq_getElem hi]; exact h _ (List.getElem_mem hi)
  · rw [List.getElem?_eq_none (by omega)]; exact ⟨by simp, by simp⟩

theorem neg_cast (n : Nat) : ¬ ((n : Int) < 0) := by omega

theorem l1Copy_eq (xs : List Int) (h : xs.length < 140737488355328) : spec_l1Copy.f xs = some xs := by
  unfold spec_l1Copy.f
  simp only [Option.bind_some]
  rw [if_pos (by simp; omega)]
  rfl

theorem rdT_nat (xs : List S48) (i : Nat) : rd_T48 xs (i : Int) = xs.getD i z48 := by unfold rd_T48; rw [Int.toNat_natCast]

theorem eqSlot_refl (a b c : Int) : laws_eqSlot.f a b c a b c = some true := by
  unfold laws_eqSlot.f; rw [if_pos rfl, if_pos rfl, if_pos rfl]
theorem eqSlotS_l0 (xs : List S48) (hn : xs.length ≤ 1000000000000000000) : ∀ (d i k : Nat), i + d = xs.length → d < k → laws_eqSlotS.l0 k xs xs (i : Int) = some true := by
  intro d
  induction d with
  | zero =>
    intro i k hi hk
    obtain ⟨k, rfl⟩ : ∃ q, k = q + 1 := ⟨k - 1, by omega⟩
    simp only [laws_eqSlotS.l0]
    rw [if_neg (by omega)]
  | succ d ih =>
    intro i k hi hk
    obtain ⟨k, rfl⟩ : ∃ q, k = q + 1 := ⟨k - 1, by omega⟩
    simp only [laws_eqSlotS.l0, eqSlot_refl, Option.bind_some]
    rw [if_pos (by omega), if_pos (by omega), if_pos (by omega), if_pos trivial, w64_succ _ (by omega)]
    exact ih (i + 1) k (by omega) (by omega)
theorem eqSlotS_refl (xs : List S48) (hn : xs.length ≤ 1000000000000000000) (k : Nat) (hk : xs.length < k) : laws_eqSlotS.f k xs xs = some true := by
  unfold laws_eqSlotS.f
  rw [if_pos rfl]
  exact eqSlotS_l0 xs hn xs.length 0 k (by omega) hk

/-! ## the range coder: the program's encoding is the reference's -/
def SlotOk (s : S48) : Prop := (1 ≤ s.f2 ∧ s.f2 ≤ 1024) ∧ (1 ≤ s.f1 ∧ s.f1 ≤ s.f2) ∧ (0 ≤ s.f0 ∧ s.f0 ≤ s.f2 - s.f1)
def val : List Int → Int
  | [] => 0
  | b :: t => b * 256 ^ t.length + val t
theorem p256 (n : Nat) : (0 : Int) < 256 ^ n := Int.pow_pos (by decide)
theorem p256s (n : Nat) : (256 : Int) ^ (n + 1) = 256 * 256 ^ n := by rw [Int.pow_succ, Int.mul_comm]
theorem val_append (b : Int) : ∀ xs : List Int, val (xs ++ [b]) = 256 * val xs + b
  | [] => by simp [val]
  | a :: t => by
    have ih := val_append b t
    show a * 256 ^ (t ++ [b]).length + val (t ++ [b]) = 256 * (a * 256 ^ t.length + val t) + b
    rw [ih, List.length_append, List.length_cons, List.length_nil, Nat.zero_add, p256s, ← Int.mul_assoc, Int.mul_comm a 256, Int.mul_assoc]
    generalize a * 256 ^ t.length = q
    omega
theorem val_set (v : Int) : ∀ (xs : List Int) (i : Nat), i < xs.length → val (xs.set i v) = val xs + (v - xs.getD i 0) * 256 ^ (xs.length - 1 - i)
  | a :: t, 0, _ => by
    show v * 256 ^ t.length + val t = a * 256 ^ t.length + val t + (v - a) * 256 ^ (t.length + 1 - 1 - 0)
    rw [Nat.add_sub_cancel, Nat.sub_zero, Int.sub_mul]
    omega
  | a :: t, i + 1, h => by
    have ih := val_set v t i (by simp only [List.length_cons] at h; omega)
    have e : (a :: t).length - 1 - (i + 1) = t.length - 1 - i := by simp only [List.length_cons]; omega
    show a * 256 ^ (t.set i v).length + val (t.set i v) = a * 256 ^ t.length + val t + (v - t.getD i 0) * 256 ^ ((a :: t).length - 1 - (i + 1))
    rw [e, List.length_set, ih]
    omega
theorem Bytes.set {xs : List Int} (h : Bytes xs) (i : Nat) {v : Int} (hv : 0 ≤ v ∧ v < 256) : Bytes (xs.set i v) := by
  intro x hx
  rcases List.mem_or_eq_of_mem_set hx with hx | rfl
  · exact h x hx
  · exact hv
theorem Bytes.snoc {xs : List Int} (h : Bytes xs) {v : Int} (hv : 0 ≤ v ∧ v < 256) : Bytes (xs ++ [v]) := by
  intro x hx
  rcases List.mem_append.1 hx with hx | hx
  · exact h x hx
  · rw [List.mem_singleton] at hx; subst hx; exact hv
theorem val_nonneg : ∀ (xs : List Int), Bytes xs → 0 ≤ val xs
  | [], _ => by simp [val]
  | a :: t, h => by
    have ih := val_nonneg t (fun x hx => h x (List.mem_cons_of_mem _ hx))
    have ha := (h a (List.mem_cons_self ..)).1
    have hp := p256 t.length
    have := Int.mul_nonneg ha (Int.le_of_lt hp)
    show 0 ≤ a * 256 ^ t.length + val t
    omega
theorem carry_l0 : ∀ (j : Nat) (xs : List Int), j ≤ xs.length → Bytes xs → xs.length ≤ 1000000 → val xs + 256 ^ (xs.length - j) < 256 ^ xs.length →
    ∃ ys, (Bytes ys ∧ ys.length = xs.length ∧ val ys = val xs + 256 ^ (xs.length - j)) ∧ ∀ k1 k2 : Nat, j < k1 → j < k2 → impl_carry.l0 k1 xs ((j : Int) - 1) = some ys ∧ spec_l3Carry.l0 k2 xs ((j : Int) - 1) = some ys := by
  intro j
  induction j with
  | zero =>
    intro xs _ hb _ h
    rw [Nat.sub_zero] at h
    have := val_nonneg xs hb
    omega
  | succ j ih =>
    intro xs hj hb hn h
    have e0 : ((j + 1 : Nat) : Int) - 1 = (j : Int) := by omega
    have hp := p256s (xs.length - 1 - j)
    have e1 : xs.length - (j + 1) = xs.length - 1 - j := by omega
    have e2 : xs.length - j = xs.length - 1 - j + 1 := by omega
    have hx := hb.rd j
    rw [rd_nat] at hx
    by_cases c : xs.getD j 0 = 255
    · have hv := val_set 0 xs j (by omega)
      rw [c] at hv
      obtain ⟨ys, ⟨y1, y2, y3⟩, y4⟩ := ih (xs.set j 0) (by rw [List.length_set]; omega) (hb.set j (by omega)) (by rw [List.length_set]; exact hn) (by
        rw [List.length_set, e2, hp, hv]; rw [e1] at h; generalize (256 : Int) ^ (xs.length - 1 - j) = q at *; omega)
      rw [List.length_set] at y2 y3
      refine ⟨ys, ⟨y1, y2, ?_⟩, fun k1 k2 h1 h2 => ?_⟩
      · rw [y3, hv, e2, hp, e1]; generalize (256 : Int) ^ (xs.length - 1 - j) = q at *; omega
      · obtain ⟨k1, rfl⟩ : ∃ q, k1 = q + 1 := ⟨k1 - 1, by omega⟩
        obtain ⟨k2, rfl⟩ : ∃ q, k2 = q + 1 := ⟨k2 - 1, by omega⟩
        have w : wrap64 ((j : Int) - 1) = (j : Int) - 1 := w64 (by omega) (by omega)
        have := y4 k1 k2 (by omega) (by omega)
        simp only [impl_carry.l0, spec_l3Carry.l0, e0, rd_nat, c, w, Int.toNat_natCast]
        rw [if_pos (by omega), if_pos (by omega), if_pos trivial, if_pos (by omega), if_pos (by omega), if_pos (by omega), if_neg (by omega)]
        exact this
    · have hv := val_set ((xs.getD j 0 + 1) % 256) xs j (by omega)
      have m : (xs.getD j 0 + 1) % 256 = xs.getD j 0 + 1 := by omega
      rw [m, show xs.getD j 0 + 1 - xs.getD j 0 = 1 by omega, Int.one_mul] at hv
      refine ⟨xs.set j (xs.getD j 0 + 1), ⟨hb.set j (by omega), List.length_set, ?_⟩, fun k1 k2 h1 h2 => ?_⟩
      · rw [hv, e1]
      · obtain ⟨k1, rfl⟩ : ∃ q, k1 = q + 1 := ⟨k1 - 1, by omega⟩
        obtain ⟨k2, rfl⟩ : ∃ q, k2 = q + 1 := ⟨k2 - 1, by omega⟩
        simp only [impl_carry.l0, spec_l3Carry.l0, e0, rd_nat, Int.toNat_natCast, m]
        rw [if_pos (by omega), if_pos (by omega), if_neg c, if_pos (by omega), if_pos (by omega), if_pos (by omega), if_pos (by omega)]
        exact ⟨rfl, rfl⟩
theorem carry_both (xs : List Int) (hb : Bytes xs) (hn : xs.length ≤ 1000000) (h : val xs + 1 < 256 ^ xs.length) :
    ∃ ys, (Bytes ys ∧ ys.length = xs.length ∧ val ys = val xs + 1) ∧ ∀ k1 k2 : Nat, xs.length < k1 → xs.length < k2 → impl_carry.f k1 xs = some ys ∧ spec_l3Carry.f k2 xs = some ys := by
  have e : (256 : Int) ^ (xs.length - xs.length) = 1 := by rw [Nat.sub_self]; rfl
  obtain ⟨ys, y1, y2⟩ := carry_l0 xs.length xs (Nat.le_refl _) hb hn (by rw [e]; exact h)
  rw [e] at y1
  refine ⟨ys, y1, fun k1 k2 h1 h2 => ?_⟩
  have w : wrap64 ((xs.length : Int) - 1) = (xs.length : Int) - 1 := w64 (by omega) (by omega)
  unfold impl_carry.f spec_l3Carry.f
  rw [l1Copy_eq xs (by omega), Option.bind_some, w]
  exact y2 k1 k2 h1 h2
theorem narrow_both (r : Int) (s : S48) (h : SlotOk s) (h1 : 65536 ≤ r) (h2 : r ≤ 16777216) :
    ∃ b nx, (0 ≤ b ∧ 1 ≤ nx ∧ b + nx ≤ r) ∧ impl_narrowed.f r s.f0 s.f1 s.f2 = some (b, nx) ∧ spec_l3Narrow.f r s.f0 s.f1 s.f2 = some nx ∧ wrap64 ((wrap64 (Int.tdiv r s.f2)) * s.f0) = b := by
  obtain ⟨⟨t1, t2⟩, ⟨z1, z2⟩, l1, l2⟩ := h
  have ed := tdiv_pos (a := r) (by omega) s.f2
  have dm := Int.ediv_mul_le r (show s.f2 ≠ 0 by omega)
  have bd := div_bd (a := r) (b := s.f2) (by omega) (by omega)
  have u1 : 1 ≤ r / s.f2 := Int.le_ediv_of_mul_le (by omega) (by omega)
  generalize r / s.f2 = u at *
  have a1 : u * s.f0 + u * s.f1 ≤ u * s.f2 := by rw [← Int.mul_add]; exact Int.mul_le_mul_of_nonneg_left (by omega) (by omega)
  have a2 : 0 ≤ u * s.f0 := Int.mul_nonneg (by omega) l1
  have a3 : u ≤ u * s.f1 := by have := Int.mul_le_mul_of_nonneg_left z1 (show 0 ≤ u by omega); omega
  have w0 : wrap64 u = u := w64 (by omega) (by omega)
  have w1 : wrap64 (u * s.f0) = u * s.f0 := w64 (by omega) (by omega)
  have w2 : wrap64 (u * s.f1) = u * s.f1 := w64 (by omega) (by omega)
  have w3 : wrap64 (s.f0 + s.f1) = s.f0 + s.f1 := w64 (by omega) (by omega)
  have w4 : wrap64 (r - u * s.f0) = r - u * s.f0 := w64 (by omega) (by omega)
  unfold impl_narrowed.f spec_l3Narrow.f
  have tz : ¬ s.f2 = 0 := by omega
  rw [ed, w0, w1, w2, w3, w4]
  simp only [if_neg tz]
  by_cases c : s.f0 + s.f1 = s.f2
  · simp only [if_pos c]
    exact ⟨_, _, ⟨a2, by omega, by omega⟩, rfl, rfl, rfl⟩
  · simp only [if_neg c]
    exact ⟨_, _, ⟨a2, by omega, by omega⟩, rfl, rfl, rfl⟩
/-- What the two encoders hold. -/
structure Held (out : List Int) (low r : Int) : Prop where
  by' : Bytes out
  lo : 0 ≤ low ∧ low < 16777216
  r0 : r ≤ 16777216
  sum : val out * 16777216 + low + r ≤ 256 ^ out.length * 16777216
def thr : Nat → Int
  | 0 => 65536
  | 1 => 256
  | _ + 2 => 1
theorem shift_both (L : List S48) (n i : Int) : ∀ (d : Nat) (out : List Int) (low r : Int), thr d ≤ r → Held out low r → out.length + d ≤ 100000 →
    ∃ out' low' r', (Held out' low' r' ∧ 65536 ≤ r' ∧ out'.length ≤ out.length + d) ∧ ∀ f1 f2 : Nat, ∃ g1 g2, f1 ≤ g1 ∧ f2 ≤ g2 ∧
      spec_l3Encode.l1 (f1 + d + 1) L out low r i = spec_l3Encode.l0 g1 L out' low' r' (wrap64 (i + 1)) ∧
      impl_encode.l1 (f2 + d + 1) out low r L n i = impl_encode.l0 g2 out' low' r' L n (wrap64 (i + 1)) := by
  intro d
  induction d with
  | zero =>
    intro out low r ht hH hl
    have ht' : 65536 ≤ r := ht
    refine ⟨out, low, r, ⟨hH, ht', by omega⟩, fun f1 f2 => ⟨f1 + 0, f2 + 0, by omega, by omega, ?_, ?_⟩⟩
    · simp only [spec_l3Encode.l1]; rw [if_neg (by omega), Nat.add_zero]
    · simp only [impl_encode.l1]; rw [if_neg (by omega), Nat.add_zero]
  | succ d ih =>
    intro out low r ht hH hl
    by_cases c : r < 65536
    · have h0 := hH.lo
      have hr1 : 1 ≤ r := by
        match d, ht with
        | 0, ht => have : (256 : Int) ≤ r := ht; omega
        | d + 1, ht => exact ht
      have ht' : thr d ≤ r * 256 := by
        match d, ht with
        | 0, ht => have : (256 : Int) ≤ r := ht; show (65536 : Int) ≤ r * 256; omega
        | 1, ht => have : (1 : Int) ≤ r := ht; show (256 : Int) ≤ r * 256; omega
        | d + 2, ht => have : (1 : Int) ≤ r := ht; show (1 : Int) ≤ r * 256; omega
      have e1 : (wrap64 (Int.tdiv low 65536)) % 256 = low / 65536 := by rw [tdiv_pos h0.1, w64 (by omega) (by omega)]; omega
      have e2 : (low / 65536) % 256 = low / 65536 := by omega
      have e3 : wrap64 ((Int.tmod low 65536) * 256) = low % 65536 * 256 := by rw [tmod_pos h0.1, w64 (by omega) (by omega)]
      have e4 : wrap64 (r * 256) = r * 256 := w64 (by omega) (by omega)
      have hs := hH.sum
      have hH' : Held (out ++ [low / 65536]) (low % 65536 * 256) (r * 256) := by
        refine ⟨hH.by'.snoc (by omega), by omega, by omega, ?_⟩
        rw [val_append, List.length_append, List.length_cons, List.length_nil, Nat.zero_add, p256s]
        generalize (256 : Int) ^ out.length = P at *
        omega
      obtain ⟨out', low', r', ⟨q1, q2, q3⟩, q4⟩ := ih _ _ _ ht' hH' (by rw [List.length_append, List.length_cons, List.length_nil]; omega)
      rw [List.length_append, List.length_cons, List.length_nil] at q3
      refine ⟨out', low', r', ⟨q1, q2, by omega⟩, fun f1 f2 => ?_⟩
      obtain ⟨g1, g2, u1, u2, u3, u4⟩ := q4 f1 f2
      refine ⟨g1, g2, u1, u2, ?_, ?_⟩
      · rw [show f1 + (d + 1) + 1 = f1 + d + 1 + 1 by omega]
        rw [spec_l3Encode.l1]
        rw [if_pos c, if_pos (by omega), e1, e3, e4]
        exact u3
      · rw [show f2 + (d + 1) + 1 = f2 + d + 1 + 1 by omega]
        rw [impl_encode.l1]
        rw [if_pos c, if_pos (by omega), e2, e3, e4]
        exact u4
    · refine ⟨out, low, r, ⟨hH, by omega, by omega⟩, fun f1 f2 => ⟨f1 + (d + 1), f2 + (d + 1), by omega, by omega, ?_, ?_⟩⟩
      · rw [spec_l3Encode.l1]; rw [if_neg c]
      · rw [impl_encode.l1]; rw [if_neg c]
theorem trim_both : ∀ (n : Nat) (xs : List Int), xs.length = n → n ≤ 1000000 →
    ∃ ys, ys.length ≤ n ∧ ∀ k1 k2 : Nat, n < k1 → n < k2 → spec_l3Encode.l2 k1 xs = some ys ∧ bytes_trimRightByte.l0 k2 xs 0 = some ys := by
  intro n
  induction n with
  | zero =>
    intro xs hx _
    refine ⟨xs, by omega, fun k1 k2 h1 h2 => ?_⟩
    obtain ⟨k1, rfl⟩ : ∃ q, k1 = q + 1 := ⟨k1 - 1, by omega⟩
    obtain ⟨k2, rfl⟩ : ∃ q, k2 = q + 1 := ⟨k2 - 1, by omega⟩
    rw [spec_l3Encode.l2, bytes_trimRightByte.l0]
    rw [if_neg (by omega), if_neg (by omega)]
    exact ⟨rfl, rfl⟩
  | succ n ih =>
    intro xs hx hn
    have w : wrap64 ((xs.length : Int) - 1) = (n : Int) := by rw [hx, w64 (by omega) (by omega)]; omega
    by_cases c : rd xs (n : Int) = 0
    · obtain ⟨ys, y1, y2⟩ := ih (xs.take n) (by rw [List.length_take]; omega) (by omega)
      refine ⟨ys, by omega, fun k1 k2 h1 h2 => ?_⟩
      obtain ⟨k1, rfl⟩ : ∃ q, k1 = q + 1 := ⟨k1 - 1, by omega⟩
      obtain ⟨k2, rfl⟩ : ∃ q, k2 = q + 1 := ⟨k2 - 1, by omega⟩
      rw [spec_l3Encode.l2, bytes_trimRightByte.l0]
      simp only [w, Int.toNat_natCast]
      rw [if_pos (by omega), if_pos (by omega), if_pos (by omega), if_pos c, if_pos (by omega), if_pos (by omega), if_pos (by omega), if_pos (by omega), if_pos c, if_pos (by omega)]
      exact y2 k1 k2 (by omega) (by omega)
    · refine ⟨xs, by omega, fun k1 k2 h1 h2 => ?_⟩
      obtain ⟨k1, rfl⟩ : ∃ q, k1 = q + 1 := ⟨k1 - 1, by omega⟩
      obtain ⟨k2, rfl⟩ : ∃ q, k2 = q + 1 := ⟨k2 - 1, by omega⟩
      rw [spec_l3Encode.l2, bytes_trimRightByte.l0]
      simp only [w, Int.toNat_natCast]
      rw [if_pos (by omega), if_pos (by omega), if_pos (by omega), if_neg c, if_pos (by omega), if_pos (by omega), if_pos (by omega), if_neg c]
      exact ⟨rfl, rfl⟩
theorem bt0 : bt (⟨#[0]⟩ : ByteArray) 0 = 0 := by rfl
theorem trimRight_eq (xs : List Int) (h : 0 < xs.length) (k : Nat) (ys : List Int) (e : bytes_trimRightByte.l0 k xs 0 = some ys) : bytes_TrimRight.f (k + 1 + 1) xs (⟨#[0]⟩ : ByteArray) = some ys := by
  have hb : ((⟨#[0]⟩ : ByteArray).toList == ([] : List UInt8)) = false := by decide +kernel
  have hz : (((⟨#[0]⟩ : ByteArray).size : Nat) : Int) = 1 := by rfl
  unfold bytes_TrimRight.f
  rw [if_neg (by omega), hb, bytes_TrimRight.j0]
  rw [if_neg (by decide), hz, if_pos rfl, if_pos (by decide), bt0, decide_eq_true (by decide), bytes_TrimRight.j1]
  rw [if_pos rfl, hz, if_pos (by decide), bt0]
  unfold bytes_trimRightByte.f
  rw [e]; rfl
theorem clone_eq (xs : List Int) (h : xs.length ≤ 1000000) : slices_Clone_byte_byte.f xs = some xs := by
  unfold slices_Clone_byte_byte.f; rw [if_pos (by omega)]
theorem bindS' {α β : Type} (a : α) (f : α → Option β) : (some a).bind f = f a := by cases h : (some a).bind f <;> (rw [← h]; rfl)
theorem spec_near (K : Nat) (L : List S48) (out : List Int) (low r b nx : Int) (i : Nat) (hi : i < L.length) (tz : ¬ (L.getD i z48).f2 = 0) (n2 : spec_l3Narrow.f r (L.getD i z48).f0 (L.getD i z48).f1 (L.getD i z48).f2 = some nx)
    (n3 : wrap64 ((wrap64 (Int.tdiv r (L.getD i z48).f2)) * (L.getD i z48).f0) = b) (w1 : wrap64 (low + b) = low + b) (c : ¬ low + b ≥ 16777216) : spec_l3Encode.l0 (K + 1) L out low r (i : Int) = spec_l3Encode.j1 K L out (low + b) nx (i : Int) := by
  rw [spec_l3Encode.l0, rdT_nat]
  rw [if_pos (by omega), if_pos (by omega), if_neg tz, n2, bindS', n3, w1, if_neg c]
theorem spec_far (K : Nat) (L : List S48) (out cs : List Int) (low r b nx lo : Int) (i : Nat) (hi : i < L.length) (tz : ¬ (L.getD i z48).f2 = 0) (n2 : spec_l3Narrow.f r (L.getD i z48).f0 (L.getD i z48).f1 (L.getD i z48).f2 = some nx)
    (n3 : wrap64 ((wrap64 (Int.tdiv r (L.getD i z48).f2)) * (L.getD i z48).f0) = b) (w1 : wrap64 (low + b) = low + b) (c : low + b ≥ 16777216) (cc : spec_l3Carry.f K out = some cs) (w2 : wrap64 (low + b - 16777216) = lo) :
    spec_l3Encode.l0 (K + 1) L out low r (i : Int) = spec_l3Encode.j1 K L cs lo nx (i : Int) := by
  rw [spec_l3Encode.l0, rdT_nat]
  rw [if_pos (by omega), if_pos (by omega), if_neg tz, n2, bindS', n3, w1, if_pos c, cc, bindS', w2]
theorem impl_near (K : Nat) (L : List S48) (out : List Int) (low r b nx : Int) (i : Nat) (hi : i < L.length) (n1 : impl_narrowed.f r (L.getD i z48).f0 (L.getD i z48).f1 (L.getD i z48).f2 = some (b, nx))
    (w1 : wrap64 (low + b) = low + b) (c : ¬ low + b ≥ 16777216) : impl_encode.l0 (K + 1) out low r L (L.length : Int) (i : Int) = impl_encode.j1 K out (low + b) nx L (L.length : Int) (i : Int) := by
  rw [impl_encode.l0, rdT_nat]
  rw [if_pos (by omega), if_pos (by omega), if_pos (by omega), n1, bindS', w1, if_neg c]
theorem impl_far (K : Nat) (L : List S48) (out cs : List Int) (low r b nx lo : Int) (i : Nat) (hi : i < L.length) (n1 : impl_narrowed.f r (L.getD i z48).f0 (L.getD i z48).f1 (L.getD i z48).f2 = some (b, nx))
    (w1 : wrap64 (low + b) = low + b) (c : low + b ≥ 16777216) (cc : impl_carry.f K out = some cs) (w2 : wrap64 (low + b - 16777216) = lo) :
    impl_encode.l0 (K + 1) out low r L (L.length : Int) (i : Int) = impl_encode.j1 K cs lo nx L (L.length : Int) (i : Int) := by
  rw [impl_encode.l0, rdT_nat]
  rw [if_pos (by omega), if_pos (by omega), if_pos (by omega), n1, bindS', w1, if_pos c, cc, bindS', w2]
theorem spec_j1 (K : Nat) (L : List S48) (out : List Int) (low r i : Int) : spec_l3Encode.j1 (K + 1) L out low r i = spec_l3Encode.l1 K L out low r i := by rw [spec_l3Encode.j1]
theorem impl_j1 (K : Nat) (L : List S48) (out : List Int) (low r n i : Int) : impl_encode.j1 (K + 1) out low r L n i = impl_encode.l1 K out low r L n i := by rw [impl_encode.j1]
theorem enc_both (L : List S48) (hL : ∀ i, i < L.length → SlotOk (L.getD i z48)) (hn : L.length ≤ 400) : ∀ (d i : Nat) (out : List Int) (low r : Int), i + d = L.length → Held out low r → 65536 ≤ r → out.length + 2 * d ≤ 1000 →
    ∃ ys, ys.length ≤ 1003 ∧ ∀ f1 f2 : Nat, 2000 + 5 * d ≤ f1 → 2000 + 5 * d ≤ f2 → spec_l3Encode.l0 f1 L out low r (i : Int) = some ys ∧ impl_encode.l0 f2 out low r L (L.length : Int) (i : Int) = some ys := by
  intro d
  induction d with
  | zero =>
    intro i out low r hi hH hr hl
    have h0 := hH.lo
    have e1 : (wrap64 (Int.tdiv low 65536)) % 256 = low / 65536 % 256 := by rw [tdiv_pos h0.1, w64 (by omega) (by omega)]
    have e2 : (Int.tmod (wrap64 (Int.tdiv low 256)) 256) % 256 = low / 256 % 256 := by rw [tdiv_pos h0.1, w64 (by omega) (by omega), tmod_pos (by omega)]; omega
    have e3 : (Int.tmod low 256) % 256 = low % 256 := by rw [tmod_pos h0.1]; omega
    have hlen : (out ++ [low / 65536 % 256, low / 256 % 256, low % 256]).length = out.length + 3 := by rw [List.length_append]; rfl
    obtain ⟨ys, y1, y2⟩ := trim_both _ (out ++ [low / 65536 % 256, low / 256 % 256, low % 256]) rfl (by omega)
    refine ⟨ys, by omega, fun f1 f2 g1 g2 => ?_⟩
    obtain ⟨f1, rfl⟩ : ∃ q, f1 = q + 1 := ⟨f1 - 1, by omega⟩
    obtain ⟨f2, rfl⟩ : ∃ q, f2 = q + 1 + 1 + 1 := ⟨f2 - 3, by omega⟩
    have y3 := y2 f1 f2 (by omega) (by omega)
    have y4 := trimRight_eq _ (by omega) f2 ys y3.2
    constructor
    · rw [spec_l3Encode.l0]
      rw [if_neg (by omega), Option.bind_some, if_pos (by simp only [List.length_cons, List.length_nil]; omega), e1, e2, e3]
      exact y3.1
    · rw [impl_encode.l0]
      rw [if_neg (by omega), Option.bind_some, if_pos (by simp only [List.length_cons, List.length_nil]; omega), y4, Option.bind_some, clone_eq ys (by omega), Option.bind_some]
  | succ d ih =>
    intro i out low r hi hH hr hl
    obtain ⟨b, nx, ⟨b0, b1, b2⟩, n1, n2, n3⟩ := narrow_both r (L.getD i z48) (hL i (by omega)) hr hH.r0
    have hk := hL i (by omega)
    have h0 := hH.lo
    have hr0 := hH.r0
    have hs := hH.sum
    have w1 : wrap64 (low + b) = low + b := w64 (by omega) (by omega)
    have ws : wrap64 ((i : Int) + 1) = ((i + 1 : Nat) : Int) := w64_succ i (by omega)
    have tz : ¬ (L.getD i z48).f2 = 0 := by have := hk.1; omega
    have t2 : thr 2 ≤ nx := b1
    by_cases c : low + b ≥ 16777216
    · obtain ⟨cs, ⟨c1, c2, c3⟩, c4⟩ := carry_both out hH.by' (by omega) (by generalize (256 : Int) ^ out.length = P at *; omega)
      have w2 : wrap64 (low + b - 16777216) = low + b - 16777216 := w64 (by omega) (by omega)
      have hH' : Held cs (low + b - 16777216) nx := ⟨c1, by omega, by omega, by rw [c2, c3]; generalize (256 : Int) ^ out.length = P at *; omega⟩
      obtain ⟨out', low', r', ⟨q1, q2, q3⟩, q4⟩ := shift_both L (L.length : Int) (i : Int) 2 cs _ _ t2 hH' (by omega)
      obtain ⟨ys, y1, y2⟩ := ih (i + 1) out' low' r' (by omega) q1 q2 (by omega)
      refine ⟨ys, y1, fun f1 f2 g1 g2 => ?_⟩
      obtain ⟨m1, m2, v1, v2, v3, v4⟩ := q4 (f1 - 5) (f2 - 5)
      have y3 := y2 m1 m2 (by omega) (by omega)
      obtain ⟨A1, hA1⟩ : ∃ A, f1 = A + 1 := ⟨f1 - 1, by omega⟩
      obtain ⟨B1, hB1⟩ : ∃ A, A1 = A + 1 := ⟨A1 - 1, by omega⟩
      obtain ⟨A2, hA2⟩ : ∃ A, f2 = A + 1 := ⟨f2 - 1, by omega⟩
      obtain ⟨B2, hB2⟩ : ∃ A, A2 = A + 1 := ⟨A2 - 1, by omega⟩
      have cc := c4 A2 A1 (by omega) (by omega)
      rw [show f1 - 5 + 2 + 1 = B1 by omega] at v3
      rw [show f2 - 5 + 2 + 1 = B2 by omega] at v4
      constructor
      · rw [hA1, spec_far A1 L out cs low r b nx _ i (by omega) tz n2 n3 w1 c cc.2 w2, hB1, spec_j1, v3, ws]; exact y3.1
      · rw [hA2, impl_far A2 L out cs low r b nx _ i (by omega) n1 w1 c cc.1 w2, hB2, impl_j1, v4, ws]; exact y3.2
    · have hH' : Held out (low + b) nx := ⟨hH.by', by omega, by omega, by omega⟩
      obtain ⟨out', low', r', ⟨q1, q2, q3⟩, q4⟩ := shift_both L (L.length : Int) (i : Int) 2 out _ _ t2 hH' (by omega)
      obtain ⟨ys, y1, y2⟩ := ih (i + 1) out' low' r' (by omega) q1 q2 (by omega)
      refine ⟨ys, y1, fun f1 f2 g1 g2 => ?_⟩
      obtain ⟨m1, m2, v1, v2, v3, v4⟩ := q4 (f1 - 5) (f2 - 5)
      have y3 := y2 m1 m2 (by omega) (by omega)
      obtain ⟨A1, hA1⟩ : ∃ A, f1 = A + 1 := ⟨f1 - 1, by omega⟩
      obtain ⟨B1, hB1⟩ : ∃ A, A1 = A + 1 := ⟨A1 - 1, by omega⟩
      obtain ⟨A2, hA2⟩ : ∃ A, f2 = A + 1 := ⟨f2 - 1, by omega⟩
      obtain ⟨B2, hB2⟩ : ∃ A, A2 = A + 1 := ⟨A2 - 1, by omega⟩
      rw [show f1 - 5 + 2 + 1 = B1 by omega] at v3
      rw [show f2 - 5 + 2 + 1 = B2 by omega] at v4
      constructor
      · rw [hA1, spec_near A1 L out low r b nx i (by omega) tz n2 n3 w1 c, hB1, spec_j1, v3, ws]; exact y3.1
      · rw [hA2, impl_near A2 L out low r b nx i (by omega) n1 w1 c, hB2, impl_j1, v4, ws]; exact y3.2
theorem encode_both (L : List S48) (hL : ∀ i, i < L.length → SlotOk (L.getD i z48)) (hn : L.length ≤ 400) :
    ∃ ys, ys.length ≤ 1003 ∧ ∀ f1 f2 : Nat, 4000 ≤ f1 → 4000 ≤ f2 → spec_l3Encode.f f1 L = some ys ∧ impl_encode.f f2 L = some ys := by
  obtain ⟨ys, y1, y2⟩ := enc_both L hL hn L.length 0 [] 0 16777216 (by omega) ⟨fun x hx => absurd hx (by simp), by omega, by omega, by simp [val]⟩ (by omega) (by simp only [List.length_nil]; omega)
  exact ⟨ys, y1, fun f1 f2 h1 h2 => y2 f1 f2 (by omega) (by omega)⟩

theorem fault_both (s : S48) : (SlotOk s ∧ spec_SlotFault.f s.f0 s.f1 s.f2 = some 0 ∧ impl_SlotFault.f s.f0 s.f1 s.f2 = some 0) ∨ (¬ SlotOk s ∧ spec_SlotFault.f s.f0 s.f1 s.f2 = some 3 ∧ impl_SlotFault.f s.f0 s.f1 s.f2 = some 3) := by
  unfold spec_SlotFault.f impl_SlotFault.f SlotOk
  simp only [l1In_eq, inRange_eq, codeIf_eq, Option.bind_some]
  by_cases t : 1 ≤ s.f2 ∧ s.f2 ≤ 1024
  · by_cases z : 1 ≤ s.f1 ∧ s.f1 ≤ s.f2
    · have w : wrap64 (s.f2 - s.f1) = s.f2 - s.f1 := w64 (by omega) (by omega)
      rw [w]
      by_cases l : 0 ≤ s.f0 ∧ s.f0 ≤ s.f2 - s.f1
      · exact .inl ⟨⟨t, z, l⟩, by simp [t, z, l], by simp [t, z, l]⟩
      · exact .inr ⟨fun q => l q.2.2, by simp [t, z, l], by simp [t, z, l]⟩
    · exact .inr ⟨fun q => z q.2.1, by simp [t, z], by simp [t, z]⟩
  · exact .inr ⟨fun q => t q.1, by simp [t], by simp [t]⟩
theorem slots_both (L : List S48) (hn : L.length ≤ 400) : ∀ (d i : Nat), i + d = L.length → (∀ j, j < i → SlotOk (L.getD j z48)) →
    (∃ c, (¬ c = 0 ∧ ¬ ∀ j, j < L.length → SlotOk (L.getD j z48)) ∧ ∀ f1 f2 : Nat, d < f1 → d < f2 → spec_l3Slots.l0 f1 L (i : Int) = some c ∧ impl_EncodeSlots.l0 f2 L L (L.length : Int) (i : Int) = some (c, [])) ∨
    ((∀ j, j < L.length → SlotOk (L.getD j z48)) ∧ ∀ f1 f2 : Nat, d < f1 → d < f2 → spec_l3Slots.l0 f1 L (i : Int) = some 0 ∧ ∃ g, f2 ≤ g + d + 1 ∧ impl_EncodeSlots.l0 f2 L L (L.length : Int) (i : Int) = (impl_encode.f g L).bind fun t => some (0, t)) := by
  intro d
  induction d with
  | zero =>
    intro i hi hj
    refine .inr ⟨fun j h => hj j (by omega), fun f1 f2 h1 h2 => ?_⟩
    obtain ⟨f1, rfl⟩ : ∃ q, f1 = q + 1 := ⟨f1 - 1, by omega⟩
    obtain ⟨f2, rfl⟩ : ∃ q, f2 = q + 1 := ⟨f2 - 1, by omega⟩
    refine ⟨?_, f2, by omega, ?_⟩
    · rw [spec_l3Slots.l0]; rw [if_neg (by omega)]
    · rw [impl_EncodeSlots.l0]; rw [if_neg (by omega)]
  | succ d ih =>
    intro i hi hj
    have ws : wrap64 ((i : Int) + 1) = ((i + 1 : Nat) : Int) := w64_succ i (by omega)
    rcases fault_both (L.getD i z48) with ⟨ok, s1, s2⟩ | ⟨s0, s1, s2⟩
    · have hj' : ∀ j, j < i + 1 → SlotOk (L.getD j z48) := fun j h => by
        by_cases e : j = i
        · subst e; exact ok
        · exact hj j (by omega)
      rcases ih (i + 1) (by omega) hj' with ⟨c, c0, q⟩ | ⟨a, q⟩
      · refine .inl ⟨c, c0, fun f1 f2 h1 h2 => ?_⟩
        obtain ⟨f1, rfl⟩ : ∃ q, f1 = q + 1 := ⟨f1 - 1, by omega⟩
        obtain ⟨f2, rfl⟩ : ∃ q, f2 = q + 1 := ⟨f2 - 1, by omega⟩
        have := q f1 f2 (by omega) (by omega)
        constructor
        · rw [spec_l3Slots.l0]
          simp only [rdT_nat]
          rw [if_pos (by omega), if_pos (by omega), s1, Option.bind_some, if_pos rfl, ws]; exact this.1
        · rw [impl_EncodeSlots.l0]
          simp only [rdT_nat]
          rw [if_pos (by omega), if_pos (by omega), if_pos (by omega), s2, Option.bind_some, if_pos rfl, ws]; exact this.2
      · refine .inr ⟨a, fun f1 f2 h1 h2 => ?_⟩
        obtain ⟨f1, rfl⟩ : ∃ q, f1 = q + 1 := ⟨f1 - 1, by omega⟩
        obtain ⟨f2, rfl⟩ : ∃ q, f2 = q + 1 := ⟨f2 - 1, by omega⟩
        obtain ⟨p1, g, p2, p3⟩ := q f1 f2 (by omega) (by omega)
        refine ⟨?_, g, by omega, ?_⟩
        · rw [spec_l3Slots.l0]
          simp only [rdT_nat]
          rw [if_pos (by omega), if_pos (by omega), s1, Option.bind_some, if_pos rfl, ws]; exact p1
        · rw [impl_EncodeSlots.l0]
          simp only [rdT_nat]
          rw [if_pos (by omega), if_pos (by omega), if_pos (by omega), s2, Option.bind_some, if_pos rfl, ws]; exact p3
    · refine .inl ⟨3, ⟨by decide, fun q => s0 (q i (by omega))⟩, fun f1 f2 h1 h2 => ?_⟩
      obtain ⟨f1, rfl⟩ : ∃ q, f1 = q + 1 := ⟨f1 - 1, by omega⟩
      obtain ⟨f2, rfl⟩ : ∃ q, f2 = q + 1 := ⟨f2 - 1, by omega⟩
      constructor
      · rw [spec_l3Slots.l0]
        simp only [rdT_nat]
        rw [if_pos (by omega), if_pos (by omega), s1, Option.bind_some, if_neg (by decide)]
      · rw [impl_EncodeSlots.l0]
        simp only [rdT_nat]
        rw [if_pos (by omega), if_pos (by omega), if_pos (by omega), s2, Option.bind_some, if_neg (by decide)]
/-- What both tell of a list of slots: its code, and where that is 0, its bytes. -/
theorem slots_told (L : List S48) :
    (∃ c, (¬ c = 0 ∧ ¬ (L.length ≤ 400 ∧ ∀ j, j < L.length → SlotOk (L.getD j z48))) ∧ ∀ f1 f2 : Nat, 5000 ≤ f1 → 5000 ≤ f2 → spec_l3Slots.f f1 L = some c ∧ impl_EncodeSlots.f f2 L = some (c, [])) ∨
    (∃ ys, ys.length ≤ 1003 ∧ ∀ f1 f2 : Nat, 5000 ≤ f1 → 5000 ≤ f2 → spec_l3Slots.f f1 L = some 0 ∧ spec_l3Encode.f f1 L = some ys ∧ impl_EncodeSlots.f f2 L = some (0, ys)) := by
  by_cases h : (L.length : Int) > 400
  · refine .inl ⟨2, ⟨by decide, fun q => by have := q.1; omega⟩, fun f1 f2 _ _ => ?_⟩
    unfold spec_l3Slots.f impl_EncodeSlots.f
    rw [if_pos h, if_pos h]
    exact ⟨rfl, rfl⟩
  · have e1 : ∀ f, spec_l3Slots.f f L = spec_l3Slots.l0 f L ((0 : Nat) : Int) := fun f => by unfold spec_l3Slots.f; rw [if_neg h]; rfl
    have e2 : ∀ f, impl_EncodeSlots.f f L = impl_EncodeSlots.l0 f L L (L.length : Int) ((0 : Nat) : Int) := fun f => by unfold impl_EncodeSlots.f; rw [if_neg h]; rfl
    rcases slots_both L (by omega) L.length 0 (by omega) (fun j hj => absurd hj (by omega)) with ⟨c, c0, q⟩ | ⟨a, q⟩
    · refine .inl ⟨c, ⟨c0.1, fun q => c0.2 q.2⟩, fun f1 f2 h1 h2 => ?_⟩
      rw [e1, e2]; exact q f1 f2 (by omega) (by omega)
    · obtain ⟨ys, y1, y2⟩ := encode_both L a (by omega)
      refine .inr ⟨ys, y1, fun f1 f2 h1 h2 => ?_⟩
      obtain ⟨p1, g, p2, p3⟩ := q f1 f2 (by omega) (by omega)
      have y3 := y2 f1 g (by omega) (by omega)
      rw [e1, e2, p3, y3.2, Option.bind_some]
      exact ⟨p1, y3.1, rfl⟩

-- PLUS: lists bytes marks slots enc encS
theorem toSlotS_l0 (xs : List S50) (hn : xs.length ≤ 1000000000000000000) : ∀ (d i : Nat) (ys : List S48), i + d = xs.length → ys.length = xs.length →
    ∃ L, L.length = xs.length ∧ ∀ k : Nat, d < k → laws_toSlotS.l0 k xs ys (i : Int) = some L := by
  intro d
  induction d with
  | zero =>
    intro i ys hi hl
    refine ⟨ys, hl, fun k hk => ?_⟩
    obtain ⟨k, rfl⟩ : ∃ q, k = q + 1 := ⟨k - 1, by omega⟩
    rw [laws_toSlotS.l0]; rw [if_neg (by omega)]
  | succ d ih =>
    intro i ys hi hl
    obtain ⟨L, h1, h2⟩ := ih (i + 1) (ys.set i ⟨(rd_T50 xs (i : Int)).f0, (rd_T50 xs (i : Int)).f1, (rd_T50 xs (i : Int)).f2⟩) (by omega) (by rw [List.length_set]; exact hl)
    refine ⟨L, h1, fun k hk => ?_⟩
    obtain ⟨k, rfl⟩ : ∃ q, k = q + 1 := ⟨k - 1, by omega⟩
    rw [laws_toSlotS.l0]
    rw [if_pos (by omega), if_pos (by omega), laws_toSlot.f, Option.bind_some]
    simp only [Int.toNat_natCast]
    rw [if_pos (by omega), w64_succ i (by omega)]
    exact h2 k (by omega)
theorem toSlotS_some (xs : List S50) (hn : xs.length ≤ 1048576) : ∃ L, L.length = xs.length ∧ ∀ k : Nat, xs.length < k → laws_toSlotS.f k xs = some L := by
  obtain ⟨L, h1, h2⟩ := toSlotS_l0 xs (by omega) xs.length 0 (List.replicate xs.length z48) (by omega) (by rw [List.length_replicate])
  refine ⟨L, h1, fun k hk => ?_⟩
  unfold laws_toSlotS.f
  rw [if_pos (by omega), Int.toNat_natCast, if_pos (by omega)]
  exact h2 k hk
theorem costOf_both (L : List S48) : ∃ c v, ∀ f1 f2 : Nat, 5000 ≤ f1 → 5000 ≤ f2 → spec_CostOf.f f1 L = some (c, v) ∧ impl_CostOf.f f2 L = some (c, v) := by
  rcases slots_told L with ⟨c, c0, q⟩ | ⟨ys, y0, q⟩
  · refine ⟨c, 0, fun f1 f2 h1 h2 => ?_⟩
    have := q f1 f2 h1 h2
    unfold spec_CostOf.f impl_CostOf.f
    rw [this.1, Option.bind_some, if_neg c0.1, this.2, Option.bind_some]
    exact ⟨rfl, rfl⟩
  · refine ⟨0, (ys.length : Int), fun f1 f2 h1 h2 => ?_⟩
    have := q f1 f2 h1 h2
    unfold spec_CostOf.f impl_CostOf.f
    rw [this.1, Option.bind_some, if_pos rfl, this.2.1, Option.bind_some, this.2.2, Option.bind_some]
    exact ⟨rfl, rfl⟩
theorem FnExactCostOf (l0 : List S50) (hl : l0.length ≤ 9223372036854775807) : ∃ k, laws_FnExactCostOf.f k l0 = some true := by
  unfold laws_FnExactCostOf.f
  by_cases hb : l0.length ≤ 1048576
  · obtain ⟨L, L1, L2⟩ := toSlotS_some l0 hb
    obtain ⟨c, v, y2⟩ := costOf_both L
    obtain ⟨K, hK⟩ : ∃ K, K = l0.length + 6000 := ⟨_, rfl⟩
    have hs : laws_szSlotS.f l0 1048576 = some (1048576 - (l0.length : Int)) := by
      unfold laws_szSlotS.f; rw [w64 (by omega) (by omega), if_neg (by omega)]
    have t1 := L2 K (by omega)
    have b1 := y2 K K (by omega) (by omega)
    have q1 : laws_eqIntResult.f c v c v = some true := by unfold laws_eqIntResult.f; rw [if_pos rfl, if_pos rfl]
    have s1 := eqSlotS_refl L (by omega) K (by omega)
    refine ⟨K, ?_⟩
    rw [hs, Option.bind_some, if_neg (by omega)]
    simp only [t1, b1.1, b1.2, q1, s1, Option.bind_some, if_true]
  · refine ⟨0, ?_⟩
    have hs : laws_szSlotS.f l0 1048576 = some (-1) := by
      unfold laws_szSlotS.f; rw [w64 (by omega) (by omega), if_pos (by omega)]
    rw [hs, Option.bind_some, if_pos (by decide)]

end Go.Proofs.YtgfmmoomekjkbaaDoor.Pure
