/-
  Seals: OpenBytes opens what SealBytes sealed, and what it opens is what was sealed, for every code.
-/
import Derived.Test.YtkhcojfpmojleaaPFnSealsx
namespace Go.Proofs.Ytkhcojfpmojleaa.Pure
open Go.RowKit Go.Proofs.Ytkhcojfpmojleaa.PFnSeals Go.Proofs.YtkhcojfpmojleaaW.PrintWords Go.Proofs.YtkhcojfpmojleaaW.PrintLast Go.Proofs.YtkhcojfpmojleaaW.PrintMore
set_option linter.unusedVariables false
set_option linter.unusedSimpArgs false

theorem w64 {x : Int} (h1 : -9223372036854775808 ≤ x) (h2 : x ≤ 9223372036854775807) : wrap64 x = x := by
  unfold wrap64; omega
theorem tdiv_pos {a : Int} (h : 0 ≤ a) (b : Int) : Int.tdiv a b = a / b := Int.tdiv_eq_ediv_of_nonneg h
theorem tmod_pos {a : Int} (h : 0 ≤ a) (b : Int) : Int.tmod a b = a % b := Int.tmod_eq_emod_of_nonneg h
theorem tdiv_neg {a : Int} (h : a ≤ 0) (b : Int) : Int.tdiv a b = -((-a) / b) := by
  have := Int.neg_tdiv (-a) b
  rw [Int.neg_neg] at this
  rw [this, tdiv_pos (by omega)]
theorem tmod_neg {a : Int} (h : a ≤ 0) (b : Int) : Int.tmod a b = -((-a) % b) := by
  have := Int.neg_tmod (-a) b
  rw [Int.neg_neg] at this
  rw [this, tmod_pos (by omega)]
theorem div_unique {x b q r : Int} (hb : 0 < b) (h : r + b * q = x) (h0 : 0 ≤ r) (h1 : r < b) : x / b = q :=
  ((Int.ediv_emod_unique hb).2 ⟨h, h0, h1⟩).1
theorem div_parts (x b : Int) : b * (x / b) + x % b = x := Int.mul_ediv_add_emod x b
theorem neg_div {a b : Int} (hb : 0 < b) : (-a) / b = if a % b = 0 then -(a / b) else -(a / b) - 1 := by
  have h := div_parts a b
  have h0 := Int.emod_nonneg a (Int.ne_of_gt hb)
  have h1 := Int.emod_lt_of_pos a hb
  split
  · exact div_unique (r := 0) hb (by rw [Int.mul_neg]; omega) (by omega) (by omega)
  · exact div_unique (r := b - a % b) hb (by rw [Int.mul_sub, Int.mul_neg]; omega) (by omega) (by omega)
theorem ceil_div {a b : Int} (hb : 0 < b) : (a + b - 1) / b = -((-a) / b) := by
  have h := div_parts (-a) b
  have h0 := Int.emod_nonneg (-a) (Int.ne_of_gt hb)
  have h1 := Int.emod_lt_of_pos (-a) hb
  exact div_unique (r := b - 1 - (-a) % b) hb (by rw [Int.mul_neg]; omega) (by omega) (by omega)
theorem div_bd {a b : Int} (ha : 0 ≤ a) (hb : 0 < b) : 0 ≤ a / b ∧ a / b ≤ a :=
  ⟨Int.ediv_nonneg ha (by omega), Int.ediv_le_self b ha⟩
theorem floor_tdiv {x b : Int} (hb : 0 < b) : (if Int.tmod x b < 0 then Int.tdiv x b - 1 else Int.tdiv x b) = x / b := by
  by_cases h : 0 ≤ x
  · have h0 := Int.emod_nonneg x (Int.ne_of_gt hb)
    rw [tmod_pos h, tdiv_pos h, if_neg (by omega)]
  · rw [tmod_neg (by omega), tdiv_neg (by omega)]
    have h0 := Int.emod_nonneg (-x) (Int.ne_of_gt hb)
    have e := neg_div (a := -x) hb
    rw [Int.neg_neg] at e
    rw [e]
    by_cases hz : (-x) % b = 0
    · rw [if_pos hz, if_neg (by omega)]
    · rw [if_neg hz, if_pos (by omega)]
theorem floor_bd {x b : Int} (hb : 0 < b) : (0 ≤ x → 0 ≤ x / b ∧ x / b ≤ x) ∧ (x < 0 → x ≤ x / b ∧ x / b < 0) := by
  refine ⟨fun h => div_bd h hb, fun h => ?_⟩
  have e := neg_div (a := -x) hb
  rw [Int.neg_neg] at e
  have d := div_bd (a := -x) (by omega) hb
  have p := div_parts (-x) b
  have h0 := Int.emod_nonneg (-x) (Int.ne_of_gt hb)
  rw [e]
  split
  · next hz =>
    rw [hz] at p
    have : (-x) / b ≠ 0 := fun e0 => by rw [e0, Int.mul_zero] at p; omega
    omega
  · next hz =>
    have : (-x) / b < -x := by
      rcases Int.lt_or_eq_of_le d.2 with h2 | h2
      · exact h2
      · exfalso
        rw [h2] at p
        have hb1 : b ≠ 1 := fun e1 => by subst e1; omega
        have : 2 * (-x) ≤ b * (-x) := Int.mul_le_mul_of_nonneg_right (by omega) (by omega)
        omega
    omega

theorem inRange_eq (a b c : Int) : impl_inRange.f a b c = some (decide (b ≤ a ∧ a ≤ c)) := by
  unfold impl_inRange.f; by_cases h : b ≤ a <;> simp [h]

theorem rd_nat (xs : List Int) (i : Nat) : rd xs (i : Int) = xs.getD i 0 := by unfold rd; rw [Int.toNat_natCast]
theorem rd_get (xs : List Int) (i : Nat) (h : i < xs.length) : rd xs (i : Int) = xs[i] := by
  rw [rd_nat, List.getD_eq_getElem?_getD, List.getElem?_eq_getElem h]; rfl
theorem w64_succ (i : Nat) (h : i ≤ 4000000000000000000) : wrap64 ((i : Int) + 1) = ((i + 1 : Nat) : Int) := by
  rw [w64 (by omega) (by omega)]; omega
theorem nat_nonneg (i : Nat) : 0 ≤ (i : Int) := Int.natCast_nonneg i
theorem set_get_take {xs ys : List Int} {i : Nat} (hl : ys.length = xs.length) (ht : ys.take i = xs.take i) (hi : i < xs.length) :
    (ys.set i (rd xs (i : Int))).take (i + 1) = xs.take (i + 1) := by
  rw [rd_get xs i hi]
  apply List.ext_getElem?
  intro n
  by_cases hn : n < i + 1
  · rw [List.getElem?_take_of_lt hn, List.getElem?_take_of_lt hn]
    by_cases e : n = i
    · subst e
      rw [List.getElem?_set_self (by omega), List.getElem?_eq_getElem hi]
    · rw [List.getElem?_set_ne (by omega)]
      have := congrArg (fun l => l[n]?) ht
      simp only [List.getElem?_take_of_lt (show n < i by omega)] at this
      exact this
  · rw [List.getElem?_take_eq_none (by omega), List.getElem?_take_eq_none (by omega)]

theorem u8_of_wf {x : Int} (h : (Lit.int .u8 x).wf = true) : 0 ≤ x ∧ x < 256 := by
  have := h
  simp [Lit.wf, IntKind.min, IntKind.max, IntKind.bits, IntKind.signed] at this
  omega
def Bytes (xs : List Int) : Prop := ∀ x ∈ xs, 0 ≤ x ∧ x < 256
theorem Bytes.rd {xs : List Int} (h : Bytes xs) (i : Nat) : 0 ≤ rd xs (i : Int) ∧ rd xs (i : Int) < 256 := by
  rw [rd_nat, List.getD_eq_getElem?_getD]
  by_cases hi : i < xs.length
  · rw [List.getElem?_eq_getElem hi]; exact h _ (List.getElem_mem hi)
  · rw [List.getElem?_eq_none (by omega)]; exact ⟨by simp, by simp⟩

theorem rd_bd {c : List Int} (hc : Bytes c) (i : Int) : 0 ≤ rd c i ∧ rd c i ≤ 255 := by
  unfold rd
  rw [List.getD_eq_getElem?_getD]
  by_cases h : i.toNat < c.length
  · rw [List.getElem?_eq_getElem h]
    have := hc _ (List.getElem_mem h)
    simp only [Option.getD_some]
    omega
  · rw [List.getElem?_eq_none (by omega)]
    simp
theorem tmod_bd {a : Int} (h : 0 ≤ a) {b : Int} (hb : 0 < b) : 0 ≤ Int.tmod a b ∧ Int.tmod a b < b := by
  rw [tmod_pos h]
  exact ⟨Int.emod_nonneg _ (by omega), Int.emod_lt_of_pos _ hb⟩
theorem l1Next_ok {c : List Int} (hc : Bytes c) (at' n : Int) (h0 : 0 ≤ at') (h1 : at' ≤ 1073741824) :
    ∃ v, spec_l1Next.f c at' n = some (v, at' + 1) ∧ (1 ≤ n → 0 ≤ v ∧ v < n) ∧ (n < 1 → v = 0) := by
  have e1 : wrap64 (at' + 1) = at' + 1 := w64 (by omega) (by omega)
  have e2 : at' + 1 - 1 = at' := by omega
  have e3 : wrap64 at' = at' := w64 (by omega) (by omega)
  have e4 : wrap64 (at' + 2) = at' + 2 := w64 (by omega) (by omega)
  unfold spec_l1Next.f
  simp only [e1, e2, e3, e4]
  by_cases hn1 : n < 1
  · rw [if_pos hn1]
    exact ⟨0, rfl, fun h => by omega, fun _ => rfl⟩
  · rw [if_neg hn1]
    by_cases hl : (c.length : Int) = 0
    · rw [if_pos hl, if_neg (by omega), w64 (x := at' * 7) (by omega) (by omega)]
      exact ⟨_, rfl, fun _ => tmod_bd (by omega) (by omega), fun h => absurd h hn1⟩
    · rw [if_neg hl]
      have hL : 0 < (c.length : Int) := by omega
      have q0 := tmod_bd h0 hL
      have q1 := tmod_bd (show 0 ≤ at' + 1 by omega) hL
      have q2 := tmod_bd (show 0 ≤ at' + 2 by omega) hL
      have hd := div_bd h0 hL
      rw [← tdiv_pos h0] at hd
      have r0 := rd_bd hc (Int.tmod at' c.length)
      have r1 := rd_bd hc (Int.tmod (at' + 1) c.length)
      have r2 := rd_bd hc (Int.tmod (at' + 2) c.length)
      rw [if_pos q0.1, if_pos q0.2, if_pos q1.1, if_pos q1.2, if_pos q2.1, if_pos q2.2]
      generalize rd c (Int.tmod at' c.length) = R0 at r0 ⊢
      generalize rd c (Int.tmod (at' + 1) c.length) = R1 at r1 ⊢
      generalize rd c (Int.tmod (at' + 2) c.length) = R2 at r2 ⊢
      generalize Int.tdiv at' c.length = D at hd ⊢
      simp (disch := omega) only [w64]
      simp only [if_neg (show ¬ n = 0 by omega)]
      by_cases g1 : n > 200
      · by_cases g2 : n > 60000
        · simp only [if_pos g1, if_pos g2]
          exact ⟨_, rfl, fun _ => tmod_bd (by omega) (by omega), fun h => absurd h hn1⟩
        · simp only [if_pos g1, if_neg g2]
          exact ⟨_, rfl, fun _ => tmod_bd (by omega) (by omega), fun h => absurd h hn1⟩
      · by_cases g2 : n > 60000
        · omega
        · simp only [if_neg g1, if_neg g2]
          exact ⟨_, rfl, fun _ => tmod_bd (by omega) (by omega), fun h => absurd h hn1⟩

theorem l1Pick_ok {c : List Int} (hc : Bytes c) (at' : Int) (xs : List Int) (h0 : 0 ≤ at') (h1 : at' ≤ 1073741824) (hx : 1 ≤ xs.length) :
    ∃ v, spec_l1Pick.f c at' xs = some (v, at' + 1) ∧ v ∈ xs := by
  obtain ⟨v, e, hv, _⟩ := l1Next_ok hc at' (xs.length : Int) h0 h1
  have hv := hv (by omega)
  refine ⟨rd xs v, ?_, ?_⟩
  · unfold spec_l1Pick.f
    rw [e]
    simp only [Option.bind_some]
    rw [if_pos hv.1, if_pos hv.2]
  · unfold rd
    rw [List.getD_eq_getElem?_getD, List.getElem?_eq_getElem (show v.toNat < xs.length by omega)]
    exact List.getElem_mem _

theorem and1_i64 (x : Int) (h0 : 0 ≤ x) (h1 : x < 4611686018427387904) : Go.bits .and .i64 x 1 = x % 2 :=
  bits_mask .i64 62 (by decide) (fun n h0 h1 => by rw [IntKind.wrap_i64]; omega) 1 (by decide) x h0 h1
theorem and1_u8 (x : Int) (h0 : 0 ≤ x) (h1 : x < 256) : Go.bits .and .u8 x 1 = x % 2 :=
  bits_mask .u8 8 (by decide) wraps_u8 1 (by decide) x h0 h1
theorem and16_i64 (x : Int) (h0 : 0 ≤ x) (h1 : x < 4611686018427387904) : Go.bits .and .i64 x 65535 = x % 65536 :=
  bits_mask .i64 62 (by decide) (fun n h0 h1 => by rw [IntKind.wrap_i64]; omega) 16 (by decide) x h0 h1
theorem xor_i64 (a b : Nat) (ha : a < 65536) (hb : b < 65536) : Go.bits .xor .i64 (a : Int) (b : Int) = ((a ^^^ b : Nat) : Int) := by
  have h : a ^^^ b < 65536 := Nat.xor_lt_two_pow (n := 16) ha hb
  have ha' : a % 2 ^ 64 = a := by omega
  have hb' : b % 2 ^ 64 = b := by omega
  have e : IntKind.i64.bits = 64 := rfl
  simp only [Go.bits, BitVec.ofInt_natCast, BitVec.toNat_xor, BitVec.toNat_ofNat, e, ha', hb']
  rw [IntKind.wrap_i64]; omega
def cstep (s b : Nat) : Nat := if s / 32768 = b then s * 2 % 65536 else (s * 2 % 65536) ^^^ 4129
theorem cstep_lt (s b : Nat) : cstep s b < 65536 := by
  unfold cstep
  split
  · omega
  · exact Nat.xor_lt_two_pow (n := 16) (by omega) (by omega)
def cbits (s b : Nat) : Nat → Nat
  | 0 => s
  | j + 1 => cbits (cstep s (b / 2 ^ j % 2)) b j
theorem cbits_lt (b : Nat) : ∀ j s, s < 65536 → cbits s b j < 65536 := by
  intro j
  induction j with
  | zero => intro s h; exact h
  | succ j ih => intro s _; exact ih _ (cstep_lt _ _)
def ccrc (s : Nat) : List Int → Nat
  | [] => s
  | x :: xs => ccrc (cbits s x.toNat 8) xs
theorem ccrc_lt : ∀ (xs : List Int) s, s < 65536 → ccrc s xs < 65536 := by
  intro xs
  induction xs with
  | nil => intro s h; exact h
  | cons x xs ih => intro s h; exact ih _ (cbits_lt _ _ _ h)
theorem ccrc_append : ∀ (xs ys : List Int) s, ccrc s (xs ++ ys) = ccrc (ccrc s xs) ys := by
  intro xs
  induction xs with
  | nil => intro ys s; rfl
  | cons x xs ih => intro ys s; exact ih ys _

theorem impl_crc_l1 (xs : List Int) (i : Nat) (b : Nat) (hb : b < 256) : ∀ (j s k : Nat) (r : Int), j ≤ 8 → s < 65536 →
    impl_crcOf.l0 k ((cbits s b j : Nat) : Int) xs (xs.length : Int) (wrap64 ((i : Int) + 1)) = some r → impl_crcOf.l1 (k + j + 1) (s : Int) (b : Int) ((j : Int) - 1) xs (xs.length : Int) (i : Int) = some r := by
  intro j
  induction j with
  | zero =>
    intro s k r _ hs h
    simp only [impl_crcOf.l1, Nat.add_zero]
    rw [if_neg (by omega)]
    exact h
  | succ j ih =>
    intro s k r hj hs h
    have hsh : shr .u8 (b : Int) ((j : Int)) = ((b / 2 ^ j : Nat) : Int) := by
      unfold shr
      rw [Int.toNat_natCast, show min j IntKind.u8.bits = j from Nat.min_eq_left (by show j ≤ 8; omega)]
      simp
    have hlt : b / 2 ^ j < 256 := Nat.lt_of_le_of_lt (Nat.div_le_self _ _) hb
    obtain ⟨q, hq⟩ : ∃ q, q = b / 2 ^ j := ⟨_, rfl⟩
    rw [← hq] at hsh hlt
    have h' : ∀ t : Nat, t = cstep s (q % 2) → cbits t b j = cbits s b (j + 1) := fun t ht => by rw [ht, hq]; rfl
    obtain ⟨K, hK⟩ : ∃ K, K = k + j + 1 := ⟨_, rfl⟩
    have e1 : ((j + 1 : Nat) : Int) - 1 = (j : Int) := by omega
    have hstep : ∀ t : Nat, t = cstep s (q % 2) → impl_crcOf.l1 K (t : Int) (b : Int) (wrap64 ((j : Int) - 1)) xs (xs.length : Int) (i : Int) = some r := by
      intro t ht
      rw [w64 (by omega) (by omega), hK]
      refine ih t k r (by omega) (by rw [ht]; exact cstep_lt _ _) ?_
      rw [h' t ht]; exact h
    rw [e1, show k + (j + 1) + 1 = K + 1 by omega]
    simp only [impl_crcOf.l1]
    rw [if_pos (by omega), if_pos (by omega), hsh, and1_u8 _ (by omega) (by omega), w64 (x := (q : Int) % 2) (by omega) (by omega), w64 (x := (s : Int) * 2) (by omega) (by omega), and16_i64 _ (by omega) (by omega)]
    have e2 : (s : Int) * 2 % 65536 = ((s * 2 % 65536 : Nat) : Int) := by omega
    rw [e2, show (4129 : Int) = ((4129 : Nat) : Int) from rfl, xor_i64 _ _ (by omega) (by omega)]
    by_cases hc : s / 32768 = q % 2
    · rw [if_pos (by omega)]
      exact hstep _ (by unfold cstep; rw [if_pos hc])
    · rw [if_neg (by omega)]
      exact hstep _ (by unfold cstep; rw [if_neg hc])
theorem impl_crc_l0 (xs : List Int) (hx : Bytes xs) (hn : xs.length ≤ 1000000000000000) : ∀ (d i s k : Nat), i + d = xs.length → 10 * d < k → s < 65536 →
    impl_crcOf.l0 k (s : Int) xs (xs.length : Int) (i : Int) = some ((ccrc s (xs.drop i) : Nat) : Int) := by
  intro d
  induction d with
  | zero =>
    intro i s k hi hk hs
    obtain ⟨k, rfl⟩ : ∃ m, k = m + 1 := ⟨k - 1, by omega⟩
    simp only [impl_crcOf.l0]
    rw [if_neg (by omega), List.drop_of_length_le (by omega)]; rfl
  | succ d ih =>
    intro i s k hi hk hs
    obtain ⟨k, rfl⟩ : ∃ m, k = (m + 8 + 1) + 1 := ⟨k - 10, by omega⟩
    have hb := hx.rd i
    obtain ⟨b, hb2⟩ : ∃ b : Nat, rd xs (i : Int) = (b : Int) := ⟨(rd xs (i : Int)).toNat, by omega⟩
    have hd : xs.drop i = rd xs (i : Int) :: xs.drop (i + 1) := by
      rw [rd_get xs i (by omega)]; exact List.drop_eq_getElem_cons (by omega)
    simp only [impl_crcOf.l0]
    rw [if_pos (by omega), if_pos (by omega), if_pos (by omega), hb2]
    refine impl_crc_l1 xs i b (by omega) 8 s k _ (by omega) hs ?_
    rw [w64_succ _ (by omega), ih (i + 1) (cbits s b 8) k (by omega) (by omega) (cbits_lt _ _ _ hs), hd, hb2]
    rfl
theorem impl_crcOf_eq (xs : List Int) (hx : Bytes xs) (hn : xs.length ≤ 1000000000000000) (k : Nat) (hk : 10 * xs.length < k) : impl_crcOf.f k xs = some ((ccrc 65535 xs : Nat) : Int) :=
  impl_crc_l0 xs hx hn xs.length 0 65535 k (by omega) hk (by omega)

theorem spec_crc_l1 (xs : List Int) (hx : Bytes xs) (i : Nat) (hi : i < xs.length) (b : Nat) (hb2 : rd xs (i : Int) = (b : Int)) : ∀ (j s k : Nat) (r : Int), j ≤ 8 → s < 65536 →
    spec_l2Crc.l0 k xs ((cbits s b j : Nat) : Int) (wrap64 ((i : Int) + 1)) = some r → spec_l2Crc.l1 (k + j + 1) xs (s : Int) (i : Int) ((j : Int) - 1) = some r := by
  have hb : b < 256 := by have := hx.rd i; omega
  intro j
  induction j with
  | zero =>
    intro s k r _ hs h
    simp only [spec_l2Crc.l1, Nat.add_zero]
    rw [if_neg (by omega)]
    exact h
  | succ j ih =>
    intro s k r hj hs h
    have hu : IntKind.u64.wrap ((j : Int)) = (j : Int) := by simp [IntKind.wrap, IntKind.bits, IntKind.signed]; omega
    have hsh : shr .i64 (b : Int) ((j : Int)) = ((b / 2 ^ j : Nat) : Int) := by
      unfold shr
      rw [Int.toNat_natCast, show min j IntKind.i64.bits = j from Nat.min_eq_left (by show j ≤ 64; omega)]
      simp
    have hlt : b / 2 ^ j < 256 := Nat.lt_of_le_of_lt (Nat.div_le_self _ _) hb
    obtain ⟨q, hq⟩ : ∃ q, q = b / 2 ^ j := ⟨_, rfl⟩
    rw [← hq] at hsh hlt
    have h' : ∀ t : Nat, t = cstep s (q % 2) → cbits t b j = cbits s b (j + 1) := fun t ht => by rw [ht, hq]; rfl
    obtain ⟨K, hK⟩ : ∃ K, K = k + j + 1 := ⟨_, rfl⟩
    have e1 : ((j + 1 : Nat) : Int) - 1 = (j : Int) := by omega
    have hstep : ∀ t : Nat, t = cstep s (q % 2) → spec_l2Crc.l1 K xs (t : Int) (i : Int) (wrap64 ((j : Int) - 1)) = some r := by
      intro t ht
      rw [w64 (by omega) (by omega), hK]
      refine ih t k r (by omega) (by rw [ht]; exact cstep_lt _ _) ?_
      rw [h' t ht]; exact h
    rw [e1, show k + (j + 1) + 1 = K + 1 by omega]
    simp only [spec_l2Crc.l1]
    rw [hu, hb2, if_pos (by omega), if_pos (by omega), if_pos (by omega), if_pos (by omega), w64 (x := (b : Int)) (by omega) (by omega), hsh, and1_i64 _ (by omega) (by omega), and1_i64 _ (by omega) (by omega), w64 (x := (s : Int) * 2) (by omega) (by omega), tmod_pos (by omega)]
    have e2 : (s : Int) * 2 % 65536 = ((s * 2 % 65536 : Nat) : Int) := by omega
    rw [e2, show (4129 : Int) = ((4129 : Nat) : Int) from rfl, xor_i64 _ _ (by omega) (by omega)]
    by_cases hc : s / 32768 = q % 2
    · rw [if_pos (by omega)]
      exact hstep _ (by unfold cstep; rw [if_pos hc])
    · rw [if_neg (by omega)]
      exact hstep _ (by unfold cstep; rw [if_neg hc])
theorem spec_crc_l0 (xs : List Int) (hx : Bytes xs) (hn : xs.length ≤ 1000000000000000) : ∀ (d i s k : Nat), i + d = xs.length → 10 * d < k → s < 65536 →
    spec_l2Crc.l0 k xs (s : Int) (i : Int) = some ((ccrc s (xs.drop i) : Nat) : Int) := by
  intro d
  induction d with
  | zero =>
    intro i s k hi hk hs
    obtain ⟨k, rfl⟩ : ∃ m, k = m + 1 := ⟨k - 1, by omega⟩
    simp only [spec_l2Crc.l0]
    rw [if_neg (by omega), List.drop_of_length_le (by omega)]; rfl
  | succ d ih =>
    intro i s k hi hk hs
    obtain ⟨k, rfl⟩ : ∃ m, k = (m + 8 + 1) + 1 := ⟨k - 10, by omega⟩
    have hb := hx.rd i
    obtain ⟨b, hb2⟩ : ∃ b : Nat, rd xs (i : Int) = (b : Int) := ⟨(rd xs (i : Int)).toNat, by omega⟩
    have hd : xs.drop i = rd xs (i : Int) :: xs.drop (i + 1) := by
      rw [rd_get xs i (by omega)]; exact List.drop_eq_getElem_cons (by omega)
    simp only [spec_l2Crc.l0]
    rw [if_pos (by omega)]
    refine spec_crc_l1 xs hx i (by omega) b hb2 8 s k _ (by omega) hs ?_
    rw [w64_succ _ (by omega), ih (i + 1) (cbits s b 8) k (by omega) (by omega) (cbits_lt _ _ _ hs), hd, hb2]
    rfl
theorem spec_crc_eq (xs : List Int) (hx : Bytes xs) (hn : xs.length ≤ 1000000000000000) (k : Nat) (hk : 10 * xs.length < k) : spec_l2Crc.f k xs = some ((ccrc 65535 xs : Nat) : Int) :=
  spec_crc_l0 xs hx hn xs.length 0 65535 k (by omega) hk (by omega)

theorem concat2_eq (xs ys : List Int) (h : xs.length + ys.length < 100000000) (K : Nat) : slices_Concat_byte_byte.f (K + 1 + 1 + 1 + 1 + 1 + 1) [xs, ys] = some (xs ++ ys) := by
  have s0 : wrap64 (0 + 1) = 1 := by unfold wrap64; decide
  have s1 : wrap64 (1 + 1) = 2 := by unfold wrap64; decide
  have r0 : rd_L2 [xs, ys] 0 = xs := rfl
  have r1 : rd_L2 [xs, ys] 1 = ys := rfl
  have l2 : (([xs, ys] : List (List Int)).length : Int) = 2 := rfl
  unfold slices_Concat_byte_byte.f
  rw [slices_Concat_byte_byte.l0, l2, if_pos (by omega), if_pos (by omega), if_pos (by omega), r0, w64 (x := 0 + (xs.length : Int)) (by omega) (by omega), if_neg (by omega), s0]
  rw [slices_Concat_byte_byte.l0, l2, if_pos (by omega), if_pos (by omega), if_pos (by omega), r1, w64 (x := 0 + (xs.length : Int) + (ys.length : Int)) (by omega) (by omega), if_neg (by omega), s1]
  rw [slices_Concat_byte_byte.l0, if_neg (by omega)]
  unfold slices_Grow_byte_byte.f
  rw [if_pos (by omega)]
  simp only [Option.bind_some]
  rw [slices_Concat_byte_byte.l1, l2, if_pos (by omega), if_pos (by omega), if_pos (by omega), r0, if_pos (by simp; omega), s0]
  rw [slices_Concat_byte_byte.l1, l2, if_pos (by omega), if_pos (by omega), if_pos (by omega), r1, if_pos (by simp; omega), s1]
  rw [slices_Concat_byte_byte.l1, if_neg (by omega)]
  rfl

theorem l1Copy_eq (xs : List Int) (h : xs.length < 140737488355328) : spec_l1Copy.f xs = some xs := by
  unfold spec_l1Copy.f
  simp only [Option.bind_some]
  rw [if_pos (by simp; omega)]
  rfl

def sealB (xs : List Int) : List Int := xs ++ [((ccrc 65535 xs / 256 : Nat) : Int), ((ccrc 65535 xs % 256 : Nat) : Int)]
theorem sealB_length (xs : List Int) : (sealB xs).length = xs.length + 2 := by unfold sealB; simp
theorem l2Seal_eq (xs : List Int) (hx : Bytes xs) (hn : xs.length ≤ 1000000) (k : Nat) (hk : 10 * xs.length < k) : spec_l2Seal.f k xs = some (sealB xs) := by
  have hc := ccrc_lt xs 65535 (by omega)
  unfold spec_l2Seal.f
  rw [spec_crc_eq xs hx (by omega) k hk]
  simp only [Option.bind_some]
  rw [l1Copy_eq xs (by omega)]
  simp only [Option.bind_some]
  rw [if_pos (by simp; omega), tdiv_pos (by omega), tmod_pos (by omega), w64 (by omega) (by omega)]
  unfold sealB
  have e1 : ((ccrc 65535 xs : Nat) : Int) / 256 % 256 = ((ccrc 65535 xs / 256 : Nat) : Int) := by omega
  have e2 : ((ccrc 65535 xs : Nat) : Int) % 256 % 256 = ((ccrc 65535 xs % 256 : Nat) : Int) := by omega
  rw [e1, e2]

def sealF (xs : List Int) : Int × List Int := if (xs.length : Int) > 158 then (2, []) else (0, sealB xs)
theorem spec_SealBytes_eq (xs : List Int) (hx : Bytes xs) (k : Nat) (hk : 1600 < k) : spec_SealBytes.f k xs = some (sealF xs) := by
  unfold spec_SealBytes.f sealF
  by_cases h : (xs.length : Int) > 158
  · rw [if_pos h, if_pos h]
  · rw [if_neg h, if_neg h, l2Seal_eq xs hx (by omega) k (by omega)]; rfl

theorem impl_SealBytes_eq (xs : List Int) (hx : Bytes xs) (k : Nat) (hk : 1600 < k) : impl_SealBytes.f k xs = some (sealF xs) := by
  unfold impl_SealBytes.f sealF
  by_cases h : (xs.length : Int) > 158
  · rw [if_pos h, if_pos h]
  · have hc := ccrc_lt xs 65535 (by omega)
    rw [if_neg h, if_neg h, impl_crcOf_eq xs hx (by omega) k (by omega)]
    simp only [Option.bind_some]
    unfold impl_twoBytes.f
    simp only [Option.bind_some]
    obtain ⟨q, rfl⟩ : ∃ q, k = q + 1 + 1 + 1 + 1 + 1 + 1 := ⟨k - 6, by omega⟩
    rw [concat2_eq _ _ (by simp; omega) q]
    simp only [Option.bind_some]
    unfold sealB
    have e1 : ((ccrc 65535 xs : Nat) : Int) / 256 % 256 = ((ccrc 65535 xs / 256 : Nat) : Int) := by omega
    have e2 : ((ccrc 65535 xs : Nat) : Int) % 256 = ((ccrc 65535 xs % 256 : Nat) : Int) := by omega
    rw [e1, e2]

def tz (e : Nat) : Nat := cstep e 0
def tzs : Nat → Nat → Nat
  | 0, e => e
  | n + 1, e => tzs n (tz e)
theorem tz_lt (e : Nat) : tz e < 65536 := cstep_lt _ _
theorem tzs_lt : ∀ n e, e < 65536 → tzs n e < 65536 := by
  intro n
  induction n with
  | zero => intro e h; exact h
  | succ n ih => intro e _; exact ih _ (tz_lt e)
theorem tzs_add : ∀ m n e, tzs (n + m) e = tzs n (tzs m e) := by
  intro m
  induction m with
  | zero => intro n e; rfl
  | succ m ih => intro n e; exact ih n (tz e)
theorem dbl_xor (s e : Nat) : (s ^^^ e) * 2 % 65536 = (s * 2 % 65536) ^^^ (e * 2 % 65536) := by
  have h := Nat.xor_mod_two_pow (a := s * 2) (b := e * 2) (n := 16)
  have h2 : (s ^^^ e) * 2 = (s * 2) ^^^ (e * 2) := by
    have := Nat.shiftLeft_xor_distrib (a := s) (b := e) (i := 1)
    simp only [Nat.shiftLeft_eq] at this
    exact this
  rw [h2]; exact h
theorem top_xor (s e : Nat) : (s ^^^ e) / 32768 = (s / 32768) ^^^ (e / 32768) := Nat.xor_div_two_pow (n := 15)
theorem cstep_xor (s e b : Nat) (hs : s < 65536) (he : e < 65536) (hb : b < 2) : cstep (s ^^^ e) b = cstep s b ^^^ tz e := by
  unfold tz cstep
  rw [dbl_xor, top_xor]
  have h1 : s / 32768 = 0 ∨ s / 32768 = 1 := by omega
  have h2 : e / 32768 = 0 ∨ e / 32768 = 1 := by omega
  have h3 : b = 0 ∨ b = 1 := by omega
  generalize s * 2 % 65536 = S
  generalize e * 2 % 65536 = E
  rcases h1 with h1 | h1 <;> rcases h2 with h2 | h2 <;> rcases h3 with rfl | rfl <;> rw [h1, h2] <;> simp [Nat.xor_assoc] <;> first | done | (rw [Nat.xor_comm 4129 (E ^^^ 4129), Nat.xor_assoc, Nat.xor_self, Nat.xor_zero]) | (rw [Nat.xor_comm 4129 E])
theorem cbits_xor (b : Nat) : ∀ j s e, s < 65536 → e < 65536 → cbits (s ^^^ e) b j = cbits s b j ^^^ tzs j e := by
  intro j
  induction j with
  | zero => intro s e _ _; rfl
  | succ j ih =>
    intro s e hs he
    show cbits (cstep (s ^^^ e) (b / 2 ^ j % 2)) b j = _
    rw [cstep_xor s e _ hs he (Nat.mod_lt _ (by omega)), ih _ _ (cstep_lt _ _) (tz_lt e)]
    rfl
theorem ccrc_xor : ∀ (xs : List Int) s e, s < 65536 → e < 65536 → ccrc (s ^^^ e) xs = ccrc s xs ^^^ tzs (8 * xs.length) e := by
  intro xs
  induction xs with
  | nil => intro s e _ _; rfl
  | cons x xs ih =>
    intro s e hs he
    show ccrc (cbits (s ^^^ e) x.toNat 8) xs = ccrc (cbits s x.toNat 8) xs ^^^ _
    rw [cbits_xor _ 8 s e hs he, ih _ _ (cbits_lt _ _ _ hs) (tzs_lt _ _ he), ← tzs_add, List.length_cons]
    rw [show 8 * xs.length + 8 = 8 * (xs.length + 1) by omega]
theorem tz_zero : tz 0 = 0 := by decide
theorem tzs_zero : ∀ n, tzs n 0 = 0 := by
  intro n
  induction n with
  | zero => rfl
  | succ n ih => show tzs n (tz 0) = 0; rw [tz_zero]; exact ih
theorem xor_odd (s : Nat) (h : s % 2 = 0) : s ^^^ 4129 ≠ 0 := by
  intro e
  have := Nat.xor_mod_two_pow (a := s) (b := 4129) (n := 1)
  rw [e, Nat.pow_one, h] at this
  exact absurd this (by decide)
theorem tz_ne {e : Nat} (he : e < 65536) (h : e ≠ 0) : tz e ≠ 0 := by
  unfold tz cstep
  split
  · omega
  · exact xor_odd _ (by omega)
theorem tzs_ne : ∀ n e, e < 65536 → e ≠ 0 → tzs n e ≠ 0 := by
  intro n
  induction n with
  | zero => intro e _ h; exact h
  | succ n ih => intro e he h; exact ih _ (tz_lt e) (tz_ne he h)
theorem tzs_xor : ∀ n a b, a < 65536 → b < 65536 → tzs n (a ^^^ b) = tzs n a ^^^ tzs n b := by
  intro n
  induction n with
  | zero => intro a b _ _; rfl
  | succ n ih =>
    intro a b ha hb
    show tzs n (cstep (a ^^^ b) 0) = _
    rw [cstep_xor a b 0 ha hb (by omega)]
    exact ih _ _ (cstep_lt _ _) (tz_lt b)
theorem tzs_pow : ∀ i : Fin 16, tzs i.val (2 ^ (15 - i.val)) = 32768 := by decide
theorem cbits_low (i : Nat) (b : Nat) : ∀ j s, j ≤ i → cbits s (b ^^^ 2 ^ i) j = cbits s b j := by
  intro j
  induction j with
  | zero => intro s _; rfl
  | succ j ih =>
    intro s hj
    show cbits (cstep s ((b ^^^ 2 ^ i) / 2 ^ j % 2)) _ j = cbits (cstep s (b / 2 ^ j % 2)) b j
    have e : (b ^^^ 2 ^ i) / 2 ^ j % 2 = b / 2 ^ j % 2 := by
      have h1 := Nat.testBit_xor b (2 ^ i) j
      rw [Nat.testBit_two_pow] at h1
      rw [decide_eq_false (by omega), Bool.xor_false] at h1
      simp only [Nat.testBit_eq_decide_div_mod_eq] at h1
      have h2 := Nat.mod_lt ((b ^^^ 2 ^ i) / 2 ^ j) (show 0 < 2 by omega)
      have h3 := Nat.mod_lt (b / 2 ^ j) (show 0 < 2 by omega)
      have h4 := decide_eq_decide.1 h1
      omega
    rw [e]
    exact ih _ (by omega)
theorem cstep_flip (s b c : Nat) (hb : b < 2) (hc : c < 2) (h : b ≠ c) (hs : s < 65536) : cstep s b = cstep s c ^^^ tz 32768 := by
  have e : tz 32768 = 4129 := by decide
  rw [e]
  unfold cstep
  have h1 : s / 32768 = b ∨ s / 32768 = c := by omega
  rcases h1 with h1 | h1
  · rw [if_pos h1, if_neg (by omega), Nat.xor_assoc, Nat.xor_self, Nat.xor_zero]
  · rw [if_neg (by omega), if_pos h1]
theorem cbits_flip (i b : Nat) : ∀ j s, i < j → s < 65536 → cbits s (b ^^^ 2 ^ i) j = cbits s b j ^^^ tzs (i + 1) 32768 := by
  intro j
  induction j with
  | zero => intro s h; omega
  | succ j ih =>
    intro s hi hs
    show cbits (cstep s ((b ^^^ 2 ^ i) / 2 ^ j % 2)) _ j = cbits (cstep s (b / 2 ^ j % 2)) b j ^^^ _
    have h1 := Nat.testBit_xor b (2 ^ i) j
    rw [Nat.testBit_two_pow] at h1
    simp only [Nat.testBit_eq_decide_div_mod_eq] at h1
    have h2 := Nat.mod_lt ((b ^^^ 2 ^ i) / 2 ^ j) (show 0 < 2 by omega)
    have h3 := Nat.mod_lt (b / 2 ^ j) (show 0 < 2 by omega)
    by_cases e : i = j
    · subst e
      rw [decide_eq_true rfl, Bool.xor_true] at h1
      have hne : (b ^^^ 2 ^ i) / 2 ^ i % 2 ≠ b / 2 ^ i % 2 := fun h4 => by
        rw [h4] at h1
        cases hd : decide (b / 2 ^ i % 2 = 1) <;> simp [hd] at h1
      rw [cstep_flip s _ _ h2 h3 hne hs, cbits_low i b i _ (Nat.le_refl _), cbits_xor _ _ _ _ (cstep_lt _ _) (tz_lt _)]
      rfl
    · rw [decide_eq_false e, Bool.xor_false] at h1
      have h4 := decide_eq_decide.1 h1
      rw [show (b ^^^ 2 ^ i) / 2 ^ j % 2 = b / 2 ^ j % 2 by omega]
      exact ih _ (by omega) (cstep_lt _ _)
theorem cbits_byte (s b : Nat) (hs : s < 65536) (hb : b < 256) : cbits s b 8 = tzs 8 (s ^^^ b * 256) := by
  have h : ∀ b : Fin 256, cbits 0 b.val 8 = tzs 8 (b.val * 256) := by decide +kernel
  have h0 := h ⟨b, hb⟩
  have h1 := cbits_xor b 8 0 s (by omega) hs
  rw [Nat.zero_xor] at h1
  rw [h1, h0, tzs_xor 8 s (b * 256) hs (by omega), Nat.xor_comm]
theorem byte_up (b : Nat) (hb : b < 256) : tzs 8 b = b * 256 := by
  have h : ∀ b : Fin 256, tzs 8 b.val = b.val * 256 := by decide +kernel
  exact h ⟨b, hb⟩
theorem halves_xor (c : Nat) : (c / 256 * 256) ^^^ (c % 256) = c := by
  have h1 : ((c / 256 * 256) ^^^ (c % 256)) / 2 ^ 8 = c / 2 ^ 8 := by
    rw [Nat.xor_div_two_pow, show c / 256 * 256 / 2 ^ 8 = c / 2 ^ 8 by omega, show c % 256 / 2 ^ 8 = 0 by omega, Nat.xor_zero]
  have h2 : ((c / 256 * 256) ^^^ (c % 256)) % 2 ^ 8 = c % 2 ^ 8 := by
    rw [Nat.xor_mod_two_pow, show c / 256 * 256 % 2 ^ 8 = 0 by omega, show c % 256 % 2 ^ 8 = c % 2 ^ 8 by omega, Nat.zero_xor]
  omega
theorem ccrc_tail (c : Nat) (hc : c < 65536) : ccrc c [((c / 256 : Nat) : Int), ((c % 256 : Nat) : Int)] = 0 := by
  show cbits (cbits c (((c / 256 : Nat) : Int)).toNat 8) (((c % 256 : Nat) : Int)).toNat 8 = 0
  rw [Int.toNat_natCast, Int.toNat_natCast, cbits_byte c _ hc (by omega), cbits_byte _ _ (tzs_lt _ _ (Nat.xor_lt_two_pow (n := 16) hc (by omega))) (by omega), ← byte_up (c % 256) (by omega), ← tzs_xor 8 _ _ (Nat.xor_lt_two_pow (n := 16) hc (by omega)) (by omega), Nat.xor_assoc, halves_xor, Nat.xor_self, tzs_zero, tzs_zero]

theorem toList_loop (b : ByteArray) : ∀ (d i : Nat) (r : List UInt8), i + d = b.size → ByteArray.toList.loop b i r = r.reverse ++ b.data.toList.drop i := by
  intro d
  induction d with
  | zero =>
    intro i r h
    rw [ByteArray.toList.loop, if_neg (by omega), List.drop_of_length_le (by rw [Array.length_toList]; show b.size ≤ i; omega), List.append_nil]
  | succ d ih =>
    intro i r h
    have hi : i < b.data.toList.length := by rw [Array.length_toList]; show i < b.size; omega
    have hi' : i < b.data.size := by show i < b.size; omega
    rw [ByteArray.toList.loop, if_pos (by omega), ih (i + 1) _ (by omega), List.drop_eq_getElem_cons hi, List.reverse_cons, List.append_assoc]
    have : b.get! i = b.data.toList[i] := by
      rw [Array.getElem_toList]
      show b.data[i]! = b.data[i]
      exact getElem!_pos b.data i hi'
    rw [this]; rfl
theorem toList_data (b : ByteArray) : b.toList = b.data.toList := by
  have h := toList_loop b b.size 0 [] (by omega)
  rw [List.reverse_nil, List.nil_append, List.drop_zero] at h
  exact h
theorem bytes_inj : ∀ xs ys : List Int, Bytes xs → Bytes ys → (xs.map fun n => UInt8.ofNat n.toNat) = (ys.map fun n => UInt8.ofNat n.toNat) → xs = ys := by
  intro xs
  induction xs with
  | nil =>
    intro ys _ _ h
    cases ys with
    | nil => rfl
    | cons y ys => simp at h
  | cons x xs ih =>
    intro ys hx hy h
    cases ys with
    | nil => simp at h
    | cons y ys =>
      rw [List.map_cons, List.map_cons] at h
      injection h with h1 h2
      have e := ih ys (fun z hz => hx z (List.mem_cons_of_mem _ hz)) (fun z hz => hy z (List.mem_cons_of_mem _ hz)) h2
      have h3 := congrArg UInt8.toNat h1
      rw [UInt8.toNat_ofNat', UInt8.toNat_ofNat'] at h3
      have a := hx x (List.mem_cons_self ..)
      have b := hy y (List.mem_cons_self ..)
      rw [e, show x = y by omega]
theorem str_eq {xs ys : List Int} (hx : Bytes xs) (hy : Bytes ys) : ((strOfNums xs).toList == (strOfNums ys).toList) = decide (xs = ys) := by
  by_cases h : xs = ys
  · subst h; simp
  · rw [decide_eq_false h]
    apply beq_false_of_ne
    intro e
    rw [toList_data, toList_data] at e
    exact h (bytes_inj xs ys hx hy e)

theorem open_eq (zs : List Int) (n : Nat) (hz : Bytes zs) (hn : zs.length = n + 2) (h1 : n ≤ 158) (k : Nat) (hk : 1700 < k) :
    impl_OpenBytes.f k zs = some (if zs.drop n = [((ccrc 65535 (zs.take n) / 256 : Nat) : Int), ((ccrc 65535 (zs.take n) % 256 : Nat) : Int)] then (0, zs.take n) else (10, [])) := by
  have hw : wrap64 ((zs.length : Int) - 2) = (n : Int) := by rw [w64 (by omega) (by omega)]; omega
  have hb : Bytes (zs.take n) := fun x hx => hz x (List.mem_of_mem_take hx)
  have hd : Bytes (zs.drop n) := fun x hx => hz x (List.mem_of_mem_drop hx)
  have hc := ccrc_lt (zs.take n) 65535 (by omega)
  have htl : (zs.take n).length = n := by rw [List.length_take]; omega
  unfold impl_OpenBytes.f
  rw [inRange_eq, hw]
  simp only [Option.bind_some]
  rw [decide_eq_true (by omega), if_pos rfl, if_pos (by omega), if_pos (by omega), Int.toNat_natCast, impl_crcOf_eq _ hb (by omega) k (by omega)]
  simp only [Option.bind_some]
  unfold impl_twoBytes.f
  simp only [Option.bind_some]
  have e1 : ((ccrc 65535 (zs.take n) : Nat) : Int) / 256 % 256 = ((ccrc 65535 (zs.take n) / 256 : Nat) : Int) := by omega
  have e2 : ((ccrc 65535 (zs.take n) : Nat) : Int) % 256 = ((ccrc 65535 (zs.take n) % 256 : Nat) : Int) := by omega
  rw [e1, e2]
  generalize ccrc 65535 (zs.take n) = C at hc ⊢
  have h2 : Bytes [((C / 256 : Nat) : Int), ((C % 256 : Nat) : Int)] := by
    intro x hx
    rcases List.mem_cons.1 hx with rfl | hx
    · omega
    · rcases List.mem_cons.1 hx with rfl | hx
      · omega
      · simp at hx
  unfold bytes_Equal.f slices_Clone_byte_byte.f
  simp only [Option.bind_some]
  rw [str_eq hd h2]
  by_cases h : zs.drop n = [((C / 256 : Nat) : Int), ((C % 256 : Nat) : Int)]
  · rw [decide_eq_true h, if_pos rfl, if_pos h, if_pos (by omega)]; rfl
  · rw [decide_eq_false h, if_neg (by decide), if_neg h]
theorem sealB_bytes {xs : List Int} (hx : Bytes xs) : Bytes (sealB xs) := by
  have hc := ccrc_lt xs 65535 (by omega)
  intro x h
  unfold sealB at h
  rcases List.mem_append.1 h with h | h
  · exact hx x h
  · rcases List.mem_cons.1 h with rfl | h
    · omega
    · rcases List.mem_cons.1 h with rfl | h
      · omega
      · simp at h
theorem sealB_zero (xs : List Int) : ccrc 65535 (sealB xs) = 0 := by
  unfold sealB
  rw [ccrc_append]
  exact ccrc_tail _ (ccrc_lt xs 65535 (by omega))
theorem open_seal (xs : List Int) (hx : Bytes xs) (hn : xs.length ≤ 158) (k : Nat) (hk : 1700 < k) : impl_OpenBytes.f k (sealB xs) = some (0, xs) := by
  rw [open_eq (sealB xs) xs.length (sealB_bytes hx) (sealB_length xs) hn k hk]
  have h1 : (sealB xs).take xs.length = xs := by unfold sealB; rw [List.take_left']; rfl
  have h2 : (sealB xs).drop xs.length = [((ccrc 65535 xs / 256 : Nat) : Int), ((ccrc 65535 xs % 256 : Nat) : Int)] := by unfold sealB; rw [List.drop_left']; rfl
  rw [h1, h2, if_pos rfl]
theorem open_bad (zs : List Int) (n : Nat) (hz : Bytes zs) (hn : zs.length = n + 2) (h1 : n ≤ 158) (h : ccrc 65535 zs ≠ 0) (k : Nat) (hk : 1700 < k) : impl_OpenBytes.f k zs = some (10, []) := by
  rw [open_eq zs n hz hn h1 k hk, if_neg]
  intro e
  apply h
  have e2 : zs = zs.take n ++ zs.drop n := (List.take_append_drop n zs).symm
  rw [e2, ccrc_append, e]
  exact ccrc_tail _ (ccrc_lt _ 65535 (by omega))

def crc2 (xs : List Int) : List Int := [((ccrc 65535 xs / 256 : Nat) : Int), ((ccrc 65535 xs % 256 : Nat) : Int)]
def openF (zs : List Int) : Int × List Int := if 2 ≤ zs.length ∧ zs.length ≤ 160 then (if zs.drop (zs.length - 2) = crc2 (zs.take (zs.length - 2)) then (0, zs.take (zs.length - 2)) else (10, [])) else (2, [])
theorem seal_take (zs : List Int) (n : Nat) : sealB (zs.take n) = zs ↔ zs.drop n = crc2 (zs.take n) := by
  unfold sealB crc2
  constructor
  · intro h
    have e := List.take_append_drop n zs
    have h2 := h.trans e.symm
    exact (List.append_cancel_left h2).symm
  · intro h
    rw [← h]; exact List.take_append_drop n zs
theorem impl_OpenBytes_eq (zs : List Int) (hz : Bytes zs) (k : Nat) (hk : 1700 < k) : impl_OpenBytes.f k zs = some (openF zs) := by
  unfold openF
  by_cases h : 2 ≤ zs.length ∧ zs.length ≤ 160
  · rw [if_pos h, open_eq zs (zs.length - 2) hz (by omega) (by omega) k hk]; rfl
  · rw [if_neg h]
    unfold impl_OpenBytes.f
    rw [inRange_eq, decide_eq_false (by omega)]
    rfl
theorem spec_OpenBytes_eq (zs : List Int) (hz : Bytes zs) (k : Nat) (hk : 1700 < k) : spec_OpenBytes.f (k + 1) zs = some (openF zs) := by
  unfold spec_OpenBytes.f openF
  by_cases h : 2 ≤ zs.length ∧ zs.length ≤ 160
  · have hb : Bytes (zs.take (zs.length - 2)) := fun x hx => hz x (List.mem_of_mem_take hx)
    have hl : (zs.take (zs.length - 2)).length = zs.length - 2 := by rw [List.length_take]; omega
    rw [if_neg (by omega), decide_eq_false (by omega), if_pos h]
    simp only [spec_OpenBytes.j0]
    have hw : wrap64 ((zs.length : Int) - 2) = ((zs.length - 2 : Nat) : Int) := by rw [w64 (by omega) (by omega)]; omega
    rw [if_neg (by decide), hw, if_pos (by omega), if_pos (by omega), Int.toNat_natCast, l2Seal_eq _ hb (by omega) k (by omega)]
    simp only [Option.bind_some]
    have hs := str_eq (sealB_bytes hb) hz
    by_cases g : zs.drop (zs.length - 2) = crc2 (zs.take (zs.length - 2))
    · have e := (seal_take zs (zs.length - 2)).2 g
      rw [if_pos g, if_pos (by rw [e]), l1Copy_eq _ (by omega)]
      rfl
    · have e : ¬ sealB (zs.take (zs.length - 2)) = zs := fun q => g ((seal_take zs (zs.length - 2)).1 q)
      rw [decide_eq_false e] at hs
      rw [if_neg g, if_neg (fun q => by rw [beq_iff_eq.2 q] at hs; exact absurd hs (by decide))]
  · rw [if_neg h]
    by_cases g : (zs.length : Int) < 2
    · rw [if_pos g]
      simp only [spec_OpenBytes.j0]
      rw [if_pos trivial]
    · rw [if_neg g, decide_eq_true (by omega)]
      simp only [spec_OpenBytes.j0]
      rw [if_pos trivial]
theorem openF_len (zs : List Int) : (openF zs).2.length ≤ 160 := by
  unfold openF
  by_cases h : 2 ≤ zs.length ∧ zs.length ≤ 160
  · rw [if_pos h]
    split
    · simp only; rw [List.length_take]; omega
    · simp
  · rw [if_neg h]; simp

theorem l1Some_l0 {c : List Int} (hc : Bytes c) : ∀ (d : Nat) (at' : Int) (xs : List Int) (k : Nat), d < k → 0 ≤ at' → at' + d ≤ 1073741824 → xs.length + d ≤ 1000000 → Bytes xs →
    ∃ ys, spec_l1Some.l0 k (d : Int) xs c at' = some (ys, at' + d) ∧ Bytes ys ∧ ys.length = xs.length + d := by
  intro d
  induction d with
  | zero =>
    intro at' xs k hk h0 h1 hl hb
    obtain ⟨k, rfl⟩ : ∃ q, k = q + 1 := ⟨k - 1, by omega⟩
    refine ⟨xs, ?_, hb, rfl⟩
    simp only [spec_l1Some.l0]
    rw [if_neg (by omega)]
    simp
  | succ d ih =>
    intro at' xs k hk h0 h1 hl hb
    obtain ⟨k, rfl⟩ : ∃ q, k = q + 1 := ⟨k - 1, by omega⟩
    obtain ⟨v, e, hv, _⟩ := l1Next_ok hc at' 256 h0 (by omega)
    have hv := hv (by omega)
    have hb' : Bytes (xs ++ [v % 256]) := by
      intro x hx
      rcases List.mem_append.1 hx with hx | hx
      · exact hb x hx
      · rw [List.mem_singleton] at hx; omega
    obtain ⟨ys, h2, h3, h4⟩ := ih (at' + 1) (xs ++ [v % 256]) k (by omega) (by omega) (by omega) (by simp; omega) hb'
    refine ⟨ys, ?_, h3, by rw [h4]; simp; omega⟩
    simp only [spec_l1Some.l0]
    rw [if_pos (by omega), e]
    simp only [Option.bind_some]
    rw [if_pos (by omega), w64 (by omega) (by omega), show ((d + 1 : Nat) : Int) - 1 = (d : Int) by omega, h2]
    rw [show at' + 1 + (d : Int) = at' + ((d + 1 : Nat) : Int) by omega]
theorem l1Some_ok {c : List Int} (hc : Bytes c) (n : Nat) (at' : Int) (k : Nat) (hk : n < k) (h0 : 0 ≤ at') (h1 : at' + n ≤ 1073741824) (hn : n ≤ 1000000) :
    ∃ ys, spec_l1Some.f k c at' (n : Int) = some (ys, at' + n) ∧ Bytes ys ∧ ys.length = n := by
  obtain ⟨ys, h1, h2, h3⟩ := l1Some_l0 hc n at' [] k hk h0 h1 (by simp; omega) (fun x hx => by simp at hx)
  exact ⟨ys, h1, h2, by rw [h3]; simp⟩

-- PLUS: lists bytes crc crclin strs
theorem bindS {α β : Type} (a : α) (f : α → Option β) : (some a).bind f = f a := by
  have h : ∀ o, o = some a → o.bind f = f a := fun o ho => by subst ho; rfl
  exact h _ rfl
theorem neg_cast' (n : Nat) : ¬ ((n : Int) < 0) := by omega
theorem xor_u8_bd (a b : Int) : 0 ≤ Go.bits .xor .u8 a b ∧ Go.bits .xor .u8 a b ≤ 255 := by
  unfold Go.bits
  simp only [IntKind.wrap_u8]
  omega
theorem drawSeal_ok {c : List Int} (hc : Bytes c) (k : Nat) (hk : 200 < k) : ∃ xs, spec_DrawSealBytes.f k c = some xs ∧ Bytes xs ∧ xs.length ≤ 159 := by
  obtain ⟨v, e1, hv⟩ := l1Pick_ok hc 0 [0, 1, 2, 9, 20, 158, 159] (by omega) (by omega) (by simp)
  have h : 0 ≤ v ∧ v ≤ 159 := by
    simp only [List.mem_cons, List.not_mem_nil, or_false] at hv
    omega
  clear hv
  obtain ⟨n, rfl⟩ := Int.eq_ofNat_of_zero_le h.1
  obtain ⟨xs, e2, hx, hl⟩ := l1Some_ok hc n (0 + 1) k (by omega) (by omega) (by omega) (by omega)
  refine ⟨xs, ?_, hx, by omega⟩
  unfold spec_DrawSealBytes.f spec_l1Source.f
  simp only [bindS, e1, e2]
theorem drawOpen_ok {c : List Int} (hc : Bytes c) (k : Nat) (hk : 3000 < k) : ∃ xs, spec_DrawOpenBytes.f k c = some xs ∧ Bytes xs ∧ xs.length ≤ 200 := by
  obtain ⟨v, e1, hv⟩ := l1Pick_ok hc 0 [0, 1, 2, 9, 20, 158, 161] (by omega) (by omega) (by simp)
  have h : 0 ≤ v ∧ v ≤ 161 := by
    simp only [List.mem_cons, List.not_mem_nil, or_false] at hv
    omega
  clear hv
  obtain ⟨n, rfl⟩ := Int.eq_ofNat_of_zero_le h.1
  obtain ⟨xs, e2, hx, hl⟩ := l1Some_ok hc n (0 + 1) k (by omega) (by omega) (by omega) (by omega)
  obtain ⟨v3, e3, _⟩ := l1Next_ok hc (0 + 1 + (n : Int)) 5 (by omega) (by omega)
  obtain ⟨v4, e4, _⟩ := l1Next_ok hc (0 + 1 + (n : Int) + 1) 3 (by omega) (by omega)
  have e5 := l2Seal_eq xs hx (by omega) k (by omega)
  have hsb := sealB_bytes hx
  have hsl := sealB_length xs
  obtain ⟨v6, e6, h6, _⟩ := l1Next_ok hc (0 + 1 + (n : Int) + 1 + 1) ((sealB xs).length : Int) (by omega) (by omega)
  have h6 := h6 (by omega)
  obtain ⟨v7, e7, _⟩ := l1Next_ok hc (0 + 1 + (n : Int) + 1 + 1 + 1) 256 (by omega) (by omega)
  unfold spec_DrawOpenBytes.f spec_l1Source.f spec_l1Chance.f
  simp only [bindS, e1, e2, e3, e4, e5, e6, e7]
  by_cases g : (v3 == 0) = true
  · rw [if_pos g]; exact ⟨xs, rfl, hx, by omega⟩
  · rw [if_neg g]
    by_cases g2 : (v4 == 0) = true
    · rw [if_pos g2, if_pos h6.1, if_pos h6.2]
      refine ⟨_, rfl, ?_, by rw [List.length_set]; omega⟩
      intro x hx'
      rcases List.mem_or_eq_of_mem_set hx' with q | q
      · exact hsb x q
      · have := xor_u8_bd (rd (sealB xs) v6) (v7 % 256); omega
    · rw [if_neg g2]; exact ⟨_, rfl, hsb, by omega⟩
theorem lwBytes_refl (xs : List Int) : laws_lwBytes.f xs xs = some true := by unfold laws_lwBytes.f; simp
theorem seals_j1 (xs : List Int) (hx : Bytes xs) (hl : xs.length ≤ 159) (k : Nat) (hk : 3000 < k) : laws_FnSeals.j1 (k + 1) xs false (sealF xs).1 (sealF xs).2 = some true := by
  simp only [laws_FnSeals.j1]
  rw [if_neg (by decide)]
  unfold sealF
  by_cases h : (xs.length : Int) > 158
  · rw [if_pos h]; simp only; rw [if_neg (by decide)]
  · rw [if_neg h]
    simp only
    have hc := ccrc_lt xs 65535 (by omega)
    have hsl := sealB_length xs
    have r1 : rd (sealB xs) (xs.length : Int) = ((ccrc 65535 xs / 256 : Nat) : Int) := by
      rw [rd_nat, List.getD_eq_getElem?_getD]; unfold sealB; rw [List.getElem?_append_right (Nat.le_refl _), Nat.sub_self]; rfl
    have r2 : rd (sealB xs) ((xs.length + 1 : Nat) : Int) = ((ccrc 65535 xs % 256 : Nat) : Int) := by
      rw [rd_nat, List.getD_eq_getElem?_getD]; unfold sealB; rw [List.getElem?_append_right (by omega), show xs.length + 1 - xs.length = 1 by omega]; rfl
    have ec : impl_CrcOf.f k xs = some (0, ((ccrc 65535 xs : Nat) : Int)) := by
      unfold impl_CrcOf.f
      rw [if_neg (by omega), impl_crcOf_eq xs hx (by omega) k (by omega)]; rfl
    rw [if_pos trivial, ec, open_seal xs hx (by omega) k (by omega)]
    simp only [bindS, lwBytes_refl]
    rw [if_pos trivial, if_pos trivial, w64 (x := (xs.length : Int) + 2) (by omega) (by omega), w64_succ _ (by omega), if_pos (by omega), if_pos trivial, if_pos (by omega), if_pos (by omega), if_pos (by omega), if_pos (by omega), r1, r2]
    have e1 : wrap64 ((ccrc 65535 xs / 256 : Nat) : Int) = ((ccrc 65535 xs / 256 : Nat) : Int) := w64 (by omega) (by omega)
    have e2 : wrap64 ((ccrc 65535 xs % 256 : Nat) : Int) = ((ccrc 65535 xs % 256 : Nat) : Int) := w64 (by omega) (by omega)
    have e3 : wrap64 (((ccrc 65535 xs / 256 : Nat) : Int) * 256) = ((ccrc 65535 xs / 256 : Nat) : Int) * 256 := w64 (by omega) (by omega)
    have e4 : wrap64 (((ccrc 65535 xs / 256 : Nat) : Int) * 256 + ((ccrc 65535 xs % 256 : Nat) : Int)) = ((ccrc 65535 xs : Nat) : Int) := by
      rw [w64 (by omega) (by omega)]; omega
    rw [e1, e2, e3, e4]
    simp
theorem seals_j0 (xs zs : List Int) (hx : Bytes xs) (hl : xs.length ≤ 159) (hz : Bytes zs) (k : Nat) (hk : 3000 < k) : laws_FnSeals.j0 (k + 1 + 1) xs zs false (sealF xs).1 (sealF xs).2 (openF zs).1 (openF zs).2 = some true := by
  have hj := seals_j1 xs hx hl k hk
  rw [laws_FnSeals.j0, if_neg (by decide)]
  by_cases h : (openF zs).1 = 0
  · rw [if_pos h]
    have hv : (2 ≤ zs.length ∧ zs.length ≤ 160) ∧ zs.drop (zs.length - 2) = crc2 (zs.take (zs.length - 2)) ∧ openF zs = (0, zs.take (zs.length - 2)) := by
      unfold openF at h ⊢
      by_cases g : 2 ≤ zs.length ∧ zs.length ≤ 160
      · rw [if_pos g] at h ⊢
        by_cases e : zs.drop (zs.length - 2) = crc2 (zs.take (zs.length - 2))
        · rw [if_pos e]; exact ⟨g, e, rfl⟩
        · rw [if_neg e] at h; simp at h
      · rw [if_neg g] at h; simp at h
    obtain ⟨hn, hd, e⟩ := hv
    have hb : Bytes (zs.take (zs.length - 2)) := fun x hx => hz x (List.mem_of_mem_take hx)
    have hlt : (zs.take (zs.length - 2)).length ≤ 158 := by rw [List.length_take]; omega
    rw [e]
    simp only
    rw [impl_SealBytes_eq _ hb (k + 1) (by omega)]
    simp only [bindS]
    have es : sealF (zs.take (zs.length - 2)) = (0, zs) := by
      unfold sealF
      rw [if_neg (by omega), (seal_take zs (zs.length - 2)).2 hd]
    rw [es]
    simp only [lwBytes_refl, bindS, Bool.not_true]
    exact hj
  · rw [if_neg h]; exact hj
theorem FnSeals : laws_FnSeals.Pure := by
  intro l0 h1 h2 h3
  have hc : Bytes l0 := fun x hx => u8_of_wf (h3 x hx)
  obtain ⟨K, hK⟩ : ∃ K, K = 4000 := ⟨_, rfl⟩
  obtain ⟨xs, e1, hx, hl⟩ := drawSeal_ok hc (K + 1 + 1) (by omega)
  obtain ⟨zs, e2, hz, hl2⟩ := drawOpen_ok hc (K + 1 + 1) (by omega)
  have hj := seals_j0 xs zs hx hl hz K (by omega)
  refine ⟨K + 1 + 1, ?_⟩
  unfold laws_FnSeals.f laws_lwBig.f
  simp only [bindS]
  split
  · rfl
  simp only [e1, e2, impl_SealBytes_eq xs hx (K + 1 + 1) (by omega), spec_SealBytes_eq xs hx (K + 1 + 1) (by omega), impl_OpenBytes_eq zs hz (K + 1 + 1) (by omega), spec_OpenBytes_eq zs hz (K + 1) (by omega), bindS, if_true, bne_self_eq_false]
  exact hj

end Go.Proofs.Ytkhcojfpmojleaa.Pure
