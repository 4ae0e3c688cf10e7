/-
  Zigs: a value is told by its class and its digits, for every code.
-/
import Derived.Test.YtfolhiijdckfhaaPFnZigsx
namespace Go.Proofs.Ytfolhiijdckfhaa.Pure
open Go.RowKit Go.Proofs.Ytfolhiijdckfhaa.PFnZigs Go.Proofs.YtfolhiijdckfhaaW.PrintWords Go.Proofs.YtfolhiijdckfhaaW.PrintLast Go.Proofs.YtfolhiijdckfhaaW.PrintMore
set_option linter.unusedVariables false
set_option linter.unusedSimpArgs false

theorem w64 {x : Int} (h1 : -9223372036854775808 ≤ x) (h2 : x ≤ 9223372036854775807) : wrap64 x = x := by
  unfold wrap64; omega
theorem tdiv_pos {a : Int} (h : 0 ≤ a) (b : Int) : Int.tdiv a b = a / b := Int.tdiv_eq_ediv_of_nonneg h
theorem tmod_pos {a : Int} (h : 0 ≤ a) (b : Int) : Int.tmod a b = a % b := Int.tmod_eq_emod_of_nonneg h
theorem tdiv_neg {a : Int} (h : a ≤ 0) (b : Int) : Int.tdiv a b = -((-a) / b) := by
  have := Int.neg_tdiv (-a) b
  rw [Int.neg_neg] at this
  rw [this, tdiv_pos (by omega)]
theorem tmod_neg {a : Int} (h : a ≤ 0) (b : Int) : Int.tmod a b = -((-a) % b) := by
  have := Int.neg_tmod (-a) b
  rw [Int.neg_neg] at this
  rw [this, tmod_pos (by omega)]
theorem div_unique {x b q r : Int} (hb : 0 < b) (h : r + b * q = x) (h0 : 0 ≤ r) (h1 : r < b) : x / b = q :=
  ((Int.ediv_emod_unique hb).2 ⟨h, h0, h1⟩).1
theorem div_parts (x b : Int) : b * (x / b) + x % b = x := Int.mul_ediv_add_emod x b
theorem neg_div {a b : Int} (hb : 0 < b) : (-a) / b = if a % b = 0 then -(a / b) else -(a / b) - 1 := by
  have h := div_parts a b
  have h0 := Int.emod_nonneg a (Int.ne_of_gt hb)
  have h1 := Int.emod_lt_of_pos a hb
  split
  · exact div_unique (r := 0) hb (by rw [Int.mul_neg]; omega) (by omega) (by omega)
  · exact div_unique (r := b - a % b) hb (by rw [Int.mul_sub, Int.mul_neg]; omega) (by omega) (by omega)
theorem ceil_div {a b : Int} (hb : 0 < b) : (a + b - 1) / b = -((-a) / b) := by
  have h := div_parts (-a) b
  have h0 := Int.emod_nonneg (-a) (Int.ne_of_gt hb)
  have h1 := Int.emod_lt_of_pos (-a) hb
  exact div_unique (r := b - 1 - (-a) % b) hb (by rw [Int.mul_neg]; omega) (by omega) (by omega)
theorem div_bd {a b : Int} (ha : 0 ≤ a) (hb : 0 < b) : 0 ≤ a / b ∧ a / b ≤ a :=
  ⟨Int.ediv_nonneg ha (by omega), Int.ediv_le_self b ha⟩
theorem floor_tdiv {x b : Int} (hb : 0 < b) : (if Int.tmod x b < 0 then Int.tdiv x b - 1 else Int.tdiv x b) = x / b := by
  by_cases h : 0 ≤ x
  · have h0 := Int.emod_nonneg x (Int.ne_of_gt hb)
    rw [tmod_pos h, tdiv_pos h, if_neg (by omega)]
  · rw [tmod_neg (by omega), tdiv_neg (by omega)]
    have h0 := Int.emod_nonneg (-x) (Int.ne_of_gt hb)
    have e := neg_div (a := -x) hb
    rw [Int.neg_neg] at e
    rw [e]
    by_cases hz : (-x) % b = 0
    · rw [if_pos hz, if_neg (by omega)]
    · rw [if_neg hz, if_pos (by omega)]
theorem floor_bd {x b : Int} (hb : 0 < b) : (0 ≤ x → 0 ≤ x / b ∧ x / b ≤ x) ∧ (x < 0 → x ≤ x / b ∧ x / b < 0) := by
  refine ⟨fun h => div_bd h hb, fun h => ?_⟩
  have e := neg_div (a := -x) hb
  rw [Int.neg_neg] at e
  have d := div_bd (a := -x) (by omega) hb
  have p := div_parts (-x) b
  have h0 := Int.emod_nonneg (-x) (Int.ne_of_gt hb)
  rw [e]
  split
  · next hz =>
    rw [hz] at p
    have : (-x) / b ≠ 0 := fun e0 => by rw [e0, Int.mul_zero] at p; omega
    omega
  · next hz =>
    have : (-x) / b < -x := by
      rcases Int.lt_or_eq_of_le d.2 with h2 | h2
      · exact h2
      · exfalso
        rw [h2] at p
        have hb1 : b ≠ 1 := fun e1 => by subst e1; omega
        have : 2 * (-x) ≤ b * (-x) := Int.mul_le_mul_of_nonneg_right (by omega) (by omega)
        omega
    omega

theorem inRange_eq (a b c : Int) : impl_inRange.f a b c = some (decide (b ≤ a ∧ a ≤ c)) := by
  unfold impl_inRange.f; by_cases h : b ≤ a <;> simp [h]

theorem l1In_eq (a b c : Int) : spec_l1In.f a b c = some (decide (b ≤ a ∧ a ≤ c)) := by
  unfold spec_l1In.f; by_cases h : b ≤ a <;> simp [h]

theorem within_eq (a b : Int) (h0 : 0 ≤ b) (h1 : b ≤ 9000000000000000000) : impl_within.f a b = some (decide (-b ≤ a ∧ a ≤ b)) := by
  unfold impl_within.f; rw [inRange_eq, w64 (by omega) (by omega)]; rfl

theorem codeIf_eq (b : Bool) (c : Int) : impl_codeIf.f b c = some (if b = true then c else 0) := by
  unfold impl_codeIf.f; cases b <;> rfl

theorem rd_nat (xs : List Int) (i : Nat) : rd xs (i : Int) = xs.getD i 0 := by unfold rd; rw [Int.toNat_natCast]
theorem rd_get (xs : List Int) (i : Nat) (h : i < xs.length) : rd xs (i : Int) = xs[i] := by
  rw [rd_nat, List.getD_eq_getElem?_getD, List.getElem?_eq_getElem h]; rfl
theorem w64_succ (i : Nat) (h : i ≤ 4000000000000000000) : wrap64 ((i : Int) + 1) = ((i + 1 : Nat) : Int) := by
  rw [w64 (by omega) (by omega)]; omega
theorem nat_nonneg (i : Nat) : 0 ≤ (i : Int) := Int.natCast_nonneg i
theorem set_get_take {xs ys : List Int} {i : Nat} (hl : ys.length = xs.length) (ht : ys.take i = xs.take i) (hi : i < xs.length) :
    (ys.set i (rd xs (i : Int))).take (i + 1) = xs.take (i + 1) := by
  rw [rd_get xs i hi]
  apply List.ext_getElem?
  intro n
  by_cases hn : n < i + 1
  · rw [List.getElem?_take_of_lt hn, List.getElem?_take_of_lt hn]
    by_cases e : n = i
    · subst e
      rw [List.getElem?_set_self (by omega), List.getElem?_eq_getElem hi]
    · rw [List.getElem?_set_ne (by omega)]
      have := congrArg (fun l => l[n]?) ht
      simp only [List.getElem?_take_of_lt (show n < i by omega)] at this
      exact this
  · rw [List.getElem?_take_eq_none (by omega), List.getElem?_take_eq_none (by omega)]

theorem u8_of_wf {x : Int} (h : (Lit.int .u8 x).wf = true) : 0 ≤ x ∧ x < 256 := by
  have := h
  simp [Lit.wf, IntKind.min, IntKind.max, IntKind.bits, IntKind.signed] at this
  omega
def Bytes (xs : List Int) : Prop := ∀ x ∈ xs, 0 ≤ x ∧ x < 256
theorem Bytes.rd {xs : List Int} (h : Bytes xs) (i : Nat) : 0 ≤ rd xs (i : Int) ∧ rd xs (i : Int) < 256 := by
  rw [rd_nat, List.getD_eq_getElem?_getD]
  by_cases hi : i < xs.length
  · rw [List.getElem?_eq_getElem hi]; exact h _ (List.getElem_mem hi)
  · rw [List.getElem?_eq_none (by omega)]; exact ⟨by simp, by simp⟩

theorem rd_bd {c : List Int} (hc : Bytes c) (i : Int) : 0 ≤ rd c i ∧ rd c i ≤ 255 := by
  unfold rd
  rw [List.getD_eq_getElem?_getD]
  by_cases h : i.toNat < c.length
  · rw [List.getElem?_eq_getElem h]
    have := hc _ (List.getElem_mem h)
    simp only [Option.getD_some]
    omega
  · rw [List.getElem?_eq_none (by omega)]
    simp
theorem tmod_bd {a : Int} (h : 0 ≤ a) {b : Int} (hb : 0 < b) : 0 ≤ Int.tmod a b ∧ Int.tmod a b < b := by
  rw [tmod_pos h]
  exact ⟨Int.emod_nonneg _ (by omega), Int.emod_lt_of_pos _ hb⟩
theorem l1Next_ok {c : List Int} (hc : Bytes c) (at' n : Int) (h0 : 0 ≤ at') (h1 : at' ≤ 1073741824) :
    ∃ v, spec_l1Next.f c at' n = some (v, at' + 1) ∧ (1 ≤ n → 0 ≤ v ∧ v < n) ∧ (n < 1 → v = 0) := by
  have e1 : wrap64 (at' + 1) = at' + 1 := w64 (by omega) (by omega)
  have e2 : at' + 1 - 1 = at' := by omega
  have e3 : wrap64 at' = at' := w64 (by omega) (by omega)
  have e4 : wrap64 (at' + 2) = at' + 2 := w64 (by omega) (by omega)
  unfold spec_l1Next.f
  simp only [e1, e2, e3, e4]
  by_cases hn1 : n < 1
  · rw [if_pos hn1]
    exact ⟨0, rfl, fun h => by omega, fun _ => rfl⟩
  · rw [if_neg hn1]
    by_cases hl : (c.length : Int) = 0
    · rw [if_pos hl, if_neg (by omega), w64 (x := at' * 7) (by omega) (by omega)]
      exact ⟨_, rfl, fun _ => tmod_bd (by omega) (by omega), fun h => absurd h hn1⟩
    · rw [if_neg hl]
      have hL : 0 < (c.length : Int) := by omega
      have q0 := tmod_bd h0 hL
      have q1 := tmod_bd (show 0 ≤ at' + 1 by omega) hL
      have q2 := tmod_bd (show 0 ≤ at' + 2 by omega) hL
      have hd := div_bd h0 hL
      rw [← tdiv_pos h0] at hd
      have r0 := rd_bd hc (Int.tmod at' c.length)
      have r1 := rd_bd hc (Int.tmod (at' + 1) c.length)
      have r2 := rd_bd hc (Int.tmod (at' + 2) c.length)
      rw [if_pos q0.1, if_pos q0.2, if_pos q1.1, if_pos q1.2, if_pos q2.1, if_pos q2.2]
      generalize rd c (Int.tmod at' c.length) = R0 at r0 ⊢
      generalize rd c (Int.tmod (at' + 1) c.length) = R1 at r1 ⊢
      generalize rd c (Int.tmod (at' + 2) c.length) = R2 at r2 ⊢
      generalize Int.tdiv at' c.length = D at hd ⊢
      simp (disch := omega) only [w64]
      simp only [if_neg (show ¬ n = 0 by omega)]
      by_cases g1 : n > 200
      · by_cases g2 : n > 60000
        · simp only [if_pos g1, if_pos g2]
          exact ⟨_, rfl, fun _ => tmod_bd (by omega) (by omega), fun h => absurd h hn1⟩
        · simp only [if_pos g1, if_neg g2]
          exact ⟨_, rfl, fun _ => tmod_bd (by omega) (by omega), fun h => absurd h hn1⟩
      · by_cases g2 : n > 60000
        · omega
        · simp only [if_neg g1, if_neg g2]
          exact ⟨_, rfl, fun _ => tmod_bd (by omega) (by omega), fun h => absurd h hn1⟩

theorem l1Pick_ok {c : List Int} (hc : Bytes c) (at' : Int) (xs : List Int) (h0 : 0 ≤ at') (h1 : at' ≤ 1073741824) (hx : 1 ≤ xs.length) :
    ∃ v, spec_l1Pick.f c at' xs = some (v, at' + 1) ∧ v ∈ xs := by
  obtain ⟨v, e, hv, _⟩ := l1Next_ok hc at' (xs.length : Int) h0 h1
  have hv := hv (by omega)
  refine ⟨rd xs v, ?_, ?_⟩
  · unfold spec_l1Pick.f
    rw [e]
    simp only [Option.bind_some]
    rw [if_pos hv.1, if_pos hv.2]
  · unfold rd
    rw [List.getD_eq_getElem?_getD, List.getElem?_eq_getElem (show v.toNat < xs.length by omega)]
    exact List.getElem_mem _

theorem l1Signed_ok {c : List Int} (hc : Bytes c) (at' n : Int) (h0 : 0 ≤ at') (h1 : at' ≤ 1073741824) (hn : 0 ≤ n) (hn2 : n ≤ 1152921504606846976) :
    ∃ v, spec_l1Signed.f c at' n = some (v, at' + 1) ∧ -n ≤ v ∧ v ≤ n := by
  obtain ⟨v, e, hv, _⟩ := l1Next_ok hc at' (2 * n + 1) h0 h1
  have hv := hv (by omega)
  refine ⟨v - n, ?_, by omega, by omega⟩
  unfold spec_l1Signed.f
  rw [w64 (x := 2 * n) (by omega) (by omega), w64 (x := 2 * n + 1) (by omega) (by omega), e]
  simp only [Option.bind_some]
  rw [w64 (by omega) (by omega)]

theorem l2Length_l0 : ∀ (d x m k : Nat), x < 2 ^ d → d ≤ 64 → m + d ≤ 1000 → d < k → spec_l2Length.l0 k (x : Int) (m : Int) = some ((m + Lib.bitLen x : Nat) : Int) := by
  intro d
  induction d with
  | zero =>
    intro x m k hx hd hm hk
    obtain ⟨k, rfl⟩ : ∃ q, k = q + 1 := ⟨k - 1, by omega⟩
    have : x = 0 := by simpa using hx
    subst this
    simp only [spec_l2Length.l0]
    rw [if_neg (by omega)]
    rfl
  | succ d ih =>
    intro x m k hx hd hm hk
    obtain ⟨k, rfl⟩ : ∃ q, k = q + 1 := ⟨k - 1, by omega⟩
    have hx2 : x < 2 ^ 64 := Nat.lt_of_lt_of_le hx (Nat.pow_le_pow_right (by omega) hd)
    simp only [spec_l2Length.l0]
    by_cases h : x = 0
    · subst h
      rw [if_neg (by omega)]
      rfl
    · rw [Nat.pow_succ] at hx
      rw [if_pos (by omega), tdiv_pos (by omega), show (x : Int) / 2 = ((x / 2 : Nat) : Int) by omega, w64 (x := ((x / 2 : Nat) : Int)) (by omega) (by omega), w64_succ m (by omega), ih (x / 2) (m + 1) k (by omega) (by omega) (by omega) (by omega), Lib.bitLen_half x h hx2]
      congr 2
      omega
theorem l2Length_eq (x k : Nat) (hx : x < 65536) (hk : 20 < k) : spec_l2Length.f k (x : Int) = some ((Lib.bitLen x : Nat) : Int) := by
  have := l2Length_l0 16 x 0 k (by omega) (by omega) (by omega) (by omega)
  rw [Nat.zero_add] at this
  exact this

theorem rdT_nat (xs : List S57) (i : Nat) : rd_T57 xs (i : Int) = xs.getD i z57 := by unfold rd_T57; rw [Int.toNat_natCast]

theorem lift {α : Type} {f : Nat → Option α} (h : ∀ k, LeO (f k) (f (k + 1))) {k : Nat} {r : α} (e : f k = some r) (m : Nat) (hm : k ≤ m) : f m = some r := by
  obtain ⟨d, rfl⟩ := Nat.le.dest hm
  clear hm
  induction d with
  | zero => exact e
  | succ d ih => exact h _ _ ih
def zig (a : Int) : Nat := if a < 0 then (-2 * a - 1).toNat else (2 * a).toNat
theorem zig_bd {a : Int} (h : -65535 ≤ a ∧ a ≤ 65535) : zig a ≤ 131070 := by unfold zig; split <;> omega
theorem zigF {a : Int} (h : -65535 ≤ a ∧ a ≤ 65535) : (if a < 0 then (some (wrap64 ((wrap64 ((-2) * a)) - 1))) else (some (wrap64 (2 * a)))) = some (zig a : Int) := by
  unfold zig
  split
  · rw [w64 (x := -2 * a) (by omega) (by omega), w64 (by omega) (by omega), Int.toNat_of_nonneg (by omega)]
  · rw [w64 (by omega) (by omega), Int.toNat_of_nonneg (by omega)]
theorem l4Zig_eq {a : Int} (h : -65535 ≤ a ∧ a ≤ 65535) : spec_l4Zig.f a = some (zig a : Int) := zigF h
theorem zigOf_eq {a : Int} (h : -65535 ≤ a ∧ a ≤ 65535) : impl_zigOf.f a = some (zig a : Int) := zigF h
def cls (n : Nat) : S57 := match impl_classSlot.f 40 (n : Int) with
  | some p => ⟨p.1, p.2.1, p.2.2⟩
  | none => z57
theorem cls_all : ∀ n : Fin 18, spec_l4Class.f 40 (n.val : Int) = some ((cls n.val).f0, (cls n.val).f1, (cls n.val).f2) ∧ impl_classSlot.f 40 (n.val : Int) = some ((cls n.val).f0, (cls n.val).f1, (cls n.val).f2) := by decide +kernel
theorem specClass_eq (n k : Nat) (hn : n < 18) (hk : 40 ≤ k) : spec_l4Class.f k (n : Int) = some ((cls n).f0, (cls n).f1, (cls n).f2) := lift (spec_l4Class.mono n) (cls_all ⟨n, hn⟩).1 k hk
theorem implClass_eq (n k : Nat) (hn : n < 18) (hk : 40 ≤ k) : impl_classSlot.f k (n : Int) = some ((cls n).f0, (cls n).f1, (cls n).f2) := lift (impl_classSlot.mono n) (cls_all ⟨n, hn⟩).2 k hk
theorem two_all : ∀ w : Fin 18, spec_l4Two.f 40 (w.val : Int) = some ((2 ^ w.val : Nat) : Int) := by decide +kernel
theorem two_eq (w k : Nat) (hw : w ≤ 17) (hk : 40 ≤ k) : spec_l4Two.f k (w : Int) = some ((2 ^ w : Nat) : Int) := lift (spec_l4Two.mono w) (two_all ⟨w, by omega⟩) k hk
def pcs (n : Nat) : List Int := if n < 2 then [] else if n - 1 > 8 then [((n - 9 : Nat) : Int), 8] else [((n - 1 : Nat) : Int)]
theorem pieces_all : ∀ n : Fin 18, spec_l4Pieces.f (n.val : Int) = some (pcs n.val) ∧ impl_pieces.f (n.val : Int) = some (pcs n.val) := by decide +kernel
def sl (z w s : Nat) : S57 := ⟨((z / 2 ^ s % 2 ^ w : Nat) : Int), 1, ((2 ^ w : Nat) : Int)⟩
def slotsL (z : Nat) : List S57 := [cls (Lib.bitLen z)] ++ (if Lib.bitLen z < 2 then [] else if Lib.bitLen z - 1 > 8 then [sl z (Lib.bitLen z - 9) 8, sl z 8 0] else [sl z (Lib.bitLen z - 1) 0])
theorem cast_step (s w : Nat) (h1 : w ≤ 17) (h2 : s ≤ 17) : wrap64 (((s + w : Nat) : Int) - (w : Int)) = (s : Int) := by
  rw [w64 (by omega) (by omega)]; omega
theorem spec_step (k z : Nat) (xs : List S57) (ps : List Int) (i w s : Nat) (hk : 40 ≤ k) (hi : i < ps.length) (hp : ps.length ≤ 10) (hw : rd ps (i : Int) = (w : Int)) (h1 : w ≤ 17) (h2 : s ≤ 17) (hz : z < 131072) (hx : xs.length ≤ 10) :
    spec_l4Slots.l0 (k + 1) (z : Int) xs ps ((s + w : Nat) : Int) (i : Int) = spec_l4Slots.l0 k (z : Int) (xs ++ [sl z w s]) ps (s : Int) ((i + 1 : Nat) : Int) := by
  simp only [spec_l4Slots.l0]
  rw [if_pos (by omega), if_pos (by omega)]
  simp only [hw, cast_step s w h1 h2, two_eq w k h1 hk, two_eq s k h2 hk, Option.bind_some, w64_succ i (show i ≤ 4000000000000000000 by omega)]
  have hq : 0 < 2 ^ w := Nat.two_pow_pos w
  have hs : 0 < 2 ^ s := Nat.two_pow_pos s
  unfold sl
  generalize 2 ^ w = q at hq ⊢
  generalize 2 ^ s = p at hs ⊢
  have hd : z / p ≤ z := Nat.div_le_self z p
  have hd0 : (0 : Int) ≤ ((z / p : Nat) : Int) := Int.natCast_nonneg _
  have e2 : Int.tmod (wrap64 (Int.tdiv (z : Int) (p : Int))) (q : Int) = ((z / p % q : Nat) : Int) := by
    rw [tdiv_pos (by omega), ← Int.natCast_ediv, w64 (by omega) (by omega), tmod_pos (by omega)]
    rfl
  rw [if_neg (by omega), if_neg (by omega), if_pos (by omega), e2]
theorem shl_all : ∀ w : Fin 18, shl .i64 1 (w.val : Int) = ((2 ^ w.val : Nat) : Int) ∧ wrap64 (((2 ^ w.val : Nat) : Int) - 1) = (2 : Int) ^ w.val - 1 := by decide +kernel
theorem shr_eq (z s : Nat) (hs : s ≤ 17) : shr .i64 (z : Int) (s : Int) = ((z / 2 ^ s : Nat) : Int) := by
  unfold shr
  rw [Int.toNat_natCast, show IntKind.i64.bits = 64 from rfl, Nat.min_eq_left (by omega), Int.natCast_ediv, Int.natCast_pow]
  rfl
theorem impl_step (k z : Nat) (xs : List S57) (ps : List Int) (i w s : Nat) (hi : i < ps.length) (hp : ps.length ≤ 10) (hw : rd ps (i : Int) = (w : Int)) (h1 : w ≤ 17) (h2 : s ≤ 17) (hz : z < 131072) (hx : xs.length ≤ 10) :
    impl_slotsOf.l0 (k + 1) (z : Int) xs ((s + w : Nat) : Int) ps (ps.length : Int) (i : Int) = impl_slotsOf.l0 k (z : Int) (xs ++ [sl z w s]) (s : Int) ps (ps.length : Int) ((i + 1 : Nat) : Int) := by
  simp only [impl_slotsOf.l0]
  rw [if_pos (by omega), if_pos (by omega), if_pos (by omega)]
  have hd : z / 2 ^ s ≤ z := Nat.div_le_self z _
  have hd0 : (0 : Int) ≤ ((z / 2 ^ s : Nat) : Int) := Int.natCast_nonneg _
  have hb := bits_mask .i64 62 (by decide) (fun n h0 h1 => by rw [IntKind.wrap_i64]; omega) w (by omega) ((z / 2 ^ s : Nat) : Int) (by omega) (by omega)
  have ha := shl_all ⟨w, by omega⟩
  simp only [hw, cast_step s w h1 h2, ha.1, ha.2, shr_eq z s h2, w64_succ i (show i ≤ 4000000000000000000 by omega), hb]
  rw [if_pos (by omega), if_pos (by omega), if_pos (by omega)]
  unfold sl
  rw [Int.natCast_emod, Int.natCast_pow]
  rfl
theorem len17 {z : Nat} (hz : z < 131072) : Lib.bitLen z < 18 := by
  have := Lib.bitLen_le z 17 (by omega) (by omega)
  omega
theorem pcs_cases (n : Nat) : (n < 2 ∧ pcs n = []) ∨ (2 ≤ n ∧ n - 1 > 8 ∧ pcs n = [((n - 9 : Nat) : Int), 8]) ∨ (2 ≤ n ∧ ¬ n - 1 > 8 ∧ pcs n = [((n - 1 : Nat) : Int)]) := by
  unfold pcs
  by_cases h : n < 2
  · exact .inl ⟨h, by rw [if_pos h]⟩
  · by_cases g : n - 1 > 8
    · exact .inr (.inl ⟨by omega, g, by rw [if_neg h, if_pos g]⟩)
    · exact .inr (.inr ⟨by omega, g, by rw [if_neg h, if_neg g]⟩)
theorem pred64 (n : Nat) (h : n < 18) (h2 : 2 ≤ n) : wrap64 ((n : Int) - 1) = ((n - 1 : Nat) : Int) := by
  rw [w64 (by omega) (by omega)]; omega
theorem spec_run (z k n : Nat) (hz : z < 131072) (hn : n < 18) (hk : 50 ≤ k) : spec_l4Slots.l0 k (z : Int) [cls n] (pcs n) (wrap64 ((n : Int) - 1)) 0 = some ([cls n] ++ (if n < 2 then [] else if n - 1 > 8 then [sl z (n - 9) 8, sl z 8 0] else [sl z (n - 1) 0])) := by
  obtain ⟨k, rfl⟩ : ∃ q, k = q + 3 := ⟨k - 3, by omega⟩
  rcases pcs_cases n with ⟨h, e⟩ | ⟨h2, h, e⟩ | ⟨h2, h, e⟩
  · rw [e, if_pos h]
    simp only [spec_l4Slots.l0]
    rw [if_neg (by simp)]
    rfl
  · have s1 := spec_step (k + 2) z [cls n] (pcs n) 0 (n - 9) 8 (by omega) (by rw [e]; simp) (by rw [e]; simp) (by rw [e]; rfl) (by omega) (by omega) hz (by simp)
    have s2 := spec_step (k + 1) z ([cls n] ++ [sl z (n - 9) 8]) (pcs n) 1 8 0 (by omega) (by rw [e]; simp) (by rw [e]; simp) (by rw [e]; rfl) (by omega) (by omega) hz (by simp)
    rw [pred64 n hn h2, show n - 1 = 8 + (n - 9) by omega]
    refine s1.trans (Eq.trans s2 ?_)
    rw [if_neg (by omega), if_pos (by omega)]
    simp only [spec_l4Slots.l0]
    rw [if_neg (by rw [e]; simp)]
    rfl
  · have s1 := spec_step (k + 2) z [cls n] (pcs n) 0 (n - 1) 0 (by omega) (by rw [e]; simp) (by rw [e]; simp) (by rw [e]; rfl) (by omega) (by omega) hz (by simp)
    rw [pred64 n hn h2]
    rw [Nat.zero_add] at s1
    refine s1.trans ?_
    rw [if_neg (by omega), if_neg h]
    simp only [spec_l4Slots.l0]
    rw [if_neg (by rw [e]; simp)]
theorem impl_run (z k n : Nat) (hz : z < 131072) (hn : n < 18) (hk : 50 ≤ k) : impl_slotsOf.l0 k (z : Int) [cls n] (wrap64 ((n : Int) - 1)) (pcs n) ((pcs n).length : Int) 0 = some ([cls n] ++ (if n < 2 then [] else if n - 1 > 8 then [sl z (n - 9) 8, sl z 8 0] else [sl z (n - 1) 0])) := by
  obtain ⟨k, rfl⟩ : ∃ q, k = q + 3 := ⟨k - 3, by omega⟩
  rcases pcs_cases n with ⟨h, e⟩ | ⟨h2, h, e⟩ | ⟨h2, h, e⟩
  · rw [e, if_pos h]
    simp only [impl_slotsOf.l0]
    rw [if_neg (by simp)]
    rfl
  · have s1 := impl_step (k + 2) z [cls n] (pcs n) 0 (n - 9) 8 (by rw [e]; simp) (by rw [e]; simp) (by rw [e]; rfl) (by omega) (by omega) hz (by simp)
    have s2 := impl_step (k + 1) z ([cls n] ++ [sl z (n - 9) 8]) (pcs n) 1 8 0 (by rw [e]; simp) (by rw [e]; simp) (by rw [e]; rfl) (by omega) (by omega) hz (by simp)
    rw [pred64 n hn h2, show n - 1 = 8 + (n - 9) by omega]
    refine s1.trans (Eq.trans s2 ?_)
    rw [if_neg (by omega), if_pos (by omega)]
    simp only [impl_slotsOf.l0]
    rw [if_neg (by rw [e]; simp)]
    rfl
  · have s1 := impl_step (k + 2) z [cls n] (pcs n) 0 (n - 1) 0 (by rw [e]; simp) (by rw [e]; simp) (by rw [e]; rfl) (by omega) (by omega) hz (by simp)
    rw [pred64 n hn h2]
    rw [Nat.zero_add] at s1
    refine s1.trans ?_
    rw [if_neg (by omega), if_neg h]
    simp only [impl_slotsOf.l0]
    rw [if_neg (by rw [e]; simp)]
theorem l2Length_eq17 (x k : Nat) (hx : x < 131072) (hk : 20 < k) : spec_l2Length.f k (x : Int) = some ((Lib.bitLen x : Nat) : Int) := by
  have := l2Length_l0 17 x 0 k (by omega) (by omega) (by omega) (by omega)
  rw [Nat.zero_add] at this
  exact this
theorem u64_id' {n : Int} (h0 : 0 ≤ n) (h1 : n < 9223372036854775808) : IntKind.u64.wrap n = n := by
  rw [IntKind.wrap_u64]; omega
theorem bitsLen_eq (x : Nat) (hx : x < 131072) : bits_Len64.f (IntKind.u64.wrap (x : Int)) = some ((Lib.bitLen x : Nat) : Int) := by
  unfold bits_Len64.f; rw [u64_id' (by omega) (by omega), if_pos (by omega), Int.toNat_natCast]
theorem spec_slots_eq {a : Int} (h : -65535 ≤ a ∧ a ≤ 65535) (k : Nat) (hk : 50 ≤ k) : spec_l4Slots.f k a = some (slotsL (zig a)) := by
  have hz : zig a < 131072 := by have := zig_bd h; omega
  unfold spec_l4Slots.f
  simp only [l4Zig_eq h, Option.bind_some, l2Length_eq17 _ k hz (by omega), specClass_eq _ k (len17 hz) (by omega), (pieces_all ⟨_, len17 hz⟩).1]
  exact spec_run _ k _ hz (len17 hz) hk
theorem impl_slots_eq {a : Int} (h : -65535 ≤ a ∧ a ≤ 65535) (k : Nat) (hk : 50 ≤ k) : impl_slotsOf.f k a = some (slotsL (zig a)) := by
  have hz : zig a < 131072 := by have := zig_bd h; omega
  unfold impl_slotsOf.f
  simp only [zigOf_eq h, Option.bind_some, bitsLen_eq _ hz, implClass_eq _ k (len17 hz) (by omega), (pieces_all ⟨_, len17 hz⟩).2]
  exact impl_run _ k _ hz (len17 hz) hk
theorem slotsL_len (z : Nat) : 1 ≤ (slotsL z).length ∧ (slotsL z).length ≤ 3 := by
  unfold slotsL
  split
  · simp
  · split <;> simp
theorem l4Value_eq (a : Int) : spec_l4Value.f a = some (decide (-65535 ≤ a ∧ a ≤ 65535)) := by
  unfold spec_l4Value.f; rw [l1In_eq]; rfl
theorem isValue_eq (a : Int) : impl_isValue.f a = some (decide (-65535 ≤ a ∧ a ≤ 65535)) := by
  unfold impl_isValue.f; rw [within_eq _ _ (by omega) (by omega)]; rfl
def slotsR (a : Int) : Int × List S57 := if -65535 ≤ a ∧ a ≤ 65535 then (0, slotsL (zig a)) else (3, [])
theorem spec_SlotsOf_eq (a : Int) (k : Nat) (hk : 50 ≤ k) : spec_SlotsOf.f k a = some (slotsR a) := by
  unfold spec_SlotsOf.f slotsR
  rw [l4Value_eq]
  by_cases h : -65535 ≤ a ∧ a ≤ 65535
  · simp only [decide_eq_true h, Option.bind_some, if_true, spec_slots_eq h k hk, if_pos h]
  · simp only [decide_eq_false h, Option.bind_some, if_neg h]; rfl
theorem impl_SlotsOf_eq (a : Int) (k : Nat) (hk : 50 ≤ k) : impl_SlotsOf.f k a = some (slotsR a) := by
  unfold impl_SlotsOf.f slotsR
  rw [isValue_eq]
  by_cases h : -65535 ≤ a ∧ a ≤ 65535
  · simp only [decide_eq_true h, Option.bind_some, if_true, impl_slots_eq h k hk, if_pos h]
  · simp only [decide_eq_false h, Option.bind_some, if_neg h]; rfl

-- PLUS: lists slots bytes zigs
-- SKIP: spec_l1Some
theorem l4Draw_ok {c : List Int} (hc : Bytes c) (at' : Int) (h0 : 0 ≤ at') (h1 : at' ≤ 1073741000) :
    ∃ v, spec_l4Draw.f c at' = some (v, at' + 6) := by
  unfold spec_l4Draw.f
  obtain ⟨v1, e1, _⟩ := l1Signed_ok hc at' 3 h0 (by omega) (by omega) (by omega)
  obtain ⟨v2, e2, _⟩ := l1Signed_ok hc (at' + 1) 3 (by omega) (by omega) (by omega) (by omega)
  obtain ⟨v3, e3, _⟩ := l1Signed_ok hc (at' + 1 + 1) 20 (by omega) (by omega) (by omega) (by omega)
  obtain ⟨v4, e4, _⟩ := l1Signed_ok hc (at' + 1 + 1 + 1) 300 (by omega) (by omega) (by omega) (by omega)
  obtain ⟨v5, e5, _⟩ := l1Signed_ok hc (at' + 1 + 1 + 1 + 1) 65535 (by omega) (by omega) (by omega) (by omega)
  rw [e1]; simp only [Option.bind_some]
  rw [e2]; simp only [Option.bind_some]
  rw [e3]; simp only [Option.bind_some]
  rw [e4]; simp only [Option.bind_some]
  rw [e5]; simp only [Option.bind_some]
  obtain ⟨v6, e6, _⟩ := l1Pick_ok hc (at' + 1 + 1 + 1 + 1 + 1) [0, 0, 0, 1, -1, v1, v2, v3, v4, v5, 65535, -65535] (by omega) (by omega) (by simp)
  rw [e6]; simp only [Option.bind_some]
  exact ⟨v6, by rw [show at' + 1 + 1 + 1 + 1 + 1 + 1 = at' + 6 by omega]⟩
theorem drawZig_ok {c : List Int} (hc : Bytes c) : ∃ v, spec_DrawZigOf.f c = some v := by
  unfold spec_DrawZigOf.f spec_l1Source.f
  simp only [Option.bind_some]
  obtain ⟨v1, e1⟩ := l4Draw_ok hc 0 (by omega) (by omega)
  obtain ⟨v2, e2⟩ := l4Draw_ok hc (0 + 6) (by omega) (by omega)
  rw [e1]; simp only [Option.bind_some]
  rw [e2]; simp only [Option.bind_some]
  obtain ⟨v3, e3, _⟩ := l1Pick_ok hc (0 + 6 + 6) [v1, v2, 65536, -65536] (by omega) (by omega) (by simp)
  rw [e3]; exact ⟨_, rfl⟩
theorem drawClass_ok {c : List Int} (hc : Bytes c) : ∃ v, spec_DrawClassSlot.f c = some v := by
  unfold spec_DrawClassSlot.f spec_l1Source.f
  simp only [Option.bind_some]
  obtain ⟨v1, e1, _⟩ := l1Next_ok hc 0 18 (by omega) (by omega)
  rw [e1]; simp only [Option.bind_some]
  obtain ⟨v3, e3, _⟩ := l1Pick_ok hc (0 + 1) [0, 1, 5, 6, 17, 18, -1, v1] (by omega) (by omega) (by simp)
  rw [e3]; exact ⟨_, rfl⟩
theorem drawUnzig_ok {c : List Int} (hc : Bytes c) : ∃ v, spec_DrawUnzigOf.f c = some v := by
  unfold spec_DrawUnzigOf.f spec_l1Source.f
  simp only [Option.bind_some]
  obtain ⟨v1, e1, _⟩ := l1Next_ok hc 0 131071 (by omega) (by omega)
  rw [e1]; simp only [Option.bind_some]
  obtain ⟨v2, e2, _⟩ := l1Next_ok hc (0 + 1) 40 (by omega) (by omega)
  rw [e2]; simp only [Option.bind_some]
  obtain ⟨v3, e3, _⟩ := l1Pick_ok hc (0 + 1 + 1) [0, 1, 2, 131070, 131071, -1, v1, v2] (by omega) (by omega) (by simp)
  rw [e3]; exact ⟨_, rfl⟩
def unz (z : Int) : Int := if z % 2 = 1 then -((z + 1) / 2) else z / 2
theorem unzF {z : Int} (h : 0 ≤ z ∧ z ≤ 131070) : (if (Int.tmod z 2) = 1 then (some (wrap64 (Int.tdiv (wrap64 (-(wrap64 (z + 1)))) 2))) else (some (wrap64 (Int.tdiv z 2)))) = some (unz z) := by
  unfold unz
  rw [tmod_pos h.1]
  by_cases g : z % 2 = 1
  · rw [if_pos g, if_pos g, w64 (x := z + 1) (by omega) (by omega), w64 (x := -(z + 1)) (by omega) (by omega), tdiv_neg (by omega), w64 (by omega) (by omega), Int.neg_neg]
  · rw [if_neg g, if_neg g, tdiv_pos h.1, w64 (by omega) (by omega)]
def zR (a : Int) : Int × Int := if -65535 ≤ a ∧ a ≤ 65535 then (0, (zig a : Int)) else (3, 0)
def uR (a : Int) : Int × Int := if 0 ≤ a ∧ a ≤ 131070 then (0, unz a) else (3, 0)
def cR (a : Int) : Int × List S57 := if 0 ≤ a ∧ a ≤ 17 then (0, [cls a.toNat]) else (3, [])
theorem impl_ZigOf_eq (a : Int) : impl_ZigOf.f a = some (zR a) := by
  unfold impl_ZigOf.f zR; rw [isValue_eq]
  by_cases h : -65535 ≤ a ∧ a ≤ 65535
  · simp only [decide_eq_true h, Option.bind_some, if_true, zigOf_eq h, if_pos h]
  · simp only [decide_eq_false h, Option.bind_some, if_neg h]; rfl
theorem spec_ZigOf_eq (a : Int) : spec_ZigOf.f a = some (zR a) := by
  unfold spec_ZigOf.f zR; rw [l4Value_eq]
  by_cases h : -65535 ≤ a ∧ a ≤ 65535
  · simp only [decide_eq_true h, Option.bind_some, if_true, l4Zig_eq h, if_pos h]
  · simp only [decide_eq_false h, Option.bind_some, if_neg h]; rfl
theorem impl_UnzigOf_eq (a : Int) : impl_UnzigOf.f a = some (uR a) := by
  unfold impl_UnzigOf.f uR; rw [inRange_eq]
  by_cases h : 0 ≤ a ∧ a ≤ 131070
  · have e : impl_unzigOf.f a = some (unz a) := unzF h
    simp only [decide_eq_true h, Option.bind_some, if_true, e, if_pos h]
  · simp only [decide_eq_false h, Option.bind_some, if_neg h]; rfl
theorem spec_UnzigOf_eq (a : Int) : spec_UnzigOf.f a = some (uR a) := by
  unfold spec_UnzigOf.f uR; rw [l1In_eq]
  by_cases h : 0 ≤ a ∧ a ≤ 131070
  · have e : spec_l4Unzig.f a = some (unz a) := unzF h
    simp only [decide_eq_true h, Option.bind_some, if_true, e, if_pos h]
  · simp only [decide_eq_false h, Option.bind_some, if_neg h]; rfl
theorem impl_ClassSlot_eq (a : Int) (k : Nat) (hk : 50 ≤ k) : impl_ClassSlot.f k a = some (cR a) := by
  unfold impl_ClassSlot.f cR; rw [inRange_eq]
  by_cases h : 0 ≤ a ∧ a ≤ 17
  · have e := implClass_eq a.toNat k (by omega) (by omega)
    rw [Int.toNat_of_nonneg h.1] at e
    simp only [decide_eq_true h, Option.bind_some, if_true, e, if_pos h]
  · simp only [decide_eq_false h, Option.bind_some, if_neg h]; rfl
theorem spec_ClassSlot_eq (a : Int) (k : Nat) (hk : 50 ≤ k) : spec_ClassSlot.f k a = some (cR a) := by
  unfold spec_ClassSlot.f cR; rw [l1In_eq]
  by_cases h : 0 ≤ a ∧ a ≤ 17
  · have e := specClass_eq a.toNat k (by omega) (by omega)
    rw [Int.toNat_of_nonneg h.1] at e
    simp only [decide_eq_true h, Option.bind_some, if_true, e, if_pos h]
  · simp only [decide_eq_false h, Option.bind_some, if_neg h]; rfl
theorem unz_zig {a : Int} (h : -65535 ≤ a ∧ a ≤ 65535) : uR (zig a : Int) = (0, a) := by
  have hb := zig_bd h
  unfold uR
  rw [if_pos (by omega)]
  have : unz (zig a : Int) = a := by
    unfold unz zig
    by_cases g : a < 0
    · rw [if_pos g, Int.toNat_of_nonneg (by omega), if_pos (by omega)]; omega
    · rw [if_neg g, Int.toNat_of_nonneg (by omega), if_neg (by omega)]; omega
  rw [this]
theorem zig_unz {z : Int} (h : (uR z).1 = 0) : (zR (uR z).2).2 = z := by
  have h : 0 ≤ z ∧ z ≤ 131070 := by
    unfold uR at h
    by_cases g : 0 ≤ z ∧ z ≤ 131070
    · exact g
    · rw [if_neg g] at h; simp at h
  unfold uR
  rw [if_pos h]
  unfold zR unz
  by_cases g : z % 2 = 1
  · simp only [if_pos g]
    rw [if_pos (by omega)]
    unfold zig
    rw [if_pos (by omega), Int.toNat_of_nonneg (by omega)]
    simp only
    omega
  · simp only [if_neg g]
    rw [if_pos (by omega)]
    unfold zig
    rw [if_neg (by omega), Int.toNat_of_nonneg (by omega)]
    simp only
    omega
theorem fault_cls : ∀ n : Fin 18, impl_SlotFault.f (cls n.val).f0 (cls n.val).f1 (cls n.val).f2 = some 0 := by decide +kernel
theorem two_bd {w : Nat} (hw : w ≤ 10) : 1 ≤ 2 ^ w ∧ 2 ^ w ≤ 1024 := ⟨Nat.two_pow_pos w, Nat.pow_le_pow_right (by omega) hw⟩
theorem fault_sl (z w s : Nat) (hw : w ≤ 10) : impl_SlotFault.f (sl z w s).f0 (sl z w s).f1 (sl z w s).f2 = some 0 := by
  have h := two_bd hw
  unfold sl impl_SlotFault.f
  simp only [inRange_eq]
  generalize 2 ^ w = q at h ⊢
  have hm : z / 2 ^ s % q < q := Nat.mod_lt _ (by omega)
  generalize z / 2 ^ s % q = m at hm ⊢
  rw [w64 (x := (q : Int) - 1) (by omega) (by omega)]
  rw [decide_eq_true (show (1 : Int) ≤ q ∧ (q : Int) ≤ 1024 by omega), decide_eq_true (show (1 : Int) ≤ 1 ∧ (1 : Int) ≤ q by omega), decide_eq_true (show (0 : Int) ≤ m ∧ (m : Int) ≤ q - 1 by omega)]
  rfl
theorem fault_all {z : Nat} (hz : z < 131072) : ∀ x ∈ slotsL z, impl_SlotFault.f x.f0 x.f1 x.f2 = some 0 := by
  have hn := len17 hz
  intro x hx
  unfold slotsL at hx
  rcases List.mem_append.1 hx with h | h
  · rw [List.mem_singleton] at h; subst h
    exact fault_cls ⟨_, hn⟩
  · split at h
    · simp at h
    · split at h
      · simp only [List.mem_cons, List.not_mem_nil, or_false] at h
        rcases h with h | h
        · subst h; exact fault_sl _ _ _ (by omega)
        · subst h; exact fault_sl _ _ _ (by omega)
      · rw [List.mem_singleton] at h; subst h
        exact fault_sl _ _ _ (by omega)
theorem zigs_l0 (v c c2 : Int) (hv : -65535 ≤ v ∧ v ≤ 65535) : ∀ (d i k : Nat), i + d = (slotsL (zig v)).length → d + 60 < k → laws_FnZigs.l0 k v (i : Int) c (zig v : Int) c2 (slotsL (zig v)) = some true := by
  have hz : zig v < 131072 := by have := zig_bd hv; omega
  have hl := slotsL_len (zig v)
  intro d
  induction d with
  | zero =>
    intro i k hi hk
    obtain ⟨k, rfl⟩ : ∃ q, k = q + 1 := ⟨k - 1, by omega⟩
    simp only [laws_FnZigs.l0]
    rw [if_neg (by omega), impl_UnzigOf_eq, unz_zig hv, spec_SlotsOf_eq v k (by omega)]
    simp only [Option.bind_some, if_true]
    rw [if_pos (by omega), if_pos (by omega)]
    unfold slotsR
    rw [if_pos hv]
    simp
  | succ d ih =>
    intro i k hi hk
    obtain ⟨k, rfl⟩ : ∃ q, k = q + 1 := ⟨k - 1, by omega⟩
    simp only [laws_FnZigs.l0, rdT_nat]
    have hm : (slotsL (zig v)).getD i z57 ∈ slotsL (zig v) := by
      rw [List.getD_eq_getElem?_getD, List.getElem?_eq_getElem (by omega)]
      exact List.getElem_mem _
    rw [if_pos (by omega), if_pos (by omega), fault_all hz _ hm]
    simp only [Option.bind_some, if_true]
    rw [w64_succ i (by omega)]
    exact ih (i + 1) k (by omega) (by omega)
theorem zigs_j1 (v : Int) (K : Nat) (hK : 70 ≤ K) : laws_FnZigs.j1 (K + 1) v false (zR v).1 (zR v).2 (slotsR v).1 (slotsR v).2 = some true := by
  simp only [laws_FnZigs.j1]
  rw [if_neg (by decide)]
  unfold zR slotsR
  by_cases h : -65535 ≤ v ∧ v ≤ 65535
  · simp only [if_pos h, if_true]
    have hl := slotsL_len (zig v)
    exact zigs_l0 v 0 0 h _ 0 K (Nat.zero_add _) (by omega)
  · simp only [if_neg h]
    rw [if_neg (by decide)]
theorem zigs_mid (v cl : Int) (K : Nat) (hK : 70 ≤ K) : (if (cR cl).1 = 0 then (if ((cR cl).2.length : Int) = 1 then (if 0 < ((cR cl).2.length : Int) then ((impl_SlotFault.f ((rd_T57 (cR cl).2 0).f0) ((rd_T57 (cR cl).2 0).f1) ((rd_T57 (cR cl).2 0).f2)).bind fun t291 => (laws_FnZigs.j1 (K + 1) v (t291 != 0) (zR v).1 (zR v).2 (slotsR v).1 (slotsR v).2)) else (none)) else (laws_FnZigs.j1 (K + 1) v true (zR v).1 (zR v).2 (slotsR v).1 (slotsR v).2)) else (laws_FnZigs.j1 (K + 1) v false (zR v).1 (zR v).2 (slotsR v).1 (slotsR v).2)) = some true := by
  by_cases h : 0 ≤ cl ∧ cl ≤ 17
  · have e : cR cl = (0, [cls cl.toNat]) := by unfold cR; rw [if_pos h]
    have hf := fault_cls ⟨cl.toNat, by omega⟩
    have h0 : rd_T57 [cls cl.toNat] 0 = cls cl.toNat := rfl
    simp only [e, h0, List.length_singleton]
    rw [if_pos trivial, if_pos (by decide), if_pos (by decide), hf]
    exact zigs_j1 v K hK
  · have e : cR cl = (3, []) := by unfold cR; rw [if_neg h]
    simp only [e]
    rw [if_neg (by decide)]
    exact zigs_j1 v K hK
theorem zigs_j0 (v u cl : Int) (K : Nat) (hK : 70 ≤ K) : laws_FnZigs.j0 (K + 2) v u false (zR v).1 (zR v).2 (slotsR v).1 (slotsR v).2 (cR cl).1 (cR cl).2 (uR u).1 (uR u).2 = some true := by
  simp only [laws_FnZigs.j0]
  rw [if_neg (by decide)]
  by_cases h0 : (uR u).1 = 0
  · rw [if_pos h0, impl_ZigOf_eq]
    simp only [Option.bind_some]
    rw [if_pos (zig_unz h0)]
    exact zigs_mid v cl K hK
  · rw [if_neg h0]
    exact zigs_mid v cl K hK
theorem FnZigs : laws_FnZigs.Pure := by
  intro l0 h1 h2 h3
  have hc : Bytes l0 := fun x hx => u8_of_wf (h3 x hx)
  obtain ⟨v, hv⟩ := drawZig_ok hc
  obtain ⟨cl, hcl⟩ := drawClass_ok hc
  obtain ⟨u, hu⟩ := drawUnzig_ok hc
  refine ⟨102, ?_⟩
  have hj := zigs_j0 v u cl 100 (by omega)
  have e1 : (slotsR v).1 = (zR v).1 := by unfold slotsR zR; split <;> rfl
  unfold laws_FnZigs.f laws_lwBig.f
  simp only [Option.bind_some]
  split
  · rfl
  simp only [hv, hcl, hu, impl_ZigOf_eq, impl_SlotsOf_eq v 102 (by omega), impl_ClassSlot_eq cl 102 (by omega), impl_UnzigOf_eq, spec_ZigOf_eq, spec_ClassSlot_eq cl 102 (by omega), spec_UnzigOf_eq, Option.bind_some]
  rw [if_pos trivial, if_pos e1, if_pos trivial, bne_self_eq_false]
  exact hj

end Go.Proofs.Ytfolhiijdckfhaa.Pure
