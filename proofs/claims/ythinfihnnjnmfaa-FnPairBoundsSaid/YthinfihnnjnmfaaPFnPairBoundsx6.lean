-- Written by a program of this session: wip/mkprint.py over the kit's print, with contracts proved by hand (wip/given.py)
import Derived.Test.YthinfihnnjnmfaaPFnPairBoundsx0
import Derived.Test.YthinfihnnjnmfaaPFnPairBoundsx1
import Derived.Test.YthinfihnnjnmfaaPFnPairBoundsx2
import Derived.Test.YthinfihnnjnmfaaPFnPairBoundsx3
import Derived.Test.YthinfihnnjnmfaaPFnPairBoundsx4
import Derived.Test.YthinfihnnjnmfaaPFnPairBoundsx5
namespace Go.Proofs.Ythinfihnnjnmfaa.PFnPairBounds
open Go.RowKit Go.Proofs.YthinfihnnjnmfaaW.PrintWords Go.Proofs.YthinfihnnjnmfaaW.PrintLast Go.Proofs.YthinfihnnjnmfaaW.PrintMore
attribute [local go_sem] max2_int min2_int max_two min_two max_three min_three max_four min_four   -- for this text's walks alone
set_option linter.unusedVariables false
set_option linter.unusedSimpArgs false

/-! ### laws_FnPairBounds: function 3 -/
mutual
def laws_FnPairBounds.j0 : Nat → List Int → Int → Int → Int → Int → Int → Int → Bool → Int → Int → Int → Int → Int → Int → Option (Bool)
 | 0, _, _, _, _, _, _, _, _, _, _, _, _, _, _ => none
 | k + 1, x0, x3, x4, x5, x6, x9, x10, x59, x334000, x334001, x334002, x338000, x338001, x338002 => if x59 = true then (some false) else ((laws_lwBent.f k (([x5, x6] : List Int)) (([x9, x10] : List Int)) x0 3).bind fun t350 => (if x334000 = 0 then (if x338000 = 0 then (if x9 > 16777216 then (laws_FnPairBounds.j1 k x3 x4 x5 x6 x9 x10 t350 true x334000 x334001 x334002 x338000 x338001 x338002) else (if x10 > 16777216 then (laws_FnPairBounds.j1 k x3 x4 x5 x6 x9 x10 t350 true x334000 x334001 x334002 x338000 x338001 x338002) else ((laws_lwAbs.f x5).bind fun t353 => (if t353 > 268435456 then (laws_FnPairBounds.j1 k x3 x4 x5 x6 x9 x10 t350 true x334000 x334001 x334002 x338000 x338001 x338002) else ((laws_lwAbs.f x6).bind fun t354 => (laws_FnPairBounds.j1 k x3 x4 x5 x6 x9 x10 t350 (decide (t354 > 268435456)) x334000 x334001 x334002 x338000 x338001 x338002)))))) else (laws_FnPairBounds.j1 k x3 x4 x5 x6 x9 x10 t350 true x334000 x334001 x334002 x338000 x338001 x338002)) else (laws_FnPairBounds.j1 k x3 x4 x5 x6 x9 x10 t350 true x334000 x334001 x334002 x338000 x338001 x338002)))
def laws_FnPairBounds.j1 : Nat → Int → Int → Int → Int → Int → Int → List Int → Bool → Int → Int → Int → Int → Int → Int → Option (Bool)
 | 0, _, _, _, _, _, _, _, _, _, _, _, _, _, _ => none
 | k + 1, x3, x4, x5, x6, x9, x10, x13, x93, x334000, x334001, x334002, x338000, x338001, x338002 => if x93 = true then (some true) else ((impl_BackPair.f k x3 x4 x5 x6).bind fun bt355 => (if 0 < (x13.length : Int) then (if 1 < (x13.length : Int) then ((impl_BackPair.f k x3 x4 (rd x13 0) (rd x13 1)).bind fun bt361 => ((impl_PartPair.f x5 x6).bind fun bt365 => ((impl_PartPair.f (rd x13 0) (rd x13 1)).bind fun bt371 => (if bt355.1 = 0 then (if bt361.1 = 0 then (if bt365.1 = 0 then (laws_FnPairBounds.j2 k x3 x4 x9 x10 (bt371.1 != 0) x334000 x334001 x334002 x338000 x338001 x338002 bt355.1 bt355.2.1 bt355.2.2 bt361.1 bt361.2.1 bt361.2.2 bt365.1 bt365.2.1 bt365.2.2 bt371.1 bt371.2.1 bt371.2.2) else (laws_FnPairBounds.j2 k x3 x4 x9 x10 true x334000 x334001 x334002 x338000 x338001 x338002 bt355.1 bt355.2.1 bt355.2.2 bt361.1 bt361.2.1 bt361.2.2 bt365.1 bt365.2.1 bt365.2.2 bt371.1 bt371.2.1 bt371.2.2)) else (laws_FnPairBounds.j2 k x3 x4 x9 x10 true x334000 x334001 x334002 x338000 x338001 x338002 bt355.1 bt355.2.1 bt355.2.2 bt361.1 bt361.2.1 bt361.2.2 bt365.1 bt365.2.1 bt365.2.2 bt371.1 bt371.2.1 bt371.2.2)) else (laws_FnPairBounds.j2 k x3 x4 x9 x10 true x334000 x334001 x334002 x338000 x338001 x338002 bt355.1 bt355.2.1 bt355.2.2 bt361.1 bt361.2.1 bt361.2.2 bt365.1 bt365.2.1 bt365.2.2 bt371.1 bt371.2.1 bt371.2.2))))) else (none)) else (none)))
def laws_FnPairBounds.j2 : Nat → Int → Int → Int → Int → Bool → Int → Int → Int → Int → Int → Int → Int → Int → Int → Int → Int → Int → Int → Int → Int → Int → Int → Int → Option (Bool)
 | 0, _, _, _, _, _, _, _, _, _, _, _, _, _, _, _, _, _, _, _, _, _, _, _ => none
 | k + 1, x3, x4, x9, x10, x135, x334000, x334001, x334002, x338000, x338001, x338002, x359000, x359001, x359002, x365000, x365001, x365002, x369000, x369001, x369002, x375000, x375001, x375002 => if x135 = true then (some false) else ((laws_lwAbs.f (wrap64 (x359001 - x365001))).bind fun t375 => (if t375 ≤ x334001 then ((laws_lwAbs.f (wrap64 (x359002 - x365002))).bind fun t376 => (if t376 ≤ x334002 then ((laws_lwAbs.f (wrap64 (x369001 - x375001))).bind fun t377 => (if t377 ≤ x338001 then ((laws_lwAbs.f (wrap64 (x369002 - x375002))).bind fun t378 => (if t378 ≤ x338002 then ((spec_TurnBounds.f x3 x4 x9 x10).bind fun bt379 => (if x334001 = bt379.2.1 then ((spec_PartBounds.f x9 x10).bind fun bt382 => (some (x338002 == bt382.2.2))) else (some false))) else (some false))) else (some false))) else (some false))) else (some false)))
end
def laws_FnPairBounds.f (k : Nat) (l0 : List Int) : Option (Bool) := (laws_lwBig.f l0).bind fun t321 => (if t321 = true then (some true) else ((spec_DrawBackPair.f l0).bind fun bt322 => ((spec_DrawTurnBounds.f l0).bind fun bt326 => ((impl_TurnBounds.f k bt322.1 bt322.2.1 bt326.2.2.1 bt326.2.2.2).bind fun bt330 => ((impl_PartBounds.f bt326.2.2.1 bt326.2.2.2).bind fun bt334 => ((spec_TurnBounds.f bt322.1 bt322.2.1 bt326.2.2.1 bt326.2.2.2).bind fun bt338 => (if bt330.1 = bt338.1 then ((spec_PartBounds.f bt326.2.2.1 bt326.2.2.2).bind fun bt341 => (laws_FnPairBounds.j0 k l0 bt322.1 bt322.2.1 bt322.2.2.1 bt322.2.2.2 bt326.2.2.1 bt326.2.2.2 (bt334.1 != bt341.1) bt330.1 bt330.2.1 bt330.2.2 bt334.1 bt334.2.1 bt334.2.2)) else (laws_FnPairBounds.j0 k l0 bt322.1 bt322.2.1 bt322.2.2.1 bt322.2.2.2 bt326.2.2.1 bt326.2.2.2 true bt330.1 bt330.2.1 bt330.2.2 bt334.1 bt334.2.1 bt334.2.2))))))))
theorem laws_FnPairBounds.mono_l : ∀ k, (∀ y0 y1 y2 y3 y4 y5 y6 y7 y8 y9 y10 y11 y12 y13, LeO (laws_FnPairBounds.j0 k y0 y1 y2 y3 y4 y5 y6 y7 y8 y9 y10 y11 y12 y13) (laws_FnPairBounds.j0 (k + 1) y0 y1 y2 y3 y4 y5 y6 y7 y8 y9 y10 y11 y12 y13)) ∧ (∀ y0 y1 y2 y3 y4 y5 y6 y7 y8 y9 y10 y11 y12 y13, LeO (laws_FnPairBounds.j1 k y0 y1 y2 y3 y4 y5 y6 y7 y8 y9 y10 y11 y12 y13) (laws_FnPairBounds.j1 (k + 1) y0 y1 y2 y3 y4 y5 y6 y7 y8 y9 y10 y11 y12 y13)) ∧ (∀ y0 y1 y2 y3 y4 y5 y6 y7 y8 y9 y10 y11 y12 y13 y14 y15 y16 y17 y18 y19 y20 y21 y22, LeO (laws_FnPairBounds.j2 k y0 y1 y2 y3 y4 y5 y6 y7 y8 y9 y10 y11 y12 y13 y14 y15 y16 y17 y18 y19 y20 y21 y22) (laws_FnPairBounds.j2 (k + 1) y0 y1 y2 y3 y4 y5 y6 y7 y8 y9 y10 y11 y12 y13 y14 y15 y16 y17 y18 y19 y20 y21 y22))
 | 0 => ⟨fun _ _ _ _ _ _ _ _ _ _ _ _ _ _ r h => by simp [laws_FnPairBounds.j0] at h, fun _ _ _ _ _ _ _ _ _ _ _ _ _ _ r h => by simp [laws_FnPairBounds.j1] at h, fun _ _ _ _ _ _ _ _ _ _ _ _ _ _ _ _ _ _ _ _ _ _ _ r h => by simp [laws_FnPairBounds.j2] at h⟩
 | k + 1 => by
  obtain ⟨ih0, ih1, ih2⟩ := laws_FnPairBounds.mono_l k
  refine ⟨?_, ?_, ?_⟩
  ·intro y0 y1 y2 y3 y4 y5 y6 y7 y8 y9 y10 y11 y12 y13
   unfold laws_FnPairBounds.j0
   repeat' first
   | (with_reducible exact ih0 _ _ _ _ _ _ _ _ _ _ _ _ _ _)
   | (with_reducible exact ih1 _ _ _ _ _ _ _ _ _ _ _ _ _ _)
   | (with_reducible exact ih2 _ _ _ _ _ _ _ _ _ _ _ _ _ _ _ _ _ _ _ _ _ _ _)
   | (with_reducible exact impl_BackPair.mono _ _ _ _ _)
   | (with_reducible exact impl_TurnBounds.mono _ _ _ _ _)
   | (with_reducible exact laws_lwBent.mono _ _ _ _ _)
   | (with_reducible exact LeO.refl _)
   | (with_reducible exact LeO.none _)
   | (with_reducible refine LeO.ite ?_ ?_)
   | (with_reducible refine LeO.bind ?_ (fun _ => ?_))
   | exact ih0 _ _ _ _ _ _ _ _ _ _ _ _ _ _
   | exact ih1 _ _ _ _ _ _ _ _ _ _ _ _ _ _
   | exact ih2 _ _ _ _ _ _ _ _ _ _ _ _ _ _ _ _ _ _ _ _ _ _ _
   | exact impl_BackPair.mono _ _ _ _ _
   | exact impl_TurnBounds.mono _ _ _ _ _
   | exact laws_lwBent.mono _ _ _ _ _
   | exact LeO.none _
   | refine LeO.ite ?_ ?_
   | refine LeO.bind ?_ (fun _ => ?_)
  ·intro y0 y1 y2 y3 y4 y5 y6 y7 y8 y9 y10 y11 y12 y13
   unfold laws_FnPairBounds.j1
   repeat' first
   | (with_reducible exact ih0 _ _ _ _ _ _ _ _ _ _ _ _ _ _)
   | (with_reducible exact ih1 _ _ _ _ _ _ _ _ _ _ _ _ _ _)
   | (with_reducible exact ih2 _ _ _ _ _ _ _ _ _ _ _ _ _ _ _ _ _ _ _ _ _ _ _)
   | (with_reducible exact impl_BackPair.mono _ _ _ _ _)
   | (with_reducible exact impl_TurnBounds.mono _ _ _ _ _)
   | (with_reducible exact laws_lwBent.mono _ _ _ _ _)
   | (with_reducible exact LeO.refl _)
   | (with_reducible exact LeO.none _)
   | (with_reducible refine LeO.ite ?_ ?_)
   | (with_reducible refine LeO.bind ?_ (fun _ => ?_))
   | exact ih0 _ _ _ _ _ _ _ _ _ _ _ _ _ _
   | exact ih1 _ _ _ _ _ _ _ _ _ _ _ _ _ _
   | exact ih2 _ _ _ _ _ _ _ _ _ _ _ _ _ _ _ _ _ _ _ _ _ _ _
   | exact impl_BackPair.mono _ _ _ _ _
   | exact impl_TurnBounds.mono _ _ _ _ _
   | exact laws_lwBent.mono _ _ _ _ _
   | exact LeO.none _
   | refine LeO.ite ?_ ?_
   | refine LeO.bind ?_ (fun _ => ?_)
  ·intro y0 y1 y2 y3 y4 y5 y6 y7 y8 y9 y10 y11 y12 y13 y14 y15 y16 y17 y18 y19 y20 y21 y22
   unfold laws_FnPairBounds.j2
   repeat' first
   | (with_reducible exact ih0 _ _ _ _ _ _ _ _ _ _ _ _ _ _)
   | (with_reducible exact ih1 _ _ _ _ _ _ _ _ _ _ _ _ _ _)
   | (with_reducible exact ih2 _ _ _ _ _ _ _ _ _ _ _ _ _ _ _ _ _ _ _ _ _ _ _)
   | (with_reducible exact impl_BackPair.mono _ _ _ _ _)
   | (with_reducible exact impl_TurnBounds.mono _ _ _ _ _)
   | (with_reducible exact laws_lwBent.mono _ _ _ _ _)
   | (with_reducible exact LeO.refl _)
   | (with_reducible exact LeO.none _)
   | (with_reducible refine LeO.ite ?_ ?_)
   | (with_reducible refine LeO.bind ?_ (fun _ => ?_))
   | exact ih0 _ _ _ _ _ _ _ _ _ _ _ _ _ _
   | exact ih1 _ _ _ _ _ _ _ _ _ _ _ _ _ _
   | exact ih2 _ _ _ _ _ _ _ _ _ _ _ _ _ _ _ _ _ _ _ _ _ _ _
   | exact impl_BackPair.mono _ _ _ _ _
   | exact impl_TurnBounds.mono _ _ _ _ _
   | exact laws_lwBent.mono _ _ _ _ _
   | exact LeO.none _
   | refine LeO.ite ?_ ?_
   | refine LeO.bind ?_ (fun _ => ?_)
theorem laws_FnPairBounds.mono : ∀ a0 k, LeO (laws_FnPairBounds.f k a0) (laws_FnPairBounds.f (k + 1) a0) := by
 intro a0 k
 obtain ⟨ih0, ih1, ih2⟩ := laws_FnPairBounds.mono_l k
 unfold laws_FnPairBounds.f
 repeat' first
   | (with_reducible exact ih0 _ _ _ _ _ _ _ _ _ _ _ _ _ _)
   | (with_reducible exact ih1 _ _ _ _ _ _ _ _ _ _ _ _ _ _)
   | (with_reducible exact ih2 _ _ _ _ _ _ _ _ _ _ _ _ _ _ _ _ _ _ _ _ _ _ _)
   | (with_reducible exact impl_BackPair.mono _ _ _ _ _)
   | (with_reducible exact impl_TurnBounds.mono _ _ _ _ _)
   | (with_reducible exact laws_lwBent.mono _ _ _ _ _)
   | (with_reducible exact LeO.refl _)
   | (with_reducible exact LeO.none _)
   | (with_reducible refine LeO.ite ?_ ?_)
   | (with_reducible refine LeO.bind ?_ (fun _ => ?_))
   | exact ih0 _ _ _ _ _ _ _ _ _ _ _ _ _ _
   | exact ih1 _ _ _ _ _ _ _ _ _ _ _ _ _ _
   | exact ih2 _ _ _ _ _ _ _ _ _ _ _ _ _ _ _ _ _ _ _ _ _ _ _
   | exact impl_BackPair.mono _ _ _ _ _
   | exact impl_TurnBounds.mono _ _ _ _ _
   | exact laws_lwBent.mono _ _ _ _ _
   | exact LeO.none _
   | refine LeO.ite ?_ ?_
   | refine LeO.bind ?_ (fun _ => ?_)
def laws_FnPairBounds.T7 : Bool × List (List Nat × List Nat) := (true, [([], []), ([0], [0]), ([], []), ([], []), ([], []), ([], []), ([2, 3, 4, 5], [2, 3, 4, 5]), ([6], [6]), ([1, 7], [1, 7]), ([8, 6], [8]), ([9], [9]), ([10, 9], [9, 10]), ([9], [9]), ([9], [9]), ([12, 13, 9, 9], [9, 12, 13]), ([14, 9], [9, 14]), ([11, 15, 9], [9, 11, 15]), ([9, 16], [9, 16])])
def laws_FnPairBounds.B7 : List Nat := [0, 1, 0, 0, 0, 0, 60, 124, 255, 511, 1023, 2047, 1023, 1023, 13311, 29695, 65535, 131071]
theorem laws_FnPairBounds.tab7 : rtab .any (opsOf Try.f3 7) = laws_FnPairBounds.T7 := by kernel_rfl
theorem laws_FnPairBounds.bits7 : waitsOk laws_FnPairBounds.T7.2 laws_FnPairBounds.B7 = true := by kernel_rfl
def laws_FnPairBounds.T13 : Bool × List (List Nat × List Nat) := (true, [([], []), ([], []), ([], []), ([2], [2]), ([3], [3]), ([], []), ([5], [5]), ([6], [6]), ([0, 1, 4, 7], [0, 1, 4, 7]), ([], []), ([9, 8, 8, 0, 1, 2, 3, 4, 5, 6, 7, 8, 9], [8, 9])])
def laws_FnPairBounds.B13 : List Nat := [0, 0, 0, 4, 12, 0, 32, 96, 255, 0, 1023]
theorem laws_FnPairBounds.tab13 : rtab .any (opsOf Try.f3 13) = laws_FnPairBounds.T13 := by kernel_rfl
theorem laws_FnPairBounds.bits13 : waitsOk laws_FnPairBounds.T13.2 laws_FnPairBounds.B13 = true := by kernel_rfl
def laws_FnPairBounds.T15 : Bool × List (List Nat × List Nat) := (true, [([], []), ([0], [0]), ([1], [1]), ([], []), ([3], [3]), ([4], [4]), ([2, 5], [2, 5]), ([], []), ([7, 6, 6, 0, 1, 2, 3, 4, 5, 6, 7], [6, 7])])
def laws_FnPairBounds.B15 : List Nat := [0, 1, 3, 0, 8, 24, 63, 0, 255]
theorem laws_FnPairBounds.tab15 : rtab .any (opsOf Try.f3 15) = laws_FnPairBounds.T15 := by kernel_rfl
theorem laws_FnPairBounds.bits15 : waitsOk laws_FnPairBounds.T15.2 laws_FnPairBounds.B15 = true := by kernel_rfl
def laws_FnPairBounds.T18 : Bool × List (List Nat × List Nat) := (true, [([], []), ([0], [0]), ([], []), ([2], [2]), ([1, 3], [1, 3]), ([4], [4]), ([], []), ([6], [6]), ([5, 7], [5, 7]), ([8, 5], [8]), ([9], [9]), ([10, 9], [9, 10]), ([9], [9]), ([12, 9], [9, 12]), ([11, 13, 9], [9, 11, 13]), ([14, 9, 9], [9, 14]), ([9], [9]), ([16, 9], [9, 16]), ([15, 17, 9], [9, 15, 17]), ([9, 18], [9, 18]), ([19, 15], [19]), ([20], [20]), ([21, 20], [20, 21]), ([20], [20]), ([23, 20], [20, 23]), ([22, 24, 20], [20, 22, 24]), ([25, 20, 20], [20, 25]), ([20], [20]), ([27, 20], [20, 27]), ([26, 28, 20], [20, 26, 28]), ([20, 29], [20, 29]), ([30, 26], [30]), ([31], [31]), ([32, 31], [31, 32]), ([31], [31]), ([34, 31], [31, 34]), ([33, 35, 31], [31, 33, 35]), ([36, 31, 31], [31, 36]), ([31], [31]), ([38, 31], [31, 38]), ([37, 39, 31], [31, 37, 39]), ([31, 40], [31, 40]), ([41, 37], [41]), ([42], [42]), ([43, 42], [42, 43]), ([42], [42]), ([42], [42]), ([42], [42]), ([42], [42]), ([45, 46, 47, 48, 42, 42], [42, 45, 46, 47, 48]), ([49, 42], [42, 49]), ([44, 50, 42], [42, 44, 50]), ([42, 51], [42, 51]), ([52, 49], [52]), ([53], [53]), ([54, 53], [53, 54]), ([53], [53]), ([53], [53]), ([56, 57, 53, 53], [53, 56, 57]), ([58, 53], [53, 58]), ([55, 59, 53], [53, 55, 59]), ([53, 60], [53, 60]), ([61, 58, 0, 1, 2, 3, 4, 5, 6, 7, 8, 9, 10, 11, 12, 13, 14, 15, 16, 17, 18, 19, 20, 21, 22, 23, 24, 25, 26, 27, 28, 29, 30, 31, 32, 33, 34, 35, 36, 37, 38, 39, 40, 41, 42, 43, 44, 45, 46, 47, 48, 49, 50, 51, 52, 53, 54, 55, 56, 57, 58, 59, 60, 61], [61])])
def laws_FnPairBounds.B18 : List Nat := [0, 1, 0, 4, 15, 31, 0, 64, 255, 511, 1023, 2047, 1023, 5119, 16383, 32767, 1023, 66559, 262143, 524287, 1048575, 2097151, 4194303, 2097151, 10485759, 33554431, 67108863, 2097151, 136314879, 536870911, 1073741823, 2147483647, 4294967295, 8589934591, 4294967295, 21474836479, 68719476735, 137438953471, 4294967295, 279172874239, 1099511627775, 2199023255551, 4398046511103, 8796093022207, 17592186044415, 8796093022207, 8796093022207, 8796093022207, 8796093022207, 536561674354687, 1099511627775999, 2251799813685247, 4503599627370495, 9007199254740991, 18014398509481983, 36028797018963967, 18014398509481983, 18014398509481983, 234187180623265791, 522417556774977535, 1152921504606846975, 2305843009213693951, 4611686018427387903]
theorem laws_FnPairBounds.tab18 : rtab .any (opsOf Try.f3 18) = laws_FnPairBounds.T18 := by kernel_rfl
theorem laws_FnPairBounds.bits18 : waitsOk laws_FnPairBounds.T18.2 laws_FnPairBounds.B18 = true := by kernel_rfl
set_option maxHeartbeats 8000000 in
set_option maxRecDepth 100000 in
theorem laws_FnPairBounds.calls (k : Nat) (A0 : Option Addr) (c0 : Nat) (l0 : List Int) (r : Bool) (w : World) (hr0 : Kd.C (Kd.int .u8) w A0 l0.length l0) (hc0 : l0.length ≤ c0) (h : laws_FnPairBounds.f k l0 = some r) (hlaw : r = true := by rfl) :
  Calls Try.prog 3 #[.slice A0 l0.length c0] w fun e w' => e = .returned (.bool r) ∧ Below w.heap.size w w' := by
 have hu27 := Try.underlying27
 have hfd27_0 : ∀ (x0 x1 x2 : Value) (W : World), (Instr.field 27 (.agg #[x0, x1, x2]) 0).run Try.prog W = .ok (x0) W := fun _ _ _ _ => by kernel_rfl
 have hfd27_1 : ∀ (x0 x1 x2 : Value) (W : World), (Instr.field 27 (.agg #[x0, x1, x2]) 1).run Try.prog W = .ok (x1) W := fun _ _ _ _ => by kernel_rfl
 have hfd27_2 : ∀ (x0 x1 x2 : Value) (W : World), (Instr.field 27 (.agg #[x0, x1, x2]) 2).run Try.prog W = .ok (x2) W := fun _ _ _ _ => by kernel_rfl
 have HLAW := Aside0.mk hlaw
 clear hlaw
 have HR0 := Aside0.mk hr0
 have HC0 := Aside0.mk hc0
 clear hr0 hc0
 have HB := Aside0.mk (Below.refl w.heap.size w)
 have H : ((laws_lwBig.f l0).bind fun t321 => (if t321 = true then (some true) else ((spec_DrawBackPair.f l0).bind fun bt322 => ((spec_DrawTurnBounds.f l0).bind fun bt326 => ((impl_TurnBounds.f k bt322.1 bt322.2.1 bt326.2.2.1 bt326.2.2.2).bind fun bt330 => ((impl_PartBounds.f bt326.2.2.1 bt326.2.2.2).bind fun bt334 => ((spec_TurnBounds.f bt322.1 bt322.2.1 bt326.2.2.1 bt326.2.2.2).bind fun bt338 => (if bt330.1 = bt338.1 then ((spec_PartBounds.f bt326.2.2.1 bt326.2.2.2).bind fun bt341 => (laws_FnPairBounds.j0 k l0 bt322.1 bt322.2.1 bt322.2.2.1 bt322.2.2.2 bt326.2.2.1 bt326.2.2.2 (bt334.1 != bt341.1) bt330.1 bt330.2.1 bt330.2.2 bt334.1 bt334.2.1 bt334.2.2)) else (laws_FnPairBounds.j0 k l0 bt322.1 bt322.2.1 bt322.2.2.1 bt322.2.2.2 bt326.2.2.1 bt326.2.2.2 true bt330.1 bt330.2.1 bt330.2.2 bt334.1 bt334.2.1 bt334.2.2))))))))) = some r := h
 clear h
 replace H := Option.bind_eq_some_iff.mp H
 obtain ⟨t321, A20, H⟩ := H
 replace H : (if t321 = true then (some true) else ((spec_DrawBackPair.f l0).bind fun bt322 => ((spec_DrawTurnBounds.f l0).bind fun bt326 => ((impl_TurnBounds.f k bt322.1 bt322.2.1 bt326.2.2.1 bt326.2.2.2).bind fun bt330 => ((impl_PartBounds.f bt326.2.2.1 bt326.2.2.2).bind fun bt334 => ((spec_TurnBounds.f bt322.1 bt322.2.1 bt326.2.2.1 bt326.2.2.2).bind fun bt338 => (if bt330.1 = bt338.1 then ((spec_PartBounds.f bt326.2.2.1 bt326.2.2.2).bind fun bt341 => (laws_FnPairBounds.j0 k l0 bt322.1 bt322.2.1 bt322.2.2.1 bt322.2.2.2 bt326.2.2.1 bt326.2.2.2 (bt334.1 != bt341.1) bt330.1 bt330.2.1 bt330.2.2 bt334.1 bt334.2.1 bt334.2.2)) else (laws_FnPairBounds.j0 k l0 bt322.1 bt322.2.1 bt322.2.2.1 bt322.2.2.2 bt326.2.2.1 bt326.2.2.2 true bt330.1 bt330.2.1 bt330.2.2 bt334.1 bt334.2.1 bt334.2.2)))))))) = some r := H
 have A2 := Aside0.mk A20
 clear A20
 by_cases c3 : t321 = true
 ·subst c3
  have H1 : (some true) = some r := by rw [if_pos rfl] at H; exact H
  clear H
  have H := H1
  clear H1
  obtain rfl := Option.some.inj H
  go_enter Try.func3, Try.ntmps3
  go_wp2_with (first | ((with_reducible refine gate_callee (f := 4) rfl ?_); refine goesL_ (some 19) rfl rfl Try.func4 (by kernel_rfl) rfl #[.slice A0 l0.length c0] rfl (by first | rfl | (simp only [List.map_toArray, List.map_cons, List.map_nil]; rfl)) ?_; (with_reducible refine (laws_lwBig.calls _ _ l0 true _ ?side1 ?side2 A2.out).mono ?_); (case side1 => repeat (first | exact HR0.out | (with_reducible refine Kd.C_alloc ?_ _) | (with_reducible refine Kd.C_drewN ?_ _) | (with_reducible refine Kd.C_drew ?_))); (case side2 => exact HC0.out); rintro e w' ⟨rfl, ⟨nd, rfl⟩⟩; refine ⟨_, rfl, ?_⟩))
  go_ret
  exact ⟨by first | rfl | (simp [errW_none, errW_some] <;> rfl) | (simp [*, errW_none, errW_some] <;> rfl), by repeat (first | (with_reducible first | exact HB.out | apply below_alloc | apply pw_below_drewN | apply below_drew1) | exact HB.out)⟩
 ·replace c3 := Bool.eq_false_iff.mpr c3
  subst c3
  have H1 : ((spec_DrawBackPair.f l0).bind fun bt322 => ((spec_DrawTurnBounds.f l0).bind fun bt326 => ((impl_TurnBounds.f k bt322.1 bt322.2.1 bt326.2.2.1 bt326.2.2.2).bind fun bt330 => ((impl_PartBounds.f bt326.2.2.1 bt326.2.2.2).bind fun bt334 => ((spec_TurnBounds.f bt322.1 bt322.2.1 bt326.2.2.1 bt326.2.2.2).bind fun bt338 => (if bt330.1 = bt338.1 then ((spec_PartBounds.f bt326.2.2.1 bt326.2.2.2).bind fun bt341 => (laws_FnPairBounds.j0 k l0 bt322.1 bt322.2.1 bt322.2.2.1 bt322.2.2.2 bt326.2.2.1 bt326.2.2.2 (bt334.1 != bt341.1) bt330.1 bt330.2.1 bt330.2.2 bt334.1 bt334.2.1 bt334.2.2)) else (laws_FnPairBounds.j0 k l0 bt322.1 bt322.2.1 bt322.2.2.1 bt322.2.2.2 bt326.2.2.1 bt326.2.2.2 true bt330.1 bt330.2.1 bt330.2.2 bt334.1 bt334.2.1 bt334.2.2))))))) = some r := by rw [if_neg (show ¬ (false = true) by decide)] at H; exact H
  clear H
  have H := H1
  clear H1
  replace H := Option.bind_eq_some_iff.mp H
  obtain ⟨⟨t322, t323, t324, t325⟩, A40, H⟩ := H
  replace H : ((spec_DrawTurnBounds.f l0).bind fun bt326 => ((impl_TurnBounds.f k t322 t323 bt326.2.2.1 bt326.2.2.2).bind fun bt330 => ((impl_PartBounds.f bt326.2.2.1 bt326.2.2.2).bind fun bt334 => ((spec_TurnBounds.f t322 t323 bt326.2.2.1 bt326.2.2.2).bind fun bt338 => (if bt330.1 = bt338.1 then ((spec_PartBounds.f bt326.2.2.1 bt326.2.2.2).bind fun bt341 => (laws_FnPairBounds.j0 k l0 t322 t323 t324 t325 bt326.2.2.1 bt326.2.2.2 (bt334.1 != bt341.1) bt330.1 bt330.2.1 bt330.2.2 bt334.1 bt334.2.1 bt334.2.2)) else (laws_FnPairBounds.j0 k l0 t322 t323 t324 t325 bt326.2.2.1 bt326.2.2.2 true bt330.1 bt330.2.1 bt330.2.2 bt334.1 bt334.2.1 bt334.2.2)))))) = some r := H
  have A4 := Aside0.mk A40
  clear A40
  replace H := Option.bind_eq_some_iff.mp H
  obtain ⟨⟨t326, t327, t328, t329⟩, A50, H⟩ := H
  replace H : ((impl_TurnBounds.f k t322 t323 t328 t329).bind fun bt330 => ((impl_PartBounds.f t328 t329).bind fun bt334 => ((spec_TurnBounds.f t322 t323 t328 t329).bind fun bt338 => (if bt330.1 = bt338.1 then ((spec_PartBounds.f t328 t329).bind fun bt341 => (laws_FnPairBounds.j0 k l0 t322 t323 t324 t325 t328 t329 (bt334.1 != bt341.1) bt330.1 bt330.2.1 bt330.2.2 bt334.1 bt334.2.1 bt334.2.2)) else (laws_FnPairBounds.j0 k l0 t322 t323 t324 t325 t328 t329 true bt330.1 bt330.2.1 bt330.2.2 bt334.1 bt334.2.1 bt334.2.2))))) = some r := H
  have A5 := Aside0.mk A50
  clear A50
  replace H := Option.bind_eq_some_iff.mp H
  obtain ⟨⟨t330, t331, t332⟩, A60, H⟩ := H
  replace H : ((impl_PartBounds.f t328 t329).bind fun bt334 => ((spec_TurnBounds.f t322 t323 t328 t329).bind fun bt338 => (if t330 = bt338.1 then ((spec_PartBounds.f t328 t329).bind fun bt341 => (laws_FnPairBounds.j0 k l0 t322 t323 t324 t325 t328 t329 (bt334.1 != bt341.1) t330 t331 t332 bt334.1 bt334.2.1 bt334.2.2)) else (laws_FnPairBounds.j0 k l0 t322 t323 t324 t325 t328 t329 true t330 t331 t332 bt334.1 bt334.2.1 bt334.2.2)))) = some r := H
  have A6 := Aside0.mk A60
  clear A60
  replace H := Option.bind_eq_some_iff.mp H
  obtain ⟨⟨t334, t335, t336⟩, A70, H⟩ := H
  replace H : ((spec_TurnBounds.f t322 t323 t328 t329).bind fun bt338 => (if t330 = bt338.1 then ((spec_PartBounds.f t328 t329).bind fun bt341 => (laws_FnPairBounds.j0 k l0 t322 t323 t324 t325 t328 t329 (t334 != bt341.1) t330 t331 t332 t334 t335 t336)) else (laws_FnPairBounds.j0 k l0 t322 t323 t324 t325 t328 t329 true t330 t331 t332 t334 t335 t336))) = some r := H
  have A7 := Aside0.mk A70
  clear A70
  have HC8 := Aside0.mk H
  clear H
  go_enter Try.func3, Try.ntmps3
  go_upto_region 7 with (first | ((with_reducible refine gate_callee (f := 4) rfl ?_); refine goesL_ (some 19) rfl rfl Try.func4 (by kernel_rfl) rfl #[.slice A0 l0.length c0] rfl (by first | rfl | (simp only [List.map_toArray, List.map_cons, List.map_nil]; rfl)) ?_; (with_reducible refine (laws_lwBig.calls _ _ l0 false _ ?side1 ?side2 A2.out).mono ?_); (case side1 => repeat (first | exact HR0.out | (with_reducible refine Kd.C_alloc ?_ _) | (with_reducible refine Kd.C_drewN ?_ _) | (with_reducible refine Kd.C_drew ?_))); (case side2 => exact HC0.out); rintro e w' ⟨rfl, ⟨nd, rfl⟩⟩; refine ⟨_, rfl, ?_⟩) | ((with_reducible refine gate_callee (f := 5) rfl ?_); refine goesL_ (some 22) rfl rfl Try.func5 (by kernel_rfl) rfl #[.slice A0 l0.length c0] rfl (by first | rfl | (simp only [List.map_toArray, List.map_cons, List.map_nil]; rfl)) ?_; (with_reducible refine (spec_DrawBackPair.calls _ _ l0 t322 t323 t324 t325 _ ?side1 ?side2 A4.out).mono ?_); (case side1 => repeat (first | exact HR0.out | (with_reducible refine Kd.C_alloc ?_ _) | (with_reducible refine Kd.C_drewN ?_ _) | (with_reducible refine Kd.C_drew ?_))); (case side2 => exact HC0.out); rintro e w9 ⟨rfl, hb⟩; refine ⟨_, rfl, ?_⟩; have n0_ := Aside0.mk (below_step (by repeat (first | exact HB.out | apply below_alloc | apply pw_below_drewN | apply below_drew1)) hb); clear HB; have HB := n0_; clear n0_; (try clear hb)) | ((with_reducible refine gate_callee (f := 6) rfl ?_); refine goesL_ (some 29) rfl rfl Try.func6 (by kernel_rfl) rfl #[.slice A0 l0.length c0] rfl (by first | rfl | (simp only [List.map_toArray, List.map_cons, List.map_nil]; rfl)) ?_; (with_reducible refine (spec_DrawTurnBounds.calls _ _ l0 t326 t327 t328 t329 _ ?side1 ?side2 A5.out).mono ?_); (case side1 => repeat (first | exact (Kd.C_below HR0.out HB.out) | (with_reducible refine Kd.C_alloc ?_ _) | (with_reducible refine Kd.C_drewN ?_ _) | (with_reducible refine Kd.C_drew ?_))); (case side2 => exact HC0.out); rintro e w10 ⟨rfl, hb⟩; refine ⟨_, rfl, ?_⟩; have n0_ := Aside0.mk (below_step (by repeat (first | exact HB.out | apply below_alloc | apply pw_below_drewN | apply below_drew1)) hb); clear HB; have HB := n0_; clear n0_; (try clear hb)) | ((with_reducible refine gate_callee (f := 7) rfl ?_); refine goesL_ (some 38) rfl rfl Try.func7 (by kernel_rfl) rfl #[.int .i64 t322, .int .i64 t323, .int .i64 t328, .int .i64 t329] rfl (by first | rfl | (simp only [List.map_toArray, List.map_cons, List.map_nil]; rfl)) ?_; (with_reducible refine (impl_TurnBounds.calls k t322 t323 t328 t329 t330 t331 t332 _ A6.out).mono ?_); rintro e w11 ⟨rfl, hb⟩; refine ⟨_, rfl, ?_⟩; have n0_ := Aside0.mk (below_step (by repeat (first | exact HB.out | apply below_alloc | apply pw_below_drewN | apply below_drew1)) hb); clear HB; have HB := n0_; clear n0_; (try clear hb)) | ((with_reducible refine gate_dst (N := 11) rfl ?_); refine box_event ?hg (N := 11) ?hd (cs := #[.int .i64 0, .int .i64 0, .int .i64 0]) (t := 27) ?hr ?_; (case hd => rfl); (case hg => rfl); (case hr => first | (go_simp; done) | (go_simp; rfl)); intro gb333 hg w12 hbox hb; have n0_ := Aside0.mk (below_step (by repeat (first | exact HB.out | apply below_alloc | apply pw_below_drewN | apply below_drew1)) hb); have n1_ := Aside0.mk (hbox); have n2_ := Aside0.mk ((by rw [hg]; exact (below_size (by repeat (first | exact HB.out | apply below_alloc | apply pw_below_drewN | apply below_drew1))) : w.heap.size ≤ gb333)); have n3_ := Aside0.mk ((by rw [hg]; exact (below_size (by repeat (first | exact HB.out | apply below_alloc | apply pw_below_drewN | apply below_drew1))) : w.heap.size ≤ gb333)); clear HB; have HB := n0_; have BK333 := n1_; have GW333 := n2_; have GE333 := n3_; clear n0_ n1_ n2_ n3_; clear hb hbox hg; have hcz13_0 : w12.cell? ⟨gb333, 0, none⟩ = some (.int .i64 0) := (blk_cell BK333.out 0).trans rfl; have hcz13_1 : w12.cell? ⟨gb333, 1, none⟩ = some (.int .i64 0) := (blk_cell BK333.out 1).trans rfl; have hcz13_2 : w12.cell? ⟨gb333, 2, none⟩ = some (.int .i64 0) := (blk_cell BK333.out 2).trans rfl; have hfz13_0 := blk_frozen BK333.out 0; have hfz13_1 := blk_frozen BK333.out 1; have hfz13_2 := blk_frozen BK333.out 2) | ((with_reducible refine gate_callee (f := 8) rfl ?_); refine goesL_ (some 41) rfl rfl Try.func8 (by kernel_rfl) rfl #[.int .i64 t328, .int .i64 t329] rfl (by first | rfl | (simp only [List.map_toArray, List.map_cons, List.map_nil]; rfl)) ?_; (with_reducible refine (impl_PartBounds.calls t328 t329 t334 t335 t336 _ A7.out).mono ?_); rintro e w14 ⟨rfl, hb⟩; refine ⟨_, rfl, ?_⟩; have n0_ := Aside0.mk (blk_below (g := gb333) (o := .cells #[.int .i64 t330, .int .i64 t331, .int .i64 t332] 27 (0, 0)) (by (with_reducible repeat (first | refine blk_drewN ?_ _ | refine blk_drew ?_ | refine blk_alloc ?_ _)); refine blk_put (cs := #[.int .i64 t330, .int .i64 t331, .int .i64 0]) ?_ 2 _ rfl; (with_reducible repeat (first | refine blk_drewN ?_ _ | refine blk_drew ?_ | refine blk_alloc ?_ _)); refine blk_put (cs := #[.int .i64 t330, .int .i64 0, .int .i64 0]) ?_ 1 _ rfl; (with_reducible repeat (first | refine blk_drewN ?_ _ | refine blk_drew ?_ | refine blk_alloc ?_ _)); refine blk_put (cs := #[.int .i64 0, .int .i64 0, .int .i64 0]) ?_ 0 _ rfl; (with_reducible repeat (first | refine blk_drewN ?_ _ | refine blk_drew ?_ | refine blk_alloc ?_ _)); exact BK333.out) hb); have n1_ := Aside0.mk (below_step (by repeat (first | (with_reducible first | exact HB.out | apply below_alloc | apply pw_below_drewN | apply below_drew1 | refine below_set ?_ GE333.out) | exact HB.out)) hb); clear BK333; clear HB; have BK333 := n0_; have HB := n1_; clear n0_ n1_; (try clear hb)) | ((with_reducible refine gate_dst (N := 12) rfl ?_); refine box_event ?hg (N := 12) ?hd (cs := #[.int .i64 0, .int .i64 0, .int .i64 0]) (t := 27) ?hr ?_; (case hd => rfl); (case hg => rfl); (case hr => first | (go_simp; done) | (go_simp; rfl)); intro gb337 hg w15 hbox hb; have n0_ := Aside0.mk (blk_below (g := gb333) (o := .cells #[.int .i64 t330, .int .i64 t331, .int .i64 t332] 27 (0, 0)) (by (with_reducible repeat (first | refine blk_drewN ?_ _ | refine blk_drew ?_ | refine blk_alloc ?_ _)); exact BK333.out) hb); have n1_ := Aside0.mk (below_step (by repeat (first | (with_reducible first | exact HB.out | apply below_alloc | apply pw_below_drewN | apply below_drew1 | refine below_set ?_ GE333.out) | exact HB.out)) hb); have n2_ := Aside0.mk (hbox); have n3_ := Aside0.mk ((by rw [hg]; exact (below_size (by repeat (first | (with_reducible first | exact HB.out | apply below_alloc | apply pw_below_drewN | apply below_drew1 | refine below_set ?_ GE333.out) | exact HB.out))) : w.heap.size ≤ gb337)); have n4_ := Aside0.mk ((by rw [hg]; exact (below_size (by repeat (first | (with_reducible first | exact HB.out | apply below_alloc | apply pw_below_drewN | apply below_drew1 | refine below_set ?_ GE333.out) | exact HB.out))) : w.heap.size ≤ gb337)); have n5_ := Aside0.mk ((by rw [hg]; exact Nat.ne_of_lt (blk_lt (g := gb333) (o := .cells #[.int .i64 t330, .int .i64 t331, .int .i64 t332] 27 (0, 0)) (by (with_reducible repeat (first | refine blk_drewN ?_ _ | refine blk_drew ?_ | refine blk_alloc ?_ _)); exact BK333.out)) : gb333 ≠ gb337)); have n6_ := Aside0.mk ((by rw [hg]; exact Nat.ne_of_gt (blk_lt (g := gb333) (o := .cells #[.int .i64 t330, .int .i64 t331, .int .i64 t332] 27 (0, 0)) (by (with_reducible repeat (first | refine blk_drewN ?_ _ | refine blk_drew ?_ | refine blk_alloc ?_ _)); exact BK333.out)) : gb337 ≠ gb333)); clear BK333; clear HB; have BK333 := n0_; have HB := n1_; have BK337 := n2_; have GW337 := n3_; have GE337 := n4_; have NB333_337 := n5_; have NB337_333 := n6_; clear n0_ n1_ n2_ n3_ n4_ n5_ n6_; clear hb hbox hg; have hnb16 := NB337_333.out; have hnc16 := NB333_337.out; have hcz17_0 : w15.cell? ⟨gb337, 0, none⟩ = some (.int .i64 0) := (blk_cell BK337.out 0).trans rfl; have hcz17_1 : w15.cell? ⟨gb337, 1, none⟩ = some (.int .i64 0) := (blk_cell BK337.out 1).trans rfl; have hcz17_2 : w15.cell? ⟨gb337, 2, none⟩ = some (.int .i64 0) := (blk_cell BK337.out 2).trans rfl; have hfz17_0 := blk_frozen BK337.out 0; have hfz17_1 := blk_frozen BK337.out 1; have hfz17_2 := blk_frozen BK337.out 2))
  (try simp only [Act.put, pa, pb, pc])
  go_cut [59] (fun v59 wc => ∃ (kq : Nat) (x59_7 : Bool), v59 = .bool x59_7 ∧ Aside0 (laws_FnPairBounds.j0 kq l0 t322 t323 t324 t325 t328 t329 x59_7 t330 t331 t332 t334 t335 t336 = some r) ∧ Aside0 (kq ≤ k) ∧ Aside0 (wc.heap[gb333]? = some (.cells #[.int .i64 t330, .int .i64 t331, .int .i64 t332] 27 (0, 0))) ∧ Aside0 (wc.heap[gb337]? = some (.cells #[.int .i64 t334, .int .i64 t335, .int .i64 t336] 27 (0, 0))) ∧ Aside0 (Below w.heap.size w wc))
  case first =>
   have H := HC8.out
   clear HC8
   replace H := Option.bind_eq_some_iff.mp H
   obtain ⟨⟨t338, t339, t340⟩, A180, H⟩ := H
   replace H : (if t330 = t338 then ((spec_PartBounds.f t328 t329).bind fun bt341 => (laws_FnPairBounds.j0 k l0 t322 t323 t324 t325 t328 t329 (t334 != bt341.1) t330 t331 t332 t334 t335 t336)) else (laws_FnPairBounds.j0 k l0 t322 t323 t324 t325 t328 t329 true t330 t331 t332 t334 t335 t336)) = some r := H
   have A18 := Aside0.mk A180
   clear A180
   by_cases c19 : t330 = t338
   ·rw [if_pos c19] at H
    have c19b0 : (t330 == t338) = true := beq_iff_eq.mpr c19
    have c19b1 : (t330 != t338) = false := bne_eq_false_iff_eq.mpr c19
    clear c19
    (first | rw [c19b0] | (simp only [i64_w, i32_w]; rw [c19b0]) | skip)
    replace H := Option.bind_eq_some_iff.mp H
    obtain ⟨⟨t341, t342, t343⟩, A200, H⟩ := H
    replace H : (laws_FnPairBounds.j0 k l0 t322 t323 t324 t325 t328 t329 (t334 != t341) t330 t331 t332 t334 t335 t336) = some r := H
    have A20 := Aside0.mk A200
    clear A200
    have H' := Aside0.mk H
    clear H
    try go_wp2
    have n0_ : Aside0 ((((w15.setCell ⟨gb337, 0, none⟩ (.int .i64 t334)).setCell ⟨gb337, 1, none⟩ (.int .i64 t335)).setCell ⟨gb337, 2, none⟩ (.int .i64 t336)).heap[gb333]? = some (.cells #[.int .i64 t330, .int .i64 t331, .int .i64 t332] 27 (0, 0))) := ⟨by (with_reducible repeat (first | refine blk_drewN ?_ _ | refine blk_drew ?_ | refine blk_alloc ?_ _)); refine blk_far ?_ NB333_337.out _; (with_reducible repeat (first | refine blk_drewN ?_ _ | refine blk_drew ?_ | refine blk_alloc ?_ _)); refine blk_far ?_ NB333_337.out _; (with_reducible repeat (first | refine blk_drewN ?_ _ | refine blk_drew ?_ | refine blk_alloc ?_ _)); refine blk_far ?_ NB333_337.out _; (with_reducible repeat (first | refine blk_drewN ?_ _ | refine blk_drew ?_ | refine blk_alloc ?_ _)); exact BK333.out⟩
    have n1_ : Aside0 ((((w15.setCell ⟨gb337, 0, none⟩ (.int .i64 t334)).setCell ⟨gb337, 1, none⟩ (.int .i64 t335)).setCell ⟨gb337, 2, none⟩ (.int .i64 t336)).heap[gb337]? = some (.cells #[.int .i64 t334, .int .i64 t335, .int .i64 t336] 27 (0, 0))) := ⟨by (with_reducible repeat (first | refine blk_drewN ?_ _ | refine blk_drew ?_ | refine blk_alloc ?_ _)); refine blk_put (cs := #[.int .i64 t334, .int .i64 t335, .int .i64 0]) ?_ 2 _ rfl; (with_reducible repeat (first | refine blk_drewN ?_ _ | refine blk_drew ?_ | refine blk_alloc ?_ _)); refine blk_put (cs := #[.int .i64 t334, .int .i64 0, .int .i64 0]) ?_ 1 _ rfl; (with_reducible repeat (first | refine blk_drewN ?_ _ | refine blk_drew ?_ | refine blk_alloc ?_ _)); refine blk_put (cs := #[.int .i64 0, .int .i64 0, .int .i64 0]) ?_ 0 _ rfl; (with_reducible repeat (first | refine blk_drewN ?_ _ | refine blk_drew ?_ | refine blk_alloc ?_ _)); exact BK337.out⟩
    have n2_ : Aside0 (Below w.heap.size w (((w15.setCell ⟨gb337, 0, none⟩ (.int .i64 t334)).setCell ⟨gb337, 1, none⟩ (.int .i64 t335)).setCell ⟨gb337, 2, none⟩ (.int .i64 t336))) := ⟨by repeat (first | (with_reducible first | exact HB.out | apply below_alloc | apply pw_below_drewN | apply below_drew1 | refine below_set ?_ GE333.out | refine below_set ?_ GE337.out) | exact HB.out)⟩
    (try clear BK333)
    (try clear BK337)
    (try clear HB)
    generalize (((w15.setCell ⟨gb337, 0, none⟩ (.int .i64 t334)).setCell ⟨gb337, 1, none⟩ (.int .i64 t335)).setCell ⟨gb337, 2, none⟩ (.int .i64 t336)) = w21 at n0_ n1_ n2_ ⊢
    have BK333 := n0_
    have BK337 := n1_
    have HB := n2_
    clear n0_ n1_ n2_
    have n0_ := Aside0.mk (blk_drew BK333.out)
    have n1_ := Aside0.mk (blk_drew BK337.out)
    have n2_ := Aside0.mk (below_drew1 HB.out)
    clear BK333
    clear BK337
    clear HB
    have BK333 := n0_
    have BK337 := n1_
    have HB := n2_
    clear n0_ n1_ n2_
    as_aux_lemma =>
     refine start_ (n := 18) (S := fun w' => w'.cell? ⟨gb333, 0, none⟩ = some (.int .i64 t330) ∧ w'.cell? ⟨gb333, 1, none⟩ = some (.int .i64 t331) ∧ w'.cell? ⟨gb333, 2, none⟩ = some (.int .i64 t332) ∧ w'.cell? ⟨gb337, 0, none⟩ = some (.int .i64 t334) ∧ w'.cell? ⟨gb337, 1, none⟩ = some (.int .i64 t335) ∧ w'.cell? ⟨gb337, 2, none⟩ = some (.int .i64 t336)) (ds := []) #[N, N, N, N, N, N, N, N, N, N, N, N, N, N, N, N, N, N] (by kernel_rfl) rfl rfl ⟨(blk_cell BK333.out 0).trans rfl, (blk_cell BK333.out 1).trans rfl, (blk_cell BK333.out 2).trans rfl, (blk_cell BK337.out 0).trans rfl, (blk_cell BK337.out 1).trans rfl, (blk_cell BK337.out 2).trans rfl⟩ (fun hHeld => ?_); refine with_tabW laws_FnPairBounds.tab7 laws_FnPairBounds.bits7 (fun HT_ HW_ => ?_)
     generalize w21.drew = w22 at BK333 BK337 HB hHeld ⊢
     refine pure_ (i := 0) (N := some 42) (v := ?_) (a' := ?_) #[Y, N, N, N, N, N, N, N, N, N, N, N, N, N, N, N, N, N] rfl rfl (any_of HT_.out (by kernel_rfl)) (fun _ _ _ h => h) (Or.inl ⟨by rfl, ?_⟩) ?_ ?_
     rotate_left
     ·intro w'
      go_simp
      with_reducible rfl
     rotate_left
     ·simp only [Act.put, pa, pb, pc, i64_w, i32_w]
      rfl
     refine pure_ (i := 2) (N := some 44) (v := ?_) (a' := ?_) #[Y, N, Y, N, N, N, N, N, N, N, N, N, N, N, N, N, N, N] rfl rfl (any_of HT_.out (by kernel_rfl)) (fun _ _ _ h => h) (Or.inl ⟨by rfl, ?_⟩) ?_ ?_
     rotate_left
     ·intro w'
      go_simp
      with_reducible rfl
     rotate_left
     ·simp only [Act.put, pa, pb, pc, i64_w, i32_w]
      rfl
     refine pure_ (i := 3) (N := some 45) (v := ?_) (a' := ?_) #[Y, N, Y, Y, N, N, N, N, N, N, N, N, N, N, N, N, N, N] rfl rfl (any_of HT_.out (by kernel_rfl)) (fun _ _ _ h => h) (Or.inl ⟨by rfl, ?_⟩) ?_ ?_
     rotate_left
     ·intro w'
      go_simp
      with_reducible rfl
     rotate_left
     ·simp only [Act.put, pa, pb, pc, i64_w, i32_w]
      rfl
     refine pure_ (i := 4) (N := some 46) (v := ?_) (a' := ?_) #[Y, N, Y, Y, Y, N, N, N, N, N, N, N, N, N, N, N, N, N] rfl rfl (any_of HT_.out (by kernel_rfl)) (fun _ _ _ h => h) (Or.inl ⟨by rfl, ?_⟩) ?_ ?_
     rotate_left
     ·intro w'
      go_simp
      with_reducible rfl
     rotate_left
     ·simp only [Act.put, pa, pb, pc, i64_w, i32_w]
      rfl
     refine pure_ (i := 5) (N := some 47) (v := ?_) (a' := ?_) #[Y, N, Y, Y, Y, Y, N, N, N, N, N, N, N, N, N, N, N, N] rfl rfl (any_of HT_.out (by kernel_rfl)) (fun _ _ _ h => h) (Or.inl ⟨by rfl, ?_⟩) ?_ ?_
     rotate_left
     ·intro w'
      go_simp
      with_reducible rfl
     rotate_left
     ·simp only [Act.put, pa, pb, pc, i64_w, i32_w]
      rfl
     refine take_ (i := 1) (N := some 43) (v := ?_) (a' := ?_) #[Y, Y, Y, Y, Y, Y, N, N, N, N, N, N, N, N, N, N, N, N] rfl rfl (take_ofW HT_.out HW_.out (by kernel_rfl)) (fun _ _ _ h => h) (Or.inl ⟨by rfl, ?_⟩) hHeld ?_ ?_
     rotate_left
     ·rintro w' ⟨s0, s1, s2, s3, s4, s5⟩
      go_simp
      with_reducible rfl
     rotate_left
     ·simp only [Act.put, pa, pb, pc, i64_w, i32_w]
      rfl
     refine one_ (i := 6) (N := some 48) #[Y, Y, Y, Y, Y, Y, Y, N, N, N, N, N, N, N, N, N, N, N] rfl rfl (one_of HT_.out (by kernel_rfl)) (by decide) (fun K hK => ?_)
     refine goes_ Try.func9 (by kernel_rfl) rfl #[.int .i64 t322, .int .i64 t323, .int .i64 t328, .int .i64 t329] (by rfl) rfl rfl (by first | rfl | (simp only [List.map_toArray, List.map_cons, List.map_nil]; rfl)) ?_
     with_reducible refine (spec_TurnBounds.calls t322 t323 t328 t329 t338 t339 t340 _ A18.out).mono ?_
     rintro e w23 ⟨rfl, hb⟩
     refine ⟨_, rfl, ?_⟩
     have n0_ := Aside0.mk (blk_below (g := gb333) (o := .cells #[.int .i64 t330, .int .i64 t331, .int .i64 t332] 27 (0, 0)) (by (with_reducible repeat (first | refine blk_drewN ?_ _ | refine blk_drew ?_ | refine blk_alloc ?_ _)); exact BK333.out) hb)
     have n1_ := Aside0.mk (blk_below (g := gb337) (o := .cells #[.int .i64 t334, .int .i64 t335, .int .i64 t336] 27 (0, 0)) (by (with_reducible repeat (first | refine blk_drewN ?_ _ | refine blk_drew ?_ | refine blk_alloc ?_ _)); exact BK337.out) hb)
     have n2_ := Aside0.mk (below_step (by repeat (first | (with_reducible first | exact HB.out | apply below_alloc | apply pw_below_drewN | apply below_drew1 | refine below_set ?_ GE333.out | refine below_set ?_ GE337.out) | exact HB.out)) hb)
     clear BK333
     clear BK337
     clear HB
     have BK333 := n0_
     have BK337 := n1_
     have HB := n2_
     clear n0_ n1_ n2_
     (try clear hb)
     (try clear hb2)
     (try clear hk)
     (try clear hi)
     refine hK.out _ _ ⟨(blk_cell BK333.out 0).trans rfl, (blk_cell BK333.out 1).trans rfl, (blk_cell BK333.out 2).trans rfl, (blk_cell BK337.out 0).trans rfl, (blk_cell BK337.out 1).trans rfl, (blk_cell BK337.out 2).trans rfl⟩ (fun hHeld => ?_)
     clear hK K
     refine norm_ (a' := ?_) ?_ ?_
     rotate_left
     ·show Act.put _ (some 48) _ = _
      simp only [Act.put, pa, pb, pc, i64_w, i32_w]
      rfl
     refine pure_ (i := 7) (N := some 49) (v := ?_) (a' := ?_) #[Y, Y, Y, Y, Y, Y, Y, Y, N, N, N, N, N, N, N, N, N, N] rfl rfl (any_of HT_.out (by kernel_rfl)) (fun _ _ _ h => h) (Or.inl ⟨by rfl, ?_⟩) ?_ ?_
     rotate_left
     ·intro w'
      go_simp
      with_reducible rfl
     rotate_left
     ·simp only [Act.put, pa, pb, pc, i64_w, i32_w]
      rfl
     refine pure_ (i := 8) (N := some 50) (v := ?_) (a' := ?_) #[Y, Y, Y, Y, Y, Y, Y, Y, Y, N, N, N, N, N, N, N, N, N] rfl rfl (any_of HT_.out (by kernel_rfl)) (fun _ _ _ h => h) (Or.inl ⟨by rfl, ?_⟩) ?_ ?_
     rotate_left
     ·intro w'
      go_simp
      with_reducible rfl
     rotate_left
     ·simp only [Act.put, pa, pb, pc, i64_w, i32_w]
      rfl
     refine pure_ (i := 9) (N := some 51) (v := ?_) (a' := ?_) #[Y, Y, Y, Y, Y, Y, Y, Y, Y, Y, N, N, N, N, N, N, N, N] rfl rfl (any_of HT_.out (by kernel_rfl)) (fun _ _ _ h => h) (Or.inl ⟨by rfl, ?_⟩) ?_ ?_
     rotate_left
     ·intro w'
      go_simp
      with_reducible rfl
     rotate_left
     ·simp only [Act.put, pa, pb, pc, i64_w, i32_w]
      rfl
     refine pure_ (i := 10) (N := some 52) (v := ?_) (a' := ?_) #[Y, Y, Y, Y, Y, Y, Y, Y, Y, Y, Y, N, N, N, N, N, N, N] rfl rfl (any_of HT_.out (by kernel_rfl)) (fun _ _ _ h => h) (Or.inl ⟨by rfl, ?_⟩) ?_ ?_
     rotate_left
     ·intro w'
      go_simp
      with_reducible rfl
     rotate_left
     ·simp only [Act.put, pa, pb, pc, i64_w, i32_w]
      rfl
     refine pure_ (i := 12) (N := some 54) (v := ?_) (a' := ?_) #[Y, Y, Y, Y, Y, Y, Y, Y, Y, Y, Y, N, Y, N, N, N, N, N] rfl rfl (any_of HT_.out (by kernel_rfl)) (fun _ _ _ h => h) (Or.inl ⟨by rfl, ?_⟩) ?_ ?_
     rotate_left
     ·intro w'
      go_simp
      with_reducible rfl
     rotate_left
     ·simp only [Act.put, pa, pb, pc, i64_w, i32_w]
      rfl
     refine pure_ (i := 13) (N := some 55) (v := ?_) (a' := ?_) #[Y, Y, Y, Y, Y, Y, Y, Y, Y, Y, Y, N, Y, Y, N, N, N, N] rfl rfl (any_of HT_.out (by kernel_rfl)) (fun _ _ _ h => h) (Or.inl ⟨by rfl, ?_⟩) ?_ ?_
     rotate_left
     ·intro w'
      go_simp
      with_reducible rfl
     rotate_left
     ·simp only [Act.put, pa, pb, pc, i64_w, i32_w]
      rfl
     refine take_ (i := 11) (N := some 53) (v := ?_) (a' := ?_) #[Y, Y, Y, Y, Y, Y, Y, Y, Y, Y, Y, Y, Y, Y, N, N, N, N] rfl rfl (take_ofW HT_.out HW_.out (by kernel_rfl)) (fun _ _ _ h => h) (Or.inl ⟨by rfl, ?_⟩) hHeld ?_ ?_
     rotate_left
     ·rintro w' ⟨s0, s1, s2, s3, s4, s5⟩
      go_simp
      with_reducible rfl
     rotate_left
     ·simp only [Act.put, pa, pb, pc, i64_w, i32_w]
      rfl
     refine one_ (i := 14) (N := some 56) #[Y, Y, Y, Y, Y, Y, Y, Y, Y, Y, Y, Y, Y, Y, Y, N, N, N] rfl rfl (one_of HT_.out (by kernel_rfl)) (by decide) (fun K hK => ?_)
     refine goes_ Try.func10 (by kernel_rfl) rfl #[.int .i64 t328, .int .i64 t329] (by rfl) rfl rfl (by first | rfl | (simp only [List.map_toArray, List.map_cons, List.map_nil]; rfl)) ?_
     with_reducible refine (spec_PartBounds.calls t328 t329 t341 t342 t343 _ A20.out).mono ?_
     rintro e w24 ⟨rfl, hb⟩
     refine ⟨_, rfl, ?_⟩
     have n0_ := Aside0.mk (blk_below (g := gb333) (o := .cells #[.int .i64 t330, .int .i64 t331, .int .i64 t332] 27 (0, 0)) (by (with_reducible repeat (first | refine blk_drewN ?_ _ | refine blk_drew ?_ | refine blk_alloc ?_ _)); exact BK333.out) hb)
     have n1_ := Aside0.mk (blk_below (g := gb337) (o := .cells #[.int .i64 t334, .int .i64 t335, .int .i64 t336] 27 (0, 0)) (by (with_reducible repeat (first | refine blk_drewN ?_ _ | refine blk_drew ?_ | refine blk_alloc ?_ _)); exact BK337.out) hb)
     have n2_ := Aside0.mk (below_step (by repeat (first | (with_reducible first | exact HB.out | apply below_alloc | apply pw_below_drewN | apply below_drew1 | refine below_set ?_ GE333.out | refine below_set ?_ GE337.out) | exact HB.out)) hb)
     clear BK333
     clear BK337
     clear HB
     have BK333 := n0_
     have BK337 := n1_
     have HB := n2_
     clear n0_ n1_ n2_
     (try clear hb)
     (try clear hb2)
     (try clear hk)
     (try clear hi)
     refine hK.out _ _ ⟨(blk_cell BK333.out 0).trans rfl, (blk_cell BK333.out 1).trans rfl, (blk_cell BK333.out 2).trans rfl, (blk_cell BK337.out 0).trans rfl, (blk_cell BK337.out 1).trans rfl, (blk_cell BK337.out 2).trans rfl⟩ (fun hHeld => ?_)
     clear hK K
     refine norm_ (a' := ?_) ?_ ?_
     rotate_left
     ·show Act.put _ (some 56) _ = _
      simp only [Act.put, pa, pb, pc, i64_w, i32_w]
      rfl
     refine pure_ (i := 15) (N := some 57) (v := ?_) (a' := ?_) #[Y, Y, Y, Y, Y, Y, Y, Y, Y, Y, Y, Y, Y, Y, Y, Y, N, N] rfl rfl (any_of HT_.out (by kernel_rfl)) (fun _ _ _ h => h) (Or.inl ⟨by rfl, ?_⟩) ?_ ?_
     rotate_left
     ·intro w'
      go_simp
      with_reducible rfl
     rotate_left
     ·simp only [Act.put, pa, pb, pc, i64_w, i32_w]
      rfl
     refine pure_ (i := 16) (N := some 58) (v := ?_) (a' := ?_) #[Y, Y, Y, Y, Y, Y, Y, Y, Y, Y, Y, Y, Y, Y, Y, Y, Y, N] rfl rfl (any_of HT_.out (by kernel_rfl)) (fun _ _ _ h => h) (Or.inl ⟨by rfl, ?_⟩) ?_ ?_
     rotate_left
     ·intro w'
      go_simp
      with_reducible rfl
     rotate_left
     ·simp only [Act.put, pa, pb, pc, i64_w, i32_w]
      rfl
     refine pure_ (i := 17) (N := some 59) (v := ?_) (a' := ?_) #[Y, Y, Y, Y, Y, Y, Y, Y, Y, Y, Y, Y, Y, Y, Y, Y, Y, Y] rfl rfl (any_of HT_.out (by kernel_rfl)) (fun _ _ _ h => h) (Or.inl ⟨by rfl, ?_⟩) ?_ ?_
     rotate_left
     ·intro w'
      go_simp
      with_reducible rfl
     rotate_left
     ·simp only [Act.put, pa, pb, pc, i64_w, i32_w]
      rfl
     refine done_ (done_of HT_.out (by kernel_rfl)) ?_
     try go_wp2
     go_meet
     case rel => exact ⟨_, ((t334 != t341)), (by first | rfl | (simp; done) | (simp [*]; done)), H', ⟨by first | omega | exact Nat.le_refl _⟩, ⟨by (with_reducible repeat (first | refine blk_drewN ?_ _ | refine blk_drew ?_ | refine blk_alloc ?_ _)); exact BK333.out⟩, ⟨by (with_reducible repeat (first | refine blk_drewN ?_ _ | refine blk_drew ?_ | refine blk_alloc ?_ _)); exact BK337.out⟩, ⟨by repeat (first | (with_reducible first | exact HB.out | apply below_alloc | apply pw_below_drewN | apply below_drew1 | refine below_set ?_ GE333.out | refine below_set ?_ GE337.out) | exact HB.out)⟩⟩
   ·rw [if_neg c19] at H
    have c19b0 : (t330 == t338) = false := beq_eq_false_iff_ne.mpr c19
    have c19b1 : (t330 != t338) = true := bne_iff_ne.mpr c19
    (first | rw [c19b0] | (simp only [i64_w, i32_w]; rw [c19b0]) | skip)
    have H' := Aside0.mk H
    clear H
    try go_wp2
    have n0_ : Aside0 ((((w15.setCell ⟨gb337, 0, none⟩ (.int .i64 t334)).setCell ⟨gb337, 1, none⟩ (.int .i64 t335)).setCell ⟨gb337, 2, none⟩ (.int .i64 t336)).heap[gb333]? = some (.cells #[.int .i64 t330, .int .i64 t331, .int .i64 t332] 27 (0, 0))) := ⟨by (with_reducible repeat (first | refine blk_drewN ?_ _ | refine blk_drew ?_ | refine blk_alloc ?_ _)); refine blk_far ?_ NB333_337.out _; (with_reducible repeat (first | refine blk_drewN ?_ _ | refine blk_drew ?_ | refine blk_alloc ?_ _)); refine blk_far ?_ NB333_337.out _; (with_reducible repeat (first | refine blk_drewN ?_ _ | refine blk_drew ?_ | refine blk_alloc ?_ _)); refine blk_far ?_ NB333_337.out _; (with_reducible repeat (first | refine blk_drewN ?_ _ | refine blk_drew ?_ | refine blk_alloc ?_ _)); exact BK333.out⟩
    have n1_ : Aside0 ((((w15.setCell ⟨gb337, 0, none⟩ (.int .i64 t334)).setCell ⟨gb337, 1, none⟩ (.int .i64 t335)).setCell ⟨gb337, 2, none⟩ (.int .i64 t336)).heap[gb337]? = some (.cells #[.int .i64 t334, .int .i64 t335, .int .i64 t336] 27 (0, 0))) := ⟨by (with_reducible repeat (first | refine blk_drewN ?_ _ | refine blk_drew ?_ | refine blk_alloc ?_ _)); refine blk_put (cs := #[.int .i64 t334, .int .i64 t335, .int .i64 0]) ?_ 2 _ rfl; (with_reducible repeat (first | refine blk_drewN ?_ _ | refine blk_drew ?_ | refine blk_alloc ?_ _)); refine blk_put (cs := #[.int .i64 t334, .int .i64 0, .int .i64 0]) ?_ 1 _ rfl; (with_reducible repeat (first | refine blk_drewN ?_ _ | refine blk_drew ?_ | refine blk_alloc ?_ _)); refine blk_put (cs := #[.int .i64 0, .int .i64 0, .int .i64 0]) ?_ 0 _ rfl; (with_reducible repeat (first | refine blk_drewN ?_ _ | refine blk_drew ?_ | refine blk_alloc ?_ _)); exact BK337.out⟩
    have n2_ : Aside0 (Below w.heap.size w (((w15.setCell ⟨gb337, 0, none⟩ (.int .i64 t334)).setCell ⟨gb337, 1, none⟩ (.int .i64 t335)).setCell ⟨gb337, 2, none⟩ (.int .i64 t336))) := ⟨by repeat (first | (with_reducible first | exact HB.out | apply below_alloc | apply pw_below_drewN | apply below_drew1 | refine below_set ?_ GE333.out | refine below_set ?_ GE337.out) | exact HB.out)⟩
    (try clear BK333)
    (try clear BK337)
    (try clear HB)
    generalize (((w15.setCell ⟨gb337, 0, none⟩ (.int .i64 t334)).setCell ⟨gb337, 1, none⟩ (.int .i64 t335)).setCell ⟨gb337, 2, none⟩ (.int .i64 t336)) = w25 at n0_ n1_ n2_ ⊢
    have BK333 := n0_
    have BK337 := n1_
    have HB := n2_
    clear n0_ n1_ n2_
    have n0_ := Aside0.mk (blk_drew BK333.out)
    have n1_ := Aside0.mk (blk_drew BK337.out)
    have n2_ := Aside0.mk (below_drew1 HB.out)
    clear BK333
    clear BK337
    clear HB
    have BK333 := n0_
    have BK337 := n1_
    have HB := n2_
    clear n0_ n1_ n2_
    as_aux_lemma =>
     refine start_ (n := 18) (S := fun w' => w'.cell? ⟨gb333, 0, none⟩ = some (.int .i64 t330) ∧ w'.cell? ⟨gb333, 1, none⟩ = some (.int .i64 t331) ∧ w'.cell? ⟨gb333, 2, none⟩ = some (.int .i64 t332)) (ds := []) #[N, N, N, N, N, N, N, N, N, N, N, N, N, N, N, N, N, N] (by kernel_rfl) rfl rfl ⟨(blk_cell BK333.out 0).trans rfl, (blk_cell BK333.out 1).trans rfl, (blk_cell BK333.out 2).trans rfl⟩ (fun hHeld => ?_); refine with_tabW laws_FnPairBounds.tab7 laws_FnPairBounds.bits7 (fun HT_ HW_ => ?_)
     generalize w25.drew = w26 at BK333 BK337 HB hHeld ⊢
     refine pure_ (i := 0) (N := some 42) (v := ?_) (a' := ?_) #[Y, N, N, N, N, N, N, N, N, N, N, N, N, N, N, N, N, N] rfl rfl (any_of HT_.out (by kernel_rfl)) (fun _ _ _ h => h) (Or.inl ⟨by rfl, ?_⟩) ?_ ?_
     rotate_left
     ·intro w'
      go_simp
      with_reducible rfl
     rotate_left
     ·simp only [Act.put, pa, pb, pc, i64_w, i32_w]
      rfl
     refine pure_ (i := 2) (N := some 44) (v := ?_) (a' := ?_) #[Y, N, Y, N, N, N, N, N, N, N, N, N, N, N, N, N, N, N] rfl rfl (any_of HT_.out (by kernel_rfl)) (fun _ _ _ h => h) (Or.inl ⟨by rfl, ?_⟩) ?_ ?_
     rotate_left
     ·intro w'
      go_simp
      with_reducible rfl
     rotate_left
     ·simp only [Act.put, pa, pb, pc, i64_w, i32_w]
      rfl
     refine pure_ (i := 3) (N := some 45) (v := ?_) (a' := ?_) #[Y, N, Y, Y, N, N, N, N, N, N, N, N, N, N, N, N, N, N] rfl rfl (any_of HT_.out (by kernel_rfl)) (fun _ _ _ h => h) (Or.inl ⟨by rfl, ?_⟩) ?_ ?_
     rotate_left
     ·intro w'
      go_simp
      with_reducible rfl
     rotate_left
     ·simp only [Act.put, pa, pb, pc, i64_w, i32_w]
      rfl
     refine pure_ (i := 4) (N := some 46) (v := ?_) (a' := ?_) #[Y, N, Y, Y, Y, N, N, N, N, N, N, N, N, N, N, N, N, N] rfl rfl (any_of HT_.out (by kernel_rfl)) (fun _ _ _ h => h) (Or.inl ⟨by rfl, ?_⟩) ?_ ?_
     rotate_left
     ·intro w'
      go_simp
      with_reducible rfl
     rotate_left
     ·simp only [Act.put, pa, pb, pc, i64_w, i32_w]
      rfl
     refine pure_ (i := 5) (N := some 47) (v := ?_) (a' := ?_) #[Y, N, Y, Y, Y, Y, N, N, N, N, N, N, N, N, N, N, N, N] rfl rfl (any_of HT_.out (by kernel_rfl)) (fun _ _ _ h => h) (Or.inl ⟨by rfl, ?_⟩) ?_ ?_
     rotate_left
     ·intro w'
      go_simp
      with_reducible rfl
     rotate_left
     ·simp only [Act.put, pa, pb, pc, i64_w, i32_w]
      rfl
     refine take_ (i := 1) (N := some 43) (v := ?_) (a' := ?_) #[Y, Y, Y, Y, Y, Y, N, N, N, N, N, N, N, N, N, N, N, N] rfl rfl (take_ofW HT_.out HW_.out (by kernel_rfl)) (fun _ _ _ h => h) (Or.inl ⟨by rfl, ?_⟩) hHeld ?_ ?_
     rotate_left
     ·rintro w' ⟨s0, s1, s2⟩
      go_simp
      with_reducible rfl
     rotate_left
     ·simp only [Act.put, pa, pb, pc, i64_w, i32_w]
      rfl
     refine one_ (i := 6) (N := some 48) #[Y, Y, Y, Y, Y, Y, Y, N, N, N, N, N, N, N, N, N, N, N] rfl rfl (one_of HT_.out (by kernel_rfl)) (by decide) (fun K hK => ?_)
     refine goes_ Try.func9 (by kernel_rfl) rfl #[.int .i64 t322, .int .i64 t323, .int .i64 t328, .int .i64 t329] (by rfl) rfl rfl (by first | rfl | (simp only [List.map_toArray, List.map_cons, List.map_nil]; rfl)) ?_
     with_reducible refine (spec_TurnBounds.calls t322 t323 t328 t329 t338 t339 t340 _ A18.out).mono ?_
     rintro e w27 ⟨rfl, hb⟩
     refine ⟨_, rfl, ?_⟩
     have n0_ := Aside0.mk (blk_below (g := gb333) (o := .cells #[.int .i64 t330, .int .i64 t331, .int .i64 t332] 27 (0, 0)) (by (with_reducible repeat (first | refine blk_drewN ?_ _ | refine blk_drew ?_ | refine blk_alloc ?_ _)); exact BK333.out) hb)
     have n1_ := Aside0.mk (blk_below (g := gb337) (o := .cells #[.int .i64 t334, .int .i64 t335, .int .i64 t336] 27 (0, 0)) (by (with_reducible repeat (first | refine blk_drewN ?_ _ | refine blk_drew ?_ | refine blk_alloc ?_ _)); exact BK337.out) hb)
     have n2_ := Aside0.mk (below_step (by repeat (first | (with_reducible first | exact HB.out | apply below_alloc | apply pw_below_drewN | apply below_drew1 | refine below_set ?_ GE333.out | refine below_set ?_ GE337.out) | exact HB.out)) hb)
     clear BK333
     clear BK337
     clear HB
     have BK333 := n0_
     have BK337 := n1_
     have HB := n2_
     clear n0_ n1_ n2_
     (try clear hb)
     (try clear hb2)
     (try clear hk)
     (try clear hi)
     refine hK.out _ _ ⟨(blk_cell BK333.out 0).trans rfl, (blk_cell BK333.out 1).trans rfl, (blk_cell BK333.out 2).trans rfl⟩ (fun hHeld => ?_)
     clear hK K
     refine norm_ (a' := ?_) ?_ ?_
     rotate_left
     ·show Act.put _ (some 48) _ = _
      simp only [Act.put, pa, pb, pc, i64_w, i32_w]
      rfl
     refine pure_ (i := 7) (N := some 49) (v := ?_) (a' := ?_) #[Y, Y, Y, Y, Y, Y, Y, Y, N, N, N, N, N, N, N, N, N, N] rfl rfl (any_of HT_.out (by kernel_rfl)) (fun _ _ _ h => h) (Or.inl ⟨by rfl, ?_⟩) ?_ ?_
     rotate_left
     ·intro w'
      go_simp
      with_reducible rfl
     rotate_left
     ·simp only [Act.put, pa, pb, pc, i64_w, i32_w]
      rfl
     refine pure_ (i := 8) (N := some 50) (v := ?_) (a' := ?_) #[Y, Y, Y, Y, Y, Y, Y, Y, Y, N, N, N, N, N, N, N, N, N] rfl rfl (any_of HT_.out (by kernel_rfl)) (fun _ _ _ h => h) (Or.inl ⟨by rfl, ?_⟩) ?_ ?_
     rotate_left
     ·intro w'
      go_simp
      with_reducible rfl
     rotate_left
     ·simp only [Act.put, pa, pb, pc, i64_w, i32_w]
      rfl
     refine pure_ (i := 9) (N := some 51) (v := ?_) (a' := ?_) #[Y, Y, Y, Y, Y, Y, Y, Y, Y, Y, N, N, N, N, N, N, N, N] rfl rfl (any_of HT_.out (by kernel_rfl)) (fun _ _ _ h => h) (Or.inl ⟨by rfl, ?_⟩) ?_ ?_
     rotate_left
     ·intro w'
      go_simp
      with_reducible rfl
     rotate_left
     ·simp only [Act.put, pa, pb, pc, i64_w, i32_w]
      rfl
     refine pure_ (i := 10) (N := some 52) (v := undef) (a' := ?_) #[Y, Y, Y, Y, Y, Y, Y, Y, Y, Y, Y, N, N, N, N, N, N, N] rfl rfl (any_of HT_.out (by kernel_rfl)) (fun _ _ _ h => h) (Or.inr ⟨by rfl, rfl⟩) ?_ ?_
     rotate_left
     ·simp only [Act.put, pa, pb, pc, i64_w, i32_w]
      rfl
     refine pure_ (i := 11) (N := some 53) (v := undef) (a' := ?_) #[Y, Y, Y, Y, Y, Y, Y, Y, Y, Y, Y, Y, N, N, N, N, N, N] rfl rfl (any_of HT_.out (by kernel_rfl)) (fun _ _ _ h => h) (Or.inr ⟨by rfl, rfl⟩) ?_ ?_
     rotate_left
     ·simp only [Act.put, pa, pb, pc, i64_w, i32_w]
      rfl
     refine pure_ (i := 12) (N := some 54) (v := undef) (a' := ?_) #[Y, Y, Y, Y, Y, Y, Y, Y, Y, Y, Y, Y, Y, N, N, N, N, N] rfl rfl (any_of HT_.out (by kernel_rfl)) (fun _ _ _ h => h) (Or.inr ⟨by rfl, rfl⟩) ?_ ?_
     rotate_left
     ·simp only [Act.put, pa, pb, pc, i64_w, i32_w]
      rfl
     refine pure_ (i := 13) (N := some 55) (v := undef) (a' := ?_) #[Y, Y, Y, Y, Y, Y, Y, Y, Y, Y, Y, Y, Y, Y, N, N, N, N] rfl rfl (any_of HT_.out (by kernel_rfl)) (fun _ _ _ h => h) (Or.inr ⟨by rfl, rfl⟩) ?_ ?_
     rotate_left
     ·simp only [Act.put, pa, pb, pc, i64_w, i32_w]
      rfl
     refine pure_ (i := 14) (N := some 56) (v := undef) (a' := ?_) #[Y, Y, Y, Y, Y, Y, Y, Y, Y, Y, Y, Y, Y, Y, Y, N, N, N] rfl rfl (any_of HT_.out (by kernel_rfl)) (fun _ _ _ h => h) (Or.inr ⟨by rfl, rfl⟩) ?_ ?_
     rotate_left
     ·simp only [Act.put, pa, pb, pc, i64_w, i32_w]
      rfl
     refine pure_ (i := 15) (N := some 57) (v := undef) (a' := ?_) #[Y, Y, Y, Y, Y, Y, Y, Y, Y, Y, Y, Y, Y, Y, Y, Y, N, N] rfl rfl (any_of HT_.out (by kernel_rfl)) (fun _ _ _ h => h) (Or.inr ⟨by rfl, rfl⟩) ?_ ?_
     rotate_left
     ·simp only [Act.put, pa, pb, pc, i64_w, i32_w]
      rfl
     refine pure_ (i := 16) (N := some 58) (v := undef) (a' := ?_) #[Y, Y, Y, Y, Y, Y, Y, Y, Y, Y, Y, Y, Y, Y, Y, Y, Y, N] rfl rfl (any_of HT_.out (by kernel_rfl)) (fun _ _ _ h => h) (Or.inr ⟨by rfl, rfl⟩) ?_ ?_
     rotate_left
     ·simp only [Act.put, pa, pb, pc, i64_w, i32_w]
      rfl
     refine pure_ (i := 17) (N := some 59) (v := ?_) (a' := ?_) #[Y, Y, Y, Y, Y, Y, Y, Y, Y, Y, Y, Y, Y, Y, Y, Y, Y, Y] rfl rfl (any_of HT_.out (by kernel_rfl)) (fun _ _ _ h => h) (Or.inl ⟨by rfl, ?_⟩) ?_ ?_
     rotate_left
     ·intro w'
      go_simp
      with_reducible rfl
     rotate_left
     ·simp only [Act.put, pa, pb, pc, i64_w, i32_w]
      rfl
     refine done_ (done_of HT_.out (by kernel_rfl)) ?_
     try go_wp2
     go_meet
     case rel => exact ⟨_, (true), (by first | rfl | (simp; done) | (simp [*]; done)), H', ⟨by first | omega | exact Nat.le_refl _⟩, ⟨by (with_reducible repeat (first | refine blk_drewN ?_ _ | refine blk_drew ?_ | refine blk_alloc ?_ _)); exact BK333.out⟩, ⟨by (with_reducible repeat (first | refine blk_drewN ?_ _ | refine blk_drew ?_ | refine blk_alloc ?_ _)); exact BK337.out⟩, ⟨by repeat (first | (with_reducible first | exact HB.out | apply below_alloc | apply pw_below_drewN | apply below_drew1 | refine below_set ?_ GE333.out | refine below_set ?_ GE337.out) | exact HB.out)⟩⟩
  case rest =>
   clear HC8
   try clear c1
   try clear p2
   try clear c3
   try clear c4
   try clear c5
   try clear c6
   try clear c7
   try clear c8
   try clear c9
   try clear c10
   try clear c16
   try clear c19
   try clear c19b0
   try clear c19b1
   try clear hcz13_0
   try clear hcz13_1
   try clear hcz13_2
   try clear hcz17_0
   try clear hcz17_1
   try clear hcz17_2
   try clear hfz13_0
   try clear hfz13_1
   try clear hfz13_2
   try clear hfz17_0
   try clear hfz17_1
   try clear hfz17_2
   obtain ⟨kq, x59_7, rfl, HA, HJ7, BK333, BK337, HB⟩ := hcut
   cases kq with
   | zero => exact absurd HA.out (by simp [laws_FnPairBounds.j0])
   | succ kj7 =>
    have H := HA.out
    clear HA
    simp only [laws_FnPairBounds.j0] at H
    by_cases c28 : x59_7 = true
    ·subst c28
     have H1 : (some false) = some r := by rw [if_pos rfl] at H; exact H
     clear H
     have H := H1
     clear H1
     exact absurd (H.trans (congrArg some HLAW.out)) (by simp)
    ·replace c28 := Bool.eq_false_iff.mpr c28
     subst c28
     have H1 : ((laws_lwBent.f kj7 (([t324, t325] : List Int)) (([t328, t329] : List Int)) l0 3).bind fun t350 => (if t330 = 0 then (if t334 = 0 then (if t328 > 16777216 then (laws_FnPairBounds.j1 kj7 t322 t323 t324 t325 t328 t329 t350 true t330 t331 t332 t334 t335 t336) else (if t329 > 16777216 then (laws_FnPairBounds.j1 kj7 t322 t323 t324 t325 t328 t329 t350 true t330 t331 t332 t334 t335 t336) else ((laws_lwAbs.f t324).bind fun t353 => (if t353 > 268435456 then (laws_FnPairBounds.j1 kj7 t322 t323 t324 t325 t328 t329 t350 true t330 t331 t332 t334 t335 t336) else ((laws_lwAbs.f t325).bind fun t354 => (laws_FnPairBounds.j1 kj7 t322 t323 t324 t325 t328 t329 t350 (decide (t354 > 268435456)) t330 t331 t332 t334 t335 t336)))))) else (laws_FnPairBounds.j1 kj7 t322 t323 t324 t325 t328 t329 t350 true t330 t331 t332 t334 t335 t336)) else (laws_FnPairBounds.j1 kj7 t322 t323 t324 t325 t328 t329 t350 true t330 t331 t332 t334 t335 t336))) = some r := by rw [if_neg (show ¬ (false = true) by decide)] at H; exact H
     clear H
     have H := H1
     clear H1
     obtain ⟨y344, hy344⟩ : ∃ y_ : List Int, y_ = (([t324, t325] : List Int)) := ⟨_, rfl⟩
     replace H : ((laws_lwBent.f kj7 y344 (([t328, t329] : List Int)) l0 3).bind fun t350 => (if t330 = 0 then (if t334 = 0 then (if t328 > 16777216 then (laws_FnPairBounds.j1 kj7 t322 t323 t324 t325 t328 t329 t350 true t330 t331 t332 t334 t335 t336) else (if t329 > 16777216 then (laws_FnPairBounds.j1 kj7 t322 t323 t324 t325 t328 t329 t350 true t330 t331 t332 t334 t335 t336) else ((laws_lwAbs.f t324).bind fun t353 => (if t353 > 268435456 then (laws_FnPairBounds.j1 kj7 t322 t323 t324 t325 t328 t329 t350 true t330 t331 t332 t334 t335 t336) else ((laws_lwAbs.f t325).bind fun t354 => (laws_FnPairBounds.j1 kj7 t322 t323 t324 t325 t328 t329 t350 (decide (t354 > 268435456)) t330 t331 t332 t334 t335 t336)))))) else (laws_FnPairBounds.j1 kj7 t322 t323 t324 t325 t328 t329 t350 true t330 t331 t332 t334 t335 t336)) else (laws_FnPairBounds.j1 kj7 t322 t323 t324 t325 t328 t329 t350 true t330 t331 t332 t334 t335 t336))) = some r := by first | (rw [hy344]; with_reducible exact H) | (have H2_ := (Option.bind_some _ _).symm.trans H; rw [hy344]; with_reducible exact H2_) | (have H2_ := (Option.bind_some _ _).symm.trans H; with_reducible exact H2_) | with_reducible exact H | (rw [hy344]; exact H) | exact H
     have Ny344 := Aside0.mk hy344
     clear hy344
     obtain ⟨y347, hy347⟩ : ∃ y_ : List Int, y_ = (([t328, t329] : List Int)) := ⟨_, rfl⟩
     replace H : ((laws_lwBent.f kj7 y344 y347 l0 3).bind fun t350 => (if t330 = 0 then (if t334 = 0 then (if t328 > 16777216 then (laws_FnPairBounds.j1 kj7 t322 t323 t324 t325 t328 t329 t350 true t330 t331 t332 t334 t335 t336) else (if t329 > 16777216 then (laws_FnPairBounds.j1 kj7 t322 t323 t324 t325 t328 t329 t350 true t330 t331 t332 t334 t335 t336) else ((laws_lwAbs.f t324).bind fun t353 => (if t353 > 268435456 then (laws_FnPairBounds.j1 kj7 t322 t323 t324 t325 t328 t329 t350 true t330 t331 t332 t334 t335 t336) else ((laws_lwAbs.f t325).bind fun t354 => (laws_FnPairBounds.j1 kj7 t322 t323 t324 t325 t328 t329 t350 (decide (t354 > 268435456)) t330 t331 t332 t334 t335 t336)))))) else (laws_FnPairBounds.j1 kj7 t322 t323 t324 t325 t328 t329 t350 true t330 t331 t332 t334 t335 t336)) else (laws_FnPairBounds.j1 kj7 t322 t323 t324 t325 t328 t329 t350 true t330 t331 t332 t334 t335 t336))) = some r := by first | (rw [hy347]; with_reducible exact H) | (have H2_ := (Option.bind_some _ _).symm.trans H; rw [hy347]; with_reducible exact H2_) | (have H2_ := (Option.bind_some _ _).symm.trans H; with_reducible exact H2_) | with_reducible exact H | (rw [hy347]; exact H) | exact H
     have Ny347 := Aside0.mk hy347
     clear hy347
     replace H := Option.bind_eq_some_iff.mp H
     obtain ⟨t350, A290, H⟩ := H
     replace H : (if t330 = 0 then (if t334 = 0 then (if t328 > 16777216 then (laws_FnPairBounds.j1 kj7 t322 t323 t324 t325 t328 t329 t350 true t330 t331 t332 t334 t335 t336) else (if t329 > 16777216 then (laws_FnPairBounds.j1 kj7 t322 t323 t324 t325 t328 t329 t350 true t330 t331 t332 t334 t335 t336) else ((laws_lwAbs.f t324).bind fun t353 => (if t353 > 268435456 then (laws_FnPairBounds.j1 kj7 t322 t323 t324 t325 t328 t329 t350 true t330 t331 t332 t334 t335 t336) else ((laws_lwAbs.f t325).bind fun t354 => (laws_FnPairBounds.j1 kj7 t322 t323 t324 t325 t328 t329 t350 (decide (t354 > 268435456)) t330 t331 t332 t334 t335 t336)))))) else (laws_FnPairBounds.j1 kj7 t322 t323 t324 t325 t328 t329 t350 true t330 t331 t332 t334 t335 t336)) else (laws_FnPairBounds.j1 kj7 t322 t323 t324 t325 t328 t329 t350 true t330 t331 t332 t334 t335 t336)) = some r := H
     have A29 := Aside0.mk A290
     clear A290
     have HC30 := Aside0.mk H
     clear H
     go_upto_region 10 with (first | ((with_reducible refine gate_dst (N := 62) rfl ?_); refine Kd.R_lit (Kd.int .i64) _ 2 ?hg (N := 62) ?hd (xs := ([t324, t325] : List Int)) (inner := [.int .i64 t324, .int .i64 t325]) (ok := fun _ => True) (okp := fun _ => True) ?hr ?hp (fun _ hk => hk) trivial (Below.refl _ _) (Nat.le_refl _) (by simp) ?_; (case hd => rfl); (case hg => rfl); (case hr => first | (go_simp; done) | (go_simp; rfl)); (case hp => exact (Reps.one (show Kd.M (Kd.int .i64) _ _ _ t324 [.int .i64 t324] from rfl) (Reps.one (show Kd.M (Kd.int .i64) _ _ _ t325 [.int .i64 t325] from rfl) (Reps.none _ _)))); intro v345 w31 ho32 hb hg_ hnew_; clear hg_ hnew_; (first | rw [← Ny344.out] at ho32 | (simp only [Int.reduceToNat] at ho32; rw [← Ny344.out] at ho32)); have n0_ := Aside0.mk (Kd.R_lower ho32 (below_size (by repeat (first | (with_reducible first | exact HB.out | apply below_alloc | apply pw_below_drewN | apply below_drew1 | refine below_set ?_ GE333.out | refine below_set ?_ GE337.out) | exact HB.out)))); have n1_ := Aside0.mk (blk_below (g := gb333) (o := .cells #[.int .i64 t330, .int .i64 t331, .int .i64 t332] 27 (0, 0)) (by (with_reducible repeat (first | refine blk_drewN ?_ _ | refine blk_drew ?_ | refine blk_alloc ?_ _)); exact BK333.out) hb); have n2_ := Aside0.mk (blk_below (g := gb337) (o := .cells #[.int .i64 t334, .int .i64 t335, .int .i64 t336] 27 (0, 0)) (by (with_reducible repeat (first | refine blk_drewN ?_ _ | refine blk_drew ?_ | refine blk_alloc ?_ _)); exact BK337.out) hb); have n3_ := Aside0.mk (below_step (by repeat (first | (with_reducible first | exact HB.out | apply below_alloc | apply pw_below_drewN | apply below_drew1 | refine below_set ?_ GE333.out | refine below_set ?_ GE337.out) | exact HB.out)) hb); clear BK333; clear BK337; clear HB; have HO346 := n0_; have BK333 := n1_; have BK337 := n2_; have HB := n3_; clear n0_ n1_ n2_ n3_; clear hb ho32) | ((with_reducible refine gate_dst (N := 65) rfl ?_); refine Kd.R_lit (Kd.int .i64) _ 2 ?hg (N := 65) ?hd (xs := ([t328, t329] : List Int)) (inner := [.int .i64 t328, .int .i64 t329]) (ok := fun _ => True) (okp := fun _ => True) ?hr ?hp (fun _ hk => hk) trivial (Below.refl _ _) (Nat.le_refl _) (by simp) ?_; (case hd => rfl); (case hg => rfl); (case hr => first | (go_simp; done) | (go_simp; rfl)); (case hp => exact (Reps.one (show Kd.M (Kd.int .i64) _ _ _ t328 [.int .i64 t328] from rfl) (Reps.one (show Kd.M (Kd.int .i64) _ _ _ t329 [.int .i64 t329] from rfl) (Reps.none _ _)))); intro v348 w33 ho34 hb hg_ hnew_; clear hg_ hnew_; (first | rw [← Ny347.out] at ho34 | (simp only [Int.reduceToNat] at ho34; rw [← Ny347.out] at ho34)); have n0_ := Aside0.mk (Kd.R_elder' (by (with_reducible repeat (first | apply Kd.R_alloc | apply Kd.R_drewN | apply Kd.R_drew)); exact HO346.out) (Kd.R_base ho34) hb); have n1_ := Aside0.mk (Kd.R_lower (Kd.R_new' ho34 (Kd.R_lt (by (with_reducible repeat (first | apply Kd.R_alloc | apply Kd.R_drewN | apply Kd.R_drew)); exact HO346.out))) (below_size (by repeat (first | (with_reducible first | exact HB.out | apply below_alloc | apply pw_below_drewN | apply below_drew1 | refine below_set ?_ GE333.out | refine below_set ?_ GE337.out) | exact HB.out)))); have n2_ := Aside0.mk (blk_below (g := gb333) (o := .cells #[.int .i64 t330, .int .i64 t331, .int .i64 t332] 27 (0, 0)) (by (with_reducible repeat (first | refine blk_drewN ?_ _ | refine blk_drew ?_ | refine blk_alloc ?_ _)); exact BK333.out) hb); have n3_ := Aside0.mk (blk_below (g := gb337) (o := .cells #[.int .i64 t334, .int .i64 t335, .int .i64 t336] 27 (0, 0)) (by (with_reducible repeat (first | refine blk_drewN ?_ _ | refine blk_drew ?_ | refine blk_alloc ?_ _)); exact BK337.out) hb); have n4_ := Aside0.mk (below_step (by repeat (first | (with_reducible first | exact HB.out | apply below_alloc | apply pw_below_drewN | apply below_drew1 | refine below_set ?_ GE333.out | refine below_set ?_ GE337.out) | exact HB.out)) hb); clear HO346; clear BK333; clear BK337; clear HB; have HO346 := n0_; have HO349 := n1_; have BK333 := n2_; have BK337 := n3_; have HB := n4_; clear n0_ n1_ n2_ n3_ n4_; clear hb ho34; obtain ⟨Ao35, co35, eo35⟩ := Kd.R_slice HO346.out; subst eo35; obtain ⟨Ao36, co36, eo36⟩ := Kd.R_slice HO349.out; subst eo36) | ((with_reducible refine gate_callee (f := 11) rfl ?_); refine goesL_ (some 67) rfl rfl Try.func11 (by kernel_rfl) rfl #[.slice Ao35 y344.length co35, .slice Ao36 y347.length co36, .slice A0 l0.length c0, .int .i64 3] rfl (by first | rfl | (simp only [List.map_toArray, List.map_cons, List.map_nil]; rfl)) ?_; (with_reducible refine (laws_lwBent.calls kj7 _ _ y344 _ _ y347 _ _ l0 3 t350 _ ?side1 ?side2 ?side3 ?side4 ?side5 ?side6 A29.out).mono ?_); (case side1 => repeat (first | exact (Kd.R_reads' HO346.out).2.2 | (with_reducible refine Kd.C_alloc ?_ _) | (with_reducible refine Kd.C_drewN ?_ _) | (with_reducible refine Kd.C_drew ?_))); (case side2 => exact (Kd.R_reads' HO346.out).2.1); (case side3 => repeat (first | exact (Kd.R_reads' HO349.out).2.2 | (with_reducible refine Kd.C_alloc ?_ _) | (with_reducible refine Kd.C_drewN ?_ _) | (with_reducible refine Kd.C_drew ?_))); (case side4 => exact (Kd.R_reads' HO349.out).2.1); (case side5 => repeat (first | exact (Kd.C_below HR0.out HB.out) | (with_reducible refine Kd.C_alloc ?_ _) | (with_reducible refine Kd.C_drewN ?_ _) | (with_reducible refine Kd.C_drew ?_))); (case side6 => exact HC0.out); rintro e w37 ⟨v351, rfl, ho0, hb⟩; refine ⟨_, rfl, ?_⟩; have n0_ := Aside0.mk (Kd.R_elder' (by (with_reducible repeat (first | apply Kd.R_alloc | apply Kd.R_drewN | apply Kd.R_drew)); exact HO346.out) (Kd.R_base ho0) hb); have n1_ := Aside0.mk (Kd.R_elder' (by (with_reducible repeat (first | apply Kd.R_alloc | apply Kd.R_drewN | apply Kd.R_drew)); exact HO349.out) (Kd.R_base ho0) hb); have n2_ := Aside0.mk (Kd.R_lower (Kd.R_new' (Kd.R_new' ho0 (Kd.R_lt (by (with_reducible repeat (first | apply Kd.R_alloc | apply Kd.R_drewN | apply Kd.R_drew)); exact HO346.out))) (Kd.R_lt (by (with_reducible repeat (first | apply Kd.R_alloc | apply Kd.R_drewN | apply Kd.R_drew)); exact HO349.out))) (below_size (by repeat (first | (with_reducible first | exact HB.out | apply below_alloc | apply pw_below_drewN | apply below_drew1 | refine below_set ?_ GE333.out | refine below_set ?_ GE337.out) | exact HB.out)))); have n3_ := Aside0.mk (blk_below (g := gb333) (o := .cells #[.int .i64 t330, .int .i64 t331, .int .i64 t332] 27 (0, 0)) (by (with_reducible repeat (first | refine blk_drewN ?_ _ | refine blk_drew ?_ | refine blk_alloc ?_ _)); exact BK333.out) hb); have n4_ := Aside0.mk (blk_below (g := gb337) (o := .cells #[.int .i64 t334, .int .i64 t335, .int .i64 t336] 27 (0, 0)) (by (with_reducible repeat (first | refine blk_drewN ?_ _ | refine blk_drew ?_ | refine blk_alloc ?_ _)); exact BK337.out) hb); have n5_ := Aside0.mk (below_step (by repeat (first | (with_reducible first | exact HB.out | apply below_alloc | apply pw_below_drewN | apply below_drew1 | refine below_set ?_ GE333.out | refine below_set ?_ GE337.out) | exact HB.out)) hb); clear HO346; clear HO349; clear BK333; clear BK337; clear HB; have HO346 := n0_; have HO349 := n1_; have HO352 := n2_; have BK333 := n3_; have BK337 := n4_; have HB := n5_; clear n0_ n1_ n2_ n3_ n4_ n5_; (try clear hb); (try clear ho0)))
     (try simp only [Act.put, pa, pb, pc])
     go_cut [93] (fun v93 wc => ∃ (kq : Nat) (x93_29 : Bool), v93 = .bool x93_29 ∧ Aside0 (laws_FnPairBounds.j1 kq t322 t323 t324 t325 t328 t329 t350 x93_29 t330 t331 t332 t334 t335 t336 = some r) ∧ Aside0 (kq ≤ kj7) ∧ Aside0 (Kd.R (Kd.int .i64) 2 wc w.heap.size (fun _ => True) v351 t350) ∧ Aside0 (wc.heap[gb333]? = some (.cells #[.int .i64 t330, .int .i64 t331, .int .i64 t332] 27 (0, 0))) ∧ Aside0 (wc.heap[gb337]? = some (.cells #[.int .i64 t334, .int .i64 t335, .int .i64 t336] 27 (0, 0))) ∧ Aside0 (Below w.heap.size w wc))
     case first =>
      have H := HC30.out
      clear HC30
      by_cases c38 : t330 = 0
      ·rw [if_pos c38] at H
       have c38b0 : (t330 == 0) = true := beq_iff_eq.mpr c38
       have c38b1 : (t330 != 0) = false := bne_eq_false_iff_eq.mpr c38
       clear c38
       (first | rw [c38b0] | (simp only [i64_w, i32_w]; rw [c38b0]) | skip)
       by_cases c39 : t334 = 0
       ·rw [if_pos c39] at H
        have c39b0 : (t334 == 0) = true := beq_iff_eq.mpr c39
        have c39b1 : (t334 != 0) = false := bne_eq_false_iff_eq.mpr c39
        clear c39
        by_cases c40 : t328 > 16777216
        ·rw [if_pos c40] at H
         have c40b0 : decide (16777216 < t328) = true := decide_eq_true c40
         clear c40
         have H' := Aside0.mk H
         clear H
         have hnb41 := NB333_337.out
         have hnc41 := NB337_333.out
         have hcz42_0 : w37.cell? ⟨gb333, 0, none⟩ = some (.int .i64 t330) := (blk_cell BK333.out 0).trans rfl
         have hcz42_1 : w37.cell? ⟨gb333, 1, none⟩ = some (.int .i64 t331) := (blk_cell BK333.out 1).trans rfl
         have hcz42_2 : w37.cell? ⟨gb333, 2, none⟩ = some (.int .i64 t332) := (blk_cell BK333.out 2).trans rfl
         have hfz42_0 := blk_frozen BK333.out 0
         have hfz42_1 := blk_frozen BK333.out 1
         have hfz42_2 := blk_frozen BK333.out 2
         have hcz43_0 : w37.cell? ⟨gb337, 0, none⟩ = some (.int .i64 t334) := (blk_cell BK337.out 0).trans rfl
         have hcz43_1 : w37.cell? ⟨gb337, 1, none⟩ = some (.int .i64 t335) := (blk_cell BK337.out 1).trans rfl
         have hcz43_2 : w37.cell? ⟨gb337, 2, none⟩ = some (.int .i64 t336) := (blk_cell BK337.out 2).trans rfl
         have hfz43_0 := blk_frozen BK337.out 0
         have hfz43_1 := blk_frozen BK337.out 1
         have hfz43_2 := blk_frozen BK337.out 2
         go_wp2
         go_meet
         case rel => exact ⟨_, (true), (by first | rfl | (simp; done) | (simp [*]; done)), H', ⟨by have := HJ7.out; first | omega | exact Nat.le_refl _⟩, ⟨by (with_reducible repeat (first | apply Kd.R_alloc | apply Kd.R_drewN | apply Kd.R_drew)); exact Kd.R_mono HO352.out (fun _ hk => trivial)⟩, ⟨by (with_reducible repeat (first | refine blk_drewN ?_ _ | refine blk_drew ?_ | refine blk_alloc ?_ _)); exact BK333.out⟩, ⟨by (with_reducible repeat (first | refine blk_drewN ?_ _ | refine blk_drew ?_ | refine blk_alloc ?_ _)); exact BK337.out⟩, ⟨by repeat (first | (with_reducible first | exact HB.out | apply below_alloc | apply pw_below_drewN | apply below_drew1 | refine below_set ?_ GE333.out | refine below_set ?_ GE337.out) | exact HB.out)⟩⟩
        ·rw [if_neg c40] at H
         have c40b0 : decide (16777216 < t328) = false := decide_eq_false c40
         clear c40
         by_cases c44 : t329 > 16777216
         ·rw [if_pos c44] at H
          have c44b0 : decide (16777216 < t329) = true := decide_eq_true c44
          clear c44
          have H' := Aside0.mk H
          clear H
          have hnb45 := NB333_337.out
          have hnc45 := NB337_333.out
          have hcz46_0 : w37.cell? ⟨gb333, 0, none⟩ = some (.int .i64 t330) := (blk_cell BK333.out 0).trans rfl
          have hcz46_1 : w37.cell? ⟨gb333, 1, none⟩ = some (.int .i64 t331) := (blk_cell BK333.out 1).trans rfl
          have hcz46_2 : w37.cell? ⟨gb333, 2, none⟩ = some (.int .i64 t332) := (blk_cell BK333.out 2).trans rfl
          have hfz46_0 := blk_frozen BK333.out 0
          have hfz46_1 := blk_frozen BK333.out 1
          have hfz46_2 := blk_frozen BK333.out 2
          have hcz47_0 : w37.cell? ⟨gb337, 0, none⟩ = some (.int .i64 t334) := (blk_cell BK337.out 0).trans rfl
          have hcz47_1 : w37.cell? ⟨gb337, 1, none⟩ = some (.int .i64 t335) := (blk_cell BK337.out 1).trans rfl
          have hcz47_2 : w37.cell? ⟨gb337, 2, none⟩ = some (.int .i64 t336) := (blk_cell BK337.out 2).trans rfl
          have hfz47_0 := blk_frozen BK337.out 0
          have hfz47_1 := blk_frozen BK337.out 1
          have hfz47_2 := blk_frozen BK337.out 2
          go_wp2
          go_meet
          case rel => exact ⟨_, (true), (by first | rfl | (simp; done) | (simp [*]; done)), H', ⟨by have := HJ7.out; first | omega | exact Nat.le_refl _⟩, ⟨by (with_reducible repeat (first | apply Kd.R_alloc | apply Kd.R_drewN | apply Kd.R_drew)); exact Kd.R_mono HO352.out (fun _ hk => trivial)⟩, ⟨by (with_reducible repeat (first | refine blk_drewN ?_ _ | refine blk_drew ?_ | refine blk_alloc ?_ _)); exact BK333.out⟩, ⟨by (with_reducible repeat (first | refine blk_drewN ?_ _ | refine blk_drew ?_ | refine blk_alloc ?_ _)); exact BK337.out⟩, ⟨by repeat (first | (with_reducible first | exact HB.out | apply below_alloc | apply pw_below_drewN | apply below_drew1 | refine below_set ?_ GE333.out | refine below_set ?_ GE337.out) | exact HB.out)⟩⟩
         ·rw [if_neg c44] at H
          have c44b0 : decide (16777216 < t329) = false := decide_eq_false c44
          clear c44
          replace H := Option.bind_eq_some_iff.mp H
          obtain ⟨t353, A480, H⟩ := H
          replace H : (if t353 > 268435456 then (laws_FnPairBounds.j1 kj7 t322 t323 t324 t325 t328 t329 t350 true t330 t331 t332 t334 t335 t336) else ((laws_lwAbs.f t325).bind fun t354 => (laws_FnPairBounds.j1 kj7 t322 t323 t324 t325 t328 t329 t350 (decide (t354 > 268435456)) t330 t331 t332 t334 t335 t336))) = some r := H
          have A48 := Aside0.mk A480
          clear A480
          by_cases c49 : t353 > 268435456
          ·rw [if_pos c49] at H
           have c49b0 : decide (268435456 < t353) = true := decide_eq_true c49
           clear c49
           have H' := Aside0.mk H
           clear H
           have hnb50 := NB333_337.out
           have hnc50 := NB337_333.out
           have hcz51_0 : w37.cell? ⟨gb333, 0, none⟩ = some (.int .i64 t330) := (blk_cell BK333.out 0).trans rfl
           have hcz51_1 : w37.cell? ⟨gb333, 1, none⟩ = some (.int .i64 t331) := (blk_cell BK333.out 1).trans rfl
           have hcz51_2 : w37.cell? ⟨gb333, 2, none⟩ = some (.int .i64 t332) := (blk_cell BK333.out 2).trans rfl
           have hfz51_0 := blk_frozen BK333.out 0
           have hfz51_1 := blk_frozen BK333.out 1
           have hfz51_2 := blk_frozen BK333.out 2
           have hcz52_0 : w37.cell? ⟨gb337, 0, none⟩ = some (.int .i64 t334) := (blk_cell BK337.out 0).trans rfl
           have hcz52_1 : w37.cell? ⟨gb337, 1, none⟩ = some (.int .i64 t335) := (blk_cell BK337.out 1).trans rfl
           have hcz52_2 : w37.cell? ⟨gb337, 2, none⟩ = some (.int .i64 t336) := (blk_cell BK337.out 2).trans rfl
           have hfz52_0 := blk_frozen BK337.out 0
           have hfz52_1 := blk_frozen BK337.out 1
           have hfz52_2 := blk_frozen BK337.out 2
           go_wp2_with (first | (go_at_call 12; (with_reducible refine (laws_lwAbs.calls t324 t353 _ A48.out).mono ?_); rintro e w' ⟨rfl, ⟨nd, rfl⟩⟩))
           go_meet
           case rel => exact ⟨_, (true), (by first | rfl | (simp; done) | (simp [*]; done)), H', ⟨by have := HJ7.out; first | omega | exact Nat.le_refl _⟩, ⟨by (with_reducible repeat (first | apply Kd.R_alloc | apply Kd.R_drewN | apply Kd.R_drew)); exact Kd.R_mono HO352.out (fun _ hk => trivial)⟩, ⟨by (with_reducible repeat (first | refine blk_drewN ?_ _ | refine blk_drew ?_ | refine blk_alloc ?_ _)); exact BK333.out⟩, ⟨by (with_reducible repeat (first | refine blk_drewN ?_ _ | refine blk_drew ?_ | refine blk_alloc ?_ _)); exact BK337.out⟩, ⟨by repeat (first | (with_reducible first | exact HB.out | apply below_alloc | apply pw_below_drewN | apply below_drew1 | refine below_set ?_ GE333.out | refine below_set ?_ GE337.out) | exact HB.out)⟩⟩
          ·rw [if_neg c49] at H
           have c49b0 : decide (268435456 < t353) = false := decide_eq_false c49
           clear c49
           replace H := Option.bind_eq_some_iff.mp H
           obtain ⟨t354, A530, H⟩ := H
           replace H : (laws_FnPairBounds.j1 kj7 t322 t323 t324 t325 t328 t329 t350 (decide (t354 > 268435456)) t330 t331 t332 t334 t335 t336) = some r := H
           have A53 := Aside0.mk A530
           clear A530
           have H' := Aside0.mk H
           clear H
           have hnb54 := NB333_337.out
           have hnc54 := NB337_333.out
           have hcz55_0 : w37.cell? ⟨gb333, 0, none⟩ = some (.int .i64 t330) := (blk_cell BK333.out 0).trans rfl
           have hcz55_1 : w37.cell? ⟨gb333, 1, none⟩ = some (.int .i64 t331) := (blk_cell BK333.out 1).trans rfl
           have hcz55_2 : w37.cell? ⟨gb333, 2, none⟩ = some (.int .i64 t332) := (blk_cell BK333.out 2).trans rfl
           have hfz55_0 := blk_frozen BK333.out 0
           have hfz55_1 := blk_frozen BK333.out 1
           have hfz55_2 := blk_frozen BK333.out 2
           have hcz56_0 : w37.cell? ⟨gb337, 0, none⟩ = some (.int .i64 t334) := (blk_cell BK337.out 0).trans rfl
           have hcz56_1 : w37.cell? ⟨gb337, 1, none⟩ = some (.int .i64 t335) := (blk_cell BK337.out 1).trans rfl
           have hcz56_2 : w37.cell? ⟨gb337, 2, none⟩ = some (.int .i64 t336) := (blk_cell BK337.out 2).trans rfl
           have hfz56_0 := blk_frozen BK337.out 0
           have hfz56_1 := blk_frozen BK337.out 1
           have hfz56_2 := blk_frozen BK337.out 2
           go_wp2_with (first | (go_at_call 12; (with_reducible refine (laws_lwAbs.calls t324 t353 _ A48.out).mono ?_); rintro e w' ⟨rfl, ⟨nd, rfl⟩⟩) | (go_at_call 12; (with_reducible refine (laws_lwAbs.calls t325 t354 _ A53.out).mono ?_); rintro e w' ⟨rfl, ⟨nd, rfl⟩⟩))
           go_meet
           case rel => exact ⟨_, (decide (t354 > 268435456)), (by first | rfl | (simp; done) | (simp [*]; done)), H', ⟨by have := HJ7.out; first | omega | exact Nat.le_refl _⟩, ⟨by (with_reducible repeat (first | apply Kd.R_alloc | apply Kd.R_drewN | apply Kd.R_drew)); exact Kd.R_mono HO352.out (fun _ hk => trivial)⟩, ⟨by (with_reducible repeat (first | refine blk_drewN ?_ _ | refine blk_drew ?_ | refine blk_alloc ?_ _)); exact BK333.out⟩, ⟨by (with_reducible repeat (first | refine blk_drewN ?_ _ | refine blk_drew ?_ | refine blk_alloc ?_ _)); exact BK337.out⟩, ⟨by repeat (first | (with_reducible first | exact HB.out | apply below_alloc | apply pw_below_drewN | apply below_drew1 | refine below_set ?_ GE333.out | refine below_set ?_ GE337.out) | exact HB.out)⟩⟩
       ·rw [if_neg c39] at H
        have c39b0 : (t334 == 0) = false := beq_eq_false_iff_ne.mpr c39
        have c39b1 : (t334 != 0) = true := bne_iff_ne.mpr c39
        have H' := Aside0.mk H
        clear H
        have hnb57 := NB333_337.out
        have hnc57 := NB337_333.out
        have hcz58_0 : w37.cell? ⟨gb333, 0, none⟩ = some (.int .i64 t330) := (blk_cell BK333.out 0).trans rfl
        have hcz58_1 : w37.cell? ⟨gb333, 1, none⟩ = some (.int .i64 t331) := (blk_cell BK333.out 1).trans rfl
        have hcz58_2 : w37.cell? ⟨gb333, 2, none⟩ = some (.int .i64 t332) := (blk_cell BK333.out 2).trans rfl
        have hfz58_0 := blk_frozen BK333.out 0
        have hfz58_1 := blk_frozen BK333.out 1
        have hfz58_2 := blk_frozen BK333.out 2
        have hcz59_0 : w37.cell? ⟨gb337, 0, none⟩ = some (.int .i64 t334) := (blk_cell BK337.out 0).trans rfl
        have hcz59_1 : w37.cell? ⟨gb337, 1, none⟩ = some (.int .i64 t335) := (blk_cell BK337.out 1).trans rfl
        have hcz59_2 : w37.cell? ⟨gb337, 2, none⟩ = some (.int .i64 t336) := (blk_cell BK337.out 2).trans rfl
        have hfz59_0 := blk_frozen BK337.out 0
        have hfz59_1 := blk_frozen BK337.out 1
        have hfz59_2 := blk_frozen BK337.out 2
        go_wp2
        go_meet
        case rel => exact ⟨_, (true), (by first | rfl | (simp; done) | (simp [*]; done)), H', ⟨by have := HJ7.out; first | omega | exact Nat.le_refl _⟩, ⟨by (with_reducible repeat (first | apply Kd.R_alloc | apply Kd.R_drewN | apply Kd.R_drew)); exact Kd.R_mono HO352.out (fun _ hk => trivial)⟩, ⟨by (with_reducible repeat (first | refine blk_drewN ?_ _ | refine blk_drew ?_ | refine blk_alloc ?_ _)); exact BK333.out⟩, ⟨by (with_reducible repeat (first | refine blk_drewN ?_ _ | refine blk_drew ?_ | refine blk_alloc ?_ _)); exact BK337.out⟩, ⟨by repeat (first | (with_reducible first | exact HB.out | apply below_alloc | apply pw_below_drewN | apply below_drew1 | refine below_set ?_ GE333.out | refine below_set ?_ GE337.out) | exact HB.out)⟩⟩
      ·rw [if_neg c38] at H
       have c38b0 : (t330 == 0) = false := beq_eq_false_iff_ne.mpr c38
       have c38b1 : (t330 != 0) = true := bne_iff_ne.mpr c38
       (first | rw [c38b0] | (simp only [i64_w, i32_w]; rw [c38b0]) | skip)
       have H' := Aside0.mk H
       clear H
       have hnb60 := NB333_337.out
       have hnc60 := NB337_333.out
       have hcz61_0 : w37.cell? ⟨gb333, 0, none⟩ = some (.int .i64 t330) := (blk_cell BK333.out 0).trans rfl
       have hcz61_1 : w37.cell? ⟨gb333, 1, none⟩ = some (.int .i64 t331) := (blk_cell BK333.out 1).trans rfl
       have hcz61_2 : w37.cell? ⟨gb333, 2, none⟩ = some (.int .i64 t332) := (blk_cell BK333.out 2).trans rfl
       have hfz61_0 := blk_frozen BK333.out 0
       have hfz61_1 := blk_frozen BK333.out 1
       have hfz61_2 := blk_frozen BK333.out 2
       go_wp2
       go_meet
       case rel => exact ⟨_, (true), (by first | rfl | (simp; done) | (simp [*]; done)), H', ⟨by have := HJ7.out; first | omega | exact Nat.le_refl _⟩, ⟨by (with_reducible repeat (first | apply Kd.R_alloc | apply Kd.R_drewN | apply Kd.R_drew)); exact Kd.R_mono HO352.out (fun _ hk => trivial)⟩, ⟨by (with_reducible repeat (first | refine blk_drewN ?_ _ | refine blk_drew ?_ | refine blk_alloc ?_ _)); exact BK333.out⟩, ⟨by (with_reducible repeat (first | refine blk_drewN ?_ _ | refine blk_drew ?_ | refine blk_alloc ?_ _)); exact BK337.out⟩, ⟨by repeat (first | (with_reducible first | exact HB.out | apply below_alloc | apply pw_below_drewN | apply below_drew1 | refine below_set ?_ GE333.out | refine below_set ?_ GE337.out) | exact HB.out)⟩⟩
     case rest =>
      clear HC30
      try clear c1
      try clear c2
      try clear p2
      try clear c3
      try clear c4
      try clear c5
      try clear c6
      try clear c7
      try clear c8
      try clear c9
      try clear c10
      try clear c11
      try clear c16
      try clear c19
      try clear c19b0
      try clear c19b1
      try clear c28
      try clear c38
      try clear c38b0
      try clear c38b1
      try clear c39
      try clear c39b0
      try clear c39b1
      try clear c40
      try clear c40b0
      try clear c41
      try clear c44
      try clear c44b0
      try clear c45
      try clear c49
      try clear c49b0
      try clear c50
      try clear c54
      try clear c57
      try clear c60
      try clear hcz13_0
      try clear hcz13_1
      try clear hcz13_2
      try clear hcz17_0
      try clear hcz17_1
      try clear hcz17_2
      try clear hcz42_0
      try clear hcz42_1
      try clear hcz42_2
      try clear hcz43_0
      try clear hcz43_1
      try clear hcz43_2
      try clear hcz46_0
      try clear hcz46_1
      try clear hcz46_2
      try clear hcz47_0
      try clear hcz47_1
      try clear hcz47_2
      try clear hcz51_0
      try clear hcz51_1
      try clear hcz51_2
      try clear hcz52_0
      try clear hcz52_1
      try clear hcz52_2
      try clear hcz55_0
      try clear hcz55_1
      try clear hcz55_2
      try clear hcz56_0
      try clear hcz56_1
      try clear hcz56_2
      try clear hcz58_0
      try clear hcz58_1
      try clear hcz58_2
      try clear hcz59_0
      try clear hcz59_1
      try clear hcz59_2
      try clear hcz61_0
      try clear hcz61_1
      try clear hcz61_2
      try clear hfz13_0
      try clear hfz13_1
      try clear hfz13_2
      try clear hfz17_0
      try clear hfz17_1
      try clear hfz17_2
      try clear hfz42_0
      try clear hfz42_1
      try clear hfz42_2
      try clear hfz43_0
      try clear hfz43_1
      try clear hfz43_2
      try clear hfz46_0
      try clear hfz46_1
      try clear hfz46_2
      try clear hfz47_0
      try clear hfz47_1
      try clear hfz47_2
      try clear hfz51_0
      try clear hfz51_1
      try clear hfz51_2
      try clear hfz52_0
      try clear hfz52_1
      try clear hfz52_2
      try clear hfz55_0
      try clear hfz55_1
      try clear hfz55_2
      try clear hfz56_0
      try clear hfz56_1
      try clear hfz56_2
      try clear hfz58_0
      try clear hfz58_1
      try clear hfz58_2
      try clear hfz59_0
      try clear hfz59_1
      try clear hfz59_2
      try clear hfz61_0
      try clear hfz61_1
      try clear hfz61_2
      try clear p2
      obtain ⟨kq, x93_29, rfl, HA, HJ29, HO_13, BK333, BK337, HB⟩ := hcut
      cases kq with
      | zero => exact absurd HA.out (by simp [laws_FnPairBounds.j1])
      | succ kj29 =>
       have H := HA.out
       clear HA
       simp only [laws_FnPairBounds.j1] at H
       by_cases c62 : x93_29 = true
       ·subst c62
        have H1 : (some true) = some r := by rw [if_pos rfl] at H; exact H
        clear H
        have H := H1
        clear H1
        obtain rfl := Option.some.inj H
        go_wp2
        go_ret
        exact ⟨by first | rfl | (simp [errW_none, errW_some] <;> rfl) | (simp [*, errW_none, errW_some] <;> rfl), by repeat (first | (with_reducible first | exact HB.out | apply below_alloc | apply pw_below_drewN | apply below_drew1 | refine below_set ?_ GE333.out | refine below_set ?_ GE337.out) | exact HB.out)⟩
       ·replace c62 := Bool.eq_false_iff.mpr c62
        subst c62
        have H1 : ((impl_BackPair.f kj29 t322 t323 t324 t325).bind fun bt355 => (if 0 < (t350.length : Int) then (if 1 < (t350.length : Int) then ((impl_BackPair.f kj29 t322 t323 (rd t350 0) (rd t350 1)).bind fun bt361 => ((impl_PartPair.f t324 t325).bind fun bt365 => ((impl_PartPair.f (rd t350 0) (rd t350 1)).bind fun bt371 => (if bt355.1 = 0 then (if bt361.1 = 0 then (if bt365.1 = 0 then (laws_FnPairBounds.j2 kj29 t322 t323 t328 t329 (bt371.1 != 0) t330 t331 t332 t334 t335 t336 bt355.1 bt355.2.1 bt355.2.2 bt361.1 bt361.2.1 bt361.2.2 bt365.1 bt365.2.1 bt365.2.2 bt371.1 bt371.2.1 bt371.2.2) else (laws_FnPairBounds.j2 kj29 t322 t323 t328 t329 true t330 t331 t332 t334 t335 t336 bt355.1 bt355.2.1 bt355.2.2 bt361.1 bt361.2.1 bt361.2.2 bt365.1 bt365.2.1 bt365.2.2 bt371.1 bt371.2.1 bt371.2.2)) else (laws_FnPairBounds.j2 kj29 t322 t323 t328 t329 true t330 t331 t332 t334 t335 t336 bt355.1 bt355.2.1 bt355.2.2 bt361.1 bt361.2.1 bt361.2.2 bt365.1 bt365.2.1 bt365.2.2 bt371.1 bt371.2.1 bt371.2.2)) else (laws_FnPairBounds.j2 kj29 t322 t323 t328 t329 true t330 t331 t332 t334 t335 t336 bt355.1 bt355.2.1 bt355.2.2 bt361.1 bt361.2.1 bt361.2.2 bt365.1 bt365.2.1 bt365.2.2 bt371.1 bt371.2.1 bt371.2.2))))) else (none)) else (none))) = some r := by rw [if_neg (show ¬ (false = true) by decide)] at H; exact H
        clear H
        have H := H1
        clear H1
        replace H := Option.bind_eq_some_iff.mp H
        obtain ⟨⟨t355, t356, t357⟩, A630, H⟩ := H
        replace H : (if 0 < (t350.length : Int) then (if 1 < (t350.length : Int) then ((impl_BackPair.f kj29 t322 t323 (rd t350 0) (rd t350 1)).bind fun bt361 => ((impl_PartPair.f t324 t325).bind fun bt365 => ((impl_PartPair.f (rd t350 0) (rd t350 1)).bind fun bt371 => (if t355 = 0 then (if bt361.1 = 0 then (if bt365.1 = 0 then (laws_FnPairBounds.j2 kj29 t322 t323 t328 t329 (bt371.1 != 0) t330 t331 t332 t334 t335 t336 t355 t356 t357 bt361.1 bt361.2.1 bt361.2.2 bt365.1 bt365.2.1 bt365.2.2 bt371.1 bt371.2.1 bt371.2.2) else (laws_FnPairBounds.j2 kj29 t322 t323 t328 t329 true t330 t331 t332 t334 t335 t336 t355 t356 t357 bt361.1 bt361.2.1 bt361.2.2 bt365.1 bt365.2.1 bt365.2.2 bt371.1 bt371.2.1 bt371.2.2)) else (laws_FnPairBounds.j2 kj29 t322 t323 t328 t329 true t330 t331 t332 t334 t335 t336 t355 t356 t357 bt361.1 bt361.2.1 bt361.2.2 bt365.1 bt365.2.1 bt365.2.2 bt371.1 bt371.2.1 bt371.2.2)) else (laws_FnPairBounds.j2 kj29 t322 t323 t328 t329 true t330 t331 t332 t334 t335 t336 t355 t356 t357 bt361.1 bt361.2.1 bt361.2.2 bt365.1 bt365.2.1 bt365.2.2 bt371.1 bt371.2.1 bt371.2.2))))) else (none)) else (none)) = some r := H
        have A63 := Aside0.mk A630
        clear A630
        by_cases c64 : 0 < (t350.length : Int)
        ·rw [if_pos c64] at H
         have c64b0 : decide (0 < (t350.length : Int)) = true := decide_eq_true c64
         have c64b1 : decide (0 < t350.length) = true := decide_eq_true (by omega)
         clear c64
         by_cases c65 : 1 < (t350.length : Int)
         ·rw [if_pos c65] at H
          have c65b0 : decide (1 < (t350.length : Int)) = true := decide_eq_true c65
          have c65b1 : decide (1 < t350.length) = true := decide_eq_true (by omega)
          clear c65
          replace H := Option.bind_eq_some_iff.mp H
          obtain ⟨⟨t361, t362, t363⟩, A660, H⟩ := H
          replace H : ((impl_PartPair.f t324 t325).bind fun bt365 => ((impl_PartPair.f (rd t350 0) (rd t350 1)).bind fun bt371 => (if t355 = 0 then (if t361 = 0 then (if bt365.1 = 0 then (laws_FnPairBounds.j2 kj29 t322 t323 t328 t329 (bt371.1 != 0) t330 t331 t332 t334 t335 t336 t355 t356 t357 t361 t362 t363 bt365.1 bt365.2.1 bt365.2.2 bt371.1 bt371.2.1 bt371.2.2) else (laws_FnPairBounds.j2 kj29 t322 t323 t328 t329 true t330 t331 t332 t334 t335 t336 t355 t356 t357 t361 t362 t363 bt365.1 bt365.2.1 bt365.2.2 bt371.1 bt371.2.1 bt371.2.2)) else (laws_FnPairBounds.j2 kj29 t322 t323 t328 t329 true t330 t331 t332 t334 t335 t336 t355 t356 t357 t361 t362 t363 bt365.1 bt365.2.1 bt365.2.2 bt371.1 bt371.2.1 bt371.2.2)) else (laws_FnPairBounds.j2 kj29 t322 t323 t328 t329 true t330 t331 t332 t334 t335 t336 t355 t356 t357 t361 t362 t363 bt365.1 bt365.2.1 bt365.2.2 bt371.1 bt371.2.1 bt371.2.2)))) = some r := H
          have A66 := Aside0.mk A660
          clear A660
          replace H := Option.bind_eq_some_iff.mp H
          obtain ⟨⟨t365, t366, t367⟩, A670, H⟩ := H
          replace H : ((impl_PartPair.f (rd t350 0) (rd t350 1)).bind fun bt371 => (if t355 = 0 then (if t361 = 0 then (if t365 = 0 then (laws_FnPairBounds.j2 kj29 t322 t323 t328 t329 (bt371.1 != 0) t330 t331 t332 t334 t335 t336 t355 t356 t357 t361 t362 t363 t365 t366 t367 bt371.1 bt371.2.1 bt371.2.2) else (laws_FnPairBounds.j2 kj29 t322 t323 t328 t329 true t330 t331 t332 t334 t335 t336 t355 t356 t357 t361 t362 t363 t365 t366 t367 bt371.1 bt371.2.1 bt371.2.2)) else (laws_FnPairBounds.j2 kj29 t322 t323 t328 t329 true t330 t331 t332 t334 t335 t336 t355 t356 t357 t361 t362 t363 t365 t366 t367 bt371.1 bt371.2.1 bt371.2.2)) else (laws_FnPairBounds.j2 kj29 t322 t323 t328 t329 true t330 t331 t332 t334 t335 t336 t355 t356 t357 t361 t362 t363 t365 t366 t367 bt371.1 bt371.2.1 bt371.2.2))) = some r := H
          have A67 := Aside0.mk A670
          clear A670
          replace H := Option.bind_eq_some_iff.mp H
          obtain ⟨⟨t371, t372, t373⟩, A680, H⟩ := H
          replace H : (if t355 = 0 then (if t361 = 0 then (if t365 = 0 then (laws_FnPairBounds.j2 kj29 t322 t323 t328 t329 (t371 != 0) t330 t331 t332 t334 t335 t336 t355 t356 t357 t361 t362 t363 t365 t366 t367 t371 t372 t373) else (laws_FnPairBounds.j2 kj29 t322 t323 t328 t329 true t330 t331 t332 t334 t335 t336 t355 t356 t357 t361 t362 t363 t365 t366 t367 t371 t372 t373)) else (laws_FnPairBounds.j2 kj29 t322 t323 t328 t329 true t330 t331 t332 t334 t335 t336 t355 t356 t357 t361 t362 t363 t365 t366 t367 t371 t372 t373)) else (laws_FnPairBounds.j2 kj29 t322 t323 t328 t329 true t330 t331 t332 t334 t335 t336 t355 t356 t357 t361 t362 t363 t365 t366 t367 t371 t372 t373)) = some r := H
          have A68 := Aside0.mk A680
          clear A680
          have HC69 := Aside0.mk H
          clear H
          try go_wp2_with (first | ((with_reducible refine gate_callee (f := 13) rfl ?_); refine goesL_ (some 98) rfl rfl Try.func13 (by kernel_rfl) rfl #[.int .i64 t322, .int .i64 t323, .int .i64 t324, .int .i64 t325] rfl (by first | rfl | (simp only [List.map_toArray, List.map_cons, List.map_nil]; rfl)) ?_; (with_reducible refine (impl_BackPair.calls kj29 t322 t323 t324 t325 t355 t356 t357 _ A63.out).mono ?_); rintro e w70 ⟨rfl, hb⟩; refine ⟨_, rfl, ?_⟩; have n0_ := Aside0.mk (Kd.R_below (by (with_reducible repeat (first | apply Kd.R_alloc | apply Kd.R_drewN | apply Kd.R_drew)); exact HO_13.out) hb); have n1_ := Aside0.mk (blk_below (g := gb333) (o := .cells #[.int .i64 t330, .int .i64 t331, .int .i64 t332] 27 (0, 0)) (by (with_reducible repeat (first | refine blk_drewN ?_ _ | refine blk_drew ?_ | refine blk_alloc ?_ _)); exact BK333.out) hb); have n2_ := Aside0.mk (blk_below (g := gb337) (o := .cells #[.int .i64 t334, .int .i64 t335, .int .i64 t336] 27 (0, 0)) (by (with_reducible repeat (first | refine blk_drewN ?_ _ | refine blk_drew ?_ | refine blk_alloc ?_ _)); exact BK337.out) hb); have n3_ := Aside0.mk (below_step (by repeat (first | (with_reducible first | exact HB.out | apply below_alloc | apply pw_below_drewN | apply below_drew1 | refine below_set ?_ GE333.out | refine below_set ?_ GE337.out) | exact HB.out)) hb); clear HO_13; clear BK333; clear BK337; clear HB; have HO_13 := n0_; have BK333 := n1_; have BK337 := n2_; have HB := n3_; clear n0_ n1_ n2_ n3_; (try clear hb)) | ((with_reducible refine gate_dst (N := 14) rfl ?_); refine box_event ?hg (N := 14) ?hd (cs := #[.int .i64 0, .int .i64 0, .int .i64 0]) (t := 27) ?hr ?_; (case hd => rfl); (case hg => rfl); (case hr => first | (go_simp; done) | (go_simp; rfl)); intro gb358 hg w71 hbox hb; have n0_ := Aside0.mk (Kd.R_below (by (with_reducible repeat (first | apply Kd.R_alloc | apply Kd.R_drewN | apply Kd.R_drew)); exact HO_13.out) hb); have n1_ := Aside0.mk (blk_below (g := gb333) (o := .cells #[.int .i64 t330, .int .i64 t331, .int .i64 t332] 27 (0, 0)) (by (with_reducible repeat (first | refine blk_drewN ?_ _ | refine blk_drew ?_ | refine blk_alloc ?_ _)); exact BK333.out) hb); have n2_ := Aside0.mk (blk_below (g := gb337) (o := .cells #[.int .i64 t334, .int .i64 t335, .int .i64 t336] 27 (0, 0)) (by (with_reducible repeat (first | refine blk_drewN ?_ _ | refine blk_drew ?_ | refine blk_alloc ?_ _)); exact BK337.out) hb); have n3_ := Aside0.mk (below_step (by repeat (first | (with_reducible first | exact HB.out | apply below_alloc | apply pw_below_drewN | apply below_drew1 | refine below_set ?_ GE333.out | refine below_set ?_ GE337.out) | exact HB.out)) hb); have n4_ := Aside0.mk (hbox); have n5_ := Aside0.mk ((by rw [hg]; exact (below_size (by repeat (first | (with_reducible first | exact HB.out | apply below_alloc | apply pw_below_drewN | apply below_drew1 | refine below_set ?_ GE333.out | refine below_set ?_ GE337.out) | exact HB.out))) : w.heap.size ≤ gb358)); have n6_ := Aside0.mk ((by rw [hg]; exact (below_size (by repeat (first | (with_reducible first | exact HB.out | apply below_alloc | apply pw_below_drewN | apply below_drew1 | refine below_set ?_ GE333.out | refine below_set ?_ GE337.out) | exact HB.out))) : w.heap.size ≤ gb358)); have n7_ := Aside0.mk ((by rw [hg]; exact Nat.ne_of_lt (blk_lt (g := gb333) (o := .cells #[.int .i64 t330, .int .i64 t331, .int .i64 t332] 27 (0, 0)) (by (with_reducible repeat (first | refine blk_drewN ?_ _ | refine blk_drew ?_ | refine blk_alloc ?_ _)); exact BK333.out)) : gb333 ≠ gb358)); have n8_ := Aside0.mk ((by rw [hg]; exact Nat.ne_of_gt (blk_lt (g := gb333) (o := .cells #[.int .i64 t330, .int .i64 t331, .int .i64 t332] 27 (0, 0)) (by (with_reducible repeat (first | refine blk_drewN ?_ _ | refine blk_drew ?_ | refine blk_alloc ?_ _)); exact BK333.out)) : gb358 ≠ gb333)); have n9_ := Aside0.mk ((by rw [hg]; exact Nat.ne_of_lt (blk_lt (g := gb337) (o := .cells #[.int .i64 t334, .int .i64 t335, .int .i64 t336] 27 (0, 0)) (by (with_reducible repeat (first | refine blk_drewN ?_ _ | refine blk_drew ?_ | refine blk_alloc ?_ _)); exact BK337.out)) : gb337 ≠ gb358)); have n10_ := Aside0.mk ((by rw [hg]; exact Nat.ne_of_gt (blk_lt (g := gb337) (o := .cells #[.int .i64 t334, .int .i64 t335, .int .i64 t336] 27 (0, 0)) (by (with_reducible repeat (first | refine blk_drewN ?_ _ | refine blk_drew ?_ | refine blk_alloc ?_ _)); exact BK337.out)) : gb358 ≠ gb337)); clear HO_13; clear BK333; clear BK337; clear HB; have HO_13 := n0_; have BK333 := n1_; have BK337 := n2_; have HB := n3_; have BK358 := n4_; have GW358 := n5_; have GE358 := n6_; have NB333_358 := n7_; have NB358_333 := n8_; have NB337_358 := n9_; have NB358_337 := n10_; clear n0_ n1_ n2_ n3_ n4_ n5_ n6_ n7_ n8_ n9_ n10_; clear hb hbox hg; have hnb72 := NB358_333.out; have hnc72 := NB333_358.out; have hnb73 := NB358_337.out; have hnc73 := NB337_358.out; have hcz74_0 : w71.cell? ⟨gb358, 0, none⟩ = some (.int .i64 0) := (blk_cell BK358.out 0).trans rfl; have hcz74_1 : w71.cell? ⟨gb358, 1, none⟩ = some (.int .i64 0) := (blk_cell BK358.out 1).trans rfl; have hcz74_2 : w71.cell? ⟨gb358, 2, none⟩ = some (.int .i64 0) := (blk_cell BK358.out 2).trans rfl; have hfz74_0 := blk_frozen BK358.out 0; have hfz74_1 := blk_frozen BK358.out 1; have hfz74_2 := blk_frozen BK358.out 2))
          have n0_ : Aside0 (Kd.R (Kd.int .i64) 2 (((w71.setCell ⟨gb358, 0, none⟩ (.int .i64 t355)).setCell ⟨gb358, 1, none⟩ (.int .i64 t356)).setCell ⟨gb358, 2, none⟩ (.int .i64 t357)) w.heap.size (fun _ => True) v351 t350) := ⟨by (with_reducible repeat (first | apply Kd.R_alloc | apply Kd.R_drewN | apply Kd.R_drew)); exact Kd.R_mono (Kd.R_far (p := ⟨gb358, 2, none⟩) (Kd.R_far (p := ⟨gb358, 1, none⟩) (Kd.R_far (p := ⟨gb358, 0, none⟩) (Kd.R_types HO_13.out BK358.out (by decide)) (fun _ hk => hk.2) (.int .i64 t355)) (fun _ hk => hk.2) (.int .i64 t356)) (fun _ hk => hk.2) (.int .i64 t357)) (fun _ hk => trivial)⟩
          have n1_ : Aside0 ((((w71.setCell ⟨gb358, 0, none⟩ (.int .i64 t355)).setCell ⟨gb358, 1, none⟩ (.int .i64 t356)).setCell ⟨gb358, 2, none⟩ (.int .i64 t357)).heap[gb333]? = some (.cells #[.int .i64 t330, .int .i64 t331, .int .i64 t332] 27 (0, 0))) := ⟨by (with_reducible repeat (first | refine blk_drewN ?_ _ | refine blk_drew ?_ | refine blk_alloc ?_ _)); refine blk_far ?_ NB333_358.out _; (with_reducible repeat (first | refine blk_drewN ?_ _ | refine blk_drew ?_ | refine blk_alloc ?_ _)); refine blk_far ?_ NB333_358.out _; (with_reducible repeat (first | refine blk_drewN ?_ _ | refine blk_drew ?_ | refine blk_alloc ?_ _)); refine blk_far ?_ NB333_358.out _; (with_reducible repeat (first | refine blk_drewN ?_ _ | refine blk_drew ?_ | refine blk_alloc ?_ _)); exact BK333.out⟩
          have n2_ : Aside0 ((((w71.setCell ⟨gb358, 0, none⟩ (.int .i64 t355)).setCell ⟨gb358, 1, none⟩ (.int .i64 t356)).setCell ⟨gb358, 2, none⟩ (.int .i64 t357)).heap[gb337]? = some (.cells #[.int .i64 t334, .int .i64 t335, .int .i64 t336] 27 (0, 0))) := ⟨by (with_reducible repeat (first | refine blk_drewN ?_ _ | refine blk_drew ?_ | refine blk_alloc ?_ _)); refine blk_far ?_ NB337_358.out _; (with_reducible repeat (first | refine blk_drewN ?_ _ | refine blk_drew ?_ | refine blk_alloc ?_ _)); refine blk_far ?_ NB337_358.out _; (with_reducible repeat (first | refine blk_drewN ?_ _ | refine blk_drew ?_ | refine blk_alloc ?_ _)); refine blk_far ?_ NB337_358.out _; (with_reducible repeat (first | refine blk_drewN ?_ _ | refine blk_drew ?_ | refine blk_alloc ?_ _)); exact BK337.out⟩
          have n3_ : Aside0 ((((w71.setCell ⟨gb358, 0, none⟩ (.int .i64 t355)).setCell ⟨gb358, 1, none⟩ (.int .i64 t356)).setCell ⟨gb358, 2, none⟩ (.int .i64 t357)).heap[gb358]? = some (.cells #[.int .i64 t355, .int .i64 t356, .int .i64 t357] 27 (0, 0))) := ⟨by (with_reducible repeat (first | refine blk_drewN ?_ _ | refine blk_drew ?_ | refine blk_alloc ?_ _)); refine blk_put (cs := #[.int .i64 t355, .int .i64 t356, .int .i64 0]) ?_ 2 _ rfl; (with_reducible repeat (first | refine blk_drewN ?_ _ | refine blk_drew ?_ | refine blk_alloc ?_ _)); refine blk_put (cs := #[.int .i64 t355, .int .i64 0, .int .i64 0]) ?_ 1 _ rfl; (with_reducible repeat (first | refine blk_drewN ?_ _ | refine blk_drew ?_ | refine blk_alloc ?_ _)); refine blk_put (cs := #[.int .i64 0, .int .i64 0, .int .i64 0]) ?_ 0 _ rfl; (with_reducible repeat (first | refine blk_drewN ?_ _ | refine blk_drew ?_ | refine blk_alloc ?_ _)); exact BK358.out⟩
          have n4_ : Aside0 (Below w.heap.size w (((w71.setCell ⟨gb358, 0, none⟩ (.int .i64 t355)).setCell ⟨gb358, 1, none⟩ (.int .i64 t356)).setCell ⟨gb358, 2, none⟩ (.int .i64 t357))) := ⟨by repeat (first | (with_reducible first | exact HB.out | apply below_alloc | apply pw_below_drewN | apply below_drew1 | refine below_set ?_ GE333.out | refine below_set ?_ GE337.out | refine below_set ?_ GE358.out) | exact HB.out)⟩
          (try clear HO_13)
          (try clear BK333)
          (try clear BK337)
          (try clear BK358)
          (try clear HB)
          generalize (((w71.setCell ⟨gb358, 0, none⟩ (.int .i64 t355)).setCell ⟨gb358, 1, none⟩ (.int .i64 t356)).setCell ⟨gb358, 2, none⟩ (.int .i64 t357)) = w75 at n0_ n1_ n2_ n3_ n4_ ⊢
          have HO_13 := n0_
          have BK333 := n1_
          have BK337 := n2_
          have BK358 := n3_
          have HB := n4_
          clear n0_ n1_ n2_ n3_ n4_
          have n0_ := Aside0.mk (Kd.R_drew HO_13.out)
          have n1_ := Aside0.mk (blk_drew BK333.out)
          have n2_ := Aside0.mk (blk_drew BK337.out)
          have n3_ := Aside0.mk (blk_drew BK358.out)
          have n4_ := Aside0.mk (below_drew1 HB.out)
          clear HO_13
          clear BK333
          clear BK337
          clear BK358
          clear HB
          have HO_13 := n0_
          have BK333 := n1_
          have BK337 := n2_
          have BK358 := n3_
          have HB := n4_
          clear n0_ n1_ n2_ n3_ n4_
          obtain ⟨Ao77, co77, eo77⟩ := Kd.R_slice HO_13.out
          (first | subst eo77 | (injection eo77 with f1_ f2_ f3_; have f4_ := f1_.symm; have f5_ := f3_.symm; clear f1_ f2_ f3_; subst f4_; subst f5_))
          have p359 : 0 ≤ (0 : Int) := (by omega)
          have q359 : 0 < (t350.length : Int) := of_decide_eq_true (by first | (with_reducible assumption) | assumption)
          obtain ⟨ad359, e359, hx359_0⟩ := Kd.at_int (Kd.R_reads' HO_13.out).2.2 0 p359 q359
          cases e359
          have qi359 : (0 < t350.length) = True := eq_true (by omega)
          (try rw [show ((0 : Int)).toNat = 0 from rfl] at hx359_0)
          (try rw [Addr.add_zero'] at hx359_0)
          replace p359 := eq_true p359
          replace q359 := eq_true q359
          have p360 : 0 ≤ (1 : Int) := (by omega)
          have q360 : 1 < (t350.length : Int) := of_decide_eq_true (by first | (with_reducible assumption) | assumption)
          obtain ⟨ad360, e360, hx360_0⟩ := Kd.at_int (Kd.R_reads' HO_13.out).2.2 1 p360 q360
          obtain rfl : ad359 = ad360 := (by injection e360)
          (try simp only [show (1 : Int).toNat = 1 from rfl, Nat.reduceMul, Nat.reduceEqDiff, Go.Addr.add, ↓reduceIte] at hx360_0)
          have qi360 : (1 < t350.length) = True := eq_true (by omega)
          (try rw [show ((1 : Int)).toNat = 1 from rfl] at hx360_0)
          replace p360 := eq_true p360
          replace q360 := eq_true q360
          as_aux_lemma =>
           refine start_ (n := 11) (S := fun w' => w'.cell? ad359 = some (.int .i64 (rd t350 0)) ∧ w'.cell? ⟨ad359.block, ad359.off + 1, none⟩ = some (.int .i64 (rd t350 1))) (ds := []) #[N, N, N, N, N, N, N, N, N, N, N] (by kernel_rfl) rfl rfl ⟨hx359_0, hx360_0⟩ (fun hHeld => ?_); refine with_tabW laws_FnPairBounds.tab13 laws_FnPairBounds.bits13 (fun HT_ HW_ => ?_)
           generalize w75.drew = w76 at HO_13 BK333 BK337 BK358 HB hx359_0 hx360_0 hHeld ⊢
           refine pure_ (i := 0) (N := some 99) (v := ?_) (a' := ?_) #[Y, N, N, N, N, N, N, N, N, N, N] rfl rfl (any_of HT_.out (by kernel_rfl)) (fun _ _ _ h => h) (Or.inl ⟨by rfl, ?_⟩) ?_ ?_
           rotate_left
           ·intro w'
            go_simp
            with_reducible rfl
           rotate_left
           ·simp only [Act.put, pa, pb, pc, i64_w, i32_w]
            rfl
           refine pure_ (i := 1) (N := some 100) (v := ?_) (a' := ?_) #[Y, Y, N, N, N, N, N, N, N, N, N] rfl rfl (any_of HT_.out (by kernel_rfl)) (fun _ _ _ h => h) (Or.inl ⟨by rfl, ?_⟩) ?_ ?_
           rotate_left
           ·intro w'
            go_simp
            with_reducible rfl
           rotate_left
           ·simp only [Act.put, pa, pb, pc, i64_w, i32_w]
            rfl
           refine pure_ (i := 2) (N := some 101) (v := ?_) (a' := ?_) #[Y, Y, Y, N, N, N, N, N, N, N, N] rfl rfl (any_of HT_.out (by kernel_rfl)) (fun _ _ _ h => h) (Or.inl ⟨by rfl, ?_⟩) ?_ ?_
           rotate_left
           ·intro w'
            go_simp
            with_reducible rfl
           rotate_left
           ·simp only [Act.put, pa, pb, pc, i64_w, i32_w]
            rfl
           refine pure_ (i := 3) (N := some 102) (v := ?_) (a' := ?_) #[Y, Y, Y, Y, N, N, N, N, N, N, N] rfl rfl (any_of HT_.out (by kernel_rfl)) (fun _ _ _ h => h) (Or.inl ⟨by rfl, ?_⟩) ?_ ?_
           rotate_left
           ·intro w'
            go_simp
            with_reducible rfl
           rotate_left
           ·simp only [Act.put, pa, pb, pc, i64_w, i32_w]
            rfl
           refine pure_ (i := 5) (N := some 104) (v := ?_) (a' := ?_) #[Y, Y, Y, Y, N, Y, N, N, N, N, N] rfl rfl (any_of HT_.out (by kernel_rfl)) (fun _ _ _ h => h) (Or.inl ⟨by rfl, ?_⟩) ?_ ?_
           rotate_left
           ·intro w'
            go_simp
            with_reducible rfl
           rotate_left
           ·simp only [Act.put, pa, pb, pc, i64_w, i32_w]
            rfl
           refine pure_ (i := 6) (N := some 105) (v := ?_) (a' := ?_) #[Y, Y, Y, Y, N, Y, Y, N, N, N, N] rfl rfl (any_of HT_.out (by kernel_rfl)) (fun _ _ _ h => h) (Or.inl ⟨by rfl, ?_⟩) ?_ ?_
           rotate_left
           ·intro w'
            go_simp
            with_reducible rfl
           rotate_left
           ·simp only [Act.put, pa, pb, pc, i64_w, i32_w]
            rfl
           refine take_ (i := 4) (N := some 103) (v := ?_) (a' := ?_) #[Y, Y, Y, Y, Y, Y, Y, N, N, N, N] rfl rfl (take_ofW HT_.out HW_.out (by kernel_rfl)) (fun _ _ _ h => h) (Or.inl ⟨by rfl, ?_⟩) hHeld ?_ ?_
           rotate_left
           ·rintro w' ⟨s0, s1⟩
            go_simp
            with_reducible rfl
           rotate_left
           ·simp only [Act.put, pa, pb, pc, i64_w, i32_w]
            rfl
           refine take_ (i := 7) (N := some 106) (v := ?_) (a' := ?_) #[Y, Y, Y, Y, Y, Y, Y, Y, N, N, N] rfl rfl (take_ofW HT_.out HW_.out (by kernel_rfl)) (fun _ _ _ h => h) (Or.inl ⟨by rfl, ?_⟩) hHeld ?_ ?_
           rotate_left
           ·rintro w' ⟨s0, s1⟩
            go_simp
            with_reducible rfl
           rotate_left
           ·simp only [Act.put, pa, pb, pc, i64_w, i32_w]
            rfl
           refine join_ (σ := Nat) 1 #[Y, Y, Y, Y, Y, Y, Y, Y, Y, Y, N] (fun s_ => [(107, .agg #[.int .i64 t361, .int .i64 t362, .int .i64 t363]), (15, .pointer (some ⟨s_, 0, none⟩))]) (fun s_ w' => (w'.cell? ad359 = some (.int .i64 (rd t350 0)) ∧ w'.cell? ⟨ad359.block, ad359.off + 1, none⟩ = some (.int .i64 (rd t350 1))) ∧ (Kd.R (Kd.int .i64) 2 w' w.heap.size (fun _ => True) (.slice (some ad359) t350.length co77) t350) ∧ (w'.heap[gb333]? = some (.cells #[.int .i64 t330, .int .i64 t331, .int .i64 t332] 27 (0, 0))) ∧ (w'.heap[gb337]? = some (.cells #[.int .i64 t334, .int .i64 t335, .int .i64 t336] 27 (0, 0))) ∧ (w'.heap[gb358]? = some (.cells #[.int .i64 t355, .int .i64 t356, .int .i64 t357] 27 (0, 0))) ∧ (w'.heap[s_]? = some (.cells #[.int .i64 0, .int .i64 0, .int .i64 0] 27 (0, 0))) ∧ (w.heap.size ≤ s_) ∧ (w.heap.size ≤ s_) ∧ (gb333 ≠ s_) ∧ (s_ ≠ gb333) ∧ (gb337 ≠ s_) ∧ (s_ ≠ gb337) ∧ (gb358 ≠ s_) ∧ (s_ ≠ gb358) ∧ (Below w.heap.size w w')) ?_ ?_
           rotate_left
           ·intro hCont
            refine two_ (i := 8) (j := 9) (Ni := some 107) (Nj := some 15) #[Y, Y, Y, Y, Y, Y, Y, Y, Y, N, N] #[Y, Y, Y, Y, Y, Y, Y, Y, N, Y, N] rfl rfl rfl rfl (two_of HT_.out (by kernel_rfl)) (by decide) (by decide) (fun K hK => ?_) (fun K hK => ?_)
            ·skip
             refine goes_ Try.func13 (by kernel_rfl) rfl #[.int .i64 t322, .int .i64 t323, .int .i64 (rd t350 0), .int .i64 (rd t350 1)] (by rfl) rfl rfl (by first | rfl | (simp only [List.map_toArray, List.map_cons, List.map_nil]; rfl)) ?_
             with_reducible refine (impl_BackPair.calls kj29 t322 t323 (rd t350 0) (rd t350 1) t361 t362 t363 _ A66.out).mono ?_
             rintro e w78 ⟨rfl, hb⟩
             have HS0_ := (hb.cell (World.block_lt_of_cell? _ _ (hHeld.1))).trans (hHeld.1)
             have HS1_ := (hb.cell (World.block_lt_of_cell? _ _ (hHeld.2))).trans (hHeld.2)
             refine ⟨_, rfl, ?_⟩
             have n0_ := Aside0.mk (Kd.R_below (by (with_reducible repeat (first | apply Kd.R_alloc | apply Kd.R_drewN | apply Kd.R_drew)); exact HO_13.out) hb)
             have n1_ := Aside0.mk (blk_below (g := gb333) (o := .cells #[.int .i64 t330, .int .i64 t331, .int .i64 t332] 27 (0, 0)) (by (with_reducible repeat (first | refine blk_drewN ?_ _ | refine blk_drew ?_ | refine blk_alloc ?_ _)); exact BK333.out) hb)
             have n2_ := Aside0.mk (blk_below (g := gb337) (o := .cells #[.int .i64 t334, .int .i64 t335, .int .i64 t336] 27 (0, 0)) (by (with_reducible repeat (first | refine blk_drewN ?_ _ | refine blk_drew ?_ | refine blk_alloc ?_ _)); exact BK337.out) hb)
             have n3_ := Aside0.mk (blk_below (g := gb358) (o := .cells #[.int .i64 t355, .int .i64 t356, .int .i64 t357] 27 (0, 0)) (by (with_reducible repeat (first | refine blk_drewN ?_ _ | refine blk_drew ?_ | refine blk_alloc ?_ _)); exact BK358.out) hb)
             have n4_ := Aside0.mk (below_step (by repeat (first | (with_reducible first | exact HB.out | apply below_alloc | apply pw_below_drewN | apply below_drew1 | refine below_set ?_ GE333.out | refine below_set ?_ GE337.out | refine below_set ?_ GE358.out) | exact HB.out)) hb)
             clear HO_13
             clear BK333
             clear BK337
             clear BK358
             clear HB
             have HO_13 := n0_
             have BK333 := n1_
             have BK337 := n2_
             have BK358 := n3_
             have HB := n4_
             clear n0_ n1_ n2_ n3_ n4_
             (try clear hb)
             (try clear hb2)
             (try clear hk)
             (try clear hi)
             refine hK.out _ _ ⟨HS0_, HS1_⟩ (fun hHeld => ?_)
             clear hK K
             refine norm_ (a' := ?_) ?_ ?_
             rotate_left
             ·show Act.put _ (some 107) _ = _
              simp only [Act.put, pa, pb, pc, i64_w, i32_w]
              rfl
             refine one_ (i := 9) (N := some 15) #[Y, Y, Y, Y, Y, Y, Y, Y, Y, Y, N] rfl rfl (one_of HT_.out (by kernel_rfl)) (by decide) (fun K hK => ?_)
             refine box_step ?hg (N := 15) ?hd (cs := #[.int .i64 0, .int .i64 0, .int .i64 0]) (t := 27) ?hr ?_; (case hd => rfl); (case hg => rfl); (case hr => first | (go_simp; done) | (go_simp; rfl))
             intro gb364 hg w79 hbox hb
             have HS0_ := (hb.cell (World.block_lt_of_cell? _ _ (hHeld.1))).trans (hHeld.1)
             have HS1_ := (hb.cell (World.block_lt_of_cell? _ _ (hHeld.2))).trans (hHeld.2)
             have n0_ := Aside0.mk (Kd.R_below (by (with_reducible repeat (first | apply Kd.R_alloc | apply Kd.R_drewN | apply Kd.R_drew)); exact HO_13.out) hb)
             have n1_ := Aside0.mk (blk_below (g := gb333) (o := .cells #[.int .i64 t330, .int .i64 t331, .int .i64 t332] 27 (0, 0)) (by (with_reducible repeat (first | refine blk_drewN ?_ _ | refine blk_drew ?_ | refine blk_alloc ?_ _)); exact BK333.out) hb)
             have n2_ := Aside0.mk (blk_below (g := gb337) (o := .cells #[.int .i64 t334, .int .i64 t335, .int .i64 t336] 27 (0, 0)) (by (with_reducible repeat (first | refine blk_drewN ?_ _ | refine blk_drew ?_ | refine blk_alloc ?_ _)); exact BK337.out) hb)
             have n3_ := Aside0.mk (blk_below (g := gb358) (o := .cells #[.int .i64 t355, .int .i64 t356, .int .i64 t357] 27 (0, 0)) (by (with_reducible repeat (first | refine blk_drewN ?_ _ | refine blk_drew ?_ | refine blk_alloc ?_ _)); exact BK358.out) hb)
             have n4_ := Aside0.mk (below_step (by repeat (first | (with_reducible first | exact HB.out | apply below_alloc | apply pw_below_drewN | apply below_drew1 | refine below_set ?_ GE333.out | refine below_set ?_ GE337.out | refine below_set ?_ GE358.out) | exact HB.out)) hb)
             have n5_ := Aside0.mk (hbox)
             have n6_ := Aside0.mk ((by rw [hg]; exact (below_size (by repeat (first | (with_reducible first | exact HB.out | apply below_alloc | apply pw_below_drewN | apply below_drew1 | refine below_set ?_ GE333.out | refine below_set ?_ GE337.out | refine below_set ?_ GE358.out) | exact HB.out))) : w.heap.size ≤ gb364))
             have n7_ := Aside0.mk ((by rw [hg]; exact (below_size (by repeat (first | (with_reducible first | exact HB.out | apply below_alloc | apply pw_below_drewN | apply below_drew1 | refine below_set ?_ GE333.out | refine below_set ?_ GE337.out | refine below_set ?_ GE358.out) | exact HB.out))) : w.heap.size ≤ gb364))
             have n8_ := Aside0.mk ((by rw [hg]; exact Nat.ne_of_lt (blk_lt (g := gb333) (o := .cells #[.int .i64 t330, .int .i64 t331, .int .i64 t332] 27 (0, 0)) (by (with_reducible repeat (first | refine blk_drewN ?_ _ | refine blk_drew ?_ | refine blk_alloc ?_ _)); exact BK333.out)) : gb333 ≠ gb364))
             have n9_ := Aside0.mk ((by rw [hg]; exact Nat.ne_of_gt (blk_lt (g := gb333) (o := .cells #[.int .i64 t330, .int .i64 t331, .int .i64 t332] 27 (0, 0)) (by (with_reducible repeat (first | refine blk_drewN ?_ _ | refine blk_drew ?_ | refine blk_alloc ?_ _)); exact BK333.out)) : gb364 ≠ gb333))
             have n10_ := Aside0.mk ((by rw [hg]; exact Nat.ne_of_lt (blk_lt (g := gb337) (o := .cells #[.int .i64 t334, .int .i64 t335, .int .i64 t336] 27 (0, 0)) (by (with_reducible repeat (first | refine blk_drewN ?_ _ | refine blk_drew ?_ | refine blk_alloc ?_ _)); exact BK337.out)) : gb337 ≠ gb364))
             have n11_ := Aside0.mk ((by rw [hg]; exact Nat.ne_of_gt (blk_lt (g := gb337) (o := .cells #[.int .i64 t334, .int .i64 t335, .int .i64 t336] 27 (0, 0)) (by (with_reducible repeat (first | refine blk_drewN ?_ _ | refine blk_drew ?_ | refine blk_alloc ?_ _)); exact BK337.out)) : gb364 ≠ gb337))
             have n12_ := Aside0.mk ((by rw [hg]; exact Nat.ne_of_lt (blk_lt (g := gb358) (o := .cells #[.int .i64 t355, .int .i64 t356, .int .i64 t357] 27 (0, 0)) (by (with_reducible repeat (first | refine blk_drewN ?_ _ | refine blk_drew ?_ | refine blk_alloc ?_ _)); exact BK358.out)) : gb358 ≠ gb364))
             have n13_ := Aside0.mk ((by rw [hg]; exact Nat.ne_of_gt (blk_lt (g := gb358) (o := .cells #[.int .i64 t355, .int .i64 t356, .int .i64 t357] 27 (0, 0)) (by (with_reducible repeat (first | refine blk_drewN ?_ _ | refine blk_drew ?_ | refine blk_alloc ?_ _)); exact BK358.out)) : gb364 ≠ gb358))
             clear HO_13
             clear BK333
             clear BK337
             clear BK358
             clear HB
             have HO_13 := n0_
             have BK333 := n1_
             have BK337 := n2_
             have BK358 := n3_
             have HB := n4_
             have BK364 := n5_
             have GW364 := n6_
             have GE364 := n7_
             have NB333_364 := n8_
             have NB364_333 := n9_
             have NB337_364 := n10_
             have NB364_337 := n11_
             have NB358_364 := n12_
             have NB364_358 := n13_
             clear n0_ n1_ n2_ n3_ n4_ n5_ n6_ n7_ n8_ n9_ n10_ n11_ n12_ n13_
             clear hb hbox hg
             refine hK.out _ _ ⟨HS0_, HS1_⟩ (fun hHeld => ?_)
             clear hK K
             refine norm_ (a' := ?_) ?_ ?_
             rotate_left
             ·show Act.put _ (some 15) _ = _
              simp only [Act.put, pa, pb, pc, i64_w, i32_w]
              rfl
             exact norm_ (by simp only [putAll, Act.put, pa, pb, pc]) (hCont (gb364) _ ⟨hHeld, (by (with_reducible repeat (first | apply Kd.R_alloc | apply Kd.R_drewN | apply Kd.R_drew)); exact HO_13.out), (by (with_reducible repeat (first | refine blk_drewN ?_ _ | refine blk_drew ?_ | refine blk_alloc ?_ _)); exact BK333.out), (by (with_reducible repeat (first | refine blk_drewN ?_ _ | refine blk_drew ?_ | refine blk_alloc ?_ _)); exact BK337.out), (by (with_reducible repeat (first | refine blk_drewN ?_ _ | refine blk_drew ?_ | refine blk_alloc ?_ _)); exact BK358.out), (by (with_reducible repeat (first | refine blk_drewN ?_ _ | refine blk_drew ?_ | refine blk_alloc ?_ _)); exact BK364.out), GW364.out, GE364.out, NB333_364.out, NB364_333.out, NB337_364.out, NB364_337.out, NB358_364.out, NB364_358.out, (by repeat (first | (with_reducible first | exact HB.out | apply below_alloc | apply pw_below_drewN | apply below_drew1 | refine below_set ?_ GE333.out | refine below_set ?_ GE337.out | refine below_set ?_ GE358.out | refine below_set ?_ GE364.out) | exact HB.out))⟩)
            ·skip
             refine box_step ?hg (N := 15) ?hd (cs := #[.int .i64 0, .int .i64 0, .int .i64 0]) (t := 27) ?hr ?_; (case hd => rfl); (case hg => rfl); (case hr => first | (go_simp; done) | (go_simp; rfl))
             intro gb364 hg w78 hbox hb
             have HS0_ := (hb.cell (World.block_lt_of_cell? _ _ (hHeld.1))).trans (hHeld.1)
             have HS1_ := (hb.cell (World.block_lt_of_cell? _ _ (hHeld.2))).trans (hHeld.2)
             have n0_ := Aside0.mk (Kd.R_below (by (with_reducible repeat (first | apply Kd.R_alloc | apply Kd.R_drewN | apply Kd.R_drew)); exact HO_13.out) hb)
             have n1_ := Aside0.mk (blk_below (g := gb333) (o := .cells #[.int .i64 t330, .int .i64 t331, .int .i64 t332] 27 (0, 0)) (by (with_reducible repeat (first | refine blk_drewN ?_ _ | refine blk_drew ?_ | refine blk_alloc ?_ _)); exact BK333.out) hb)
             have n2_ := Aside0.mk (blk_below (g := gb337) (o := .cells #[.int .i64 t334, .int .i64 t335, .int .i64 t336] 27 (0, 0)) (by (with_reducible repeat (first | refine blk_drewN ?_ _ | refine blk_drew ?_ | refine blk_alloc ?_ _)); exact BK337.out) hb)
             have n3_ := Aside0.mk (blk_below (g := gb358) (o := .cells #[.int .i64 t355, .int .i64 t356, .int .i64 t357] 27 (0, 0)) (by (with_reducible repeat (first | refine blk_drewN ?_ _ | refine blk_drew ?_ | refine blk_alloc ?_ _)); exact BK358.out) hb)
             have n4_ := Aside0.mk (below_step (by repeat (first | (with_reducible first | exact HB.out | apply below_alloc | apply pw_below_drewN | apply below_drew1 | refine below_set ?_ GE333.out | refine below_set ?_ GE337.out | refine below_set ?_ GE358.out) | exact HB.out)) hb)
             have n5_ := Aside0.mk (hbox)
             have n6_ := Aside0.mk ((by rw [hg]; exact (below_size (by repeat (first | (with_reducible first | exact HB.out | apply below_alloc | apply pw_below_drewN | apply below_drew1 | refine below_set ?_ GE333.out | refine below_set ?_ GE337.out | refine below_set ?_ GE358.out) | exact HB.out))) : w.heap.size ≤ gb364))
             have n7_ := Aside0.mk ((by rw [hg]; exact (below_size (by repeat (first | (with_reducible first | exact HB.out | apply below_alloc | apply pw_below_drewN | apply below_drew1 | refine below_set ?_ GE333.out | refine below_set ?_ GE337.out | refine below_set ?_ GE358.out) | exact HB.out))) : w.heap.size ≤ gb364))
             have n8_ := Aside0.mk ((by rw [hg]; exact Nat.ne_of_lt (blk_lt (g := gb333) (o := .cells #[.int .i64 t330, .int .i64 t331, .int .i64 t332] 27 (0, 0)) (by (with_reducible repeat (first | refine blk_drewN ?_ _ | refine blk_drew ?_ | refine blk_alloc ?_ _)); exact BK333.out)) : gb333 ≠ gb364))
             have n9_ := Aside0.mk ((by rw [hg]; exact Nat.ne_of_gt (blk_lt (g := gb333) (o := .cells #[.int .i64 t330, .int .i64 t331, .int .i64 t332] 27 (0, 0)) (by (with_reducible repeat (first | refine blk_drewN ?_ _ | refine blk_drew ?_ | refine blk_alloc ?_ _)); exact BK333.out)) : gb364 ≠ gb333))
             have n10_ := Aside0.mk ((by rw [hg]; exact Nat.ne_of_lt (blk_lt (g := gb337) (o := .cells #[.int .i64 t334, .int .i64 t335, .int .i64 t336] 27 (0, 0)) (by (with_reducible repeat (first | refine blk_drewN ?_ _ | refine blk_drew ?_ | refine blk_alloc ?_ _)); exact BK337.out)) : gb337 ≠ gb364))
             have n11_ := Aside0.mk ((by rw [hg]; exact Nat.ne_of_gt (blk_lt (g := gb337) (o := .cells #[.int .i64 t334, .int .i64 t335, .int .i64 t336] 27 (0, 0)) (by (with_reducible repeat (first | refine blk_drewN ?_ _ | refine blk_drew ?_ | refine blk_alloc ?_ _)); exact BK337.out)) : gb364 ≠ gb337))
             have n12_ := Aside0.mk ((by rw [hg]; exact Nat.ne_of_lt (blk_lt (g := gb358) (o := .cells #[.int .i64 t355, .int .i64 t356, .int .i64 t357] 27 (0, 0)) (by (with_reducible repeat (first | refine blk_drewN ?_ _ | refine blk_drew ?_ | refine blk_alloc ?_ _)); exact BK358.out)) : gb358 ≠ gb364))
             have n13_ := Aside0.mk ((by rw [hg]; exact Nat.ne_of_gt (blk_lt (g := gb358) (o := .cells #[.int .i64 t355, .int .i64 t356, .int .i64 t357] 27 (0, 0)) (by (with_reducible repeat (first | refine blk_drewN ?_ _ | refine blk_drew ?_ | refine blk_alloc ?_ _)); exact BK358.out)) : gb364 ≠ gb358))
             clear HO_13
             clear BK333
             clear BK337
             clear BK358
             clear HB
             have HO_13 := n0_
             have BK333 := n1_
             have BK337 := n2_
             have BK358 := n3_
             have HB := n4_
             have BK364 := n5_
             have GW364 := n6_
             have GE364 := n7_
             have NB333_364 := n8_
             have NB364_333 := n9_
             have NB337_364 := n10_
             have NB364_337 := n11_
             have NB358_364 := n12_
             have NB364_358 := n13_
             clear n0_ n1_ n2_ n3_ n4_ n5_ n6_ n7_ n8_ n9_ n10_ n11_ n12_ n13_
             clear hb hbox hg
             refine hK.out _ _ ⟨HS0_, HS1_⟩ (fun hHeld => ?_)
             clear hK K
             refine norm_ (a' := ?_) ?_ ?_
             rotate_left
             ·show Act.put _ (some 15) _ = _
              simp only [Act.put, pa, pb, pc, i64_w, i32_w]
              rfl
             refine one_ (i := 8) (N := some 107) #[Y, Y, Y, Y, Y, Y, Y, Y, Y, Y, N] rfl rfl (one_of HT_.out (by kernel_rfl)) (by decide) (fun K hK => ?_)
             refine goes_ Try.func13 (by kernel_rfl) rfl #[.int .i64 t322, .int .i64 t323, .int .i64 (rd t350 0), .int .i64 (rd t350 1)] (by rfl) rfl rfl (by first | rfl | (simp only [List.map_toArray, List.map_cons, List.map_nil]; rfl)) ?_
             with_reducible refine (impl_BackPair.calls kj29 t322 t323 (rd t350 0) (rd t350 1) t361 t362 t363 _ A66.out).mono ?_
             rintro e w79 ⟨rfl, hb⟩
             have HS0_ := (hb.cell (World.block_lt_of_cell? _ _ (hHeld.1))).trans (hHeld.1)
             have HS1_ := (hb.cell (World.block_lt_of_cell? _ _ (hHeld.2))).trans (hHeld.2)
             refine ⟨_, rfl, ?_⟩
             have n0_ := Aside0.mk (Kd.R_below (by (with_reducible repeat (first | apply Kd.R_alloc | apply Kd.R_drewN | apply Kd.R_drew)); exact HO_13.out) hb)
             have n1_ := Aside0.mk (blk_below (g := gb333) (o := .cells #[.int .i64 t330, .int .i64 t331, .int .i64 t332] 27 (0, 0)) (by (with_reducible repeat (first | refine blk_drewN ?_ _ | refine blk_drew ?_ | refine blk_alloc ?_ _)); exact BK333.out) hb)
             have n2_ := Aside0.mk (blk_below (g := gb337) (o := .cells #[.int .i64 t334, .int .i64 t335, .int .i64 t336] 27 (0, 0)) (by (with_reducible repeat (first | refine blk_drewN ?_ _ | refine blk_drew ?_ | refine blk_alloc ?_ _)); exact BK337.out) hb)
             have n3_ := Aside0.mk (blk_below (g := gb358) (o := .cells #[.int .i64 t355, .int .i64 t356, .int .i64 t357] 27 (0, 0)) (by (with_reducible repeat (first | refine blk_drewN ?_ _ | refine blk_drew ?_ | refine blk_alloc ?_ _)); exact BK358.out) hb)
             have n4_ := Aside0.mk (blk_below (g := gb364) (o := .cells #[.int .i64 0, .int .i64 0, .int .i64 0] 27 (0, 0)) (by (with_reducible repeat (first | refine blk_drewN ?_ _ | refine blk_drew ?_ | refine blk_alloc ?_ _)); exact BK364.out) hb)
             have n5_ := Aside0.mk (below_step (by repeat (first | (with_reducible first | exact HB.out | apply below_alloc | apply pw_below_drewN | apply below_drew1 | refine below_set ?_ GE333.out | refine below_set ?_ GE337.out | refine below_set ?_ GE358.out | refine below_set ?_ GE364.out) | exact HB.out)) hb)
             clear HO_13
             clear BK333
             clear BK337
             clear BK358
             clear BK364
             clear HB
             have HO_13 := n0_
             have BK333 := n1_
             have BK337 := n2_
             have BK358 := n3_
             have BK364 := n4_
             have HB := n5_
             clear n0_ n1_ n2_ n3_ n4_ n5_
             (try clear hb)
             (try clear hb2)
             (try clear hk)
             (try clear hi)
             refine hK.out _ _ ⟨HS0_, HS1_⟩ (fun hHeld => ?_)
             clear hK K
             refine norm_ (a' := ?_) ?_ ?_
             rotate_left
             ·show Act.put _ (some 107) _ = _
              simp only [Act.put, pa, pb, pc, i64_w, i32_w]
              rfl
             exact norm_ (by simp only [putAll, Act.put, pa, pb, pc]) (hCont (gb364) _ ⟨hHeld, (by (with_reducible repeat (first | apply Kd.R_alloc | apply Kd.R_drewN | apply Kd.R_drew)); exact HO_13.out), (by (with_reducible repeat (first | refine blk_drewN ?_ _ | refine blk_drew ?_ | refine blk_alloc ?_ _)); exact BK333.out), (by (with_reducible repeat (first | refine blk_drewN ?_ _ | refine blk_drew ?_ | refine blk_alloc ?_ _)); exact BK337.out), (by (with_reducible repeat (first | refine blk_drewN ?_ _ | refine blk_drew ?_ | refine blk_alloc ?_ _)); exact BK358.out), (by (with_reducible repeat (first | refine blk_drewN ?_ _ | refine blk_drew ?_ | refine blk_alloc ?_ _)); exact BK364.out), GW364.out, GE364.out, NB333_364.out, NB364_333.out, NB337_364.out, NB364_337.out, NB358_364.out, NB364_358.out, (by repeat (first | (with_reducible first | exact HB.out | apply below_alloc | apply pw_below_drewN | apply below_drew1 | refine below_set ?_ GE333.out | refine below_set ?_ GE337.out | refine below_set ?_ GE358.out | refine below_set ?_ GE364.out) | exact HB.out))⟩)
           rintro gb364 w80 ⟨hS_, h0_, h1_, h2_, h3_, h4_, h5_, h6_, h7_, h8_, h9_, h10_, h11_, h12_, h13_⟩
           have n0_ : Aside0 (Kd.R (Kd.int .i64) 2 w80 w.heap.size (fun _ => True) (.slice (some ad359) t350.length co77) t350) := ⟨h0_⟩
           have n1_ : Aside0 (w80.heap[gb333]? = some (.cells #[.int .i64 t330, .int .i64 t331, .int .i64 t332] 27 (0, 0))) := ⟨h1_⟩
           have n2_ : Aside0 (w80.heap[gb337]? = some (.cells #[.int .i64 t334, .int .i64 t335, .int .i64 t336] 27 (0, 0))) := ⟨h2_⟩
           have n3_ : Aside0 (w80.heap[gb358]? = some (.cells #[.int .i64 t355, .int .i64 t356, .int .i64 t357] 27 (0, 0))) := ⟨h3_⟩
           have n4_ : Aside0 (w80.heap[gb364]? = some (.cells #[.int .i64 0, .int .i64 0, .int .i64 0] 27 (0, 0))) := ⟨h4_⟩
           have n5_ : Aside0 (w.heap.size ≤ gb364) := ⟨h5_⟩
           have n6_ : Aside0 (w.heap.size ≤ gb364) := ⟨h6_⟩
           have n7_ : Aside0 (gb333 ≠ gb364) := ⟨h7_⟩
           have n8_ : Aside0 (gb364 ≠ gb333) := ⟨h8_⟩
           have n9_ : Aside0 (gb337 ≠ gb364) := ⟨h9_⟩
           have n10_ : Aside0 (gb364 ≠ gb337) := ⟨h10_⟩
           have n11_ : Aside0 (gb358 ≠ gb364) := ⟨h11_⟩
           have n12_ : Aside0 (gb364 ≠ gb358) := ⟨h12_⟩
           have n13_ : Aside0 (Below w.heap.size w w80) := ⟨h13_⟩
           clear HO_13
           clear BK333
           clear BK337
           clear BK358
           clear HB
           clear h0_ h1_ h2_ h3_ h4_ h5_ h6_ h7_ h8_ h9_ h10_ h11_ h12_ h13_
           have HO_13 := n0_
           have BK333 := n1_
           have BK337 := n2_
           have BK358 := n3_
           have BK364 := n4_
           have GW364 := n5_
           have GE364 := n6_
           have NB333_364 := n7_
           have NB364_333 := n8_
           have NB337_364 := n9_
           have NB364_337 := n10_
           have NB358_364 := n11_
           have NB364_358 := n12_
           have HB := n13_
           clear n0_ n1_ n2_ n3_ n4_ n5_ n6_ n7_ n8_ n9_ n10_ n11_ n12_ n13_
           have hHeld : w80.cell? ad359 = some (.int .i64 (rd t350 0)) ∧ w80.cell? ⟨ad359.block, ad359.off + 1, none⟩ = some (.int .i64 (rd t350 1)) := hS_
           refine norm_ (a' := ?_) ?_ ?_
           rotate_left
           ·simp only [putAll, Act.put, pa, pb, pc]
            rfl
           refine one_ (i := 10) (N := none) #[Y, Y, Y, Y, Y, Y, Y, Y, Y, Y, Y] rfl rfl (one_of HT_.out (by kernel_rfl)) (by decide) (fun K hK => ?_)
           have hs81 : w80.cell? ⟨gb364, 0, none⟩ = some (.int .i64 0) := (blk_cell BK364.out 0).trans rfl
           have hfs81 := blk_frozen BK364.out 0
           have hns81_0 := NB333_364.out
           have hns81_1 := NB337_364.out
           have hns81_2 := NB358_364.out
           have hms81_0 := NB364_333.out
           have hms81_1 := NB364_337.out
           have hms81_2 := NB364_358.out
           have hs82 : w80.cell? ⟨gb364, 1, none⟩ = some (.int .i64 0) := (blk_cell BK364.out 1).trans rfl
           have hfs82 := blk_frozen BK364.out 1
           have hns82_0 := NB333_364.out
           have hns82_1 := NB337_364.out
           have hns82_2 := NB358_364.out
           have hms82_0 := NB364_333.out
           have hms82_1 := NB364_337.out
           have hms82_2 := NB364_358.out
           have hs83 : w80.cell? ⟨gb364, 2, none⟩ = some (.int .i64 0) := (blk_cell BK364.out 2).trans rfl
           have hfs83 := blk_frozen BK364.out 2
           have hns83_0 := NB333_364.out
           have hns83_1 := NB337_364.out
           have hns83_2 := NB358_364.out
           have hms83_0 := NB364_333.out
           have hms83_1 := NB364_337.out
           have hms83_2 := NB364_358.out
           refine skip_ (w1 := ?_) (by rfl) rfl ?_ ?_
           rotate_left
           ·go_simp
            rfl
           refine hK.out _ _ ⟨((cell_far (p := ⟨gb364, _, none⟩) (by first | exact (Kd.own_blk (Kd.R_ne HO_13.out BK364.out (by decide)) :) | (rw [add_block]; exact (Kd.own_blk (Kd.R_ne HO_13.out BK364.out (by decide)) :)) | (show (Addr.add _ _).block ≠ _; rw [add_block]; exact (Kd.own_blk (Kd.R_ne HO_13.out BK364.out (by decide)) :)) | (dsimp only; exact (Kd.own_blk (Kd.R_ne HO_13.out BK364.out (by decide)) :))) _).trans (((cell_far (p := ⟨gb364, _, none⟩) (by first | exact (Kd.own_blk (Kd.R_ne HO_13.out BK364.out (by decide)) :) | (rw [add_block]; exact (Kd.own_blk (Kd.R_ne HO_13.out BK364.out (by decide)) :)) | (show (Addr.add _ _).block ≠ _; rw [add_block]; exact (Kd.own_blk (Kd.R_ne HO_13.out BK364.out (by decide)) :)) | (dsimp only; exact (Kd.own_blk (Kd.R_ne HO_13.out BK364.out (by decide)) :))) _).trans (((cell_far (p := ⟨gb364, _, none⟩) (by first | exact (Kd.own_blk (Kd.R_ne HO_13.out BK364.out (by decide)) :) | (rw [add_block]; exact (Kd.own_blk (Kd.R_ne HO_13.out BK364.out (by decide)) :)) | (show (Addr.add _ _).block ≠ _; rw [add_block]; exact (Kd.own_blk (Kd.R_ne HO_13.out BK364.out (by decide)) :)) | (dsimp only; exact (Kd.own_blk (Kd.R_ne HO_13.out BK364.out (by decide)) :))) _).trans (hHeld.1)))))), ((cell_far (p := ⟨gb364, _, none⟩) (by first | exact (Kd.own_blk (Kd.R_ne HO_13.out BK364.out (by decide)) :) | (rw [add_block]; exact (Kd.own_blk (Kd.R_ne HO_13.out BK364.out (by decide)) :)) | (show (Addr.add _ _).block ≠ _; rw [add_block]; exact (Kd.own_blk (Kd.R_ne HO_13.out BK364.out (by decide)) :)) | (dsimp only; exact (Kd.own_blk (Kd.R_ne HO_13.out BK364.out (by decide)) :))) _).trans (((cell_far (p := ⟨gb364, _, none⟩) (by first | exact (Kd.own_blk (Kd.R_ne HO_13.out BK364.out (by decide)) :) | (rw [add_block]; exact (Kd.own_blk (Kd.R_ne HO_13.out BK364.out (by decide)) :)) | (show (Addr.add _ _).block ≠ _; rw [add_block]; exact (Kd.own_blk (Kd.R_ne HO_13.out BK364.out (by decide)) :)) | (dsimp only; exact (Kd.own_blk (Kd.R_ne HO_13.out BK364.out (by decide)) :))) _).trans (((cell_far (p := ⟨gb364, _, none⟩) (by first | exact (Kd.own_blk (Kd.R_ne HO_13.out BK364.out (by decide)) :) | (rw [add_block]; exact (Kd.own_blk (Kd.R_ne HO_13.out BK364.out (by decide)) :)) | (show (Addr.add _ _).block ≠ _; rw [add_block]; exact (Kd.own_blk (Kd.R_ne HO_13.out BK364.out (by decide)) :)) | (dsimp only; exact (Kd.own_blk (Kd.R_ne HO_13.out BK364.out (by decide)) :))) _).trans (hHeld.2))))))⟩ (fun hHeld => ?_)
           clear hK K
           refine done_ (done_of HT_.out (by kernel_rfl)) ?_
           try go_wp2_with (first | ((with_reducible refine gate_callee (f := 14) rfl ?_); refine goesL_ (some 110) rfl rfl Try.func14 (by kernel_rfl) rfl #[.int .i64 t324, .int .i64 t325] rfl (by first | rfl | (simp only [List.map_toArray, List.map_cons, List.map_nil]; rfl)) ?_; (with_reducible refine (impl_PartPair.calls t324 t325 t365 t366 t367 _ A67.out).mono ?_); rintro e w84 ⟨rfl, hb⟩; refine ⟨_, rfl, ?_⟩; have n0_ := Aside0.mk (Kd.R_below (by (with_reducible repeat (first | apply Kd.R_alloc | apply Kd.R_drewN | apply Kd.R_drew)); exact (Kd.R_mono (Kd.R_far (p := ⟨gb364, 2, none⟩) (Kd.R_far (p := ⟨gb364, 1, none⟩) (Kd.R_far (p := ⟨gb364, 0, none⟩) (Kd.R_types HO_13.out BK364.out (by decide)) (fun _ hk => hk.2) (.int .i64 t361)) (fun _ hk => hk.2) (.int .i64 t362)) (fun _ hk => hk.2) (.int .i64 t363)) (fun _ h_ => h_.1))) hb); have n1_ := Aside0.mk (blk_below (g := gb333) (o := .cells #[.int .i64 t330, .int .i64 t331, .int .i64 t332] 27 (0, 0)) (by (with_reducible repeat (first | refine blk_drewN ?_ _ | refine blk_drew ?_ | refine blk_alloc ?_ _)); refine blk_far ?_ NB333_364.out _; (with_reducible repeat (first | refine blk_drewN ?_ _ | refine blk_drew ?_ | refine blk_alloc ?_ _)); refine blk_far ?_ NB333_364.out _; (with_reducible repeat (first | refine blk_drewN ?_ _ | refine blk_drew ?_ | refine blk_alloc ?_ _)); refine blk_far ?_ NB333_364.out _; (with_reducible repeat (first | refine blk_drewN ?_ _ | refine blk_drew ?_ | refine blk_alloc ?_ _)); exact BK333.out) hb); have n2_ := Aside0.mk (blk_below (g := gb337) (o := .cells #[.int .i64 t334, .int .i64 t335, .int .i64 t336] 27 (0, 0)) (by (with_reducible repeat (first | refine blk_drewN ?_ _ | refine blk_drew ?_ | refine blk_alloc ?_ _)); refine blk_far ?_ NB337_364.out _; (with_reducible repeat (first | refine blk_drewN ?_ _ | refine blk_drew ?_ | refine blk_alloc ?_ _)); refine blk_far ?_ NB337_364.out _; (with_reducible repeat (first | refine blk_drewN ?_ _ | refine blk_drew ?_ | refine blk_alloc ?_ _)); refine blk_far ?_ NB337_364.out _; (with_reducible repeat (first | refine blk_drewN ?_ _ | refine blk_drew ?_ | refine blk_alloc ?_ _)); exact BK337.out) hb); have n3_ := Aside0.mk (blk_below (g := gb358) (o := .cells #[.int .i64 t355, .int .i64 t356, .int .i64 t357] 27 (0, 0)) (by (with_reducible repeat (first | refine blk_drewN ?_ _ | refine blk_drew ?_ | refine blk_alloc ?_ _)); refine blk_far ?_ NB358_364.out _; (with_reducible repeat (first | refine blk_drewN ?_ _ | refine blk_drew ?_ | refine blk_alloc ?_ _)); refine blk_far ?_ NB358_364.out _; (with_reducible repeat (first | refine blk_drewN ?_ _ | refine blk_drew ?_ | refine blk_alloc ?_ _)); refine blk_far ?_ NB358_364.out _; (with_reducible repeat (first | refine blk_drewN ?_ _ | refine blk_drew ?_ | refine blk_alloc ?_ _)); exact BK358.out) hb); have n4_ := Aside0.mk (blk_below (g := gb364) (o := .cells #[.int .i64 t361, .int .i64 t362, .int .i64 t363] 27 (0, 0)) (by (with_reducible repeat (first | refine blk_drewN ?_ _ | refine blk_drew ?_ | refine blk_alloc ?_ _)); refine blk_put (cs := #[.int .i64 t361, .int .i64 t362, .int .i64 0]) ?_ 2 _ rfl; (with_reducible repeat (first | refine blk_drewN ?_ _ | refine blk_drew ?_ | refine blk_alloc ?_ _)); refine blk_put (cs := #[.int .i64 t361, .int .i64 0, .int .i64 0]) ?_ 1 _ rfl; (with_reducible repeat (first | refine blk_drewN ?_ _ | refine blk_drew ?_ | refine blk_alloc ?_ _)); refine blk_put (cs := #[.int .i64 0, .int .i64 0, .int .i64 0]) ?_ 0 _ rfl; (with_reducible repeat (first | refine blk_drewN ?_ _ | refine blk_drew ?_ | refine blk_alloc ?_ _)); exact BK364.out) hb); have n5_ := Aside0.mk (below_step (by repeat (first | (with_reducible first | exact HB.out | apply below_alloc | apply pw_below_drewN | apply below_drew1 | refine below_set ?_ GE333.out | refine below_set ?_ GE337.out | refine below_set ?_ GE358.out | refine below_set ?_ GE364.out) | exact HB.out)) hb); clear HO_13; clear BK333; clear BK337; clear BK358; clear BK364; clear HB; have HO_13 := n0_; have BK333 := n1_; have BK337 := n2_; have BK358 := n3_; have BK364 := n4_; have HB := n5_; clear n0_ n1_ n2_ n3_ n4_ n5_; (try clear hb)) | ((with_reducible refine gate_dst (N := 16) rfl ?_); refine box_event ?hg (N := 16) ?hd (cs := #[.int .i64 0, .int .i64 0, .int .i64 0]) (t := 27) ?hr ?_; (case hd => rfl); (case hg => rfl); (case hr => first | (go_simp; done) | (go_simp; rfl)); intro gb368 hg w85 hbox hb; have n0_ := Aside0.mk (Kd.R_below (by (with_reducible repeat (first | apply Kd.R_alloc | apply Kd.R_drewN | apply Kd.R_drew)); exact HO_13.out) hb); have n1_ := Aside0.mk (blk_below (g := gb333) (o := .cells #[.int .i64 t330, .int .i64 t331, .int .i64 t332] 27 (0, 0)) (by (with_reducible repeat (first | refine blk_drewN ?_ _ | refine blk_drew ?_ | refine blk_alloc ?_ _)); exact BK333.out) hb); have n2_ := Aside0.mk (blk_below (g := gb337) (o := .cells #[.int .i64 t334, .int .i64 t335, .int .i64 t336] 27 (0, 0)) (by (with_reducible repeat (first | refine blk_drewN ?_ _ | refine blk_drew ?_ | refine blk_alloc ?_ _)); exact BK337.out) hb); have n3_ := Aside0.mk (blk_below (g := gb358) (o := .cells #[.int .i64 t355, .int .i64 t356, .int .i64 t357] 27 (0, 0)) (by (with_reducible repeat (first | refine blk_drewN ?_ _ | refine blk_drew ?_ | refine blk_alloc ?_ _)); exact BK358.out) hb); have n4_ := Aside0.mk (blk_below (g := gb364) (o := .cells #[.int .i64 t361, .int .i64 t362, .int .i64 t363] 27 (0, 0)) (by (with_reducible repeat (first | refine blk_drewN ?_ _ | refine blk_drew ?_ | refine blk_alloc ?_ _)); exact BK364.out) hb); have n5_ := Aside0.mk (below_step (by repeat (first | (with_reducible first | exact HB.out | apply below_alloc | apply pw_below_drewN | apply below_drew1 | refine below_set ?_ GE333.out | refine below_set ?_ GE337.out | refine below_set ?_ GE358.out | refine below_set ?_ GE364.out) | exact HB.out)) hb); have n6_ := Aside0.mk (hbox); have n7_ := Aside0.mk ((by rw [hg]; exact (below_size (by repeat (first | (with_reducible first | exact HB.out | apply below_alloc | apply pw_below_drewN | apply below_drew1 | refine below_set ?_ GE333.out | refine below_set ?_ GE337.out | refine below_set ?_ GE358.out | refine below_set ?_ GE364.out) | exact HB.out))) : w.heap.size ≤ gb368)); have n8_ := Aside0.mk ((by rw [hg]; exact (below_size (by repeat (first | (with_reducible first | exact HB.out | apply below_alloc | apply pw_below_drewN | apply below_drew1 | refine below_set ?_ GE333.out | refine below_set ?_ GE337.out | refine below_set ?_ GE358.out | refine below_set ?_ GE364.out) | exact HB.out))) : w.heap.size ≤ gb368)); have n9_ := Aside0.mk ((by rw [hg]; exact Nat.ne_of_lt (blk_lt (g := gb333) (o := .cells #[.int .i64 t330, .int .i64 t331, .int .i64 t332] 27 (0, 0)) (by (with_reducible repeat (first | refine blk_drewN ?_ _ | refine blk_drew ?_ | refine blk_alloc ?_ _)); exact BK333.out)) : gb333 ≠ gb368)); have n10_ := Aside0.mk ((by rw [hg]; exact Nat.ne_of_gt (blk_lt (g := gb333) (o := .cells #[.int .i64 t330, .int .i64 t331, .int .i64 t332] 27 (0, 0)) (by (with_reducible repeat (first | refine blk_drewN ?_ _ | refine blk_drew ?_ | refine blk_alloc ?_ _)); exact BK333.out)) : gb368 ≠ gb333)); have n11_ := Aside0.mk ((by rw [hg]; exact Nat.ne_of_lt (blk_lt (g := gb337) (o := .cells #[.int .i64 t334, .int .i64 t335, .int .i64 t336] 27 (0, 0)) (by (with_reducible repeat (first | refine blk_drewN ?_ _ | refine blk_drew ?_ | refine blk_alloc ?_ _)); exact BK337.out)) : gb337 ≠ gb368)); have n12_ := Aside0.mk ((by rw [hg]; exact Nat.ne_of_gt (blk_lt (g := gb337) (o := .cells #[.int .i64 t334, .int .i64 t335, .int .i64 t336] 27 (0, 0)) (by (with_reducible repeat (first | refine blk_drewN ?_ _ | refine blk_drew ?_ | refine blk_alloc ?_ _)); exact BK337.out)) : gb368 ≠ gb337)); have n13_ := Aside0.mk ((by rw [hg]; exact Nat.ne_of_lt (blk_lt (g := gb358) (o := .cells #[.int .i64 t355, .int .i64 t356, .int .i64 t357] 27 (0, 0)) (by (with_reducible repeat (first | refine blk_drewN ?_ _ | refine blk_drew ?_ | refine blk_alloc ?_ _)); exact BK358.out)) : gb358 ≠ gb368)); have n14_ := Aside0.mk ((by rw [hg]; exact Nat.ne_of_gt (blk_lt (g := gb358) (o := .cells #[.int .i64 t355, .int .i64 t356, .int .i64 t357] 27 (0, 0)) (by (with_reducible repeat (first | refine blk_drewN ?_ _ | refine blk_drew ?_ | refine blk_alloc ?_ _)); exact BK358.out)) : gb368 ≠ gb358)); have n15_ := Aside0.mk ((by rw [hg]; exact Nat.ne_of_lt (blk_lt (g := gb364) (o := .cells #[.int .i64 t361, .int .i64 t362, .int .i64 t363] 27 (0, 0)) (by (with_reducible repeat (first | refine blk_drewN ?_ _ | refine blk_drew ?_ | refine blk_alloc ?_ _)); exact BK364.out)) : gb364 ≠ gb368)); have n16_ := Aside0.mk ((by rw [hg]; exact Nat.ne_of_gt (blk_lt (g := gb364) (o := .cells #[.int .i64 t361, .int .i64 t362, .int .i64 t363] 27 (0, 0)) (by (with_reducible repeat (first | refine blk_drewN ?_ _ | refine blk_drew ?_ | refine blk_alloc ?_ _)); exact BK364.out)) : gb368 ≠ gb364)); clear HO_13; clear BK333; clear BK337; clear BK358; clear BK364; clear HB; have HO_13 := n0_; have BK333 := n1_; have BK337 := n2_; have BK358 := n3_; have BK364 := n4_; have HB := n5_; have BK368 := n6_; have GW368 := n7_; have GE368 := n8_; have NB333_368 := n9_; have NB368_333 := n10_; have NB337_368 := n11_; have NB368_337 := n12_; have NB358_368 := n13_; have NB368_358 := n14_; have NB364_368 := n15_; have NB368_364 := n16_; clear n0_ n1_ n2_ n3_ n4_ n5_ n6_ n7_ n8_ n9_ n10_ n11_ n12_ n13_ n14_ n15_ n16_; clear hb hbox hg; have hnb86 := NB368_333.out; have hnc86 := NB333_368.out; have hnb87 := NB368_337.out; have hnc87 := NB337_368.out; have hnb88 := NB368_358.out; have hnc88 := NB358_368.out; have hnb89 := NB368_364.out; have hnc89 := NB364_368.out; have hcz90_0 : w85.cell? ⟨gb368, 0, none⟩ = some (.int .i64 0) := (blk_cell BK368.out 0).trans rfl; have hcz90_1 : w85.cell? ⟨gb368, 1, none⟩ = some (.int .i64 0) := (blk_cell BK368.out 1).trans rfl; have hcz90_2 : w85.cell? ⟨gb368, 2, none⟩ = some (.int .i64 0) := (blk_cell BK368.out 2).trans rfl; have hfz90_0 := blk_frozen BK368.out 0; have hfz90_1 := blk_frozen BK368.out 1; have hfz90_2 := blk_frozen BK368.out 2))
           have n0_ : Aside0 (Kd.R (Kd.int .i64) 2 (((w85.setCell ⟨gb368, 0, none⟩ (.int .i64 t365)).setCell ⟨gb368, 1, none⟩ (.int .i64 t366)).setCell ⟨gb368, 2, none⟩ (.int .i64 t367)) w.heap.size (fun _ => True) (.slice (some ad359) t350.length co77) t350) := ⟨by (with_reducible repeat (first | apply Kd.R_alloc | apply Kd.R_drewN | apply Kd.R_drew)); exact Kd.R_mono (Kd.R_far (p := ⟨gb368, 2, none⟩) (Kd.R_far (p := ⟨gb368, 1, none⟩) (Kd.R_far (p := ⟨gb368, 0, none⟩) (Kd.R_types HO_13.out BK368.out (by decide)) (fun _ hk => hk.2) (.int .i64 t365)) (fun _ hk => hk.2) (.int .i64 t366)) (fun _ hk => hk.2) (.int .i64 t367)) (fun _ hk => trivial)⟩
           have n1_ : Aside0 ((((w85.setCell ⟨gb368, 0, none⟩ (.int .i64 t365)).setCell ⟨gb368, 1, none⟩ (.int .i64 t366)).setCell ⟨gb368, 2, none⟩ (.int .i64 t367)).heap[gb333]? = some (.cells #[.int .i64 t330, .int .i64 t331, .int .i64 t332] 27 (0, 0))) := ⟨by (with_reducible repeat (first | refine blk_drewN ?_ _ | refine blk_drew ?_ | refine blk_alloc ?_ _)); refine blk_far ?_ NB333_368.out _; (with_reducible repeat (first | refine blk_drewN ?_ _ | refine blk_drew ?_ | refine blk_alloc ?_ _)); refine blk_far ?_ NB333_368.out _; (with_reducible repeat (first | refine blk_drewN ?_ _ | refine blk_drew ?_ | refine blk_alloc ?_ _)); refine blk_far ?_ NB333_368.out _; (with_reducible repeat (first | refine blk_drewN ?_ _ | refine blk_drew ?_ | refine blk_alloc ?_ _)); exact BK333.out⟩
           have n2_ : Aside0 ((((w85.setCell ⟨gb368, 0, none⟩ (.int .i64 t365)).setCell ⟨gb368, 1, none⟩ (.int .i64 t366)).setCell ⟨gb368, 2, none⟩ (.int .i64 t367)).heap[gb337]? = some (.cells #[.int .i64 t334, .int .i64 t335, .int .i64 t336] 27 (0, 0))) := ⟨by (with_reducible repeat (first | refine blk_drewN ?_ _ | refine blk_drew ?_ | refine blk_alloc ?_ _)); refine blk_far ?_ NB337_368.out _; (with_reducible repeat (first | refine blk_drewN ?_ _ | refine blk_drew ?_ | refine blk_alloc ?_ _)); refine blk_far ?_ NB337_368.out _; (with_reducible repeat (first | refine blk_drewN ?_ _ | refine blk_drew ?_ | refine blk_alloc ?_ _)); refine blk_far ?_ NB337_368.out _; (with_reducible repeat (first | refine blk_drewN ?_ _ | refine blk_drew ?_ | refine blk_alloc ?_ _)); exact BK337.out⟩
           have n3_ : Aside0 ((((w85.setCell ⟨gb368, 0, none⟩ (.int .i64 t365)).setCell ⟨gb368, 1, none⟩ (.int .i64 t366)).setCell ⟨gb368, 2, none⟩ (.int .i64 t367)).heap[gb358]? = some (.cells #[.int .i64 t355, .int .i64 t356, .int .i64 t357] 27 (0, 0))) := ⟨by (with_reducible repeat (first | refine blk_drewN ?_ _ | refine blk_drew ?_ | refine blk_alloc ?_ _)); refine blk_far ?_ NB358_368.out _; (with_reducible repeat (first | refine blk_drewN ?_ _ | refine blk_drew ?_ | refine blk_alloc ?_ _)); refine blk_far ?_ NB358_368.out _; (with_reducible repeat (first | refine blk_drewN ?_ _ | refine blk_drew ?_ | refine blk_alloc ?_ _)); refine blk_far ?_ NB358_368.out _; (with_reducible repeat (first | refine blk_drewN ?_ _ | refine blk_drew ?_ | refine blk_alloc ?_ _)); exact BK358.out⟩
           have n4_ : Aside0 ((((w85.setCell ⟨gb368, 0, none⟩ (.int .i64 t365)).setCell ⟨gb368, 1, none⟩ (.int .i64 t366)).setCell ⟨gb368, 2, none⟩ (.int .i64 t367)).heap[gb364]? = some (.cells #[.int .i64 t361, .int .i64 t362, .int .i64 t363] 27 (0, 0))) := ⟨by (with_reducible repeat (first | refine blk_drewN ?_ _ | refine blk_drew ?_ | refine blk_alloc ?_ _)); refine blk_far ?_ NB364_368.out _; (with_reducible repeat (first | refine blk_drewN ?_ _ | refine blk_drew ?_ | refine blk_alloc ?_ _)); refine blk_far ?_ NB364_368.out _; (with_reducible repeat (first | refine blk_drewN ?_ _ | refine blk_drew ?_ | refine blk_alloc ?_ _)); refine blk_far ?_ NB364_368.out _; (with_reducible repeat (first | refine blk_drewN ?_ _ | refine blk_drew ?_ | refine blk_alloc ?_ _)); exact BK364.out⟩
           have n5_ : Aside0 ((((w85.setCell ⟨gb368, 0, none⟩ (.int .i64 t365)).setCell ⟨gb368, 1, none⟩ (.int .i64 t366)).setCell ⟨gb368, 2, none⟩ (.int .i64 t367)).heap[gb368]? = some (.cells #[.int .i64 t365, .int .i64 t366, .int .i64 t367] 27 (0, 0))) := ⟨by (with_reducible repeat (first | refine blk_drewN ?_ _ | refine blk_drew ?_ | refine blk_alloc ?_ _)); refine blk_put (cs := #[.int .i64 t365, .int .i64 t366, .int .i64 0]) ?_ 2 _ rfl; (with_reducible repeat (first | refine blk_drewN ?_ _ | refine blk_drew ?_ | refine blk_alloc ?_ _)); refine blk_put (cs := #[.int .i64 t365, .int .i64 0, .int .i64 0]) ?_ 1 _ rfl; (with_reducible repeat (first | refine blk_drewN ?_ _ | refine blk_drew ?_ | refine blk_alloc ?_ _)); refine blk_put (cs := #[.int .i64 0, .int .i64 0, .int .i64 0]) ?_ 0 _ rfl; (with_reducible repeat (first | refine blk_drewN ?_ _ | refine blk_drew ?_ | refine blk_alloc ?_ _)); exact BK368.out⟩
           have n6_ : Aside0 (Below w.heap.size w (((w85.setCell ⟨gb368, 0, none⟩ (.int .i64 t365)).setCell ⟨gb368, 1, none⟩ (.int .i64 t366)).setCell ⟨gb368, 2, none⟩ (.int .i64 t367))) := ⟨by repeat (first | (with_reducible first | exact HB.out | apply below_alloc | apply pw_below_drewN | apply below_drew1 | refine below_set ?_ GE333.out | refine below_set ?_ GE337.out | refine below_set ?_ GE358.out | refine below_set ?_ GE364.out | refine below_set ?_ GE368.out) | exact HB.out)⟩
           (try clear HO_13)
           (try clear BK333)
           (try clear BK337)
           (try clear BK358)
           (try clear BK364)
           (try clear BK368)
           (try clear HB)
           generalize (((w85.setCell ⟨gb368, 0, none⟩ (.int .i64 t365)).setCell ⟨gb368, 1, none⟩ (.int .i64 t366)).setCell ⟨gb368, 2, none⟩ (.int .i64 t367)) = w91 at n0_ n1_ n2_ n3_ n4_ n5_ n6_ ⊢
           have HO_13 := n0_
           have BK333 := n1_
           have BK337 := n2_
           have BK358 := n3_
           have BK364 := n4_
           have BK368 := n5_
           have HB := n6_
           clear n0_ n1_ n2_ n3_ n4_ n5_ n6_
           have n0_ := Aside0.mk (Kd.R_drew HO_13.out)
           have n1_ := Aside0.mk (blk_drew BK333.out)
           have n2_ := Aside0.mk (blk_drew BK337.out)
           have n3_ := Aside0.mk (blk_drew BK358.out)
           have n4_ := Aside0.mk (blk_drew BK364.out)
           have n5_ := Aside0.mk (blk_drew BK368.out)
           have n6_ := Aside0.mk (below_drew1 HB.out)
           clear HO_13
           clear BK333
           clear BK337
           clear BK358
           clear BK364
           clear BK368
           clear HB
           have HO_13 := n0_
           have BK333 := n1_
           have BK337 := n2_
           have BK358 := n3_
           have BK364 := n4_
           have BK368 := n5_
           have HB := n6_
           clear n0_ n1_ n2_ n3_ n4_ n5_ n6_
           have p369 : 0 ≤ (0 : Int) := (by omega)
           have q369 : 0 < (t350.length : Int) := of_decide_eq_true (by first | (with_reducible assumption) | assumption)
           obtain ⟨ad369, e369, hx369_0⟩ := Kd.at_int (Kd.R_reads' HO_13.out).2.2 0 p369 q369
           obtain rfl : ad359 = ad369 := (by injection e369)
           have qi369 : (0 < t350.length) = True := eq_true (by omega)
           (try rw [show ((0 : Int)).toNat = 0 from rfl] at hx369_0)
           (try rw [Addr.add_zero'] at hx369_0)
           replace p369 := eq_true p369
           replace q369 := eq_true q369
           have p370 : 0 ≤ (1 : Int) := (by omega)
           have q370 : 1 < (t350.length : Int) := of_decide_eq_true (by first | (with_reducible assumption) | assumption)
           obtain ⟨ad370, e370, hx370_0⟩ := Kd.at_int (Kd.R_reads' HO_13.out).2.2 1 p370 q370
           obtain rfl : ad359 = ad370 := (by injection e370)
           (try simp only [show (1 : Int).toNat = 1 from rfl, Nat.reduceMul, Nat.reduceEqDiff, Go.Addr.add, ↓reduceIte] at hx370_0)
           have qi370 : (1 < t350.length) = True := eq_true (by omega)
           (try rw [show ((1 : Int)).toNat = 1 from rfl] at hx370_0)
           replace p370 := eq_true p370
           replace q370 := eq_true q370
           as_aux_lemma =>
            refine start_ (n := 9) (S := fun w' => w'.cell? ad359 = some (.int .i64 (rd t350 0)) ∧ w'.cell? ⟨ad359.block, ad359.off + 1, none⟩ = some (.int .i64 (rd t350 1))) (ds := []) #[N, N, N, N, N, N, N, N, N] (by kernel_rfl) rfl rfl ⟨hx369_0, hx370_0⟩ (fun hHeld => ?_); refine with_tabW laws_FnPairBounds.tab15 laws_FnPairBounds.bits15 (fun HT_ HW_ => ?_)
            generalize w91.drew = w92 at HO_13 BK333 BK337 BK358 BK364 BK368 HB hx369_0 hx370_0 hHeld ⊢
            refine pure_ (i := 0) (N := some 111) (v := ?_) (a' := ?_) #[Y, N, N, N, N, N, N, N, N] rfl rfl (any_of HT_.out (by kernel_rfl)) (fun _ _ _ h => h) (Or.inl ⟨by rfl, ?_⟩) ?_ ?_
            rotate_left
            ·intro w'
             go_simp
             with_reducible rfl
            rotate_left
            ·simp only [Act.put, pa, pb, pc, i64_w, i32_w]
             rfl
            refine pure_ (i := 1) (N := some 112) (v := ?_) (a' := ?_) #[Y, Y, N, N, N, N, N, N, N] rfl rfl (any_of HT_.out (by kernel_rfl)) (fun _ _ _ h => h) (Or.inl ⟨by rfl, ?_⟩) ?_ ?_
            rotate_left
            ·intro w'
             go_simp
             with_reducible rfl
            rotate_left
            ·simp only [Act.put, pa, pb, pc, i64_w, i32_w]
             rfl
            refine pure_ (i := 3) (N := some 114) (v := ?_) (a' := ?_) #[Y, Y, N, Y, N, N, N, N, N] rfl rfl (any_of HT_.out (by kernel_rfl)) (fun _ _ _ h => h) (Or.inl ⟨by rfl, ?_⟩) ?_ ?_
            rotate_left
            ·intro w'
             go_simp
             with_reducible rfl
            rotate_left
            ·simp only [Act.put, pa, pb, pc, i64_w, i32_w]
             rfl
            refine pure_ (i := 4) (N := some 115) (v := ?_) (a' := ?_) #[Y, Y, N, Y, Y, N, N, N, N] rfl rfl (any_of HT_.out (by kernel_rfl)) (fun _ _ _ h => h) (Or.inl ⟨by rfl, ?_⟩) ?_ ?_
            rotate_left
            ·intro w'
             go_simp
             with_reducible rfl
            rotate_left
            ·simp only [Act.put, pa, pb, pc, i64_w, i32_w]
             rfl
            refine take_ (i := 2) (N := some 113) (v := ?_) (a' := ?_) #[Y, Y, Y, Y, Y, N, N, N, N] rfl rfl (take_ofW HT_.out HW_.out (by kernel_rfl)) (fun _ _ _ h => h) (Or.inl ⟨by rfl, ?_⟩) hHeld ?_ ?_
            rotate_left
            ·rintro w' ⟨s0, s1⟩
             go_simp
             with_reducible rfl
            rotate_left
            ·simp only [Act.put, pa, pb, pc, i64_w, i32_w]
             rfl
            refine take_ (i := 5) (N := some 116) (v := ?_) (a' := ?_) #[Y, Y, Y, Y, Y, Y, N, N, N] rfl rfl (take_ofW HT_.out HW_.out (by kernel_rfl)) (fun _ _ _ h => h) (Or.inl ⟨by rfl, ?_⟩) hHeld ?_ ?_
            rotate_left
            ·rintro w' ⟨s0, s1⟩
             go_simp
             with_reducible rfl
            rotate_left
            ·simp only [Act.put, pa, pb, pc, i64_w, i32_w]
             rfl
            refine join_ (σ := Nat) 1 #[Y, Y, Y, Y, Y, Y, Y, Y, N] (fun s_ => [(117, .agg #[.int .i64 t371, .int .i64 t372, .int .i64 t373]), (17, .pointer (some ⟨s_, 0, none⟩))]) (fun s_ w' => (w'.cell? ad359 = some (.int .i64 (rd t350 0)) ∧ w'.cell? ⟨ad359.block, ad359.off + 1, none⟩ = some (.int .i64 (rd t350 1))) ∧ (Kd.R (Kd.int .i64) 2 w' w.heap.size (fun _ => True) (.slice (some ad359) t350.length co77) t350) ∧ (w'.heap[gb333]? = some (.cells #[.int .i64 t330, .int .i64 t331, .int .i64 t332] 27 (0, 0))) ∧ (w'.heap[gb337]? = some (.cells #[.int .i64 t334, .int .i64 t335, .int .i64 t336] 27 (0, 0))) ∧ (w'.heap[gb358]? = some (.cells #[.int .i64 t355, .int .i64 t356, .int .i64 t357] 27 (0, 0))) ∧ (w'.heap[gb364]? = some (.cells #[.int .i64 t361, .int .i64 t362, .int .i64 t363] 27 (0, 0))) ∧ (w'.heap[gb368]? = some (.cells #[.int .i64 t365, .int .i64 t366, .int .i64 t367] 27 (0, 0))) ∧ (w'.heap[s_]? = some (.cells #[.int .i64 0, .int .i64 0, .int .i64 0] 27 (0, 0))) ∧ (w.heap.size ≤ s_) ∧ (w.heap.size ≤ s_) ∧ (gb333 ≠ s_) ∧ (s_ ≠ gb333) ∧ (gb337 ≠ s_) ∧ (s_ ≠ gb337) ∧ (gb358 ≠ s_) ∧ (s_ ≠ gb358) ∧ (gb364 ≠ s_) ∧ (s_ ≠ gb364) ∧ (gb368 ≠ s_) ∧ (s_ ≠ gb368) ∧ (Below w.heap.size w w')) ?_ ?_
            rotate_left
            ·intro hCont
             refine two_ (i := 6) (j := 7) (Ni := some 117) (Nj := some 17) #[Y, Y, Y, Y, Y, Y, Y, N, N] #[Y, Y, Y, Y, Y, Y, N, Y, N] rfl rfl rfl rfl (two_of HT_.out (by kernel_rfl)) (by decide) (by decide) (fun K hK => ?_) (fun K hK => ?_)
             ·skip
              refine goes_ Try.func14 (by kernel_rfl) rfl #[.int .i64 (rd t350 0), .int .i64 (rd t350 1)] (by rfl) rfl rfl (by first | rfl | (simp only [List.map_toArray, List.map_cons, List.map_nil]; rfl)) ?_
              with_reducible refine (impl_PartPair.calls (rd t350 0) (rd t350 1) t371 t372 t373 _ A68.out).mono ?_
              rintro e w93 ⟨rfl, hb⟩
              have HS0_ := (hb.cell (World.block_lt_of_cell? _ _ (hHeld.1))).trans (hHeld.1)
              have HS1_ := (hb.cell (World.block_lt_of_cell? _ _ (hHeld.2))).trans (hHeld.2)
              refine ⟨_, rfl, ?_⟩
              have n0_ := Aside0.mk (Kd.R_below (by (with_reducible repeat (first | apply Kd.R_alloc | apply Kd.R_drewN | apply Kd.R_drew)); exact HO_13.out) hb)
              have n1_ := Aside0.mk (blk_below (g := gb333) (o := .cells #[.int .i64 t330, .int .i64 t331, .int .i64 t332] 27 (0, 0)) (by (with_reducible repeat (first | refine blk_drewN ?_ _ | refine blk_drew ?_ | refine blk_alloc ?_ _)); exact BK333.out) hb)
              have n2_ := Aside0.mk (blk_below (g := gb337) (o := .cells #[.int .i64 t334, .int .i64 t335, .int .i64 t336] 27 (0, 0)) (by (with_reducible repeat (first | refine blk_drewN ?_ _ | refine blk_drew ?_ | refine blk_alloc ?_ _)); exact BK337.out) hb)
              have n3_ := Aside0.mk (blk_below (g := gb358) (o := .cells #[.int .i64 t355, .int .i64 t356, .int .i64 t357] 27 (0, 0)) (by (with_reducible repeat (first | refine blk_drewN ?_ _ | refine blk_drew ?_ | refine blk_alloc ?_ _)); exact BK358.out) hb)
              have n4_ := Aside0.mk (blk_below (g := gb364) (o := .cells #[.int .i64 t361, .int .i64 t362, .int .i64 t363] 27 (0, 0)) (by (with_reducible repeat (first | refine blk_drewN ?_ _ | refine blk_drew ?_ | refine blk_alloc ?_ _)); exact BK364.out) hb)
              have n5_ := Aside0.mk (blk_below (g := gb368) (o := .cells #[.int .i64 t365, .int .i64 t366, .int .i64 t367] 27 (0, 0)) (by (with_reducible repeat (first | refine blk_drewN ?_ _ | refine blk_drew ?_ | refine blk_alloc ?_ _)); exact BK368.out) hb)
              have n6_ := Aside0.mk (below_step (by repeat (first | (with_reducible first | exact HB.out | apply below_alloc | apply pw_below_drewN | apply below_drew1 | refine below_set ?_ GE333.out | refine below_set ?_ GE337.out | refine below_set ?_ GE358.out | refine below_set ?_ GE364.out | refine below_set ?_ GE368.out) | exact HB.out)) hb)
              clear HO_13
              clear BK333
              clear BK337
              clear BK358
              clear BK364
              clear BK368
              clear HB
              have HO_13 := n0_
              have BK333 := n1_
              have BK337 := n2_
              have BK358 := n3_
              have BK364 := n4_
              have BK368 := n5_
              have HB := n6_
              clear n0_ n1_ n2_ n3_ n4_ n5_ n6_
              (try clear hb)
              (try clear hb2)
              (try clear hk)
              (try clear hi)
              refine hK.out _ _ ⟨HS0_, HS1_⟩ (fun hHeld => ?_)
              clear hK K
              refine norm_ (a' := ?_) ?_ ?_
              rotate_left
              ·show Act.put _ (some 117) _ = _
               simp only [Act.put, pa, pb, pc, i64_w, i32_w]
               rfl
              refine one_ (i := 7) (N := some 17) #[Y, Y, Y, Y, Y, Y, Y, Y, N] rfl rfl (one_of HT_.out (by kernel_rfl)) (by decide) (fun K hK => ?_)
              refine box_step ?hg (N := 17) ?hd (cs := #[.int .i64 0, .int .i64 0, .int .i64 0]) (t := 27) ?hr ?_; (case hd => rfl); (case hg => rfl); (case hr => first | (go_simp; done) | (go_simp; rfl))
              intro gb374 hg w94 hbox hb
              have HS0_ := (hb.cell (World.block_lt_of_cell? _ _ (hHeld.1))).trans (hHeld.1)
              have HS1_ := (hb.cell (World.block_lt_of_cell? _ _ (hHeld.2))).trans (hHeld.2)
              have n0_ := Aside0.mk (Kd.R_below (by (with_reducible repeat (first | apply Kd.R_alloc | apply Kd.R_drewN | apply Kd.R_drew)); exact HO_13.out) hb)
              have n1_ := Aside0.mk (blk_below (g := gb333) (o := .cells #[.int .i64 t330, .int .i64 t331, .int .i64 t332] 27 (0, 0)) (by (with_reducible repeat (first | refine blk_drewN ?_ _ | refine blk_drew ?_ | refine blk_alloc ?_ _)); exact BK333.out) hb)
              have n2_ := Aside0.mk (blk_below (g := gb337) (o := .cells #[.int .i64 t334, .int .i64 t335, .int .i64 t336] 27 (0, 0)) (by (with_reducible repeat (first | refine blk_drewN ?_ _ | refine blk_drew ?_ | refine blk_alloc ?_ _)); exact BK337.out) hb)
              have n3_ := Aside0.mk (blk_below (g := gb358) (o := .cells #[.int .i64 t355, .int .i64 t356, .int .i64 t357] 27 (0, 0)) (by (with_reducible repeat (first | refine blk_drewN ?_ _ | refine blk_drew ?_ | refine blk_alloc ?_ _)); exact BK358.out) hb)
              have n4_ := Aside0.mk (blk_below (g := gb364) (o := .cells #[.int .i64 t361, .int .i64 t362, .int .i64 t363] 27 (0, 0)) (by (with_reducible repeat (first | refine blk_drewN ?_ _ | refine blk_drew ?_ | refine blk_alloc ?_ _)); exact BK364.out) hb)
              have n5_ := Aside0.mk (blk_below (g := gb368) (o := .cells #[.int .i64 t365, .int .i64 t366, .int .i64 t367] 27 (0, 0)) (by (with_reducible repeat (first | refine blk_drewN ?_ _ | refine blk_drew ?_ | refine blk_alloc ?_ _)); exact BK368.out) hb)
              have n6_ := Aside0.mk (below_step (by repeat (first | (with_reducible first | exact HB.out | apply below_alloc | apply pw_below_drewN | apply below_drew1 | refine below_set ?_ GE333.out | refine below_set ?_ GE337.out | refine below_set ?_ GE358.out | refine below_set ?_ GE364.out | refine below_set ?_ GE368.out) | exact HB.out)) hb)
              have n7_ := Aside0.mk (hbox)
              have n8_ := Aside0.mk ((by rw [hg]; exact (below_size (by repeat (first | (with_reducible first | exact HB.out | apply below_alloc | apply pw_below_drewN | apply below_drew1 | refine below_set ?_ GE333.out | refine below_set ?_ GE337.out | refine below_set ?_ GE358.out | refine below_set ?_ GE364.out | refine below_set ?_ GE368.out) | exact HB.out))) : w.heap.size ≤ gb374))
              have n9_ := Aside0.mk ((by rw [hg]; exact (below_size (by repeat (first | (with_reducible first | exact HB.out | apply below_alloc | apply pw_below_drewN | apply below_drew1 | refine below_set ?_ GE333.out | refine below_set ?_ GE337.out | refine below_set ?_ GE358.out | refine below_set ?_ GE364.out | refine below_set ?_ GE368.out) | exact HB.out))) : w.heap.size ≤ gb374))
              have n10_ := Aside0.mk ((by rw [hg]; exact Nat.ne_of_lt (blk_lt (g := gb333) (o := .cells #[.int .i64 t330, .int .i64 t331, .int .i64 t332] 27 (0, 0)) (by (with_reducible repeat (first | refine blk_drewN ?_ _ | refine blk_drew ?_ | refine blk_alloc ?_ _)); exact BK333.out)) : gb333 ≠ gb374))
              have n11_ := Aside0.mk ((by rw [hg]; exact Nat.ne_of_gt (blk_lt (g := gb333) (o := .cells #[.int .i64 t330, .int .i64 t331, .int .i64 t332] 27 (0, 0)) (by (with_reducible repeat (first | refine blk_drewN ?_ _ | refine blk_drew ?_ | refine blk_alloc ?_ _)); exact BK333.out)) : gb374 ≠ gb333))
              have n12_ := Aside0.mk ((by rw [hg]; exact Nat.ne_of_lt (blk_lt (g := gb337) (o := .cells #[.int .i64 t334, .int .i64 t335, .int .i64 t336] 27 (0, 0)) (by (with_reducible repeat (first | refine blk_drewN ?_ _ | refine blk_drew ?_ | refine blk_alloc ?_ _)); exact BK337.out)) : gb337 ≠ gb374))
              have n13_ := Aside0.mk ((by rw [hg]; exact Nat.ne_of_gt (blk_lt (g := gb337) (o := .cells #[.int .i64 t334, .int .i64 t335, .int .i64 t336] 27 (0, 0)) (by (with_reducible repeat (first | refine blk_drewN ?_ _ | refine blk_drew ?_ | refine blk_alloc ?_ _)); exact BK337.out)) : gb374 ≠ gb337))
              have n14_ := Aside0.mk ((by rw [hg]; exact Nat.ne_of_lt (blk_lt (g := gb358) (o := .cells #[.int .i64 t355, .int .i64 t356, .int .i64 t357] 27 (0, 0)) (by (with_reducible repeat (first | refine blk_drewN ?_ _ | refine blk_drew ?_ | refine blk_alloc ?_ _)); exact BK358.out)) : gb358 ≠ gb374))
              have n15_ := Aside0.mk ((by rw [hg]; exact Nat.ne_of_gt (blk_lt (g := gb358) (o := .cells #[.int .i64 t355, .int .i64 t356, .int .i64 t357] 27 (0, 0)) (by (with_reducible repeat (first | refine blk_drewN ?_ _ | refine blk_drew ?_ | refine blk_alloc ?_ _)); exact BK358.out)) : gb374 ≠ gb358))
              have n16_ := Aside0.mk ((by rw [hg]; exact Nat.ne_of_lt (blk_lt (g := gb364) (o := .cells #[.int .i64 t361, .int .i64 t362, .int .i64 t363] 27 (0, 0)) (by (with_reducible repeat (first | refine blk_drewN ?_ _ | refine blk_drew ?_ | refine blk_alloc ?_ _)); exact BK364.out)) : gb364 ≠ gb374))
              have n17_ := Aside0.mk ((by rw [hg]; exact Nat.ne_of_gt (blk_lt (g := gb364) (o := .cells #[.int .i64 t361, .int .i64 t362, .int .i64 t363] 27 (0, 0)) (by (with_reducible repeat (first | refine blk_drewN ?_ _ | refine blk_drew ?_ | refine blk_alloc ?_ _)); exact BK364.out)) : gb374 ≠ gb364))
              have n18_ := Aside0.mk ((by rw [hg]; exact Nat.ne_of_lt (blk_lt (g := gb368) (o := .cells #[.int .i64 t365, .int .i64 t366, .int .i64 t367] 27 (0, 0)) (by (with_reducible repeat (first | refine blk_drewN ?_ _ | refine blk_drew ?_ | refine blk_alloc ?_ _)); exact BK368.out)) : gb368 ≠ gb374))
              have n19_ := Aside0.mk ((by rw [hg]; exact Nat.ne_of_gt (blk_lt (g := gb368) (o := .cells #[.int .i64 t365, .int .i64 t366, .int .i64 t367] 27 (0, 0)) (by (with_reducible repeat (first | refine blk_drewN ?_ _ | refine blk_drew ?_ | refine blk_alloc ?_ _)); exact BK368.out)) : gb374 ≠ gb368))
              clear HO_13
              clear BK333
              clear BK337
              clear BK358
              clear BK364
              clear BK368
              clear HB
              have HO_13 := n0_
              have BK333 := n1_
              have BK337 := n2_
              have BK358 := n3_
              have BK364 := n4_
              have BK368 := n5_
              have HB := n6_
              have BK374 := n7_
              have GW374 := n8_
              have GE374 := n9_
              have NB333_374 := n10_
              have NB374_333 := n11_
              have NB337_374 := n12_
              have NB374_337 := n13_
              have NB358_374 := n14_
              have NB374_358 := n15_
              have NB364_374 := n16_
              have NB374_364 := n17_
              have NB368_374 := n18_
              have NB374_368 := n19_
              clear n0_ n1_ n2_ n3_ n4_ n5_ n6_ n7_ n8_ n9_ n10_ n11_ n12_ n13_ n14_ n15_ n16_ n17_ n18_ n19_
              clear hb hbox hg
              refine hK.out _ _ ⟨HS0_, HS1_⟩ (fun hHeld => ?_)
              clear hK K
              refine norm_ (a' := ?_) ?_ ?_
              rotate_left
              ·show Act.put _ (some 17) _ = _
               simp only [Act.put, pa, pb, pc, i64_w, i32_w]
               rfl
              exact norm_ (by simp only [putAll, Act.put, pa, pb, pc]) (hCont (gb374) _ ⟨hHeld, (by (with_reducible repeat (first | apply Kd.R_alloc | apply Kd.R_drewN | apply Kd.R_drew)); exact HO_13.out), (by (with_reducible repeat (first | refine blk_drewN ?_ _ | refine blk_drew ?_ | refine blk_alloc ?_ _)); exact BK333.out), (by (with_reducible repeat (first | refine blk_drewN ?_ _ | refine blk_drew ?_ | refine blk_alloc ?_ _)); exact BK337.out), (by (with_reducible repeat (first | refine blk_drewN ?_ _ | refine blk_drew ?_ | refine blk_alloc ?_ _)); exact BK358.out), (by (with_reducible repeat (first | refine blk_drewN ?_ _ | refine blk_drew ?_ | refine blk_alloc ?_ _)); exact BK364.out), (by (with_reducible repeat (first | refine blk_drewN ?_ _ | refine blk_drew ?_ | refine blk_alloc ?_ _)); exact BK368.out), (by (with_reducible repeat (first | refine blk_drewN ?_ _ | refine blk_drew ?_ | refine blk_alloc ?_ _)); exact BK374.out), GW374.out, GE374.out, NB333_374.out, NB374_333.out, NB337_374.out, NB374_337.out, NB358_374.out, NB374_358.out, NB364_374.out, NB374_364.out, NB368_374.out, NB374_368.out, (by repeat (first | (with_reducible first | exact HB.out | apply below_alloc | apply pw_below_drewN | apply below_drew1 | refine below_set ?_ GE333.out | refine below_set ?_ GE337.out | refine below_set ?_ GE358.out | refine below_set ?_ GE364.out | refine below_set ?_ GE368.out | refine below_set ?_ GE374.out) | exact HB.out))⟩)
             ·skip
              refine box_step ?hg (N := 17) ?hd (cs := #[.int .i64 0, .int .i64 0, .int .i64 0]) (t := 27) ?hr ?_; (case hd => rfl); (case hg => rfl); (case hr => first | (go_simp; done) | (go_simp; rfl))
              intro gb374 hg w93 hbox hb
              have HS0_ := (hb.cell (World.block_lt_of_cell? _ _ (hHeld.1))).trans (hHeld.1)
              have HS1_ := (hb.cell (World.block_lt_of_cell? _ _ (hHeld.2))).trans (hHeld.2)
              have n0_ := Aside0.mk (Kd.R_below (by (with_reducible repeat (first | apply Kd.R_alloc | apply Kd.R_drewN | apply Kd.R_drew)); exact HO_13.out) hb)
              have n1_ := Aside0.mk (blk_below (g := gb333) (o := .cells #[.int .i64 t330, .int .i64 t331, .int .i64 t332] 27 (0, 0)) (by (with_reducible repeat (first | refine blk_drewN ?_ _ | refine blk_drew ?_ | refine blk_alloc ?_ _)); exact BK333.out) hb)
              have n2_ := Aside0.mk (blk_below (g := gb337) (o := .cells #[.int .i64 t334, .int .i64 t335, .int .i64 t336] 27 (0, 0)) (by (with_reducible repeat (first | refine blk_drewN ?_ _ | refine blk_drew ?_ | refine blk_alloc ?_ _)); exact BK337.out) hb)
              have n3_ := Aside0.mk (blk_below (g := gb358) (o := .cells #[.int .i64 t355, .int .i64 t356, .int .i64 t357] 27 (0, 0)) (by (with_reducible repeat (first | refine blk_drewN ?_ _ | refine blk_drew ?_ | refine blk_alloc ?_ _)); exact BK358.out) hb)
              have n4_ := Aside0.mk (blk_below (g := gb364) (o := .cells #[.int .i64 t361, .int .i64 t362, .int .i64 t363] 27 (0, 0)) (by (with_reducible repeat (first | refine blk_drewN ?_ _ | refine blk_drew ?_ | refine blk_alloc ?_ _)); exact BK364.out) hb)
              have n5_ := Aside0.mk (blk_below (g := gb368) (o := .cells #[.int .i64 t365, .int .i64 t366, .int .i64 t367] 27 (0, 0)) (by (with_reducible repeat (first | refine blk_drewN ?_ _ | refine blk_drew ?_ | refine blk_alloc ?_ _)); exact BK368.out) hb)
              have n6_ := Aside0.mk (below_step (by repeat (first | (with_reducible first | exact HB.out | apply below_alloc | apply pw_below_drewN | apply below_drew1 | refine below_set ?_ GE333.out | refine below_set ?_ GE337.out | refine below_set ?_ GE358.out | refine below_set ?_ GE364.out | refine below_set ?_ GE368.out) | exact HB.out)) hb)
              have n7_ := Aside0.mk (hbox)
              have n8_ := Aside0.mk ((by rw [hg]; exact (below_size (by repeat (first | (with_reducible first | exact HB.out | apply below_alloc | apply pw_below_drewN | apply below_drew1 | refine below_set ?_ GE333.out | refine below_set ?_ GE337.out | refine below_set ?_ GE358.out | refine below_set ?_ GE364.out | refine below_set ?_ GE368.out) | exact HB.out))) : w.heap.size ≤ gb374))
              have n9_ := Aside0.mk ((by rw [hg]; exact (below_size (by repeat (first | (with_reducible first | exact HB.out | apply below_alloc | apply pw_below_drewN | apply below_drew1 | refine below_set ?_ GE333.out | refine below_set ?_ GE337.out | refine below_set ?_ GE358.out | refine below_set ?_ GE364.out | refine below_set ?_ GE368.out) | exact HB.out))) : w.heap.size ≤ gb374))
              have n10_ := Aside0.mk ((by rw [hg]; exact Nat.ne_of_lt (blk_lt (g := gb333) (o := .cells #[.int .i64 t330, .int .i64 t331, .int .i64 t332] 27 (0, 0)) (by (with_reducible repeat (first | refine blk_drewN ?_ _ | refine blk_drew ?_ | refine blk_alloc ?_ _)); exact BK333.out)) : gb333 ≠ gb374))
              have n11_ := Aside0.mk ((by rw [hg]; exact Nat.ne_of_gt (blk_lt (g := gb333) (o := .cells #[.int .i64 t330, .int .i64 t331, .int .i64 t332] 27 (0, 0)) (by (with_reducible repeat (first | refine blk_drewN ?_ _ | refine blk_drew ?_ | refine blk_alloc ?_ _)); exact BK333.out)) : gb374 ≠ gb333))
              have n12_ := Aside0.mk ((by rw [hg]; exact Nat.ne_of_lt (blk_lt (g := gb337) (o := .cells #[.int .i64 t334, .int .i64 t335, .int .i64 t336] 27 (0, 0)) (by (with_reducible repeat (first | refine blk_drewN ?_ _ | refine blk_drew ?_ | refine blk_alloc ?_ _)); exact BK337.out)) : gb337 ≠ gb374))
              have n13_ := Aside0.mk ((by rw [hg]; exact Nat.ne_of_gt (blk_lt (g := gb337) (o := .cells #[.int .i64 t334, .int .i64 t335, .int .i64 t336] 27 (0, 0)) (by (with_reducible repeat (first | refine blk_drewN ?_ _ | refine blk_drew ?_ | refine blk_alloc ?_ _)); exact BK337.out)) : gb374 ≠ gb337))
              have n14_ := Aside0.mk ((by rw [hg]; exact Nat.ne_of_lt (blk_lt (g := gb358) (o := .cells #[.int .i64 t355, .int .i64 t356, .int .i64 t357] 27 (0, 0)) (by (with_reducible repeat (first | refine blk_drewN ?_ _ | refine blk_drew ?_ | refine blk_alloc ?_ _)); exact BK358.out)) : gb358 ≠ gb374))
              have n15_ := Aside0.mk ((by rw [hg]; exact Nat.ne_of_gt (blk_lt (g := gb358) (o := .cells #[.int .i64 t355, .int .i64 t356, .int .i64 t357] 27 (0, 0)) (by (with_reducible repeat (first | refine blk_drewN ?_ _ | refine blk_drew ?_ | refine blk_alloc ?_ _)); exact BK358.out)) : gb374 ≠ gb358))
              have n16_ := Aside0.mk ((by rw [hg]; exact Nat.ne_of_lt (blk_lt (g := gb364) (o := .cells #[.int .i64 t361, .int .i64 t362, .int .i64 t363] 27 (0, 0)) (by (with_reducible repeat (first | refine blk_drewN ?_ _ | refine blk_drew ?_ | refine blk_alloc ?_ _)); exact BK364.out)) : gb364 ≠ gb374))
              have n17_ := Aside0.mk ((by rw [hg]; exact Nat.ne_of_gt (blk_lt (g := gb364) (o := .cells #[.int .i64 t361, .int .i64 t362, .int .i64 t363] 27 (0, 0)) (by (with_reducible repeat (first | refine blk_drewN ?_ _ | refine blk_drew ?_ | refine blk_alloc ?_ _)); exact BK364.out)) : gb374 ≠ gb364))
              have n18_ := Aside0.mk ((by rw [hg]; exact Nat.ne_of_lt (blk_lt (g := gb368) (o := .cells #[.int .i64 t365, .int .i64 t366, .int .i64 t367] 27 (0, 0)) (by (with_reducible repeat (first | refine blk_drewN ?_ _ | refine blk_drew ?_ | refine blk_alloc ?_ _)); exact BK368.out)) : gb368 ≠ gb374))
              have n19_ := Aside0.mk ((by rw [hg]; exact Nat.ne_of_gt (blk_lt (g := gb368) (o := .cells #[.int .i64 t365, .int .i64 t366, .int .i64 t367] 27 (0, 0)) (by (with_reducible repeat (first | refine blk_drewN ?_ _ | refine blk_drew ?_ | refine blk_alloc ?_ _)); exact BK368.out)) : gb374 ≠ gb368))
              clear HO_13
              clear BK333
              clear BK337
              clear BK358
              clear BK364
              clear BK368
              clear HB
              have HO_13 := n0_
              have BK333 := n1_
              have BK337 := n2_
              have BK358 := n3_
              have BK364 := n4_
              have BK368 := n5_
              have HB := n6_
              have BK374 := n7_
              have GW374 := n8_
              have GE374 := n9_
              have NB333_374 := n10_
              have NB374_333 := n11_
              have NB337_374 := n12_
              have NB374_337 := n13_
              have NB358_374 := n14_
              have NB374_358 := n15_
              have NB364_374 := n16_
              have NB374_364 := n17_
              have NB368_374 := n18_
              have NB374_368 := n19_
              clear n0_ n1_ n2_ n3_ n4_ n5_ n6_ n7_ n8_ n9_ n10_ n11_ n12_ n13_ n14_ n15_ n16_ n17_ n18_ n19_
              clear hb hbox hg
              refine hK.out _ _ ⟨HS0_, HS1_⟩ (fun hHeld => ?_)
              clear hK K
              refine norm_ (a' := ?_) ?_ ?_
              rotate_left
              ·show Act.put _ (some 17) _ = _
               simp only [Act.put, pa, pb, pc, i64_w, i32_w]
               rfl
              refine one_ (i := 6) (N := some 117) #[Y, Y, Y, Y, Y, Y, Y, Y, N] rfl rfl (one_of HT_.out (by kernel_rfl)) (by decide) (fun K hK => ?_)
              refine goes_ Try.func14 (by kernel_rfl) rfl #[.int .i64 (rd t350 0), .int .i64 (rd t350 1)] (by rfl) rfl rfl (by first | rfl | (simp only [List.map_toArray, List.map_cons, List.map_nil]; rfl)) ?_
              with_reducible refine (impl_PartPair.calls (rd t350 0) (rd t350 1) t371 t372 t373 _ A68.out).mono ?_
              rintro e w94 ⟨rfl, hb⟩
              have HS0_ := (hb.cell (World.block_lt_of_cell? _ _ (hHeld.1))).trans (hHeld.1)
              have HS1_ := (hb.cell (World.block_lt_of_cell? _ _ (hHeld.2))).trans (hHeld.2)
              refine ⟨_, rfl, ?_⟩
              have n0_ := Aside0.mk (Kd.R_below (by (with_reducible repeat (first | apply Kd.R_alloc | apply Kd.R_drewN | apply Kd.R_drew)); exact HO_13.out) hb)
              have n1_ := Aside0.mk (blk_below (g := gb333) (o := .cells #[.int .i64 t330, .int .i64 t331, .int .i64 t332] 27 (0, 0)) (by (with_reducible repeat (first | refine blk_drewN ?_ _ | refine blk_drew ?_ | refine blk_alloc ?_ _)); exact BK333.out) hb)
              have n2_ := Aside0.mk (blk_below (g := gb337) (o := .cells #[.int .i64 t334, .int .i64 t335, .int .i64 t336] 27 (0, 0)) (by (with_reducible repeat (first | refine blk_drewN ?_ _ | refine blk_drew ?_ | refine blk_alloc ?_ _)); exact BK337.out) hb)
              have n3_ := Aside0.mk (blk_below (g := gb358) (o := .cells #[.int .i64 t355, .int .i64 t356, .int .i64 t357] 27 (0, 0)) (by (with_reducible repeat (first | refine blk_drewN ?_ _ | refine blk_drew ?_ | refine blk_alloc ?_ _)); exact BK358.out) hb)
              have n4_ := Aside0.mk (blk_below (g := gb364) (o := .cells #[.int .i64 t361, .int .i64 t362, .int .i64 t363] 27 (0, 0)) (by (with_reducible repeat (first | refine blk_drewN ?_ _ | refine blk_drew ?_ | refine blk_alloc ?_ _)); exact BK364.out) hb)
              have n5_ := Aside0.mk (blk_below (g := gb368) (o := .cells #[.int .i64 t365, .int .i64 t366, .int .i64 t367] 27 (0, 0)) (by (with_reducible repeat (first | refine blk_drewN ?_ _ | refine blk_drew ?_ | refine blk_alloc ?_ _)); exact BK368.out) hb)
              have n6_ := Aside0.mk (blk_below (g := gb374) (o := .cells #[.int .i64 0, .int .i64 0, .int .i64 0] 27 (0, 0)) (by (with_reducible repeat (first | refine blk_drewN ?_ _ | refine blk_drew ?_ | refine blk_alloc ?_ _)); exact BK374.out) hb)
              have n7_ := Aside0.mk (below_step (by repeat (first | (with_reducible first | exact HB.out | apply below_alloc | apply pw_below_drewN | apply below_drew1 | refine below_set ?_ GE333.out | refine below_set ?_ GE337.out | refine below_set ?_ GE358.out | refine below_set ?_ GE364.out | refine below_set ?_ GE368.out | refine below_set ?_ GE374.out) | exact HB.out)) hb)
              clear HO_13
              clear BK333
              clear BK337
              clear BK358
              clear BK364
              clear BK368
              clear BK374
              clear HB
              have HO_13 := n0_
              have BK333 := n1_
              have BK337 := n2_
              have BK358 := n3_
              have BK364 := n4_
              have BK368 := n5_
              have BK374 := n6_
              have HB := n7_
              clear n0_ n1_ n2_ n3_ n4_ n5_ n6_ n7_
              (try clear hb)
              (try clear hb2)
              (try clear hk)
              (try clear hi)
              refine hK.out _ _ ⟨HS0_, HS1_⟩ (fun hHeld => ?_)
              clear hK K
              refine norm_ (a' := ?_) ?_ ?_
              rotate_left
              ·show Act.put _ (some 117) _ = _
               simp only [Act.put, pa, pb, pc, i64_w, i32_w]
               rfl
              exact norm_ (by simp only [putAll, Act.put, pa, pb, pc]) (hCont (gb374) _ ⟨hHeld, (by (with_reducible repeat (first | apply Kd.R_alloc | apply Kd.R_drewN | apply Kd.R_drew)); exact HO_13.out), (by (with_reducible repeat (first | refine blk_drewN ?_ _ | refine blk_drew ?_ | refine blk_alloc ?_ _)); exact BK333.out), (by (with_reducible repeat (first | refine blk_drewN ?_ _ | refine blk_drew ?_ | refine blk_alloc ?_ _)); exact BK337.out), (by (with_reducible repeat (first | refine blk_drewN ?_ _ | refine blk_drew ?_ | refine blk_alloc ?_ _)); exact BK358.out), (by (with_reducible repeat (first | refine blk_drewN ?_ _ | refine blk_drew ?_ | refine blk_alloc ?_ _)); exact BK364.out), (by (with_reducible repeat (first | refine blk_drewN ?_ _ | refine blk_drew ?_ | refine blk_alloc ?_ _)); exact BK368.out), (by (with_reducible repeat (first | refine blk_drewN ?_ _ | refine blk_drew ?_ | refine blk_alloc ?_ _)); exact BK374.out), GW374.out, GE374.out, NB333_374.out, NB374_333.out, NB337_374.out, NB374_337.out, NB358_374.out, NB374_358.out, NB364_374.out, NB374_364.out, NB368_374.out, NB374_368.out, (by repeat (first | (with_reducible first | exact HB.out | apply below_alloc | apply pw_below_drewN | apply below_drew1 | refine below_set ?_ GE333.out | refine below_set ?_ GE337.out | refine below_set ?_ GE358.out | refine below_set ?_ GE364.out | refine below_set ?_ GE368.out | refine below_set ?_ GE374.out) | exact HB.out))⟩)
            rintro gb374 w95 ⟨hS_, h0_, h1_, h2_, h3_, h4_, h5_, h6_, h7_, h8_, h9_, h10_, h11_, h12_, h13_, h14_, h15_, h16_, h17_, h18_, h19_⟩
            have n0_ : Aside0 (Kd.R (Kd.int .i64) 2 w95 w.heap.size (fun _ => True) (.slice (some ad359) t350.length co77) t350) := ⟨h0_⟩
            have n1_ : Aside0 (w95.heap[gb333]? = some (.cells #[.int .i64 t330, .int .i64 t331, .int .i64 t332] 27 (0, 0))) := ⟨h1_⟩
            have n2_ : Aside0 (w95.heap[gb337]? = some (.cells #[.int .i64 t334, .int .i64 t335, .int .i64 t336] 27 (0, 0))) := ⟨h2_⟩
            have n3_ : Aside0 (w95.heap[gb358]? = some (.cells #[.int .i64 t355, .int .i64 t356, .int .i64 t357] 27 (0, 0))) := ⟨h3_⟩
            have n4_ : Aside0 (w95.heap[gb364]? = some (.cells #[.int .i64 t361, .int .i64 t362, .int .i64 t363] 27 (0, 0))) := ⟨h4_⟩
            have n5_ : Aside0 (w95.heap[gb368]? = some (.cells #[.int .i64 t365, .int .i64 t366, .int .i64 t367] 27 (0, 0))) := ⟨h5_⟩
            have n6_ : Aside0 (w95.heap[gb374]? = some (.cells #[.int .i64 0, .int .i64 0, .int .i64 0] 27 (0, 0))) := ⟨h6_⟩
            have n7_ : Aside0 (w.heap.size ≤ gb374) := ⟨h7_⟩
            have n8_ : Aside0 (w.heap.size ≤ gb374) := ⟨h8_⟩
            have n9_ : Aside0 (gb333 ≠ gb374) := ⟨h9_⟩
            have n10_ : Aside0 (gb374 ≠ gb333) := ⟨h10_⟩
            have n11_ : Aside0 (gb337 ≠ gb374) := ⟨h11_⟩
            have n12_ : Aside0 (gb374 ≠ gb337) := ⟨h12_⟩
            have n13_ : Aside0 (gb358 ≠ gb374) := ⟨h13_⟩
            have n14_ : Aside0 (gb374 ≠ gb358) := ⟨h14_⟩
            have n15_ : Aside0 (gb364 ≠ gb374) := ⟨h15_⟩
            have n16_ : Aside0 (gb374 ≠ gb364) := ⟨h16_⟩
            have n17_ : Aside0 (gb368 ≠ gb374) := ⟨h17_⟩
            have n18_ : Aside0 (gb374 ≠ gb368) := ⟨h18_⟩
            have n19_ : Aside0 (Below w.heap.size w w95) := ⟨h19_⟩
            clear HO_13
            clear BK333
            clear BK337
            clear BK358
            clear BK364
            clear BK368
            clear HB
            clear h0_ h1_ h2_ h3_ h4_ h5_ h6_ h7_ h8_ h9_ h10_ h11_ h12_ h13_ h14_ h15_ h16_ h17_ h18_ h19_
            have HO_13 := n0_
            have BK333 := n1_
            have BK337 := n2_
            have BK358 := n3_
            have BK364 := n4_
            have BK368 := n5_
            have BK374 := n6_
            have GW374 := n7_
            have GE374 := n8_
            have NB333_374 := n9_
            have NB374_333 := n10_
            have NB337_374 := n11_
            have NB374_337 := n12_
            have NB358_374 := n13_
            have NB374_358 := n14_
            have NB364_374 := n15_
            have NB374_364 := n16_
            have NB368_374 := n17_
            have NB374_368 := n18_
            have HB := n19_
            clear n0_ n1_ n2_ n3_ n4_ n5_ n6_ n7_ n8_ n9_ n10_ n11_ n12_ n13_ n14_ n15_ n16_ n17_ n18_ n19_
            have hHeld : w95.cell? ad359 = some (.int .i64 (rd t350 0)) ∧ w95.cell? ⟨ad359.block, ad359.off + 1, none⟩ = some (.int .i64 (rd t350 1)) := hS_
            refine norm_ (a' := ?_) ?_ ?_
            rotate_left
            ·simp only [putAll, Act.put, pa, pb, pc]
             rfl
            refine one_ (i := 8) (N := none) #[Y, Y, Y, Y, Y, Y, Y, Y, Y] rfl rfl (one_of HT_.out (by kernel_rfl)) (by decide) (fun K hK => ?_)
            have hs96 : w95.cell? ⟨gb374, 0, none⟩ = some (.int .i64 0) := (blk_cell BK374.out 0).trans rfl
            have hfs96 := blk_frozen BK374.out 0
            have hns96_0 := NB333_374.out
            have hns96_1 := NB337_374.out
            have hns96_2 := NB358_374.out
            have hns96_3 := NB364_374.out
            have hns96_4 := NB368_374.out
            have hms96_0 := NB374_333.out
            have hms96_1 := NB374_337.out
            have hms96_2 := NB374_358.out
            have hms96_3 := NB374_364.out
            have hms96_4 := NB374_368.out
            have hs97 : w95.cell? ⟨gb374, 1, none⟩ = some (.int .i64 0) := (blk_cell BK374.out 1).trans rfl
            have hfs97 := blk_frozen BK374.out 1
            have hns97_0 := NB333_374.out
            have hns97_1 := NB337_374.out
            have hns97_2 := NB358_374.out
            have hns97_3 := NB364_374.out
            have hns97_4 := NB368_374.out
            have hms97_0 := NB374_333.out
            have hms97_1 := NB374_337.out
            have hms97_2 := NB374_358.out
            have hms97_3 := NB374_364.out
            have hms97_4 := NB374_368.out
            have hs98 : w95.cell? ⟨gb374, 2, none⟩ = some (.int .i64 0) := (blk_cell BK374.out 2).trans rfl
            have hfs98 := blk_frozen BK374.out 2
            have hns98_0 := NB333_374.out
            have hns98_1 := NB337_374.out
            have hns98_2 := NB358_374.out
            have hns98_3 := NB364_374.out
            have hns98_4 := NB368_374.out
            have hms98_0 := NB374_333.out
            have hms98_1 := NB374_337.out
            have hms98_2 := NB374_358.out
            have hms98_3 := NB374_364.out
            have hms98_4 := NB374_368.out
            refine skip_ (w1 := ?_) (by rfl) rfl ?_ ?_
            rotate_left
            ·go_simp
             rfl
            refine hK.out _ _ ⟨((cell_far (p := ⟨gb374, _, none⟩) (by first | exact (Kd.own_blk (Kd.R_ne HO_13.out BK374.out (by decide)) :) | (rw [add_block]; exact (Kd.own_blk (Kd.R_ne HO_13.out BK374.out (by decide)) :)) | (show (Addr.add _ _).block ≠ _; rw [add_block]; exact (Kd.own_blk (Kd.R_ne HO_13.out BK374.out (by decide)) :)) | (dsimp only; exact (Kd.own_blk (Kd.R_ne HO_13.out BK374.out (by decide)) :))) _).trans (((cell_far (p := ⟨gb374, _, none⟩) (by first | exact (Kd.own_blk (Kd.R_ne HO_13.out BK374.out (by decide)) :) | (rw [add_block]; exact (Kd.own_blk (Kd.R_ne HO_13.out BK374.out (by decide)) :)) | (show (Addr.add _ _).block ≠ _; rw [add_block]; exact (Kd.own_blk (Kd.R_ne HO_13.out BK374.out (by decide)) :)) | (dsimp only; exact (Kd.own_blk (Kd.R_ne HO_13.out BK374.out (by decide)) :))) _).trans (((cell_far (p := ⟨gb374, _, none⟩) (by first | exact (Kd.own_blk (Kd.R_ne HO_13.out BK374.out (by decide)) :) | (rw [add_block]; exact (Kd.own_blk (Kd.R_ne HO_13.out BK374.out (by decide)) :)) | (show (Addr.add _ _).block ≠ _; rw [add_block]; exact (Kd.own_blk (Kd.R_ne HO_13.out BK374.out (by decide)) :)) | (dsimp only; exact (Kd.own_blk (Kd.R_ne HO_13.out BK374.out (by decide)) :))) _).trans (hHeld.1)))))), ((cell_far (p := ⟨gb374, _, none⟩) (by first | exact (Kd.own_blk (Kd.R_ne HO_13.out BK374.out (by decide)) :) | (rw [add_block]; exact (Kd.own_blk (Kd.R_ne HO_13.out BK374.out (by decide)) :)) | (show (Addr.add _ _).block ≠ _; rw [add_block]; exact (Kd.own_blk (Kd.R_ne HO_13.out BK374.out (by decide)) :)) | (dsimp only; exact (Kd.own_blk (Kd.R_ne HO_13.out BK374.out (by decide)) :))) _).trans (((cell_far (p := ⟨gb374, _, none⟩) (by first | exact (Kd.own_blk (Kd.R_ne HO_13.out BK374.out (by decide)) :) | (rw [add_block]; exact (Kd.own_blk (Kd.R_ne HO_13.out BK374.out (by decide)) :)) | (show (Addr.add _ _).block ≠ _; rw [add_block]; exact (Kd.own_blk (Kd.R_ne HO_13.out BK374.out (by decide)) :)) | (dsimp only; exact (Kd.own_blk (Kd.R_ne HO_13.out BK374.out (by decide)) :))) _).trans (((cell_far (p := ⟨gb374, _, none⟩) (by first | exact (Kd.own_blk (Kd.R_ne HO_13.out BK374.out (by decide)) :) | (rw [add_block]; exact (Kd.own_blk (Kd.R_ne HO_13.out BK374.out (by decide)) :)) | (show (Addr.add _ _).block ≠ _; rw [add_block]; exact (Kd.own_blk (Kd.R_ne HO_13.out BK374.out (by decide)) :)) | (dsimp only; exact (Kd.own_blk (Kd.R_ne HO_13.out BK374.out (by decide)) :))) _).trans (hHeld.2))))))⟩ (fun hHeld => ?_)
            clear hK K
            refine done_ (done_of HT_.out (by kernel_rfl)) ?_
            go_upto_region 16 with (fail)
            go_cut [135] (fun v135 wc => ∃ (kq : Nat) (x135_68 : Bool), v135 = .bool x135_68 ∧ Aside0 (laws_FnPairBounds.j2 kq t322 t323 t328 t329 x135_68 t330 t331 t332 t334 t335 t336 t355 t356 t357 t361 t362 t363 t365 t366 t367 t371 t372 t373 = some r) ∧ Aside0 (kq ≤ kj29) ∧ Aside0 (wc.heap[gb333]? = some (.cells #[.int .i64 t330, .int .i64 t331, .int .i64 t332] 27 (0, 0))) ∧ Aside0 (wc.heap[gb337]? = some (.cells #[.int .i64 t334, .int .i64 t335, .int .i64 t336] 27 (0, 0))) ∧ Aside0 (wc.heap[gb358]? = some (.cells #[.int .i64 t355, .int .i64 t356, .int .i64 t357] 27 (0, 0))) ∧ Aside0 (wc.heap[gb364]? = some (.cells #[.int .i64 t361, .int .i64 t362, .int .i64 t363] 27 (0, 0))) ∧ Aside0 (wc.heap[gb368]? = some (.cells #[.int .i64 t365, .int .i64 t366, .int .i64 t367] 27 (0, 0))) ∧ Aside0 (wc.heap[gb374]? = some (.cells #[.int .i64 t371, .int .i64 t372, .int .i64 t373] 27 (0, 0))) ∧ Aside0 (Below w.heap.size w wc))
            case first =>
             have H := HC69.out
             clear HC69
             by_cases c99 : t355 = 0
             ·rw [if_pos c99] at H
              have c99b0 : (t355 == 0) = true := beq_iff_eq.mpr c99
              have c99b1 : (t355 != 0) = false := bne_eq_false_iff_eq.mpr c99
              clear c99
              (first | rw [c99b0] | (simp only [i64_w, i32_w]; rw [c99b0]) | skip)
              by_cases c100 : t361 = 0
              ·rw [if_pos c100] at H
               have c100b0 : (t361 == 0) = true := beq_iff_eq.mpr c100
               have c100b1 : (t361 != 0) = false := bne_eq_false_iff_eq.mpr c100
               clear c100
               by_cases c101 : t365 = 0
               ·rw [if_pos c101] at H
                have c101b0 : (t365 == 0) = true := beq_iff_eq.mpr c101
                have c101b1 : (t365 != 0) = false := bne_eq_false_iff_eq.mpr c101
                clear c101
                have H' := Aside0.mk H
                clear H
                have hnb102 := NB358_333.out
                have hnc102 := NB333_358.out
                have hnb103 := NB358_337.out
                have hnc103 := NB337_358.out
                have hnb104 := NB358_364.out
                have hnc104 := NB364_358.out
                have hnb105 := NB358_368.out
                have hnc105 := NB368_358.out
                have hnb106 := NB358_374.out
                have hnc106 := NB374_358.out
                have hcz107_0 : w95.cell? ⟨gb358, 0, none⟩ = some (.int .i64 t355) := (blk_cell BK358.out 0).trans rfl
                have hcz107_1 : w95.cell? ⟨gb358, 1, none⟩ = some (.int .i64 t356) := (blk_cell BK358.out 1).trans rfl
                have hcz107_2 : w95.cell? ⟨gb358, 2, none⟩ = some (.int .i64 t357) := (blk_cell BK358.out 2).trans rfl
                have hfz107_0 := blk_frozen BK358.out 0
                have hfz107_1 := blk_frozen BK358.out 1
                have hfz107_2 := blk_frozen BK358.out 2
                have hnb108 := NB364_333.out
                have hnc108 := NB333_364.out
                have hnb109 := NB364_337.out
                have hnc109 := NB337_364.out
                have hnb110 := NB364_368.out
                have hnc110 := NB368_364.out
                have hnb111 := NB364_374.out
                have hnc111 := NB374_364.out
                have hcz112_0 : w95.cell? ⟨gb364, 0, none⟩ = some (.int .i64 t361) := (blk_cell BK364.out 0).trans rfl
                have hcz112_1 : w95.cell? ⟨gb364, 1, none⟩ = some (.int .i64 t362) := (blk_cell BK364.out 1).trans rfl
                have hcz112_2 : w95.cell? ⟨gb364, 2, none⟩ = some (.int .i64 t363) := (blk_cell BK364.out 2).trans rfl
                have hfz112_0 := blk_frozen BK364.out 0
                have hfz112_1 := blk_frozen BK364.out 1
                have hfz112_2 := blk_frozen BK364.out 2
                have hnb113 := NB368_333.out
                have hnc113 := NB333_368.out
                have hnb114 := NB368_337.out
                have hnc114 := NB337_368.out
                have hnb115 := NB368_374.out
                have hnc115 := NB374_368.out
                have hcz116_0 : w95.cell? ⟨gb368, 0, none⟩ = some (.int .i64 t365) := (blk_cell BK368.out 0).trans rfl
                have hcz116_1 : w95.cell? ⟨gb368, 1, none⟩ = some (.int .i64 t366) := (blk_cell BK368.out 1).trans rfl
                have hcz116_2 : w95.cell? ⟨gb368, 2, none⟩ = some (.int .i64 t367) := (blk_cell BK368.out 2).trans rfl
                have hfz116_0 := blk_frozen BK368.out 0
                have hfz116_1 := blk_frozen BK368.out 1
                have hfz116_2 := blk_frozen BK368.out 2
                have hnb117 := NB374_333.out
                have hnc117 := NB333_374.out
                have hnb118 := NB374_337.out
                have hnc118 := NB337_374.out
                have hcz119_0 : w95.cell? ⟨gb374, 0, none⟩ = some (.int .i64 0) := (blk_cell BK374.out 0).trans rfl
                have hcz119_1 : w95.cell? ⟨gb374, 1, none⟩ = some (.int .i64 0) := (blk_cell BK374.out 1).trans rfl
                have hcz119_2 : w95.cell? ⟨gb374, 2, none⟩ = some (.int .i64 0) := (blk_cell BK374.out 2).trans rfl
                have hfz119_0 := blk_frozen BK374.out 0
                have hfz119_1 := blk_frozen BK374.out 1
                have hfz119_2 := blk_frozen BK374.out 2
                go_wp2
                go_meet
                case rel => exact ⟨_, ((t371 != 0)), (by first | rfl | (simp; done) | (simp [*]; done)), H', ⟨by have := HJ7.out; have := HJ29.out; first | omega | exact Nat.le_refl _⟩, ⟨by (with_reducible repeat (first | refine blk_drewN ?_ _ | refine blk_drew ?_ | refine blk_alloc ?_ _)); refine blk_far ?_ NB333_374.out _; (with_reducible repeat (first | refine blk_drewN ?_ _ | refine blk_drew ?_ | refine blk_alloc ?_ _)); refine blk_far ?_ NB333_374.out _; (with_reducible repeat (first | refine blk_drewN ?_ _ | refine blk_drew ?_ | refine blk_alloc ?_ _)); refine blk_far ?_ NB333_374.out _; (with_reducible repeat (first | refine blk_drewN ?_ _ | refine blk_drew ?_ | refine blk_alloc ?_ _)); exact BK333.out⟩, ⟨by (with_reducible repeat (first | refine blk_drewN ?_ _ | refine blk_drew ?_ | refine blk_alloc ?_ _)); refine blk_far ?_ NB337_374.out _; (with_reducible repeat (first | refine blk_drewN ?_ _ | refine blk_drew ?_ | refine blk_alloc ?_ _)); refine blk_far ?_ NB337_374.out _; (with_reducible repeat (first | refine blk_drewN ?_ _ | refine blk_drew ?_ | refine blk_alloc ?_ _)); refine blk_far ?_ NB337_374.out _; (with_reducible repeat (first | refine blk_drewN ?_ _ | refine blk_drew ?_ | refine blk_alloc ?_ _)); exact BK337.out⟩, ⟨by (with_reducible repeat (first | refine blk_drewN ?_ _ | refine blk_drew ?_ | refine blk_alloc ?_ _)); refine blk_far ?_ NB358_374.out _; (with_reducible repeat (first | refine blk_drewN ?_ _ | refine blk_drew ?_ | refine blk_alloc ?_ _)); refine blk_far ?_ NB358_374.out _; (with_reducible repeat (first | refine blk_drewN ?_ _ | refine blk_drew ?_ | refine blk_alloc ?_ _)); refine blk_far ?_ NB358_374.out _; (with_reducible repeat (first | refine blk_drewN ?_ _ | refine blk_drew ?_ | refine blk_alloc ?_ _)); exact BK358.out⟩, ⟨by (with_reducible repeat (first | refine blk_drewN ?_ _ | refine blk_drew ?_ | refine blk_alloc ?_ _)); refine blk_far ?_ NB364_374.out _; (with_reducible repeat (first | refine blk_drewN ?_ _ | refine blk_drew ?_ | refine blk_alloc ?_ _)); refine blk_far ?_ NB364_374.out _; (with_reducible repeat (first | refine blk_drewN ?_ _ | refine blk_drew ?_ | refine blk_alloc ?_ _)); refine blk_far ?_ NB364_374.out _; (with_reducible repeat (first | refine blk_drewN ?_ _ | refine blk_drew ?_ | refine blk_alloc ?_ _)); exact BK364.out⟩, ⟨by (with_reducible repeat (first | refine blk_drewN ?_ _ | refine blk_drew ?_ | refine blk_alloc ?_ _)); refine blk_far ?_ NB368_374.out _; (with_reducible repeat (first | refine blk_drewN ?_ _ | refine blk_drew ?_ | refine blk_alloc ?_ _)); refine blk_far ?_ NB368_374.out _; (with_reducible repeat (first | refine blk_drewN ?_ _ | refine blk_drew ?_ | refine blk_alloc ?_ _)); refine blk_far ?_ NB368_374.out _; (with_reducible repeat (first | refine blk_drewN ?_ _ | refine blk_drew ?_ | refine blk_alloc ?_ _)); exact BK368.out⟩, ⟨by (with_reducible repeat (first | refine blk_drewN ?_ _ | refine blk_drew ?_ | refine blk_alloc ?_ _)); refine blk_put (cs := #[.int .i64 t371, .int .i64 t372, .int .i64 0]) ?_ 2 _ rfl; (with_reducible repeat (first | refine blk_drewN ?_ _ | refine blk_drew ?_ | refine blk_alloc ?_ _)); refine blk_put (cs := #[.int .i64 t371, .int .i64 0, .int .i64 0]) ?_ 1 _ rfl; (with_reducible repeat (first | refine blk_drewN ?_ _ | refine blk_drew ?_ | refine blk_alloc ?_ _)); refine blk_put (cs := #[.int .i64 0, .int .i64 0, .int .i64 0]) ?_ 0 _ rfl; (with_reducible repeat (first | refine blk_drewN ?_ _ | refine blk_drew ?_ | refine blk_alloc ?_ _)); exact BK374.out⟩, ⟨by repeat (first | (with_reducible first | exact HB.out | apply below_alloc | apply pw_below_drewN | apply below_drew1 | refine below_set ?_ GE333.out | refine below_set ?_ GE337.out | refine below_set ?_ GE358.out | refine below_set ?_ GE364.out | refine below_set ?_ GE368.out | refine below_set ?_ GE374.out) | exact HB.out)⟩⟩
               ·rw [if_neg c101] at H
                have c101b0 : (t365 == 0) = false := beq_eq_false_iff_ne.mpr c101
                have c101b1 : (t365 != 0) = true := bne_iff_ne.mpr c101
                have H' := Aside0.mk H
                clear H
                have hnb120 := NB358_333.out
                have hnc120 := NB333_358.out
                have hnb121 := NB358_337.out
                have hnc121 := NB337_358.out
                have hnb122 := NB358_364.out
                have hnc122 := NB364_358.out
                have hnb123 := NB358_368.out
                have hnc123 := NB368_358.out
                have hnb124 := NB358_374.out
                have hnc124 := NB374_358.out
                have hcz125_0 : w95.cell? ⟨gb358, 0, none⟩ = some (.int .i64 t355) := (blk_cell BK358.out 0).trans rfl
                have hcz125_1 : w95.cell? ⟨gb358, 1, none⟩ = some (.int .i64 t356) := (blk_cell BK358.out 1).trans rfl
                have hcz125_2 : w95.cell? ⟨gb358, 2, none⟩ = some (.int .i64 t357) := (blk_cell BK358.out 2).trans rfl
                have hfz125_0 := blk_frozen BK358.out 0
                have hfz125_1 := blk_frozen BK358.out 1
                have hfz125_2 := blk_frozen BK358.out 2
                have hnb126 := NB364_333.out
                have hnc126 := NB333_364.out
                have hnb127 := NB364_337.out
                have hnc127 := NB337_364.out
                have hnb128 := NB364_368.out
                have hnc128 := NB368_364.out
                have hnb129 := NB364_374.out
                have hnc129 := NB374_364.out
                have hcz130_0 : w95.cell? ⟨gb364, 0, none⟩ = some (.int .i64 t361) := (blk_cell BK364.out 0).trans rfl
                have hcz130_1 : w95.cell? ⟨gb364, 1, none⟩ = some (.int .i64 t362) := (blk_cell BK364.out 1).trans rfl
                have hcz130_2 : w95.cell? ⟨gb364, 2, none⟩ = some (.int .i64 t363) := (blk_cell BK364.out 2).trans rfl
                have hfz130_0 := blk_frozen BK364.out 0
                have hfz130_1 := blk_frozen BK364.out 1
                have hfz130_2 := blk_frozen BK364.out 2
                have hnb131 := NB368_333.out
                have hnc131 := NB333_368.out
                have hnb132 := NB368_337.out
                have hnc132 := NB337_368.out
                have hnb133 := NB368_374.out
                have hnc133 := NB374_368.out
                have hcz134_0 : w95.cell? ⟨gb368, 0, none⟩ = some (.int .i64 t365) := (blk_cell BK368.out 0).trans rfl
                have hcz134_1 : w95.cell? ⟨gb368, 1, none⟩ = some (.int .i64 t366) := (blk_cell BK368.out 1).trans rfl
                have hcz134_2 : w95.cell? ⟨gb368, 2, none⟩ = some (.int .i64 t367) := (blk_cell BK368.out 2).trans rfl
                have hfz134_0 := blk_frozen BK368.out 0
                have hfz134_1 := blk_frozen BK368.out 1
                have hfz134_2 := blk_frozen BK368.out 2
                go_wp2
                go_meet
                case rel => exact ⟨_, (true), (by first | rfl | (simp; done) | (simp [*]; done)), H', ⟨by have := HJ7.out; have := HJ29.out; first | omega | exact Nat.le_refl _⟩, ⟨by (with_reducible repeat (first | refine blk_drewN ?_ _ | refine blk_drew ?_ | refine blk_alloc ?_ _)); refine blk_far ?_ NB333_374.out _; (with_reducible repeat (first | refine blk_drewN ?_ _ | refine blk_drew ?_ | refine blk_alloc ?_ _)); refine blk_far ?_ NB333_374.out _; (with_reducible repeat (first | refine blk_drewN ?_ _ | refine blk_drew ?_ | refine blk_alloc ?_ _)); refine blk_far ?_ NB333_374.out _; (with_reducible repeat (first | refine blk_drewN ?_ _ | refine blk_drew ?_ | refine blk_alloc ?_ _)); exact BK333.out⟩, ⟨by (with_reducible repeat (first | refine blk_drewN ?_ _ | refine blk_drew ?_ | refine blk_alloc ?_ _)); refine blk_far ?_ NB337_374.out _; (with_reducible repeat (first | refine blk_drewN ?_ _ | refine blk_drew ?_ | refine blk_alloc ?_ _)); refine blk_far ?_ NB337_374.out _; (with_reducible repeat (first | refine blk_drewN ?_ _ | refine blk_drew ?_ | refine blk_alloc ?_ _)); refine blk_far ?_ NB337_374.out _; (with_reducible repeat (first | refine blk_drewN ?_ _ | refine blk_drew ?_ | refine blk_alloc ?_ _)); exact BK337.out⟩, ⟨by (with_reducible repeat (first | refine blk_drewN ?_ _ | refine blk_drew ?_ | refine blk_alloc ?_ _)); refine blk_far ?_ NB358_374.out _; (with_reducible repeat (first | refine blk_drewN ?_ _ | refine blk_drew ?_ | refine blk_alloc ?_ _)); refine blk_far ?_ NB358_374.out _; (with_reducible repeat (first | refine blk_drewN ?_ _ | refine blk_drew ?_ | refine blk_alloc ?_ _)); refine blk_far ?_ NB358_374.out _; (with_reducible repeat (first | refine blk_drewN ?_ _ | refine blk_drew ?_ | refine blk_alloc ?_ _)); exact BK358.out⟩, ⟨by (with_reducible repeat (first | refine blk_drewN ?_ _ | refine blk_drew ?_ | refine blk_alloc ?_ _)); refine blk_far ?_ NB364_374.out _; (with_reducible repeat (first | refine blk_drewN ?_ _ | refine blk_drew ?_ | refine blk_alloc ?_ _)); refine blk_far ?_ NB364_374.out _; (with_reducible repeat (first | refine blk_drewN ?_ _ | refine blk_drew ?_ | refine blk_alloc ?_ _)); refine blk_far ?_ NB364_374.out _; (with_reducible repeat (first | refine blk_drewN ?_ _ | refine blk_drew ?_ | refine blk_alloc ?_ _)); exact BK364.out⟩, ⟨by (with_reducible repeat (first | refine blk_drewN ?_ _ | refine blk_drew ?_ | refine blk_alloc ?_ _)); refine blk_far ?_ NB368_374.out _; (with_reducible repeat (first | refine blk_drewN ?_ _ | refine blk_drew ?_ | refine blk_alloc ?_ _)); refine blk_far ?_ NB368_374.out _; (with_reducible repeat (first | refine blk_drewN ?_ _ | refine blk_drew ?_ | refine blk_alloc ?_ _)); refine blk_far ?_ NB368_374.out _; (with_reducible repeat (first | refine blk_drewN ?_ _ | refine blk_drew ?_ | refine blk_alloc ?_ _)); exact BK368.out⟩, ⟨by (with_reducible repeat (first | refine blk_drewN ?_ _ | refine blk_drew ?_ | refine blk_alloc ?_ _)); refine blk_put (cs := #[.int .i64 t371, .int .i64 t372, .int .i64 0]) ?_ 2 _ rfl; (with_reducible repeat (first | refine blk_drewN ?_ _ | refine blk_drew ?_ | refine blk_alloc ?_ _)); refine blk_put (cs := #[.int .i64 t371, .int .i64 0, .int .i64 0]) ?_ 1 _ rfl; (with_reducible repeat (first | refine blk_drewN ?_ _ | refine blk_drew ?_ | refine blk_alloc ?_ _)); refine blk_put (cs := #[.int .i64 0, .int .i64 0, .int .i64 0]) ?_ 0 _ rfl; (with_reducible repeat (first | refine blk_drewN ?_ _ | refine blk_drew ?_ | refine blk_alloc ?_ _)); exact BK374.out⟩, ⟨by repeat (first | (with_reducible first | exact HB.out | apply below_alloc | apply pw_below_drewN | apply below_drew1 | refine below_set ?_ GE333.out | refine below_set ?_ GE337.out | refine below_set ?_ GE358.out | refine below_set ?_ GE364.out | refine below_set ?_ GE368.out | refine below_set ?_ GE374.out) | exact HB.out)⟩⟩
              ·rw [if_neg c100] at H
               have c100b0 : (t361 == 0) = false := beq_eq_false_iff_ne.mpr c100
               have c100b1 : (t361 != 0) = true := bne_iff_ne.mpr c100
               have H' := Aside0.mk H
               clear H
               have hnb135 := NB358_333.out
               have hnc135 := NB333_358.out
               have hnb136 := NB358_337.out
               have hnc136 := NB337_358.out
               have hnb137 := NB358_364.out
               have hnc137 := NB364_358.out
               have hnb138 := NB358_368.out
               have hnc138 := NB368_358.out
               have hnb139 := NB358_374.out
               have hnc139 := NB374_358.out
               have hcz140_0 : w95.cell? ⟨gb358, 0, none⟩ = some (.int .i64 t355) := (blk_cell BK358.out 0).trans rfl
               have hcz140_1 : w95.cell? ⟨gb358, 1, none⟩ = some (.int .i64 t356) := (blk_cell BK358.out 1).trans rfl
               have hcz140_2 : w95.cell? ⟨gb358, 2, none⟩ = some (.int .i64 t357) := (blk_cell BK358.out 2).trans rfl
               have hfz140_0 := blk_frozen BK358.out 0
               have hfz140_1 := blk_frozen BK358.out 1
               have hfz140_2 := blk_frozen BK358.out 2
               have hnb141 := NB364_333.out
               have hnc141 := NB333_364.out
               have hnb142 := NB364_337.out
               have hnc142 := NB337_364.out
               have hnb143 := NB364_368.out
               have hnc143 := NB368_364.out
               have hnb144 := NB364_374.out
               have hnc144 := NB374_364.out
               have hcz145_0 : w95.cell? ⟨gb364, 0, none⟩ = some (.int .i64 t361) := (blk_cell BK364.out 0).trans rfl
               have hcz145_1 : w95.cell? ⟨gb364, 1, none⟩ = some (.int .i64 t362) := (blk_cell BK364.out 1).trans rfl
               have hcz145_2 : w95.cell? ⟨gb364, 2, none⟩ = some (.int .i64 t363) := (blk_cell BK364.out 2).trans rfl
               have hfz145_0 := blk_frozen BK364.out 0
               have hfz145_1 := blk_frozen BK364.out 1
               have hfz145_2 := blk_frozen BK364.out 2
               go_wp2
               go_meet
               case rel => exact ⟨_, (true), (by first | rfl | (simp; done) | (simp [*]; done)), H', ⟨by have := HJ7.out; have := HJ29.out; first | omega | exact Nat.le_refl _⟩, ⟨by (with_reducible repeat (first | refine blk_drewN ?_ _ | refine blk_drew ?_ | refine blk_alloc ?_ _)); refine blk_far ?_ NB333_374.out _; (with_reducible repeat (first | refine blk_drewN ?_ _ | refine blk_drew ?_ | refine blk_alloc ?_ _)); refine blk_far ?_ NB333_374.out _; (with_reducible repeat (first | refine blk_drewN ?_ _ | refine blk_drew ?_ | refine blk_alloc ?_ _)); refine blk_far ?_ NB333_374.out _; (with_reducible repeat (first | refine blk_drewN ?_ _ | refine blk_drew ?_ | refine blk_alloc ?_ _)); exact BK333.out⟩, ⟨by (with_reducible repeat (first | refine blk_drewN ?_ _ | refine blk_drew ?_ | refine blk_alloc ?_ _)); refine blk_far ?_ NB337_374.out _; (with_reducible repeat (first | refine blk_drewN ?_ _ | refine blk_drew ?_ | refine blk_alloc ?_ _)); refine blk_far ?_ NB337_374.out _; (with_reducible repeat (first | refine blk_drewN ?_ _ | refine blk_drew ?_ | refine blk_alloc ?_ _)); refine blk_far ?_ NB337_374.out _; (with_reducible repeat (first | refine blk_drewN ?_ _ | refine blk_drew ?_ | refine blk_alloc ?_ _)); exact BK337.out⟩, ⟨by (with_reducible repeat (first | refine blk_drewN ?_ _ | refine blk_drew ?_ | refine blk_alloc ?_ _)); refine blk_far ?_ NB358_374.out _; (with_reducible repeat (first | refine blk_drewN ?_ _ | refine blk_drew ?_ | refine blk_alloc ?_ _)); refine blk_far ?_ NB358_374.out _; (with_reducible repeat (first | refine blk_drewN ?_ _ | refine blk_drew ?_ | refine blk_alloc ?_ _)); refine blk_far ?_ NB358_374.out _; (with_reducible repeat (first | refine blk_drewN ?_ _ | refine blk_drew ?_ | refine blk_alloc ?_ _)); exact BK358.out⟩, ⟨by (with_reducible repeat (first | refine blk_drewN ?_ _ | refine blk_drew ?_ | refine blk_alloc ?_ _)); refine blk_far ?_ NB364_374.out _; (with_reducible repeat (first | refine blk_drewN ?_ _ | refine blk_drew ?_ | refine blk_alloc ?_ _)); refine blk_far ?_ NB364_374.out _; (with_reducible repeat (first | refine blk_drewN ?_ _ | refine blk_drew ?_ | refine blk_alloc ?_ _)); refine blk_far ?_ NB364_374.out _; (with_reducible repeat (first | refine blk_drewN ?_ _ | refine blk_drew ?_ | refine blk_alloc ?_ _)); exact BK364.out⟩, ⟨by (with_reducible repeat (first | refine blk_drewN ?_ _ | refine blk_drew ?_ | refine blk_alloc ?_ _)); refine blk_far ?_ NB368_374.out _; (with_reducible repeat (first | refine blk_drewN ?_ _ | refine blk_drew ?_ | refine blk_alloc ?_ _)); refine blk_far ?_ NB368_374.out _; (with_reducible repeat (first | refine blk_drewN ?_ _ | refine blk_drew ?_ | refine blk_alloc ?_ _)); refine blk_far ?_ NB368_374.out _; (with_reducible repeat (first | refine blk_drewN ?_ _ | refine blk_drew ?_ | refine blk_alloc ?_ _)); exact BK368.out⟩, ⟨by (with_reducible repeat (first | refine blk_drewN ?_ _ | refine blk_drew ?_ | refine blk_alloc ?_ _)); refine blk_put (cs := #[.int .i64 t371, .int .i64 t372, .int .i64 0]) ?_ 2 _ rfl; (with_reducible repeat (first | refine blk_drewN ?_ _ | refine blk_drew ?_ | refine blk_alloc ?_ _)); refine blk_put (cs := #[.int .i64 t371, .int .i64 0, .int .i64 0]) ?_ 1 _ rfl; (with_reducible repeat (first | refine blk_drewN ?_ _ | refine blk_drew ?_ | refine blk_alloc ?_ _)); refine blk_put (cs := #[.int .i64 0, .int .i64 0, .int .i64 0]) ?_ 0 _ rfl; (with_reducible repeat (first | refine blk_drewN ?_ _ | refine blk_drew ?_ | refine blk_alloc ?_ _)); exact BK374.out⟩, ⟨by repeat (first | (with_reducible first | exact HB.out | apply below_alloc | apply pw_below_drewN | apply below_drew1 | refine below_set ?_ GE333.out | refine below_set ?_ GE337.out | refine below_set ?_ GE358.out | refine below_set ?_ GE364.out | refine below_set ?_ GE368.out | refine below_set ?_ GE374.out) | exact HB.out)⟩⟩
             ·rw [if_neg c99] at H
              have c99b0 : (t355 == 0) = false := beq_eq_false_iff_ne.mpr c99
              have c99b1 : (t355 != 0) = true := bne_iff_ne.mpr c99
              (first | rw [c99b0] | (simp only [i64_w, i32_w]; rw [c99b0]) | skip)
              have H' := Aside0.mk H
              clear H
              have hnb146 := NB358_333.out
              have hnc146 := NB333_358.out
              have hnb147 := NB358_337.out
              have hnc147 := NB337_358.out
              have hnb148 := NB358_364.out
              have hnc148 := NB364_358.out
              have hnb149 := NB358_368.out
              have hnc149 := NB368_358.out
              have hnb150 := NB358_374.out
              have hnc150 := NB374_358.out
              have hcz151_0 : w95.cell? ⟨gb358, 0, none⟩ = some (.int .i64 t355) := (blk_cell BK358.out 0).trans rfl
              have hcz151_1 : w95.cell? ⟨gb358, 1, none⟩ = some (.int .i64 t356) := (blk_cell BK358.out 1).trans rfl
              have hcz151_2 : w95.cell? ⟨gb358, 2, none⟩ = some (.int .i64 t357) := (blk_cell BK358.out 2).trans rfl
              have hfz151_0 := blk_frozen BK358.out 0
              have hfz151_1 := blk_frozen BK358.out 1
              have hfz151_2 := blk_frozen BK358.out 2
              go_wp2
              go_meet
              case rel => exact ⟨_, (true), (by first | rfl | (simp; done) | (simp [*]; done)), H', ⟨by have := HJ7.out; have := HJ29.out; first | omega | exact Nat.le_refl _⟩, ⟨by (with_reducible repeat (first | refine blk_drewN ?_ _ | refine blk_drew ?_ | refine blk_alloc ?_ _)); refine blk_far ?_ NB333_374.out _; (with_reducible repeat (first | refine blk_drewN ?_ _ | refine blk_drew ?_ | refine blk_alloc ?_ _)); refine blk_far ?_ NB333_374.out _; (with_reducible repeat (first | refine blk_drewN ?_ _ | refine blk_drew ?_ | refine blk_alloc ?_ _)); refine blk_far ?_ NB333_374.out _; (with_reducible repeat (first | refine blk_drewN ?_ _ | refine blk_drew ?_ | refine blk_alloc ?_ _)); exact BK333.out⟩, ⟨by (with_reducible repeat (first | refine blk_drewN ?_ _ | refine blk_drew ?_ | refine blk_alloc ?_ _)); refine blk_far ?_ NB337_374.out _; (with_reducible repeat (first | refine blk_drewN ?_ _ | refine blk_drew ?_ | refine blk_alloc ?_ _)); refine blk_far ?_ NB337_374.out _; (with_reducible repeat (first | refine blk_drewN ?_ _ | refine blk_drew ?_ | refine blk_alloc ?_ _)); refine blk_far ?_ NB337_374.out _; (with_reducible repeat (first | refine blk_drewN ?_ _ | refine blk_drew ?_ | refine blk_alloc ?_ _)); exact BK337.out⟩, ⟨by (with_reducible repeat (first | refine blk_drewN ?_ _ | refine blk_drew ?_ | refine blk_alloc ?_ _)); refine blk_far ?_ NB358_374.out _; (with_reducible repeat (first | refine blk_drewN ?_ _ | refine blk_drew ?_ | refine blk_alloc ?_ _)); refine blk_far ?_ NB358_374.out _; (with_reducible repeat (first | refine blk_drewN ?_ _ | refine blk_drew ?_ | refine blk_alloc ?_ _)); refine blk_far ?_ NB358_374.out _; (with_reducible repeat (first | refine blk_drewN ?_ _ | refine blk_drew ?_ | refine blk_alloc ?_ _)); exact BK358.out⟩, ⟨by (with_reducible repeat (first | refine blk_drewN ?_ _ | refine blk_drew ?_ | refine blk_alloc ?_ _)); refine blk_far ?_ NB364_374.out _; (with_reducible repeat (first | refine blk_drewN ?_ _ | refine blk_drew ?_ | refine blk_alloc ?_ _)); refine blk_far ?_ NB364_374.out _; (with_reducible repeat (first | refine blk_drewN ?_ _ | refine blk_drew ?_ | refine blk_alloc ?_ _)); refine blk_far ?_ NB364_374.out _; (with_reducible repeat (first | refine blk_drewN ?_ _ | refine blk_drew ?_ | refine blk_alloc ?_ _)); exact BK364.out⟩, ⟨by (with_reducible repeat (first | refine blk_drewN ?_ _ | refine blk_drew ?_ | refine blk_alloc ?_ _)); refine blk_far ?_ NB368_374.out _; (with_reducible repeat (first | refine blk_drewN ?_ _ | refine blk_drew ?_ | refine blk_alloc ?_ _)); refine blk_far ?_ NB368_374.out _; (with_reducible repeat (first | refine blk_drewN ?_ _ | refine blk_drew ?_ | refine blk_alloc ?_ _)); refine blk_far ?_ NB368_374.out _; (with_reducible repeat (first | refine blk_drewN ?_ _ | refine blk_drew ?_ | refine blk_alloc ?_ _)); exact BK368.out⟩, ⟨by (with_reducible repeat (first | refine blk_drewN ?_ _ | refine blk_drew ?_ | refine blk_alloc ?_ _)); refine blk_put (cs := #[.int .i64 t371, .int .i64 t372, .int .i64 0]) ?_ 2 _ rfl; (with_reducible repeat (first | refine blk_drewN ?_ _ | refine blk_drew ?_ | refine blk_alloc ?_ _)); refine blk_put (cs := #[.int .i64 t371, .int .i64 0, .int .i64 0]) ?_ 1 _ rfl; (with_reducible repeat (first | refine blk_drewN ?_ _ | refine blk_drew ?_ | refine blk_alloc ?_ _)); refine blk_put (cs := #[.int .i64 0, .int .i64 0, .int .i64 0]) ?_ 0 _ rfl; (with_reducible repeat (first | refine blk_drewN ?_ _ | refine blk_drew ?_ | refine blk_alloc ?_ _)); exact BK374.out⟩, ⟨by repeat (first | (with_reducible first | exact HB.out | apply below_alloc | apply pw_below_drewN | apply below_drew1 | refine below_set ?_ GE333.out | refine below_set ?_ GE337.out | refine below_set ?_ GE358.out | refine below_set ?_ GE364.out | refine below_set ?_ GE368.out | refine below_set ?_ GE374.out) | exact HB.out)⟩⟩
            case rest =>
             clear HC69
             try clear c1
             try clear p2
             try clear p3
             try clear q3
             try clear hx3
             try clear qi3
             try clear c9
             try clear c10
             try clear c11
             try clear c12
             try clear c13
             try clear c14
             try clear c15
             try clear p36
             try clear q36
             try clear hx36
             try clear qi36
             try clear p37
             try clear q37
             try clear hx37
             try clear qi37
             try clear c99
             try clear c99b0
             try clear c99b1
             try clear c100
             try clear c100b0
             try clear c100b1
             try clear c101
             try clear c101b0
             try clear c101b1
             try clear c102
             try clear c103
             try clear c104
             try clear c105
             try clear c106
             try clear c108
             try clear c109
             try clear c110
             try clear c111
             try clear c113
             try clear c114
             try clear c115
             try clear c117
             try clear c118
             try clear c120
             try clear c121
             try clear c122
             try clear c123
             try clear c124
             try clear c126
             try clear c127
             try clear c128
             try clear c129
             try clear c131
             try clear c132
             try clear c133
             try clear c135
             try clear c136
             try clear c137
             try clear c138
             try clear c139
             try clear c141
             try clear c142
             try clear c143
             try clear c144
             try clear c146
             try clear c147
             try clear c148
             try clear c149
             try clear c150
             try clear hcz107_0
             try clear hcz107_1
             try clear hcz107_2
             try clear hcz112_0
             try clear hcz112_1
             try clear hcz112_2
             try clear hcz116_0
             try clear hcz116_1
             try clear hcz116_2
             try clear hcz119_0
             try clear hcz119_1
             try clear hcz119_2
             try clear hcz125_0
             try clear hcz125_1
             try clear hcz125_2
             try clear hcz130_0
             try clear hcz130_1
             try clear hcz130_2
             try clear hcz134_0
             try clear hcz134_1
             try clear hcz134_2
             try clear hcz140_0
             try clear hcz140_1
             try clear hcz140_2
             try clear hcz145_0
             try clear hcz145_1
             try clear hcz145_2
             try clear hcz151_0
             try clear hcz151_1
             try clear hcz151_2
             try clear hfz107_0
             try clear hfz107_1
             try clear hfz107_2
             try clear hfz112_0
             try clear hfz112_1
             try clear hfz112_2
             try clear hfz116_0
             try clear hfz116_1
             try clear hfz116_2
             try clear hfz119_0
             try clear hfz119_1
             try clear hfz119_2
             try clear hfz125_0
             try clear hfz125_1
             try clear hfz125_2
             try clear hfz130_0
             try clear hfz130_1
             try clear hfz130_2
             try clear hfz134_0
             try clear hfz134_1
             try clear hfz134_2
             try clear hfz140_0
             try clear hfz140_1
             try clear hfz140_2
             try clear hfz145_0
             try clear hfz145_1
             try clear hfz145_2
             try clear hfz151_0
             try clear hfz151_1
             try clear hfz151_2
             try clear hx369_0
             try clear hx370_0
             try clear p369
             try clear p370
             try clear q369
             try clear q370
             obtain ⟨kq, x135_68, rfl, HA, HJ68, BK333, BK337, BK358, BK364, BK368, BK374, HB⟩ := hcut
             cases kq with
             | zero => exact absurd HA.out (by simp [laws_FnPairBounds.j2])
             | succ kj68 =>
              have H := HA.out
              clear HA
              simp only [laws_FnPairBounds.j2] at H
              by_cases c152 : x135_68 = true
              ·subst c152
               have H1 : (some false) = some r := by rw [if_pos rfl] at H; exact H
               clear H
               have H := H1
               clear H1
               exact absurd (H.trans (congrArg some HLAW.out)) (by simp)
              ·replace c152 := Bool.eq_false_iff.mpr c152
               subst c152
               have H1 : ((laws_lwAbs.f (wrap64 (t356 - t362))).bind fun t375 => (if t375 ≤ t331 then ((laws_lwAbs.f (wrap64 (t357 - t363))).bind fun t376 => (if t376 ≤ t332 then ((laws_lwAbs.f (wrap64 (t366 - t372))).bind fun t377 => (if t377 ≤ t335 then ((laws_lwAbs.f (wrap64 (t367 - t373))).bind fun t378 => (if t378 ≤ t336 then ((spec_TurnBounds.f t322 t323 t328 t329).bind fun bt379 => (if t331 = bt379.2.1 then ((spec_PartBounds.f t328 t329).bind fun bt382 => (some (t336 == bt382.2.2))) else (some false))) else (some false))) else (some false))) else (some false))) else (some false))) = some r := by rw [if_neg (show ¬ (false = true) by decide)] at H; exact H
               clear H
               have H := H1
               clear H1
               replace H := Option.bind_eq_some_iff.mp H
               obtain ⟨t375, A1530, H⟩ := H
               replace H : (if t375 ≤ t331 then ((laws_lwAbs.f (wrap64 (t357 - t363))).bind fun t376 => (if t376 ≤ t332 then ((laws_lwAbs.f (wrap64 (t366 - t372))).bind fun t377 => (if t377 ≤ t335 then ((laws_lwAbs.f (wrap64 (t367 - t373))).bind fun t378 => (if t378 ≤ t336 then ((spec_TurnBounds.f t322 t323 t328 t329).bind fun bt379 => (if t331 = bt379.2.1 then ((spec_PartBounds.f t328 t329).bind fun bt382 => (some (t336 == bt382.2.2))) else (some false))) else (some false))) else (some false))) else (some false))) else (some false)) = some r := H
               have A153 := Aside0.mk A1530
               clear A1530
               by_cases c154 : t375 ≤ t331
               ·rw [if_pos c154] at H
                have c154b0 : decide (t375 ≤ t331) = true := decide_eq_true c154
                clear c154
                replace H := Option.bind_eq_some_iff.mp H
                obtain ⟨t376, A1550, H⟩ := H
                replace H : (if t376 ≤ t332 then ((laws_lwAbs.f (wrap64 (t366 - t372))).bind fun t377 => (if t377 ≤ t335 then ((laws_lwAbs.f (wrap64 (t367 - t373))).bind fun t378 => (if t378 ≤ t336 then ((spec_TurnBounds.f t322 t323 t328 t329).bind fun bt379 => (if t331 = bt379.2.1 then ((spec_PartBounds.f t328 t329).bind fun bt382 => (some (t336 == bt382.2.2))) else (some false))) else (some false))) else (some false))) else (some false)) = some r := H
                have A155 := Aside0.mk A1550
                clear A1550
                by_cases c156 : t376 ≤ t332
                ·rw [if_pos c156] at H
                 have c156b0 : decide (t376 ≤ t332) = true := decide_eq_true c156
                 clear c156
                 replace H := Option.bind_eq_some_iff.mp H
                 obtain ⟨t377, A1570, H⟩ := H
                 replace H : (if t377 ≤ t335 then ((laws_lwAbs.f (wrap64 (t367 - t373))).bind fun t378 => (if t378 ≤ t336 then ((spec_TurnBounds.f t322 t323 t328 t329).bind fun bt379 => (if t331 = bt379.2.1 then ((spec_PartBounds.f t328 t329).bind fun bt382 => (some (t336 == bt382.2.2))) else (some false))) else (some false))) else (some false)) = some r := H
                 have A157 := Aside0.mk A1570
                 clear A1570
                 by_cases c158 : t377 ≤ t335
                 ·rw [if_pos c158] at H
                  have c158b0 : decide (t377 ≤ t335) = true := decide_eq_true c158
                  clear c158
                  replace H := Option.bind_eq_some_iff.mp H
                  obtain ⟨t378, A1590, H⟩ := H
                  replace H : (if t378 ≤ t336 then ((spec_TurnBounds.f t322 t323 t328 t329).bind fun bt379 => (if t331 = bt379.2.1 then ((spec_PartBounds.f t328 t329).bind fun bt382 => (some (t336 == bt382.2.2))) else (some false))) else (some false)) = some r := H
                  have A159 := Aside0.mk A1590
                  clear A1590
                  by_cases c160 : t378 ≤ t336
                  ·rw [if_pos c160] at H
                   have c160b0 : decide (t378 ≤ t336) = true := decide_eq_true c160
                   clear c160
                   replace H := Option.bind_eq_some_iff.mp H
                   obtain ⟨⟨t379, t380, t381⟩, A1610, H⟩ := H
                   replace H : (if t331 = t380 then ((spec_PartBounds.f t328 t329).bind fun bt382 => (some (t336 == bt382.2.2))) else (some false)) = some r := H
                   have A161 := Aside0.mk A1610
                   clear A1610
                   by_cases c162 : t331 = t380
                   ·rw [if_pos c162] at H
                    have c162b0 : (t331 == t380) = true := beq_iff_eq.mpr c162
                    have c162b1 : (t331 != t380) = false := bne_eq_false_iff_eq.mpr c162
                    clear c162
                    replace H := Option.bind_eq_some_iff.mp H
                    obtain ⟨⟨t382, t383, t384⟩, A1630, H⟩ := H
                    replace H : (some (t336 == t384)) = some r := H
                    have A163 := Aside0.mk A1630
                    clear A1630
                    obtain rfl := Option.some.inj H
                    try go_wp2
                    have n0_ := Aside0.mk (blk_drew BK333.out)
                    have n1_ := Aside0.mk (blk_drew BK337.out)
                    have n2_ := Aside0.mk (blk_drew BK358.out)
                    have n3_ := Aside0.mk (blk_drew BK364.out)
                    have n4_ := Aside0.mk (blk_drew BK368.out)
                    have n5_ := Aside0.mk (blk_drew BK374.out)
                    have n6_ := Aside0.mk (below_drew1 HB.out)
                    clear BK333
                    clear BK337
                    clear BK358
                    clear BK364
                    clear BK368
                    clear BK374
                    clear HB
                    have BK333 := n0_
                    have BK337 := n1_
                    have BK358 := n2_
                    have BK364 := n3_
                    have BK368 := n4_
                    have BK374 := n5_
                    have HB := n6_
                    clear n0_ n1_ n2_ n3_ n4_ n5_ n6_
                    as_aux_lemma =>
                     refine start_ (n := 63) (S := fun w' => w'.cell? ⟨gb358, 0, none⟩ = some (.int .i64 t355) ∧ w'.cell? ⟨gb358, 1, none⟩ = some (.int .i64 t356) ∧ w'.cell? ⟨gb358, 2, none⟩ = some (.int .i64 t357) ∧ w'.cell? ⟨gb364, 0, none⟩ = some (.int .i64 t361) ∧ w'.cell? ⟨gb364, 1, none⟩ = some (.int .i64 t362) ∧ w'.cell? ⟨gb364, 2, none⟩ = some (.int .i64 t363) ∧ w'.cell? ⟨gb333, 0, none⟩ = some (.int .i64 t330) ∧ w'.cell? ⟨gb333, 1, none⟩ = some (.int .i64 t331) ∧ w'.cell? ⟨gb333, 2, none⟩ = some (.int .i64 t332) ∧ w'.cell? ⟨gb368, 0, none⟩ = some (.int .i64 t365) ∧ w'.cell? ⟨gb368, 1, none⟩ = some (.int .i64 t366) ∧ w'.cell? ⟨gb368, 2, none⟩ = some (.int .i64 t367) ∧ w'.cell? ⟨gb374, 0, none⟩ = some (.int .i64 t371) ∧ w'.cell? ⟨gb374, 1, none⟩ = some (.int .i64 t372) ∧ w'.cell? ⟨gb374, 2, none⟩ = some (.int .i64 t373) ∧ w'.cell? ⟨gb337, 0, none⟩ = some (.int .i64 t334) ∧ w'.cell? ⟨gb337, 1, none⟩ = some (.int .i64 t335) ∧ w'.cell? ⟨gb337, 2, none⟩ = some (.int .i64 t336)) (ds := []) #[N, N, N, N, N, N, N, N, N, N, N, N, N, N, N, N, N, N, N, N, N, N, N, N, N, N, N, N, N, N, N, N, N, N, N, N, N, N, N, N, N, N, N, N, N, N, N, N, N, N, N, N, N, N, N, N, N, N, N, N, N, N, N] (by kernel_rfl) rfl rfl ⟨(blk_cell BK358.out 0).trans rfl, (blk_cell BK358.out 1).trans rfl, (blk_cell BK358.out 2).trans rfl, (blk_cell BK364.out 0).trans rfl, (blk_cell BK364.out 1).trans rfl, (blk_cell BK364.out 2).trans rfl, (blk_cell BK333.out 0).trans rfl, (blk_cell BK333.out 1).trans rfl, (blk_cell BK333.out 2).trans rfl, (blk_cell BK368.out 0).trans rfl, (blk_cell BK368.out 1).trans rfl, (blk_cell BK368.out 2).trans rfl, (blk_cell BK374.out 0).trans rfl, (blk_cell BK374.out 1).trans rfl, (blk_cell BK374.out 2).trans rfl, (blk_cell BK337.out 0).trans rfl, (blk_cell BK337.out 1).trans rfl, (blk_cell BK337.out 2).trans rfl⟩ (fun hHeld => ?_); refine with_tabW laws_FnPairBounds.tab18 laws_FnPairBounds.bits18 (fun HT_ HW_ => ?_)
                     generalize wc.drew = w164 at BK333 BK337 BK358 BK364 BK368 BK374 HB hHeld ⊢
                     refine pure_ (i := 0) (N := some 136) (v := ?_) (a' := ?_) #[Y, N, N, N, N, N, N, N, N, N, N, N, N, N, N, N, N, N, N, N, N, N, N, N, N, N, N, N, N, N, N, N, N, N, N, N, N, N, N, N, N, N, N, N, N, N, N, N, N, N, N, N, N, N, N, N, N, N, N, N, N, N, N] rfl rfl (any_of HT_.out (by kernel_rfl)) (fun _ _ _ h => h) (Or.inl ⟨by rfl, ?_⟩) ?_ ?_
                     rotate_left
                     ·intro w'
                      go_simp
                      with_reducible rfl
                     rotate_left
                     ·simp only [Act.put, pa, pb, pc, i64_w, i32_w]
                      rfl
                     refine pure_ (i := 2) (N := some 138) (v := ?_) (a' := ?_) #[Y, N, Y, N, N, N, N, N, N, N, N, N, N, N, N, N, N, N, N, N, N, N, N, N, N, N, N, N, N, N, N, N, N, N, N, N, N, N, N, N, N, N, N, N, N, N, N, N, N, N, N, N, N, N, N, N, N, N, N, N, N, N, N] rfl rfl (any_of HT_.out (by kernel_rfl)) (fun _ _ _ h => h) (Or.inl ⟨by rfl, ?_⟩) ?_ ?_
                     rotate_left
                     ·intro w'
                      go_simp
                      with_reducible rfl
                     rotate_left
                     ·simp only [Act.put, pa, pb, pc, i64_w, i32_w]
                      rfl
                     refine pure_ (i := 6) (N := some 142) (v := ?_) (a' := ?_) #[Y, N, Y, N, N, N, Y, N, N, N, N, N, N, N, N, N, N, N, N, N, N, N, N, N, N, N, N, N, N, N, N, N, N, N, N, N, N, N, N, N, N, N, N, N, N, N, N, N, N, N, N, N, N, N, N, N, N, N, N, N, N, N, N] rfl rfl (any_of HT_.out (by kernel_rfl)) (fun _ _ _ h => h) (Or.inl ⟨by rfl, ?_⟩) ?_ ?_
                     rotate_left
                     ·intro w'
                      go_simp
                      with_reducible rfl
                     rotate_left
                     ·simp only [Act.put, pa, pb, pc, i64_w, i32_w]
                      rfl
                     refine take_ (i := 1) (N := some 137) (v := ?_) (a' := ?_) #[Y, Y, Y, N, N, N, Y, N, N, N, N, N, N, N, N, N, N, N, N, N, N, N, N, N, N, N, N, N, N, N, N, N, N, N, N, N, N, N, N, N, N, N, N, N, N, N, N, N, N, N, N, N, N, N, N, N, N, N, N, N, N, N, N] rfl rfl (take_ofW HT_.out HW_.out (by kernel_rfl)) (fun _ _ _ h => h) (Or.inl ⟨by rfl, ?_⟩) hHeld ?_ ?_
                     rotate_left
                     ·rintro w' ⟨s0, s1, s2, s3, s4, s5, s6, s7, s8, s9, s10, s11, s12, s13, s14, s15, s16, s17⟩
                      go_simp
                      with_reducible rfl
                     rotate_left
                     ·simp only [Act.put, pa, pb, pc, i64_w, i32_w]
                      rfl
                     refine take_ (i := 3) (N := some 139) (v := ?_) (a' := ?_) #[Y, Y, Y, Y, N, N, Y, N, N, N, N, N, N, N, N, N, N, N, N, N, N, N, N, N, N, N, N, N, N, N, N, N, N, N, N, N, N, N, N, N, N, N, N, N, N, N, N, N, N, N, N, N, N, N, N, N, N, N, N, N, N, N, N] rfl rfl (take_ofW HT_.out HW_.out (by kernel_rfl)) (fun _ _ _ h => h) (Or.inl ⟨by rfl, ?_⟩) hHeld ?_ ?_
                     rotate_left
                     ·rintro w' ⟨s0, s1, s2, s3, s4, s5, s6, s7, s8, s9, s10, s11, s12, s13, s14, s15, s16, s17⟩
                      go_simp
                      with_reducible rfl
                     rotate_left
                     ·simp only [Act.put, pa, pb, pc, i64_w, i32_w]
                      rfl
                     refine pure_ (i := 4) (N := some 140) (v := ?_) (a' := ?_) #[Y, Y, Y, Y, Y, N, Y, N, N, N, N, N, N, N, N, N, N, N, N, N, N, N, N, N, N, N, N, N, N, N, N, N, N, N, N, N, N, N, N, N, N, N, N, N, N, N, N, N, N, N, N, N, N, N, N, N, N, N, N, N, N, N, N] rfl rfl (any_of HT_.out (by kernel_rfl)) (fun _ _ _ h => h) (Or.inl ⟨by rfl, ?_⟩) ?_ ?_
                     rotate_left
                     ·intro w'
                      go_simp
                      with_reducible rfl
                     rotate_left
                     ·simp only [Act.put, pa, pb, pc, i64_w, i32_w]
                      rfl
                     refine take_ (i := 7) (N := some 143) (v := ?_) (a' := ?_) #[Y, Y, Y, Y, Y, N, Y, Y, N, N, N, N, N, N, N, N, N, N, N, N, N, N, N, N, N, N, N, N, N, N, N, N, N, N, N, N, N, N, N, N, N, N, N, N, N, N, N, N, N, N, N, N, N, N, N, N, N, N, N, N, N, N, N] rfl rfl (take_ofW HT_.out HW_.out (by kernel_rfl)) (fun _ _ _ h => h) (Or.inl ⟨by rfl, ?_⟩) hHeld ?_ ?_
                     rotate_left
                     ·rintro w' ⟨s0, s1, s2, s3, s4, s5, s6, s7, s8, s9, s10, s11, s12, s13, s14, s15, s16, s17⟩
                      go_simp
                      with_reducible rfl
                     rotate_left
                     ·simp only [Act.put, pa, pb, pc, i64_w, i32_w]
                      rfl
                     refine one_ (i := 5) (N := some 141) #[Y, Y, Y, Y, Y, Y, Y, Y, N, N, N, N, N, N, N, N, N, N, N, N, N, N, N, N, N, N, N, N, N, N, N, N, N, N, N, N, N, N, N, N, N, N, N, N, N, N, N, N, N, N, N, N, N, N, N, N, N, N, N, N, N, N, N] rfl rfl (one_of HT_.out (by kernel_rfl)) (by decide) (fun K hK => ?_)
                     refine goes_ Try.func12 (by kernel_rfl) rfl #[.int .i64 (wrap64 (t356 - t362))] (by rfl) rfl rfl (by first | rfl | (simp only [List.map_toArray, List.map_cons, List.map_nil]; rfl)) ?_
                     with_reducible refine (laws_lwAbs.calls (wrap64 (t356 - t362)) t375 _ A153.out).mono ?_
                     rintro e w' ⟨rfl, ⟨nd, rfl⟩⟩
                     refine ⟨_, rfl, ?_⟩
                     refine hK.out _ _ ⟨(blk_cell BK358.out 0).trans rfl, (blk_cell BK358.out 1).trans rfl, (blk_cell BK358.out 2).trans rfl, (blk_cell BK364.out 0).trans rfl, (blk_cell BK364.out 1).trans rfl, (blk_cell BK364.out 2).trans rfl, (blk_cell BK333.out 0).trans rfl, (blk_cell BK333.out 1).trans rfl, (blk_cell BK333.out 2).trans rfl, (blk_cell BK368.out 0).trans rfl, (blk_cell BK368.out 1).trans rfl, (blk_cell BK368.out 2).trans rfl, (blk_cell BK374.out 0).trans rfl, (blk_cell BK374.out 1).trans rfl, (blk_cell BK374.out 2).trans rfl, (blk_cell BK337.out 0).trans rfl, (blk_cell BK337.out 1).trans rfl, (blk_cell BK337.out 2).trans rfl⟩ (fun hHeld => ?_)
                     clear hK K
                     refine norm_ (a' := ?_) ?_ ?_
                     rotate_left
                     ·show Act.put _ (some 141) _ = _
                      simp only [Act.put, pa, pb, pc, i64_w, i32_w]
                      rfl
                     refine pure_ (i := 8) (N := some 144) (v := ?_) (a' := ?_) #[Y, Y, Y, Y, Y, Y, Y, Y, Y, N, N, N, N, N, N, N, N, N, N, N, N, N, N, N, N, N, N, N, N, N, N, N, N, N, N, N, N, N, N, N, N, N, N, N, N, N, N, N, N, N, N, N, N, N, N, N, N, N, N, N, N, N, N] rfl rfl (any_of HT_.out (by kernel_rfl)) (fun _ _ _ h => h) (Or.inl ⟨by rfl, ?_⟩) ?_ ?_
                     rotate_left
                     ·intro w'
                      go_simp
                      with_reducible rfl
                     rotate_left
                     ·simp only [Act.put, pa, pb, pc, i64_w, i32_w]
                      rfl
                     refine pure_ (i := 9) (N := some 145) (v := ?_) (a' := ?_) #[Y, Y, Y, Y, Y, Y, Y, Y, Y, Y, N, N, N, N, N, N, N, N, N, N, N, N, N, N, N, N, N, N, N, N, N, N, N, N, N, N, N, N, N, N, N, N, N, N, N, N, N, N, N, N, N, N, N, N, N, N, N, N, N, N, N, N, N] rfl rfl (any_of HT_.out (by kernel_rfl)) (fun _ _ _ h => h) (Or.inl ⟨by rfl, ?_⟩) ?_ ?_
                     rotate_left
                     ·intro w'
                      go_simp
                      with_reducible rfl
                     rotate_left
                     ·simp only [Act.put, pa, pb, pc, i64_w, i32_w]
                      rfl
                     refine pure_ (i := 10) (N := some 146) (v := ?_) (a' := ?_) #[Y, Y, Y, Y, Y, Y, Y, Y, Y, Y, Y, N, N, N, N, N, N, N, N, N, N, N, N, N, N, N, N, N, N, N, N, N, N, N, N, N, N, N, N, N, N, N, N, N, N, N, N, N, N, N, N, N, N, N, N, N, N, N, N, N, N, N, N] rfl rfl (any_of HT_.out (by kernel_rfl)) (fun _ _ _ h => h) (Or.inl ⟨by rfl, ?_⟩) ?_ ?_
                     rotate_left
                     ·intro w'
                      go_simp
                      with_reducible rfl
                     rotate_left
                     ·simp only [Act.put, pa, pb, pc, i64_w, i32_w]
                      rfl
                     refine pure_ (i := 12) (N := some 148) (v := ?_) (a' := ?_) #[Y, Y, Y, Y, Y, Y, Y, Y, Y, Y, Y, N, Y, N, N, N, N, N, N, N, N, N, N, N, N, N, N, N, N, N, N, N, N, N, N, N, N, N, N, N, N, N, N, N, N, N, N, N, N, N, N, N, N, N, N, N, N, N, N, N, N, N, N] rfl rfl (any_of HT_.out (by kernel_rfl)) (fun _ _ _ h => h) (Or.inl ⟨by rfl, ?_⟩) ?_ ?_
                     rotate_left
                     ·intro w'
                      go_simp
                      with_reducible rfl
                     rotate_left
                     ·simp only [Act.put, pa, pb, pc, i64_w, i32_w]
                      rfl
                     refine pure_ (i := 16) (N := some 152) (v := ?_) (a' := ?_) #[Y, Y, Y, Y, Y, Y, Y, Y, Y, Y, Y, N, Y, N, N, N, Y, N, N, N, N, N, N, N, N, N, N, N, N, N, N, N, N, N, N, N, N, N, N, N, N, N, N, N, N, N, N, N, N, N, N, N, N, N, N, N, N, N, N, N, N, N, N] rfl rfl (any_of HT_.out (by kernel_rfl)) (fun _ _ _ h => h) (Or.inl ⟨by rfl, ?_⟩) ?_ ?_
                     rotate_left
                     ·intro w'
                      go_simp
                      with_reducible rfl
                     rotate_left
                     ·simp only [Act.put, pa, pb, pc, i64_w, i32_w]
                      rfl
                     refine take_ (i := 11) (N := some 147) (v := ?_) (a' := ?_) #[Y, Y, Y, Y, Y, Y, Y, Y, Y, Y, Y, Y, Y, N, N, N, Y, N, N, N, N, N, N, N, N, N, N, N, N, N, N, N, N, N, N, N, N, N, N, N, N, N, N, N, N, N, N, N, N, N, N, N, N, N, N, N, N, N, N, N, N, N, N] rfl rfl (take_ofW HT_.out HW_.out (by kernel_rfl)) (fun _ _ _ h => h) (Or.inl ⟨by rfl, ?_⟩) hHeld ?_ ?_
                     rotate_left
                     ·rintro w' ⟨s0, s1, s2, s3, s4, s5, s6, s7, s8, s9, s10, s11, s12, s13, s14, s15, s16, s17⟩
                      go_simp
                      with_reducible rfl
                     rotate_left
                     ·simp only [Act.put, pa, pb, pc, i64_w, i32_w]
                      rfl
                     refine take_ (i := 13) (N := some 149) (v := ?_) (a' := ?_) #[Y, Y, Y, Y, Y, Y, Y, Y, Y, Y, Y, Y, Y, Y, N, N, Y, N, N, N, N, N, N, N, N, N, N, N, N, N, N, N, N, N, N, N, N, N, N, N, N, N, N, N, N, N, N, N, N, N, N, N, N, N, N, N, N, N, N, N, N, N, N] rfl rfl (take_ofW HT_.out HW_.out (by kernel_rfl)) (fun _ _ _ h => h) (Or.inl ⟨by rfl, ?_⟩) hHeld ?_ ?_
                     rotate_left
                     ·rintro w' ⟨s0, s1, s2, s3, s4, s5, s6, s7, s8, s9, s10, s11, s12, s13, s14, s15, s16, s17⟩
                      go_simp
                      with_reducible rfl
                     rotate_left
                     ·simp only [Act.put, pa, pb, pc, i64_w, i32_w]
                      rfl
                     refine pure_ (i := 14) (N := some 150) (v := ?_) (a' := ?_) #[Y, Y, Y, Y, Y, Y, Y, Y, Y, Y, Y, Y, Y, Y, Y, N, Y, N, N, N, N, N, N, N, N, N, N, N, N, N, N, N, N, N, N, N, N, N, N, N, N, N, N, N, N, N, N, N, N, N, N, N, N, N, N, N, N, N, N, N, N, N, N] rfl rfl (any_of HT_.out (by kernel_rfl)) (fun _ _ _ h => h) (Or.inl ⟨by rfl, ?_⟩) ?_ ?_
                     rotate_left
                     ·intro w'
                      go_simp
                      with_reducible rfl
                     rotate_left
                     ·simp only [Act.put, pa, pb, pc, i64_w, i32_w]
                      rfl
                     refine take_ (i := 17) (N := some 153) (v := ?_) (a' := ?_) #[Y, Y, Y, Y, Y, Y, Y, Y, Y, Y, Y, Y, Y, Y, Y, N, Y, Y, N, N, N, N, N, N, N, N, N, N, N, N, N, N, N, N, N, N, N, N, N, N, N, N, N, N, N, N, N, N, N, N, N, N, N, N, N, N, N, N, N, N, N, N, N] rfl rfl (take_ofW HT_.out HW_.out (by kernel_rfl)) (fun _ _ _ h => h) (Or.inl ⟨by rfl, ?_⟩) hHeld ?_ ?_
                     rotate_left
                     ·rintro w' ⟨s0, s1, s2, s3, s4, s5, s6, s7, s8, s9, s10, s11, s12, s13, s14, s15, s16, s17⟩
                      go_simp
                      with_reducible rfl
                     rotate_left
                     ·simp only [Act.put, pa, pb, pc, i64_w, i32_w]
                      rfl
                     refine one_ (i := 15) (N := some 151) #[Y, Y, Y, Y, Y, Y, Y, Y, Y, Y, Y, Y, Y, Y, Y, Y, Y, Y, N, N, N, N, N, N, N, N, N, N, N, N, N, N, N, N, N, N, N, N, N, N, N, N, N, N, N, N, N, N, N, N, N, N, N, N, N, N, N, N, N, N, N, N, N] rfl rfl (one_of HT_.out (by kernel_rfl)) (by decide) (fun K hK => ?_)
                     refine goes_ Try.func12 (by kernel_rfl) rfl #[.int .i64 (wrap64 (t357 - t363))] (by rfl) rfl rfl (by first | rfl | (simp only [List.map_toArray, List.map_cons, List.map_nil]; rfl)) ?_
                     with_reducible refine (laws_lwAbs.calls (wrap64 (t357 - t363)) t376 _ A155.out).mono ?_
                     rintro e w' ⟨rfl, ⟨nd, rfl⟩⟩
                     refine ⟨_, rfl, ?_⟩
                     refine hK.out _ _ ⟨(blk_cell BK358.out 0).trans rfl, (blk_cell BK358.out 1).trans rfl, (blk_cell BK358.out 2).trans rfl, (blk_cell BK364.out 0).trans rfl, (blk_cell BK364.out 1).trans rfl, (blk_cell BK364.out 2).trans rfl, (blk_cell BK333.out 0).trans rfl, (blk_cell BK333.out 1).trans rfl, (blk_cell BK333.out 2).trans rfl, (blk_cell BK368.out 0).trans rfl, (blk_cell BK368.out 1).trans rfl, (blk_cell BK368.out 2).trans rfl, (blk_cell BK374.out 0).trans rfl, (blk_cell BK374.out 1).trans rfl, (blk_cell BK374.out 2).trans rfl, (blk_cell BK337.out 0).trans rfl, (blk_cell BK337.out 1).trans rfl, (blk_cell BK337.out 2).trans rfl⟩ (fun hHeld => ?_)
                     clear hK K
                     refine norm_ (a' := ?_) ?_ ?_
                     rotate_left
                     ·show Act.put _ (some 151) _ = _
                      simp only [Act.put, pa, pb, pc, i64_w, i32_w]
                      rfl
                     refine pure_ (i := 18) (N := some 154) (v := ?_) (a' := ?_) #[Y, Y, Y, Y, Y, Y, Y, Y, Y, Y, Y, Y, Y, Y, Y, Y, Y, Y, Y, N, N, N, N, N, N, N, N, N, N, N, N, N, N, N, N, N, N, N, N, N, N, N, N, N, N, N, N, N, N, N, N, N, N, N, N, N, N, N, N, N, N, N, N] rfl rfl (any_of HT_.out (by kernel_rfl)) (fun _ _ _ h => h) (Or.inl ⟨by rfl, ?_⟩) ?_ ?_
                     rotate_left
                     ·intro w'
                      go_simp
                      with_reducible rfl
                     rotate_left
                     ·simp only [Act.put, pa, pb, pc, i64_w, i32_w]
                      rfl
                     refine pure_ (i := 19) (N := some 155) (v := ?_) (a' := ?_) #[Y, Y, Y, Y, Y, Y, Y, Y, Y, Y, Y, Y, Y, Y, Y, Y, Y, Y, Y, Y, N, N, N, N, N, N, N, N, N, N, N, N, N, N, N, N, N, N, N, N, N, N, N, N, N, N, N, N, N, N, N, N, N, N, N, N, N, N, N, N, N, N, N] rfl rfl (any_of HT_.out (by kernel_rfl)) (fun _ _ _ h => h) (Or.inl ⟨by rfl, ?_⟩) ?_ ?_
                     rotate_left
                     ·intro w'
                      go_simp
                      with_reducible rfl
                     rotate_left
                     ·simp only [Act.put, pa, pb, pc, i64_w, i32_w]
                      rfl
                     refine pure_ (i := 20) (N := some 156) (v := ?_) (a' := ?_) #[Y, Y, Y, Y, Y, Y, Y, Y, Y, Y, Y, Y, Y, Y, Y, Y, Y, Y, Y, Y, Y, N, N, N, N, N, N, N, N, N, N, N, N, N, N, N, N, N, N, N, N, N, N, N, N, N, N, N, N, N, N, N, N, N, N, N, N, N, N, N, N, N, N] rfl rfl (any_of HT_.out (by kernel_rfl)) (fun _ _ _ h => h) (Or.inl ⟨by rfl, ?_⟩) ?_ ?_
                     rotate_left
                     ·intro w'
                      go_simp
                      with_reducible rfl
                     rotate_left
                     ·simp only [Act.put, pa, pb, pc, i64_w, i32_w]
                      rfl
                     refine pure_ (i := 21) (N := some 157) (v := ?_) (a' := ?_) #[Y, Y, Y, Y, Y, Y, Y, Y, Y, Y, Y, Y, Y, Y, Y, Y, Y, Y, Y, Y, Y, Y, N, N, N, N, N, N, N, N, N, N, N, N, N, N, N, N, N, N, N, N, N, N, N, N, N, N, N, N, N, N, N, N, N, N, N, N, N, N, N, N, N] rfl rfl (any_of HT_.out (by kernel_rfl)) (fun _ _ _ h => h) (Or.inl ⟨by rfl, ?_⟩) ?_ ?_
                     rotate_left
                     ·intro w'
                      go_simp
                      with_reducible rfl
                     rotate_left
                     ·simp only [Act.put, pa, pb, pc, i64_w, i32_w]
                      rfl
                     refine pure_ (i := 23) (N := some 159) (v := ?_) (a' := ?_) #[Y, Y, Y, Y, Y, Y, Y, Y, Y, Y, Y, Y, Y, Y, Y, Y, Y, Y, Y, Y, Y, Y, N, Y, N, N, N, N, N, N, N, N, N, N, N, N, N, N, N, N, N, N, N, N, N, N, N, N, N, N, N, N, N, N, N, N, N, N, N, N, N, N, N] rfl rfl (any_of HT_.out (by kernel_rfl)) (fun _ _ _ h => h) (Or.inl ⟨by rfl, ?_⟩) ?_ ?_
                     rotate_left
                     ·intro w'
                      go_simp
                      with_reducible rfl
                     rotate_left
                     ·simp only [Act.put, pa, pb, pc, i64_w, i32_w]
                      rfl
                     refine pure_ (i := 27) (N := some 163) (v := ?_) (a' := ?_) #[Y, Y, Y, Y, Y, Y, Y, Y, Y, Y, Y, Y, Y, Y, Y, Y, Y, Y, Y, Y, Y, Y, N, Y, N, N, N, Y, N, N, N, N, N, N, N, N, N, N, N, N, N, N, N, N, N, N, N, N, N, N, N, N, N, N, N, N, N, N, N, N, N, N, N] rfl rfl (any_of HT_.out (by kernel_rfl)) (fun _ _ _ h => h) (Or.inl ⟨by rfl, ?_⟩) ?_ ?_
                     rotate_left
                     ·intro w'
                      go_simp
                      with_reducible rfl
                     rotate_left
                     ·simp only [Act.put, pa, pb, pc, i64_w, i32_w]
                      rfl
                     refine take_ (i := 22) (N := some 158) (v := ?_) (a' := ?_) #[Y, Y, Y, Y, Y, Y, Y, Y, Y, Y, Y, Y, Y, Y, Y, Y, Y, Y, Y, Y, Y, Y, Y, Y, N, N, N, Y, N, N, N, N, N, N, N, N, N, N, N, N, N, N, N, N, N, N, N, N, N, N, N, N, N, N, N, N, N, N, N, N, N, N, N] rfl rfl (take_ofW HT_.out HW_.out (by kernel_rfl)) (fun _ _ _ h => h) (Or.inl ⟨by rfl, ?_⟩) hHeld ?_ ?_
                     rotate_left
                     ·rintro w' ⟨s0, s1, s2, s3, s4, s5, s6, s7, s8, s9, s10, s11, s12, s13, s14, s15, s16, s17⟩
                      go_simp
                      with_reducible rfl
                     rotate_left
                     ·simp only [Act.put, pa, pb, pc, i64_w, i32_w]
                      rfl
                     refine take_ (i := 24) (N := some 160) (v := ?_) (a' := ?_) #[Y, Y, Y, Y, Y, Y, Y, Y, Y, Y, Y, Y, Y, Y, Y, Y, Y, Y, Y, Y, Y, Y, Y, Y, Y, N, N, Y, N, N, N, N, N, N, N, N, N, N, N, N, N, N, N, N, N, N, N, N, N, N, N, N, N, N, N, N, N, N, N, N, N, N, N] rfl rfl (take_ofW HT_.out HW_.out (by kernel_rfl)) (fun _ _ _ h => h) (Or.inl ⟨by rfl, ?_⟩) hHeld ?_ ?_
                     rotate_left
                     ·rintro w' ⟨s0, s1, s2, s3, s4, s5, s6, s7, s8, s9, s10, s11, s12, s13, s14, s15, s16, s17⟩
                      go_simp
                      with_reducible rfl
                     rotate_left
                     ·simp only [Act.put, pa, pb, pc, i64_w, i32_w]
                      rfl
                     refine pure_ (i := 25) (N := some 161) (v := ?_) (a' := ?_) #[Y, Y, Y, Y, Y, Y, Y, Y, Y, Y, Y, Y, Y, Y, Y, Y, Y, Y, Y, Y, Y, Y, Y, Y, Y, Y, N, Y, N, N, N, N, N, N, N, N, N, N, N, N, N, N, N, N, N, N, N, N, N, N, N, N, N, N, N, N, N, N, N, N, N, N, N] rfl rfl (any_of HT_.out (by kernel_rfl)) (fun _ _ _ h => h) (Or.inl ⟨by rfl, ?_⟩) ?_ ?_
                     rotate_left
                     ·intro w'
                      go_simp
                      with_reducible rfl
                     rotate_left
                     ·simp only [Act.put, pa, pb, pc, i64_w, i32_w]
                      rfl
                     refine take_ (i := 28) (N := some 164) (v := ?_) (a' := ?_) #[Y, Y, Y, Y, Y, Y, Y, Y, Y, Y, Y, Y, Y, Y, Y, Y, Y, Y, Y, Y, Y, Y, Y, Y, Y, Y, N, Y, Y, N, N, N, N, N, N, N, N, N, N, N, N, N, N, N, N, N, N, N, N, N, N, N, N, N, N, N, N, N, N, N, N, N, N] rfl rfl (take_ofW HT_.out HW_.out (by kernel_rfl)) (fun _ _ _ h => h) (Or.inl ⟨by rfl, ?_⟩) hHeld ?_ ?_
                     rotate_left
                     ·rintro w' ⟨s0, s1, s2, s3, s4, s5, s6, s7, s8, s9, s10, s11, s12, s13, s14, s15, s16, s17⟩
                      go_simp
                      with_reducible rfl
                     rotate_left
                     ·simp only [Act.put, pa, pb, pc, i64_w, i32_w]
                      rfl
                     refine one_ (i := 26) (N := some 162) #[Y, Y, Y, Y, Y, Y, Y, Y, Y, Y, Y, Y, Y, Y, Y, Y, Y, Y, Y, Y, Y, Y, Y, Y, Y, Y, Y, Y, Y, N, N, N, N, N, N, N, N, N, N, N, N, N, N, N, N, N, N, N, N, N, N, N, N, N, N, N, N, N, N, N, N, N, N] rfl rfl (one_of HT_.out (by kernel_rfl)) (by decide) (fun K hK => ?_)
                     refine goes_ Try.func12 (by kernel_rfl) rfl #[.int .i64 (wrap64 (t366 - t372))] (by rfl) rfl rfl (by first | rfl | (simp only [List.map_toArray, List.map_cons, List.map_nil]; rfl)) ?_
                     with_reducible refine (laws_lwAbs.calls (wrap64 (t366 - t372)) t377 _ A157.out).mono ?_
                     rintro e w' ⟨rfl, ⟨nd, rfl⟩⟩
                     refine ⟨_, rfl, ?_⟩
                     refine hK.out _ _ ⟨(blk_cell BK358.out 0).trans rfl, (blk_cell BK358.out 1).trans rfl, (blk_cell BK358.out 2).trans rfl, (blk_cell BK364.out 0).trans rfl, (blk_cell BK364.out 1).trans rfl, (blk_cell BK364.out 2).trans rfl, (blk_cell BK333.out 0).trans rfl, (blk_cell BK333.out 1).trans rfl, (blk_cell BK333.out 2).trans rfl, (blk_cell BK368.out 0).trans rfl, (blk_cell BK368.out 1).trans rfl, (blk_cell BK368.out 2).trans rfl, (blk_cell BK374.out 0).trans rfl, (blk_cell BK374.out 1).trans rfl, (blk_cell BK374.out 2).trans rfl, (blk_cell BK337.out 0).trans rfl, (blk_cell BK337.out 1).trans rfl, (blk_cell BK337.out 2).trans rfl⟩ (fun hHeld => ?_)
                     clear hK K
                     refine norm_ (a' := ?_) ?_ ?_
                     rotate_left
                     ·show Act.put _ (some 162) _ = _
                      simp only [Act.put, pa, pb, pc, i64_w, i32_w]
                      rfl
                     refine pure_ (i := 29) (N := some 165) (v := ?_) (a' := ?_) #[Y, Y, Y, Y, Y, Y, Y, Y, Y, Y, Y, Y, Y, Y, Y, Y, Y, Y, Y, Y, Y, Y, Y, Y, Y, Y, Y, Y, Y, Y, N, N, N, N, N, N, N, N, N, N, N, N, N, N, N, N, N, N, N, N, N, N, N, N, N, N, N, N, N, N, N, N, N] rfl rfl (any_of HT_.out (by kernel_rfl)) (fun _ _ _ h => h) (Or.inl ⟨by rfl, ?_⟩) ?_ ?_
                     rotate_left
                     ·intro w'
                      go_simp
                      with_reducible rfl
                     rotate_left
                     ·simp only [Act.put, pa, pb, pc, i64_w, i32_w]
                      rfl
                     refine pure_ (i := 30) (N := some 166) (v := ?_) (a' := ?_) #[Y, Y, Y, Y, Y, Y, Y, Y, Y, Y, Y, Y, Y, Y, Y, Y, Y, Y, Y, Y, Y, Y, Y, Y, Y, Y, Y, Y, Y, Y, Y, N, N, N, N, N, N, N, N, N, N, N, N, N, N, N, N, N, N, N, N, N, N, N, N, N, N, N, N, N, N, N, N] rfl rfl (any_of HT_.out (by kernel_rfl)) (fun _ _ _ h => h) (Or.inl ⟨by rfl, ?_⟩) ?_ ?_
                     rotate_left
                     ·intro w'
                      go_simp
                      with_reducible rfl
                     rotate_left
                     ·simp only [Act.put, pa, pb, pc, i64_w, i32_w]
                      rfl
                     refine pure_ (i := 31) (N := some 167) (v := ?_) (a' := ?_) #[Y, Y, Y, Y, Y, Y, Y, Y, Y, Y, Y, Y, Y, Y, Y, Y, Y, Y, Y, Y, Y, Y, Y, Y, Y, Y, Y, Y, Y, Y, Y, Y, N, N, N, N, N, N, N, N, N, N, N, N, N, N, N, N, N, N, N, N, N, N, N, N, N, N, N, N, N, N, N] rfl rfl (any_of HT_.out (by kernel_rfl)) (fun _ _ _ h => h) (Or.inl ⟨by rfl, ?_⟩) ?_ ?_
                     rotate_left
                     ·intro w'
                      go_simp
                      with_reducible rfl
                     rotate_left
                     ·simp only [Act.put, pa, pb, pc, i64_w, i32_w]
                      rfl
                     refine pure_ (i := 32) (N := some 168) (v := ?_) (a' := ?_) #[Y, Y, Y, Y, Y, Y, Y, Y, Y, Y, Y, Y, Y, Y, Y, Y, Y, Y, Y, Y, Y, Y, Y, Y, Y, Y, Y, Y, Y, Y, Y, Y, Y, N, N, N, N, N, N, N, N, N, N, N, N, N, N, N, N, N, N, N, N, N, N, N, N, N, N, N, N, N, N] rfl rfl (any_of HT_.out (by kernel_rfl)) (fun _ _ _ h => h) (Or.inl ⟨by rfl, ?_⟩) ?_ ?_
                     rotate_left
                     ·intro w'
                      go_simp
                      with_reducible rfl
                     rotate_left
                     ·simp only [Act.put, pa, pb, pc, i64_w, i32_w]
                      rfl
                     refine pure_ (i := 34) (N := some 170) (v := ?_) (a' := ?_) #[Y, Y, Y, Y, Y, Y, Y, Y, Y, Y, Y, Y, Y, Y, Y, Y, Y, Y, Y, Y, Y, Y, Y, Y, Y, Y, Y, Y, Y, Y, Y, Y, Y, N, Y, N, N, N, N, N, N, N, N, N, N, N, N, N, N, N, N, N, N, N, N, N, N, N, N, N, N, N, N] rfl rfl (any_of HT_.out (by kernel_rfl)) (fun _ _ _ h => h) (Or.inl ⟨by rfl, ?_⟩) ?_ ?_
                     rotate_left
                     ·intro w'
                      go_simp
                      with_reducible rfl
                     rotate_left
                     ·simp only [Act.put, pa, pb, pc, i64_w, i32_w]
                      rfl
                     refine pure_ (i := 38) (N := some 174) (v := ?_) (a' := ?_) #[Y, Y, Y, Y, Y, Y, Y, Y, Y, Y, Y, Y, Y, Y, Y, Y, Y, Y, Y, Y, Y, Y, Y, Y, Y, Y, Y, Y, Y, Y, Y, Y, Y, N, Y, N, N, N, Y, N, N, N, N, N, N, N, N, N, N, N, N, N, N, N, N, N, N, N, N, N, N, N, N] rfl rfl (any_of HT_.out (by kernel_rfl)) (fun _ _ _ h => h) (Or.inl ⟨by rfl, ?_⟩) ?_ ?_
                     rotate_left
                     ·intro w'
                      go_simp
                      with_reducible rfl
                     rotate_left
                     ·simp only [Act.put, pa, pb, pc, i64_w, i32_w]
                      rfl
                     refine take_ (i := 33) (N := some 169) (v := ?_) (a' := ?_) #[Y, Y, Y, Y, Y, Y, Y, Y, Y, Y, Y, Y, Y, Y, Y, Y, Y, Y, Y, Y, Y, Y, Y, Y, Y, Y, Y, Y, Y, Y, Y, Y, Y, Y, Y, N, N, N, Y, N, N, N, N, N, N, N, N, N, N, N, N, N, N, N, N, N, N, N, N, N, N, N, N] rfl rfl (take_ofW HT_.out HW_.out (by kernel_rfl)) (fun _ _ _ h => h) (Or.inl ⟨by rfl, ?_⟩) hHeld ?_ ?_
                     rotate_left
                     ·rintro w' ⟨s0, s1, s2, s3, s4, s5, s6, s7, s8, s9, s10, s11, s12, s13, s14, s15, s16, s17⟩
                      go_simp
                      with_reducible rfl
                     rotate_left
                     ·simp only [Act.put, pa, pb, pc, i64_w, i32_w]
                      rfl
                     refine take_ (i := 35) (N := some 171) (v := ?_) (a' := ?_) #[Y, Y, Y, Y, Y, Y, Y, Y, Y, Y, Y, Y, Y, Y, Y, Y, Y, Y, Y, Y, Y, Y, Y, Y, Y, Y, Y, Y, Y, Y, Y, Y, Y, Y, Y, Y, N, N, Y, N, N, N, N, N, N, N, N, N, N, N, N, N, N, N, N, N, N, N, N, N, N, N, N] rfl rfl (take_ofW HT_.out HW_.out (by kernel_rfl)) (fun _ _ _ h => h) (Or.inl ⟨by rfl, ?_⟩) hHeld ?_ ?_
                     rotate_left
                     ·rintro w' ⟨s0, s1, s2, s3, s4, s5, s6, s7, s8, s9, s10, s11, s12, s13, s14, s15, s16, s17⟩
                      go_simp
                      with_reducible rfl
                     rotate_left
                     ·simp only [Act.put, pa, pb, pc, i64_w, i32_w]
                      rfl
                     refine pure_ (i := 36) (N := some 172) (v := ?_) (a' := ?_) #[Y, Y, Y, Y, Y, Y, Y, Y, Y, Y, Y, Y, Y, Y, Y, Y, Y, Y, Y, Y, Y, Y, Y, Y, Y, Y, Y, Y, Y, Y, Y, Y, Y, Y, Y, Y, Y, N, Y, N, N, N, N, N, N, N, N, N, N, N, N, N, N, N, N, N, N, N, N, N, N, N, N] rfl rfl (any_of HT_.out (by kernel_rfl)) (fun _ _ _ h => h) (Or.inl ⟨by rfl, ?_⟩) ?_ ?_
                     rotate_left
                     ·intro w'
                      go_simp
                      with_reducible rfl
                     rotate_left
                     ·simp only [Act.put, pa, pb, pc, i64_w, i32_w]
                      rfl
                     refine take_ (i := 39) (N := some 175) (v := ?_) (a' := ?_) #[Y, Y, Y, Y, Y, Y, Y, Y, Y, Y, Y, Y, Y, Y, Y, Y, Y, Y, Y, Y, Y, Y, Y, Y, Y, Y, Y, Y, Y, Y, Y, Y, Y, Y, Y, Y, Y, N, Y, Y, N, N, N, N, N, N, N, N, N, N, N, N, N, N, N, N, N, N, N, N, N, N, N] rfl rfl (take_ofW HT_.out HW_.out (by kernel_rfl)) (fun _ _ _ h => h) (Or.inl ⟨by rfl, ?_⟩) hHeld ?_ ?_
                     rotate_left
                     ·rintro w' ⟨s0, s1, s2, s3, s4, s5, s6, s7, s8, s9, s10, s11, s12, s13, s14, s15, s16, s17⟩
                      go_simp
                      with_reducible rfl
                     rotate_left
                     ·simp only [Act.put, pa, pb, pc, i64_w, i32_w]
                      rfl
                     refine one_ (i := 37) (N := some 173) #[Y, Y, Y, Y, Y, Y, Y, Y, Y, Y, Y, Y, Y, Y, Y, Y, Y, Y, Y, Y, Y, Y, Y, Y, Y, Y, Y, Y, Y, Y, Y, Y, Y, Y, Y, Y, Y, Y, Y, Y, N, N, N, N, N, N, N, N, N, N, N, N, N, N, N, N, N, N, N, N, N, N, N] rfl rfl (one_of HT_.out (by kernel_rfl)) (by decide) (fun K hK => ?_)
                     refine goes_ Try.func12 (by kernel_rfl) rfl #[.int .i64 (wrap64 (t367 - t373))] (by rfl) rfl rfl (by first | rfl | (simp only [List.map_toArray, List.map_cons, List.map_nil]; rfl)) ?_
                     with_reducible refine (laws_lwAbs.calls (wrap64 (t367 - t373)) t378 _ A159.out).mono ?_
                     rintro e w' ⟨rfl, ⟨nd, rfl⟩⟩
                     refine ⟨_, rfl, ?_⟩
                     refine hK.out _ _ ⟨(blk_cell BK358.out 0).trans rfl, (blk_cell BK358.out 1).trans rfl, (blk_cell BK358.out 2).trans rfl, (blk_cell BK364.out 0).trans rfl, (blk_cell BK364.out 1).trans rfl, (blk_cell BK364.out 2).trans rfl, (blk_cell BK333.out 0).trans rfl, (blk_cell BK333.out 1).trans rfl, (blk_cell BK333.out 2).trans rfl, (blk_cell BK368.out 0).trans rfl, (blk_cell BK368.out 1).trans rfl, (blk_cell BK368.out 2).trans rfl, (blk_cell BK374.out 0).trans rfl, (blk_cell BK374.out 1).trans rfl, (blk_cell BK374.out 2).trans rfl, (blk_cell BK337.out 0).trans rfl, (blk_cell BK337.out 1).trans rfl, (blk_cell BK337.out 2).trans rfl⟩ (fun hHeld => ?_)
                     clear hK K
                     refine norm_ (a' := ?_) ?_ ?_
                     rotate_left
                     ·show Act.put _ (some 173) _ = _
                      simp only [Act.put, pa, pb, pc, i64_w, i32_w]
                      rfl
                     refine pure_ (i := 40) (N := some 176) (v := ?_) (a' := ?_) #[Y, Y, Y, Y, Y, Y, Y, Y, Y, Y, Y, Y, Y, Y, Y, Y, Y, Y, Y, Y, Y, Y, Y, Y, Y, Y, Y, Y, Y, Y, Y, Y, Y, Y, Y, Y, Y, Y, Y, Y, Y, N, N, N, N, N, N, N, N, N, N, N, N, N, N, N, N, N, N, N, N, N, N] rfl rfl (any_of HT_.out (by kernel_rfl)) (fun _ _ _ h => h) (Or.inl ⟨by rfl, ?_⟩) ?_ ?_
                     rotate_left
                     ·intro w'
                      go_simp
                      with_reducible rfl
                     rotate_left
                     ·simp only [Act.put, pa, pb, pc, i64_w, i32_w]
                      rfl
                     refine pure_ (i := 41) (N := some 177) (v := ?_) (a' := ?_) #[Y, Y, Y, Y, Y, Y, Y, Y, Y, Y, Y, Y, Y, Y, Y, Y, Y, Y, Y, Y, Y, Y, Y, Y, Y, Y, Y, Y, Y, Y, Y, Y, Y, Y, Y, Y, Y, Y, Y, Y, Y, Y, N, N, N, N, N, N, N, N, N, N, N, N, N, N, N, N, N, N, N, N, N] rfl rfl (any_of HT_.out (by kernel_rfl)) (fun _ _ _ h => h) (Or.inl ⟨by rfl, ?_⟩) ?_ ?_
                     rotate_left
                     ·intro w'
                      go_simp
                      with_reducible rfl
                     rotate_left
                     ·simp only [Act.put, pa, pb, pc, i64_w, i32_w]
                      rfl
                     refine pure_ (i := 42) (N := some 178) (v := ?_) (a' := ?_) #[Y, Y, Y, Y, Y, Y, Y, Y, Y, Y, Y, Y, Y, Y, Y, Y, Y, Y, Y, Y, Y, Y, Y, Y, Y, Y, Y, Y, Y, Y, Y, Y, Y, Y, Y, Y, Y, Y, Y, Y, Y, Y, Y, N, N, N, N, N, N, N, N, N, N, N, N, N, N, N, N, N, N, N, N] rfl rfl (any_of HT_.out (by kernel_rfl)) (fun _ _ _ h => h) (Or.inl ⟨by rfl, ?_⟩) ?_ ?_
                     rotate_left
                     ·intro w'
                      go_simp
                      with_reducible rfl
                     rotate_left
                     ·simp only [Act.put, pa, pb, pc, i64_w, i32_w]
                      rfl
                     refine pure_ (i := 43) (N := some 179) (v := ?_) (a' := ?_) #[Y, Y, Y, Y, Y, Y, Y, Y, Y, Y, Y, Y, Y, Y, Y, Y, Y, Y, Y, Y, Y, Y, Y, Y, Y, Y, Y, Y, Y, Y, Y, Y, Y, Y, Y, Y, Y, Y, Y, Y, Y, Y, Y, Y, N, N, N, N, N, N, N, N, N, N, N, N, N, N, N, N, N, N, N] rfl rfl (any_of HT_.out (by kernel_rfl)) (fun _ _ _ h => h) (Or.inl ⟨by rfl, ?_⟩) ?_ ?_
                     rotate_left
                     ·intro w'
                      go_simp
                      with_reducible rfl
                     rotate_left
                     ·simp only [Act.put, pa, pb, pc, i64_w, i32_w]
                      rfl
                     refine pure_ (i := 45) (N := some 181) (v := ?_) (a' := ?_) #[Y, Y, Y, Y, Y, Y, Y, Y, Y, Y, Y, Y, Y, Y, Y, Y, Y, Y, Y, Y, Y, Y, Y, Y, Y, Y, Y, Y, Y, Y, Y, Y, Y, Y, Y, Y, Y, Y, Y, Y, Y, Y, Y, Y, N, Y, N, N, N, N, N, N, N, N, N, N, N, N, N, N, N, N, N] rfl rfl (any_of HT_.out (by kernel_rfl)) (fun _ _ _ h => h) (Or.inl ⟨by rfl, ?_⟩) ?_ ?_
                     rotate_left
                     ·intro w'
                      go_simp
                      with_reducible rfl
                     rotate_left
                     ·simp only [Act.put, pa, pb, pc, i64_w, i32_w]
                      rfl
                     refine pure_ (i := 46) (N := some 182) (v := ?_) (a' := ?_) #[Y, Y, Y, Y, Y, Y, Y, Y, Y, Y, Y, Y, Y, Y, Y, Y, Y, Y, Y, Y, Y, Y, Y, Y, Y, Y, Y, Y, Y, Y, Y, Y, Y, Y, Y, Y, Y, Y, Y, Y, Y, Y, Y, Y, N, Y, Y, N, N, N, N, N, N, N, N, N, N, N, N, N, N, N, N] rfl rfl (any_of HT_.out (by kernel_rfl)) (fun _ _ _ h => h) (Or.inl ⟨by rfl, ?_⟩) ?_ ?_
                     rotate_left
                     ·intro w'
                      go_simp
                      with_reducible rfl
                     rotate_left
                     ·simp only [Act.put, pa, pb, pc, i64_w, i32_w]
                      rfl
                     refine pure_ (i := 47) (N := some 183) (v := ?_) (a' := ?_) #[Y, Y, Y, Y, Y, Y, Y, Y, Y, Y, Y, Y, Y, Y, Y, Y, Y, Y, Y, Y, Y, Y, Y, Y, Y, Y, Y, Y, Y, Y, Y, Y, Y, Y, Y, Y, Y, Y, Y, Y, Y, Y, Y, Y, N, Y, Y, Y, N, N, N, N, N, N, N, N, N, N, N, N, N, N, N] rfl rfl (any_of HT_.out (by kernel_rfl)) (fun _ _ _ h => h) (Or.inl ⟨by rfl, ?_⟩) ?_ ?_
                     rotate_left
                     ·intro w'
                      go_simp
                      with_reducible rfl
                     rotate_left
                     ·simp only [Act.put, pa, pb, pc, i64_w, i32_w]
                      rfl
                     refine pure_ (i := 48) (N := some 184) (v := ?_) (a' := ?_) #[Y, Y, Y, Y, Y, Y, Y, Y, Y, Y, Y, Y, Y, Y, Y, Y, Y, Y, Y, Y, Y, Y, Y, Y, Y, Y, Y, Y, Y, Y, Y, Y, Y, Y, Y, Y, Y, Y, Y, Y, Y, Y, Y, Y, N, Y, Y, Y, Y, N, N, N, N, N, N, N, N, N, N, N, N, N, N] rfl rfl (any_of HT_.out (by kernel_rfl)) (fun _ _ _ h => h) (Or.inl ⟨by rfl, ?_⟩) ?_ ?_
                     rotate_left
                     ·intro w'
                      go_simp
                      with_reducible rfl
                     rotate_left
                     ·simp only [Act.put, pa, pb, pc, i64_w, i32_w]
                      rfl
                     refine take_ (i := 44) (N := some 180) (v := ?_) (a' := ?_) #[Y, Y, Y, Y, Y, Y, Y, Y, Y, Y, Y, Y, Y, Y, Y, Y, Y, Y, Y, Y, Y, Y, Y, Y, Y, Y, Y, Y, Y, Y, Y, Y, Y, Y, Y, Y, Y, Y, Y, Y, Y, Y, Y, Y, Y, Y, Y, Y, Y, N, N, N, N, N, N, N, N, N, N, N, N, N, N] rfl rfl (take_ofW HT_.out HW_.out (by kernel_rfl)) (fun _ _ _ h => h) (Or.inl ⟨by rfl, ?_⟩) hHeld ?_ ?_
                     rotate_left
                     ·rintro w' ⟨s0, s1, s2, s3, s4, s5, s6, s7, s8, s9, s10, s11, s12, s13, s14, s15, s16, s17⟩
                      go_simp
                      with_reducible rfl
                     rotate_left
                     ·simp only [Act.put, pa, pb, pc, i64_w, i32_w]
                      rfl
                     refine one_ (i := 49) (N := some 185) #[Y, Y, Y, Y, Y, Y, Y, Y, Y, Y, Y, Y, Y, Y, Y, Y, Y, Y, Y, Y, Y, Y, Y, Y, Y, Y, Y, Y, Y, Y, Y, Y, Y, Y, Y, Y, Y, Y, Y, Y, Y, Y, Y, Y, Y, Y, Y, Y, Y, Y, N, N, N, N, N, N, N, N, N, N, N, N, N] rfl rfl (one_of HT_.out (by kernel_rfl)) (by decide) (fun K hK => ?_)
                     refine goes_ Try.func9 (by kernel_rfl) rfl #[.int .i64 t322, .int .i64 t323, .int .i64 t328, .int .i64 t329] (by rfl) rfl rfl (by first | rfl | (simp only [List.map_toArray, List.map_cons, List.map_nil]; rfl)) ?_
                     with_reducible refine (spec_TurnBounds.calls t322 t323 t328 t329 t379 t380 t381 _ A161.out).mono ?_
                     rintro e w165 ⟨rfl, hb⟩
                     refine ⟨_, rfl, ?_⟩
                     have n0_ := Aside0.mk (blk_below (g := gb333) (o := .cells #[.int .i64 t330, .int .i64 t331, .int .i64 t332] 27 (0, 0)) (by (with_reducible repeat (first | refine blk_drewN ?_ _ | refine blk_drew ?_ | refine blk_alloc ?_ _)); exact BK333.out) hb)
                     have n1_ := Aside0.mk (blk_below (g := gb337) (o := .cells #[.int .i64 t334, .int .i64 t335, .int .i64 t336] 27 (0, 0)) (by (with_reducible repeat (first | refine blk_drewN ?_ _ | refine blk_drew ?_ | refine blk_alloc ?_ _)); exact BK337.out) hb)
                     have n2_ := Aside0.mk (blk_below (g := gb358) (o := .cells #[.int .i64 t355, .int .i64 t356, .int .i64 t357] 27 (0, 0)) (by (with_reducible repeat (first | refine blk_drewN ?_ _ | refine blk_drew ?_ | refine blk_alloc ?_ _)); exact BK358.out) hb)
                     have n3_ := Aside0.mk (blk_below (g := gb364) (o := .cells #[.int .i64 t361, .int .i64 t362, .int .i64 t363] 27 (0, 0)) (by (with_reducible repeat (first | refine blk_drewN ?_ _ | refine blk_drew ?_ | refine blk_alloc ?_ _)); exact BK364.out) hb)
                     have n4_ := Aside0.mk (blk_below (g := gb368) (o := .cells #[.int .i64 t365, .int .i64 t366, .int .i64 t367] 27 (0, 0)) (by (with_reducible repeat (first | refine blk_drewN ?_ _ | refine blk_drew ?_ | refine blk_alloc ?_ _)); exact BK368.out) hb)
                     have n5_ := Aside0.mk (blk_below (g := gb374) (o := .cells #[.int .i64 t371, .int .i64 t372, .int .i64 t373] 27 (0, 0)) (by (with_reducible repeat (first | refine blk_drewN ?_ _ | refine blk_drew ?_ | refine blk_alloc ?_ _)); exact BK374.out) hb)
                     have n6_ := Aside0.mk (below_step (by repeat (first | (with_reducible first | exact HB.out | apply below_alloc | apply pw_below_drewN | apply below_drew1 | refine below_set ?_ GE333.out | refine below_set ?_ GE337.out | refine below_set ?_ GE358.out | refine below_set ?_ GE364.out | refine below_set ?_ GE368.out | refine below_set ?_ GE374.out) | exact HB.out)) hb)
                     clear BK333
                     clear BK337
                     clear BK358
                     clear BK364
                     clear BK368
                     clear BK374
                     clear HB
                     have BK333 := n0_
                     have BK337 := n1_
                     have BK358 := n2_
                     have BK364 := n3_
                     have BK368 := n4_
                     have BK374 := n5_
                     have HB := n6_
                     clear n0_ n1_ n2_ n3_ n4_ n5_ n6_
                     (try clear hb)
                     (try clear hb2)
                     (try clear hk)
                     (try clear hi)
                     refine hK.out _ _ ⟨(blk_cell BK358.out 0).trans rfl, (blk_cell BK358.out 1).trans rfl, (blk_cell BK358.out 2).trans rfl, (blk_cell BK364.out 0).trans rfl, (blk_cell BK364.out 1).trans rfl, (blk_cell BK364.out 2).trans rfl, (blk_cell BK333.out 0).trans rfl, (blk_cell BK333.out 1).trans rfl, (blk_cell BK333.out 2).trans rfl, (blk_cell BK368.out 0).trans rfl, (blk_cell BK368.out 1).trans rfl, (blk_cell BK368.out 2).trans rfl, (blk_cell BK374.out 0).trans rfl, (blk_cell BK374.out 1).trans rfl, (blk_cell BK374.out 2).trans rfl, (blk_cell BK337.out 0).trans rfl, (blk_cell BK337.out 1).trans rfl, (blk_cell BK337.out 2).trans rfl⟩ (fun hHeld => ?_)
                     clear hK K
                     refine norm_ (a' := ?_) ?_ ?_
                     rotate_left
                     ·show Act.put _ (some 185) _ = _
                      simp only [Act.put, pa, pb, pc, i64_w, i32_w]
                      rfl
                     refine pure_ (i := 50) (N := some 186) (v := ?_) (a' := ?_) #[Y, Y, Y, Y, Y, Y, Y, Y, Y, Y, Y, Y, Y, Y, Y, Y, Y, Y, Y, Y, Y, Y, Y, Y, Y, Y, Y, Y, Y, Y, Y, Y, Y, Y, Y, Y, Y, Y, Y, Y, Y, Y, Y, Y, Y, Y, Y, Y, Y, Y, Y, N, N, N, N, N, N, N, N, N, N, N, N] rfl rfl (any_of HT_.out (by kernel_rfl)) (fun _ _ _ h => h) (Or.inl ⟨by rfl, ?_⟩) ?_ ?_
                     rotate_left
                     ·intro w'
                      go_simp
                      with_reducible rfl
                     rotate_left
                     ·simp only [Act.put, pa, pb, pc, i64_w, i32_w]
                      rfl
                     refine pure_ (i := 51) (N := some 187) (v := ?_) (a' := ?_) #[Y, Y, Y, Y, Y, Y, Y, Y, Y, Y, Y, Y, Y, Y, Y, Y, Y, Y, Y, Y, Y, Y, Y, Y, Y, Y, Y, Y, Y, Y, Y, Y, Y, Y, Y, Y, Y, Y, Y, Y, Y, Y, Y, Y, Y, Y, Y, Y, Y, Y, Y, Y, N, N, N, N, N, N, N, N, N, N, N] rfl rfl (any_of HT_.out (by kernel_rfl)) (fun _ _ _ h => h) (Or.inl ⟨by rfl, ?_⟩) ?_ ?_
                     rotate_left
                     ·intro w'
                      go_simp
                      with_reducible rfl
                     rotate_left
                     ·simp only [Act.put, pa, pb, pc, i64_w, i32_w]
                      rfl
                     refine pure_ (i := 52) (N := some 188) (v := ?_) (a' := ?_) #[Y, Y, Y, Y, Y, Y, Y, Y, Y, Y, Y, Y, Y, Y, Y, Y, Y, Y, Y, Y, Y, Y, Y, Y, Y, Y, Y, Y, Y, Y, Y, Y, Y, Y, Y, Y, Y, Y, Y, Y, Y, Y, Y, Y, Y, Y, Y, Y, Y, Y, Y, Y, Y, N, N, N, N, N, N, N, N, N, N] rfl rfl (any_of HT_.out (by kernel_rfl)) (fun _ _ _ h => h) (Or.inl ⟨by rfl, ?_⟩) ?_ ?_
                     rotate_left
                     ·intro w'
                      go_simp
                      with_reducible rfl
                     rotate_left
                     ·simp only [Act.put, pa, pb, pc, i64_w, i32_w]
                      rfl
                     refine pure_ (i := 53) (N := some 189) (v := ?_) (a' := ?_) #[Y, Y, Y, Y, Y, Y, Y, Y, Y, Y, Y, Y, Y, Y, Y, Y, Y, Y, Y, Y, Y, Y, Y, Y, Y, Y, Y, Y, Y, Y, Y, Y, Y, Y, Y, Y, Y, Y, Y, Y, Y, Y, Y, Y, Y, Y, Y, Y, Y, Y, Y, Y, Y, Y, N, N, N, N, N, N, N, N, N] rfl rfl (any_of HT_.out (by kernel_rfl)) (fun _ _ _ h => h) (Or.inl ⟨by rfl, ?_⟩) ?_ ?_
                     rotate_left
                     ·intro w'
                      go_simp
                      with_reducible rfl
                     rotate_left
                     ·simp only [Act.put, pa, pb, pc, i64_w, i32_w]
                      rfl
                     refine pure_ (i := 54) (N := some 190) (v := ?_) (a' := ?_) #[Y, Y, Y, Y, Y, Y, Y, Y, Y, Y, Y, Y, Y, Y, Y, Y, Y, Y, Y, Y, Y, Y, Y, Y, Y, Y, Y, Y, Y, Y, Y, Y, Y, Y, Y, Y, Y, Y, Y, Y, Y, Y, Y, Y, Y, Y, Y, Y, Y, Y, Y, Y, Y, Y, Y, N, N, N, N, N, N, N, N] rfl rfl (any_of HT_.out (by kernel_rfl)) (fun _ _ _ h => h) (Or.inl ⟨by rfl, ?_⟩) ?_ ?_
                     rotate_left
                     ·intro w'
                      go_simp
                      with_reducible rfl
                     rotate_left
                     ·simp only [Act.put, pa, pb, pc, i64_w, i32_w]
                      rfl
                     refine pure_ (i := 56) (N := some 192) (v := ?_) (a' := ?_) #[Y, Y, Y, Y, Y, Y, Y, Y, Y, Y, Y, Y, Y, Y, Y, Y, Y, Y, Y, Y, Y, Y, Y, Y, Y, Y, Y, Y, Y, Y, Y, Y, Y, Y, Y, Y, Y, Y, Y, Y, Y, Y, Y, Y, Y, Y, Y, Y, Y, Y, Y, Y, Y, Y, Y, N, Y, N, N, N, N, N, N] rfl rfl (any_of HT_.out (by kernel_rfl)) (fun _ _ _ h => h) (Or.inl ⟨by rfl, ?_⟩) ?_ ?_
                     rotate_left
                     ·intro w'
                      go_simp
                      with_reducible rfl
                     rotate_left
                     ·simp only [Act.put, pa, pb, pc, i64_w, i32_w]
                      rfl
                     refine pure_ (i := 57) (N := some 193) (v := ?_) (a' := ?_) #[Y, Y, Y, Y, Y, Y, Y, Y, Y, Y, Y, Y, Y, Y, Y, Y, Y, Y, Y, Y, Y, Y, Y, Y, Y, Y, Y, Y, Y, Y, Y, Y, Y, Y, Y, Y, Y, Y, Y, Y, Y, Y, Y, Y, Y, Y, Y, Y, Y, Y, Y, Y, Y, Y, Y, N, Y, Y, N, N, N, N, N] rfl rfl (any_of HT_.out (by kernel_rfl)) (fun _ _ _ h => h) (Or.inl ⟨by rfl, ?_⟩) ?_ ?_
                     rotate_left
                     ·intro w'
                      go_simp
                      with_reducible rfl
                     rotate_left
                     ·simp only [Act.put, pa, pb, pc, i64_w, i32_w]
                      rfl
                     refine take_ (i := 55) (N := some 191) (v := ?_) (a' := ?_) #[Y, Y, Y, Y, Y, Y, Y, Y, Y, Y, Y, Y, Y, Y, Y, Y, Y, Y, Y, Y, Y, Y, Y, Y, Y, Y, Y, Y, Y, Y, Y, Y, Y, Y, Y, Y, Y, Y, Y, Y, Y, Y, Y, Y, Y, Y, Y, Y, Y, Y, Y, Y, Y, Y, Y, Y, Y, Y, N, N, N, N, N] rfl rfl (take_ofW HT_.out HW_.out (by kernel_rfl)) (fun _ _ _ h => h) (Or.inl ⟨by rfl, ?_⟩) hHeld ?_ ?_
                     rotate_left
                     ·rintro w' ⟨s0, s1, s2, s3, s4, s5, s6, s7, s8, s9, s10, s11, s12, s13, s14, s15, s16, s17⟩
                      go_simp
                      with_reducible rfl
                     rotate_left
                     ·simp only [Act.put, pa, pb, pc, i64_w, i32_w]
                      rfl
                     refine one_ (i := 58) (N := some 194) #[Y, Y, Y, Y, Y, Y, Y, Y, Y, Y, Y, Y, Y, Y, Y, Y, Y, Y, Y, Y, Y, Y, Y, Y, Y, Y, Y, Y, Y, Y, Y, Y, Y, Y, Y, Y, Y, Y, Y, Y, Y, Y, Y, Y, Y, Y, Y, Y, Y, Y, Y, Y, Y, Y, Y, Y, Y, Y, Y, N, N, N, N] rfl rfl (one_of HT_.out (by kernel_rfl)) (by decide) (fun K hK => ?_)
                     refine goes_ Try.func10 (by kernel_rfl) rfl #[.int .i64 t328, .int .i64 t329] (by rfl) rfl rfl (by first | rfl | (simp only [List.map_toArray, List.map_cons, List.map_nil]; rfl)) ?_
                     with_reducible refine (spec_PartBounds.calls t328 t329 t382 t383 t384 _ A163.out).mono ?_
                     rintro e w166 ⟨rfl, hb⟩
                     refine ⟨_, rfl, ?_⟩
                     have n0_ := Aside0.mk (blk_below (g := gb333) (o := .cells #[.int .i64 t330, .int .i64 t331, .int .i64 t332] 27 (0, 0)) (by (with_reducible repeat (first | refine blk_drewN ?_ _ | refine blk_drew ?_ | refine blk_alloc ?_ _)); exact BK333.out) hb)
                     have n1_ := Aside0.mk (blk_below (g := gb337) (o := .cells #[.int .i64 t334, .int .i64 t335, .int .i64 t336] 27 (0, 0)) (by (with_reducible repeat (first | refine blk_drewN ?_ _ | refine blk_drew ?_ | refine blk_alloc ?_ _)); exact BK337.out) hb)
                     have n2_ := Aside0.mk (blk_below (g := gb358) (o := .cells #[.int .i64 t355, .int .i64 t356, .int .i64 t357] 27 (0, 0)) (by (with_reducible repeat (first | refine blk_drewN ?_ _ | refine blk_drew ?_ | refine blk_alloc ?_ _)); exact BK358.out) hb)
                     have n3_ := Aside0.mk (blk_below (g := gb364) (o := .cells #[.int .i64 t361, .int .i64 t362, .int .i64 t363] 27 (0, 0)) (by (with_reducible repeat (first | refine blk_drewN ?_ _ | refine blk_drew ?_ | refine blk_alloc ?_ _)); exact BK364.out) hb)
                     have n4_ := Aside0.mk (blk_below (g := gb368) (o := .cells #[.int .i64 t365, .int .i64 t366, .int .i64 t367] 27 (0, 0)) (by (with_reducible repeat (first | refine blk_drewN ?_ _ | refine blk_drew ?_ | refine blk_alloc ?_ _)); exact BK368.out) hb)
                     have n5_ := Aside0.mk (blk_below (g := gb374) (o := .cells #[.int .i64 t371, .int .i64 t372, .int .i64 t373] 27 (0, 0)) (by (with_reducible repeat (first | refine blk_drewN ?_ _ | refine blk_drew ?_ | refine blk_alloc ?_ _)); exact BK374.out) hb)
                     have n6_ := Aside0.mk (below_step (by repeat (first | (with_reducible first | exact HB.out | apply below_alloc | apply pw_below_drewN | apply below_drew1 | refine below_set ?_ GE333.out | refine below_set ?_ GE337.out | refine below_set ?_ GE358.out | refine below_set ?_ GE364.out | refine below_set ?_ GE368.out | refine below_set ?_ GE374.out) | exact HB.out)) hb)
                     clear BK333
                     clear BK337
                     clear BK358
                     clear BK364
                     clear BK368
                     clear BK374
                     clear HB
                     have BK333 := n0_
                     have BK337 := n1_
                     have BK358 := n2_
                     have BK364 := n3_
                     have BK368 := n4_
                     have BK374 := n5_
                     have HB := n6_
                     clear n0_ n1_ n2_ n3_ n4_ n5_ n6_
                     (try clear hb)
                     (try clear hb2)
                     (try clear hk)
                     (try clear hi)
                     refine hK.out _ _ ⟨(blk_cell BK358.out 0).trans rfl, (blk_cell BK358.out 1).trans rfl, (blk_cell BK358.out 2).trans rfl, (blk_cell BK364.out 0).trans rfl, (blk_cell BK364.out 1).trans rfl, (blk_cell BK364.out 2).trans rfl, (blk_cell BK333.out 0).trans rfl, (blk_cell BK333.out 1).trans rfl, (blk_cell BK333.out 2).trans rfl, (blk_cell BK368.out 0).trans rfl, (blk_cell BK368.out 1).trans rfl, (blk_cell BK368.out 2).trans rfl, (blk_cell BK374.out 0).trans rfl, (blk_cell BK374.out 1).trans rfl, (blk_cell BK374.out 2).trans rfl, (blk_cell BK337.out 0).trans rfl, (blk_cell BK337.out 1).trans rfl, (blk_cell BK337.out 2).trans rfl⟩ (fun hHeld => ?_)
                     clear hK K
                     refine norm_ (a' := ?_) ?_ ?_
                     rotate_left
                     ·show Act.put _ (some 194) _ = _
                      simp only [Act.put, pa, pb, pc, i64_w, i32_w]
                      rfl
                     refine pure_ (i := 59) (N := some 195) (v := ?_) (a' := ?_) #[Y, Y, Y, Y, Y, Y, Y, Y, Y, Y, Y, Y, Y, Y, Y, Y, Y, Y, Y, Y, Y, Y, Y, Y, Y, Y, Y, Y, Y, Y, Y, Y, Y, Y, Y, Y, Y, Y, Y, Y, Y, Y, Y, Y, Y, Y, Y, Y, Y, Y, Y, Y, Y, Y, Y, Y, Y, Y, Y, Y, N, N, N] rfl rfl (any_of HT_.out (by kernel_rfl)) (fun _ _ _ h => h) (Or.inl ⟨by rfl, ?_⟩) ?_ ?_
                     rotate_left
                     ·intro w'
                      go_simp
                      with_reducible rfl
                     rotate_left
                     ·simp only [Act.put, pa, pb, pc, i64_w, i32_w]
                      rfl
                     refine pure_ (i := 60) (N := some 196) (v := ?_) (a' := ?_) #[Y, Y, Y, Y, Y, Y, Y, Y, Y, Y, Y, Y, Y, Y, Y, Y, Y, Y, Y, Y, Y, Y, Y, Y, Y, Y, Y, Y, Y, Y, Y, Y, Y, Y, Y, Y, Y, Y, Y, Y, Y, Y, Y, Y, Y, Y, Y, Y, Y, Y, Y, Y, Y, Y, Y, Y, Y, Y, Y, Y, Y, N, N] rfl rfl (any_of HT_.out (by kernel_rfl)) (fun _ _ _ h => h) (Or.inl ⟨by rfl, ?_⟩) ?_ ?_
                     rotate_left
                     ·intro w'
                      go_simp
                      with_reducible rfl
                     rotate_left
                     ·simp only [Act.put, pa, pb, pc, i64_w, i32_w]
                      rfl
                     refine pure_ (i := 61) (N := some 197) (v := ?_) (a' := ?_) #[Y, Y, Y, Y, Y, Y, Y, Y, Y, Y, Y, Y, Y, Y, Y, Y, Y, Y, Y, Y, Y, Y, Y, Y, Y, Y, Y, Y, Y, Y, Y, Y, Y, Y, Y, Y, Y, Y, Y, Y, Y, Y, Y, Y, Y, Y, Y, Y, Y, Y, Y, Y, Y, Y, Y, Y, Y, Y, Y, Y, Y, Y, N] rfl rfl (any_of HT_.out (by kernel_rfl)) (fun _ _ _ h => h) (Or.inl ⟨by rfl, ?_⟩) ?_ ?_
                     rotate_left
                     ·intro w'
                      go_simp
                      with_reducible rfl
                     rotate_left
                     ·simp only [Act.put, pa, pb, pc, i64_w, i32_w]
                      rfl
                     refine pure_ (i := 62) (N := some 2) (v := ?_) (a' := ?_) #[Y, Y, Y, Y, Y, Y, Y, Y, Y, Y, Y, Y, Y, Y, Y, Y, Y, Y, Y, Y, Y, Y, Y, Y, Y, Y, Y, Y, Y, Y, Y, Y, Y, Y, Y, Y, Y, Y, Y, Y, Y, Y, Y, Y, Y, Y, Y, Y, Y, Y, Y, Y, Y, Y, Y, Y, Y, Y, Y, Y, Y, Y, Y] rfl rfl (any_of HT_.out (by kernel_rfl)) (fun _ _ _ h => h) (Or.inl ⟨by rfl, ?_⟩) ?_ ?_
                     rotate_left
                     ·intro w'
                      go_simp
                      with_reducible rfl
                     rotate_left
                     ·simp only [Act.put, pa, pb, pc, i64_w, i32_w]
                      rfl
                     refine done_ (done_of HT_.out (by kernel_rfl)) ?_
                     try go_wp2
                     go_ret
                     exact ⟨by first | rfl | (simp [errW_none, errW_some] <;> rfl) | (simp [*, errW_none, errW_some] <;> rfl), by repeat (first | (with_reducible first | exact HB.out | apply below_alloc | apply pw_below_drewN | apply below_drew1 | refine below_set ?_ GE333.out | refine below_set ?_ GE337.out | refine below_set ?_ GE358.out | refine below_set ?_ GE364.out | refine below_set ?_ GE368.out | refine below_set ?_ GE374.out) | exact HB.out)⟩
                   ·rw [if_neg c162] at H
                    have c162b0 : (t331 == t380) = false := beq_eq_false_iff_ne.mpr c162
                    have c162b1 : (t331 != t380) = true := bne_iff_ne.mpr c162
                    exact absurd (H.trans (congrArg some HLAW.out)) (by simp)
                  ·rw [if_neg c160] at H
                   have c160b0 : decide (t378 ≤ t336) = false := decide_eq_false c160
                   clear c160
                   exact absurd (H.trans (congrArg some HLAW.out)) (by simp)
                 ·rw [if_neg c158] at H
                  have c158b0 : decide (t377 ≤ t335) = false := decide_eq_false c158
                  clear c158
                  exact absurd (H.trans (congrArg some HLAW.out)) (by simp)
                ·rw [if_neg c156] at H
                 have c156b0 : decide (t376 ≤ t332) = false := decide_eq_false c156
                 clear c156
                 exact absurd (H.trans (congrArg some HLAW.out)) (by simp)
               ·rw [if_neg c154] at H
                have c154b0 : decide (t375 ≤ t331) = false := decide_eq_false c154
                clear c154
                exact absurd (H.trans (congrArg some HLAW.out)) (by simp)
         ·rw [if_neg c65] at H
          exact absurd H (by simp)
        ·rw [if_neg c64] at H
         exact absurd H (by simp)

/-- THE ONE PURE STATEMENT of laws_FnPairBounds: yours. -/
def laws_FnPairBounds.Pure : Prop := ∀ (l0 : List Int), l0.length ≤ maxLen → l0.length * 1 ≤ 140737488351232 → (∀ x ∈ l0, (Lit.int .u8 x).wf = true) → ∃ k, laws_FnPairBounds.f k l0 = some true
theorem laws_FnPairBounds.walk (P : laws_FnPairBounds.Pure) (a0 : Option Addr) (len0 cap0 : Nat) (z0 : List Int) (w : World) (w0 : (a0 = none ∧ len0 = 0 ∧ cap0 = 0 ∧ z0 = []) ∨ ∃ x, a0 = some x ∧ len0 ≤ cap0 ∧ cap0 ≤ maxLen ∧ z0.length = cap0 ∧ (∀ i, i < z0.length → w.cell? (x.add i) = some (.int .u8 (z0.getD i 0))) ∧ ∀ n ∈ z0, (Lit.int .u8 n).wf = true) (y0 : len0 * 1 ≤ 140737488351232) :
  Calls Try.prog 3 #[.slice a0 len0 cap0] w fun e w' => e = .returned (.bool true) ∧ Below w.heap.size w w' := by
 obtain ⟨l0, rfl, hr0, hm0, hw0, hc0⟩ := ReadsInt.ofRowC w0
 obtain ⟨k, h⟩ := P l0 hm0 y0 hw0
 refine (laws_FnPairBounds.calls k _ _ l0 true w (Kd.C_of_reads (d := (0 : Int)) (h1 := fun _ => rfl) hr0) hc0 h).mono ?_
 rintro e w' ⟨rfl, hd⟩
 exact ⟨rfl, hd⟩

end Go.Proofs.Ythinfihnnjnmfaa.PFnPairBounds
