/-
Lemmas for OrderObjects, for every input they speak of: XObjF.
-/
import Derived.Test.YtpamgedmgjfjjaaKOrderObjects03
import Derived.Test.YtpamgedmgjfjjaaKOrderObjects07
import Derived.Test.YtpamgedmgjfjjaaKOrderObjects09
import Derived.Test.YtpamgedmgjfjjaaKOrderObjects11
import Derived.Test.YtpamgedmgjfjjaaKOrderObjects08
namespace Go.Proofs.Ytpamgedmgjfjjaa.M
open Go.RowKit Go.Proofs.YtpamgedmgjfjjaaW.PrintWords Go.Proofs.YtpamgedmgjfjjaaW.PrintLast Go.Proofs.YtpamgedmgjfjjaaW.PrintMore
attribute [local go_sem] max2_int min2_int max_two min_two max_three min_three max_four min_four
set_option linter.unusedVariables false
set_option linter.unusedSimpArgs false
mutual
def erratumlaw06_OrderObjects.l0 : Nat → List ByteArray → List (S50) → Int → Int → Option (Bool)
  | 0, _, _, _, _ => none
  | k + 1, x0, x5, x8, x9 => if x9 < (x0.length : Int) then (if 0 ≤ x9 then (if x5.length < 1172812402961 then (erratumlaw06_OrderObjects.l0 k x0 (x5 ++ [(⟨4, false, (⟨false, ([] : List Int), 0⟩ : S48), rdOf ByteArray.empty x0 x9, ([] : List ByteArray), ([] : List (S50))⟩ : S50)]) x8 (wrap64 (x9 + 1))) else (none)) else (none)) else (if 0 ≤ x8 then (if x8 ≤ (x0.length : Int) then ((some (x0.drop (x8 : Int).toNat : List ByteArray)).bind fun y537 => (if ([] : List ByteArray).length + y537.length < 8796093022208 then ((some (([] : List ByteArray) ++ y537 : List ByteArray)).bind fun y541 => ((some (x0.take (x8 : Int).toNat : List ByteArray)).bind fun y544 => (if y541.length + y544.length < 8796093022208 then (if x8 ≤ (x5.length : Int) then ((some (x5.drop (x8 : Int).toNat : List (S50))).bind fun y551 => (if ([] : List (S50)).length + y551.length < 1172812402961 then ((some (([] : List (S50)) ++ y551 : List (S50))).bind fun y556 => ((some (x5.take (x8 : Int).toNat : List (S50))).bind fun y559 => (if y556.length + y559.length < 1172812402961 then ((order_Object.f k x0 x5).bind fun bt567 => ((order_Object.f k (y541 ++ y544) (y556 ++ y559)).bind fun bt584 => ((order_Twice.f x0).bind fun bt601 => (if (bt567.2.2.2.2.2.2.2.2.2 != bt584.2.2.2.2.2.2.2.2.2) = true then (erratumlaw06_OrderObjects.j1 k x0 bt567.2.2.2.2.2.2.2.2.2 true bt567.1 bt567.2.1 bt567.2.2.1 bt567.2.2.2.1 bt567.2.2.2.2.1 bt567.2.2.2.2.2.1 bt567.2.2.2.2.2.2.1 bt567.2.2.2.2.2.2.2.1 bt584.1 bt584.2.1 bt584.2.2.1 bt584.2.2.2.1 bt584.2.2.2.2.1 bt584.2.2.2.2.2.1 bt584.2.2.2.2.2.2.1 bt584.2.2.2.2.2.2.2.1) else (if (bt567.2.2.2.2.2.2.2.2.2 == bt601.2) = true then (erratumlaw06_OrderObjects.j1 k x0 bt567.2.2.2.2.2.2.2.2.2 true bt567.1 bt567.2.1 bt567.2.2.1 bt567.2.2.2.1 bt567.2.2.2.2.1 bt567.2.2.2.2.2.1 bt567.2.2.2.2.2.2.1 bt567.2.2.2.2.2.2.2.1 bt584.1 bt584.2.1 bt584.2.2.1 bt584.2.2.2.1 bt584.2.2.2.2.1 bt584.2.2.2.2.2.1 bt584.2.2.2.2.2.2.1 bt584.2.2.2.2.2.2.2.1) else (erratumlaw06_OrderObjects.j1 k x0 bt567.2.2.2.2.2.2.2.2.2 (bt567.2.2.2.2.2.2.2.2.1 != bt601.1) bt567.1 bt567.2.1 bt567.2.2.1 bt567.2.2.2.1 bt567.2.2.2.2.1 bt567.2.2.2.2.2.1 bt567.2.2.2.2.2.2.1 bt567.2.2.2.2.2.2.2.1 bt584.1 bt584.2.1 bt584.2.2.1 bt584.2.2.2.1 bt584.2.2.2.2.1 bt584.2.2.2.2.2.1 bt584.2.2.2.2.2.2.1 bt584.2.2.2.2.2.2.2.1)))))) else (none)))) else (none))) else (none)) else (none)))) else (none))) else (none)) else (none))
def erratumlaw06_OrderObjects.j1 : Nat → List ByteArray → Bool → Bool → Int → Bool → Bool → List Int → Int → ByteArray → List ByteArray → List (S50) → Int → Bool → Bool → List Int → Int → ByteArray → List ByteArray → List (S50) → Option (Bool)
  | 0, _, _, _, _, _, _, _, _, _, _, _, _, _, _, _, _, _, _, _ => none
  | k + 1, x0, x12, x91, x584000, x584001, x584002, x584003, x584004, x584005, x584006, x584007, x601000, x601001, x601002, x601003, x601004, x601005, x601006, x601007 => if x91 = true then (some false) else (erratumlaw06_OrderObjects.l1 k x0 x12 0 x584000 x584001 x584002 x584003 x584004 x584005 x584006 x584007 x601000 x601001 x601002 x601003 x601004 x601005 x601006 x601007)
def erratumlaw06_OrderObjects.l1 : Nat → List ByteArray → Bool → Int → Int → Bool → Bool → List Int → Int → ByteArray → List ByteArray → List (S50) → Int → Bool → Bool → List Int → Int → ByteArray → List ByteArray → List (S50) → Option (Bool)
  | 0, _, _, _, _, _, _, _, _, _, _, _, _, _, _, _, _, _, _, _ => none
  | k + 1, x0, x12, x18, x584000, x584001, x584002, x584003, x584004, x584005, x584006, x584007, x601000, x601001, x601002, x601003, x601004, x601005, x601006, x601007 => if x18 < (x584006.length : Int) then (if x18 > 0 then (if 0 ≤ x18 then (if 0 ≤ (wrap64 (x18 - 1)) then (if (wrap64 (x18 - 1)) < (x584006.length : Int) then (if ((Op.bytesLess ((rdOf ByteArray.empty x584006 (wrap64 (x18 - 1))).toList) ((rdOf ByteArray.empty x584006 x18).toList)) = true) then (if x18 ≥ (x584007.length : Int) then (some false) else (if x18 < (x584007.length : Int) then (if ((rd_T50 x584007 x18).f3).toList = (rdOf ByteArray.empty x584006 x18).toList then (erratumlaw06_OrderObjects.l1 k x0 x12 (wrap64 (x18 + 1)) x584000 x584001 x584002 x584003 x584004 x584005 x584006 x584007 x601000 x601001 x601002 x601003 x601004 x601005 x601006 x601007) else (some false)) else (none))) else (some false)) else (none)) else (none)) else (none)) else (if x18 ≥ (x584007.length : Int) then (some false) else (if 0 ≤ x18 then (if x18 < (x584007.length : Int) then (if ((rd_T50 x584007 x18).f3).toList = (rdOf ByteArray.empty x584006 x18).toList then (erratumlaw06_OrderObjects.l1 k x0 x12 (wrap64 (x18 + 1)) x584000 x584001 x584002 x584003 x584004 x584005 x584006 x584007 x601000 x601001 x601002 x601003 x601004 x601005 x601006 x601007) else (some false)) else (none)) else (none)))) else (if x12 = true then (if (x584006.length : Int) = (x0.length : Int) then ((erratumref05_Same.f k x584000 x584001 x584002 x584003 x584004 x584005 x584006 x584007 x601000 x601001 x601002 x601003 x601004 x601005 x601006 x601007).bind fun t609 => (if t609 = true then ((erratumlaw06_awake.f k).bind fun t610 => (some t610)) else (some false))) else (some false)) else ((erratumlaw06_awake.f k).bind fun t611 => (some t611)))
end
def erratumlaw06_OrderObjects.f (k : Nat) (l0 : List ByteArray) (a1 : Int) : Option (Bool) := (erratumlaw06_few.f k l0).bind fun t530 => (if t530 = true then ((erratumlaw00_Place.f a1 (wrap64 ((l0.length : Int) + 1))).bind fun t532 => (erratumlaw06_OrderObjects.l0 k l0 ([] : List (S50)) t532 0)) else ((erratumlaw06_awake.f k).bind fun t531 => (some t531)))
theorem erratumlaw06_OrderObjects.mono_l : ∀ k, (∀ y0 y1 y2 y3, LeO (erratumlaw06_OrderObjects.l0 k y0 y1 y2 y3) (erratumlaw06_OrderObjects.l0 (k + 1) y0 y1 y2 y3)) ∧ (∀ y0 y1 y2 y3 y4 y5 y6 y7 y8 y9 y10 y11 y12 y13 y14 y15 y16 y17 y18, LeO (erratumlaw06_OrderObjects.j1 k y0 y1 y2 y3 y4 y5 y6 y7 y8 y9 y10 y11 y12 y13 y14 y15 y16 y17 y18) (erratumlaw06_OrderObjects.j1 (k + 1) y0 y1 y2 y3 y4 y5 y6 y7 y8 y9 y10 y11 y12 y13 y14 y15 y16 y17 y18)) ∧ (∀ y0 y1 y2 y3 y4 y5 y6 y7 y8 y9 y10 y11 y12 y13 y14 y15 y16 y17 y18, LeO (erratumlaw06_OrderObjects.l1 k y0 y1 y2 y3 y4 y5 y6 y7 y8 y9 y10 y11 y12 y13 y14 y15 y16 y17 y18) (erratumlaw06_OrderObjects.l1 (k + 1) y0 y1 y2 y3 y4 y5 y6 y7 y8 y9 y10 y11 y12 y13 y14 y15 y16 y17 y18))
  | 0 => ⟨fun _ _ _ _ r h => by simp [erratumlaw06_OrderObjects.l0] at h, fun _ _ _ _ _ _ _ _ _ _ _ _ _ _ _ _ _ _ _ r h => by simp [erratumlaw06_OrderObjects.j1] at h, fun _ _ _ _ _ _ _ _ _ _ _ _ _ _ _ _ _ _ _ r h => by simp [erratumlaw06_OrderObjects.l1] at h⟩
  | k + 1 => by
    obtain ⟨ih0, ih1, ih2⟩ := erratumlaw06_OrderObjects.mono_l k
    refine ⟨?_, ?_, ?_⟩
    · intro y0 y1 y2 y3
      unfold erratumlaw06_OrderObjects.l0
      repeat' first
      | (with_reducible exact ih0 _ _ _ _)
      | (with_reducible exact ih1 _ _ _ _ _ _ _ _ _ _ _ _ _ _ _ _ _ _ _)
      | (with_reducible exact ih2 _ _ _ _ _ _ _ _ _ _ _ _ _ _ _ _ _ _ _)
      | (with_reducible exact erratumlaw06_awake.mono _)
      | (with_reducible exact erratumlaw06_few.mono _ _)
      | (with_reducible exact erratumref05_Same.mono _ _ _ _ _ _ _ _ _ _ _ _ _ _ _ _ _)
      | (with_reducible exact order_Object.mono _ _ _)
      | (with_reducible exact LeO.refl _)
      | (with_reducible exact LeO.none _)
      | (with_reducible refine LeO.ite ?_ ?_)
      | (with_reducible refine LeO.bind ?_ (fun _ => ?_))
      | exact ih0 _ _ _ _
      | exact ih1 _ _ _ _ _ _ _ _ _ _ _ _ _ _ _ _ _ _ _
      | exact ih2 _ _ _ _ _ _ _ _ _ _ _ _ _ _ _ _ _ _ _
      | exact erratumlaw06_awake.mono _
      | exact erratumlaw06_few.mono _ _
      | exact erratumref05_Same.mono _ _ _ _ _ _ _ _ _ _ _ _ _ _ _ _ _
      | exact order_Object.mono _ _ _
      | exact LeO.none _
      | refine LeO.ite ?_ ?_
      | refine LeO.bind ?_ (fun _ => ?_)
    · intro y0 y1 y2 y3 y4 y5 y6 y7 y8 y9 y10 y11 y12 y13 y14 y15 y16 y17 y18
      unfold erratumlaw06_OrderObjects.j1
      repeat' first
      | (with_reducible exact ih0 _ _ _ _)
      | (with_reducible exact ih1 _ _ _ _ _ _ _ _ _ _ _ _ _ _ _ _ _ _ _)
      | (with_reducible exact ih2 _ _ _ _ _ _ _ _ _ _ _ _ _ _ _ _ _ _ _)
      | (with_reducible exact erratumlaw06_awake.mono _)
      | (with_reducible exact erratumlaw06_few.mono _ _)
      | (with_reducible exact erratumref05_Same.mono _ _ _ _ _ _ _ _ _ _ _ _ _ _ _ _ _)
      | (with_reducible exact order_Object.mono _ _ _)
      | (with_reducible exact LeO.refl _)
      | (with_reducible exact LeO.none _)
      | (with_reducible refine LeO.ite ?_ ?_)
      | (with_reducible refine LeO.bind ?_ (fun _ => ?_))
      | exact ih0 _ _ _ _
      | exact ih1 _ _ _ _ _ _ _ _ _ _ _ _ _ _ _ _ _ _ _
      | exact ih2 _ _ _ _ _ _ _ _ _ _ _ _ _ _ _ _ _ _ _
      | exact erratumlaw06_awake.mono _
      | exact erratumlaw06_few.mono _ _
      | exact erratumref05_Same.mono _ _ _ _ _ _ _ _ _ _ _ _ _ _ _ _ _
      | exact order_Object.mono _ _ _
      | exact LeO.none _
      | refine LeO.ite ?_ ?_
      | refine LeO.bind ?_ (fun _ => ?_)
    · intro y0 y1 y2 y3 y4 y5 y6 y7 y8 y9 y10 y11 y12 y13 y14 y15 y16 y17 y18
      unfold erratumlaw06_OrderObjects.l1
      repeat' first
      | (with_reducible exact ih0 _ _ _ _)
      | (with_reducible exact ih1 _ _ _ _ _ _ _ _ _ _ _ _ _ _ _ _ _ _ _)
      | (with_reducible exact ih2 _ _ _ _ _ _ _ _ _ _ _ _ _ _ _ _ _ _ _)
      | (with_reducible exact erratumlaw06_awake.mono _)
      | (with_reducible exact erratumlaw06_few.mono _ _)
      | (with_reducible exact erratumref05_Same.mono _ _ _ _ _ _ _ _ _ _ _ _ _ _ _ _ _)
      | (with_reducible exact order_Object.mono _ _ _)
      | (with_reducible exact LeO.refl _)
      | (with_reducible exact LeO.none _)
      | (with_reducible refine LeO.ite ?_ ?_)
      | (with_reducible refine LeO.bind ?_ (fun _ => ?_))
      | exact ih0 _ _ _ _
      | exact ih1 _ _ _ _ _ _ _ _ _ _ _ _ _ _ _ _ _ _ _
      | exact ih2 _ _ _ _ _ _ _ _ _ _ _ _ _ _ _ _ _ _ _
      | exact erratumlaw06_awake.mono _
      | exact erratumlaw06_few.mono _ _
      | exact erratumref05_Same.mono _ _ _ _ _ _ _ _ _ _ _ _ _ _ _ _ _
      | exact order_Object.mono _ _ _
      | exact LeO.none _
      | refine LeO.ite ?_ ?_
      | refine LeO.bind ?_ (fun _ => ?_)
theorem erratumlaw06_OrderObjects.mono : ∀ a0 a1 k, LeO (erratumlaw06_OrderObjects.f k a0 a1) (erratumlaw06_OrderObjects.f (k + 1) a0 a1) := by
  intro a0 a1 k
  obtain ⟨ih0, ih1, ih2⟩ := erratumlaw06_OrderObjects.mono_l k
  unfold erratumlaw06_OrderObjects.f
  repeat' first
      | (with_reducible exact ih0 _ _ _ _)
      | (with_reducible exact ih1 _ _ _ _ _ _ _ _ _ _ _ _ _ _ _ _ _ _ _)
      | (with_reducible exact ih2 _ _ _ _ _ _ _ _ _ _ _ _ _ _ _ _ _ _ _)
      | (with_reducible exact erratumlaw06_awake.mono _)
      | (with_reducible exact erratumlaw06_few.mono _ _)
      | (with_reducible exact erratumref05_Same.mono _ _ _ _ _ _ _ _ _ _ _ _ _ _ _ _ _)
      | (with_reducible exact order_Object.mono _ _ _)
      | (with_reducible exact LeO.refl _)
      | (with_reducible exact LeO.none _)
      | (with_reducible refine LeO.ite ?_ ?_)
      | (with_reducible refine LeO.bind ?_ (fun _ => ?_))
      | exact ih0 _ _ _ _
      | exact ih1 _ _ _ _ _ _ _ _ _ _ _ _ _ _ _ _ _ _ _
      | exact ih2 _ _ _ _ _ _ _ _ _ _ _ _ _ _ _ _ _ _ _
      | exact erratumlaw06_awake.mono _
      | exact erratumlaw06_few.mono _ _
      | exact erratumref05_Same.mono _ _ _ _ _ _ _ _ _ _ _ _ _ _ _ _ _
      | exact order_Object.mono _ _ _
      | exact LeO.none _
      | refine LeO.ite ?_ ?_
      | refine LeO.bind ?_ (fun _ => ?_)
end Go.Proofs.Ytpamgedmgjfjjaa.M
