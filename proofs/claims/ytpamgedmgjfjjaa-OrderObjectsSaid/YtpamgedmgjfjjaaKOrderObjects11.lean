/-
Lemmas for OrderObjects, for every input they speak of: M19.
-/
import Derived.Test.YtpamgedmgjfjjaaKOrderObjects03
import Derived.Test.YtpamgedmgjfjjaaKOrderObjects10
namespace Go.Proofs.Ytpamgedmgjfjjaa.M
open Go.RowKit Go.Proofs.YtpamgedmgjfjjaaW.PrintWords Go.Proofs.YtpamgedmgjfjjaaW.PrintLast Go.Proofs.YtpamgedmgjfjjaaW.PrintMore
attribute [local go_sem] max2_int min2_int max_two min_two max_three min_three max_four min_four
set_option linter.unusedVariables false
set_option linter.unusedSimpArgs false
mutual
def erratumref05_Same.j0 : Nat → Int → Bool → Int → Bool → Bool → List Int → Int → ByteArray → List ByteArray → List (S50) → Int → Bool → Bool → List Int → Int → ByteArray → List ByteArray → List (S50) → Option (Bool)
  | 0, _, _, _, _, _, _, _, _, _, _, _, _, _, _, _, _, _, _ => none
  | k + 1, x13, x28, x523000, x523001, x523002, x523003, x523004, x523005, x523006, x523007, x524000, x524001, x524002, x524003, x524004, x524005, x524006, x524007 => if x28 = true then (some (x523005.toList == x524005.toList)) else (if x13 = 6 then (erratumref05_Same.j1 k (x13 == 6) x523000 x523001 x523002 x523003 x523004 x523005 x523006 x523007 x524000 x524001 x524002 x524003 x524004 x524005 x524006 x524007) else (erratumref05_Same.j1 k (x13 == 7) x523000 x523001 x523002 x523003 x523004 x523005 x523006 x523007 x524000 x524001 x524002 x524003 x524004 x524005 x524006 x524007))
def erratumref05_Same.j1 : Nat → Bool → Int → Bool → Bool → List Int → Int → ByteArray → List ByteArray → List (S50) → Int → Bool → Bool → List Int → Int → ByteArray → List ByteArray → List (S50) → Option (Bool)
  | 0, _, _, _, _, _, _, _, _, _, _, _, _, _, _, _, _, _ => none
  | k + 1, x36, x523000, x523001, x523002, x523003, x523004, x523005, x523006, x523007, x524000, x524001, x524002, x524003, x524004, x524005, x524006, x524007 => if x36 = true then (if (x523007.length : Int) = (x524007.length : Int) then (if x523000 = 7 then (erratumref05_Same.j2 k ((x523006.length : Int) != (x524006.length : Int)) x523000 x523001 x523002 x523003 x523004 x523005 x523006 x523007 x524000 x524001 x524002 x524003 x524004 x524005 x524006 x524007) else (erratumref05_Same.j2 k false x523000 x523001 x523002 x523003 x523004 x523005 x523006 x523007 x524000 x524001 x524002 x524003 x524004 x524005 x524006 x524007)) else (erratumref05_Same.j2 k true x523000 x523001 x523002 x523003 x523004 x523005 x523006 x523007 x524000 x524001 x524002 x524003 x524004 x524005 x524006 x524007)) else (some true)
def erratumref05_Same.j2 : Nat → Bool → Int → Bool → Bool → List Int → Int → ByteArray → List ByteArray → List (S50) → Int → Bool → Bool → List Int → Int → ByteArray → List ByteArray → List (S50) → Option (Bool)
  | 0, _, _, _, _, _, _, _, _, _, _, _, _, _, _, _, _, _ => none
  | k + 1, x59, x523000, x523001, x523002, x523003, x523004, x523005, x523006, x523007, x524000, x524001, x524002, x524003, x524004, x524005, x524006, x524007 => if x59 = true then (some false) else (erratumref05_Same.l0 k 0 x523000 x523001 x523002 x523003 x523004 x523005 x523006 x523007 x524000 x524001 x524002 x524003 x524004 x524005 x524006 x524007)
def erratumref05_Same.l0 : Nat → Int → Int → Bool → Bool → List Int → Int → ByteArray → List ByteArray → List (S50) → Int → Bool → Bool → List Int → Int → ByteArray → List ByteArray → List (S50) → Option (Bool)
  | 0, _, _, _, _, _, _, _, _, _, _, _, _, _, _, _, _, _ => none
  | k + 1, x5, x523000, x523001, x523002, x523003, x523004, x523005, x523006, x523007, x524000, x524001, x524002, x524003, x524004, x524005, x524006, x524007 => if x5 < (x523006.length : Int) then (erratumref05_Same.j4 k x5 (x523000 == 7) x523000 x523001 x523002 x523003 x523004 x523005 x523006 x523007 x524000 x524001 x524002 x524003 x524004 x524005 x524006 x524007) else (erratumref05_Same.j4 k x5 false x523000 x523001 x523002 x523003 x523004 x523005 x523006 x523007 x524000 x524001 x524002 x524003 x524004 x524005 x524006 x524007)
def erratumref05_Same.j4 : Nat → Int → Bool → Int → Bool → Bool → List Int → Int → ByteArray → List ByteArray → List (S50) → Int → Bool → Bool → List Int → Int → ByteArray → List ByteArray → List (S50) → Option (Bool)
  | 0, _, _, _, _, _, _, _, _, _, _, _, _, _, _, _, _, _, _ => none
  | k + 1, x5, x69, x523000, x523001, x523002, x523003, x523004, x523005, x523006, x523007, x524000, x524001, x524002, x524003, x524004, x524005, x524006, x524007 => if x69 = true then (if 0 ≤ x5 then (if x5 < (x523006.length : Int) then (if x5 < (x524006.length : Int) then (if (rdOf ByteArray.empty x523006 x5).toList = (rdOf ByteArray.empty x524006 x5).toList then (erratumref05_Same.l0 k (wrap64 (x5 + 1)) x523000 x523001 x523002 x523003 x523004 x523005 x523006 x523007 x524000 x524001 x524002 x524003 x524004 x524005 x524006 x524007) else (some false)) else (none)) else (none)) else (none)) else (erratumref05_Same.l1 k 0 x523000 x523001 x523002 x523003 x523004 x523005 x523006 x523007 x524000 x524001 x524002 x524003 x524004 x524005 x524006 x524007)
def erratumref05_Same.l1 : Nat → Int → Int → Bool → Bool → List Int → Int → ByteArray → List ByteArray → List (S50) → Int → Bool → Bool → List Int → Int → ByteArray → List ByteArray → List (S50) → Option (Bool)
  | 0, _, _, _, _, _, _, _, _, _, _, _, _, _, _, _, _, _ => none
  | k + 1, x6, x523000, x523001, x523002, x523003, x523004, x523005, x523006, x523007, x524000, x524001, x524002, x524003, x524004, x524005, x524006, x524007 => if x6 < (x523007.length : Int) then (if 0 ≤ x6 then (if x6 < (x524007.length : Int) then ((erratumref05_Same.f k ((rd_T50 x523007 x6).f0) ((rd_T50 x523007 x6).f1) ((rd_T50 x523007 x6).f2.f0) ((rd_T50 x523007 x6).f2.f1) ((rd_T50 x523007 x6).f2.f2) ((rd_T50 x523007 x6).f3) ((rd_T50 x523007 x6).f4) ((rd_T50 x523007 x6).f5) ((rd_T50 x524007 x6).f0) ((rd_T50 x524007 x6).f1) ((rd_T50 x524007 x6).f2.f0) ((rd_T50 x524007 x6).f2.f1) ((rd_T50 x524007 x6).f2.f2) ((rd_T50 x524007 x6).f3) ((rd_T50 x524007 x6).f4) ((rd_T50 x524007 x6).f5)).bind fun t529 => (if t529 = true then (erratumref05_Same.l1 k (wrap64 (x6 + 1)) x523000 x523001 x523002 x523003 x523004 x523005 x523006 x523007 x524000 x524001 x524002 x524003 x524004 x524005 x524006 x524007) else (some false))) else (none)) else (none)) else (some true)
def erratumref05_Same.f : Nat → Int → Bool → Bool → List Int → Int → ByteArray → List ByteArray → List (S50) → Int → Bool → Bool → List Int → Int → ByteArray → List ByteArray → List (S50) → Option (Bool)
  | 0, _, _, _, _, _, _, _, _, _, _, _, _, _, _, _, _ => none
  | k + 1, a0_0, a0_1, a0_2, l0_3, a0_4, a0_5, l0_6, l0_7, a1_0, a1_1, a1_2, l1_3, a1_4, a1_5, l1_6, l1_7 => if a0_0 = a1_0 then (if a0_0 = 2 then (some (a0_1 == a1_1)) else (if a0_0 = 3 then ((erratumref02_Same.f k a0_2 l0_3 a0_4 a1_2 l1_3 a1_4).bind fun t524 => (some t524)) else (if a0_0 = 4 then (erratumref05_Same.j0 k a0_0 (a0_0 == 4) a0_0 a0_1 a0_2 l0_3 a0_4 a0_5 l0_6 l0_7 a1_0 a1_1 a1_2 l1_3 a1_4 a1_5 l1_6 l1_7) else (erratumref05_Same.j0 k a0_0 (a0_0 == 5) a0_0 a0_1 a0_2 l0_3 a0_4 a0_5 l0_6 l0_7 a1_0 a1_1 a1_2 l1_3 a1_4 a1_5 l1_6 l1_7)))) else (some false)
end
theorem erratumref05_Same.mono_l : ∀ k, (∀ y0 y1 y2 y3 y4 y5 y6 y7 y8 y9 y10 y11 y12 y13 y14 y15, LeO (erratumref05_Same.f k y0 y1 y2 y3 y4 y5 y6 y7 y8 y9 y10 y11 y12 y13 y14 y15) (erratumref05_Same.f (k + 1) y0 y1 y2 y3 y4 y5 y6 y7 y8 y9 y10 y11 y12 y13 y14 y15)) ∧ (∀ y0 y1 y2 y3 y4 y5 y6 y7 y8 y9 y10 y11 y12 y13 y14 y15 y16 y17, LeO (erratumref05_Same.j0 k y0 y1 y2 y3 y4 y5 y6 y7 y8 y9 y10 y11 y12 y13 y14 y15 y16 y17) (erratumref05_Same.j0 (k + 1) y0 y1 y2 y3 y4 y5 y6 y7 y8 y9 y10 y11 y12 y13 y14 y15 y16 y17)) ∧ (∀ y0 y1 y2 y3 y4 y5 y6 y7 y8 y9 y10 y11 y12 y13 y14 y15 y16, LeO (erratumref05_Same.j1 k y0 y1 y2 y3 y4 y5 y6 y7 y8 y9 y10 y11 y12 y13 y14 y15 y16) (erratumref05_Same.j1 (k + 1) y0 y1 y2 y3 y4 y5 y6 y7 y8 y9 y10 y11 y12 y13 y14 y15 y16)) ∧ (∀ y0 y1 y2 y3 y4 y5 y6 y7 y8 y9 y10 y11 y12 y13 y14 y15 y16, LeO (erratumref05_Same.j2 k y0 y1 y2 y3 y4 y5 y6 y7 y8 y9 y10 y11 y12 y13 y14 y15 y16) (erratumref05_Same.j2 (k + 1) y0 y1 y2 y3 y4 y5 y6 y7 y8 y9 y10 y11 y12 y13 y14 y15 y16)) ∧ (∀ y0 y1 y2 y3 y4 y5 y6 y7 y8 y9 y10 y11 y12 y13 y14 y15 y16, LeO (erratumref05_Same.l0 k y0 y1 y2 y3 y4 y5 y6 y7 y8 y9 y10 y11 y12 y13 y14 y15 y16) (erratumref05_Same.l0 (k + 1) y0 y1 y2 y3 y4 y5 y6 y7 y8 y9 y10 y11 y12 y13 y14 y15 y16)) ∧ (∀ y0 y1 y2 y3 y4 y5 y6 y7 y8 y9 y10 y11 y12 y13 y14 y15 y16 y17, LeO (erratumref05_Same.j4 k y0 y1 y2 y3 y4 y5 y6 y7 y8 y9 y10 y11 y12 y13 y14 y15 y16 y17) (erratumref05_Same.j4 (k + 1) y0 y1 y2 y3 y4 y5 y6 y7 y8 y9 y10 y11 y12 y13 y14 y15 y16 y17)) ∧ (∀ y0 y1 y2 y3 y4 y5 y6 y7 y8 y9 y10 y11 y12 y13 y14 y15 y16, LeO (erratumref05_Same.l1 k y0 y1 y2 y3 y4 y5 y6 y7 y8 y9 y10 y11 y12 y13 y14 y15 y16) (erratumref05_Same.l1 (k + 1) y0 y1 y2 y3 y4 y5 y6 y7 y8 y9 y10 y11 y12 y13 y14 y15 y16))
  | 0 => ⟨fun _ _ _ _ _ _ _ _ _ _ _ _ _ _ _ _ r h => by simp [erratumref05_Same.f] at h, fun _ _ _ _ _ _ _ _ _ _ _ _ _ _ _ _ _ _ r h => by simp [erratumref05_Same.j0] at h, fun _ _ _ _ _ _ _ _ _ _ _ _ _ _ _ _ _ r h => by simp [erratumref05_Same.j1] at h, fun _ _ _ _ _ _ _ _ _ _ _ _ _ _ _ _ _ r h => by simp [erratumref05_Same.j2] at h, fun _ _ _ _ _ _ _ _ _ _ _ _ _ _ _ _ _ r h => by simp [erratumref05_Same.l0] at h, fun _ _ _ _ _ _ _ _ _ _ _ _ _ _ _ _ _ _ r h => by simp [erratumref05_Same.j4] at h, fun _ _ _ _ _ _ _ _ _ _ _ _ _ _ _ _ _ r h => by simp [erratumref05_Same.l1] at h⟩
  | k + 1 => by
    obtain ⟨ih0, ih1, ih2, ih3, ih4, ih5, ih6⟩ := erratumref05_Same.mono_l k
    refine ⟨?_, ?_, ?_, ?_, ?_, ?_, ?_⟩
    · intro y0 y1 y2 y3 y4 y5 y6 y7 y8 y9 y10 y11 y12 y13 y14 y15
      unfold erratumref05_Same.f
      repeat' first
      | (with_reducible exact ih0 _ _ _ _ _ _ _ _ _ _ _ _ _ _ _ _)
      | (with_reducible exact ih1 _ _ _ _ _ _ _ _ _ _ _ _ _ _ _ _ _ _)
      | (with_reducible exact ih2 _ _ _ _ _ _ _ _ _ _ _ _ _ _ _ _ _)
      | (with_reducible exact ih3 _ _ _ _ _ _ _ _ _ _ _ _ _ _ _ _ _)
      | (with_reducible exact ih4 _ _ _ _ _ _ _ _ _ _ _ _ _ _ _ _ _)
      | (with_reducible exact ih5 _ _ _ _ _ _ _ _ _ _ _ _ _ _ _ _ _ _)
      | (with_reducible exact ih6 _ _ _ _ _ _ _ _ _ _ _ _ _ _ _ _ _)
      | (with_reducible exact erratumref02_Same.mono _ _ _ _ _ _ _)
      | (with_reducible exact LeO.refl _)
      | (with_reducible exact LeO.none _)
      | (with_reducible refine LeO.ite ?_ ?_)
      | (with_reducible refine LeO.bind ?_ (fun _ => ?_))
      | exact ih0 _ _ _ _ _ _ _ _ _ _ _ _ _ _ _ _
      | exact ih1 _ _ _ _ _ _ _ _ _ _ _ _ _ _ _ _ _ _
      | exact ih2 _ _ _ _ _ _ _ _ _ _ _ _ _ _ _ _ _
      | exact ih3 _ _ _ _ _ _ _ _ _ _ _ _ _ _ _ _ _
      | exact ih4 _ _ _ _ _ _ _ _ _ _ _ _ _ _ _ _ _
      | exact ih5 _ _ _ _ _ _ _ _ _ _ _ _ _ _ _ _ _ _
      | exact ih6 _ _ _ _ _ _ _ _ _ _ _ _ _ _ _ _ _
      | exact erratumref02_Same.mono _ _ _ _ _ _ _
      | exact LeO.none _
      | refine LeO.ite ?_ ?_
      | refine LeO.bind ?_ (fun _ => ?_)
    · intro y0 y1 y2 y3 y4 y5 y6 y7 y8 y9 y10 y11 y12 y13 y14 y15 y16 y17
      unfold erratumref05_Same.j0
      repeat' first
      | (with_reducible exact ih0 _ _ _ _ _ _ _ _ _ _ _ _ _ _ _ _)
      | (with_reducible exact ih1 _ _ _ _ _ _ _ _ _ _ _ _ _ _ _ _ _ _)
      | (with_reducible exact ih2 _ _ _ _ _ _ _ _ _ _ _ _ _ _ _ _ _)
      | (with_reducible exact ih3 _ _ _ _ _ _ _ _ _ _ _ _ _ _ _ _ _)
      | (with_reducible exact ih4 _ _ _ _ _ _ _ _ _ _ _ _ _ _ _ _ _)
      | (with_reducible exact ih5 _ _ _ _ _ _ _ _ _ _ _ _ _ _ _ _ _ _)
      | (with_reducible exact ih6 _ _ _ _ _ _ _ _ _ _ _ _ _ _ _ _ _)
      | (with_reducible exact erratumref02_Same.mono _ _ _ _ _ _ _)
      | (with_reducible exact LeO.refl _)
      | (with_reducible exact LeO.none _)
      | (with_reducible refine LeO.ite ?_ ?_)
      | (with_reducible refine LeO.bind ?_ (fun _ => ?_))
      | exact ih0 _ _ _ _ _ _ _ _ _ _ _ _ _ _ _ _
      | exact ih1 _ _ _ _ _ _ _ _ _ _ _ _ _ _ _ _ _ _
      | exact ih2 _ _ _ _ _ _ _ _ _ _ _ _ _ _ _ _ _
      | exact ih3 _ _ _ _ _ _ _ _ _ _ _ _ _ _ _ _ _
      | exact ih4 _ _ _ _ _ _ _ _ _ _ _ _ _ _ _ _ _
      | exact ih5 _ _ _ _ _ _ _ _ _ _ _ _ _ _ _ _ _ _
      | exact ih6 _ _ _ _ _ _ _ _ _ _ _ _ _ _ _ _ _
      | exact erratumref02_Same.mono _ _ _ _ _ _ _
      | exact LeO.none _
      | refine LeO.ite ?_ ?_
      | refine LeO.bind ?_ (fun _ => ?_)
    · intro y0 y1 y2 y3 y4 y5 y6 y7 y8 y9 y10 y11 y12 y13 y14 y15 y16
      unfold erratumref05_Same.j1
      repeat' first
      | (with_reducible exact ih0 _ _ _ _ _ _ _ _ _ _ _ _ _ _ _ _)
      | (with_reducible exact ih1 _ _ _ _ _ _ _ _ _ _ _ _ _ _ _ _ _ _)
      | (with_reducible exact ih2 _ _ _ _ _ _ _ _ _ _ _ _ _ _ _ _ _)
      | (with_reducible exact ih3 _ _ _ _ _ _ _ _ _ _ _ _ _ _ _ _ _)
      | (with_reducible exact ih4 _ _ _ _ _ _ _ _ _ _ _ _ _ _ _ _ _)
      | (with_reducible exact ih5 _ _ _ _ _ _ _ _ _ _ _ _ _ _ _ _ _ _)
      | (with_reducible exact ih6 _ _ _ _ _ _ _ _ _ _ _ _ _ _ _ _ _)
      | (with_reducible exact erratumref02_Same.mono _ _ _ _ _ _ _)
      | (with_reducible exact LeO.refl _)
      | (with_reducible exact LeO.none _)
      | (with_reducible refine LeO.ite ?_ ?_)
      | (with_reducible refine LeO.bind ?_ (fun _ => ?_))
      | exact ih0 _ _ _ _ _ _ _ _ _ _ _ _ _ _ _ _
      | exact ih1 _ _ _ _ _ _ _ _ _ _ _ _ _ _ _ _ _ _
      | exact ih2 _ _ _ _ _ _ _ _ _ _ _ _ _ _ _ _ _
      | exact ih3 _ _ _ _ _ _ _ _ _ _ _ _ _ _ _ _ _
      | exact ih4 _ _ _ _ _ _ _ _ _ _ _ _ _ _ _ _ _
      | exact ih5 _ _ _ _ _ _ _ _ _ _ _ _ _ _ _ _ _ _
      | exact ih6 _ _ _ _ _ _ _ _ _ _ _ _ _ _ _ _ _
      | exact erratumref02_Same.mono _ _ _ _ _ _ _
      | exact LeO.none _
      | refine LeO.ite ?_ ?_
      | refine LeO.bind ?_ (fun _ => ?_)
    · intro y0 y1 y2 y3 y4 y5 y6 y7 y8 y9 y10 y11 y12 y13 y14 y15 y16
      unfold erratumref05_Same.j2
      repeat' first
      | (with_reducible exact ih0 _ _ _ _ _ _ _ _ _ _ _ _ _ _ _ _)
      | (with_reducible exact ih1 _ _ _ _ _ _ _ _ _ _ _ _ _ _ _ _ _ _)
      | (with_reducible exact ih2 _ _ _ _ _ _ _ _ _ _ _ _ _ _ _ _ _)
      | (with_reducible exact ih3 _ _ _ _ _ _ _ _ _ _ _ _ _ _ _ _ _)
      | (with_reducible exact ih4 _ _ _ _ _ _ _ _ _ _ _ _ _ _ _ _ _)
      | (with_reducible exact ih5 _ _ _ _ _ _ _ _ _ _ _ _ _ _ _ _ _ _)
      | (with_reducible exact ih6 _ _ _ _ _ _ _ _ _ _ _ _ _ _ _ _ _)
      | (with_reducible exact erratumref02_Same.mono _ _ _ _ _ _ _)
      | (with_reducible exact LeO.refl _)
      | (with_reducible exact LeO.none _)
      | (with_reducible refine LeO.ite ?_ ?_)
      | (with_reducible refine LeO.bind ?_ (fun _ => ?_))
      | exact ih0 _ _ _ _ _ _ _ _ _ _ _ _ _ _ _ _
      | exact ih1 _ _ _ _ _ _ _ _ _ _ _ _ _ _ _ _ _ _
      | exact ih2 _ _ _ _ _ _ _ _ _ _ _ _ _ _ _ _ _
      | exact ih3 _ _ _ _ _ _ _ _ _ _ _ _ _ _ _ _ _
      | exact ih4 _ _ _ _ _ _ _ _ _ _ _ _ _ _ _ _ _
      | exact ih5 _ _ _ _ _ _ _ _ _ _ _ _ _ _ _ _ _ _
      | exact ih6 _ _ _ _ _ _ _ _ _ _ _ _ _ _ _ _ _
      | exact erratumref02_Same.mono _ _ _ _ _ _ _
      | exact LeO.none _
      | refine LeO.ite ?_ ?_
      | refine LeO.bind ?_ (fun _ => ?_)
    · intro y0 y1 y2 y3 y4 y5 y6 y7 y8 y9 y10 y11 y12 y13 y14 y15 y16
      unfold erratumref05_Same.l0
      repeat' first
      | (with_reducible exact ih0 _ _ _ _ _ _ _ _ _ _ _ _ _ _ _ _)
      | (with_reducible exact ih1 _ _ _ _ _ _ _ _ _ _ _ _ _ _ _ _ _ _)
      | (with_reducible exact ih2 _ _ _ _ _ _ _ _ _ _ _ _ _ _ _ _ _)
      | (with_reducible exact ih3 _ _ _ _ _ _ _ _ _ _ _ _ _ _ _ _ _)
      | (with_reducible exact ih4 _ _ _ _ _ _ _ _ _ _ _ _ _ _ _ _ _)
      | (with_reducible exact ih5 _ _ _ _ _ _ _ _ _ _ _ _ _ _ _ _ _ _)
      | (with_reducible exact ih6 _ _ _ _ _ _ _ _ _ _ _ _ _ _ _ _ _)
      | (with_reducible exact erratumref02_Same.mono _ _ _ _ _ _ _)
      | (with_reducible exact LeO.refl _)
      | (with_reducible exact LeO.none _)
      | (with_reducible refine LeO.ite ?_ ?_)
      | (with_reducible refine LeO.bind ?_ (fun _ => ?_))
      | exact ih0 _ _ _ _ _ _ _ _ _ _ _ _ _ _ _ _
      | exact ih1 _ _ _ _ _ _ _ _ _ _ _ _ _ _ _ _ _ _
      | exact ih2 _ _ _ _ _ _ _ _ _ _ _ _ _ _ _ _ _
      | exact ih3 _ _ _ _ _ _ _ _ _ _ _ _ _ _ _ _ _
      | exact ih4 _ _ _ _ _ _ _ _ _ _ _ _ _ _ _ _ _
      | exact ih5 _ _ _ _ _ _ _ _ _ _ _ _ _ _ _ _ _ _
      | exact ih6 _ _ _ _ _ _ _ _ _ _ _ _ _ _ _ _ _
      | exact erratumref02_Same.mono _ _ _ _ _ _ _
      | exact LeO.none _
      | refine LeO.ite ?_ ?_
      | refine LeO.bind ?_ (fun _ => ?_)
    · intro y0 y1 y2 y3 y4 y5 y6 y7 y8 y9 y10 y11 y12 y13 y14 y15 y16 y17
      unfold erratumref05_Same.j4
      repeat' first
      | (with_reducible exact ih0 _ _ _ _ _ _ _ _ _ _ _ _ _ _ _ _)
      | (with_reducible exact ih1 _ _ _ _ _ _ _ _ _ _ _ _ _ _ _ _ _ _)
      | (with_reducible exact ih2 _ _ _ _ _ _ _ _ _ _ _ _ _ _ _ _ _)
      | (with_reducible exact ih3 _ _ _ _ _ _ _ _ _ _ _ _ _ _ _ _ _)
      | (with_reducible exact ih4 _ _ _ _ _ _ _ _ _ _ _ _ _ _ _ _ _)
      | (with_reducible exact ih5 _ _ _ _ _ _ _ _ _ _ _ _ _ _ _ _ _ _)
      | (with_reducible exact ih6 _ _ _ _ _ _ _ _ _ _ _ _ _ _ _ _ _)
      | (with_reducible exact erratumref02_Same.mono _ _ _ _ _ _ _)
      | (with_reducible exact LeO.refl _)
      | (with_reducible exact LeO.none _)
      | (with_reducible refine LeO.ite ?_ ?_)
      | (with_reducible refine LeO.bind ?_ (fun _ => ?_))
      | exact ih0 _ _ _ _ _ _ _ _ _ _ _ _ _ _ _ _
      | exact ih1 _ _ _ _ _ _ _ _ _ _ _ _ _ _ _ _ _ _
      | exact ih2 _ _ _ _ _ _ _ _ _ _ _ _ _ _ _ _ _
      | exact ih3 _ _ _ _ _ _ _ _ _ _ _ _ _ _ _ _ _
      | exact ih4 _ _ _ _ _ _ _ _ _ _ _ _ _ _ _ _ _
      | exact ih5 _ _ _ _ _ _ _ _ _ _ _ _ _ _ _ _ _ _
      | exact ih6 _ _ _ _ _ _ _ _ _ _ _ _ _ _ _ _ _
      | exact erratumref02_Same.mono _ _ _ _ _ _ _
      | exact LeO.none _
      | refine LeO.ite ?_ ?_
      | refine LeO.bind ?_ (fun _ => ?_)
    · intro y0 y1 y2 y3 y4 y5 y6 y7 y8 y9 y10 y11 y12 y13 y14 y15 y16
      unfold erratumref05_Same.l1
      repeat' first
      | (with_reducible exact ih0 _ _ _ _ _ _ _ _ _ _ _ _ _ _ _ _)
      | (with_reducible exact ih1 _ _ _ _ _ _ _ _ _ _ _ _ _ _ _ _ _ _)
      | (with_reducible exact ih2 _ _ _ _ _ _ _ _ _ _ _ _ _ _ _ _ _)
      | (with_reducible exact ih3 _ _ _ _ _ _ _ _ _ _ _ _ _ _ _ _ _)
      | (with_reducible exact ih4 _ _ _ _ _ _ _ _ _ _ _ _ _ _ _ _ _)
      | (with_reducible exact ih5 _ _ _ _ _ _ _ _ _ _ _ _ _ _ _ _ _ _)
      | (with_reducible exact ih6 _ _ _ _ _ _ _ _ _ _ _ _ _ _ _ _ _)
      | (with_reducible exact erratumref02_Same.mono _ _ _ _ _ _ _)
      | (with_reducible exact LeO.refl _)
      | (with_reducible exact LeO.none _)
      | (with_reducible refine LeO.ite ?_ ?_)
      | (with_reducible refine LeO.bind ?_ (fun _ => ?_))
      | exact ih0 _ _ _ _ _ _ _ _ _ _ _ _ _ _ _ _
      | exact ih1 _ _ _ _ _ _ _ _ _ _ _ _ _ _ _ _ _ _
      | exact ih2 _ _ _ _ _ _ _ _ _ _ _ _ _ _ _ _ _
      | exact ih3 _ _ _ _ _ _ _ _ _ _ _ _ _ _ _ _ _
      | exact ih4 _ _ _ _ _ _ _ _ _ _ _ _ _ _ _ _ _
      | exact ih5 _ _ _ _ _ _ _ _ _ _ _ _ _ _ _ _ _ _
      | exact ih6 _ _ _ _ _ _ _ _ _ _ _ _ _ _ _ _ _
      | exact erratumref02_Same.mono _ _ _ _ _ _ _
      | exact LeO.none _
      | refine LeO.ite ?_ ?_
      | refine LeO.bind ?_ (fun _ => ?_)
theorem erratumref05_Same.mono : ∀ a0 a1 a2 a3 a4 a5 a6 a7 a8 a9 a10 a11 a12 a13 a14 a15 k, LeO (erratumref05_Same.f k a0 a1 a2 a3 a4 a5 a6 a7 a8 a9 a10 a11 a12 a13 a14 a15) (erratumref05_Same.f (k + 1) a0 a1 a2 a3 a4 a5 a6 a7 a8 a9 a10 a11 a12 a13 a14 a15) := by
  intro a0 a1 a2 a3 a4 a5 a6 a7 a8 a9 a10 a11 a12 a13 a14 a15 k
  obtain ⟨ih0, ih1, ih2, ih3, ih4, ih5, ih6⟩ := erratumref05_Same.mono_l k
  exact ih0 a0 a1 a2 a3 a4 a5 a6 a7 a8 a9 a10 a11 a12 a13 a14 a15
def erratumref05_Same.T18 : Bool × List (List Nat × List Nat) := (true, [([], []), ([0], [0]), ([], []), ([1, 2], [1, 2]), ([3], [3]), ([], []), ([5], [5]), ([], []), ([6, 7], [6, 7]), ([8], [8]), ([4, 9], [4, 9])])
def erratumref05_Same.B18 : List Nat := [0, 1, 0, 7, 15, 0, 32, 0, 224, 480, 1023]
theorem erratumref05_Same.tab18 : rtab .any (opsOf Try.f33 18) = erratumref05_Same.T18 := by kernel_rfl
theorem erratumref05_Same.bits18 : waitsOk erratumref05_Same.T18.2 erratumref05_Same.B18 = true := by kernel_rfl
def erratumref05_Same.T23 : Bool × List (List Nat × List Nat) := (true, [([], []), ([0], [0]), ([], []), ([1, 2], [1, 2]), ([3], [3]), ([], []), ([5], [5]), ([], []), ([6, 7], [6, 7]), ([8], [8]), ([4, 9], [4, 9]), ([10], [10])])
def erratumref05_Same.B23 : List Nat := [0, 1, 0, 7, 15, 0, 32, 0, 224, 480, 1023, 2047]
theorem erratumref05_Same.tab23 : rtab .any (opsOf Try.f33 23) = erratumref05_Same.T23 := by kernel_rfl
theorem erratumref05_Same.bits23 : waitsOk erratumref05_Same.T23.2 erratumref05_Same.B23 = true := by kernel_rfl
set_option maxHeartbeats 8000000 in
set_option maxRecDepth 100000 in
theorem erratumref05_Same.calls (k : Nat) : ∀ (a0_0 : Int) (a0_1 : Bool) (a0_2 : Bool) (A0_3 : Option Addr) (c0_3 : Nat) (l0_3 : List Int) (a0_4 : Int) (a0_5 : ByteArray) (A0_6 : Option Addr) (c0_6 : Nat) (l0_6 : List ByteArray) (A0_7 : Option Addr) (c0_7 : Nat) (l0_7 : List (S50)) (a1_0 : Int) (a1_1 : Bool) (a1_2 : Bool) (A1_3 : Option Addr) (c1_3 : Nat) (l1_3 : List Int) (a1_4 : Int) (a1_5 : ByteArray) (A1_6 : Option Addr) (c1_6 : Nat) (l1_6 : List ByteArray) (A1_7 : Option Addr) (c1_7 : Nat) (l1_7 : List (S50)) (r : Bool) (w : World) (hr0_3 : Kd.C (Kd.int .u32) w A0_3 l0_3.length l0_3) (hc0_3 : l0_3.length ≤ c0_3) (hr0_6 : Kd.C Kd.string w A0_6 l0_6.length l0_6) (hc0_6 : l0_6.length ≤ c0_6) (hr0_7 : Kd.C k50 w A0_7 l0_7.length l0_7) (hc0_7 : l0_7.length ≤ c0_7) (hr1_3 : Kd.C (Kd.int .u32) w A1_3 l1_3.length l1_3) (hc1_3 : l1_3.length ≤ c1_3) (hr1_6 : Kd.C Kd.string w A1_6 l1_6.length l1_6) (hc1_6 : l1_6.length ≤ c1_6) (hr1_7 : Kd.C k50 w A1_7 l1_7.length l1_7) (hc1_7 : l1_7.length ≤ c1_7) (h : erratumref05_Same.f k a0_0 a0_1 a0_2 l0_3 a0_4 a0_5 l0_6 l0_7 a1_0 a1_1 a1_2 l1_3 a1_4 a1_5 l1_6 l1_7 = some r),
    Calls Try.prog 33 #[.agg #[.int .i64 a0_0, .bool a0_1, .bool a0_2, .slice A0_3 l0_3.length c0_3, .int .i64 a0_4, .string a0_5, .slice A0_6 l0_6.length c0_6, .slice A0_7 l0_7.length c0_7], .agg #[.int .i64 a1_0, .bool a1_1, .bool a1_2, .slice A1_3 l1_3.length c1_3, .int .i64 a1_4, .string a1_5, .slice A1_6 l1_6.length c1_6, .slice A1_7 l1_7.length c1_7]] w fun e w' => e = .returned (.bool r) ∧ Below w.heap.size w w' := by
  induction k using Nat.strongRecOn with
  | _ k ih =>
  intro a0_0 a0_1 a0_2 A0_3 c0_3 l0_3 a0_4 a0_5 A0_6 c0_6 l0_6 A0_7 c0_7 l0_7 a1_0 a1_1 a1_2 A1_3 c1_3 l1_3 a1_4 a1_5 A1_6 c1_6 l1_6 A1_7 c1_7 l1_7 r w hr0_3 hc0_3 hr0_6 hc0_6 hr0_7 hc0_7 hr1_3 hc1_3 hr1_6 hc1_6 hr1_7 hc1_7 h
  cases k with
  | zero => exact absurd h (by simp [erratumref05_Same.f])
  | succ k =>
  simp only [erratumref05_Same.f] at h
  have hu50 := Try.underlying50
  have hu48 := Try.underlying48
  have HR0_3 := Aside0.mk hr0_3
  have HC0_3 := Aside0.mk hc0_3
  clear hr0_3 hc0_3
  have HR0_6 := Aside0.mk hr0_6
  have HC0_6 := Aside0.mk hc0_6
  clear hr0_6 hc0_6
  have HR0_7 := Aside0.mk hr0_7
  have HC0_7 := Aside0.mk hc0_7
  clear hr0_7 hc0_7
  have HR1_3 := Aside0.mk hr1_3
  have HC1_3 := Aside0.mk hc1_3
  clear hr1_3 hc1_3
  have HR1_6 := Aside0.mk hr1_6
  have HC1_6 := Aside0.mk hc1_6
  clear hr1_6 hc1_6
  have HR1_7 := Aside0.mk hr1_7
  have HC1_7 := Aside0.mk hc1_7
  clear hr1_7 hc1_7
  have HB := Aside0.mk (Below.refl w.heap.size w)
  have H : (if a0_0 = a1_0 then (if a0_0 = 2 then (some (a0_1 == a1_1)) else (if a0_0 = 3 then ((erratumref02_Same.f k a0_2 l0_3 a0_4 a1_2 l1_3 a1_4).bind fun t524 => (some t524)) else (if a0_0 = 4 then (erratumref05_Same.j0 k a0_0 (a0_0 == 4) a0_0 a0_1 a0_2 l0_3 a0_4 a0_5 l0_6 l0_7 a1_0 a1_1 a1_2 l1_3 a1_4 a1_5 l1_6 l1_7) else (erratumref05_Same.j0 k a0_0 (a0_0 == 5) a0_0 a0_1 a0_2 l0_3 a0_4 a0_5 l0_6 l0_7 a1_0 a1_1 a1_2 l1_3 a1_4 a1_5 l1_6 l1_7)))) else (some false)) = some r := h
  clear h
  by_cases c3 : a0_0 = a1_0
  · rw [if_pos c3] at H
    have c3b0 : (a0_0 == a1_0) = true := beq_iff_eq.mpr c3
    have c3b1 : (a0_0 != a1_0) = false := bne_eq_false_iff_eq.mpr c3
    clear c3
    by_cases c4 : a0_0 = 2
    · rw [if_pos c4] at H
      have c4b0 : (a0_0 == 2) = true := beq_iff_eq.mpr c4
      have c4b1 : (a0_0 != 2) = false := bne_eq_false_iff_eq.mpr c4
      clear c4
      obtain rfl := Option.some.inj H
      go_enter Try.func33, Try.ntmps33
      go_wp2_with (first | ((with_reducible refine gate_dst (N := 2) rfl ?_); (try (refine gate_guard (by rfl) ?_; dsimp only)); refine box_event ?hg (N := 2) ?hd (cs := #[.int .i64 a0_0, .bool a0_1, .bool a0_2, .slice A0_3 l0_3.length c0_3, .int .i64 a0_4, .string a0_5, .slice A0_6 l0_6.length c0_6, .slice A0_7 l0_7.length c0_7]) (t := 50) ?hr ?_; (case hd => rfl); (case hg => rfl); (case hr => first | (go_simp; done) | (go_simp; rfl)); intro gb522 hg w5 hbox hb; have n0_ := Aside0.mk (below_step (by repeat (first | (with_reducible first | exact HB.out | apply below_alloc | apply pw_below_drewN | apply below_drew1) | exact HB.out)) hb); have n1_ := Aside0.mk (hbox); have n2_ := Aside0.mk ((by rw [hg]; exact (below_size (by repeat (first | (with_reducible first | exact HB.out | apply below_alloc | apply pw_below_drewN | apply below_drew1) | exact HB.out))) : w.heap.size ≤ gb522)); have n3_ := Aside0.mk ((by rw [hg]; exact (below_size (by repeat (first | (with_reducible first | exact HB.out | apply below_alloc | apply pw_below_drewN | apply below_drew1) | exact HB.out))) : w.heap.size ≤ gb522)); clear HB; have HB := n0_; have BK522 := n1_; have GW522 := n2_; have GE522 := n3_; clear n0_ n1_ n2_ n3_; clear hb hbox hg) | ((with_reducible refine gate_dst (N := 3) rfl ?_); (try (refine gate_guard (by rfl) ?_; dsimp only)); refine box_event ?hg (N := 3) ?hd (cs := #[.int .i64 a1_0, .bool a1_1, .bool a1_2, .slice A1_3 l1_3.length c1_3, .int .i64 a1_4, .string a1_5, .slice A1_6 l1_6.length c1_6, .slice A1_7 l1_7.length c1_7]) (t := 50) ?hr ?_; (case hd => rfl); (case hg => rfl); (case hr => first | (go_simp; done) | (go_simp; rfl)); intro gb523 hg w6 hbox hb; have n0_ := Aside0.mk (blk_below (g := gb522) (o := .cells #[.int .i64 a0_0, .bool a0_1, .bool a0_2, .slice A0_3 l0_3.length c0_3, .int .i64 a0_4, .string a0_5, .slice A0_6 l0_6.length c0_6, .slice A0_7 l0_7.length c0_7] 50 (0, 0)) (by (with_reducible repeat (first | refine blk_drewN ?_ _ | refine blk_drew ?_ | refine blk_alloc ?_ _)); exact BK522.out) hb); have n1_ := Aside0.mk (below_step (by repeat (first | (with_reducible first | exact HB.out | apply below_alloc | apply pw_below_drewN | apply below_drew1 | refine below_set ?_ GE522.out) | exact HB.out)) hb); have n2_ := Aside0.mk (hbox); have n3_ := Aside0.mk ((by rw [hg]; exact (below_size (by repeat (first | (with_reducible first | exact HB.out | apply below_alloc | apply pw_below_drewN | apply below_drew1 | refine below_set ?_ GE522.out) | exact HB.out))) : w.heap.size ≤ gb523)); have n4_ := Aside0.mk ((by rw [hg]; exact (below_size (by repeat (first | (with_reducible first | exact HB.out | apply below_alloc | apply pw_below_drewN | apply below_drew1 | refine below_set ?_ GE522.out) | exact HB.out))) : w.heap.size ≤ gb523)); have n5_ := Aside0.mk ((by rw [hg]; exact Nat.ne_of_lt (blk_lt (g := gb522) (o := .cells #[.int .i64 a0_0, .bool a0_1, .bool a0_2, .slice A0_3 l0_3.length c0_3, .int .i64 a0_4, .string a0_5, .slice A0_6 l0_6.length c0_6, .slice A0_7 l0_7.length c0_7] 50 (0, 0)) (by (with_reducible repeat (first | refine blk_drewN ?_ _ | refine blk_drew ?_ | refine blk_alloc ?_ _)); exact BK522.out)) : gb522 ≠ gb523)); have n6_ := Aside0.mk ((by rw [hg]; exact Nat.ne_of_gt (blk_lt (g := gb522) (o := .cells #[.int .i64 a0_0, .bool a0_1, .bool a0_2, .slice A0_3 l0_3.length c0_3, .int .i64 a0_4, .string a0_5, .slice A0_6 l0_6.length c0_6, .slice A0_7 l0_7.length c0_7] 50 (0, 0)) (by (with_reducible repeat (first | refine blk_drewN ?_ _ | refine blk_drew ?_ | refine blk_alloc ?_ _)); exact BK522.out)) : gb523 ≠ gb522)); clear BK522; clear HB; have BK522 := n0_; have HB := n1_; have BK523 := n2_; have GW523 := n3_; have GE523 := n4_; have NB522_523 := n5_; have NB523_522 := n6_; clear n0_ n1_ n2_ n3_ n4_ n5_ n6_; clear hb hbox hg; have hnb7 := NB522_523.out; have hnc7 := NB523_522.out; have hcz8_0 : w6.cell? ⟨gb522, 0, none⟩ = some (.int .i64 a0_0) := (blk_cell BK522.out 0).trans rfl; have hcz8_1 : w6.cell? ⟨gb522, 1, none⟩ = some (.bool a0_1) := (blk_cell BK522.out 1).trans rfl; have hcz8_2 : w6.cell? ⟨gb522, 2, none⟩ = some (.bool a0_2) := (blk_cell BK522.out 2).trans rfl; have hcz8_3 : w6.cell? ⟨gb522, 3, none⟩ = some (.slice A0_3 l0_3.length c0_3) := (blk_cell BK522.out 3).trans rfl; have hcz8_4 : w6.cell? ⟨gb522, 4, none⟩ = some (.int .i64 a0_4) := (blk_cell BK522.out 4).trans rfl; have hcz8_5 : w6.cell? ⟨gb522, 5, none⟩ = some (.string a0_5) := (blk_cell BK522.out 5).trans rfl; have hcz8_6 : w6.cell? ⟨gb522, 6, none⟩ = some (.slice A0_6 l0_6.length c0_6) := (blk_cell BK522.out 6).trans rfl; have hcz8_7 : w6.cell? ⟨gb522, 7, none⟩ = some (.slice A0_7 l0_7.length c0_7) := (blk_cell BK522.out 7).trans rfl; have hfz8_0 := blk_frozen BK522.out 0; have hfz8_1 := blk_frozen BK522.out 1; have hfz8_2 := blk_frozen BK522.out 2; have hfz8_3 := blk_frozen BK522.out 3; have hfz8_4 := blk_frozen BK522.out 4; have hfz8_5 := blk_frozen BK522.out 5; have hfz8_6 := blk_frozen BK522.out 6; have hfz8_7 := blk_frozen BK522.out 7; have hcz9_0 : w6.cell? ⟨gb523, 0, none⟩ = some (.int .i64 a1_0) := (blk_cell BK523.out 0).trans rfl; have hcz9_1 : w6.cell? ⟨gb523, 1, none⟩ = some (.bool a1_1) := (blk_cell BK523.out 1).trans rfl; have hcz9_2 : w6.cell? ⟨gb523, 2, none⟩ = some (.bool a1_2) := (blk_cell BK523.out 2).trans rfl; have hcz9_3 : w6.cell? ⟨gb523, 3, none⟩ = some (.slice A1_3 l1_3.length c1_3) := (blk_cell BK523.out 3).trans rfl; have hcz9_4 : w6.cell? ⟨gb523, 4, none⟩ = some (.int .i64 a1_4) := (blk_cell BK523.out 4).trans rfl; have hcz9_5 : w6.cell? ⟨gb523, 5, none⟩ = some (.string a1_5) := (blk_cell BK523.out 5).trans rfl; have hcz9_6 : w6.cell? ⟨gb523, 6, none⟩ = some (.slice A1_6 l1_6.length c1_6) := (blk_cell BK523.out 6).trans rfl; have hcz9_7 : w6.cell? ⟨gb523, 7, none⟩ = some (.slice A1_7 l1_7.length c1_7) := (blk_cell BK523.out 7).trans rfl; have hfz9_0 := blk_frozen BK523.out 0; have hfz9_1 := blk_frozen BK523.out 1; have hfz9_2 := blk_frozen BK523.out 2; have hfz9_3 := blk_frozen BK523.out 3; have hfz9_4 := blk_frozen BK523.out 4; have hfz9_5 := blk_frozen BK523.out 5; have hfz9_6 := blk_frozen BK523.out 6; have hfz9_7 := blk_frozen BK523.out 7))
      go_ret
      exact ⟨by first | rfl | (simp [errW_none, errW_some] <;> rfl) | (simp [*, errW_none, errW_some] <;> rfl), by repeat (first | (with_reducible first | exact HB.out | apply below_alloc | apply pw_below_drewN | apply below_drew1 | refine below_set ?_ GE522.out | refine below_set ?_ GE523.out) | exact HB.out)⟩
    · rw [if_neg c4] at H
      have c4b0 : (a0_0 == 2) = false := beq_eq_false_iff_ne.mpr c4
      have c4b1 : (a0_0 != 2) = true := bne_iff_ne.mpr c4
      by_cases c10 : a0_0 = 3
      · rw [if_pos c10] at H
        have c10b0 : (a0_0 == 3) = true := beq_iff_eq.mpr c10
        have c10b1 : (a0_0 != 3) = false := bne_eq_false_iff_eq.mpr c10
        clear c10
        replace H := Option.bind_eq_some_iff.mp H
        obtain ⟨t524, A110, H⟩ := H
        replace H : (some t524) = some r := H
        have A11 := Aside0.mk A110
        clear A110
        obtain rfl := Option.some.inj H
        go_enter Try.func33, Try.ntmps33
        go_wp2_with (first | ((with_reducible refine gate_dst (N := 2) rfl ?_); (try (refine gate_guard (by rfl) ?_; dsimp only)); refine box_event ?hg (N := 2) ?hd (cs := #[.int .i64 a0_0, .bool a0_1, .bool a0_2, .slice A0_3 l0_3.length c0_3, .int .i64 a0_4, .string a0_5, .slice A0_6 l0_6.length c0_6, .slice A0_7 l0_7.length c0_7]) (t := 50) ?hr ?_; (case hd => rfl); (case hg => rfl); (case hr => first | (go_simp; done) | (go_simp; rfl)); intro gb522 hg w12 hbox hb; have n0_ := Aside0.mk (below_step (by repeat (first | (with_reducible first | exact HB.out | apply below_alloc | apply pw_below_drewN | apply below_drew1) | exact HB.out)) hb); have n1_ := Aside0.mk (hbox); have n2_ := Aside0.mk ((by rw [hg]; exact (below_size (by repeat (first | (with_reducible first | exact HB.out | apply below_alloc | apply pw_below_drewN | apply below_drew1) | exact HB.out))) : w.heap.size ≤ gb522)); have n3_ := Aside0.mk ((by rw [hg]; exact (below_size (by repeat (first | (with_reducible first | exact HB.out | apply below_alloc | apply pw_below_drewN | apply below_drew1) | exact HB.out))) : w.heap.size ≤ gb522)); clear HB; have HB := n0_; have BK522 := n1_; have GW522 := n2_; have GE522 := n3_; clear n0_ n1_ n2_ n3_; clear hb hbox hg) | ((with_reducible refine gate_dst (N := 3) rfl ?_); (try (refine gate_guard (by rfl) ?_; dsimp only)); refine box_event ?hg (N := 3) ?hd (cs := #[.int .i64 a1_0, .bool a1_1, .bool a1_2, .slice A1_3 l1_3.length c1_3, .int .i64 a1_4, .string a1_5, .slice A1_6 l1_6.length c1_6, .slice A1_7 l1_7.length c1_7]) (t := 50) ?hr ?_; (case hd => rfl); (case hg => rfl); (case hr => first | (go_simp; done) | (go_simp; rfl)); intro gb523 hg w13 hbox hb; have n0_ := Aside0.mk (blk_below (g := gb522) (o := .cells #[.int .i64 a0_0, .bool a0_1, .bool a0_2, .slice A0_3 l0_3.length c0_3, .int .i64 a0_4, .string a0_5, .slice A0_6 l0_6.length c0_6, .slice A0_7 l0_7.length c0_7] 50 (0, 0)) (by (with_reducible repeat (first | refine blk_drewN ?_ _ | refine blk_drew ?_ | refine blk_alloc ?_ _)); exact BK522.out) hb); have n1_ := Aside0.mk (below_step (by repeat (first | (with_reducible first | exact HB.out | apply below_alloc | apply pw_below_drewN | apply below_drew1 | refine below_set ?_ GE522.out) | exact HB.out)) hb); have n2_ := Aside0.mk (hbox); have n3_ := Aside0.mk ((by rw [hg]; exact (below_size (by repeat (first | (with_reducible first | exact HB.out | apply below_alloc | apply pw_below_drewN | apply below_drew1 | refine below_set ?_ GE522.out) | exact HB.out))) : w.heap.size ≤ gb523)); have n4_ := Aside0.mk ((by rw [hg]; exact (below_size (by repeat (first | (with_reducible first | exact HB.out | apply below_alloc | apply pw_below_drewN | apply below_drew1 | refine below_set ?_ GE522.out) | exact HB.out))) : w.heap.size ≤ gb523)); have n5_ := Aside0.mk ((by rw [hg]; exact Nat.ne_of_lt (blk_lt (g := gb522) (o := .cells #[.int .i64 a0_0, .bool a0_1, .bool a0_2, .slice A0_3 l0_3.length c0_3, .int .i64 a0_4, .string a0_5, .slice A0_6 l0_6.length c0_6, .slice A0_7 l0_7.length c0_7] 50 (0, 0)) (by (with_reducible repeat (first | refine blk_drewN ?_ _ | refine blk_drew ?_ | refine blk_alloc ?_ _)); exact BK522.out)) : gb522 ≠ gb523)); have n6_ := Aside0.mk ((by rw [hg]; exact Nat.ne_of_gt (blk_lt (g := gb522) (o := .cells #[.int .i64 a0_0, .bool a0_1, .bool a0_2, .slice A0_3 l0_3.length c0_3, .int .i64 a0_4, .string a0_5, .slice A0_6 l0_6.length c0_6, .slice A0_7 l0_7.length c0_7] 50 (0, 0)) (by (with_reducible repeat (first | refine blk_drewN ?_ _ | refine blk_drew ?_ | refine blk_alloc ?_ _)); exact BK522.out)) : gb523 ≠ gb522)); clear BK522; clear HB; have BK522 := n0_; have HB := n1_; have BK523 := n2_; have GW523 := n3_; have GE523 := n4_; have NB522_523 := n5_; have NB523_522 := n6_; clear n0_ n1_ n2_ n3_ n4_ n5_ n6_; clear hb hbox hg; have hnb14 := NB522_523.out; have hnc14 := NB523_522.out; have hcz15_0 : w13.cell? ⟨gb522, 0, none⟩ = some (.int .i64 a0_0) := (blk_cell BK522.out 0).trans rfl; have hcz15_1 : w13.cell? ⟨gb522, 1, none⟩ = some (.bool a0_1) := (blk_cell BK522.out 1).trans rfl; have hcz15_2 : w13.cell? ⟨gb522, 2, none⟩ = some (.bool a0_2) := (blk_cell BK522.out 2).trans rfl; have hcz15_3 : w13.cell? ⟨gb522, 3, none⟩ = some (.slice A0_3 l0_3.length c0_3) := (blk_cell BK522.out 3).trans rfl; have hcz15_4 : w13.cell? ⟨gb522, 4, none⟩ = some (.int .i64 a0_4) := (blk_cell BK522.out 4).trans rfl; have hcz15_5 : w13.cell? ⟨gb522, 5, none⟩ = some (.string a0_5) := (blk_cell BK522.out 5).trans rfl; have hcz15_6 : w13.cell? ⟨gb522, 6, none⟩ = some (.slice A0_6 l0_6.length c0_6) := (blk_cell BK522.out 6).trans rfl; have hcz15_7 : w13.cell? ⟨gb522, 7, none⟩ = some (.slice A0_7 l0_7.length c0_7) := (blk_cell BK522.out 7).trans rfl; have hfz15_0 := blk_frozen BK522.out 0; have hfz15_1 := blk_frozen BK522.out 1; have hfz15_2 := blk_frozen BK522.out 2; have hfz15_3 := blk_frozen BK522.out 3; have hfz15_4 := blk_frozen BK522.out 4; have hfz15_5 := blk_frozen BK522.out 5; have hfz15_6 := blk_frozen BK522.out 6; have hfz15_7 := blk_frozen BK522.out 7; have hcz16_0 : w13.cell? ⟨gb523, 0, none⟩ = some (.int .i64 a1_0) := (blk_cell BK523.out 0).trans rfl; have hcz16_1 : w13.cell? ⟨gb523, 1, none⟩ = some (.bool a1_1) := (blk_cell BK523.out 1).trans rfl; have hcz16_2 : w13.cell? ⟨gb523, 2, none⟩ = some (.bool a1_2) := (blk_cell BK523.out 2).trans rfl; have hcz16_3 : w13.cell? ⟨gb523, 3, none⟩ = some (.slice A1_3 l1_3.length c1_3) := (blk_cell BK523.out 3).trans rfl; have hcz16_4 : w13.cell? ⟨gb523, 4, none⟩ = some (.int .i64 a1_4) := (blk_cell BK523.out 4).trans rfl; have hcz16_5 : w13.cell? ⟨gb523, 5, none⟩ = some (.string a1_5) := (blk_cell BK523.out 5).trans rfl; have hcz16_6 : w13.cell? ⟨gb523, 6, none⟩ = some (.slice A1_6 l1_6.length c1_6) := (blk_cell BK523.out 6).trans rfl; have hcz16_7 : w13.cell? ⟨gb523, 7, none⟩ = some (.slice A1_7 l1_7.length c1_7) := (blk_cell BK523.out 7).trans rfl; have hfz16_0 := blk_frozen BK523.out 0; have hfz16_1 := blk_frozen BK523.out 1; have hfz16_2 := blk_frozen BK523.out 2; have hfz16_3 := blk_frozen BK523.out 3; have hfz16_4 := blk_frozen BK523.out 4; have hfz16_5 := blk_frozen BK523.out 5; have hfz16_6 := blk_frozen BK523.out 6; have hfz16_7 := blk_frozen BK523.out 7) | ((with_reducible refine gate_callee (f := 46) rfl ?_); refine goesL_ (some 27) rfl rfl Try.func46 (by kernel_rfl) rfl #[.agg #[.bool a0_2, .slice A0_3 l0_3.length c0_3, .int .i64 a0_4], .agg #[.bool a1_2, .slice A1_3 l1_3.length c1_3, .int .i64 a1_4]] rfl (by (try simp only [List.map_toArray, List.map_cons, List.map_nil]); first | done | rfl | (simp only [List.length_drop, List.length_take]; rfl)) ?_; (with_reducible refine (erratumref02_Same.calls k a0_2 _ _ l0_3 a0_4 a1_2 _ _ l1_3 a1_4 t524 _ ?side1 ?side2 ?side3 ?side4 A11.out).mono ?_); (case side1 => repeat (first | exact (Kd.C_below HR0_3.out HB.out) | (with_reducible refine Kd.C_alloc ?_ _) | (with_reducible refine Kd.C_drewN ?_ _) | (with_reducible refine Kd.C_drew ?_))); (case side2 => exact HC0_3.out); (case side3 => repeat (first | exact (Kd.C_below HR1_3.out HB.out) | (with_reducible refine Kd.C_alloc ?_ _) | (with_reducible refine Kd.C_drewN ?_ _) | (with_reducible refine Kd.C_drew ?_))); (case side4 => exact HC1_3.out); rintro e w17 ⟨rfl, hb⟩; refine ⟨_, rfl, ?_⟩; have n0_ := Aside0.mk (blk_below (g := gb522) (o := .cells #[.int .i64 a0_0, .bool a0_1, .bool a0_2, .slice A0_3 l0_3.length c0_3, .int .i64 a0_4, .string a0_5, .slice A0_6 l0_6.length c0_6, .slice A0_7 l0_7.length c0_7] 50 (0, 0)) (by (with_reducible repeat (first | refine blk_drewN ?_ _ | refine blk_drew ?_ | refine blk_alloc ?_ _)); exact BK522.out) hb); have n1_ := Aside0.mk (blk_below (g := gb523) (o := .cells #[.int .i64 a1_0, .bool a1_1, .bool a1_2, .slice A1_3 l1_3.length c1_3, .int .i64 a1_4, .string a1_5, .slice A1_6 l1_6.length c1_6, .slice A1_7 l1_7.length c1_7] 50 (0, 0)) (by (with_reducible repeat (first | refine blk_drewN ?_ _ | refine blk_drew ?_ | refine blk_alloc ?_ _)); exact BK523.out) hb); have n2_ := Aside0.mk (below_step (by repeat (first | (with_reducible first | exact HB.out | apply below_alloc | apply pw_below_drewN | apply below_drew1 | refine below_set ?_ GE522.out | refine below_set ?_ GE523.out) | exact HB.out)) hb); clear BK522; clear BK523; clear HB; have BK522 := n0_; have BK523 := n1_; have HB := n2_; clear n0_ n1_ n2_; (try clear hb); (try clear hb2); (try clear hk); (try clear hi)))
        go_ret
        exact ⟨by first | rfl | (simp [errW_none, errW_some] <;> rfl) | (simp [*, errW_none, errW_some] <;> rfl), by repeat (first | (with_reducible first | exact HB.out | apply below_alloc | apply pw_below_drewN | apply below_drew1 | refine below_set ?_ GE522.out | refine below_set ?_ GE523.out) | exact HB.out)⟩
      · rw [if_neg c10] at H
        have c10b0 : (a0_0 == 3) = false := beq_eq_false_iff_ne.mpr c10
        have c10b1 : (a0_0 != 3) = true := bne_iff_ne.mpr c10
        have HC18 := Aside0.mk H
        clear H
        go_enter Try.func33, Try.ntmps33
        go_upto_if 28 with (first | ((with_reducible refine gate_dst (N := 2) rfl ?_); (try (refine gate_guard (by rfl) ?_; dsimp only)); refine box_event ?hg (N := 2) ?hd (cs := #[.int .i64 a0_0, .bool a0_1, .bool a0_2, .slice A0_3 l0_3.length c0_3, .int .i64 a0_4, .string a0_5, .slice A0_6 l0_6.length c0_6, .slice A0_7 l0_7.length c0_7]) (t := 50) ?hr ?_; (case hd => rfl); (case hg => rfl); (case hr => first | (go_simp; done) | (go_simp; rfl)); intro gb522 hg w19 hbox hb; have n0_ := Aside0.mk (below_step (by repeat (first | (with_reducible first | exact HB.out | apply below_alloc | apply pw_below_drewN | apply below_drew1) | exact HB.out)) hb); have n1_ := Aside0.mk (hbox); have n2_ := Aside0.mk ((by rw [hg]; exact (below_size (by repeat (first | (with_reducible first | exact HB.out | apply below_alloc | apply pw_below_drewN | apply below_drew1) | exact HB.out))) : w.heap.size ≤ gb522)); have n3_ := Aside0.mk ((by rw [hg]; exact (below_size (by repeat (first | (with_reducible first | exact HB.out | apply below_alloc | apply pw_below_drewN | apply below_drew1) | exact HB.out))) : w.heap.size ≤ gb522)); clear HB; have HB := n0_; have BK522 := n1_; have GW522 := n2_; have GE522 := n3_; clear n0_ n1_ n2_ n3_; clear hb hbox hg) | ((with_reducible refine gate_dst (N := 3) rfl ?_); (try (refine gate_guard (by rfl) ?_; dsimp only)); refine box_event ?hg (N := 3) ?hd (cs := #[.int .i64 a1_0, .bool a1_1, .bool a1_2, .slice A1_3 l1_3.length c1_3, .int .i64 a1_4, .string a1_5, .slice A1_6 l1_6.length c1_6, .slice A1_7 l1_7.length c1_7]) (t := 50) ?hr ?_; (case hd => rfl); (case hg => rfl); (case hr => first | (go_simp; done) | (go_simp; rfl)); intro gb523 hg w20 hbox hb; have n0_ := Aside0.mk (blk_below (g := gb522) (o := .cells #[.int .i64 a0_0, .bool a0_1, .bool a0_2, .slice A0_3 l0_3.length c0_3, .int .i64 a0_4, .string a0_5, .slice A0_6 l0_6.length c0_6, .slice A0_7 l0_7.length c0_7] 50 (0, 0)) (by (with_reducible repeat (first | refine blk_drewN ?_ _ | refine blk_drew ?_ | refine blk_alloc ?_ _)); exact BK522.out) hb); have n1_ := Aside0.mk (below_step (by repeat (first | (with_reducible first | exact HB.out | apply below_alloc | apply pw_below_drewN | apply below_drew1 | refine below_set ?_ GE522.out) | exact HB.out)) hb); have n2_ := Aside0.mk (hbox); have n3_ := Aside0.mk ((by rw [hg]; exact (below_size (by repeat (first | (with_reducible first | exact HB.out | apply below_alloc | apply pw_below_drewN | apply below_drew1 | refine below_set ?_ GE522.out) | exact HB.out))) : w.heap.size ≤ gb523)); have n4_ := Aside0.mk ((by rw [hg]; exact (below_size (by repeat (first | (with_reducible first | exact HB.out | apply below_alloc | apply pw_below_drewN | apply below_drew1 | refine below_set ?_ GE522.out) | exact HB.out))) : w.heap.size ≤ gb523)); have n5_ := Aside0.mk ((by rw [hg]; exact Nat.ne_of_lt (blk_lt (g := gb522) (o := .cells #[.int .i64 a0_0, .bool a0_1, .bool a0_2, .slice A0_3 l0_3.length c0_3, .int .i64 a0_4, .string a0_5, .slice A0_6 l0_6.length c0_6, .slice A0_7 l0_7.length c0_7] 50 (0, 0)) (by (with_reducible repeat (first | refine blk_drewN ?_ _ | refine blk_drew ?_ | refine blk_alloc ?_ _)); exact BK522.out)) : gb522 ≠ gb523)); have n6_ := Aside0.mk ((by rw [hg]; exact Nat.ne_of_gt (blk_lt (g := gb522) (o := .cells #[.int .i64 a0_0, .bool a0_1, .bool a0_2, .slice A0_3 l0_3.length c0_3, .int .i64 a0_4, .string a0_5, .slice A0_6 l0_6.length c0_6, .slice A0_7 l0_7.length c0_7] 50 (0, 0)) (by (with_reducible repeat (first | refine blk_drewN ?_ _ | refine blk_drew ?_ | refine blk_alloc ?_ _)); exact BK522.out)) : gb523 ≠ gb522)); clear BK522; clear HB; have BK522 := n0_; have HB := n1_; have BK523 := n2_; have GW523 := n3_; have GE523 := n4_; have NB522_523 := n5_; have NB523_522 := n6_; clear n0_ n1_ n2_ n3_ n4_ n5_ n6_; clear hb hbox hg; have hnb21 := NB522_523.out; have hnc21 := NB523_522.out; have hcz22_0 : w20.cell? ⟨gb522, 0, none⟩ = some (.int .i64 a0_0) := (blk_cell BK522.out 0).trans rfl; have hcz22_1 : w20.cell? ⟨gb522, 1, none⟩ = some (.bool a0_1) := (blk_cell BK522.out 1).trans rfl; have hcz22_2 : w20.cell? ⟨gb522, 2, none⟩ = some (.bool a0_2) := (blk_cell BK522.out 2).trans rfl; have hcz22_3 : w20.cell? ⟨gb522, 3, none⟩ = some (.slice A0_3 l0_3.length c0_3) := (blk_cell BK522.out 3).trans rfl; have hcz22_4 : w20.cell? ⟨gb522, 4, none⟩ = some (.int .i64 a0_4) := (blk_cell BK522.out 4).trans rfl; have hcz22_5 : w20.cell? ⟨gb522, 5, none⟩ = some (.string a0_5) := (blk_cell BK522.out 5).trans rfl; have hcz22_6 : w20.cell? ⟨gb522, 6, none⟩ = some (.slice A0_6 l0_6.length c0_6) := (blk_cell BK522.out 6).trans rfl; have hcz22_7 : w20.cell? ⟨gb522, 7, none⟩ = some (.slice A0_7 l0_7.length c0_7) := (blk_cell BK522.out 7).trans rfl; have hfz22_0 := blk_frozen BK522.out 0; have hfz22_1 := blk_frozen BK522.out 1; have hfz22_2 := blk_frozen BK522.out 2; have hfz22_3 := blk_frozen BK522.out 3; have hfz22_4 := blk_frozen BK522.out 4; have hfz22_5 := blk_frozen BK522.out 5; have hfz22_6 := blk_frozen BK522.out 6; have hfz22_7 := blk_frozen BK522.out 7; have hcz23_0 : w20.cell? ⟨gb523, 0, none⟩ = some (.int .i64 a1_0) := (blk_cell BK523.out 0).trans rfl; have hcz23_1 : w20.cell? ⟨gb523, 1, none⟩ = some (.bool a1_1) := (blk_cell BK523.out 1).trans rfl; have hcz23_2 : w20.cell? ⟨gb523, 2, none⟩ = some (.bool a1_2) := (blk_cell BK523.out 2).trans rfl; have hcz23_3 : w20.cell? ⟨gb523, 3, none⟩ = some (.slice A1_3 l1_3.length c1_3) := (blk_cell BK523.out 3).trans rfl; have hcz23_4 : w20.cell? ⟨gb523, 4, none⟩ = some (.int .i64 a1_4) := (blk_cell BK523.out 4).trans rfl; have hcz23_5 : w20.cell? ⟨gb523, 5, none⟩ = some (.string a1_5) := (blk_cell BK523.out 5).trans rfl; have hcz23_6 : w20.cell? ⟨gb523, 6, none⟩ = some (.slice A1_6 l1_6.length c1_6) := (blk_cell BK523.out 6).trans rfl; have hcz23_7 : w20.cell? ⟨gb523, 7, none⟩ = some (.slice A1_7 l1_7.length c1_7) := (blk_cell BK523.out 7).trans rfl; have hfz23_0 := blk_frozen BK523.out 0; have hfz23_1 := blk_frozen BK523.out 1; have hfz23_2 := blk_frozen BK523.out 2; have hfz23_3 := blk_frozen BK523.out 3; have hfz23_4 := blk_frozen BK523.out 4; have hfz23_5 := blk_frozen BK523.out 5; have hfz23_6 := blk_frozen BK523.out 6; have hfz23_7 := blk_frozen BK523.out 7))
        (try simp only [Act.put, List.setIfInBounds_toArray, List.set_cons_zero, List.set_cons_succ])
        go_cut [28] (fun v28 wc => ∃ (kq : Nat) (x28_17 : Bool), v28 = .bool x28_17 ∧ Aside0 (erratumref05_Same.j0 kq a0_0 x28_17 a0_0 a0_1 a0_2 l0_3 a0_4 a0_5 l0_6 l0_7 a1_0 a1_1 a1_2 l1_3 a1_4 a1_5 l1_6 l1_7 = some r) ∧ Aside0 (kq ≤ k) ∧ Aside0 (wc.heap[gb522]? = some (.cells #[.int .i64 a0_0, .bool a0_1, .bool a0_2, (.slice A0_3 l0_3.length c0_3), .int .i64 a0_4, .string a0_5, (.slice A0_6 l0_6.length c0_6), (.slice A0_7 l0_7.length c0_7)] 50 (0, 0))) ∧ Aside0 (wc.heap[gb523]? = some (.cells #[.int .i64 a1_0, .bool a1_1, .bool a1_2, (.slice A1_3 l1_3.length c1_3), .int .i64 a1_4, .string a1_5, (.slice A1_6 l1_6.length c1_6), (.slice A1_7 l1_7.length c1_7)] 50 (0, 0))) ∧ Aside0 (Below w.heap.size w wc))
        case first =>
          have H := HC18.out
          clear HC18
          by_cases c24 : a0_0 = 4
          · rw [if_pos c24] at H
            have c24b0 : (a0_0 == 4) = true := beq_iff_eq.mpr c24
            have c24b1 : (a0_0 != 4) = false := bne_eq_false_iff_eq.mpr c24
            clear c24
            (first | rw [c24b0] | (simp only [i64_w, i32_w]; rw [c24b0]) | skip)
            have H' := Aside0.mk H
            clear H
            go_wp2
            go_meet
            case rel => exact ⟨_, ((a0_0 == 4)), (by first | rfl | (simp; done) | (simp [*]; done)), H', ⟨by first | omega | exact Nat.le_refl _⟩, ⟨by (with_reducible repeat (first | refine blk_drewN ?_ _ | refine blk_drew ?_ | refine blk_alloc ?_ _)); exact BK522.out⟩, ⟨by (with_reducible repeat (first | refine blk_drewN ?_ _ | refine blk_drew ?_ | refine blk_alloc ?_ _)); exact BK523.out⟩, ⟨by repeat (first | (with_reducible first | exact HB.out | apply below_alloc | apply pw_below_drewN | apply below_drew1 | refine below_set ?_ GE522.out | refine below_set ?_ GE523.out) | exact HB.out)⟩⟩
          · rw [if_neg c24] at H
            have c24b0 : (a0_0 == 4) = false := beq_eq_false_iff_ne.mpr c24
            have c24b1 : (a0_0 != 4) = true := bne_iff_ne.mpr c24
            (first | rw [c24b0] | (simp only [i64_w, i32_w]; rw [c24b0]) | skip)
            have H' := Aside0.mk H
            clear H
            go_wp2
            go_meet
            case rel => exact ⟨_, ((a0_0 == 5)), (by first | rfl | (simp; done) | (simp [*]; done)), H', ⟨by first | omega | exact Nat.le_refl _⟩, ⟨by (with_reducible repeat (first | refine blk_drewN ?_ _ | refine blk_drew ?_ | refine blk_alloc ?_ _)); exact BK522.out⟩, ⟨by (with_reducible repeat (first | refine blk_drewN ?_ _ | refine blk_drew ?_ | refine blk_alloc ?_ _)); exact BK523.out⟩, ⟨by repeat (first | (with_reducible first | exact HB.out | apply below_alloc | apply pw_below_drewN | apply below_drew1 | refine below_set ?_ GE522.out | refine below_set ?_ GE523.out) | exact HB.out)⟩⟩
        case rest =>
          clear HC18
          try clear c1
          try clear c2
          try clear p2
          try clear c3
          try clear c3b0
          try clear c3b1
          try clear c4
          try clear c4b0
          try clear c4b1
          try clear c7
          try clear c10
          try clear c10b0
          try clear c10b1
          try clear c14
          try clear c21
          try clear c24
          try clear c24b0
          try clear c24b1
          try clear hcz15_0
          try clear hcz15_1
          try clear hcz15_2
          try clear hcz15_3
          try clear hcz15_4
          try clear hcz15_5
          try clear hcz15_6
          try clear hcz15_7
          try clear hcz16_0
          try clear hcz16_1
          try clear hcz16_2
          try clear hcz16_3
          try clear hcz16_4
          try clear hcz16_5
          try clear hcz16_6
          try clear hcz16_7
          try clear hcz22_0
          try clear hcz22_1
          try clear hcz22_2
          try clear hcz22_3
          try clear hcz22_4
          try clear hcz22_5
          try clear hcz22_6
          try clear hcz22_7
          try clear hcz23_0
          try clear hcz23_1
          try clear hcz23_2
          try clear hcz23_3
          try clear hcz23_4
          try clear hcz23_5
          try clear hcz23_6
          try clear hcz23_7
          try clear hcz8_0
          try clear hcz8_1
          try clear hcz8_2
          try clear hcz8_3
          try clear hcz8_4
          try clear hcz8_5
          try clear hcz8_6
          try clear hcz8_7
          try clear hcz9_0
          try clear hcz9_1
          try clear hcz9_2
          try clear hcz9_3
          try clear hcz9_4
          try clear hcz9_5
          try clear hcz9_6
          try clear hcz9_7
          try clear hfz15_0
          try clear hfz15_1
          try clear hfz15_2
          try clear hfz15_3
          try clear hfz15_4
          try clear hfz15_5
          try clear hfz15_6
          try clear hfz15_7
          try clear hfz16_0
          try clear hfz16_1
          try clear hfz16_2
          try clear hfz16_3
          try clear hfz16_4
          try clear hfz16_5
          try clear hfz16_6
          try clear hfz16_7
          try clear hfz22_0
          try clear hfz22_1
          try clear hfz22_2
          try clear hfz22_3
          try clear hfz22_4
          try clear hfz22_5
          try clear hfz22_6
          try clear hfz22_7
          try clear hfz23_0
          try clear hfz23_1
          try clear hfz23_2
          try clear hfz23_3
          try clear hfz23_4
          try clear hfz23_5
          try clear hfz23_6
          try clear hfz23_7
          try clear hfz8_0
          try clear hfz8_1
          try clear hfz8_2
          try clear hfz8_3
          try clear hfz8_4
          try clear hfz8_5
          try clear hfz8_6
          try clear hfz8_7
          try clear hfz9_0
          try clear hfz9_1
          try clear hfz9_2
          try clear hfz9_3
          try clear hfz9_4
          try clear hfz9_5
          try clear hfz9_6
          try clear hfz9_7
          obtain ⟨kq, x28_17, rfl, HA, HJ17, BK522, BK523, HB⟩ := hcut
          cases kq with
          | zero => exact absurd HA.out (by simp [erratumref05_Same.j0])
          | succ kj17 =>
            have H := HA.out
            clear HA
            simp only [erratumref05_Same.j0] at H
            by_cases c25 : x28_17 = true
            · subst c25
              have H1 : (some (a0_5.toList == a1_5.toList)) = some r := by rw [if_pos rfl] at H; exact H
              clear H
              have H := H1
              clear H1
              obtain rfl := Option.some.inj H
              have hnb26 := NB522_523.out
              have hnc26 := NB523_522.out
              have hcz27_0 : wc.cell? ⟨gb522, 0, none⟩ = some (.int .i64 a0_0) := (blk_cell BK522.out 0).trans rfl
              have hcz27_1 : wc.cell? ⟨gb522, 1, none⟩ = some (.bool a0_1) := (blk_cell BK522.out 1).trans rfl
              have hcz27_2 : wc.cell? ⟨gb522, 2, none⟩ = some (.bool a0_2) := (blk_cell BK522.out 2).trans rfl
              have hcz27_3 : wc.cell? ⟨gb522, 3, none⟩ = some (.slice A0_3 l0_3.length c0_3) := (blk_cell BK522.out 3).trans rfl
              have hcz27_4 : wc.cell? ⟨gb522, 4, none⟩ = some (.int .i64 a0_4) := (blk_cell BK522.out 4).trans rfl
              have hcz27_5 : wc.cell? ⟨gb522, 5, none⟩ = some (.string a0_5) := (blk_cell BK522.out 5).trans rfl
              have hcz27_6 : wc.cell? ⟨gb522, 6, none⟩ = some (.slice A0_6 l0_6.length c0_6) := (blk_cell BK522.out 6).trans rfl
              have hcz27_7 : wc.cell? ⟨gb522, 7, none⟩ = some (.slice A0_7 l0_7.length c0_7) := (blk_cell BK522.out 7).trans rfl
              have hfz27_0 := blk_frozen BK522.out 0
              have hfz27_1 := blk_frozen BK522.out 1
              have hfz27_2 := blk_frozen BK522.out 2
              have hfz27_3 := blk_frozen BK522.out 3
              have hfz27_4 := blk_frozen BK522.out 4
              have hfz27_5 := blk_frozen BK522.out 5
              have hfz27_6 := blk_frozen BK522.out 6
              have hfz27_7 := blk_frozen BK522.out 7
              have hcz28_0 : wc.cell? ⟨gb523, 0, none⟩ = some (.int .i64 a1_0) := (blk_cell BK523.out 0).trans rfl
              have hcz28_1 : wc.cell? ⟨gb523, 1, none⟩ = some (.bool a1_1) := (blk_cell BK523.out 1).trans rfl
              have hcz28_2 : wc.cell? ⟨gb523, 2, none⟩ = some (.bool a1_2) := (blk_cell BK523.out 2).trans rfl
              have hcz28_3 : wc.cell? ⟨gb523, 3, none⟩ = some (.slice A1_3 l1_3.length c1_3) := (blk_cell BK523.out 3).trans rfl
              have hcz28_4 : wc.cell? ⟨gb523, 4, none⟩ = some (.int .i64 a1_4) := (blk_cell BK523.out 4).trans rfl
              have hcz28_5 : wc.cell? ⟨gb523, 5, none⟩ = some (.string a1_5) := (blk_cell BK523.out 5).trans rfl
              have hcz28_6 : wc.cell? ⟨gb523, 6, none⟩ = some (.slice A1_6 l1_6.length c1_6) := (blk_cell BK523.out 6).trans rfl
              have hcz28_7 : wc.cell? ⟨gb523, 7, none⟩ = some (.slice A1_7 l1_7.length c1_7) := (blk_cell BK523.out 7).trans rfl
              have hfz28_0 := blk_frozen BK523.out 0
              have hfz28_1 := blk_frozen BK523.out 1
              have hfz28_2 := blk_frozen BK523.out 2
              have hfz28_3 := blk_frozen BK523.out 3
              have hfz28_4 := blk_frozen BK523.out 4
              have hfz28_5 := blk_frozen BK523.out 5
              have hfz28_6 := blk_frozen BK523.out 6
              have hfz28_7 := blk_frozen BK523.out 7
              go_wp2
              go_ret
              exact ⟨by first | rfl | (simp [errW_none, errW_some] <;> rfl) | (simp [*, errW_none, errW_some] <;> rfl), by repeat (first | (with_reducible first | exact HB.out | apply below_alloc | apply pw_below_drewN | apply below_drew1 | refine below_set ?_ GE522.out | refine below_set ?_ GE523.out) | exact HB.out)⟩
            · replace c25 := Bool.eq_false_iff.mpr c25
              subst c25
              have H1 : (if a0_0 = 6 then (erratumref05_Same.j1 kj17 (a0_0 == 6) a0_0 a0_1 a0_2 l0_3 a0_4 a0_5 l0_6 l0_7 a1_0 a1_1 a1_2 l1_3 a1_4 a1_5 l1_6 l1_7) else (erratumref05_Same.j1 kj17 (a0_0 == 7) a0_0 a0_1 a0_2 l0_3 a0_4 a0_5 l0_6 l0_7 a1_0 a1_1 a1_2 l1_3 a1_4 a1_5 l1_6 l1_7)) = some r := by rw [if_neg (show ¬ (false = true) by decide)] at H; exact H
              clear H
              have H := H1
              clear H1
              have HC29 := Aside0.mk H
              clear H
              go_upto_if 36 with (fail)
              go_cut [36] (fun v36 wc => ∃ (kq : Nat) (x36_28 : Bool), v36 = .bool x36_28 ∧ Aside0 (erratumref05_Same.j1 kq x36_28 a0_0 a0_1 a0_2 l0_3 a0_4 a0_5 l0_6 l0_7 a1_0 a1_1 a1_2 l1_3 a1_4 a1_5 l1_6 l1_7 = some r) ∧ Aside0 (kq ≤ kj17) ∧ Aside0 (wc.heap[gb522]? = some (.cells #[.int .i64 a0_0, .bool a0_1, .bool a0_2, (.slice A0_3 l0_3.length c0_3), .int .i64 a0_4, .string a0_5, (.slice A0_6 l0_6.length c0_6), (.slice A0_7 l0_7.length c0_7)] 50 (0, 0))) ∧ Aside0 (wc.heap[gb523]? = some (.cells #[.int .i64 a1_0, .bool a1_1, .bool a1_2, (.slice A1_3 l1_3.length c1_3), .int .i64 a1_4, .string a1_5, (.slice A1_6 l1_6.length c1_6), (.slice A1_7 l1_7.length c1_7)] 50 (0, 0))) ∧ Aside0 (Below w.heap.size w wc))
              case first =>
                have H := HC29.out
                clear HC29
                by_cases c30 : a0_0 = 6
                · rw [if_pos c30] at H
                  have c30b0 : (a0_0 == 6) = true := beq_iff_eq.mpr c30
                  have c30b1 : (a0_0 != 6) = false := bne_eq_false_iff_eq.mpr c30
                  clear c30
                  (first | rw [c30b0] | (simp only [i64_w, i32_w]; rw [c30b0]) | skip)
                  have H' := Aside0.mk H
                  clear H
                  go_wp2
                  go_meet
                  case rel => exact ⟨_, ((a0_0 == 6)), (by first | rfl | (simp; done) | (simp [*]; done)), H', ⟨by have := HJ17.out; first | omega | exact Nat.le_refl _⟩, ⟨by (with_reducible repeat (first | refine blk_drewN ?_ _ | refine blk_drew ?_ | refine blk_alloc ?_ _)); exact BK522.out⟩, ⟨by (with_reducible repeat (first | refine blk_drewN ?_ _ | refine blk_drew ?_ | refine blk_alloc ?_ _)); exact BK523.out⟩, ⟨by repeat (first | (with_reducible first | exact HB.out | apply below_alloc | apply pw_below_drewN | apply below_drew1 | refine below_set ?_ GE522.out | refine below_set ?_ GE523.out) | exact HB.out)⟩⟩
                · rw [if_neg c30] at H
                  have c30b0 : (a0_0 == 6) = false := beq_eq_false_iff_ne.mpr c30
                  have c30b1 : (a0_0 != 6) = true := bne_iff_ne.mpr c30
                  (first | rw [c30b0] | (simp only [i64_w, i32_w]; rw [c30b0]) | skip)
                  have H' := Aside0.mk H
                  clear H
                  go_wp2
                  go_meet
                  case rel => exact ⟨_, ((a0_0 == 7)), (by first | rfl | (simp; done) | (simp [*]; done)), H', ⟨by have := HJ17.out; first | omega | exact Nat.le_refl _⟩, ⟨by (with_reducible repeat (first | refine blk_drewN ?_ _ | refine blk_drew ?_ | refine blk_alloc ?_ _)); exact BK522.out⟩, ⟨by (with_reducible repeat (first | refine blk_drewN ?_ _ | refine blk_drew ?_ | refine blk_alloc ?_ _)); exact BK523.out⟩, ⟨by repeat (first | (with_reducible first | exact HB.out | apply below_alloc | apply pw_below_drewN | apply below_drew1 | refine below_set ?_ GE522.out | refine below_set ?_ GE523.out) | exact HB.out)⟩⟩
              case rest =>
                clear HC29
                try clear c1
                try clear c2
                try clear p2
                try clear c3
                try clear c3b0
                try clear c3b1
                try clear c4
                try clear c4b0
                try clear c4b1
                try clear c7
                try clear c10
                try clear c10b0
                try clear c10b1
                try clear c14
                try clear c21
                try clear c24
                try clear c24b0
                try clear c24b1
                try clear c25
                try clear c26
                try clear c30
                try clear c30b0
                try clear c30b1
                try clear hcz15_0
                try clear hcz15_1
                try clear hcz15_2
                try clear hcz15_3
                try clear hcz15_4
                try clear hcz15_5
                try clear hcz15_6
                try clear hcz15_7
                try clear hcz16_0
                try clear hcz16_1
                try clear hcz16_2
                try clear hcz16_3
                try clear hcz16_4
                try clear hcz16_5
                try clear hcz16_6
                try clear hcz16_7
                try clear hcz22_0
                try clear hcz22_1
                try clear hcz22_2
                try clear hcz22_3
                try clear hcz22_4
                try clear hcz22_5
                try clear hcz22_6
                try clear hcz22_7
                try clear hcz23_0
                try clear hcz23_1
                try clear hcz23_2
                try clear hcz23_3
                try clear hcz23_4
                try clear hcz23_5
                try clear hcz23_6
                try clear hcz23_7
                try clear hcz27_0
                try clear hcz27_1
                try clear hcz27_2
                try clear hcz27_3
                try clear hcz27_4
                try clear hcz27_5
                try clear hcz27_6
                try clear hcz27_7
                try clear hcz28_0
                try clear hcz28_1
                try clear hcz28_2
                try clear hcz28_3
                try clear hcz28_4
                try clear hcz28_5
                try clear hcz28_6
                try clear hcz28_7
                try clear hcz8_0
                try clear hcz8_1
                try clear hcz8_2
                try clear hcz8_3
                try clear hcz8_4
                try clear hcz8_5
                try clear hcz8_6
                try clear hcz8_7
                try clear hcz9_0
                try clear hcz9_1
                try clear hcz9_2
                try clear hcz9_3
                try clear hcz9_4
                try clear hcz9_5
                try clear hcz9_6
                try clear hcz9_7
                try clear hfz15_0
                try clear hfz15_1
                try clear hfz15_2
                try clear hfz15_3
                try clear hfz15_4
                try clear hfz15_5
                try clear hfz15_6
                try clear hfz15_7
                try clear hfz16_0
                try clear hfz16_1
                try clear hfz16_2
                try clear hfz16_3
                try clear hfz16_4
                try clear hfz16_5
                try clear hfz16_6
                try clear hfz16_7
                try clear hfz22_0
                try clear hfz22_1
                try clear hfz22_2
                try clear hfz22_3
                try clear hfz22_4
                try clear hfz22_5
                try clear hfz22_6
                try clear hfz22_7
                try clear hfz23_0
                try clear hfz23_1
                try clear hfz23_2
                try clear hfz23_3
                try clear hfz23_4
                try clear hfz23_5
                try clear hfz23_6
                try clear hfz23_7
                try clear hfz27_0
                try clear hfz27_1
                try clear hfz27_2
                try clear hfz27_3
                try clear hfz27_4
                try clear hfz27_5
                try clear hfz27_6
                try clear hfz27_7
                try clear hfz28_0
                try clear hfz28_1
                try clear hfz28_2
                try clear hfz28_3
                try clear hfz28_4
                try clear hfz28_5
                try clear hfz28_6
                try clear hfz28_7
                try clear hfz8_0
                try clear hfz8_1
                try clear hfz8_2
                try clear hfz8_3
                try clear hfz8_4
                try clear hfz8_5
                try clear hfz8_6
                try clear hfz8_7
                try clear hfz9_0
                try clear hfz9_1
                try clear hfz9_2
                try clear hfz9_3
                try clear hfz9_4
                try clear hfz9_5
                try clear hfz9_6
                try clear hfz9_7
                try clear p2
                obtain ⟨kq, x36_28, rfl, HA, HJ28, BK522, BK523, HB⟩ := hcut
                cases kq with
                | zero => exact absurd HA.out (by simp [erratumref05_Same.j1])
                | succ kj28 =>
                  have H := HA.out
                  clear HA
                  simp only [erratumref05_Same.j1] at H
                  by_cases c31 : x36_28 = true
                  · subst c31
                    have H1 : (if (l0_7.length : Int) = (l1_7.length : Int) then (if a0_0 = 7 then (erratumref05_Same.j2 kj28 ((l0_6.length : Int) != (l1_6.length : Int)) a0_0 a0_1 a0_2 l0_3 a0_4 a0_5 l0_6 l0_7 a1_0 a1_1 a1_2 l1_3 a1_4 a1_5 l1_6 l1_7) else (erratumref05_Same.j2 kj28 false a0_0 a0_1 a0_2 l0_3 a0_4 a0_5 l0_6 l0_7 a1_0 a1_1 a1_2 l1_3 a1_4 a1_5 l1_6 l1_7)) else (erratumref05_Same.j2 kj28 true a0_0 a0_1 a0_2 l0_3 a0_4 a0_5 l0_6 l0_7 a1_0 a1_1 a1_2 l1_3 a1_4 a1_5 l1_6 l1_7)) = some r := by rw [if_pos rfl] at H; exact H
                    clear H
                    have H := H1
                    clear H1
                    have HC32 := Aside0.mk H
                    clear H
                    go_upto_region 13 with (fail)
                    go_cut [59] (fun v59 wc => ∃ (kq : Nat) (x59_31 : Bool), v59 = .bool x59_31 ∧ Aside0 (erratumref05_Same.j2 kq x59_31 a0_0 a0_1 a0_2 l0_3 a0_4 a0_5 l0_6 l0_7 a1_0 a1_1 a1_2 l1_3 a1_4 a1_5 l1_6 l1_7 = some r) ∧ Aside0 (kq ≤ kj28) ∧ Aside0 (wc.heap[gb522]? = some (.cells #[.int .i64 a0_0, .bool a0_1, .bool a0_2, (.slice A0_3 l0_3.length c0_3), .int .i64 a0_4, .string a0_5, (.slice A0_6 l0_6.length c0_6), (.slice A0_7 l0_7.length c0_7)] 50 (0, 0))) ∧ Aside0 (wc.heap[gb523]? = some (.cells #[.int .i64 a1_0, .bool a1_1, .bool a1_2, (.slice A1_3 l1_3.length c1_3), .int .i64 a1_4, .string a1_5, (.slice A1_6 l1_6.length c1_6), (.slice A1_7 l1_7.length c1_7)] 50 (0, 0))) ∧ Aside0 (Below w.heap.size w wc))
                    case first =>
                      have H := HC32.out
                      clear HC32
                      by_cases c33 : (l0_7.length : Int) = (l1_7.length : Int)
                      · rw [if_pos c33] at H
                        have c33b0 : ((l0_7.length : Int) == (l1_7.length : Int)) = true := beq_iff_eq.mpr c33
                        have c33b1 : ((l0_7.length : Int) != (l1_7.length : Int)) = false := bne_eq_false_iff_eq.mpr c33
                        have c33b2 : (l0_7.length == l1_7.length) = true := by first | simpa using c33 | (simp at c33 ⊢; omega)
                        clear c33
                        (first | rw [c33b0] | (simp only [i64_w, i32_w]; rw [c33b0]) | skip)
                        by_cases c34 : a0_0 = 7
                        · rw [if_pos c34] at H
                          have c34b0 : (a0_0 == 7) = true := beq_iff_eq.mpr c34
                          have c34b1 : (a0_0 != 7) = false := bne_eq_false_iff_eq.mpr c34
                          clear c34
                          have H' := Aside0.mk H
                          clear H
                          have hnb35 := NB522_523.out
                          have hnc35 := NB523_522.out
                          have hcz36_0 : wc.cell? ⟨gb522, 0, none⟩ = some (.int .i64 a0_0) := (blk_cell BK522.out 0).trans rfl
                          have hcz36_1 : wc.cell? ⟨gb522, 1, none⟩ = some (.bool a0_1) := (blk_cell BK522.out 1).trans rfl
                          have hcz36_2 : wc.cell? ⟨gb522, 2, none⟩ = some (.bool a0_2) := (blk_cell BK522.out 2).trans rfl
                          have hcz36_3 : wc.cell? ⟨gb522, 3, none⟩ = some (.slice A0_3 l0_3.length c0_3) := (blk_cell BK522.out 3).trans rfl
                          have hcz36_4 : wc.cell? ⟨gb522, 4, none⟩ = some (.int .i64 a0_4) := (blk_cell BK522.out 4).trans rfl
                          have hcz36_5 : wc.cell? ⟨gb522, 5, none⟩ = some (.string a0_5) := (blk_cell BK522.out 5).trans rfl
                          have hcz36_6 : wc.cell? ⟨gb522, 6, none⟩ = some (.slice A0_6 l0_6.length c0_6) := (blk_cell BK522.out 6).trans rfl
                          have hcz36_7 : wc.cell? ⟨gb522, 7, none⟩ = some (.slice A0_7 l0_7.length c0_7) := (blk_cell BK522.out 7).trans rfl
                          have hfz36_0 := blk_frozen BK522.out 0
                          have hfz36_1 := blk_frozen BK522.out 1
                          have hfz36_2 := blk_frozen BK522.out 2
                          have hfz36_3 := blk_frozen BK522.out 3
                          have hfz36_4 := blk_frozen BK522.out 4
                          have hfz36_5 := blk_frozen BK522.out 5
                          have hfz36_6 := blk_frozen BK522.out 6
                          have hfz36_7 := blk_frozen BK522.out 7
                          have hcz37_0 : wc.cell? ⟨gb523, 0, none⟩ = some (.int .i64 a1_0) := (blk_cell BK523.out 0).trans rfl
                          have hcz37_1 : wc.cell? ⟨gb523, 1, none⟩ = some (.bool a1_1) := (blk_cell BK523.out 1).trans rfl
                          have hcz37_2 : wc.cell? ⟨gb523, 2, none⟩ = some (.bool a1_2) := (blk_cell BK523.out 2).trans rfl
                          have hcz37_3 : wc.cell? ⟨gb523, 3, none⟩ = some (.slice A1_3 l1_3.length c1_3) := (blk_cell BK523.out 3).trans rfl
                          have hcz37_4 : wc.cell? ⟨gb523, 4, none⟩ = some (.int .i64 a1_4) := (blk_cell BK523.out 4).trans rfl
                          have hcz37_5 : wc.cell? ⟨gb523, 5, none⟩ = some (.string a1_5) := (blk_cell BK523.out 5).trans rfl
                          have hcz37_6 : wc.cell? ⟨gb523, 6, none⟩ = some (.slice A1_6 l1_6.length c1_6) := (blk_cell BK523.out 6).trans rfl
                          have hcz37_7 : wc.cell? ⟨gb523, 7, none⟩ = some (.slice A1_7 l1_7.length c1_7) := (blk_cell BK523.out 7).trans rfl
                          have hfz37_0 := blk_frozen BK523.out 0
                          have hfz37_1 := blk_frozen BK523.out 1
                          have hfz37_2 := blk_frozen BK523.out 2
                          have hfz37_3 := blk_frozen BK523.out 3
                          have hfz37_4 := blk_frozen BK523.out 4
                          have hfz37_5 := blk_frozen BK523.out 5
                          have hfz37_6 := blk_frozen BK523.out 6
                          have hfz37_7 := blk_frozen BK523.out 7
                          go_wp2
                          go_meet
                          case rel => exact ⟨_, (((l0_6.length : Int) != (l1_6.length : Int))), (by first | rfl | (simp; done) | (simp [*]; done)), H', ⟨by have := HJ17.out; have := HJ28.out; first | omega | exact Nat.le_refl _⟩, ⟨by (with_reducible repeat (first | refine blk_drewN ?_ _ | refine blk_drew ?_ | refine blk_alloc ?_ _)); exact BK522.out⟩, ⟨by (with_reducible repeat (first | refine blk_drewN ?_ _ | refine blk_drew ?_ | refine blk_alloc ?_ _)); exact BK523.out⟩, ⟨by repeat (first | (with_reducible first | exact HB.out | apply below_alloc | apply pw_below_drewN | apply below_drew1 | refine below_set ?_ GE522.out | refine below_set ?_ GE523.out) | exact HB.out)⟩⟩
                        · rw [if_neg c34] at H
                          have c34b0 : (a0_0 == 7) = false := beq_eq_false_iff_ne.mpr c34
                          have c34b1 : (a0_0 != 7) = true := bne_iff_ne.mpr c34
                          have H' := Aside0.mk H
                          clear H
                          have hnb38 := NB522_523.out
                          have hnc38 := NB523_522.out
                          have hcz39_0 : wc.cell? ⟨gb522, 0, none⟩ = some (.int .i64 a0_0) := (blk_cell BK522.out 0).trans rfl
                          have hcz39_1 : wc.cell? ⟨gb522, 1, none⟩ = some (.bool a0_1) := (blk_cell BK522.out 1).trans rfl
                          have hcz39_2 : wc.cell? ⟨gb522, 2, none⟩ = some (.bool a0_2) := (blk_cell BK522.out 2).trans rfl
                          have hcz39_3 : wc.cell? ⟨gb522, 3, none⟩ = some (.slice A0_3 l0_3.length c0_3) := (blk_cell BK522.out 3).trans rfl
                          have hcz39_4 : wc.cell? ⟨gb522, 4, none⟩ = some (.int .i64 a0_4) := (blk_cell BK522.out 4).trans rfl
                          have hcz39_5 : wc.cell? ⟨gb522, 5, none⟩ = some (.string a0_5) := (blk_cell BK522.out 5).trans rfl
                          have hcz39_6 : wc.cell? ⟨gb522, 6, none⟩ = some (.slice A0_6 l0_6.length c0_6) := (blk_cell BK522.out 6).trans rfl
                          have hcz39_7 : wc.cell? ⟨gb522, 7, none⟩ = some (.slice A0_7 l0_7.length c0_7) := (blk_cell BK522.out 7).trans rfl
                          have hfz39_0 := blk_frozen BK522.out 0
                          have hfz39_1 := blk_frozen BK522.out 1
                          have hfz39_2 := blk_frozen BK522.out 2
                          have hfz39_3 := blk_frozen BK522.out 3
                          have hfz39_4 := blk_frozen BK522.out 4
                          have hfz39_5 := blk_frozen BK522.out 5
                          have hfz39_6 := blk_frozen BK522.out 6
                          have hfz39_7 := blk_frozen BK522.out 7
                          have hcz40_0 : wc.cell? ⟨gb523, 0, none⟩ = some (.int .i64 a1_0) := (blk_cell BK523.out 0).trans rfl
                          have hcz40_1 : wc.cell? ⟨gb523, 1, none⟩ = some (.bool a1_1) := (blk_cell BK523.out 1).trans rfl
                          have hcz40_2 : wc.cell? ⟨gb523, 2, none⟩ = some (.bool a1_2) := (blk_cell BK523.out 2).trans rfl
                          have hcz40_3 : wc.cell? ⟨gb523, 3, none⟩ = some (.slice A1_3 l1_3.length c1_3) := (blk_cell BK523.out 3).trans rfl
                          have hcz40_4 : wc.cell? ⟨gb523, 4, none⟩ = some (.int .i64 a1_4) := (blk_cell BK523.out 4).trans rfl
                          have hcz40_5 : wc.cell? ⟨gb523, 5, none⟩ = some (.string a1_5) := (blk_cell BK523.out 5).trans rfl
                          have hcz40_6 : wc.cell? ⟨gb523, 6, none⟩ = some (.slice A1_6 l1_6.length c1_6) := (blk_cell BK523.out 6).trans rfl
                          have hcz40_7 : wc.cell? ⟨gb523, 7, none⟩ = some (.slice A1_7 l1_7.length c1_7) := (blk_cell BK523.out 7).trans rfl
                          have hfz40_0 := blk_frozen BK523.out 0
                          have hfz40_1 := blk_frozen BK523.out 1
                          have hfz40_2 := blk_frozen BK523.out 2
                          have hfz40_3 := blk_frozen BK523.out 3
                          have hfz40_4 := blk_frozen BK523.out 4
                          have hfz40_5 := blk_frozen BK523.out 5
                          have hfz40_6 := blk_frozen BK523.out 6
                          have hfz40_7 := blk_frozen BK523.out 7
                          go_wp2
                          go_meet
                          case rel => exact ⟨_, (false), (by first | rfl | (simp; done) | (simp [*]; done)), H', ⟨by have := HJ17.out; have := HJ28.out; first | omega | exact Nat.le_refl _⟩, ⟨by (with_reducible repeat (first | refine blk_drewN ?_ _ | refine blk_drew ?_ | refine blk_alloc ?_ _)); exact BK522.out⟩, ⟨by (with_reducible repeat (first | refine blk_drewN ?_ _ | refine blk_drew ?_ | refine blk_alloc ?_ _)); exact BK523.out⟩, ⟨by repeat (first | (with_reducible first | exact HB.out | apply below_alloc | apply pw_below_drewN | apply below_drew1 | refine below_set ?_ GE522.out | refine below_set ?_ GE523.out) | exact HB.out)⟩⟩
                      · rw [if_neg c33] at H
                        have c33b0 : ((l0_7.length : Int) == (l1_7.length : Int)) = false := beq_eq_false_iff_ne.mpr c33
                        have c33b1 : ((l0_7.length : Int) != (l1_7.length : Int)) = true := bne_iff_ne.mpr c33
                        have c33b2 : (l0_7.length == l1_7.length) = false := by first | simpa using c33 | (simp at c33 ⊢; omega)
                        (first | rw [c33b0] | (simp only [i64_w, i32_w]; rw [c33b0]) | skip)
                        have H' := Aside0.mk H
                        clear H
                        have hnb41 := NB522_523.out
                        have hnc41 := NB523_522.out
                        have hcz42_0 : wc.cell? ⟨gb522, 0, none⟩ = some (.int .i64 a0_0) := (blk_cell BK522.out 0).trans rfl
                        have hcz42_1 : wc.cell? ⟨gb522, 1, none⟩ = some (.bool a0_1) := (blk_cell BK522.out 1).trans rfl
                        have hcz42_2 : wc.cell? ⟨gb522, 2, none⟩ = some (.bool a0_2) := (blk_cell BK522.out 2).trans rfl
                        have hcz42_3 : wc.cell? ⟨gb522, 3, none⟩ = some (.slice A0_3 l0_3.length c0_3) := (blk_cell BK522.out 3).trans rfl
                        have hcz42_4 : wc.cell? ⟨gb522, 4, none⟩ = some (.int .i64 a0_4) := (blk_cell BK522.out 4).trans rfl
                        have hcz42_5 : wc.cell? ⟨gb522, 5, none⟩ = some (.string a0_5) := (blk_cell BK522.out 5).trans rfl
                        have hcz42_6 : wc.cell? ⟨gb522, 6, none⟩ = some (.slice A0_6 l0_6.length c0_6) := (blk_cell BK522.out 6).trans rfl
                        have hcz42_7 : wc.cell? ⟨gb522, 7, none⟩ = some (.slice A0_7 l0_7.length c0_7) := (blk_cell BK522.out 7).trans rfl
                        have hfz42_0 := blk_frozen BK522.out 0
                        have hfz42_1 := blk_frozen BK522.out 1
                        have hfz42_2 := blk_frozen BK522.out 2
                        have hfz42_3 := blk_frozen BK522.out 3
                        have hfz42_4 := blk_frozen BK522.out 4
                        have hfz42_5 := blk_frozen BK522.out 5
                        have hfz42_6 := blk_frozen BK522.out 6
                        have hfz42_7 := blk_frozen BK522.out 7
                        have hcz43_0 : wc.cell? ⟨gb523, 0, none⟩ = some (.int .i64 a1_0) := (blk_cell BK523.out 0).trans rfl
                        have hcz43_1 : wc.cell? ⟨gb523, 1, none⟩ = some (.bool a1_1) := (blk_cell BK523.out 1).trans rfl
                        have hcz43_2 : wc.cell? ⟨gb523, 2, none⟩ = some (.bool a1_2) := (blk_cell BK523.out 2).trans rfl
                        have hcz43_3 : wc.cell? ⟨gb523, 3, none⟩ = some (.slice A1_3 l1_3.length c1_3) := (blk_cell BK523.out 3).trans rfl
                        have hcz43_4 : wc.cell? ⟨gb523, 4, none⟩ = some (.int .i64 a1_4) := (blk_cell BK523.out 4).trans rfl
                        have hcz43_5 : wc.cell? ⟨gb523, 5, none⟩ = some (.string a1_5) := (blk_cell BK523.out 5).trans rfl
                        have hcz43_6 : wc.cell? ⟨gb523, 6, none⟩ = some (.slice A1_6 l1_6.length c1_6) := (blk_cell BK523.out 6).trans rfl
                        have hcz43_7 : wc.cell? ⟨gb523, 7, none⟩ = some (.slice A1_7 l1_7.length c1_7) := (blk_cell BK523.out 7).trans rfl
                        have hfz43_0 := blk_frozen BK523.out 0
                        have hfz43_1 := blk_frozen BK523.out 1
                        have hfz43_2 := blk_frozen BK523.out 2
                        have hfz43_3 := blk_frozen BK523.out 3
                        have hfz43_4 := blk_frozen BK523.out 4
                        have hfz43_5 := blk_frozen BK523.out 5
                        have hfz43_6 := blk_frozen BK523.out 6
                        have hfz43_7 := blk_frozen BK523.out 7
                        go_wp2
                        go_meet
                        case rel => exact ⟨_, (true), (by first | rfl | (simp; done) | (simp [*]; done)), H', ⟨by have := HJ17.out; have := HJ28.out; first | omega | exact Nat.le_refl _⟩, ⟨by (with_reducible repeat (first | refine blk_drewN ?_ _ | refine blk_drew ?_ | refine blk_alloc ?_ _)); exact BK522.out⟩, ⟨by (with_reducible repeat (first | refine blk_drewN ?_ _ | refine blk_drew ?_ | refine blk_alloc ?_ _)); exact BK523.out⟩, ⟨by repeat (first | (with_reducible first | exact HB.out | apply below_alloc | apply pw_below_drewN | apply below_drew1 | refine below_set ?_ GE522.out | refine below_set ?_ GE523.out) | exact HB.out)⟩⟩
                    case rest =>
                      clear HC32
                      try clear c1
                      try clear c2
                      try clear p2
                      try clear c3
                      try clear c3b0
                      try clear c3b1
                      try clear c4
                      try clear c4b0
                      try clear c4b1
                      try clear c7
                      try clear c10
                      try clear c10b0
                      try clear c10b1
                      try clear c14
                      try clear c21
                      try clear c24
                      try clear c24b0
                      try clear c24b1
                      try clear c25
                      try clear c26
                      try clear c30
                      try clear c30b0
                      try clear c30b1
                      try clear c31
                      try clear c33
                      try clear c33b0
                      try clear c33b1
                      try clear c33b2
                      try clear c34
                      try clear c34b0
                      try clear c34b1
                      try clear c35
                      try clear c38
                      try clear c41
                      try clear hcz15_0
                      try clear hcz15_1
                      try clear hcz15_2
                      try clear hcz15_3
                      try clear hcz15_4
                      try clear hcz15_5
                      try clear hcz15_6
                      try clear hcz15_7
                      try clear hcz16_0
                      try clear hcz16_1
                      try clear hcz16_2
                      try clear hcz16_3
                      try clear hcz16_4
                      try clear hcz16_5
                      try clear hcz16_6
                      try clear hcz16_7
                      try clear hcz22_0
                      try clear hcz22_1
                      try clear hcz22_2
                      try clear hcz22_3
                      try clear hcz22_4
                      try clear hcz22_5
                      try clear hcz22_6
                      try clear hcz22_7
                      try clear hcz23_0
                      try clear hcz23_1
                      try clear hcz23_2
                      try clear hcz23_3
                      try clear hcz23_4
                      try clear hcz23_5
                      try clear hcz23_6
                      try clear hcz23_7
                      try clear hcz27_0
                      try clear hcz27_1
                      try clear hcz27_2
                      try clear hcz27_3
                      try clear hcz27_4
                      try clear hcz27_5
                      try clear hcz27_6
                      try clear hcz27_7
                      try clear hcz28_0
                      try clear hcz28_1
                      try clear hcz28_2
                      try clear hcz28_3
                      try clear hcz28_4
                      try clear hcz28_5
                      try clear hcz28_6
                      try clear hcz28_7
                      try clear hcz36_0
                      try clear hcz36_1
                      try clear hcz36_2
                      try clear hcz36_3
                      try clear hcz36_4
                      try clear hcz36_5
                      try clear hcz36_6
                      try clear hcz36_7
                      try clear hcz37_0
                      try clear hcz37_1
                      try clear hcz37_2
                      try clear hcz37_3
                      try clear hcz37_4
                      try clear hcz37_5
                      try clear hcz37_6
                      try clear hcz37_7
                      try clear hcz39_0
                      try clear hcz39_1
                      try clear hcz39_2
                      try clear hcz39_3
                      try clear hcz39_4
                      try clear hcz39_5
                      try clear hcz39_6
                      try clear hcz39_7
                      try clear hcz40_0
                      try clear hcz40_1
                      try clear hcz40_2
                      try clear hcz40_3
                      try clear hcz40_4
                      try clear hcz40_5
                      try clear hcz40_6
                      try clear hcz40_7
                      try clear hcz42_0
                      try clear hcz42_1
                      try clear hcz42_2
                      try clear hcz42_3
                      try clear hcz42_4
                      try clear hcz42_5
                      try clear hcz42_6
                      try clear hcz42_7
                      try clear hcz43_0
                      try clear hcz43_1
                      try clear hcz43_2
                      try clear hcz43_3
                      try clear hcz43_4
                      try clear hcz43_5
                      try clear hcz43_6
                      try clear hcz43_7
                      try clear hcz8_0
                      try clear hcz8_1
                      try clear hcz8_2
                      try clear hcz8_3
                      try clear hcz8_4
                      try clear hcz8_5
                      try clear hcz8_6
                      try clear hcz8_7
                      try clear hcz9_0
                      try clear hcz9_1
                      try clear hcz9_2
                      try clear hcz9_3
                      try clear hcz9_4
                      try clear hcz9_5
                      try clear hcz9_6
                      try clear hcz9_7
                      try clear hfz15_0
                      try clear hfz15_1
                      try clear hfz15_2
                      try clear hfz15_3
                      try clear hfz15_4
                      try clear hfz15_5
                      try clear hfz15_6
                      try clear hfz15_7
                      try clear hfz16_0
                      try clear hfz16_1
                      try clear hfz16_2
                      try clear hfz16_3
                      try clear hfz16_4
                      try clear hfz16_5
                      try clear hfz16_6
                      try clear hfz16_7
                      try clear hfz22_0
                      try clear hfz22_1
                      try clear hfz22_2
                      try clear hfz22_3
                      try clear hfz22_4
                      try clear hfz22_5
                      try clear hfz22_6
                      try clear hfz22_7
                      try clear hfz23_0
                      try clear hfz23_1
                      try clear hfz23_2
                      try clear hfz23_3
                      try clear hfz23_4
                      try clear hfz23_5
                      try clear hfz23_6
                      try clear hfz23_7
                      try clear hfz27_0
                      try clear hfz27_1
                      try clear hfz27_2
                      try clear hfz27_3
                      try clear hfz27_4
                      try clear hfz27_5
                      try clear hfz27_6
                      try clear hfz27_7
                      try clear hfz28_0
                      try clear hfz28_1
                      try clear hfz28_2
                      try clear hfz28_3
                      try clear hfz28_4
                      try clear hfz28_5
                      try clear hfz28_6
                      try clear hfz28_7
                      try clear hfz36_0
                      try clear hfz36_1
                      try clear hfz36_2
                      try clear hfz36_3
                      try clear hfz36_4
                      try clear hfz36_5
                      try clear hfz36_6
                      try clear hfz36_7
                      try clear hfz37_0
                      try clear hfz37_1
                      try clear hfz37_2
                      try clear hfz37_3
                      try clear hfz37_4
                      try clear hfz37_5
                      try clear hfz37_6
                      try clear hfz37_7
                      try clear hfz39_0
                      try clear hfz39_1
                      try clear hfz39_2
                      try clear hfz39_3
                      try clear hfz39_4
                      try clear hfz39_5
                      try clear hfz39_6
                      try clear hfz39_7
                      try clear hfz40_0
                      try clear hfz40_1
                      try clear hfz40_2
                      try clear hfz40_3
                      try clear hfz40_4
                      try clear hfz40_5
                      try clear hfz40_6
                      try clear hfz40_7
                      try clear hfz42_0
                      try clear hfz42_1
                      try clear hfz42_2
                      try clear hfz42_3
                      try clear hfz42_4
                      try clear hfz42_5
                      try clear hfz42_6
                      try clear hfz42_7
                      try clear hfz43_0
                      try clear hfz43_1
                      try clear hfz43_2
                      try clear hfz43_3
                      try clear hfz43_4
                      try clear hfz43_5
                      try clear hfz43_6
                      try clear hfz43_7
                      try clear hfz8_0
                      try clear hfz8_1
                      try clear hfz8_2
                      try clear hfz8_3
                      try clear hfz8_4
                      try clear hfz8_5
                      try clear hfz8_6
                      try clear hfz8_7
                      try clear hfz9_0
                      try clear hfz9_1
                      try clear hfz9_2
                      try clear hfz9_3
                      try clear hfz9_4
                      try clear hfz9_5
                      try clear hfz9_6
                      try clear hfz9_7
                      try clear p2
                      obtain ⟨kq, x59_31, rfl, HA, HJ31, BK522, BK523, HB⟩ := hcut
                      cases kq with
                      | zero => exact absurd HA.out (by simp [erratumref05_Same.j2])
                      | succ kj31 =>
                        have H := HA.out
                        clear HA
                        simp only [erratumref05_Same.j2] at H
                        by_cases c44 : x59_31 = true
                        · subst c44
                          have H1 : (some false) = some r := by rw [if_pos rfl] at H; exact H
                          clear H
                          have H := H1
                          clear H1
                          obtain rfl := Option.some.inj H
                          go_wp2
                          go_ret
                          exact ⟨by first | rfl | (simp [errW_none, errW_some] <;> rfl) | (simp [*, errW_none, errW_some] <;> rfl), by repeat (first | (with_reducible first | exact HB.out | apply below_alloc | apply pw_below_drewN | apply below_drew1 | refine below_set ?_ GE522.out | refine below_set ?_ GE523.out) | exact HB.out)⟩
                        · replace c44 := Bool.eq_false_iff.mpr c44
                          subst c44
                          have H1 : (erratumref05_Same.l0 kj31 0 a0_0 a0_1 a0_2 l0_3 a0_4 a0_5 l0_6 l0_7 a1_0 a1_1 a1_2 l1_3 a1_4 a1_5 l1_6 l1_7) = some r := by rw [if_neg (show ¬ (false = true) by decide)] at H; exact H
                          clear H
                          have H := H1
                          clear H1
                          have H' := Aside0.mk H
                          clear H
                          go_wp2
                          go_loopg [5] kj31 (fun kq v5 w' => ∃ (x5_4 : Int), v5 = .int .i64 x5_4 ∧ Aside0 (erratumref05_Same.l0 kq x5_4 a0_0 a0_1 a0_2 l0_3 a0_4 a0_5 l0_6 l0_7 a1_0 a1_1 a1_2 l1_3 a1_4 a1_5 l1_6 l1_7 = some r) ∧ Aside0 (kq ≤ kj31) ∧ Aside0 (w'.heap[gb522]? = some (.cells #[.int .i64 a0_0, .bool a0_1, .bool a0_2, (.slice A0_3 l0_3.length c0_3), .int .i64 a0_4, .string a0_5, (.slice A0_6 l0_6.length c0_6), (.slice A0_7 l0_7.length c0_7)] 50 (0, 0))) ∧ Aside0 (w'.heap[gb523]? = some (.cells #[.int .i64 a1_0, .bool a1_1, .bool a1_2, (.slice A1_3 l1_3.length c1_3), .int .i64 a1_4, .string a1_5, (.slice A1_6 l1_6.length c1_6), (.slice A1_7 l1_7.length c1_7)] 50 (0, 0))) ∧ Aside0 (Below w.heap.size w w'))
                          case atStart => exact ⟨(0), (by first | rfl | (simp; done) | (simp [*]; done)), H', ⟨Nat.le_refl _⟩, ⟨by (with_reducible repeat (first | refine blk_drewN ?_ _ | refine blk_drew ?_ | refine blk_alloc ?_ _)); exact BK522.out⟩, ⟨by (with_reducible repeat (first | refine blk_drewN ?_ _ | refine blk_drew ?_ | refine blk_alloc ?_ _)); exact BK523.out⟩, ⟨by repeat (first | (with_reducible first | exact HB.out | apply below_alloc | apply pw_below_drewN | apply below_drew1 | refine below_set ?_ GE522.out | refine below_set ?_ GE523.out) | exact HB.out)⟩⟩
                          case round =>
                            clear H'
                            try clear c1
                            try clear c2
                            try clear p2
                            try clear c3
                            try clear c3b0
                            try clear c3b1
                            try clear c4
                            try clear c4b0
                            try clear c4b1
                            try clear c7
                            try clear c10
                            try clear c10b0
                            try clear c10b1
                            try clear c14
                            try clear c21
                            try clear c24
                            try clear c24b0
                            try clear c24b1
                            try clear c25
                            try clear c26
                            try clear c30
                            try clear c30b0
                            try clear c30b1
                            try clear c31
                            try clear c33
                            try clear c33b0
                            try clear c33b1
                            try clear c33b2
                            try clear c34
                            try clear c34b0
                            try clear c34b1
                            try clear c35
                            try clear c38
                            try clear c41
                            try clear c44
                            try clear hcz15_0
                            try clear hcz15_1
                            try clear hcz15_2
                            try clear hcz15_3
                            try clear hcz15_4
                            try clear hcz15_5
                            try clear hcz15_6
                            try clear hcz15_7
                            try clear hcz16_0
                            try clear hcz16_1
                            try clear hcz16_2
                            try clear hcz16_3
                            try clear hcz16_4
                            try clear hcz16_5
                            try clear hcz16_6
                            try clear hcz16_7
                            try clear hcz22_0
                            try clear hcz22_1
                            try clear hcz22_2
                            try clear hcz22_3
                            try clear hcz22_4
                            try clear hcz22_5
                            try clear hcz22_6
                            try clear hcz22_7
                            try clear hcz23_0
                            try clear hcz23_1
                            try clear hcz23_2
                            try clear hcz23_3
                            try clear hcz23_4
                            try clear hcz23_5
                            try clear hcz23_6
                            try clear hcz23_7
                            try clear hcz27_0
                            try clear hcz27_1
                            try clear hcz27_2
                            try clear hcz27_3
                            try clear hcz27_4
                            try clear hcz27_5
                            try clear hcz27_6
                            try clear hcz27_7
                            try clear hcz28_0
                            try clear hcz28_1
                            try clear hcz28_2
                            try clear hcz28_3
                            try clear hcz28_4
                            try clear hcz28_5
                            try clear hcz28_6
                            try clear hcz28_7
                            try clear hcz36_0
                            try clear hcz36_1
                            try clear hcz36_2
                            try clear hcz36_3
                            try clear hcz36_4
                            try clear hcz36_5
                            try clear hcz36_6
                            try clear hcz36_7
                            try clear hcz37_0
                            try clear hcz37_1
                            try clear hcz37_2
                            try clear hcz37_3
                            try clear hcz37_4
                            try clear hcz37_5
                            try clear hcz37_6
                            try clear hcz37_7
                            try clear hcz39_0
                            try clear hcz39_1
                            try clear hcz39_2
                            try clear hcz39_3
                            try clear hcz39_4
                            try clear hcz39_5
                            try clear hcz39_6
                            try clear hcz39_7
                            try clear hcz40_0
                            try clear hcz40_1
                            try clear hcz40_2
                            try clear hcz40_3
                            try clear hcz40_4
                            try clear hcz40_5
                            try clear hcz40_6
                            try clear hcz40_7
                            try clear hcz42_0
                            try clear hcz42_1
                            try clear hcz42_2
                            try clear hcz42_3
                            try clear hcz42_4
                            try clear hcz42_5
                            try clear hcz42_6
                            try clear hcz42_7
                            try clear hcz43_0
                            try clear hcz43_1
                            try clear hcz43_2
                            try clear hcz43_3
                            try clear hcz43_4
                            try clear hcz43_5
                            try clear hcz43_6
                            try clear hcz43_7
                            try clear hcz8_0
                            try clear hcz8_1
                            try clear hcz8_2
                            try clear hcz8_3
                            try clear hcz8_4
                            try clear hcz8_5
                            try clear hcz8_6
                            try clear hcz8_7
                            try clear hcz9_0
                            try clear hcz9_1
                            try clear hcz9_2
                            try clear hcz9_3
                            try clear hcz9_4
                            try clear hcz9_5
                            try clear hcz9_6
                            try clear hcz9_7
                            try clear hfz15_0
                            try clear hfz15_1
                            try clear hfz15_2
                            try clear hfz15_3
                            try clear hfz15_4
                            try clear hfz15_5
                            try clear hfz15_6
                            try clear hfz15_7
                            try clear hfz16_0
                            try clear hfz16_1
                            try clear hfz16_2
                            try clear hfz16_3
                            try clear hfz16_4
                            try clear hfz16_5
                            try clear hfz16_6
                            try clear hfz16_7
                            try clear hfz22_0
                            try clear hfz22_1
                            try clear hfz22_2
                            try clear hfz22_3
                            try clear hfz22_4
                            try clear hfz22_5
                            try clear hfz22_6
                            try clear hfz22_7
                            try clear hfz23_0
                            try clear hfz23_1
                            try clear hfz23_2
                            try clear hfz23_3
                            try clear hfz23_4
                            try clear hfz23_5
                            try clear hfz23_6
                            try clear hfz23_7
                            try clear hfz27_0
                            try clear hfz27_1
                            try clear hfz27_2
                            try clear hfz27_3
                            try clear hfz27_4
                            try clear hfz27_5
                            try clear hfz27_6
                            try clear hfz27_7
                            try clear hfz28_0
                            try clear hfz28_1
                            try clear hfz28_2
                            try clear hfz28_3
                            try clear hfz28_4
                            try clear hfz28_5
                            try clear hfz28_6
                            try clear hfz28_7
                            try clear hfz36_0
                            try clear hfz36_1
                            try clear hfz36_2
                            try clear hfz36_3
                            try clear hfz36_4
                            try clear hfz36_5
                            try clear hfz36_6
                            try clear hfz36_7
                            try clear hfz37_0
                            try clear hfz37_1
                            try clear hfz37_2
                            try clear hfz37_3
                            try clear hfz37_4
                            try clear hfz37_5
                            try clear hfz37_6
                            try clear hfz37_7
                            try clear hfz39_0
                            try clear hfz39_1
                            try clear hfz39_2
                            try clear hfz39_3
                            try clear hfz39_4
                            try clear hfz39_5
                            try clear hfz39_6
                            try clear hfz39_7
                            try clear hfz40_0
                            try clear hfz40_1
                            try clear hfz40_2
                            try clear hfz40_3
                            try clear hfz40_4
                            try clear hfz40_5
                            try clear hfz40_6
                            try clear hfz40_7
                            try clear hfz42_0
                            try clear hfz42_1
                            try clear hfz42_2
                            try clear hfz42_3
                            try clear hfz42_4
                            try clear hfz42_5
                            try clear hfz42_6
                            try clear hfz42_7
                            try clear hfz43_0
                            try clear hfz43_1
                            try clear hfz43_2
                            try clear hfz43_3
                            try clear hfz43_4
                            try clear hfz43_5
                            try clear hfz43_6
                            try clear hfz43_7
                            try clear hfz8_0
                            try clear hfz8_1
                            try clear hfz8_2
                            try clear hfz8_3
                            try clear hfz8_4
                            try clear hfz8_5
                            try clear hfz8_6
                            try clear hfz8_7
                            try clear hfz9_0
                            try clear hfz9_1
                            try clear hfz9_2
                            try clear hfz9_3
                            try clear hfz9_4
                            try clear hfz9_5
                            try clear hfz9_6
                            try clear hfz9_7
                            try clear p2
                            obtain ⟨x5_4, rfl, HA, HK4, BK522, BK523, HB⟩ := hrel
                            cases gk with
                            | zero => exact absurd HA.out (by simp [erratumref05_Same.l0])
                            | succ k4 =>
                              have H := HA.out
                              clear HA
                              simp only [erratumref05_Same.l0] at H
                              have HC45 := Aside0.mk H
                              clear H
                              go_upto_region 16 with (fail)
                              go_cut [69] (fun v69 wc => ∃ (kq : Nat) (x69_44 : Bool), v69 = .bool x69_44 ∧ Aside0 (erratumref05_Same.j4 kq x5_4 x69_44 a0_0 a0_1 a0_2 l0_3 a0_4 a0_5 l0_6 l0_7 a1_0 a1_1 a1_2 l1_3 a1_4 a1_5 l1_6 l1_7 = some r) ∧ Aside0 (kq ≤ k4) ∧ Aside0 (wc.heap[gb522]? = some (.cells #[.int .i64 a0_0, .bool a0_1, .bool a0_2, (.slice A0_3 l0_3.length c0_3), .int .i64 a0_4, .string a0_5, (.slice A0_6 l0_6.length c0_6), (.slice A0_7 l0_7.length c0_7)] 50 (0, 0))) ∧ Aside0 (wc.heap[gb523]? = some (.cells #[.int .i64 a1_0, .bool a1_1, .bool a1_2, (.slice A1_3 l1_3.length c1_3), .int .i64 a1_4, .string a1_5, (.slice A1_6 l1_6.length c1_6), (.slice A1_7 l1_7.length c1_7)] 50 (0, 0))) ∧ Aside0 (Below w.heap.size w wc))
                              case first =>
                                have H := HC45.out
                                clear HC45
                                by_cases c46 : x5_4 < (l0_6.length : Int)
                                · rw [if_pos c46] at H
                                  have c46b0 : decide (x5_4 < (l0_6.length : Int)) = true := decide_eq_true c46
                                  clear c46
                                  (first | rw [c46b0] | (simp only [i64_w, i32_w]; rw [c46b0]) | skip)
                                  have H' := Aside0.mk H
                                  clear H
                                  have hnb47 := NB522_523.out
                                  have hnc47 := NB523_522.out
                                  have hcz48_0 : wr.cell? ⟨gb522, 0, none⟩ = some (.int .i64 a0_0) := (blk_cell BK522.out 0).trans rfl
                                  have hcz48_1 : wr.cell? ⟨gb522, 1, none⟩ = some (.bool a0_1) := (blk_cell BK522.out 1).trans rfl
                                  have hcz48_2 : wr.cell? ⟨gb522, 2, none⟩ = some (.bool a0_2) := (blk_cell BK522.out 2).trans rfl
                                  have hcz48_3 : wr.cell? ⟨gb522, 3, none⟩ = some (.slice A0_3 l0_3.length c0_3) := (blk_cell BK522.out 3).trans rfl
                                  have hcz48_4 : wr.cell? ⟨gb522, 4, none⟩ = some (.int .i64 a0_4) := (blk_cell BK522.out 4).trans rfl
                                  have hcz48_5 : wr.cell? ⟨gb522, 5, none⟩ = some (.string a0_5) := (blk_cell BK522.out 5).trans rfl
                                  have hcz48_6 : wr.cell? ⟨gb522, 6, none⟩ = some (.slice A0_6 l0_6.length c0_6) := (blk_cell BK522.out 6).trans rfl
                                  have hcz48_7 : wr.cell? ⟨gb522, 7, none⟩ = some (.slice A0_7 l0_7.length c0_7) := (blk_cell BK522.out 7).trans rfl
                                  have hfz48_0 := blk_frozen BK522.out 0
                                  have hfz48_1 := blk_frozen BK522.out 1
                                  have hfz48_2 := blk_frozen BK522.out 2
                                  have hfz48_3 := blk_frozen BK522.out 3
                                  have hfz48_4 := blk_frozen BK522.out 4
                                  have hfz48_5 := blk_frozen BK522.out 5
                                  have hfz48_6 := blk_frozen BK522.out 6
                                  have hfz48_7 := blk_frozen BK522.out 7
                                  go_wp2
                                  go_meet
                                  case rel => exact ⟨_, ((a0_0 == 7)), (by first | rfl | (simp; done) | (simp [*]; done)), H', ⟨by have := HJ17.out; have := HJ28.out; have := HJ31.out; have := HK4.out; first | omega | exact Nat.le_refl _⟩, ⟨by (with_reducible repeat (first | refine blk_drewN ?_ _ | refine blk_drew ?_ | refine blk_alloc ?_ _)); exact BK522.out⟩, ⟨by (with_reducible repeat (first | refine blk_drewN ?_ _ | refine blk_drew ?_ | refine blk_alloc ?_ _)); exact BK523.out⟩, ⟨by repeat (first | (with_reducible first | exact HB.out | apply below_alloc | apply pw_below_drewN | apply below_drew1 | refine below_set ?_ GE522.out | refine below_set ?_ GE523.out) | exact HB.out)⟩⟩
                                · rw [if_neg c46] at H
                                  have c46b0 : decide (x5_4 < (l0_6.length : Int)) = false := decide_eq_false c46
                                  clear c46
                                  (first | rw [c46b0] | (simp only [i64_w, i32_w]; rw [c46b0]) | skip)
                                  have H' := Aside0.mk H
                                  clear H
                                  have hnb49 := NB522_523.out
                                  have hnc49 := NB523_522.out
                                  have hcz50_0 : wr.cell? ⟨gb522, 0, none⟩ = some (.int .i64 a0_0) := (blk_cell BK522.out 0).trans rfl
                                  have hcz50_1 : wr.cell? ⟨gb522, 1, none⟩ = some (.bool a0_1) := (blk_cell BK522.out 1).trans rfl
                                  have hcz50_2 : wr.cell? ⟨gb522, 2, none⟩ = some (.bool a0_2) := (blk_cell BK522.out 2).trans rfl
                                  have hcz50_3 : wr.cell? ⟨gb522, 3, none⟩ = some (.slice A0_3 l0_3.length c0_3) := (blk_cell BK522.out 3).trans rfl
                                  have hcz50_4 : wr.cell? ⟨gb522, 4, none⟩ = some (.int .i64 a0_4) := (blk_cell BK522.out 4).trans rfl
                                  have hcz50_5 : wr.cell? ⟨gb522, 5, none⟩ = some (.string a0_5) := (blk_cell BK522.out 5).trans rfl
                                  have hcz50_6 : wr.cell? ⟨gb522, 6, none⟩ = some (.slice A0_6 l0_6.length c0_6) := (blk_cell BK522.out 6).trans rfl
                                  have hcz50_7 : wr.cell? ⟨gb522, 7, none⟩ = some (.slice A0_7 l0_7.length c0_7) := (blk_cell BK522.out 7).trans rfl
                                  have hfz50_0 := blk_frozen BK522.out 0
                                  have hfz50_1 := blk_frozen BK522.out 1
                                  have hfz50_2 := blk_frozen BK522.out 2
                                  have hfz50_3 := blk_frozen BK522.out 3
                                  have hfz50_4 := blk_frozen BK522.out 4
                                  have hfz50_5 := blk_frozen BK522.out 5
                                  have hfz50_6 := blk_frozen BK522.out 6
                                  have hfz50_7 := blk_frozen BK522.out 7
                                  go_wp2
                                  go_meet
                                  case rel => exact ⟨_, (false), (by first | rfl | (simp; done) | (simp [*]; done)), H', ⟨by have := HJ17.out; have := HJ28.out; have := HJ31.out; have := HK4.out; first | omega | exact Nat.le_refl _⟩, ⟨by (with_reducible repeat (first | refine blk_drewN ?_ _ | refine blk_drew ?_ | refine blk_alloc ?_ _)); exact BK522.out⟩, ⟨by (with_reducible repeat (first | refine blk_drewN ?_ _ | refine blk_drew ?_ | refine blk_alloc ?_ _)); exact BK523.out⟩, ⟨by repeat (first | (with_reducible first | exact HB.out | apply below_alloc | apply pw_below_drewN | apply below_drew1 | refine below_set ?_ GE522.out | refine below_set ?_ GE523.out) | exact HB.out)⟩⟩
                              case rest =>
                                clear HC45
                                try clear c1
                                try clear c2
                                try clear p2
                                try clear c3
                                try clear c3b0
                                try clear c3b1
                                try clear c4
                                try clear c4b0
                                try clear c4b1
                                try clear c7
                                try clear c10
                                try clear c10b0
                                try clear c10b1
                                try clear c14
                                try clear c21
                                try clear c24
                                try clear c24b0
                                try clear c24b1
                                try clear c25
                                try clear c26
                                try clear c30
                                try clear c30b0
                                try clear c30b1
                                try clear c31
                                try clear c33
                                try clear c33b0
                                try clear c33b1
                                try clear c33b2
                                try clear c34
                                try clear c34b0
                                try clear c34b1
                                try clear c35
                                try clear c38
                                try clear c41
                                try clear c44
                                try clear c46
                                try clear c46b0
                                try clear c47
                                try clear c49
                                try clear hcz15_0
                                try clear hcz15_1
                                try clear hcz15_2
                                try clear hcz15_3
                                try clear hcz15_4
                                try clear hcz15_5
                                try clear hcz15_6
                                try clear hcz15_7
                                try clear hcz16_0
                                try clear hcz16_1
                                try clear hcz16_2
                                try clear hcz16_3
                                try clear hcz16_4
                                try clear hcz16_5
                                try clear hcz16_6
                                try clear hcz16_7
                                try clear hcz22_0
                                try clear hcz22_1
                                try clear hcz22_2
                                try clear hcz22_3
                                try clear hcz22_4
                                try clear hcz22_5
                                try clear hcz22_6
                                try clear hcz22_7
                                try clear hcz23_0
                                try clear hcz23_1
                                try clear hcz23_2
                                try clear hcz23_3
                                try clear hcz23_4
                                try clear hcz23_5
                                try clear hcz23_6
                                try clear hcz23_7
                                try clear hcz27_0
                                try clear hcz27_1
                                try clear hcz27_2
                                try clear hcz27_3
                                try clear hcz27_4
                                try clear hcz27_5
                                try clear hcz27_6
                                try clear hcz27_7
                                try clear hcz28_0
                                try clear hcz28_1
                                try clear hcz28_2
                                try clear hcz28_3
                                try clear hcz28_4
                                try clear hcz28_5
                                try clear hcz28_6
                                try clear hcz28_7
                                try clear hcz36_0
                                try clear hcz36_1
                                try clear hcz36_2
                                try clear hcz36_3
                                try clear hcz36_4
                                try clear hcz36_5
                                try clear hcz36_6
                                try clear hcz36_7
                                try clear hcz37_0
                                try clear hcz37_1
                                try clear hcz37_2
                                try clear hcz37_3
                                try clear hcz37_4
                                try clear hcz37_5
                                try clear hcz37_6
                                try clear hcz37_7
                                try clear hcz39_0
                                try clear hcz39_1
                                try clear hcz39_2
                                try clear hcz39_3
                                try clear hcz39_4
                                try clear hcz39_5
                                try clear hcz39_6
                                try clear hcz39_7
                                try clear hcz40_0
                                try clear hcz40_1
                                try clear hcz40_2
                                try clear hcz40_3
                                try clear hcz40_4
                                try clear hcz40_5
                                try clear hcz40_6
                                try clear hcz40_7
                                try clear hcz42_0
                                try clear hcz42_1
                                try clear hcz42_2
                                try clear hcz42_3
                                try clear hcz42_4
                                try clear hcz42_5
                                try clear hcz42_6
                                try clear hcz42_7
                                try clear hcz43_0
                                try clear hcz43_1
                                try clear hcz43_2
                                try clear hcz43_3
                                try clear hcz43_4
                                try clear hcz43_5
                                try clear hcz43_6
                                try clear hcz43_7
                                try clear hcz48_0
                                try clear hcz48_1
                                try clear hcz48_2
                                try clear hcz48_3
                                try clear hcz48_4
                                try clear hcz48_5
                                try clear hcz48_6
                                try clear hcz48_7
                                try clear hcz50_0
                                try clear hcz50_1
                                try clear hcz50_2
                                try clear hcz50_3
                                try clear hcz50_4
                                try clear hcz50_5
                                try clear hcz50_6
                                try clear hcz50_7
                                try clear hcz8_0
                                try clear hcz8_1
                                try clear hcz8_2
                                try clear hcz8_3
                                try clear hcz8_4
                                try clear hcz8_5
                                try clear hcz8_6
                                try clear hcz8_7
                                try clear hcz9_0
                                try clear hcz9_1
                                try clear hcz9_2
                                try clear hcz9_3
                                try clear hcz9_4
                                try clear hcz9_5
                                try clear hcz9_6
                                try clear hcz9_7
                                try clear hfz15_0
                                try clear hfz15_1
                                try clear hfz15_2
                                try clear hfz15_3
                                try clear hfz15_4
                                try clear hfz15_5
                                try clear hfz15_6
                                try clear hfz15_7
                                try clear hfz16_0
                                try clear hfz16_1
                                try clear hfz16_2
                                try clear hfz16_3
                                try clear hfz16_4
                                try clear hfz16_5
                                try clear hfz16_6
                                try clear hfz16_7
                                try clear hfz22_0
                                try clear hfz22_1
                                try clear hfz22_2
                                try clear hfz22_3
                                try clear hfz22_4
                                try clear hfz22_5
                                try clear hfz22_6
                                try clear hfz22_7
                                try clear hfz23_0
                                try clear hfz23_1
                                try clear hfz23_2
                                try clear hfz23_3
                                try clear hfz23_4
                                try clear hfz23_5
                                try clear hfz23_6
                                try clear hfz23_7
                                try clear hfz27_0
                                try clear hfz27_1
                                try clear hfz27_2
                                try clear hfz27_3
                                try clear hfz27_4
                                try clear hfz27_5
                                try clear hfz27_6
                                try clear hfz27_7
                                try clear hfz28_0
                                try clear hfz28_1
                                try clear hfz28_2
                                try clear hfz28_3
                                try clear hfz28_4
                                try clear hfz28_5
                                try clear hfz28_6
                                try clear hfz28_7
                                try clear hfz36_0
                                try clear hfz36_1
                                try clear hfz36_2
                                try clear hfz36_3
                                try clear hfz36_4
                                try clear hfz36_5
                                try clear hfz36_6
                                try clear hfz36_7
                                try clear hfz37_0
                                try clear hfz37_1
                                try clear hfz37_2
                                try clear hfz37_3
                                try clear hfz37_4
                                try clear hfz37_5
                                try clear hfz37_6
                                try clear hfz37_7
                                try clear hfz39_0
                                try clear hfz39_1
                                try clear hfz39_2
                                try clear hfz39_3
                                try clear hfz39_4
                                try clear hfz39_5
                                try clear hfz39_6
                                try clear hfz39_7
                                try clear hfz40_0
                                try clear hfz40_1
                                try clear hfz40_2
                                try clear hfz40_3
                                try clear hfz40_4
                                try clear hfz40_5
                                try clear hfz40_6
                                try clear hfz40_7
                                try clear hfz42_0
                                try clear hfz42_1
                                try clear hfz42_2
                                try clear hfz42_3
                                try clear hfz42_4
                                try clear hfz42_5
                                try clear hfz42_6
                                try clear hfz42_7
                                try clear hfz43_0
                                try clear hfz43_1
                                try clear hfz43_2
                                try clear hfz43_3
                                try clear hfz43_4
                                try clear hfz43_5
                                try clear hfz43_6
                                try clear hfz43_7
                                try clear hfz48_0
                                try clear hfz48_1
                                try clear hfz48_2
                                try clear hfz48_3
                                try clear hfz48_4
                                try clear hfz48_5
                                try clear hfz48_6
                                try clear hfz48_7
                                try clear hfz50_0
                                try clear hfz50_1
                                try clear hfz50_2
                                try clear hfz50_3
                                try clear hfz50_4
                                try clear hfz50_5
                                try clear hfz50_6
                                try clear hfz50_7
                                try clear hfz8_0
                                try clear hfz8_1
                                try clear hfz8_2
                                try clear hfz8_3
                                try clear hfz8_4
                                try clear hfz8_5
                                try clear hfz8_6
                                try clear hfz8_7
                                try clear hfz9_0
                                try clear hfz9_1
                                try clear hfz9_2
                                try clear hfz9_3
                                try clear hfz9_4
                                try clear hfz9_5
                                try clear hfz9_6
                                try clear hfz9_7
                                try clear p2
                                obtain ⟨kq, x69_44, rfl, HA, HJ44, BK522, BK523, HB⟩ := hcut
                                cases kq with
                                | zero => exact absurd HA.out (by simp [erratumref05_Same.j4])
                                | succ kj44 =>
                                  have H := HA.out
                                  clear HA
                                  simp only [erratumref05_Same.j4] at H
                                  by_cases c51 : x69_44 = true
                                  · subst c51
                                    have H1 : (if 0 ≤ x5_4 then (if x5_4 < (l0_6.length : Int) then (if x5_4 < (l1_6.length : Int) then (if (rdOf ByteArray.empty l0_6 x5_4).toList = (rdOf ByteArray.empty l1_6 x5_4).toList then (erratumref05_Same.l0 kj44 (wrap64 (x5_4 + 1)) a0_0 a0_1 a0_2 l0_3 a0_4 a0_5 l0_6 l0_7 a1_0 a1_1 a1_2 l1_3 a1_4 a1_5 l1_6 l1_7) else (some false)) else (none)) else (none)) else (none)) = some r := by rw [if_pos rfl] at H; exact H
                                    clear H
                                    have H := H1
                                    clear H1
                                    by_cases c52 : 0 ≤ x5_4
                                    · rw [if_pos c52] at H
                                      have c52b0 : decide (0 ≤ x5_4) = true := decide_eq_true c52
                                      clear c52
                                      by_cases c53 : x5_4 < (l0_6.length : Int)
                                      · rw [if_pos c53] at H
                                        have c53b0 : decide (x5_4 < (l0_6.length : Int)) = true := decide_eq_true c53
                                        clear c53
                                        by_cases c54 : x5_4 < (l1_6.length : Int)
                                        · rw [if_pos c54] at H
                                          have c54b0 : decide (x5_4 < (l1_6.length : Int)) = true := decide_eq_true c54
                                          clear c54
                                          by_cases c55 : (rdOf ByteArray.empty l0_6 x5_4).toList = (rdOf ByteArray.empty l1_6 x5_4).toList
                                          · rw [if_pos c55] at H
                                            have c55b0 : ((rdOf ByteArray.empty l0_6 x5_4).toList == (rdOf ByteArray.empty l1_6 x5_4).toList) = true := beq_iff_eq.mpr c55
                                            have c55b1 : ((rdOf ByteArray.empty l0_6 x5_4).toList != (rdOf ByteArray.empty l1_6 x5_4).toList) = false := bne_eq_false_iff_eq.mpr c55
                                            clear c55
                                            have H' := Aside0.mk H
                                            clear H
                                            try go_wp2
                                            have n0_ := Aside0.mk (blk_drew BK522.out)
                                            have n1_ := Aside0.mk (blk_drew BK523.out)
                                            have n2_ := Aside0.mk (below_drew1 HB.out)
                                            clear BK522
                                            clear BK523
                                            clear HB
                                            have BK522 := n0_
                                            have BK523 := n1_
                                            have HB := n2_
                                            clear n0_ n1_ n2_
                                            have p525 : 0 ≤ (x5_4 : Int) := of_decide_eq_true (by first | (with_reducible assumption) | assumption)
                                            have q525 : x5_4 < (l0_6.length : Int) := of_decide_eq_true (by first | (with_reducible assumption) | assumption)
                                            obtain ⟨ad525, e525, hx525_0⟩ := Kd.at_string HR0_6.out x5_4 p525 q525
                                            have hw525_0 := hx525_0
                                            cases e525
                                            replace hx525_0 := (HB.out.cell (World.block_lt_of_cell? w _ hx525_0)).trans hx525_0
                                            replace p525 := eq_true p525
                                            replace q525 := eq_true q525
                                            have p526 : 0 ≤ (x5_4 : Int) := of_decide_eq_true (by first | (with_reducible assumption) | assumption)
                                            have q526 : x5_4 < (l1_6.length : Int) := of_decide_eq_true (by first | (with_reducible assumption) | assumption)
                                            obtain ⟨ad526, e526, hx526_0⟩ := Kd.at_string HR1_6.out x5_4 p526 q526
                                            have hw526_0 := hx526_0
                                            cases e526
                                            replace hx526_0 := (HB.out.cell (World.block_lt_of_cell? w _ hx526_0)).trans hx526_0
                                            replace p526 := eq_true p526
                                            replace q526 := eq_true q526
                                            refine start_ (n := 11) (S := fun w' => w'.cell? ⟨gb522, 0, none⟩ = some (.int .i64 a0_0) ∧ w'.cell? ⟨gb522, 1, none⟩ = some (.bool a0_1) ∧ w'.cell? ⟨gb522, 2, none⟩ = some (.bool a0_2) ∧ w'.cell? ⟨gb522, 3, none⟩ = some (.slice A0_3 l0_3.length c0_3) ∧ w'.cell? ⟨gb522, 4, none⟩ = some (.int .i64 a0_4) ∧ w'.cell? ⟨gb522, 5, none⟩ = some (.string a0_5) ∧ w'.cell? ⟨gb522, 6, none⟩ = some (.slice (some ad525) l0_6.length c0_6) ∧ w'.cell? ⟨gb522, 7, none⟩ = some (.slice A0_7 l0_7.length c0_7) ∧ w'.cell? ⟨gb523, 0, none⟩ = some (.int .i64 a1_0) ∧ w'.cell? ⟨gb523, 1, none⟩ = some (.bool a1_1) ∧ w'.cell? ⟨gb523, 2, none⟩ = some (.bool a1_2) ∧ w'.cell? ⟨gb523, 3, none⟩ = some (.slice A1_3 l1_3.length c1_3) ∧ w'.cell? ⟨gb523, 4, none⟩ = some (.int .i64 a1_4) ∧ w'.cell? ⟨gb523, 5, none⟩ = some (.string a1_5) ∧ w'.cell? ⟨gb523, 6, none⟩ = some (.slice (some ad526) l1_6.length c1_6) ∧ w'.cell? ⟨gb523, 7, none⟩ = some (.slice A1_7 l1_7.length c1_7) ∧ w'.cell? (ad525.add (x5_4).toNat) = some (.string (rdOf ByteArray.empty l0_6 x5_4)) ∧ w'.cell? (ad526.add (x5_4).toNat) = some (.string (rdOf ByteArray.empty l1_6 x5_4))) (ds := []) #[false, false, false, false, false, false, false, false, false, false, false] (by kernel_rfl) rfl rfl ⟨(blk_cell BK522.out 0).trans rfl, (blk_cell BK522.out 1).trans rfl, (blk_cell BK522.out 2).trans rfl, (blk_cell BK522.out 3).trans rfl, (blk_cell BK522.out 4).trans rfl, (blk_cell BK522.out 5).trans rfl, (blk_cell BK522.out 6).trans rfl, (blk_cell BK522.out 7).trans rfl, (blk_cell BK523.out 0).trans rfl, (blk_cell BK523.out 1).trans rfl, (blk_cell BK523.out 2).trans rfl, (blk_cell BK523.out 3).trans rfl, (blk_cell BK523.out 4).trans rfl, (blk_cell BK523.out 5).trans rfl, (blk_cell BK523.out 6).trans rfl, (blk_cell BK523.out 7).trans rfl, ((HB.out.cell (World.block_lt_of_cell? w _ hw525_0)).trans hw525_0), ((HB.out.cell (World.block_lt_of_cell? w _ hw526_0)).trans hw526_0)⟩ (fun hHeld => ?_); refine with_tabW erratumref05_Same.tab18 erratumref05_Same.bits18 (fun HT_ HW_ => ?_)
                                            generalize wc.drew = w56 at BK522 BK523 HB hx525_0 hx526_0 hHeld ⊢
                                            refine pure_ (i := 0) (N := some 72) (v := ?_) (a' := ?_) #[true, false, false, false, false, false, false, false, false, false, false] rfl rfl (any_of HT_.out (by kernel_rfl)) (fun _ _ _ h => h) (Or.inl ⟨by rfl, ?_⟩) ?_ ?_
                                            rotate_left
                                            · intro w'
                                              go_simp
                                              with_reducible rfl
                                            rotate_left
                                            · simp only [Act.put, List.setIfInBounds_toArray, List.set_cons_zero, List.set_cons_succ, i64_w, i32_w]
                                              rfl
                                            refine pure_ (i := 2) (N := some 74) (v := ?_) (a' := ?_) #[true, false, true, false, false, false, false, false, false, false, false] rfl rfl (any_of HT_.out (by kernel_rfl)) (fun _ _ _ h => h) (Or.inl ⟨by rfl, ?_⟩) ?_ ?_
                                            rotate_left
                                            · intro w'
                                              go_simp
                                              with_reducible rfl
                                            rotate_left
                                            · simp only [Act.put, List.setIfInBounds_toArray, List.set_cons_zero, List.set_cons_succ, i64_w, i32_w]
                                              rfl
                                            refine pure_ (i := 5) (N := some 77) (v := ?_) (a' := ?_) #[true, false, true, false, false, true, false, false, false, false, false] rfl rfl (any_of HT_.out (by kernel_rfl)) (fun _ _ _ h => h) (Or.inl ⟨by rfl, ?_⟩) ?_ ?_
                                            rotate_left
                                            · intro w'
                                              go_simp
                                              with_reducible rfl
                                            rotate_left
                                            · simp only [Act.put, List.setIfInBounds_toArray, List.set_cons_zero, List.set_cons_succ, i64_w, i32_w]
                                              rfl
                                            refine pure_ (i := 7) (N := some 79) (v := ?_) (a' := ?_) #[true, false, true, false, false, true, false, true, false, false, false] rfl rfl (any_of HT_.out (by kernel_rfl)) (fun _ _ _ h => h) (Or.inl ⟨by rfl, ?_⟩) ?_ ?_
                                            rotate_left
                                            · intro w'
                                              go_simp
                                              with_reducible rfl
                                            rotate_left
                                            · simp only [Act.put, List.setIfInBounds_toArray, List.set_cons_zero, List.set_cons_succ, i64_w, i32_w]
                                              rfl
                                            refine take_ (i := 1) (N := some 73) (v := ?_) (a' := ?_) #[true, true, true, false, false, true, false, true, false, false, false] rfl rfl (take_ofW HT_.out HW_.out (by kernel_rfl)) (fun _ _ _ h => h) (Or.inl ⟨by rfl, ?_⟩) hHeld ?_ ?_
                                            rotate_left
                                            · rintro w' ⟨s0, s1, s2, s3, s4, s5, s6, s7, s8, s9, s10, s11, s12, s13, s14, s15, s16, s17⟩
                                              go_simp
                                              with_reducible rfl
                                            rotate_left
                                            · simp only [Act.put, List.setIfInBounds_toArray, List.set_cons_zero, List.set_cons_succ, i64_w, i32_w]
                                              rfl
                                            refine pure_ (i := 3) (N := some 75) (v := ?_) (a' := ?_) #[true, true, true, true, false, true, false, true, false, false, false] rfl rfl (any_of HT_.out (by kernel_rfl)) (fun _ _ _ h => h) (Or.inl ⟨by rfl, ?_⟩) ?_ ?_
                                            rotate_left
                                            · intro w'
                                              go_simp
                                              with_reducible rfl
                                            rotate_left
                                            · simp only [Act.put, List.setIfInBounds_toArray, List.set_cons_zero, List.set_cons_succ, i64_w, i32_w]
                                              rfl
                                            refine take_ (i := 4) (N := some 76) (v := ?_) (a' := ?_) #[true, true, true, true, true, true, false, true, false, false, false] rfl rfl (take_ofW HT_.out HW_.out (by kernel_rfl)) (fun _ _ _ h => h) (Or.inl ⟨by rfl, ?_⟩) hHeld ?_ ?_
                                            rotate_left
                                            · rintro w' ⟨s0, s1, s2, s3, s4, s5, s6, s7, s8, s9, s10, s11, s12, s13, s14, s15, s16, s17⟩
                                              go_simp
                                              with_reducible rfl
                                            rotate_left
                                            · simp only [Act.put, List.setIfInBounds_toArray, List.set_cons_zero, List.set_cons_succ, i64_w, i32_w]
                                              rfl
                                            refine take_ (i := 6) (N := some 78) (v := ?_) (a' := ?_) #[true, true, true, true, true, true, true, true, false, false, false] rfl rfl (take_ofW HT_.out HW_.out (by kernel_rfl)) (fun _ _ _ h => h) (Or.inl ⟨by rfl, ?_⟩) hHeld ?_ ?_
                                            rotate_left
                                            · rintro w' ⟨s0, s1, s2, s3, s4, s5, s6, s7, s8, s9, s10, s11, s12, s13, s14, s15, s16, s17⟩
                                              go_simp
                                              with_reducible rfl
                                            rotate_left
                                            · simp only [Act.put, List.setIfInBounds_toArray, List.set_cons_zero, List.set_cons_succ, i64_w, i32_w]
                                              rfl
                                            refine pure_ (i := 8) (N := some 80) (v := ?_) (a' := ?_) #[true, true, true, true, true, true, true, true, true, false, false] rfl rfl (any_of HT_.out (by kernel_rfl)) (fun _ _ _ h => h) (Or.inl ⟨by rfl, ?_⟩) ?_ ?_
                                            rotate_left
                                            · intro w'
                                              go_simp
                                              with_reducible rfl
                                            rotate_left
                                            · simp only [Act.put, List.setIfInBounds_toArray, List.set_cons_zero, List.set_cons_succ, i64_w, i32_w]
                                              rfl
                                            refine take_ (i := 9) (N := some 81) (v := ?_) (a' := ?_) #[true, true, true, true, true, true, true, true, true, true, false] rfl rfl (take_ofW HT_.out HW_.out (by kernel_rfl)) (fun _ _ _ h => h) (Or.inl ⟨by rfl, ?_⟩) hHeld ?_ ?_
                                            rotate_left
                                            · rintro w' ⟨s0, s1, s2, s3, s4, s5, s6, s7, s8, s9, s10, s11, s12, s13, s14, s15, s16, s17⟩
                                              go_simp
                                              with_reducible rfl
                                            rotate_left
                                            · simp only [Act.put, List.setIfInBounds_toArray, List.set_cons_zero, List.set_cons_succ, i64_w, i32_w]
                                              rfl
                                            refine pure_ (i := 10) (N := some 82) (v := ?_) (a' := ?_) #[true, true, true, true, true, true, true, true, true, true, true] rfl rfl (any_of HT_.out (by kernel_rfl)) (fun _ _ _ h => h) (Or.inl ⟨by rfl, ?_⟩) ?_ ?_
                                            rotate_left
                                            · intro w'
                                              go_simp
                                              with_reducible rfl
                                            rotate_left
                                            · simp only [Act.put, List.setIfInBounds_toArray, List.set_cons_zero, List.set_cons_succ, i64_w, i32_w]
                                              rfl
                                            refine done_ (done_of HT_.out (by kernel_rfl)) ?_
                                            try go_wp2
                                            go_roundg kj44
                                            case measure => have := HJ17.out; have := HJ28.out; have := HJ31.out; have := HK4.out; have := HJ44.out; omega
                                            case rel => exact ⟨(wrap64 (x5_4 + 1)), (by first | rfl | (simp; done) | (simp [*]; done)), H', ⟨by have := HJ17.out; have := HJ28.out; have := HJ31.out; have := HK4.out; have := HJ44.out; omega⟩, ⟨by (with_reducible repeat (first | refine blk_drewN ?_ _ | refine blk_drew ?_ | refine blk_alloc ?_ _)); exact BK522.out⟩, ⟨by (with_reducible repeat (first | refine blk_drewN ?_ _ | refine blk_drew ?_ | refine blk_alloc ?_ _)); exact BK523.out⟩, ⟨by repeat (first | (with_reducible first | exact HB.out | apply below_alloc | apply pw_below_drewN | apply below_drew1 | refine below_set ?_ GE522.out | refine below_set ?_ GE523.out) | exact HB.out)⟩⟩
                                          · rw [if_neg c55] at H
                                            have c55b0 : ((rdOf ByteArray.empty l0_6 x5_4).toList == (rdOf ByteArray.empty l1_6 x5_4).toList) = false := beq_eq_false_iff_ne.mpr c55
                                            have c55b1 : ((rdOf ByteArray.empty l0_6 x5_4).toList != (rdOf ByteArray.empty l1_6 x5_4).toList) = true := bne_iff_ne.mpr c55
                                            obtain rfl := Option.some.inj H
                                            try go_wp2
                                            have n0_ := Aside0.mk (blk_drew BK522.out)
                                            have n1_ := Aside0.mk (blk_drew BK523.out)
                                            have n2_ := Aside0.mk (below_drew1 HB.out)
                                            clear BK522
                                            clear BK523
                                            clear HB
                                            have BK522 := n0_
                                            have BK523 := n1_
                                            have HB := n2_
                                            clear n0_ n1_ n2_
                                            have p525 : 0 ≤ (x5_4 : Int) := of_decide_eq_true (by first | (with_reducible assumption) | assumption)
                                            have q525 : x5_4 < (l0_6.length : Int) := of_decide_eq_true (by first | (with_reducible assumption) | assumption)
                                            obtain ⟨ad525, e525, hx525_0⟩ := Kd.at_string HR0_6.out x5_4 p525 q525
                                            have hw525_0 := hx525_0
                                            cases e525
                                            replace hx525_0 := (HB.out.cell (World.block_lt_of_cell? w _ hx525_0)).trans hx525_0
                                            replace p525 := eq_true p525
                                            replace q525 := eq_true q525
                                            have p526 : 0 ≤ (x5_4 : Int) := of_decide_eq_true (by first | (with_reducible assumption) | assumption)
                                            have q526 : x5_4 < (l1_6.length : Int) := of_decide_eq_true (by first | (with_reducible assumption) | assumption)
                                            obtain ⟨ad526, e526, hx526_0⟩ := Kd.at_string HR1_6.out x5_4 p526 q526
                                            have hw526_0 := hx526_0
                                            cases e526
                                            replace hx526_0 := (HB.out.cell (World.block_lt_of_cell? w _ hx526_0)).trans hx526_0
                                            replace p526 := eq_true p526
                                            replace q526 := eq_true q526
                                            refine start_ (n := 11) (S := fun w' => w'.cell? ⟨gb522, 0, none⟩ = some (.int .i64 a0_0) ∧ w'.cell? ⟨gb522, 1, none⟩ = some (.bool a0_1) ∧ w'.cell? ⟨gb522, 2, none⟩ = some (.bool a0_2) ∧ w'.cell? ⟨gb522, 3, none⟩ = some (.slice A0_3 l0_3.length c0_3) ∧ w'.cell? ⟨gb522, 4, none⟩ = some (.int .i64 a0_4) ∧ w'.cell? ⟨gb522, 5, none⟩ = some (.string a0_5) ∧ w'.cell? ⟨gb522, 6, none⟩ = some (.slice (some ad525) l0_6.length c0_6) ∧ w'.cell? ⟨gb522, 7, none⟩ = some (.slice A0_7 l0_7.length c0_7) ∧ w'.cell? ⟨gb523, 0, none⟩ = some (.int .i64 a1_0) ∧ w'.cell? ⟨gb523, 1, none⟩ = some (.bool a1_1) ∧ w'.cell? ⟨gb523, 2, none⟩ = some (.bool a1_2) ∧ w'.cell? ⟨gb523, 3, none⟩ = some (.slice A1_3 l1_3.length c1_3) ∧ w'.cell? ⟨gb523, 4, none⟩ = some (.int .i64 a1_4) ∧ w'.cell? ⟨gb523, 5, none⟩ = some (.string a1_5) ∧ w'.cell? ⟨gb523, 6, none⟩ = some (.slice (some ad526) l1_6.length c1_6) ∧ w'.cell? ⟨gb523, 7, none⟩ = some (.slice A1_7 l1_7.length c1_7) ∧ w'.cell? (ad525.add (x5_4).toNat) = some (.string (rdOf ByteArray.empty l0_6 x5_4)) ∧ w'.cell? (ad526.add (x5_4).toNat) = some (.string (rdOf ByteArray.empty l1_6 x5_4))) (ds := []) #[false, false, false, false, false, false, false, false, false, false, false] (by kernel_rfl) rfl rfl ⟨(blk_cell BK522.out 0).trans rfl, (blk_cell BK522.out 1).trans rfl, (blk_cell BK522.out 2).trans rfl, (blk_cell BK522.out 3).trans rfl, (blk_cell BK522.out 4).trans rfl, (blk_cell BK522.out 5).trans rfl, (blk_cell BK522.out 6).trans rfl, (blk_cell BK522.out 7).trans rfl, (blk_cell BK523.out 0).trans rfl, (blk_cell BK523.out 1).trans rfl, (blk_cell BK523.out 2).trans rfl, (blk_cell BK523.out 3).trans rfl, (blk_cell BK523.out 4).trans rfl, (blk_cell BK523.out 5).trans rfl, (blk_cell BK523.out 6).trans rfl, (blk_cell BK523.out 7).trans rfl, ((HB.out.cell (World.block_lt_of_cell? w _ hw525_0)).trans hw525_0), ((HB.out.cell (World.block_lt_of_cell? w _ hw526_0)).trans hw526_0)⟩ (fun hHeld => ?_); refine with_tabW erratumref05_Same.tab18 erratumref05_Same.bits18 (fun HT_ HW_ => ?_)
                                            generalize wc.drew = w57 at BK522 BK523 HB hx525_0 hx526_0 hHeld ⊢
                                            refine pure_ (i := 0) (N := some 72) (v := ?_) (a' := ?_) #[true, false, false, false, false, false, false, false, false, false, false] rfl rfl (any_of HT_.out (by kernel_rfl)) (fun _ _ _ h => h) (Or.inl ⟨by rfl, ?_⟩) ?_ ?_
                                            rotate_left
                                            · intro w'
                                              go_simp
                                              with_reducible rfl
                                            rotate_left
                                            · simp only [Act.put, List.setIfInBounds_toArray, List.set_cons_zero, List.set_cons_succ, i64_w, i32_w]
                                              rfl
                                            refine pure_ (i := 2) (N := some 74) (v := ?_) (a' := ?_) #[true, false, true, false, false, false, false, false, false, false, false] rfl rfl (any_of HT_.out (by kernel_rfl)) (fun _ _ _ h => h) (Or.inl ⟨by rfl, ?_⟩) ?_ ?_
                                            rotate_left
                                            · intro w'
                                              go_simp
                                              with_reducible rfl
                                            rotate_left
                                            · simp only [Act.put, List.setIfInBounds_toArray, List.set_cons_zero, List.set_cons_succ, i64_w, i32_w]
                                              rfl
                                            refine pure_ (i := 5) (N := some 77) (v := ?_) (a' := ?_) #[true, false, true, false, false, true, false, false, false, false, false] rfl rfl (any_of HT_.out (by kernel_rfl)) (fun _ _ _ h => h) (Or.inl ⟨by rfl, ?_⟩) ?_ ?_
                                            rotate_left
                                            · intro w'
                                              go_simp
                                              with_reducible rfl
                                            rotate_left
                                            · simp only [Act.put, List.setIfInBounds_toArray, List.set_cons_zero, List.set_cons_succ, i64_w, i32_w]
                                              rfl
                                            refine pure_ (i := 7) (N := some 79) (v := ?_) (a' := ?_) #[true, false, true, false, false, true, false, true, false, false, false] rfl rfl (any_of HT_.out (by kernel_rfl)) (fun _ _ _ h => h) (Or.inl ⟨by rfl, ?_⟩) ?_ ?_
                                            rotate_left
                                            · intro w'
                                              go_simp
                                              with_reducible rfl
                                            rotate_left
                                            · simp only [Act.put, List.setIfInBounds_toArray, List.set_cons_zero, List.set_cons_succ, i64_w, i32_w]
                                              rfl
                                            refine take_ (i := 1) (N := some 73) (v := ?_) (a' := ?_) #[true, true, true, false, false, true, false, true, false, false, false] rfl rfl (take_ofW HT_.out HW_.out (by kernel_rfl)) (fun _ _ _ h => h) (Or.inl ⟨by rfl, ?_⟩) hHeld ?_ ?_
                                            rotate_left
                                            · rintro w' ⟨s0, s1, s2, s3, s4, s5, s6, s7, s8, s9, s10, s11, s12, s13, s14, s15, s16, s17⟩
                                              go_simp
                                              with_reducible rfl
                                            rotate_left
                                            · simp only [Act.put, List.setIfInBounds_toArray, List.set_cons_zero, List.set_cons_succ, i64_w, i32_w]
                                              rfl
                                            refine pure_ (i := 3) (N := some 75) (v := ?_) (a' := ?_) #[true, true, true, true, false, true, false, true, false, false, false] rfl rfl (any_of HT_.out (by kernel_rfl)) (fun _ _ _ h => h) (Or.inl ⟨by rfl, ?_⟩) ?_ ?_
                                            rotate_left
                                            · intro w'
                                              go_simp
                                              with_reducible rfl
                                            rotate_left
                                            · simp only [Act.put, List.setIfInBounds_toArray, List.set_cons_zero, List.set_cons_succ, i64_w, i32_w]
                                              rfl
                                            refine take_ (i := 4) (N := some 76) (v := ?_) (a' := ?_) #[true, true, true, true, true, true, false, true, false, false, false] rfl rfl (take_ofW HT_.out HW_.out (by kernel_rfl)) (fun _ _ _ h => h) (Or.inl ⟨by rfl, ?_⟩) hHeld ?_ ?_
                                            rotate_left
                                            · rintro w' ⟨s0, s1, s2, s3, s4, s5, s6, s7, s8, s9, s10, s11, s12, s13, s14, s15, s16, s17⟩
                                              go_simp
                                              with_reducible rfl
                                            rotate_left
                                            · simp only [Act.put, List.setIfInBounds_toArray, List.set_cons_zero, List.set_cons_succ, i64_w, i32_w]
                                              rfl
                                            refine take_ (i := 6) (N := some 78) (v := ?_) (a' := ?_) #[true, true, true, true, true, true, true, true, false, false, false] rfl rfl (take_ofW HT_.out HW_.out (by kernel_rfl)) (fun _ _ _ h => h) (Or.inl ⟨by rfl, ?_⟩) hHeld ?_ ?_
                                            rotate_left
                                            · rintro w' ⟨s0, s1, s2, s3, s4, s5, s6, s7, s8, s9, s10, s11, s12, s13, s14, s15, s16, s17⟩
                                              go_simp
                                              with_reducible rfl
                                            rotate_left
                                            · simp only [Act.put, List.setIfInBounds_toArray, List.set_cons_zero, List.set_cons_succ, i64_w, i32_w]
                                              rfl
                                            refine pure_ (i := 8) (N := some 80) (v := ?_) (a' := ?_) #[true, true, true, true, true, true, true, true, true, false, false] rfl rfl (any_of HT_.out (by kernel_rfl)) (fun _ _ _ h => h) (Or.inl ⟨by rfl, ?_⟩) ?_ ?_
                                            rotate_left
                                            · intro w'
                                              go_simp
                                              with_reducible rfl
                                            rotate_left
                                            · simp only [Act.put, List.setIfInBounds_toArray, List.set_cons_zero, List.set_cons_succ, i64_w, i32_w]
                                              rfl
                                            refine take_ (i := 9) (N := some 81) (v := ?_) (a' := ?_) #[true, true, true, true, true, true, true, true, true, true, false] rfl rfl (take_ofW HT_.out HW_.out (by kernel_rfl)) (fun _ _ _ h => h) (Or.inl ⟨by rfl, ?_⟩) hHeld ?_ ?_
                                            rotate_left
                                            · rintro w' ⟨s0, s1, s2, s3, s4, s5, s6, s7, s8, s9, s10, s11, s12, s13, s14, s15, s16, s17⟩
                                              go_simp
                                              with_reducible rfl
                                            rotate_left
                                            · simp only [Act.put, List.setIfInBounds_toArray, List.set_cons_zero, List.set_cons_succ, i64_w, i32_w]
                                              rfl
                                            refine pure_ (i := 10) (N := some 82) (v := ?_) (a' := ?_) #[true, true, true, true, true, true, true, true, true, true, true] rfl rfl (any_of HT_.out (by kernel_rfl)) (fun _ _ _ h => h) (Or.inl ⟨by rfl, ?_⟩) ?_ ?_
                                            rotate_left
                                            · intro w'
                                              go_simp
                                              with_reducible rfl
                                            rotate_left
                                            · simp only [Act.put, List.setIfInBounds_toArray, List.set_cons_zero, List.set_cons_succ, i64_w, i32_w]
                                              rfl
                                            refine done_ (done_of HT_.out (by kernel_rfl)) ?_
                                            try go_wp2
                                            go_ret
                                            exact ⟨by first | rfl | (simp [errW_none, errW_some] <;> rfl) | (simp [*, errW_none, errW_some] <;> rfl), by repeat (first | (with_reducible first | exact HB.out | apply below_alloc | apply pw_below_drewN | apply below_drew1 | refine below_set ?_ GE522.out | refine below_set ?_ GE523.out) | exact HB.out)⟩
                                        · rw [if_neg c54] at H
                                          exact absurd H (by simp)
                                      · rw [if_neg c53] at H
                                        exact absurd H (by simp)
                                    · rw [if_neg c52] at H
                                      exact absurd H (by simp)
                                  · replace c51 := Bool.eq_false_iff.mpr c51
                                    subst c51
                                    have H1 : (erratumref05_Same.l1 kj44 0 a0_0 a0_1 a0_2 l0_3 a0_4 a0_5 l0_6 l0_7 a1_0 a1_1 a1_2 l1_3 a1_4 a1_5 l1_6 l1_7) = some r := by rw [if_neg (show ¬ (false = true) by decide)] at H; exact H
                                    clear H
                                    have H := H1
                                    clear H1
                                    have H' := Aside0.mk H
                                    clear H
                                    go_wp2
                                    go_loopg [6] kj44 (fun kq v6 w' => ∃ (x6_6 : Int), v6 = .int .i64 x6_6 ∧ Aside0 (erratumref05_Same.l1 kq x6_6 a0_0 a0_1 a0_2 l0_3 a0_4 a0_5 l0_6 l0_7 a1_0 a1_1 a1_2 l1_3 a1_4 a1_5 l1_6 l1_7 = some r) ∧ Aside0 (kq ≤ kj44) ∧ Aside0 (w'.heap[gb522]? = some (.cells #[.int .i64 a0_0, .bool a0_1, .bool a0_2, (.slice A0_3 l0_3.length c0_3), .int .i64 a0_4, .string a0_5, (.slice A0_6 l0_6.length c0_6), (.slice A0_7 l0_7.length c0_7)] 50 (0, 0))) ∧ Aside0 (w'.heap[gb523]? = some (.cells #[.int .i64 a1_0, .bool a1_1, .bool a1_2, (.slice A1_3 l1_3.length c1_3), .int .i64 a1_4, .string a1_5, (.slice A1_6 l1_6.length c1_6), (.slice A1_7 l1_7.length c1_7)] 50 (0, 0))) ∧ Aside0 (Below w.heap.size w w'))
                                    case atStart => exact ⟨(0), (by first | rfl | (simp; done) | (simp [*]; done)), H', ⟨Nat.le_refl _⟩, ⟨by (with_reducible repeat (first | refine blk_drewN ?_ _ | refine blk_drew ?_ | refine blk_alloc ?_ _)); exact BK522.out⟩, ⟨by (with_reducible repeat (first | refine blk_drewN ?_ _ | refine blk_drew ?_ | refine blk_alloc ?_ _)); exact BK523.out⟩, ⟨by repeat (first | (with_reducible first | exact HB.out | apply below_alloc | apply pw_below_drewN | apply below_drew1 | refine below_set ?_ GE522.out | refine below_set ?_ GE523.out) | exact HB.out)⟩⟩
                                    case round =>
                                      clear H'
                                      try clear c1
                                      try clear c2
                                      try clear p2
                                      try clear c3
                                      try clear c3b0
                                      try clear c3b1
                                      try clear c4
                                      try clear c4b0
                                      try clear c4b1
                                      try clear c5
                                      try clear p5
                                      try clear q5
                                      try clear hx5
                                      try clear p6
                                      try clear c7
                                      try clear c10
                                      try clear c10b0
                                      try clear c10b1
                                      try clear c14
                                      try clear c21
                                      try clear c24
                                      try clear c24b0
                                      try clear c24b1
                                      try clear c25
                                      try clear c26
                                      try clear c30
                                      try clear c30b0
                                      try clear c30b1
                                      try clear c31
                                      try clear c33
                                      try clear c33b0
                                      try clear c33b1
                                      try clear c33b2
                                      try clear c34
                                      try clear c34b0
                                      try clear c34b1
                                      try clear c35
                                      try clear c38
                                      try clear c41
                                      try clear c44
                                      try clear c46
                                      try clear c46b0
                                      try clear c47
                                      try clear c49
                                      try clear c51
                                      try clear c52
                                      try clear c52b0
                                      try clear p52
                                      try clear q52
                                      try clear hx52
                                      try clear c53
                                      try clear c53b0
                                      try clear c54
                                      try clear c54b0
                                      try clear c55
                                      try clear c55b0
                                      try clear c55b1
                                      try clear hcz15_0
                                      try clear hcz15_1
                                      try clear hcz15_2
                                      try clear hcz15_3
                                      try clear hcz15_4
                                      try clear hcz15_5
                                      try clear hcz15_6
                                      try clear hcz15_7
                                      try clear hcz16_0
                                      try clear hcz16_1
                                      try clear hcz16_2
                                      try clear hcz16_3
                                      try clear hcz16_4
                                      try clear hcz16_5
                                      try clear hcz16_6
                                      try clear hcz16_7
                                      try clear hcz22_0
                                      try clear hcz22_1
                                      try clear hcz22_2
                                      try clear hcz22_3
                                      try clear hcz22_4
                                      try clear hcz22_5
                                      try clear hcz22_6
                                      try clear hcz22_7
                                      try clear hcz23_0
                                      try clear hcz23_1
                                      try clear hcz23_2
                                      try clear hcz23_3
                                      try clear hcz23_4
                                      try clear hcz23_5
                                      try clear hcz23_6
                                      try clear hcz23_7
                                      try clear hcz27_0
                                      try clear hcz27_1
                                      try clear hcz27_2
                                      try clear hcz27_3
                                      try clear hcz27_4
                                      try clear hcz27_5
                                      try clear hcz27_6
                                      try clear hcz27_7
                                      try clear hcz28_0
                                      try clear hcz28_1
                                      try clear hcz28_2
                                      try clear hcz28_3
                                      try clear hcz28_4
                                      try clear hcz28_5
                                      try clear hcz28_6
                                      try clear hcz28_7
                                      try clear hcz36_0
                                      try clear hcz36_1
                                      try clear hcz36_2
                                      try clear hcz36_3
                                      try clear hcz36_4
                                      try clear hcz36_5
                                      try clear hcz36_6
                                      try clear hcz36_7
                                      try clear hcz37_0
                                      try clear hcz37_1
                                      try clear hcz37_2
                                      try clear hcz37_3
                                      try clear hcz37_4
                                      try clear hcz37_5
                                      try clear hcz37_6
                                      try clear hcz37_7
                                      try clear hcz39_0
                                      try clear hcz39_1
                                      try clear hcz39_2
                                      try clear hcz39_3
                                      try clear hcz39_4
                                      try clear hcz39_5
                                      try clear hcz39_6
                                      try clear hcz39_7
                                      try clear hcz40_0
                                      try clear hcz40_1
                                      try clear hcz40_2
                                      try clear hcz40_3
                                      try clear hcz40_4
                                      try clear hcz40_5
                                      try clear hcz40_6
                                      try clear hcz40_7
                                      try clear hcz42_0
                                      try clear hcz42_1
                                      try clear hcz42_2
                                      try clear hcz42_3
                                      try clear hcz42_4
                                      try clear hcz42_5
                                      try clear hcz42_6
                                      try clear hcz42_7
                                      try clear hcz43_0
                                      try clear hcz43_1
                                      try clear hcz43_2
                                      try clear hcz43_3
                                      try clear hcz43_4
                                      try clear hcz43_5
                                      try clear hcz43_6
                                      try clear hcz43_7
                                      try clear hcz48_0
                                      try clear hcz48_1
                                      try clear hcz48_2
                                      try clear hcz48_3
                                      try clear hcz48_4
                                      try clear hcz48_5
                                      try clear hcz48_6
                                      try clear hcz48_7
                                      try clear hcz50_0
                                      try clear hcz50_1
                                      try clear hcz50_2
                                      try clear hcz50_3
                                      try clear hcz50_4
                                      try clear hcz50_5
                                      try clear hcz50_6
                                      try clear hcz50_7
                                      try clear hcz8_0
                                      try clear hcz8_1
                                      try clear hcz8_2
                                      try clear hcz8_3
                                      try clear hcz8_4
                                      try clear hcz8_5
                                      try clear hcz8_6
                                      try clear hcz8_7
                                      try clear hcz9_0
                                      try clear hcz9_1
                                      try clear hcz9_2
                                      try clear hcz9_3
                                      try clear hcz9_4
                                      try clear hcz9_5
                                      try clear hcz9_6
                                      try clear hcz9_7
                                      try clear hfz15_0
                                      try clear hfz15_1
                                      try clear hfz15_2
                                      try clear hfz15_3
                                      try clear hfz15_4
                                      try clear hfz15_5
                                      try clear hfz15_6
                                      try clear hfz15_7
                                      try clear hfz16_0
                                      try clear hfz16_1
                                      try clear hfz16_2
                                      try clear hfz16_3
                                      try clear hfz16_4
                                      try clear hfz16_5
                                      try clear hfz16_6
                                      try clear hfz16_7
                                      try clear hfz22_0
                                      try clear hfz22_1
                                      try clear hfz22_2
                                      try clear hfz22_3
                                      try clear hfz22_4
                                      try clear hfz22_5
                                      try clear hfz22_6
                                      try clear hfz22_7
                                      try clear hfz23_0
                                      try clear hfz23_1
                                      try clear hfz23_2
                                      try clear hfz23_3
                                      try clear hfz23_4
                                      try clear hfz23_5
                                      try clear hfz23_6
                                      try clear hfz23_7
                                      try clear hfz27_0
                                      try clear hfz27_1
                                      try clear hfz27_2
                                      try clear hfz27_3
                                      try clear hfz27_4
                                      try clear hfz27_5
                                      try clear hfz27_6
                                      try clear hfz27_7
                                      try clear hfz28_0
                                      try clear hfz28_1
                                      try clear hfz28_2
                                      try clear hfz28_3
                                      try clear hfz28_4
                                      try clear hfz28_5
                                      try clear hfz28_6
                                      try clear hfz28_7
                                      try clear hfz36_0
                                      try clear hfz36_1
                                      try clear hfz36_2
                                      try clear hfz36_3
                                      try clear hfz36_4
                                      try clear hfz36_5
                                      try clear hfz36_6
                                      try clear hfz36_7
                                      try clear hfz37_0
                                      try clear hfz37_1
                                      try clear hfz37_2
                                      try clear hfz37_3
                                      try clear hfz37_4
                                      try clear hfz37_5
                                      try clear hfz37_6
                                      try clear hfz37_7
                                      try clear hfz39_0
                                      try clear hfz39_1
                                      try clear hfz39_2
                                      try clear hfz39_3
                                      try clear hfz39_4
                                      try clear hfz39_5
                                      try clear hfz39_6
                                      try clear hfz39_7
                                      try clear hfz40_0
                                      try clear hfz40_1
                                      try clear hfz40_2
                                      try clear hfz40_3
                                      try clear hfz40_4
                                      try clear hfz40_5
                                      try clear hfz40_6
                                      try clear hfz40_7
                                      try clear hfz42_0
                                      try clear hfz42_1
                                      try clear hfz42_2
                                      try clear hfz42_3
                                      try clear hfz42_4
                                      try clear hfz42_5
                                      try clear hfz42_6
                                      try clear hfz42_7
                                      try clear hfz43_0
                                      try clear hfz43_1
                                      try clear hfz43_2
                                      try clear hfz43_3
                                      try clear hfz43_4
                                      try clear hfz43_5
                                      try clear hfz43_6
                                      try clear hfz43_7
                                      try clear hfz48_0
                                      try clear hfz48_1
                                      try clear hfz48_2
                                      try clear hfz48_3
                                      try clear hfz48_4
                                      try clear hfz48_5
                                      try clear hfz48_6
                                      try clear hfz48_7
                                      try clear hfz50_0
                                      try clear hfz50_1
                                      try clear hfz50_2
                                      try clear hfz50_3
                                      try clear hfz50_4
                                      try clear hfz50_5
                                      try clear hfz50_6
                                      try clear hfz50_7
                                      try clear hfz8_0
                                      try clear hfz8_1
                                      try clear hfz8_2
                                      try clear hfz8_3
                                      try clear hfz8_4
                                      try clear hfz8_5
                                      try clear hfz8_6
                                      try clear hfz8_7
                                      try clear hfz9_0
                                      try clear hfz9_1
                                      try clear hfz9_2
                                      try clear hfz9_3
                                      try clear hfz9_4
                                      try clear hfz9_5
                                      try clear hfz9_6
                                      try clear hfz9_7
                                      try clear hx525_0
                                      try clear hx526_0
                                      try clear p2
                                      try clear p525
                                      try clear p526
                                      try clear q525
                                      try clear q526
                                      obtain ⟨x6_6, rfl, HA, HK6, BK522, BK523, HB⟩ := hrel
                                      cases gk with
                                      | zero => exact absurd HA.out (by simp [erratumref05_Same.l1])
                                      | succ k6 =>
                                        have H := HA.out
                                        clear HA
                                        simp only [erratumref05_Same.l1] at H
                                        by_cases c58 : x6_6 < (l0_7.length : Int)
                                        · rw [if_pos c58] at H
                                          have c58b0 : decide (x6_6 < (l0_7.length : Int)) = true := decide_eq_true c58
                                          clear c58
                                          by_cases c59 : 0 ≤ x6_6
                                          · rw [if_pos c59] at H
                                            have c59b0 : decide (0 ≤ x6_6) = true := decide_eq_true c59
                                            clear c59
                                            by_cases c60 : x6_6 < (l1_7.length : Int)
                                            · rw [if_pos c60] at H
                                              have c60b0 : decide (x6_6 < (l1_7.length : Int)) = true := decide_eq_true c60
                                              clear c60
                                              replace H := Option.bind_eq_some_iff.mp H
                                              obtain ⟨t529, A610, H⟩ := H
                                              replace H : (if t529 = true then (erratumref05_Same.l1 k6 (wrap64 (x6_6 + 1)) a0_0 a0_1 a0_2 l0_3 a0_4 a0_5 l0_6 l0_7 a1_0 a1_1 a1_2 l1_3 a1_4 a1_5 l1_6 l1_7) else (some false)) = some r := H
                                              have A61 := Aside0.mk A610
                                              clear A610
                                              by_cases c62 : t529 = true
                                              · subst c62
                                                have H1 : (erratumref05_Same.l1 k6 (wrap64 (x6_6 + 1)) a0_0 a0_1 a0_2 l0_3 a0_4 a0_5 l0_6 l0_7 a1_0 a1_1 a1_2 l1_3 a1_4 a1_5 l1_6 l1_7) = some r := by rw [if_pos rfl] at H; exact H
                                                clear H
                                                have H := H1
                                                clear H1
                                                have H' := Aside0.mk H
                                                clear H
                                                have hnb63 := NB522_523.out
                                                have hnc63 := NB523_522.out
                                                have hcz64_0 : wr.cell? ⟨gb522, 0, none⟩ = some (.int .i64 a0_0) := (blk_cell BK522.out 0).trans rfl
                                                have hcz64_1 : wr.cell? ⟨gb522, 1, none⟩ = some (.bool a0_1) := (blk_cell BK522.out 1).trans rfl
                                                have hcz64_2 : wr.cell? ⟨gb522, 2, none⟩ = some (.bool a0_2) := (blk_cell BK522.out 2).trans rfl
                                                have hcz64_3 : wr.cell? ⟨gb522, 3, none⟩ = some (.slice A0_3 l0_3.length c0_3) := (blk_cell BK522.out 3).trans rfl
                                                have hcz64_4 : wr.cell? ⟨gb522, 4, none⟩ = some (.int .i64 a0_4) := (blk_cell BK522.out 4).trans rfl
                                                have hcz64_5 : wr.cell? ⟨gb522, 5, none⟩ = some (.string a0_5) := (blk_cell BK522.out 5).trans rfl
                                                have hcz64_6 : wr.cell? ⟨gb522, 6, none⟩ = some (.slice A0_6 l0_6.length c0_6) := (blk_cell BK522.out 6).trans rfl
                                                have hcz64_7 : wr.cell? ⟨gb522, 7, none⟩ = some (.slice A0_7 l0_7.length c0_7) := (blk_cell BK522.out 7).trans rfl
                                                have hfz64_0 := blk_frozen BK522.out 0
                                                have hfz64_1 := blk_frozen BK522.out 1
                                                have hfz64_2 := blk_frozen BK522.out 2
                                                have hfz64_3 := blk_frozen BK522.out 3
                                                have hfz64_4 := blk_frozen BK522.out 4
                                                have hfz64_5 := blk_frozen BK522.out 5
                                                have hfz64_6 := blk_frozen BK522.out 6
                                                have hfz64_7 := blk_frozen BK522.out 7
                                                try go_wp2
                                                have n0_ := Aside0.mk (blk_drew BK522.out)
                                                have n1_ := Aside0.mk (blk_drew BK523.out)
                                                have n2_ := Aside0.mk (below_drew1 HB.out)
                                                clear BK522
                                                clear BK523
                                                clear HB
                                                have BK522 := n0_
                                                have BK523 := n1_
                                                have HB := n2_
                                                clear n0_ n1_ n2_
                                                have p527 : 0 ≤ (x6_6 : Int) := of_decide_eq_true (by first | (with_reducible assumption) | assumption)
                                                have q527 : x6_6 < (l0_7.length : Int) := of_decide_eq_true (by first | (with_reducible assumption) | assumption)
                                                obtain ⟨ad527, A527_3, c527_3, A527_6, c527_6, A527_7, c527_7, e527, hx527_0, hx527_1, hx527_2, hx527_3, hx527_4, hx527_5, hx527_6, hx527_7, hl527_3, hi527_3, hl527_6, hi527_6, hl527_7, hi527_7⟩ := at_T50 HR0_7.out x6_6 p527 q527
                                                have hw527_7 := hx527_7
                                                have hw527_6 := hx527_6
                                                have hw527_5 := hx527_5
                                                have hw527_4 := hx527_4
                                                have hw527_3 := hx527_3
                                                have hw527_2 := hx527_2
                                                have hw527_1 := hx527_1
                                                have hw527_0 := hx527_0
                                                cases e527
                                                replace hx527_0 := (HB.out.cell (World.block_lt_of_cell? w _ hx527_0)).trans hx527_0
                                                replace hx527_1 := (HB.out.cell (World.block_lt_of_cell? w _ hx527_1)).trans hx527_1
                                                replace hx527_2 := (HB.out.cell (World.block_lt_of_cell? w _ hx527_2)).trans hx527_2
                                                replace hx527_3 := (HB.out.cell (World.block_lt_of_cell? w _ hx527_3)).trans hx527_3
                                                replace hx527_4 := (HB.out.cell (World.block_lt_of_cell? w _ hx527_4)).trans hx527_4
                                                replace hx527_5 := (HB.out.cell (World.block_lt_of_cell? w _ hx527_5)).trans hx527_5
                                                replace hx527_6 := (HB.out.cell (World.block_lt_of_cell? w _ hx527_6)).trans hx527_6
                                                replace hx527_7 := (HB.out.cell (World.block_lt_of_cell? w _ hx527_7)).trans hx527_7
                                                have HR527_3 := Aside0.mk hi527_3
                                                have HC527_3 := Aside0.mk hl527_3
                                                clear hi527_3 hl527_3
                                                have HR527_6 := Aside0.mk hi527_6
                                                have HC527_6 := Aside0.mk hl527_6
                                                clear hi527_6 hl527_6
                                                have HR527_7 := Aside0.mk hi527_7
                                                have HC527_7 := Aside0.mk hl527_7
                                                clear hi527_7 hl527_7
                                                replace p527 := eq_true p527
                                                replace q527 := eq_true q527
                                                have p528 : 0 ≤ (x6_6 : Int) := of_decide_eq_true (by first | (with_reducible assumption) | assumption)
                                                have q528 : x6_6 < (l1_7.length : Int) := of_decide_eq_true (by first | (with_reducible assumption) | assumption)
                                                obtain ⟨ad528, A528_3, c528_3, A528_6, c528_6, A528_7, c528_7, e528, hx528_0, hx528_1, hx528_2, hx528_3, hx528_4, hx528_5, hx528_6, hx528_7, hl528_3, hi528_3, hl528_6, hi528_6, hl528_7, hi528_7⟩ := at_T50 HR1_7.out x6_6 p528 q528
                                                have hw528_7 := hx528_7
                                                have hw528_6 := hx528_6
                                                have hw528_5 := hx528_5
                                                have hw528_4 := hx528_4
                                                have hw528_3 := hx528_3
                                                have hw528_2 := hx528_2
                                                have hw528_1 := hx528_1
                                                have hw528_0 := hx528_0
                                                cases e528
                                                replace hx528_0 := (HB.out.cell (World.block_lt_of_cell? w _ hx528_0)).trans hx528_0
                                                replace hx528_1 := (HB.out.cell (World.block_lt_of_cell? w _ hx528_1)).trans hx528_1
                                                replace hx528_2 := (HB.out.cell (World.block_lt_of_cell? w _ hx528_2)).trans hx528_2
                                                replace hx528_3 := (HB.out.cell (World.block_lt_of_cell? w _ hx528_3)).trans hx528_3
                                                replace hx528_4 := (HB.out.cell (World.block_lt_of_cell? w _ hx528_4)).trans hx528_4
                                                replace hx528_5 := (HB.out.cell (World.block_lt_of_cell? w _ hx528_5)).trans hx528_5
                                                replace hx528_6 := (HB.out.cell (World.block_lt_of_cell? w _ hx528_6)).trans hx528_6
                                                replace hx528_7 := (HB.out.cell (World.block_lt_of_cell? w _ hx528_7)).trans hx528_7
                                                have HR528_3 := Aside0.mk hi528_3
                                                have HC528_3 := Aside0.mk hl528_3
                                                clear hi528_3 hl528_3
                                                have HR528_6 := Aside0.mk hi528_6
                                                have HC528_6 := Aside0.mk hl528_6
                                                clear hi528_6 hl528_6
                                                have HR528_7 := Aside0.mk hi528_7
                                                have HC528_7 := Aside0.mk hl528_7
                                                clear hi528_7 hl528_7
                                                replace p528 := eq_true p528
                                                replace q528 := eq_true q528
                                                refine start_ (n := 12) (S := fun w' => w'.cell? ⟨gb522, 0, none⟩ = some (.int .i64 a0_0) ∧ w'.cell? ⟨gb522, 1, none⟩ = some (.bool a0_1) ∧ w'.cell? ⟨gb522, 2, none⟩ = some (.bool a0_2) ∧ w'.cell? ⟨gb522, 3, none⟩ = some (.slice A0_3 l0_3.length c0_3) ∧ w'.cell? ⟨gb522, 4, none⟩ = some (.int .i64 a0_4) ∧ w'.cell? ⟨gb522, 5, none⟩ = some (.string a0_5) ∧ w'.cell? ⟨gb522, 6, none⟩ = some (.slice A0_6 l0_6.length c0_6) ∧ w'.cell? ⟨gb522, 7, none⟩ = some (.slice (some ad527) l0_7.length c0_7) ∧ w'.cell? ⟨gb523, 0, none⟩ = some (.int .i64 a1_0) ∧ w'.cell? ⟨gb523, 1, none⟩ = some (.bool a1_1) ∧ w'.cell? ⟨gb523, 2, none⟩ = some (.bool a1_2) ∧ w'.cell? ⟨gb523, 3, none⟩ = some (.slice A1_3 l1_3.length c1_3) ∧ w'.cell? ⟨gb523, 4, none⟩ = some (.int .i64 a1_4) ∧ w'.cell? ⟨gb523, 5, none⟩ = some (.string a1_5) ∧ w'.cell? ⟨gb523, 6, none⟩ = some (.slice A1_6 l1_6.length c1_6) ∧ w'.cell? ⟨gb523, 7, none⟩ = some (.slice (some ad528) l1_7.length c1_7) ∧ w'.cell? (ad527.add ((x6_6).toNat * 8)) = some (.int .i64 ((rd_T50 l0_7 x6_6).f0)) ∧ w'.cell? ⟨(ad527.add ((x6_6).toNat * 8)).block, (ad527.add ((x6_6).toNat * 8)).off + 1, none⟩ = some (.bool ((rd_T50 l0_7 x6_6).f1)) ∧ w'.cell? ⟨(ad527.add ((x6_6).toNat * 8)).block, (ad527.add ((x6_6).toNat * 8)).off + 2, none⟩ = some (.bool ((rd_T50 l0_7 x6_6).f2.f0)) ∧ w'.cell? ⟨(ad527.add ((x6_6).toNat * 8)).block, (ad527.add ((x6_6).toNat * 8)).off + 3, none⟩ = some (.slice A527_3 ((rd_T50 l0_7 x6_6).f2.f1).length c527_3) ∧ w'.cell? ⟨(ad527.add ((x6_6).toNat * 8)).block, (ad527.add ((x6_6).toNat * 8)).off + 4, none⟩ = some (.int .i64 ((rd_T50 l0_7 x6_6).f2.f2)) ∧ w'.cell? ⟨(ad527.add ((x6_6).toNat * 8)).block, (ad527.add ((x6_6).toNat * 8)).off + 5, none⟩ = some (.string ((rd_T50 l0_7 x6_6).f3)) ∧ w'.cell? ⟨(ad527.add ((x6_6).toNat * 8)).block, (ad527.add ((x6_6).toNat * 8)).off + 6, none⟩ = some (.slice A527_6 ((rd_T50 l0_7 x6_6).f4).length c527_6) ∧ w'.cell? ⟨(ad527.add ((x6_6).toNat * 8)).block, (ad527.add ((x6_6).toNat * 8)).off + 7, none⟩ = some (.slice A527_7 ((rd_T50 l0_7 x6_6).f5).length c527_7) ∧ w'.cell? (ad528.add ((x6_6).toNat * 8)) = some (.int .i64 ((rd_T50 l1_7 x6_6).f0)) ∧ w'.cell? ⟨(ad528.add ((x6_6).toNat * 8)).block, (ad528.add ((x6_6).toNat * 8)).off + 1, none⟩ = some (.bool ((rd_T50 l1_7 x6_6).f1)) ∧ w'.cell? ⟨(ad528.add ((x6_6).toNat * 8)).block, (ad528.add ((x6_6).toNat * 8)).off + 2, none⟩ = some (.bool ((rd_T50 l1_7 x6_6).f2.f0)) ∧ w'.cell? ⟨(ad528.add ((x6_6).toNat * 8)).block, (ad528.add ((x6_6).toNat * 8)).off + 3, none⟩ = some (.slice A528_3 ((rd_T50 l1_7 x6_6).f2.f1).length c528_3) ∧ w'.cell? ⟨(ad528.add ((x6_6).toNat * 8)).block, (ad528.add ((x6_6).toNat * 8)).off + 4, none⟩ = some (.int .i64 ((rd_T50 l1_7 x6_6).f2.f2)) ∧ w'.cell? ⟨(ad528.add ((x6_6).toNat * 8)).block, (ad528.add ((x6_6).toNat * 8)).off + 5, none⟩ = some (.string ((rd_T50 l1_7 x6_6).f3)) ∧ w'.cell? ⟨(ad528.add ((x6_6).toNat * 8)).block, (ad528.add ((x6_6).toNat * 8)).off + 6, none⟩ = some (.slice A528_6 ((rd_T50 l1_7 x6_6).f4).length c528_6) ∧ w'.cell? ⟨(ad528.add ((x6_6).toNat * 8)).block, (ad528.add ((x6_6).toNat * 8)).off + 7, none⟩ = some (.slice A528_7 ((rd_T50 l1_7 x6_6).f5).length c528_7)) (ds := []) #[false, false, false, false, false, false, false, false, false, false, false, false] (by kernel_rfl) rfl rfl ⟨(blk_cell BK522.out 0).trans rfl, (blk_cell BK522.out 1).trans rfl, (blk_cell BK522.out 2).trans rfl, (blk_cell BK522.out 3).trans rfl, (blk_cell BK522.out 4).trans rfl, (blk_cell BK522.out 5).trans rfl, (blk_cell BK522.out 6).trans rfl, (blk_cell BK522.out 7).trans rfl, (blk_cell BK523.out 0).trans rfl, (blk_cell BK523.out 1).trans rfl, (blk_cell BK523.out 2).trans rfl, (blk_cell BK523.out 3).trans rfl, (blk_cell BK523.out 4).trans rfl, (blk_cell BK523.out 5).trans rfl, (blk_cell BK523.out 6).trans rfl, (blk_cell BK523.out 7).trans rfl, ((HB.out.cell (World.block_lt_of_cell? w _ hw527_0)).trans hw527_0), ((HB.out.cell (World.block_lt_of_cell? w _ hw527_1)).trans hw527_1), ((HB.out.cell (World.block_lt_of_cell? w _ hw527_2)).trans hw527_2), ((HB.out.cell (World.block_lt_of_cell? w _ hw527_3)).trans hw527_3), ((HB.out.cell (World.block_lt_of_cell? w _ hw527_4)).trans hw527_4), ((HB.out.cell (World.block_lt_of_cell? w _ hw527_5)).trans hw527_5), ((HB.out.cell (World.block_lt_of_cell? w _ hw527_6)).trans hw527_6), ((HB.out.cell (World.block_lt_of_cell? w _ hw527_7)).trans hw527_7), ((HB.out.cell (World.block_lt_of_cell? w _ hw528_0)).trans hw528_0), ((HB.out.cell (World.block_lt_of_cell? w _ hw528_1)).trans hw528_1), ((HB.out.cell (World.block_lt_of_cell? w _ hw528_2)).trans hw528_2), ((HB.out.cell (World.block_lt_of_cell? w _ hw528_3)).trans hw528_3), ((HB.out.cell (World.block_lt_of_cell? w _ hw528_4)).trans hw528_4), ((HB.out.cell (World.block_lt_of_cell? w _ hw528_5)).trans hw528_5), ((HB.out.cell (World.block_lt_of_cell? w _ hw528_6)).trans hw528_6), ((HB.out.cell (World.block_lt_of_cell? w _ hw528_7)).trans hw528_7)⟩ (fun hHeld => ?_); refine with_tabW erratumref05_Same.tab23 erratumref05_Same.bits23 (fun HT_ HW_ => ?_)
                                                generalize wr.drew = w65 at BK522 BK523 HB HR527_3 HR527_6 HR527_7 HR528_3 HR528_6 HR528_7 hx527_0 hx527_1 hx527_2 hx527_3 hx527_4 hx527_5 hx527_6 hx527_7 hx528_0 hx528_1 hx528_2 hx528_3 hx528_4 hx528_5 hx528_6 hx528_7 hHeld ⊢
                                                refine pure_ (i := 0) (N := some 90) (v := ?_) (a' := ?_) #[true, false, false, false, false, false, false, false, false, false, false, false] rfl rfl (any_of HT_.out (by kernel_rfl)) (fun _ _ _ h => h) (Or.inl ⟨by rfl, ?_⟩) ?_ ?_
                                                rotate_left
                                                · intro w'
                                                  go_simp
                                                  with_reducible rfl
                                                rotate_left
                                                · simp only [Act.put, List.setIfInBounds_toArray, List.set_cons_zero, List.set_cons_succ, i64_w, i32_w]
                                                  rfl
                                                refine pure_ (i := 2) (N := some 92) (v := ?_) (a' := ?_) #[true, false, true, false, false, false, false, false, false, false, false, false] rfl rfl (any_of HT_.out (by kernel_rfl)) (fun _ _ _ h => h) (Or.inl ⟨by rfl, ?_⟩) ?_ ?_
                                                rotate_left
                                                · intro w'
                                                  go_simp
                                                  with_reducible rfl
                                                rotate_left
                                                · simp only [Act.put, List.setIfInBounds_toArray, List.set_cons_zero, List.set_cons_succ, i64_w, i32_w]
                                                  rfl
                                                refine pure_ (i := 5) (N := some 95) (v := ?_) (a' := ?_) #[true, false, true, false, false, true, false, false, false, false, false, false] rfl rfl (any_of HT_.out (by kernel_rfl)) (fun _ _ _ h => h) (Or.inl ⟨by rfl, ?_⟩) ?_ ?_
                                                rotate_left
                                                · intro w'
                                                  go_simp
                                                  with_reducible rfl
                                                rotate_left
                                                · simp only [Act.put, List.setIfInBounds_toArray, List.set_cons_zero, List.set_cons_succ, i64_w, i32_w]
                                                  rfl
                                                refine pure_ (i := 7) (N := some 97) (v := ?_) (a' := ?_) #[true, false, true, false, false, true, false, true, false, false, false, false] rfl rfl (any_of HT_.out (by kernel_rfl)) (fun _ _ _ h => h) (Or.inl ⟨by rfl, ?_⟩) ?_ ?_
                                                rotate_left
                                                · intro w'
                                                  go_simp
                                                  with_reducible rfl
                                                rotate_left
                                                · simp only [Act.put, List.setIfInBounds_toArray, List.set_cons_zero, List.set_cons_succ, i64_w, i32_w]
                                                  rfl
                                                refine take_ (i := 1) (N := some 91) (v := ?_) (a' := ?_) #[true, true, true, false, false, true, false, true, false, false, false, false] rfl rfl (take_ofW HT_.out HW_.out (by kernel_rfl)) (fun _ _ _ h => h) (Or.inl ⟨by rfl, ?_⟩) hHeld ?_ ?_
                                                rotate_left
                                                · rintro w' ⟨s0, s1, s2, s3, s4, s5, s6, s7, s8, s9, s10, s11, s12, s13, s14, s15, s16, s17, s18, s19, s20, s21, s22, s23, s24, s25, s26, s27, s28, s29, s30, s31⟩
                                                  go_simp
                                                  with_reducible rfl
                                                rotate_left
                                                · simp only [Act.put, List.setIfInBounds_toArray, List.set_cons_zero, List.set_cons_succ, i64_w, i32_w]
                                                  rfl
                                                refine pure_ (i := 3) (N := some 93) (v := ?_) (a' := ?_) #[true, true, true, true, false, true, false, true, false, false, false, false] rfl rfl (any_of HT_.out (by kernel_rfl)) (fun _ _ _ h => h) (Or.inl ⟨by rfl, ?_⟩) ?_ ?_
                                                rotate_left
                                                · intro w'
                                                  go_simp
                                                  with_reducible rfl
                                                rotate_left
                                                · simp only [Act.put, List.setIfInBounds_toArray, List.set_cons_zero, List.set_cons_succ, i64_w, i32_w]
                                                  rfl
                                                refine take_ (i := 4) (N := some 94) (v := ?_) (a' := ?_) #[true, true, true, true, true, true, false, true, false, false, false, false] rfl rfl (take_ofW HT_.out HW_.out (by kernel_rfl)) (fun _ _ _ h => h) (Or.inl ⟨by rfl, ?_⟩) hHeld ?_ ?_
                                                rotate_left
                                                · rintro w' ⟨s0, s1, s2, s3, s4, s5, s6, s7, s8, s9, s10, s11, s12, s13, s14, s15, s16, s17, s18, s19, s20, s21, s22, s23, s24, s25, s26, s27, s28, s29, s30, s31⟩
                                                  go_simp
                                                  with_reducible rfl
                                                rotate_left
                                                · simp only [Act.put, List.setIfInBounds_toArray, List.set_cons_zero, List.set_cons_succ, i64_w, i32_w]
                                                  rfl
                                                refine take_ (i := 6) (N := some 96) (v := ?_) (a' := ?_) #[true, true, true, true, true, true, true, true, false, false, false, false] rfl rfl (take_ofW HT_.out HW_.out (by kernel_rfl)) (fun _ _ _ h => h) (Or.inl ⟨by rfl, ?_⟩) hHeld ?_ ?_
                                                rotate_left
                                                · rintro w' ⟨s0, s1, s2, s3, s4, s5, s6, s7, s8, s9, s10, s11, s12, s13, s14, s15, s16, s17, s18, s19, s20, s21, s22, s23, s24, s25, s26, s27, s28, s29, s30, s31⟩
                                                  go_simp
                                                  with_reducible rfl
                                                rotate_left
                                                · simp only [Act.put, List.setIfInBounds_toArray, List.set_cons_zero, List.set_cons_succ, i64_w, i32_w]
                                                  rfl
                                                refine pure_ (i := 8) (N := some 98) (v := ?_) (a' := ?_) #[true, true, true, true, true, true, true, true, true, false, false, false] rfl rfl (any_of HT_.out (by kernel_rfl)) (fun _ _ _ h => h) (Or.inl ⟨by rfl, ?_⟩) ?_ ?_
                                                rotate_left
                                                · intro w'
                                                  go_simp
                                                  with_reducible rfl
                                                rotate_left
                                                · simp only [Act.put, List.setIfInBounds_toArray, List.set_cons_zero, List.set_cons_succ, i64_w, i32_w]
                                                  rfl
                                                refine take_ (i := 9) (N := some 99) (v := ?_) (a' := ?_) #[true, true, true, true, true, true, true, true, true, true, false, false] rfl rfl (take_ofW HT_.out HW_.out (by kernel_rfl)) (fun _ _ _ h => h) (Or.inl ⟨by rfl, ?_⟩) hHeld ?_ ?_
                                                rotate_left
                                                · rintro w' ⟨s0, s1, s2, s3, s4, s5, s6, s7, s8, s9, s10, s11, s12, s13, s14, s15, s16, s17, s18, s19, s20, s21, s22, s23, s24, s25, s26, s27, s28, s29, s30, s31⟩
                                                  go_simp
                                                  with_reducible rfl
                                                rotate_left
                                                · simp only [Act.put, List.setIfInBounds_toArray, List.set_cons_zero, List.set_cons_succ, i64_w, i32_w]
                                                  rfl
                                                refine one_ (i := 10) (N := some 100) #[true, true, true, true, true, true, true, true, true, true, true, false] rfl rfl (one_of HT_.out (by kernel_rfl)) (by decide) (fun K hK => ?_)
                                                refine goes_ Try.func33 (by kernel_rfl) rfl #[.agg #[.int .i64 ((rd_T50 l0_7 x6_6).f0), .bool ((rd_T50 l0_7 x6_6).f1), .bool ((rd_T50 l0_7 x6_6).f2.f0), .slice A527_3 ((rd_T50 l0_7 x6_6).f2.f1).length c527_3, .int .i64 ((rd_T50 l0_7 x6_6).f2.f2), .string ((rd_T50 l0_7 x6_6).f3), .slice A527_6 ((rd_T50 l0_7 x6_6).f4).length c527_6, .slice A527_7 ((rd_T50 l0_7 x6_6).f5).length c527_7], .agg #[.int .i64 ((rd_T50 l1_7 x6_6).f0), .bool ((rd_T50 l1_7 x6_6).f1), .bool ((rd_T50 l1_7 x6_6).f2.f0), .slice A528_3 ((rd_T50 l1_7 x6_6).f2.f1).length c528_3, .int .i64 ((rd_T50 l1_7 x6_6).f2.f2), .string ((rd_T50 l1_7 x6_6).f3), .slice A528_6 ((rd_T50 l1_7 x6_6).f4).length c528_6, .slice A528_7 ((rd_T50 l1_7 x6_6).f5).length c528_7]] (by rfl) rfl rfl (by (try simp only [List.map_toArray, List.map_cons, List.map_nil]); first | done | rfl | (simp only [List.length_drop, List.length_take]; rfl)) ?_
                                                with_reducible refine (ih k6 (by have := HJ17.out; have := HJ28.out; have := HJ31.out; have := HK4.out; have := HJ44.out; have := HK6.out; omega) ((rd_T50 l0_7 x6_6).f0) ((rd_T50 l0_7 x6_6).f1) ((rd_T50 l0_7 x6_6).f2.f0) _ _ ((rd_T50 l0_7 x6_6).f2.f1) ((rd_T50 l0_7 x6_6).f2.f2) ((rd_T50 l0_7 x6_6).f3) _ _ ((rd_T50 l0_7 x6_6).f4) _ _ ((rd_T50 l0_7 x6_6).f5) ((rd_T50 l1_7 x6_6).f0) ((rd_T50 l1_7 x6_6).f1) ((rd_T50 l1_7 x6_6).f2.f0) _ _ ((rd_T50 l1_7 x6_6).f2.f1) ((rd_T50 l1_7 x6_6).f2.f2) ((rd_T50 l1_7 x6_6).f3) _ _ ((rd_T50 l1_7 x6_6).f4) _ _ ((rd_T50 l1_7 x6_6).f5) true _ ?side1 ?side2 ?side3 ?side4 ?side5 ?side6 ?side7 ?side8 ?side9 ?side10 ?side11 ?side12 A61.out).mono ?_
                                                (case side1 => repeat (first | exact (Kd.C_below HR527_3.out HB.out) | (with_reducible refine Kd.C_alloc ?_ _) | (with_reducible refine Kd.C_drewN ?_ _) | (with_reducible refine Kd.C_drew ?_)))
                                                (case side2 => exact HC527_3.out)
                                                (case side3 => repeat (first | exact (Kd.C_below HR527_6.out HB.out) | (with_reducible refine Kd.C_alloc ?_ _) | (with_reducible refine Kd.C_drewN ?_ _) | (with_reducible refine Kd.C_drew ?_)))
                                                (case side4 => exact HC527_6.out)
                                                (case side5 => repeat (first | exact (Kd.C_below HR527_7.out HB.out) | (with_reducible refine Kd.C_alloc ?_ _) | (with_reducible refine Kd.C_drewN ?_ _) | (with_reducible refine Kd.C_drew ?_)))
                                                (case side6 => exact HC527_7.out)
                                                (case side7 => repeat (first | exact (Kd.C_below HR528_3.out HB.out) | (with_reducible refine Kd.C_alloc ?_ _) | (with_reducible refine Kd.C_drewN ?_ _) | (with_reducible refine Kd.C_drew ?_)))
                                                (case side8 => exact HC528_3.out)
                                                (case side9 => repeat (first | exact (Kd.C_below HR528_6.out HB.out) | (with_reducible refine Kd.C_alloc ?_ _) | (with_reducible refine Kd.C_drewN ?_ _) | (with_reducible refine Kd.C_drew ?_)))
                                                (case side10 => exact HC528_6.out)
                                                (case side11 => repeat (first | exact (Kd.C_below HR528_7.out HB.out) | (with_reducible refine Kd.C_alloc ?_ _) | (with_reducible refine Kd.C_drewN ?_ _) | (with_reducible refine Kd.C_drew ?_)))
                                                (case side12 => exact HC528_7.out)
                                                rintro e w66 ⟨rfl, hb⟩
                                                refine ⟨_, rfl, ?_⟩
                                                have n0_ := Aside0.mk (blk_below (g := gb522) (o := .cells #[.int .i64 a0_0, .bool a0_1, .bool a0_2, .slice A0_3 l0_3.length c0_3, .int .i64 a0_4, .string a0_5, .slice A0_6 l0_6.length c0_6, .slice (some ad527) l0_7.length c0_7] 50 (0, 0)) (by (with_reducible repeat (first | refine blk_drewN ?_ _ | refine blk_drew ?_ | refine blk_alloc ?_ _)); exact BK522.out) hb)
                                                have n1_ := Aside0.mk (blk_below (g := gb523) (o := .cells #[.int .i64 a1_0, .bool a1_1, .bool a1_2, .slice A1_3 l1_3.length c1_3, .int .i64 a1_4, .string a1_5, .slice A1_6 l1_6.length c1_6, .slice (some ad528) l1_7.length c1_7] 50 (0, 0)) (by (with_reducible repeat (first | refine blk_drewN ?_ _ | refine blk_drew ?_ | refine blk_alloc ?_ _)); exact BK523.out) hb)
                                                have n2_ := Aside0.mk (below_step (by repeat (first | (with_reducible first | exact HB.out | apply below_alloc | apply pw_below_drewN | apply below_drew1 | refine below_set ?_ GE522.out | refine below_set ?_ GE523.out) | exact HB.out)) hb)
                                                clear BK522
                                                clear BK523
                                                clear HB
                                                have BK522 := n0_
                                                have BK523 := n1_
                                                have HB := n2_
                                                clear n0_ n1_ n2_
                                                (try clear hb)
                                                (try clear hb2)
                                                (try clear hk)
                                                (try clear hi)
                                                refine hK.out _ _ ⟨(blk_cell BK522.out 0).trans rfl, (blk_cell BK522.out 1).trans rfl, (blk_cell BK522.out 2).trans rfl, (blk_cell BK522.out 3).trans rfl, (blk_cell BK522.out 4).trans rfl, (blk_cell BK522.out 5).trans rfl, (blk_cell BK522.out 6).trans rfl, (blk_cell BK522.out 7).trans rfl, (blk_cell BK523.out 0).trans rfl, (blk_cell BK523.out 1).trans rfl, (blk_cell BK523.out 2).trans rfl, (blk_cell BK523.out 3).trans rfl, (blk_cell BK523.out 4).trans rfl, (blk_cell BK523.out 5).trans rfl, (blk_cell BK523.out 6).trans rfl, (blk_cell BK523.out 7).trans rfl, ((HB.out.cell (World.block_lt_of_cell? w _ hw527_0)).trans hw527_0), ((HB.out.cell (World.block_lt_of_cell? w _ hw527_1)).trans hw527_1), ((HB.out.cell (World.block_lt_of_cell? w _ hw527_2)).trans hw527_2), ((HB.out.cell (World.block_lt_of_cell? w _ hw527_3)).trans hw527_3), ((HB.out.cell (World.block_lt_of_cell? w _ hw527_4)).trans hw527_4), ((HB.out.cell (World.block_lt_of_cell? w _ hw527_5)).trans hw527_5), ((HB.out.cell (World.block_lt_of_cell? w _ hw527_6)).trans hw527_6), ((HB.out.cell (World.block_lt_of_cell? w _ hw527_7)).trans hw527_7), ((HB.out.cell (World.block_lt_of_cell? w _ hw528_0)).trans hw528_0), ((HB.out.cell (World.block_lt_of_cell? w _ hw528_1)).trans hw528_1), ((HB.out.cell (World.block_lt_of_cell? w _ hw528_2)).trans hw528_2), ((HB.out.cell (World.block_lt_of_cell? w _ hw528_3)).trans hw528_3), ((HB.out.cell (World.block_lt_of_cell? w _ hw528_4)).trans hw528_4), ((HB.out.cell (World.block_lt_of_cell? w _ hw528_5)).trans hw528_5), ((HB.out.cell (World.block_lt_of_cell? w _ hw528_6)).trans hw528_6), ((HB.out.cell (World.block_lt_of_cell? w _ hw528_7)).trans hw528_7)⟩ (fun hHeld => ?_)
                                                clear hK K
                                                refine norm_ (a' := ?_) ?_ ?_
                                                rotate_left
                                                · show Act.put _ (some 100) _ = _
                                                  simp only [Act.put, List.setIfInBounds_toArray, List.set_cons_zero, List.set_cons_succ, i64_w, i32_w]
                                                  rfl
                                                refine pure_ (i := 11) (N := some 101) (v := ?_) (a' := ?_) #[true, true, true, true, true, true, true, true, true, true, true, true] rfl rfl (any_of HT_.out (by kernel_rfl)) (fun _ _ _ h => h) (Or.inl ⟨by rfl, ?_⟩) ?_ ?_
                                                rotate_left
                                                · intro w'
                                                  go_simp
                                                  with_reducible rfl
                                                rotate_left
                                                · simp only [Act.put, List.setIfInBounds_toArray, List.set_cons_zero, List.set_cons_succ, i64_w, i32_w]
                                                  rfl
                                                refine done_ (done_of HT_.out (by kernel_rfl)) ?_
                                                try go_wp2
                                                go_roundg k6
                                                case measure => have := HJ17.out; have := HJ28.out; have := HJ31.out; have := HK4.out; have := HJ44.out; have := HK6.out; omega
                                                case rel => exact ⟨(wrap64 (x6_6 + 1)), (by first | rfl | (simp; done) | (simp [*]; done)), H', ⟨by have := HJ17.out; have := HJ28.out; have := HJ31.out; have := HK4.out; have := HJ44.out; have := HK6.out; omega⟩, ⟨by (with_reducible repeat (first | refine blk_drewN ?_ _ | refine blk_drew ?_ | refine blk_alloc ?_ _)); exact BK522.out⟩, ⟨by (with_reducible repeat (first | refine blk_drewN ?_ _ | refine blk_drew ?_ | refine blk_alloc ?_ _)); exact BK523.out⟩, ⟨by repeat (first | (with_reducible first | exact HB.out | apply below_alloc | apply pw_below_drewN | apply below_drew1 | refine below_set ?_ GE522.out | refine below_set ?_ GE523.out) | exact HB.out)⟩⟩
                                              · replace c62 := Bool.eq_false_iff.mpr c62
                                                subst c62
                                                have H1 : (some false) = some r := by rw [if_neg (show ¬ (false = true) by decide)] at H; exact H
                                                clear H
                                                have H := H1
                                                clear H1
                                                obtain rfl := Option.some.inj H
                                                have hnb67 := NB522_523.out
                                                have hnc67 := NB523_522.out
                                                have hcz68_0 : wr.cell? ⟨gb522, 0, none⟩ = some (.int .i64 a0_0) := (blk_cell BK522.out 0).trans rfl
                                                have hcz68_1 : wr.cell? ⟨gb522, 1, none⟩ = some (.bool a0_1) := (blk_cell BK522.out 1).trans rfl
                                                have hcz68_2 : wr.cell? ⟨gb522, 2, none⟩ = some (.bool a0_2) := (blk_cell BK522.out 2).trans rfl
                                                have hcz68_3 : wr.cell? ⟨gb522, 3, none⟩ = some (.slice A0_3 l0_3.length c0_3) := (blk_cell BK522.out 3).trans rfl
                                                have hcz68_4 : wr.cell? ⟨gb522, 4, none⟩ = some (.int .i64 a0_4) := (blk_cell BK522.out 4).trans rfl
                                                have hcz68_5 : wr.cell? ⟨gb522, 5, none⟩ = some (.string a0_5) := (blk_cell BK522.out 5).trans rfl
                                                have hcz68_6 : wr.cell? ⟨gb522, 6, none⟩ = some (.slice A0_6 l0_6.length c0_6) := (blk_cell BK522.out 6).trans rfl
                                                have hcz68_7 : wr.cell? ⟨gb522, 7, none⟩ = some (.slice A0_7 l0_7.length c0_7) := (blk_cell BK522.out 7).trans rfl
                                                have hfz68_0 := blk_frozen BK522.out 0
                                                have hfz68_1 := blk_frozen BK522.out 1
                                                have hfz68_2 := blk_frozen BK522.out 2
                                                have hfz68_3 := blk_frozen BK522.out 3
                                                have hfz68_4 := blk_frozen BK522.out 4
                                                have hfz68_5 := blk_frozen BK522.out 5
                                                have hfz68_6 := blk_frozen BK522.out 6
                                                have hfz68_7 := blk_frozen BK522.out 7
                                                try go_wp2
                                                have n0_ := Aside0.mk (blk_drew BK522.out)
                                                have n1_ := Aside0.mk (blk_drew BK523.out)
                                                have n2_ := Aside0.mk (below_drew1 HB.out)
                                                clear BK522
                                                clear BK523
                                                clear HB
                                                have BK522 := n0_
                                                have BK523 := n1_
                                                have HB := n2_
                                                clear n0_ n1_ n2_
                                                have p527 : 0 ≤ (x6_6 : Int) := of_decide_eq_true (by first | (with_reducible assumption) | assumption)
                                                have q527 : x6_6 < (l0_7.length : Int) := of_decide_eq_true (by first | (with_reducible assumption) | assumption)
                                                obtain ⟨ad527, A527_3, c527_3, A527_6, c527_6, A527_7, c527_7, e527, hx527_0, hx527_1, hx527_2, hx527_3, hx527_4, hx527_5, hx527_6, hx527_7, hl527_3, hi527_3, hl527_6, hi527_6, hl527_7, hi527_7⟩ := at_T50 HR0_7.out x6_6 p527 q527
                                                have hw527_7 := hx527_7
                                                have hw527_6 := hx527_6
                                                have hw527_5 := hx527_5
                                                have hw527_4 := hx527_4
                                                have hw527_3 := hx527_3
                                                have hw527_2 := hx527_2
                                                have hw527_1 := hx527_1
                                                have hw527_0 := hx527_0
                                                cases e527
                                                replace hx527_0 := (HB.out.cell (World.block_lt_of_cell? w _ hx527_0)).trans hx527_0
                                                replace hx527_1 := (HB.out.cell (World.block_lt_of_cell? w _ hx527_1)).trans hx527_1
                                                replace hx527_2 := (HB.out.cell (World.block_lt_of_cell? w _ hx527_2)).trans hx527_2
                                                replace hx527_3 := (HB.out.cell (World.block_lt_of_cell? w _ hx527_3)).trans hx527_3
                                                replace hx527_4 := (HB.out.cell (World.block_lt_of_cell? w _ hx527_4)).trans hx527_4
                                                replace hx527_5 := (HB.out.cell (World.block_lt_of_cell? w _ hx527_5)).trans hx527_5
                                                replace hx527_6 := (HB.out.cell (World.block_lt_of_cell? w _ hx527_6)).trans hx527_6
                                                replace hx527_7 := (HB.out.cell (World.block_lt_of_cell? w _ hx527_7)).trans hx527_7
                                                have HR527_3 := Aside0.mk hi527_3
                                                have HC527_3 := Aside0.mk hl527_3
                                                clear hi527_3 hl527_3
                                                have HR527_6 := Aside0.mk hi527_6
                                                have HC527_6 := Aside0.mk hl527_6
                                                clear hi527_6 hl527_6
                                                have HR527_7 := Aside0.mk hi527_7
                                                have HC527_7 := Aside0.mk hl527_7
                                                clear hi527_7 hl527_7
                                                replace p527 := eq_true p527
                                                replace q527 := eq_true q527
                                                have p528 : 0 ≤ (x6_6 : Int) := of_decide_eq_true (by first | (with_reducible assumption) | assumption)
                                                have q528 : x6_6 < (l1_7.length : Int) := of_decide_eq_true (by first | (with_reducible assumption) | assumption)
                                                obtain ⟨ad528, A528_3, c528_3, A528_6, c528_6, A528_7, c528_7, e528, hx528_0, hx528_1, hx528_2, hx528_3, hx528_4, hx528_5, hx528_6, hx528_7, hl528_3, hi528_3, hl528_6, hi528_6, hl528_7, hi528_7⟩ := at_T50 HR1_7.out x6_6 p528 q528
                                                have hw528_7 := hx528_7
                                                have hw528_6 := hx528_6
                                                have hw528_5 := hx528_5
                                                have hw528_4 := hx528_4
                                                have hw528_3 := hx528_3
                                                have hw528_2 := hx528_2
                                                have hw528_1 := hx528_1
                                                have hw528_0 := hx528_0
                                                cases e528
                                                replace hx528_0 := (HB.out.cell (World.block_lt_of_cell? w _ hx528_0)).trans hx528_0
                                                replace hx528_1 := (HB.out.cell (World.block_lt_of_cell? w _ hx528_1)).trans hx528_1
                                                replace hx528_2 := (HB.out.cell (World.block_lt_of_cell? w _ hx528_2)).trans hx528_2
                                                replace hx528_3 := (HB.out.cell (World.block_lt_of_cell? w _ hx528_3)).trans hx528_3
                                                replace hx528_4 := (HB.out.cell (World.block_lt_of_cell? w _ hx528_4)).trans hx528_4
                                                replace hx528_5 := (HB.out.cell (World.block_lt_of_cell? w _ hx528_5)).trans hx528_5
                                                replace hx528_6 := (HB.out.cell (World.block_lt_of_cell? w _ hx528_6)).trans hx528_6
                                                replace hx528_7 := (HB.out.cell (World.block_lt_of_cell? w _ hx528_7)).trans hx528_7
                                                have HR528_3 := Aside0.mk hi528_3
                                                have HC528_3 := Aside0.mk hl528_3
                                                clear hi528_3 hl528_3
                                                have HR528_6 := Aside0.mk hi528_6
                                                have HC528_6 := Aside0.mk hl528_6
                                                clear hi528_6 hl528_6
                                                have HR528_7 := Aside0.mk hi528_7
                                                have HC528_7 := Aside0.mk hl528_7
                                                clear hi528_7 hl528_7
                                                replace p528 := eq_true p528
                                                replace q528 := eq_true q528
                                                refine start_ (n := 12) (S := fun w' => w'.cell? ⟨gb522, 0, none⟩ = some (.int .i64 a0_0) ∧ w'.cell? ⟨gb522, 1, none⟩ = some (.bool a0_1) ∧ w'.cell? ⟨gb522, 2, none⟩ = some (.bool a0_2) ∧ w'.cell? ⟨gb522, 3, none⟩ = some (.slice A0_3 l0_3.length c0_3) ∧ w'.cell? ⟨gb522, 4, none⟩ = some (.int .i64 a0_4) ∧ w'.cell? ⟨gb522, 5, none⟩ = some (.string a0_5) ∧ w'.cell? ⟨gb522, 6, none⟩ = some (.slice A0_6 l0_6.length c0_6) ∧ w'.cell? ⟨gb522, 7, none⟩ = some (.slice (some ad527) l0_7.length c0_7) ∧ w'.cell? ⟨gb523, 0, none⟩ = some (.int .i64 a1_0) ∧ w'.cell? ⟨gb523, 1, none⟩ = some (.bool a1_1) ∧ w'.cell? ⟨gb523, 2, none⟩ = some (.bool a1_2) ∧ w'.cell? ⟨gb523, 3, none⟩ = some (.slice A1_3 l1_3.length c1_3) ∧ w'.cell? ⟨gb523, 4, none⟩ = some (.int .i64 a1_4) ∧ w'.cell? ⟨gb523, 5, none⟩ = some (.string a1_5) ∧ w'.cell? ⟨gb523, 6, none⟩ = some (.slice A1_6 l1_6.length c1_6) ∧ w'.cell? ⟨gb523, 7, none⟩ = some (.slice (some ad528) l1_7.length c1_7) ∧ w'.cell? (ad527.add ((x6_6).toNat * 8)) = some (.int .i64 ((rd_T50 l0_7 x6_6).f0)) ∧ w'.cell? ⟨(ad527.add ((x6_6).toNat * 8)).block, (ad527.add ((x6_6).toNat * 8)).off + 1, none⟩ = some (.bool ((rd_T50 l0_7 x6_6).f1)) ∧ w'.cell? ⟨(ad527.add ((x6_6).toNat * 8)).block, (ad527.add ((x6_6).toNat * 8)).off + 2, none⟩ = some (.bool ((rd_T50 l0_7 x6_6).f2.f0)) ∧ w'.cell? ⟨(ad527.add ((x6_6).toNat * 8)).block, (ad527.add ((x6_6).toNat * 8)).off + 3, none⟩ = some (.slice A527_3 ((rd_T50 l0_7 x6_6).f2.f1).length c527_3) ∧ w'.cell? ⟨(ad527.add ((x6_6).toNat * 8)).block, (ad527.add ((x6_6).toNat * 8)).off + 4, none⟩ = some (.int .i64 ((rd_T50 l0_7 x6_6).f2.f2)) ∧ w'.cell? ⟨(ad527.add ((x6_6).toNat * 8)).block, (ad527.add ((x6_6).toNat * 8)).off + 5, none⟩ = some (.string ((rd_T50 l0_7 x6_6).f3)) ∧ w'.cell? ⟨(ad527.add ((x6_6).toNat * 8)).block, (ad527.add ((x6_6).toNat * 8)).off + 6, none⟩ = some (.slice A527_6 ((rd_T50 l0_7 x6_6).f4).length c527_6) ∧ w'.cell? ⟨(ad527.add ((x6_6).toNat * 8)).block, (ad527.add ((x6_6).toNat * 8)).off + 7, none⟩ = some (.slice A527_7 ((rd_T50 l0_7 x6_6).f5).length c527_7) ∧ w'.cell? (ad528.add ((x6_6).toNat * 8)) = some (.int .i64 ((rd_T50 l1_7 x6_6).f0)) ∧ w'.cell? ⟨(ad528.add ((x6_6).toNat * 8)).block, (ad528.add ((x6_6).toNat * 8)).off + 1, none⟩ = some (.bool ((rd_T50 l1_7 x6_6).f1)) ∧ w'.cell? ⟨(ad528.add ((x6_6).toNat * 8)).block, (ad528.add ((x6_6).toNat * 8)).off + 2, none⟩ = some (.bool ((rd_T50 l1_7 x6_6).f2.f0)) ∧ w'.cell? ⟨(ad528.add ((x6_6).toNat * 8)).block, (ad528.add ((x6_6).toNat * 8)).off + 3, none⟩ = some (.slice A528_3 ((rd_T50 l1_7 x6_6).f2.f1).length c528_3) ∧ w'.cell? ⟨(ad528.add ((x6_6).toNat * 8)).block, (ad528.add ((x6_6).toNat * 8)).off + 4, none⟩ = some (.int .i64 ((rd_T50 l1_7 x6_6).f2.f2)) ∧ w'.cell? ⟨(ad528.add ((x6_6).toNat * 8)).block, (ad528.add ((x6_6).toNat * 8)).off + 5, none⟩ = some (.string ((rd_T50 l1_7 x6_6).f3)) ∧ w'.cell? ⟨(ad528.add ((x6_6).toNat * 8)).block, (ad528.add ((x6_6).toNat * 8)).off + 6, none⟩ = some (.slice A528_6 ((rd_T50 l1_7 x6_6).f4).length c528_6) ∧ w'.cell? ⟨(ad528.add ((x6_6).toNat * 8)).block, (ad528.add ((x6_6).toNat * 8)).off + 7, none⟩ = some (.slice A528_7 ((rd_T50 l1_7 x6_6).f5).length c528_7)) (ds := []) #[false, false, false, false, false, false, false, false, false, false, false, false] (by kernel_rfl) rfl rfl ⟨(blk_cell BK522.out 0).trans rfl, (blk_cell BK522.out 1).trans rfl, (blk_cell BK522.out 2).trans rfl, (blk_cell BK522.out 3).trans rfl, (blk_cell BK522.out 4).trans rfl, (blk_cell BK522.out 5).trans rfl, (blk_cell BK522.out 6).trans rfl, (blk_cell BK522.out 7).trans rfl, (blk_cell BK523.out 0).trans rfl, (blk_cell BK523.out 1).trans rfl, (blk_cell BK523.out 2).trans rfl, (blk_cell BK523.out 3).trans rfl, (blk_cell BK523.out 4).trans rfl, (blk_cell BK523.out 5).trans rfl, (blk_cell BK523.out 6).trans rfl, (blk_cell BK523.out 7).trans rfl, ((HB.out.cell (World.block_lt_of_cell? w _ hw527_0)).trans hw527_0), ((HB.out.cell (World.block_lt_of_cell? w _ hw527_1)).trans hw527_1), ((HB.out.cell (World.block_lt_of_cell? w _ hw527_2)).trans hw527_2), ((HB.out.cell (World.block_lt_of_cell? w _ hw527_3)).trans hw527_3), ((HB.out.cell (World.block_lt_of_cell? w _ hw527_4)).trans hw527_4), ((HB.out.cell (World.block_lt_of_cell? w _ hw527_5)).trans hw527_5), ((HB.out.cell (World.block_lt_of_cell? w _ hw527_6)).trans hw527_6), ((HB.out.cell (World.block_lt_of_cell? w _ hw527_7)).trans hw527_7), ((HB.out.cell (World.block_lt_of_cell? w _ hw528_0)).trans hw528_0), ((HB.out.cell (World.block_lt_of_cell? w _ hw528_1)).trans hw528_1), ((HB.out.cell (World.block_lt_of_cell? w _ hw528_2)).trans hw528_2), ((HB.out.cell (World.block_lt_of_cell? w _ hw528_3)).trans hw528_3), ((HB.out.cell (World.block_lt_of_cell? w _ hw528_4)).trans hw528_4), ((HB.out.cell (World.block_lt_of_cell? w _ hw528_5)).trans hw528_5), ((HB.out.cell (World.block_lt_of_cell? w _ hw528_6)).trans hw528_6), ((HB.out.cell (World.block_lt_of_cell? w _ hw528_7)).trans hw528_7)⟩ (fun hHeld => ?_); refine with_tabW erratumref05_Same.tab23 erratumref05_Same.bits23 (fun HT_ HW_ => ?_)
                                                generalize wr.drew = w69 at BK522 BK523 HB HR527_3 HR527_6 HR527_7 HR528_3 HR528_6 HR528_7 hx527_0 hx527_1 hx527_2 hx527_3 hx527_4 hx527_5 hx527_6 hx527_7 hx528_0 hx528_1 hx528_2 hx528_3 hx528_4 hx528_5 hx528_6 hx528_7 hHeld ⊢
                                                refine pure_ (i := 0) (N := some 90) (v := ?_) (a' := ?_) #[true, false, false, false, false, false, false, false, false, false, false, false] rfl rfl (any_of HT_.out (by kernel_rfl)) (fun _ _ _ h => h) (Or.inl ⟨by rfl, ?_⟩) ?_ ?_
                                                rotate_left
                                                · intro w'
                                                  go_simp
                                                  with_reducible rfl
                                                rotate_left
                                                · simp only [Act.put, List.setIfInBounds_toArray, List.set_cons_zero, List.set_cons_succ, i64_w, i32_w]
                                                  rfl
                                                refine pure_ (i := 2) (N := some 92) (v := ?_) (a' := ?_) #[true, false, true, false, false, false, false, false, false, false, false, false] rfl rfl (any_of HT_.out (by kernel_rfl)) (fun _ _ _ h => h) (Or.inl ⟨by rfl, ?_⟩) ?_ ?_
                                                rotate_left
                                                · intro w'
                                                  go_simp
                                                  with_reducible rfl
                                                rotate_left
                                                · simp only [Act.put, List.setIfInBounds_toArray, List.set_cons_zero, List.set_cons_succ, i64_w, i32_w]
                                                  rfl
                                                refine pure_ (i := 5) (N := some 95) (v := ?_) (a' := ?_) #[true, false, true, false, false, true, false, false, false, false, false, false] rfl rfl (any_of HT_.out (by kernel_rfl)) (fun _ _ _ h => h) (Or.inl ⟨by rfl, ?_⟩) ?_ ?_
                                                rotate_left
                                                · intro w'
                                                  go_simp
                                                  with_reducible rfl
                                                rotate_left
                                                · simp only [Act.put, List.setIfInBounds_toArray, List.set_cons_zero, List.set_cons_succ, i64_w, i32_w]
                                                  rfl
                                                refine pure_ (i := 7) (N := some 97) (v := ?_) (a' := ?_) #[true, false, true, false, false, true, false, true, false, false, false, false] rfl rfl (any_of HT_.out (by kernel_rfl)) (fun _ _ _ h => h) (Or.inl ⟨by rfl, ?_⟩) ?_ ?_
                                                rotate_left
                                                · intro w'
                                                  go_simp
                                                  with_reducible rfl
                                                rotate_left
                                                · simp only [Act.put, List.setIfInBounds_toArray, List.set_cons_zero, List.set_cons_succ, i64_w, i32_w]
                                                  rfl
                                                refine take_ (i := 1) (N := some 91) (v := ?_) (a' := ?_) #[true, true, true, false, false, true, false, true, false, false, false, false] rfl rfl (take_ofW HT_.out HW_.out (by kernel_rfl)) (fun _ _ _ h => h) (Or.inl ⟨by rfl, ?_⟩) hHeld ?_ ?_
                                                rotate_left
                                                · rintro w' ⟨s0, s1, s2, s3, s4, s5, s6, s7, s8, s9, s10, s11, s12, s13, s14, s15, s16, s17, s18, s19, s20, s21, s22, s23, s24, s25, s26, s27, s28, s29, s30, s31⟩
                                                  go_simp
                                                  with_reducible rfl
                                                rotate_left
                                                · simp only [Act.put, List.setIfInBounds_toArray, List.set_cons_zero, List.set_cons_succ, i64_w, i32_w]
                                                  rfl
                                                refine pure_ (i := 3) (N := some 93) (v := ?_) (a' := ?_) #[true, true, true, true, false, true, false, true, false, false, false, false] rfl rfl (any_of HT_.out (by kernel_rfl)) (fun _ _ _ h => h) (Or.inl ⟨by rfl, ?_⟩) ?_ ?_
                                                rotate_left
                                                · intro w'
                                                  go_simp
                                                  with_reducible rfl
                                                rotate_left
                                                · simp only [Act.put, List.setIfInBounds_toArray, List.set_cons_zero, List.set_cons_succ, i64_w, i32_w]
                                                  rfl
                                                refine take_ (i := 4) (N := some 94) (v := ?_) (a' := ?_) #[true, true, true, true, true, true, false, true, false, false, false, false] rfl rfl (take_ofW HT_.out HW_.out (by kernel_rfl)) (fun _ _ _ h => h) (Or.inl ⟨by rfl, ?_⟩) hHeld ?_ ?_
                                                rotate_left
                                                · rintro w' ⟨s0, s1, s2, s3, s4, s5, s6, s7, s8, s9, s10, s11, s12, s13, s14, s15, s16, s17, s18, s19, s20, s21, s22, s23, s24, s25, s26, s27, s28, s29, s30, s31⟩
                                                  go_simp
                                                  with_reducible rfl
                                                rotate_left
                                                · simp only [Act.put, List.setIfInBounds_toArray, List.set_cons_zero, List.set_cons_succ, i64_w, i32_w]
                                                  rfl
                                                refine take_ (i := 6) (N := some 96) (v := ?_) (a' := ?_) #[true, true, true, true, true, true, true, true, false, false, false, false] rfl rfl (take_ofW HT_.out HW_.out (by kernel_rfl)) (fun _ _ _ h => h) (Or.inl ⟨by rfl, ?_⟩) hHeld ?_ ?_
                                                rotate_left
                                                · rintro w' ⟨s0, s1, s2, s3, s4, s5, s6, s7, s8, s9, s10, s11, s12, s13, s14, s15, s16, s17, s18, s19, s20, s21, s22, s23, s24, s25, s26, s27, s28, s29, s30, s31⟩
                                                  go_simp
                                                  with_reducible rfl
                                                rotate_left
                                                · simp only [Act.put, List.setIfInBounds_toArray, List.set_cons_zero, List.set_cons_succ, i64_w, i32_w]
                                                  rfl
                                                refine pure_ (i := 8) (N := some 98) (v := ?_) (a' := ?_) #[true, true, true, true, true, true, true, true, true, false, false, false] rfl rfl (any_of HT_.out (by kernel_rfl)) (fun _ _ _ h => h) (Or.inl ⟨by rfl, ?_⟩) ?_ ?_
                                                rotate_left
                                                · intro w'
                                                  go_simp
                                                  with_reducible rfl
                                                rotate_left
                                                · simp only [Act.put, List.setIfInBounds_toArray, List.set_cons_zero, List.set_cons_succ, i64_w, i32_w]
                                                  rfl
                                                refine take_ (i := 9) (N := some 99) (v := ?_) (a' := ?_) #[true, true, true, true, true, true, true, true, true, true, false, false] rfl rfl (take_ofW HT_.out HW_.out (by kernel_rfl)) (fun _ _ _ h => h) (Or.inl ⟨by rfl, ?_⟩) hHeld ?_ ?_
                                                rotate_left
                                                · rintro w' ⟨s0, s1, s2, s3, s4, s5, s6, s7, s8, s9, s10, s11, s12, s13, s14, s15, s16, s17, s18, s19, s20, s21, s22, s23, s24, s25, s26, s27, s28, s29, s30, s31⟩
                                                  go_simp
                                                  with_reducible rfl
                                                rotate_left
                                                · simp only [Act.put, List.setIfInBounds_toArray, List.set_cons_zero, List.set_cons_succ, i64_w, i32_w]
                                                  rfl
                                                refine one_ (i := 10) (N := some 100) #[true, true, true, true, true, true, true, true, true, true, true, false] rfl rfl (one_of HT_.out (by kernel_rfl)) (by decide) (fun K hK => ?_)
                                                refine goes_ Try.func33 (by kernel_rfl) rfl #[.agg #[.int .i64 ((rd_T50 l0_7 x6_6).f0), .bool ((rd_T50 l0_7 x6_6).f1), .bool ((rd_T50 l0_7 x6_6).f2.f0), .slice A527_3 ((rd_T50 l0_7 x6_6).f2.f1).length c527_3, .int .i64 ((rd_T50 l0_7 x6_6).f2.f2), .string ((rd_T50 l0_7 x6_6).f3), .slice A527_6 ((rd_T50 l0_7 x6_6).f4).length c527_6, .slice A527_7 ((rd_T50 l0_7 x6_6).f5).length c527_7], .agg #[.int .i64 ((rd_T50 l1_7 x6_6).f0), .bool ((rd_T50 l1_7 x6_6).f1), .bool ((rd_T50 l1_7 x6_6).f2.f0), .slice A528_3 ((rd_T50 l1_7 x6_6).f2.f1).length c528_3, .int .i64 ((rd_T50 l1_7 x6_6).f2.f2), .string ((rd_T50 l1_7 x6_6).f3), .slice A528_6 ((rd_T50 l1_7 x6_6).f4).length c528_6, .slice A528_7 ((rd_T50 l1_7 x6_6).f5).length c528_7]] (by rfl) rfl rfl (by (try simp only [List.map_toArray, List.map_cons, List.map_nil]); first | done | rfl | (simp only [List.length_drop, List.length_take]; rfl)) ?_
                                                with_reducible refine (ih k6 (by have := HJ17.out; have := HJ28.out; have := HJ31.out; have := HK4.out; have := HJ44.out; have := HK6.out; omega) ((rd_T50 l0_7 x6_6).f0) ((rd_T50 l0_7 x6_6).f1) ((rd_T50 l0_7 x6_6).f2.f0) _ _ ((rd_T50 l0_7 x6_6).f2.f1) ((rd_T50 l0_7 x6_6).f2.f2) ((rd_T50 l0_7 x6_6).f3) _ _ ((rd_T50 l0_7 x6_6).f4) _ _ ((rd_T50 l0_7 x6_6).f5) ((rd_T50 l1_7 x6_6).f0) ((rd_T50 l1_7 x6_6).f1) ((rd_T50 l1_7 x6_6).f2.f0) _ _ ((rd_T50 l1_7 x6_6).f2.f1) ((rd_T50 l1_7 x6_6).f2.f2) ((rd_T50 l1_7 x6_6).f3) _ _ ((rd_T50 l1_7 x6_6).f4) _ _ ((rd_T50 l1_7 x6_6).f5) false _ ?side1 ?side2 ?side3 ?side4 ?side5 ?side6 ?side7 ?side8 ?side9 ?side10 ?side11 ?side12 A61.out).mono ?_
                                                (case side1 => repeat (first | exact (Kd.C_below HR527_3.out HB.out) | (with_reducible refine Kd.C_alloc ?_ _) | (with_reducible refine Kd.C_drewN ?_ _) | (with_reducible refine Kd.C_drew ?_)))
                                                (case side2 => exact HC527_3.out)
                                                (case side3 => repeat (first | exact (Kd.C_below HR527_6.out HB.out) | (with_reducible refine Kd.C_alloc ?_ _) | (with_reducible refine Kd.C_drewN ?_ _) | (with_reducible refine Kd.C_drew ?_)))
                                                (case side4 => exact HC527_6.out)
                                                (case side5 => repeat (first | exact (Kd.C_below HR527_7.out HB.out) | (with_reducible refine Kd.C_alloc ?_ _) | (with_reducible refine Kd.C_drewN ?_ _) | (with_reducible refine Kd.C_drew ?_)))
                                                (case side6 => exact HC527_7.out)
                                                (case side7 => repeat (first | exact (Kd.C_below HR528_3.out HB.out) | (with_reducible refine Kd.C_alloc ?_ _) | (with_reducible refine Kd.C_drewN ?_ _) | (with_reducible refine Kd.C_drew ?_)))
                                                (case side8 => exact HC528_3.out)
                                                (case side9 => repeat (first | exact (Kd.C_below HR528_6.out HB.out) | (with_reducible refine Kd.C_alloc ?_ _) | (with_reducible refine Kd.C_drewN ?_ _) | (with_reducible refine Kd.C_drew ?_)))
                                                (case side10 => exact HC528_6.out)
                                                (case side11 => repeat (first | exact (Kd.C_below HR528_7.out HB.out) | (with_reducible refine Kd.C_alloc ?_ _) | (with_reducible refine Kd.C_drewN ?_ _) | (with_reducible refine Kd.C_drew ?_)))
                                                (case side12 => exact HC528_7.out)
                                                rintro e w70 ⟨rfl, hb⟩
                                                refine ⟨_, rfl, ?_⟩
                                                have n0_ := Aside0.mk (blk_below (g := gb522) (o := .cells #[.int .i64 a0_0, .bool a0_1, .bool a0_2, .slice A0_3 l0_3.length c0_3, .int .i64 a0_4, .string a0_5, .slice A0_6 l0_6.length c0_6, .slice (some ad527) l0_7.length c0_7] 50 (0, 0)) (by (with_reducible repeat (first | refine blk_drewN ?_ _ | refine blk_drew ?_ | refine blk_alloc ?_ _)); exact BK522.out) hb)
                                                have n1_ := Aside0.mk (blk_below (g := gb523) (o := .cells #[.int .i64 a1_0, .bool a1_1, .bool a1_2, .slice A1_3 l1_3.length c1_3, .int .i64 a1_4, .string a1_5, .slice A1_6 l1_6.length c1_6, .slice (some ad528) l1_7.length c1_7] 50 (0, 0)) (by (with_reducible repeat (first | refine blk_drewN ?_ _ | refine blk_drew ?_ | refine blk_alloc ?_ _)); exact BK523.out) hb)
                                                have n2_ := Aside0.mk (below_step (by repeat (first | (with_reducible first | exact HB.out | apply below_alloc | apply pw_below_drewN | apply below_drew1 | refine below_set ?_ GE522.out | refine below_set ?_ GE523.out) | exact HB.out)) hb)
                                                clear BK522
                                                clear BK523
                                                clear HB
                                                have BK522 := n0_
                                                have BK523 := n1_
                                                have HB := n2_
                                                clear n0_ n1_ n2_
                                                (try clear hb)
                                                (try clear hb2)
                                                (try clear hk)
                                                (try clear hi)
                                                refine hK.out _ _ ⟨(blk_cell BK522.out 0).trans rfl, (blk_cell BK522.out 1).trans rfl, (blk_cell BK522.out 2).trans rfl, (blk_cell BK522.out 3).trans rfl, (blk_cell BK522.out 4).trans rfl, (blk_cell BK522.out 5).trans rfl, (blk_cell BK522.out 6).trans rfl, (blk_cell BK522.out 7).trans rfl, (blk_cell BK523.out 0).trans rfl, (blk_cell BK523.out 1).trans rfl, (blk_cell BK523.out 2).trans rfl, (blk_cell BK523.out 3).trans rfl, (blk_cell BK523.out 4).trans rfl, (blk_cell BK523.out 5).trans rfl, (blk_cell BK523.out 6).trans rfl, (blk_cell BK523.out 7).trans rfl, ((HB.out.cell (World.block_lt_of_cell? w _ hw527_0)).trans hw527_0), ((HB.out.cell (World.block_lt_of_cell? w _ hw527_1)).trans hw527_1), ((HB.out.cell (World.block_lt_of_cell? w _ hw527_2)).trans hw527_2), ((HB.out.cell (World.block_lt_of_cell? w _ hw527_3)).trans hw527_3), ((HB.out.cell (World.block_lt_of_cell? w _ hw527_4)).trans hw527_4), ((HB.out.cell (World.block_lt_of_cell? w _ hw527_5)).trans hw527_5), ((HB.out.cell (World.block_lt_of_cell? w _ hw527_6)).trans hw527_6), ((HB.out.cell (World.block_lt_of_cell? w _ hw527_7)).trans hw527_7), ((HB.out.cell (World.block_lt_of_cell? w _ hw528_0)).trans hw528_0), ((HB.out.cell (World.block_lt_of_cell? w _ hw528_1)).trans hw528_1), ((HB.out.cell (World.block_lt_of_cell? w _ hw528_2)).trans hw528_2), ((HB.out.cell (World.block_lt_of_cell? w _ hw528_3)).trans hw528_3), ((HB.out.cell (World.block_lt_of_cell? w _ hw528_4)).trans hw528_4), ((HB.out.cell (World.block_lt_of_cell? w _ hw528_5)).trans hw528_5), ((HB.out.cell (World.block_lt_of_cell? w _ hw528_6)).trans hw528_6), ((HB.out.cell (World.block_lt_of_cell? w _ hw528_7)).trans hw528_7)⟩ (fun hHeld => ?_)
                                                clear hK K
                                                refine norm_ (a' := ?_) ?_ ?_
                                                rotate_left
                                                · show Act.put _ (some 100) _ = _
                                                  simp only [Act.put, List.setIfInBounds_toArray, List.set_cons_zero, List.set_cons_succ, i64_w, i32_w]
                                                  rfl
                                                refine pure_ (i := 11) (N := some 101) (v := ?_) (a' := ?_) #[true, true, true, true, true, true, true, true, true, true, true, true] rfl rfl (any_of HT_.out (by kernel_rfl)) (fun _ _ _ h => h) (Or.inl ⟨by rfl, ?_⟩) ?_ ?_
                                                rotate_left
                                                · intro w'
                                                  go_simp
                                                  with_reducible rfl
                                                rotate_left
                                                · simp only [Act.put, List.setIfInBounds_toArray, List.set_cons_zero, List.set_cons_succ, i64_w, i32_w]
                                                  rfl
                                                refine done_ (done_of HT_.out (by kernel_rfl)) ?_
                                                try go_wp2
                                                go_ret
                                                exact ⟨by first | rfl | (simp [errW_none, errW_some] <;> rfl) | (simp [*, errW_none, errW_some] <;> rfl), by repeat (first | (with_reducible first | exact HB.out | apply below_alloc | apply pw_below_drewN | apply below_drew1 | refine below_set ?_ GE522.out | refine below_set ?_ GE523.out) | exact HB.out)⟩
                                            · rw [if_neg c60] at H
                                              exact absurd H (by simp)
                                          · rw [if_neg c59] at H
                                            exact absurd H (by simp)
                                        · rw [if_neg c58] at H
                                          have c58b0 : decide (x6_6 < (l0_7.length : Int)) = false := decide_eq_false c58
                                          clear c58
                                          obtain rfl := Option.some.inj H
                                          have hnb71 := NB522_523.out
                                          have hnc71 := NB523_522.out
                                          have hcz72_0 : wr.cell? ⟨gb522, 0, none⟩ = some (.int .i64 a0_0) := (blk_cell BK522.out 0).trans rfl
                                          have hcz72_1 : wr.cell? ⟨gb522, 1, none⟩ = some (.bool a0_1) := (blk_cell BK522.out 1).trans rfl
                                          have hcz72_2 : wr.cell? ⟨gb522, 2, none⟩ = some (.bool a0_2) := (blk_cell BK522.out 2).trans rfl
                                          have hcz72_3 : wr.cell? ⟨gb522, 3, none⟩ = some (.slice A0_3 l0_3.length c0_3) := (blk_cell BK522.out 3).trans rfl
                                          have hcz72_4 : wr.cell? ⟨gb522, 4, none⟩ = some (.int .i64 a0_4) := (blk_cell BK522.out 4).trans rfl
                                          have hcz72_5 : wr.cell? ⟨gb522, 5, none⟩ = some (.string a0_5) := (blk_cell BK522.out 5).trans rfl
                                          have hcz72_6 : wr.cell? ⟨gb522, 6, none⟩ = some (.slice A0_6 l0_6.length c0_6) := (blk_cell BK522.out 6).trans rfl
                                          have hcz72_7 : wr.cell? ⟨gb522, 7, none⟩ = some (.slice A0_7 l0_7.length c0_7) := (blk_cell BK522.out 7).trans rfl
                                          have hfz72_0 := blk_frozen BK522.out 0
                                          have hfz72_1 := blk_frozen BK522.out 1
                                          have hfz72_2 := blk_frozen BK522.out 2
                                          have hfz72_3 := blk_frozen BK522.out 3
                                          have hfz72_4 := blk_frozen BK522.out 4
                                          have hfz72_5 := blk_frozen BK522.out 5
                                          have hfz72_6 := blk_frozen BK522.out 6
                                          have hfz72_7 := blk_frozen BK522.out 7
                                          go_wp2
                                          go_ret
                                          exact ⟨by first | rfl | (simp [errW_none, errW_some] <;> rfl) | (simp [*, errW_none, errW_some] <;> rfl), by repeat (first | (with_reducible first | exact HB.out | apply below_alloc | apply pw_below_drewN | apply below_drew1 | refine below_set ?_ GE522.out | refine below_set ?_ GE523.out) | exact HB.out)⟩
                  · replace c31 := Bool.eq_false_iff.mpr c31
                    subst c31
                    have H1 : (some true) = some r := by rw [if_neg (show ¬ (false = true) by decide)] at H; exact H
                    clear H
                    have H := H1
                    clear H1
                    obtain rfl := Option.some.inj H
                    go_wp2
                    go_ret
                    exact ⟨by first | rfl | (simp [errW_none, errW_some] <;> rfl) | (simp [*, errW_none, errW_some] <;> rfl), by repeat (first | (with_reducible first | exact HB.out | apply below_alloc | apply pw_below_drewN | apply below_drew1 | refine below_set ?_ GE522.out | refine below_set ?_ GE523.out) | exact HB.out)⟩
  · rw [if_neg c3] at H
    have c3b0 : (a0_0 == a1_0) = false := beq_eq_false_iff_ne.mpr c3
    have c3b1 : (a0_0 != a1_0) = true := bne_iff_ne.mpr c3
    obtain rfl := Option.some.inj H
    go_enter Try.func33, Try.ntmps33
    go_wp2_with (first | ((with_reducible refine gate_dst (N := 2) rfl ?_); (try (refine gate_guard (by rfl) ?_; dsimp only)); refine box_event ?hg (N := 2) ?hd (cs := #[.int .i64 a0_0, .bool a0_1, .bool a0_2, .slice A0_3 l0_3.length c0_3, .int .i64 a0_4, .string a0_5, .slice A0_6 l0_6.length c0_6, .slice A0_7 l0_7.length c0_7]) (t := 50) ?hr ?_; (case hd => rfl); (case hg => rfl); (case hr => first | (go_simp; done) | (go_simp; rfl)); intro gb522 hg w73 hbox hb; have n0_ := Aside0.mk (below_step (by repeat (first | (with_reducible first | exact HB.out | apply below_alloc | apply pw_below_drewN | apply below_drew1) | exact HB.out)) hb); have n1_ := Aside0.mk (hbox); have n2_ := Aside0.mk ((by rw [hg]; exact (below_size (by repeat (first | (with_reducible first | exact HB.out | apply below_alloc | apply pw_below_drewN | apply below_drew1) | exact HB.out))) : w.heap.size ≤ gb522)); have n3_ := Aside0.mk ((by rw [hg]; exact (below_size (by repeat (first | (with_reducible first | exact HB.out | apply below_alloc | apply pw_below_drewN | apply below_drew1) | exact HB.out))) : w.heap.size ≤ gb522)); clear HB; have HB := n0_; have BK522 := n1_; have GW522 := n2_; have GE522 := n3_; clear n0_ n1_ n2_ n3_; clear hb hbox hg) | ((with_reducible refine gate_dst (N := 3) rfl ?_); (try (refine gate_guard (by rfl) ?_; dsimp only)); refine box_event ?hg (N := 3) ?hd (cs := #[.int .i64 a1_0, .bool a1_1, .bool a1_2, .slice A1_3 l1_3.length c1_3, .int .i64 a1_4, .string a1_5, .slice A1_6 l1_6.length c1_6, .slice A1_7 l1_7.length c1_7]) (t := 50) ?hr ?_; (case hd => rfl); (case hg => rfl); (case hr => first | (go_simp; done) | (go_simp; rfl)); intro gb523 hg w74 hbox hb; have n0_ := Aside0.mk (blk_below (g := gb522) (o := .cells #[.int .i64 a0_0, .bool a0_1, .bool a0_2, .slice A0_3 l0_3.length c0_3, .int .i64 a0_4, .string a0_5, .slice A0_6 l0_6.length c0_6, .slice A0_7 l0_7.length c0_7] 50 (0, 0)) (by (with_reducible repeat (first | refine blk_drewN ?_ _ | refine blk_drew ?_ | refine blk_alloc ?_ _)); exact BK522.out) hb); have n1_ := Aside0.mk (below_step (by repeat (first | (with_reducible first | exact HB.out | apply below_alloc | apply pw_below_drewN | apply below_drew1 | refine below_set ?_ GE522.out) | exact HB.out)) hb); have n2_ := Aside0.mk (hbox); have n3_ := Aside0.mk ((by rw [hg]; exact (below_size (by repeat (first | (with_reducible first | exact HB.out | apply below_alloc | apply pw_below_drewN | apply below_drew1 | refine below_set ?_ GE522.out) | exact HB.out))) : w.heap.size ≤ gb523)); have n4_ := Aside0.mk ((by rw [hg]; exact (below_size (by repeat (first | (with_reducible first | exact HB.out | apply below_alloc | apply pw_below_drewN | apply below_drew1 | refine below_set ?_ GE522.out) | exact HB.out))) : w.heap.size ≤ gb523)); have n5_ := Aside0.mk ((by rw [hg]; exact Nat.ne_of_lt (blk_lt (g := gb522) (o := .cells #[.int .i64 a0_0, .bool a0_1, .bool a0_2, .slice A0_3 l0_3.length c0_3, .int .i64 a0_4, .string a0_5, .slice A0_6 l0_6.length c0_6, .slice A0_7 l0_7.length c0_7] 50 (0, 0)) (by (with_reducible repeat (first | refine blk_drewN ?_ _ | refine blk_drew ?_ | refine blk_alloc ?_ _)); exact BK522.out)) : gb522 ≠ gb523)); have n6_ := Aside0.mk ((by rw [hg]; exact Nat.ne_of_gt (blk_lt (g := gb522) (o := .cells #[.int .i64 a0_0, .bool a0_1, .bool a0_2, .slice A0_3 l0_3.length c0_3, .int .i64 a0_4, .string a0_5, .slice A0_6 l0_6.length c0_6, .slice A0_7 l0_7.length c0_7] 50 (0, 0)) (by (with_reducible repeat (first | refine blk_drewN ?_ _ | refine blk_drew ?_ | refine blk_alloc ?_ _)); exact BK522.out)) : gb523 ≠ gb522)); clear BK522; clear HB; have BK522 := n0_; have HB := n1_; have BK523 := n2_; have GW523 := n3_; have GE523 := n4_; have NB522_523 := n5_; have NB523_522 := n6_; clear n0_ n1_ n2_ n3_ n4_ n5_ n6_; clear hb hbox hg; have hnb75 := NB522_523.out; have hnc75 := NB523_522.out; have hcz76_0 : w74.cell? ⟨gb522, 0, none⟩ = some (.int .i64 a0_0) := (blk_cell BK522.out 0).trans rfl; have hcz76_1 : w74.cell? ⟨gb522, 1, none⟩ = some (.bool a0_1) := (blk_cell BK522.out 1).trans rfl; have hcz76_2 : w74.cell? ⟨gb522, 2, none⟩ = some (.bool a0_2) := (blk_cell BK522.out 2).trans rfl; have hcz76_3 : w74.cell? ⟨gb522, 3, none⟩ = some (.slice A0_3 l0_3.length c0_3) := (blk_cell BK522.out 3).trans rfl; have hcz76_4 : w74.cell? ⟨gb522, 4, none⟩ = some (.int .i64 a0_4) := (blk_cell BK522.out 4).trans rfl; have hcz76_5 : w74.cell? ⟨gb522, 5, none⟩ = some (.string a0_5) := (blk_cell BK522.out 5).trans rfl; have hcz76_6 : w74.cell? ⟨gb522, 6, none⟩ = some (.slice A0_6 l0_6.length c0_6) := (blk_cell BK522.out 6).trans rfl; have hcz76_7 : w74.cell? ⟨gb522, 7, none⟩ = some (.slice A0_7 l0_7.length c0_7) := (blk_cell BK522.out 7).trans rfl; have hfz76_0 := blk_frozen BK522.out 0; have hfz76_1 := blk_frozen BK522.out 1; have hfz76_2 := blk_frozen BK522.out 2; have hfz76_3 := blk_frozen BK522.out 3; have hfz76_4 := blk_frozen BK522.out 4; have hfz76_5 := blk_frozen BK522.out 5; have hfz76_6 := blk_frozen BK522.out 6; have hfz76_7 := blk_frozen BK522.out 7; have hcz77_0 : w74.cell? ⟨gb523, 0, none⟩ = some (.int .i64 a1_0) := (blk_cell BK523.out 0).trans rfl; have hcz77_1 : w74.cell? ⟨gb523, 1, none⟩ = some (.bool a1_1) := (blk_cell BK523.out 1).trans rfl; have hcz77_2 : w74.cell? ⟨gb523, 2, none⟩ = some (.bool a1_2) := (blk_cell BK523.out 2).trans rfl; have hcz77_3 : w74.cell? ⟨gb523, 3, none⟩ = some (.slice A1_3 l1_3.length c1_3) := (blk_cell BK523.out 3).trans rfl; have hcz77_4 : w74.cell? ⟨gb523, 4, none⟩ = some (.int .i64 a1_4) := (blk_cell BK523.out 4).trans rfl; have hcz77_5 : w74.cell? ⟨gb523, 5, none⟩ = some (.string a1_5) := (blk_cell BK523.out 5).trans rfl; have hcz77_6 : w74.cell? ⟨gb523, 6, none⟩ = some (.slice A1_6 l1_6.length c1_6) := (blk_cell BK523.out 6).trans rfl; have hcz77_7 : w74.cell? ⟨gb523, 7, none⟩ = some (.slice A1_7 l1_7.length c1_7) := (blk_cell BK523.out 7).trans rfl; have hfz77_0 := blk_frozen BK523.out 0; have hfz77_1 := blk_frozen BK523.out 1; have hfz77_2 := blk_frozen BK523.out 2; have hfz77_3 := blk_frozen BK523.out 3; have hfz77_4 := blk_frozen BK523.out 4; have hfz77_5 := blk_frozen BK523.out 5; have hfz77_6 := blk_frozen BK523.out 6; have hfz77_7 := blk_frozen BK523.out 7))
    go_ret
    exact ⟨by first | rfl | (simp [errW_none, errW_some] <;> rfl) | (simp [*, errW_none, errW_some] <;> rfl), by repeat (first | (with_reducible first | exact HB.out | apply below_alloc | apply pw_below_drewN | apply below_drew1 | refine below_set ?_ GE522.out | refine below_set ?_ GE523.out) | exact HB.out)⟩
end Go.Proofs.Ytpamgedmgjfjjaa.M
