/-
Lemmas for OrderAll, for every input they speak of: XRefObjF, XAllF.
-/
import Derived.Test.YtpamgedmgjfjjaaKOrderAll03
import Derived.Test.YtpamgedmgjfjjaaKOrderAll15
import Derived.Test.YtpamgedmgjfjjaaKOrderAll17
import Derived.Test.YtpamgedmgjfjjaaKOrderAll08
import Derived.Test.YtpamgedmgjfjjaaKOrderAll10
import Derived.Test.YtpamgedmgjfjjaaKOrderAll09
import Derived.Test.YtpamgedmgjfjjaaKOrderAll11
import Derived.Test.YtpamgedmgjfjjaaKOrderAll12
import Derived.Test.YtpamgedmgjfjjaaKOrderAll13
import Derived.Test.YtpamgedmgjfjjaaKOrderAll18
section
namespace Go.Proofs.Ytpamgedmgjfjjaa.M
open Go.RowKit Go.Proofs.YtpamgedmgjfjjaaW.PrintWords Go.Proofs.YtpamgedmgjfjjaaW.PrintLast Go.Proofs.YtpamgedmgjfjjaaW.PrintMore
attribute [local go_sem] max2_int min2_int max_two min_two max_three min_three max_four min_four
set_option linter.unusedVariables false
set_option linter.unusedSimpArgs false
theorem k48_heap : Kd.Heap k48 := Kd.heap_iso _ (Kd.heap_pair Kd.heap_bool (Kd.heap_pair (Kd.heap_slice 78 (Kd.heap_int .u32)) (Kd.heap_int .i64)))
theorem k50_heap : Kd.Heap k50 := Kd.heap_fix (fun _ h_ => Kd.heap_iso _ (Kd.heap_pair (Kd.heap_int .i64) (Kd.heap_pair Kd.heap_bool (Kd.heap_pair k48_heap (Kd.heap_pair Kd.heap_string (Kd.heap_pair (Kd.heap_slice 9 Kd.heap_string) (Kd.heap_slice 50 h_)))))))
def objN (l : List ByteArray) (v : List S50) : Nat := min l.length v.length
def objR (l : List ByteArray) (v : List S50) : Int × Bool × Bool × List Int × Int × ByteArray × List ByteArray × (List S50) × Int × Bool :=
  if (twiceL (kbs (l.take (objN l v))) [] 0).2 = true then (0, false, false, [], 0, ⟨#[]⟩, [], [], (twiceL (kbs (l.take (objN l v))) [] 0).1, false)
  else (7, false, false, [], 0, ⟨#[]⟩, (sortF lessB (l.take (objN l v))).map (rdOf ByteArray.empty l), (sortF lessB (l.take (objN l v))).map (rd_T50 v), 0, true)
def erratumref06_Object.l0 : Nat → List ByteArray → List (S50) → List Int → Int → Int → Bool → Bool → Int → ByteArray → List ByteArray → List (S50) → Option (Int × Bool × Bool × List Int × Int × ByteArray × List ByteArray × (List (S50)) × Int × Bool)
  | 0, _, _, _, _, _, _, _, _, _, _, _ => none
  | k + 1, x0, x1, x11, x12, x400000, x400001, x400002, x400004, x400005, x400006, x400007 => if x12 < (x11.length : Int) then (if 0 ≤ x12 then (if 0 ≤ (rd x11 x12) then (if (rd x11 x12) < (x0.length : Int) then ((some (([rdOf ByteArray.empty x0 (rd x11 x12)] : List ByteArray) : List ByteArray)).bind fun y409 => (if x400006.length + y409.length < 8796093022208 then (if (rd x11 x12) < (x1.length : Int) then ((some (([(⟨(rd_T50 x1 (rd x11 x12)).f0, (rd_T50 x1 (rd x11 x12)).f1, (⟨(rd_T50 x1 (rd x11 x12)).f2.f0, (rd_T50 x1 (rd x11 x12)).f2.f1, (rd_T50 x1 (rd x11 x12)).f2.f2⟩ : S48), (rd_T50 x1 (rd x11 x12)).f3, (rd_T50 x1 (rd x11 x12)).f4, (rd_T50 x1 (rd x11 x12)).f5⟩ : S50)] : List (S50)) : List (S50))).bind fun y417 => (if x400007.length + y417.length < 1172812402961 then (erratumref06_Object.l0 k x0 x1 x11 (wrap64 (x12 + 1)) x400000 x400001 x400002 x400004 x400005 (x400006 ++ y409) (x400007 ++ y417)) else (none))) else (none)) else (none))) else (none)) else (none)) else (none)) else (some (x400000, x400001, x400002, ([] : List Int), x400004, x400005, x400006, x400007, 0, true))
def erratumref06_Object.f (k : Nat) (l0 : List ByteArray) (l1 : List (S50)) : Option (Int × Bool × Bool × List Int × Int × ByteArray × List ByteArray × (List (S50)) × Int × Bool) := if 0 ≤ (mn (l0.length : Int) (l1.length : Int)) then (if (mn (l0.length : Int) (l1.length : Int)) ≤ (l0.length : Int) then ((erratumref06_Twice.f k (l0.take ((mn (l0.length : Int) (l1.length : Int)) : Int).toNat)).bind fun bt397 => (if bt397.2 = true then (some (0, false, false, ([] : List Int), 0, (⟨#[]⟩ : ByteArray), ([] : List ByteArray), ([] : List (S50)), bt397.1, false)) else ((erratumref06_Sort.f k (l0.take ((mn (l0.length : Int) (l1.length : Int)) : Int).toNat)).bind fun t404 => (erratumref06_Object.l0 k l0 l1 t404 0 7 false false 0 (⟨#[]⟩ : ByteArray) ([] : List ByteArray) ([] : List (S50)))))) else (none)) else (none)
theorem erratumref06_Object.mono_l : ∀ k, (∀ y0 y1 y2 y3 y4 y5 y6 y7 y8 y9 y10, LeO (erratumref06_Object.l0 k y0 y1 y2 y3 y4 y5 y6 y7 y8 y9 y10) (erratumref06_Object.l0 (k + 1) y0 y1 y2 y3 y4 y5 y6 y7 y8 y9 y10))
  | 0 => fun _ _ _ _ _ _ _ _ _ _ _ r h => by simp [erratumref06_Object.l0] at h
  | k + 1 => by
    have ih0 := erratumref06_Object.mono_l k
    · intro y0 y1 y2 y3 y4 y5 y6 y7 y8 y9 y10
      unfold erratumref06_Object.l0
      repeat' first
      | (with_reducible exact ih0 _ _ _ _ _ _ _ _ _ _ _)
      | (with_reducible exact erratumref06_Sort.mono _ _)
      | (with_reducible exact erratumref06_Twice.mono _ _)
      | (with_reducible exact LeO.refl _)
      | (with_reducible exact LeO.none _)
      | (with_reducible refine LeO.ite ?_ ?_)
      | (with_reducible refine LeO.bind ?_ (fun _ => ?_))
      | exact ih0 _ _ _ _ _ _ _ _ _ _ _
      | exact erratumref06_Sort.mono _ _
      | exact erratumref06_Twice.mono _ _
      | exact LeO.none _
      | refine LeO.ite ?_ ?_
      | refine LeO.bind ?_ (fun _ => ?_)
theorem erratumref06_Object.mono : ∀ a0 a1 k, LeO (erratumref06_Object.f k a0 a1) (erratumref06_Object.f (k + 1) a0 a1) := by
  intro a0 a1 k
  have ih0 := erratumref06_Object.mono_l k
  unfold erratumref06_Object.f
  repeat' first
      | (with_reducible exact ih0 _ _ _ _ _ _ _ _ _ _ _)
      | (with_reducible exact erratumref06_Sort.mono _ _)
      | (with_reducible exact erratumref06_Twice.mono _ _)
      | (with_reducible exact LeO.refl _)
      | (with_reducible exact LeO.none _)
      | (with_reducible refine LeO.ite ?_ ?_)
      | (with_reducible refine LeO.bind ?_ (fun _ => ?_))
      | exact ih0 _ _ _ _ _ _ _ _ _ _ _
      | exact erratumref06_Sort.mono _ _
      | exact erratumref06_Twice.mono _ _
      | exact LeO.none _
      | refine LeO.ite ?_ ?_
      | refine LeO.bind ?_ (fun _ => ?_)
end Go.Proofs.Ytpamgedmgjfjjaa.M
end
section
namespace Go.Proofs.Ytpamgedmgjfjjaa.M
open Go.RowKit Go.Proofs.YtpamgedmgjfjjaaW.PrintWords Go.Proofs.YtpamgedmgjfjjaaW.PrintLast Go.Proofs.YtpamgedmgjfjjaaW.PrintMore
attribute [local go_sem] max2_int min2_int max_two min_two max_three min_three max_four min_four
set_option linter.unusedVariables false
set_option linter.unusedSimpArgs false
mutual
def erratumlaw06_OrderAll.j0 : Nat → List ByteArray → List (S50) → ByteArray → ByteArray → Bool → Option (Bool)
  | 0, _, _, _, _, _ => none
  | k + 1, x0, x1, x2, x3, x27 => if x27 = true then ((erratumlaw06_awake.f k).bind fun t410 => (some t410)) else (erratumlaw06_OrderAll.l0 k x0 x1 x2 x3 0)
def erratumlaw06_OrderAll.l0 : Nat → List ByteArray → List (S50) → ByteArray → ByteArray → Int → Option (Bool)
  | 0, _, _, _, _, _ => none
  | k + 1, x0, x1, x2, x3, x9 => if x9 < (x1.length : Int) then (if 0 ≤ x9 then ((erratumlaw00_Light.f k ((rd_T50 x1 x9).f0) ((rd_T50 x1 x9).f1) ((rd_T50 x1 x9).f2.f0) ((rd_T50 x1 x9).f2.f1) ((rd_T50 x1 x9).f2.f2) ((rd_T50 x1 x9).f3) ((rd_T50 x1 x9).f4) ((rd_T50 x1 x9).f5) 20).bind fun t412 => (if t412 = true then (erratumlaw06_OrderAll.l0 k x0 x1 x2 x3 (wrap64 (x9 + 1))) else ((erratumlaw06_awake.f k).bind fun t413 => (some t413)))) else (none)) else ((erratumlaw00_Strings.f x0).bind fun t414 => ((erratumlaw00_Trees.f k x1).bind fun t417 => ((order_Object.f k t414 t417).bind fun bt420 => ((erratumref06_Object.f k x0 x1).bind fun bt437 => ((erratumlaw00_Strings.f x0).bind fun t454 => ((order_Twice.f t454).bind fun bt457 => ((erratumref06_Twice.f k x0).bind fun bt459 => ((erratumlaw00_Strings.f x0).bind fun t461 => ((order_Sort.f t461).bind fun t464 => ((erratumref06_Sort.f k x0).bind fun t467 => ((erratumlaw00_SameInts.f k t464 t467).bind fun t470 => (if t470 = true then ((erratumlaw00_Strings.f x0).bind fun t471 => ((order_CBOR.f t471).bind fun t474 => ((erratumref06_CBOR.f k x0).bind fun t477 => ((erratumlaw00_SameInts.f k t474 t477).bind fun t480 => (if t480 = true then ((order_Less.f x2 x3).bind fun t481 => ((erratumref06_Less.f x2 x3).bind fun t482 => (if (t481 == t482) = true then (if bt457.1 = bt459.1 then (if (bt457.2 == bt459.2) = true then ((erratumlaw00_SameTree.f k bt420.1 bt420.2.1 bt420.2.2.1 bt420.2.2.2.1 bt420.2.2.2.2.1 bt420.2.2.2.2.2.1 bt420.2.2.2.2.2.2.1 bt420.2.2.2.2.2.2.2.1 bt437.1 bt437.2.1 bt437.2.2.1 bt437.2.2.2.1 bt437.2.2.2.2.1 bt437.2.2.2.2.2.1 bt437.2.2.2.2.2.2.1 bt437.2.2.2.2.2.2.2.1).bind fun t483 => (if t483 = true then (if bt420.2.2.2.2.2.2.2.2.1 = bt437.2.2.2.2.2.2.2.2.1 then (if (bt420.2.2.2.2.2.2.2.2.2 == bt437.2.2.2.2.2.2.2.2.2) = true then ((erratumlaw06_awake.f k).bind fun t484 => (some t484)) else (some false)) else (some false)) else (some false))) else (some false)) else (some false)) else (some false)))) else (some false)))))) else (some false)))))))))))))
end
def erratumlaw06_OrderAll.f (k : Nat) (l0 : List ByteArray) (l1 : List (S50)) (a2 : ByteArray) (a3 : ByteArray) : Option (Bool) := (erratumlaw06_few.f k l0).bind fun t409 => (if t409 = true then (erratumlaw06_OrderAll.j0 k l0 l1 a2 a3 (decide ((l1.length : Int) > 60))) else (erratumlaw06_OrderAll.j0 k l0 l1 a2 a3 true))
theorem erratumlaw06_OrderAll.mono_l : ∀ k, (∀ y0 y1 y2 y3 y4, LeO (erratumlaw06_OrderAll.j0 k y0 y1 y2 y3 y4) (erratumlaw06_OrderAll.j0 (k + 1) y0 y1 y2 y3 y4)) ∧ (∀ y0 y1 y2 y3 y4, LeO (erratumlaw06_OrderAll.l0 k y0 y1 y2 y3 y4) (erratumlaw06_OrderAll.l0 (k + 1) y0 y1 y2 y3 y4))
  | 0 => ⟨fun _ _ _ _ _ r h => by simp [erratumlaw06_OrderAll.j0] at h, fun _ _ _ _ _ r h => by simp [erratumlaw06_OrderAll.l0] at h⟩
  | k + 1 => by
    obtain ⟨ih0, ih1⟩ := erratumlaw06_OrderAll.mono_l k
    refine ⟨?_, ?_⟩
    · intro y0 y1 y2 y3 y4
      unfold erratumlaw06_OrderAll.j0
      repeat' first
      | (with_reducible exact ih0 _ _ _ _ _)
      | (with_reducible exact ih1 _ _ _ _ _)
      | (with_reducible exact erratumlaw00_Light.mono _ _ _ _ _ _ _ _ _ _)
      | (with_reducible exact erratumlaw00_SameInts.mono _ _ _)
      | (with_reducible exact erratumlaw00_SameTree.mono _ _ _ _ _ _ _ _ _ _ _ _ _ _ _ _ _)
      | (with_reducible exact erratumlaw00_Trees.mono _ _)
      | (with_reducible exact erratumlaw06_awake.mono _)
      | (with_reducible exact erratumlaw06_few.mono _ _)
      | (with_reducible exact erratumref06_CBOR.mono _ _)
      | (with_reducible exact erratumref06_Object.mono _ _ _)
      | (with_reducible exact erratumref06_Sort.mono _ _)
      | (with_reducible exact erratumref06_Twice.mono _ _)
      | (with_reducible exact order_Object.mono _ _ _)
      | (with_reducible exact LeO.refl _)
      | (with_reducible exact LeO.none _)
      | (with_reducible refine LeO.ite ?_ ?_)
      | (with_reducible refine LeO.bind ?_ (fun _ => ?_))
      | exact ih0 _ _ _ _ _
      | exact ih1 _ _ _ _ _
      | exact erratumlaw00_Light.mono _ _ _ _ _ _ _ _ _ _
      | exact erratumlaw00_SameInts.mono _ _ _
      | exact erratumlaw00_SameTree.mono _ _ _ _ _ _ _ _ _ _ _ _ _ _ _ _ _
      | exact erratumlaw00_Trees.mono _ _
      | exact erratumlaw06_awake.mono _
      | exact erratumlaw06_few.mono _ _
      | exact erratumref06_CBOR.mono _ _
      | exact erratumref06_Object.mono _ _ _
      | exact erratumref06_Sort.mono _ _
      | exact erratumref06_Twice.mono _ _
      | exact order_Object.mono _ _ _
      | exact LeO.none _
      | refine LeO.ite ?_ ?_
      | refine LeO.bind ?_ (fun _ => ?_)
    · intro y0 y1 y2 y3 y4
      unfold erratumlaw06_OrderAll.l0
      repeat' first
      | (with_reducible exact ih0 _ _ _ _ _)
      | (with_reducible exact ih1 _ _ _ _ _)
      | (with_reducible exact erratumlaw00_Light.mono _ _ _ _ _ _ _ _ _ _)
      | (with_reducible exact erratumlaw00_SameInts.mono _ _ _)
      | (with_reducible exact erratumlaw00_SameTree.mono _ _ _ _ _ _ _ _ _ _ _ _ _ _ _ _ _)
      | (with_reducible exact erratumlaw00_Trees.mono _ _)
      | (with_reducible exact erratumlaw06_awake.mono _)
      | (with_reducible exact erratumlaw06_few.mono _ _)
      | (with_reducible exact erratumref06_CBOR.mono _ _)
      | (with_reducible exact erratumref06_Object.mono _ _ _)
      | (with_reducible exact erratumref06_Sort.mono _ _)
      | (with_reducible exact erratumref06_Twice.mono _ _)
      | (with_reducible exact order_Object.mono _ _ _)
      | (with_reducible exact LeO.refl _)
      | (with_reducible exact LeO.none _)
      | (with_reducible refine LeO.ite ?_ ?_)
      | (with_reducible refine LeO.bind ?_ (fun _ => ?_))
      | exact ih0 _ _ _ _ _
      | exact ih1 _ _ _ _ _
      | exact erratumlaw00_Light.mono _ _ _ _ _ _ _ _ _ _
      | exact erratumlaw00_SameInts.mono _ _ _
      | exact erratumlaw00_SameTree.mono _ _ _ _ _ _ _ _ _ _ _ _ _ _ _ _ _
      | exact erratumlaw00_Trees.mono _ _
      | exact erratumlaw06_awake.mono _
      | exact erratumlaw06_few.mono _ _
      | exact erratumref06_CBOR.mono _ _
      | exact erratumref06_Object.mono _ _ _
      | exact erratumref06_Sort.mono _ _
      | exact erratumref06_Twice.mono _ _
      | exact order_Object.mono _ _ _
      | exact LeO.none _
      | refine LeO.ite ?_ ?_
      | refine LeO.bind ?_ (fun _ => ?_)
theorem erratumlaw06_OrderAll.mono : ∀ a0 a1 a2 a3 k, LeO (erratumlaw06_OrderAll.f k a0 a1 a2 a3) (erratumlaw06_OrderAll.f (k + 1) a0 a1 a2 a3) := by
  intro a0 a1 a2 a3 k
  obtain ⟨ih0, ih1⟩ := erratumlaw06_OrderAll.mono_l k
  unfold erratumlaw06_OrderAll.f
  repeat' first
      | (with_reducible exact ih0 _ _ _ _ _)
      | (with_reducible exact ih1 _ _ _ _ _)
      | (with_reducible exact erratumlaw00_Light.mono _ _ _ _ _ _ _ _ _ _)
      | (with_reducible exact erratumlaw00_SameInts.mono _ _ _)
      | (with_reducible exact erratumlaw00_SameTree.mono _ _ _ _ _ _ _ _ _ _ _ _ _ _ _ _ _)
      | (with_reducible exact erratumlaw00_Trees.mono _ _)
      | (with_reducible exact erratumlaw06_awake.mono _)
      | (with_reducible exact erratumlaw06_few.mono _ _)
      | (with_reducible exact erratumref06_CBOR.mono _ _)
      | (with_reducible exact erratumref06_Object.mono _ _ _)
      | (with_reducible exact erratumref06_Sort.mono _ _)
      | (with_reducible exact erratumref06_Twice.mono _ _)
      | (with_reducible exact order_Object.mono _ _ _)
      | (with_reducible exact LeO.refl _)
      | (with_reducible exact LeO.none _)
      | (with_reducible refine LeO.ite ?_ ?_)
      | (with_reducible refine LeO.bind ?_ (fun _ => ?_))
      | exact ih0 _ _ _ _ _
      | exact ih1 _ _ _ _ _
      | exact erratumlaw00_Light.mono _ _ _ _ _ _ _ _ _ _
      | exact erratumlaw00_SameInts.mono _ _ _
      | exact erratumlaw00_SameTree.mono _ _ _ _ _ _ _ _ _ _ _ _ _ _ _ _ _
      | exact erratumlaw00_Trees.mono _ _
      | exact erratumlaw06_awake.mono _
      | exact erratumlaw06_few.mono _ _
      | exact erratumref06_CBOR.mono _ _
      | exact erratumref06_Object.mono _ _ _
      | exact erratumref06_Sort.mono _ _
      | exact erratumref06_Twice.mono _ _
      | exact order_Object.mono _ _ _
      | exact LeO.none _
      | refine LeO.ite ?_ ?_
      | refine LeO.bind ?_ (fun _ => ?_)
end Go.Proofs.Ytpamgedmgjfjjaa.M
end
