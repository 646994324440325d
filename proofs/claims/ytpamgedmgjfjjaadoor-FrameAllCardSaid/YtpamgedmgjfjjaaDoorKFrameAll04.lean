/-
Lemmas for FrameAll, for every input they speak of: XUtf, XCard, XRunes, XValid, XAwake, XDec, XText, XCount, XEnc.
-/
import Derived.Test.YtpamgedmgjfjjaaDoorKFrameAll02
import Derived.Test.YtpamgedmgjfjjaaDoorKFrameAll03
import Derived.Laws.Runes
import Derived.Lib.TrimUEq
import Derived.Lib.RuneCount
import Derived.Lib.RuneCountTail
import Derived.Test.YtpamgedmgjfjjaaDoorRows
import Derived.PinnedBridge
import Derived.Lib.LaidU8
import Derived.Lay
import Derived.MakeChecks
import Derived.Lib.OthersKept
import Derived.WalkMore
section
namespace Go.Proofs.YtpamgedmgjfjjaaDoor.M
open Go.RowKit Go.Proofs.YtpamgedmgjfjjaaDoorW.PrintWords Go.Proofs.YtpamgedmgjfjjaaDoorW.PrintLast Go.Proofs.YtpamgedmgjfjjaaDoorW.PrintMore
set_option linter.unusedVariables false
set_option linter.unusedSimpArgs false
def Tabs (w : World) : Prop := Lib.Utf8Tabs 0 1 w
theorem tabs_below {w w1 : World} (h : Tabs w) (hb : Below w.heap.size w w1) : Tabs w1 := Utf8Tabs_below h hb
theorem decodeGo_cut (s : ByteArray) (pos : Nat) (h : pos < s.size) : Lib.decodeGo (s.extract pos s.size) = Utf8.decode s pos := by
  unfold Lib.decodeGo
  rw [if_neg (by rw [Lib.tail_size]; omega), Lib.tail_decode, Nat.add_zero]
def runeU (s : ByteArray) (i : Int) : Int × Int :=
  if i < 0 ∨ (s.size : Int) ≤ i then (-1, 0)
  else if (Utf8.decode s i.toNat).1 = 65533 ∧ (Utf8.decode s i.toNat).2 = 1 then (-1, 1)
  else (((Utf8.decode s i.toNat).1 : Int), ((Utf8.decode s i.toNat).2 : Int))
set_option maxHeartbeats 1000000 in
set_option maxRecDepth 100000 in
theorem utf_Rune_calls (s : ByteArray) (i : Int) (w : World) (hT : Tabs w) :
    Calls Tryd.prog 22 #[.string s, .int .i64 i] w fun e w' => e = .returned (.tuple #[.int .i32 (runeU s i).1, .int .i64 (runeU s i).2]) ∧ Below w.heap.size w w' := by
  have HT := Aside0.mk hT
  clear hT
  by_cases h0 : i < 0
  · have e : runeU s i = (-1, 0) := by unfold runeU; rw [if_pos (.inl h0)]
    rw [e]
    go_enter Tryd.func22, Tryd.ntmps22
    go_wp2
    go_ret2
    exact ⟨rfl, Below.refl _ _⟩
  · by_cases h1 : (s.size : Int) ≤ i
    · have e : runeU s i = (-1, 0) := by unfold runeU; rw [if_pos (.inr h1)]
      rw [e]
      go_enter Tryd.func22, Tryd.ntmps22
      go_wp2
      go_ret2
      exact ⟨rfl, Below.refl _ _⟩
    · have hd : Lib.decodeGo (s.extract i.toNat s.size) = Utf8.decode s i.toNat := decodeGo_cut s i.toNat (by omega)
      have hC := Tryd.utf8_DecodeRuneInString (s.extract i.toNat s.size) w HT.out
      rw [hd] at hC
      have HC := Aside0.mk hC
      have e : runeU s i = if (Utf8.decode s i.toNat).1 = 65533 ∧ (Utf8.decode s i.toNat).2 = 1 then (-1, 1) else (((Utf8.decode s i.toNat).1 : Int), ((Utf8.decode s i.toNat).2 : Int)) := by
        unfold runeU
        rw [if_neg (by omega)]
      rw [e]
      clear e hC hd
      generalize (Utf8.decode s i.toNat).1 = r at *
      generalize (Utf8.decode s i.toNat).2 = n at *
      by_cases hr : r = 65533
      · subst hr
        by_cases hn : n = 1
        · subst hn
          rw [if_pos ⟨rfl, rfl⟩]
          go_enter Tryd.func22, Tryd.ntmps22
          go_wp2_with (go_at_call 45; refine HC.out.mono ?_; rintro e w1 ⟨rfl, hb⟩; have HB := Aside0.mk hb; clear hb)
          go_ret2
          exact ⟨rfl, HB.out⟩
        · rw [if_neg (fun h => hn h.2)]
          have n1 : ((n : Int) == 1) = false := beq_eq_false_iff_ne.2 (by omega)
          have n2 : decide ((n : Int) = 1) = false := decide_eq_false (by omega)
          have n3 : (n == 1) = false := beq_eq_false_iff_ne.2 hn
          go_enter Tryd.func22, Tryd.ntmps22
          go_wp2_with (go_at_call 45; refine HC.out.mono ?_; rintro e w1 ⟨rfl, hb⟩; have HB := Aside0.mk hb; clear hb)
          go_ret2
          exact ⟨rfl, HB.out⟩
      · rw [if_neg (fun h => hr h.1)]
        have r1 : ((r : Int) == 65533) = false := beq_eq_false_iff_ne.2 (by omega)
        have r2 : decide ((r : Int) = 65533) = false := decide_eq_false (by omega)
        have r3 : (r == 65533) = false := beq_eq_false_iff_ne.2 hr
        go_enter Tryd.func22, Tryd.ntmps22
        go_wp2_with (go_at_call 45; refine HC.out.mono ?_; rintro e w1 ⟨rfl, hb⟩; have HB := Aside0.mk hb; clear hb)
        go_ret2
        exact ⟨rfl, HB.out⟩
end Go.Proofs.YtpamgedmgjfjjaaDoor.M
end
section
namespace Go.Proofs.YtpamgedmgjfjjaaDoor.M
open Go.RowKit Go.Lib Go.Shelf
theorem xU8 : U8Extra Tryd.prog Tryd.lays260_ren := ⟨by kernel_rfl, by kernel_rfl, by kernel_rfl, by kernel_rfl, by kernel_rfl, by kernel_rfl, by kernel_rfl⟩
abbrev laidL : List (String × DataW Unit) := [("unicode/utf8.acceptRanges", Rows.laid_unicode_utf8_acceptRanges), ("unicode/utf8.first", Rows.laid_unicode_utf8_first)]
theorem acceptData_eq : (Rows.laid_unicode_utf8_acceptRanges : DataW Unit) = acceptData := by kernel_rfl
theorem firstData_eq : Rows.laid_unicode_utf8_first = firstData := (show Rows.laid_unicode_utf8_first = Pinned.utf8First from rfl).trans Pinned.utf8First_eq
theorem tabs_of_laid {W : World} (hL : laidMetH Tryd.prog laidL W) : Tabs W := by
  rw [MakeChecks.laidMetH_plain _ _ _ (by kernel_rfl)] at hL
  exact utf8Tabs_of_reads Tryd.lays260 xU8 (firstData_eq ▸ Lib.laidMet.reads hL (.tail _ (.head _))) (acceptData_eq ▸ Lib.laidMet.reads hL (.head _))
theorem laid_witness (os : Os) (args : Array Value) : laidMetH Tryd.prog laidL ((World.laidAll Tryd.prog os laidL).forCall (fun _ _ => 0) ⟨#[], args, []⟩).memory := by
  rw [MakeChecks.laidMetH_plain _ _ _ (by kernel_rfl)]
  exact laidMet_laidAll _ (by kernel_rfl) (by kernel_rfl)
end Go.Proofs.YtpamgedmgjfjjaaDoor.M
end
section
namespace Go.Proofs.YtpamgedmgjfjjaaDoor.M
open Go.RowKit Go.Proofs.YtpamgedmgjfjjaaDoorW.PrintWords Go.Proofs.YtpamgedmgjfjjaaDoorW.PrintLast Go.Proofs.YtpamgedmgjfjjaaDoorW.PrintMore
open Go.Lib
set_option linter.unusedVariables false
set_option linter.unusedSimpArgs false
def runesU (s : ByteArray) : Nat → Nat → List Int
  | 0, _ => []
  | f + 1, pos => if pos < s.size then (runeU s pos).1 :: runesU s f (pos + (Utf8.decode s pos).2) else []
theorem runesU_end (s : ByteArray) (f pos : Nat) (h : ¬ pos < s.size) : runesU s f pos = [] := by
  cases f
  · rfl
  · rw [runesU, if_neg h]
theorem iterPos_at {w : World} {k : Nat} {s : ByteArray} {p : Nat} (h : w.heap[k]? = some (.stringIter s p)) : w.iterPos k = p := by simp [World.iterPos, h]
end Go.Proofs.YtpamgedmgjfjjaaDoor.M
end
section
namespace Go.Proofs.YtpamgedmgjfjjaaDoor.M
open Go.RowKit Go.Proofs.YtpamgedmgjfjjaaDoorW.PrintWords Go.Proofs.YtpamgedmgjfjjaaDoorW.PrintLast Go.Proofs.YtpamgedmgjfjjaaDoorW.PrintMore
open Go.Lib
set_option linter.unusedVariables false
set_option linter.unusedSimpArgs false
def validU (s : ByteArray) : Nat → Nat → Bool
  | 0, _ => true
  | f + 1, pos => if pos < s.size then (if (Utf8.decode s pos).1 = 65533 ∧ (Utf8.decode s pos).2 = 1 then false else validU s f (pos + (Utf8.decode s pos).2)) else true
theorem validU_end (s : ByteArray) (f pos : Nat) (h : ¬ pos < s.size) : validU s f pos = true := by
  cases f
  · rfl
  · rw [validU, if_neg h]
set_option maxHeartbeats 2000000 in
set_option maxRecDepth 100000 in
theorem utf_Valid_calls (s : ByteArray) (w : World) (hT : Tabs w) :
    Calls Tryd.prog 14 #[.string s] w fun e w' => e = .returned (.bool (validU s s.size 0)) ∧ Below w.heap.size w w' := by
  have HT := Aside0.mk hT
  clear hT
  go_enter Tryd.func14, Tryd.ntmps14
  go_wp2
  go_step3
  go_wp2
  go_step3
  go_wp2
  go_loopw [] (fun wr => ∃ (pos f : Nat), Aside0 (wr.heap[w.heap.size]? = some (.stringIter s pos)) ∧ Aside0 (Below w.heap.size w wr) ∧ Aside0 (validU s f pos = validU s s.size 0) ∧ Aside0 (s.size ≤ pos + f))
    (fun wr => s.size - wr.iterPos w.heap.size)
  case atStart => exact ⟨0, s.size, ⟨World.iter_heap w s 0⟩, ⟨below_alloc (Below.refl _ _) _⟩, ⟨rfl⟩, ⟨by omega⟩⟩
  case round =>
    obtain ⟨pos, f, HI, HB, HM, HF⟩ := hrel
    by_cases hp : pos < s.size
    · have hnx := fun ty => run_next_any_at (P := Tryd.prog) wr w.heap.size s pos ty HI.out hp
      have HW := Aside0.mk (width_pos s pos)
      have HI1 := Aside0.mk (iterAt_heap wr w.heap.size s pos (pos + (Utf8.decode s pos).2) HI.out)
      have HB1 := Aside0.mk (below_iterAt HB.out (Nat.le_refl w.heap.size) s (pos + (Utf8.decode s pos).2))
      have hd := decodeGo_cut s pos hp
      have hC := Tryd.utf8_DecodeRuneInString (s.extract pos s.size) (wr.iterAt w.heap.size s (pos + (Utf8.decode s pos).2)) (tabs_below HT.out HB1.out)
      rw [hd] at hC
      have HC := Aside0.mk hC
      obtain ⟨f', rfl⟩ : ∃ f', f = f' + 1 := ⟨f - 1, by have := HF.out; omega⟩
      have hst := HM.out
      rw [validU, if_pos hp] at hst
      have HST := Aside0.mk hst
      have HPOS := Aside0.mk (iterPos_at HI.out)
      obtain ⟨q, hq⟩ : ∃ q, pos + (Utf8.decode s pos).2 = q := ⟨_, rfl⟩
      have HQ := Aside0.mk (show pos + 1 ≤ q by have := HW.out; omega)
      rw [hq] at hnx HI1 HB1 HC HST
      have HFQ := Aside0.mk (show s.size ≤ q + f' by have := HF.out; have := HQ.out; omega)
      clear hd hC hst hq HW HI HB HM HF
      generalize (Utf8.decode s pos).1 = r at *
      generalize (Utf8.decode s pos).2 = n at *
      by_cases hr : r = 65533
      · subst hr
        by_cases hn : n = 1
        · subst hn
          go_wp2_with (go_at_call 45; refine HC.out.mono ?_; rintro e w1 ⟨rfl, hb⟩; have HB2 := Aside0.mk (below_then HB1.out HB1.out.size hb); clear hb)
          rw [Exit.noGoto_ret]
          go_ret
          refine ⟨?_, HB2.out⟩
          have h := HST.out
          simp only [and_self, if_true] at h
          rw [← h]
          rfl
        · have n1 : ((n : Int) == 1) = false := beq_eq_false_iff_ne.2 (by omega)
          have n2 : decide ((n : Int) = 1) = false := decide_eq_false (by omega)
          have n3 : (n == 1) = false := beq_eq_false_iff_ne.2 hn
          go_wp2_with (go_at_call 45; refine HC.out.mono ?_; rintro e w1 ⟨rfl, hb⟩; have HB2 := Aside0.mk (below_then HB1.out HB1.out.size hb); have HI2 := Aside0.mk ((hb.block w.heap.size (blk_lt HI1.out)).trans HI1.out); clear hb)
          go_roundw
          case rel => exact ⟨q, f', HI2, HB2, ⟨by rw [← HST.out, if_neg (fun h => hn h.2)]⟩, HFQ⟩
          case measure =>
            have h1 := iterPos_at HI2.out
            have h2 := HPOS.out
            have h3 := HQ.out
            omega
      · have r1 : ((r : Int) != 65533) = true := bne_iff_ne.2 (by omega)
        have r2 : decide ((r : Int) = 65533) = false := decide_eq_false (by omega)
        have r3 : (r == 65533) = false := beq_eq_false_iff_ne.2 hr
        have r4 : (r != 65533) = true := bne_iff_ne.2 hr
        go_wp2
        go_roundw
        case rel => exact ⟨q, f', HI1, HB1, ⟨by rw [← HST.out, if_neg (fun h => hr h.1)]⟩, HFQ⟩
        case measure =>
          have h1 := iterPos_at HI1.out
          have h2 := HPOS.out
          have h3 := HQ.out
          omega
    · have hnx := fun ty => run_next_end_at (P := Tryd.prog) wr w.heap.size s pos ty HI.out hp
      go_wp2
      rw [Exit.noGoto_ret]
      go_ret
      exact ⟨by rw [← HM.out, validU_end s f pos hp]; rfl, HB.out⟩
end Go.Proofs.YtpamgedmgjfjjaaDoor.M
end
section
namespace Go.Proofs.YtpamgedmgjfjjaaDoor.M
open Go.RowKit Go.Proofs.YtpamgedmgjfjjaaDoorW.PrintWords Go.Proofs.YtpamgedmgjfjjaaDoorW.PrintLast Go.Proofs.YtpamgedmgjfjjaaDoorW.PrintMore
open Go.Lib
set_option linter.unusedVariables false
set_option linter.unusedSimpArgs false
theorem ex_euro : runeU ⟨#[226, 130, 172]⟩ 0 = (8364, 3) := by kernel_rfl
theorem rune_b (s : ByteArray) (i : Int) (r n : Int) (h : runeU s i = (r, n)) (w : World) (hT : Tabs w) : Calls Tryd.prog 22 #[.string s, .int .i64 i] w fun e w' => e = .returned (.tuple #[.int .i32 r, .int .i64 n]) ∧ Below w.heap.size w w' := by
  have h1 := utf_Rune_calls s i w hT
  rw [h] at h1
  exact h1
theorem c22 (w : World) (hT : Tabs w) : Calls Tryd.prog 22 #[.string ⟨#[226, 130, 172]⟩, .int .i64 0] w fun e w' => e = .returned (.tuple #[.int .i32 8364, .int .i64 3]) ∧ Below w.heap.size w w' := rune_b _ 0 8364 3 ex_euro w hT
end Go.Proofs.YtpamgedmgjfjjaaDoor.M
end
section
namespace Go.Proofs.YtpamgedmgjfjjaaDoor.M
open Go.RowKit Go.Proofs.YtpamgedmgjfjjaaDoorW.PrintWords
open Go.Lib
set_option linter.unusedVariables false
set_option linter.unusedSimpArgs false
def Bad (d : Nat × Nat) : Prop := d.1 = 65533 ∧ d.2 = 1
instance (d : Nat × Nat) : Decidable (Bad d) := inferInstanceAs (Decidable (_ ∧ _))
theorem good_shape (n b0 b1 b2 b3 : Nat) (h : ¬ Bad (decodeN n b0 b1 b2 b3)) (hn : 0 < n) :
    ((decodeN n b0 b1 b2 b3).2 = 1 ∧ b0 < 128) ∨ ((decodeN n b0 b1 b2 b3).2 = 2 ∧ 1 < n ∧ b0 / 32 = 6 ∧ b1 / 64 = 2) ∨ ((decodeN n b0 b1 b2 b3).2 = 3 ∧ 2 < n ∧ b0 / 16 = 14 ∧ b1 / 64 = 2 ∧ b2 / 64 = 2)
      ∨ ((decodeN n b0 b1 b2 b3).2 = 4 ∧ 3 < n ∧ b0 / 8 = 30 ∧ b1 / 64 = 2 ∧ b2 / 64 = 2 ∧ b3 / 64 = 2) := by
  unfold Bad decodeN at *
  repeat' split
  all_goals first | (simp_all; done) | (simp_all; omega)
end Go.Proofs.YtpamgedmgjfjjaaDoor.M
end
section
namespace Go.Proofs.YtpamgedmgjfjjaaDoor.M
open Go.RowKit Go.Proofs.YtpamgedmgjfjjaaDoorW.PrintWords
open Go.Lib
set_option linter.unusedVariables false
set_option linter.unusedSimpArgs false
theorem dec_N (l : List UInt8) : decodeL l = decodeN l.length (l.getD 0 0).toNat (l.getD 1 0).toNat (l.getD 2 0).toNat (l.getD 3 0).toNat := by
  unfold decodeL
  rw [decode_N]
  simp
theorem dec_pos (l : List UInt8) : 1 ≤ (decodeL l).2 := by
  unfold decodeL
  exact width_pos _ _
theorem dec_le (l : List UInt8) (h : l ≠ []) (hb : ¬ Bad (decodeL l)) : (decodeL l).2 ≤ l.length := by
  have hl : 0 < l.length := List.length_pos_iff.2 h
  rw [dec_N] at hb ⊢
  rcases good_shape _ _ _ _ _ hb hl with ⟨hw, h1⟩ | ⟨hw, h1⟩ | ⟨hw, h1⟩ | ⟨hw, h1⟩ <;> (rw [hw]; omega)
inductive Good : List UInt8 → Prop
  | nil : Good []
  | rune (l : List UInt8) : l ≠ [] → ¬ Bad (decodeL l) → Good (l.drop (decodeL l).2) → Good l
def vL : Nat → List UInt8 → Bool
  | 0, _ => true
  | f + 1, l => if l = [] then true else if Bad (decodeL l) then false else vL f (l.drop (decodeL l).2)
theorem vL_good : ∀ (f : Nat) (l : List UInt8), l.length ≤ f → (vL f l = true ↔ Good l)
  | 0, l, h => by
    obtain rfl : l = [] := List.length_eq_zero_iff.1 (by omega)
    exact ⟨fun _ => .nil, fun _ => rfl⟩
  | f + 1, l, h => by
    rw [vL]
    by_cases h0 : l = []
    · subst h0
      exact ⟨fun _ => .nil, fun _ => rfl⟩
    · rw [if_neg h0]
      by_cases hb : Bad (decodeL l)
      · rw [if_pos hb]
        refine ⟨fun h => (by cases h), fun h => ?_⟩
        cases h with
        | nil => exact absurd rfl h0
        | rune _ _ hg _ => exact absurd hb hg
      · rw [if_neg hb]
        have hp := dec_pos l
        have hl : 0 < l.length := List.length_pos_iff.2 h0
        have ih := vL_good f (l.drop (decodeL l).2) (by rw [List.length_drop]; omega)
        refine ih.trans ⟨fun h => .rune l h0 hb h, fun h => ?_⟩
        cases h with
        | nil => exact absurd rfl h0
        | rune _ _ _ h => exact h
theorem validU_vL (s : ByteArray) : ∀ (f pos : Nat), pos ≤ s.size → validU s f pos = vL f (s.data.toList.drop pos)
  | 0, _, _ => rfl
  | f + 1, pos, hp => by
    have hl : s.data.toList.length = s.size := by rw [Array.length_toList]; rfl
    rw [validU, vL, decodeL_drop]
    by_cases h : pos < s.size
    · have hne : ¬ (s.data.toList.drop pos = []) := by
        intro h0
        have := congrArg List.length h0
        rw [List.length_drop, hl, List.length_nil] at this
        omega
      rw [if_pos h, if_neg hne]
      by_cases hb : Bad (Utf8.decode s pos)
      · rw [if_pos hb, if_pos (show _ ∧ _ from hb)]
      · rw [if_neg hb, if_neg (show ¬ (_ ∧ _) from hb)]
        have h1 : (Utf8.decode s pos).2 ≤ (s.data.toList.drop pos).length := by
          have := dec_le (s.data.toList.drop pos) hne (by rw [decodeL_drop]; exact hb)
          rwa [decodeL_drop] at this
        rw [List.length_drop, hl] at h1
        rw [validU_vL s f _ (by omega), List.drop_drop]
    · rw [if_neg h, if_pos (List.drop_eq_nil_of_le (by omega))]
theorem validU_good (s : ByteArray) : validU s s.size 0 = true ↔ Good s.data.toList := by
  have hl : s.data.toList.length = s.size := by rw [Array.length_toList]; rfl
  rw [validU_vL s s.size 0 (Nat.zero_le _), List.drop_zero]
  exact vL_good _ _ (by omega)
end Go.Proofs.YtpamgedmgjfjjaaDoor.M
end
section
namespace Go.Proofs.YtpamgedmgjfjjaaDoor.M
open Go.RowKit Go.Proofs.YtpamgedmgjfjjaaDoorW.PrintWords
open Go.Lib
set_option linter.unusedVariables false
set_option linter.unusedSimpArgs false
theorem bad_two {d : Nat × Nat} (h : Bad d) : d.2 = 1 := h.2
theorem dec_le' (l : List UInt8) (h : l ≠ []) : (decodeL l).2 ≤ l.length := by
  by_cases hb : Bad (decodeL l)
  · rw [bad_two hb]
    exact List.length_pos_iff.2 h
  · exact dec_le l h hb
def headR (l : List UInt8) : Int := if Bad (decodeL l) then -1 else ((decodeL l).1 : Int)
def rL : Nat → List UInt8 → List Int
  | 0, _ => []
  | f + 1, l => if l = [] then [] else headR l :: rL f (l.drop (decodeL l).2)
theorem rL_nil (f : Nat) : rL f [] = [] := by
  cases f <;> rfl
theorem rL_fuel : ∀ (f g : Nat) (l : List UInt8), l.length ≤ f → l.length ≤ g → rL f l = rL g l
  | 0, g, l, hf, hg => by
    obtain rfl : l = [] := List.length_eq_zero_iff.1 (by omega)
    rw [rL_nil, rL_nil]
  | f + 1, 0, l, hf, hg => by
    obtain rfl : l = [] := List.length_eq_zero_iff.1 (by omega)
    rw [rL_nil, rL_nil]
  | f + 1, g + 1, l, hf, hg => by
    rw [rL, rL]
    by_cases h : l = []
    · rw [if_pos h, if_pos h]
    · have hp := dec_pos l
      have hl := List.length_pos_iff.2 h
      rw [if_neg h, if_neg h, rL_fuel f g _ (by rw [List.length_drop]; omega) (by rw [List.length_drop]; omega)]
def rAll (l : List UInt8) : List Int := rL l.length l
theorem rAll_step (l : List UInt8) (h : l ≠ []) : rAll l = headR l :: rAll (l.drop (decodeL l).2) := by
  have hp := dec_pos l
  have hl := List.length_pos_iff.2 h
  unfold rAll
  obtain ⟨n, hn⟩ : ∃ n, l.length = n + 1 := ⟨l.length - 1, by omega⟩
  rw [hn, rL, if_neg h, rL_fuel n _ _ (by rw [List.length_drop]; omega) (Nat.le_refl _)]
theorem runesU_rL (s : ByteArray) : ∀ (f pos : Nat), pos ≤ s.size → runesU s f pos = rL f (s.data.toList.drop pos)
  | 0, _, _ => rfl
  | f + 1, pos, hp => by
    have hl : s.data.toList.length = s.size := by rw [Array.length_toList]; rfl
    rw [runesU, rL]
    by_cases h : pos < s.size
    · have hne : ¬ (s.data.toList.drop pos = []) := by
        intro h0
        have := congrArg List.length h0
        rw [List.length_drop, hl, List.length_nil] at this
        omega
      have hle := dec_le' _ hne
      rw [decodeL_drop, List.length_drop, hl] at hle
      have e : (runeU s (pos : Int)).1 = headR (s.data.toList.drop pos) := by
        unfold runeU headR
        rw [if_neg (by omega), decodeL_drop, Int.toNat_natCast]
        by_cases hb : Bad (Utf8.decode s pos)
        · rw [if_pos hb, if_pos (show _ ∧ _ from hb)]
        · rw [if_neg hb, if_neg (show ¬ (_ ∧ _) from hb)]
      rw [if_pos h, if_neg hne, runesU_rL s f _ (by omega), e, decodeL_drop, List.drop_drop]
    · rw [if_neg h, if_pos (List.drop_eq_nil_of_le (by omega))]
theorem runesU_all (s : ByteArray) : runesU s s.size 0 = rAll s.data.toList := by
  have hl : s.data.toList.length = s.size := by rw [Array.length_toList]; rfl
  rw [runesU_rL s s.size 0 (Nat.zero_le _), List.drop_zero, rAll, hl]
end Go.Proofs.YtpamgedmgjfjjaaDoor.M
end
section
namespace Go.Proofs.YtpamgedmgjfjjaaDoor.M
open Go.RowKit Go.Proofs.YtpamgedmgjfjjaaDoorW.PrintWords
open Go.Lib
set_option linter.unusedVariables false
set_option linter.unusedSimpArgs false
def Point (r : Nat) : Prop := r < 55296 ∨ (57343 < r ∧ r ≤ 1114111)
theorem decN1 (n b0 b1 b2 b3 : Nat) (h : b0 < 128) : decodeN n b0 b1 b2 b3 = (b0, 1) := by unfold decodeN; rw [if_pos h]
theorem decN2 (n b0 b1 b2 b3 r : Nat) (hn : 1 < n) (h0 : b0 / 32 = 6) (h1 : b1 / 64 = 2) (hr : b0 % 32 * 64 + b1 % 64 = r) (h : 128 ≤ r) : decodeN n b0 b1 b2 b3 = (r, 2) := by
  unfold decodeN
  rw [if_neg (by omega), if_pos ⟨h0, hn, h1⟩, hr, if_pos h]
theorem decN3 (n b0 b1 b2 b3 r : Nat) (hn : 2 < n) (h0 : b0 / 16 = 14) (h1 : b1 / 64 = 2) (h2 : b2 / 64 = 2) (hr : b0 % 16 * 4096 + b1 % 64 * 64 + b2 % 64 = r) (h : 2048 ≤ r) (hp : Point r) : decodeN n b0 b1 b2 b3 = (r, 3) := by
  unfold Point at hp
  unfold decodeN
  rw [if_neg (by omega), if_neg (by omega), if_pos ⟨h0, ⟨by omega, h1⟩, hn, h2⟩, hr, if_pos ⟨h, by omega⟩]
theorem decN4 (n b0 b1 b2 b3 r : Nat) (hn : 3 < n) (h0 : b0 / 8 = 30) (h1 : b1 / 64 = 2) (h2 : b2 / 64 = 2) (h3 : b3 / 64 = 2) (hr : b0 % 8 * 262144 + b1 % 64 * 4096 + b2 % 64 * 64 + b3 % 64 = r) (h : 65536 ≤ r) (hp : Point r) : decodeN n b0 b1 b2 b3 = (r, 4) := by
  unfold Point at hp
  unfold decodeN
  rw [if_neg (by omega), if_neg (by omega), if_neg (by omega), if_pos ⟨h0, ⟨by omega, h1⟩, ⟨by omega, h2⟩, hn, h3⟩, hr, if_pos ⟨h, by omega⟩]
theorem runeU_out (s : ByteArray) (i : Int) (h : i < 0 ∨ (s.size : Int) ≤ i) : runeU s i = (-1, 0) := by
  unfold runeU
  rw [if_pos h]
end Go.Proofs.YtpamgedmgjfjjaaDoor.M
end
