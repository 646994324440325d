/-
Lemmas for JstrRunes, for every input they speak of: XUtf, XCard, XRunes, XValid, XDec, XText, XCount, XEnc, XBuild.
-/
import Derived.Test.YtpamgedmgjfjjaaDoorKJstrRunes01
import Derived.Test.YtpamgedmgjfjjaaDoorKJstrRunes02
import Derived.Laws.Runes
import Derived.Lib.TrimUEq
import Derived.Lib.RuneCount
import Derived.Lib.RuneCountTail
import Derived.Test.YtpamgedmgjfjjaaDoorRows
import Derived.PinnedBridge
import Derived.Lib.LaidU8
import Derived.Lay
import Derived.MakeChecks
import Derived.Lib.OthersKept
import Derived.WalkMore
import Derived.Lib.Builder
import Derived.Lib.AppendStr
import Derived.Lib.UnsafeStr
import Derived.Lib.MakeNoZero
import Derived.Laws.Externs
import Derived.Laws.IdiomCopy
section
namespace Go.Proofs.YtpamgedmgjfjjaaDoor.M
open Go.RowKit Go.Proofs.YtpamgedmgjfjjaaDoorW.PrintWords Go.Proofs.YtpamgedmgjfjjaaDoorW.PrintLast Go.Proofs.YtpamgedmgjfjjaaDoorW.PrintMore
set_option linter.unusedVariables false
set_option linter.unusedSimpArgs false
def Tabs (w : World) : Prop := Lib.Utf8Tabs 0 1 w
theorem tabs_below {w w1 : World} (h : Tabs w) (hb : Below w.heap.size w w1) : Tabs w1 := Utf8Tabs_below h hb
theorem decodeGo_cut (s : ByteArray) (pos : Nat) (h : pos < s.size) : Lib.decodeGo (s.extract pos s.size) = Utf8.decode s pos := by
  unfold Lib.decodeGo
  rw [if_neg (by rw [Lib.tail_size]; omega), Lib.tail_decode, Nat.add_zero]
def runeU (s : ByteArray) (i : Int) : Int × Int :=
  if i < 0 ∨ (s.size : Int) ≤ i then (-1, 0)
  else if (Utf8.decode s i.toNat).1 = 65533 ∧ (Utf8.decode s i.toNat).2 = 1 then (-1, 1)
  else (((Utf8.decode s i.toNat).1 : Int), ((Utf8.decode s i.toNat).2 : Int))
set_option maxHeartbeats 1000000 in
set_option maxRecDepth 100000 in
theorem utf_Rune_calls (s : ByteArray) (i : Int) (w : World) (hT : Tabs w) :
    Calls Tryd.prog 22 #[.string s, .int .i64 i] w fun e w' => e = .returned (.tuple #[.int .i32 (runeU s i).1, .int .i64 (runeU s i).2]) ∧ Below w.heap.size w w' := by
  have HT := Aside0.mk hT
  clear hT
  by_cases h0 : i < 0
  · have e : runeU s i = (-1, 0) := by unfold runeU; rw [if_pos (.inl h0)]
    rw [e]
    go_enter Tryd.func22, Tryd.ntmps22
    go_wp2
    go_ret2
    exact ⟨rfl, Below.refl _ _⟩
  · by_cases h1 : (s.size : Int) ≤ i
    · have e : runeU s i = (-1, 0) := by unfold runeU; rw [if_pos (.inr h1)]
      rw [e]
      go_enter Tryd.func22, Tryd.ntmps22
      go_wp2
      go_ret2
      exact ⟨rfl, Below.refl _ _⟩
    · have hd : Lib.decodeGo (s.extract i.toNat s.size) = Utf8.decode s i.toNat := decodeGo_cut s i.toNat (by omega)
      have hC := Tryd.utf8_DecodeRuneInString (s.extract i.toNat s.size) w HT.out
      rw [hd] at hC
      have HC := Aside0.mk hC
      have e : runeU s i = if (Utf8.decode s i.toNat).1 = 65533 ∧ (Utf8.decode s i.toNat).2 = 1 then (-1, 1) else (((Utf8.decode s i.toNat).1 : Int), ((Utf8.decode s i.toNat).2 : Int)) := by
        unfold runeU
        rw [if_neg (by omega)]
      rw [e]
      clear e hC hd
      generalize (Utf8.decode s i.toNat).1 = r at *
      generalize (Utf8.decode s i.toNat).2 = n at *
      by_cases hr : r = 65533
      · subst hr
        by_cases hn : n = 1
        · subst hn
          rw [if_pos ⟨rfl, rfl⟩]
          go_enter Tryd.func22, Tryd.ntmps22
          go_wp2_with (go_at_call 45; refine HC.out.mono ?_; rintro e w1 ⟨rfl, hb⟩; have HB := Aside0.mk hb; clear hb)
          go_ret2
          exact ⟨rfl, HB.out⟩
        · rw [if_neg (fun h => hn h.2)]
          have n1 : ((n : Int) == 1) = false := beq_eq_false_iff_ne.2 (by omega)
          have n2 : decide ((n : Int) = 1) = false := decide_eq_false (by omega)
          have n3 : (n == 1) = false := beq_eq_false_iff_ne.2 hn
          go_enter Tryd.func22, Tryd.ntmps22
          go_wp2_with (go_at_call 45; refine HC.out.mono ?_; rintro e w1 ⟨rfl, hb⟩; have HB := Aside0.mk hb; clear hb)
          go_ret2
          exact ⟨rfl, HB.out⟩
      · rw [if_neg (fun h => hr h.1)]
        have r1 : ((r : Int) == 65533) = false := beq_eq_false_iff_ne.2 (by omega)
        have r2 : decide ((r : Int) = 65533) = false := decide_eq_false (by omega)
        have r3 : (r == 65533) = false := beq_eq_false_iff_ne.2 hr
        go_enter Tryd.func22, Tryd.ntmps22
        go_wp2_with (go_at_call 45; refine HC.out.mono ?_; rintro e w1 ⟨rfl, hb⟩; have HB := Aside0.mk hb; clear hb)
        go_ret2
        exact ⟨rfl, HB.out⟩
def putU (r : Int) : ByteArray := if Lib.validRune r = true then Utf8.encode r else ⟨#[]⟩
theorem utf_Put_calls (r : Int) (w : World) : Calls Tryd.prog 21 #[.int .i32 r] w fun e w' => e = .returned (.string (putU r)) ∧ w' = w := by
  have HC := Aside0.mk (Tryd.utf8_ValidRune r w)
  unfold putU
  cases h : Lib.validRune r
  · rw [h] at HC
    rw [if_neg (by simp)]
    go_enter Tryd.func21, Tryd.ntmps21
    go_wp2_with (go_at_call 48; refine HC.out.mono ?_; rintro e w1 ⟨rfl, rfl⟩)
    go_ret
    exact ⟨rfl, rfl⟩
  · rw [h] at HC
    rw [if_pos rfl]
    go_enter Tryd.func21, Tryd.ntmps21
    go_wp2_with (go_at_call 48; refine HC.out.mono ?_; rintro e w1 ⟨rfl, rfl⟩)
    go_ret
    exact ⟨rfl, rfl⟩
end Go.Proofs.YtpamgedmgjfjjaaDoor.M
end
section
namespace Go.Proofs.YtpamgedmgjfjjaaDoor.M
open Go.RowKit Go.Lib Go.Shelf
theorem xU8 : U8Extra Tryd.prog Tryd.lays260_ren := ⟨by kernel_rfl, by kernel_rfl, by kernel_rfl, by kernel_rfl, by kernel_rfl, by kernel_rfl, by kernel_rfl⟩
abbrev laidL : List (String × DataW Unit) := [("unicode/utf8.acceptRanges", Rows.laid_unicode_utf8_acceptRanges), ("unicode/utf8.first", Rows.laid_unicode_utf8_first)]
theorem acceptData_eq : (Rows.laid_unicode_utf8_acceptRanges : DataW Unit) = acceptData := by kernel_rfl
theorem firstData_eq : Rows.laid_unicode_utf8_first = firstData := (show Rows.laid_unicode_utf8_first = Pinned.utf8First from rfl).trans Pinned.utf8First_eq
theorem tabs_of_laid {W : World} (hL : laidMetH Tryd.prog laidL W) : Tabs W := by
  rw [MakeChecks.laidMetH_plain _ _ _ (by kernel_rfl)] at hL
  exact utf8Tabs_of_reads Tryd.lays260 xU8 (firstData_eq ▸ Lib.laidMet.reads hL (.tail _ (.head _))) (acceptData_eq ▸ Lib.laidMet.reads hL (.head _))
theorem laid_witness (os : Os) (args : Array Value) : laidMetH Tryd.prog laidL ((World.laidAll Tryd.prog os laidL).forCall (fun _ _ => 0) ⟨#[], args, []⟩).memory := by
  rw [MakeChecks.laidMetH_plain _ _ _ (by kernel_rfl)]
  exact laidMet_laidAll _ (by kernel_rfl) (by kernel_rfl)
end Go.Proofs.YtpamgedmgjfjjaaDoor.M
end
section
namespace Go.Proofs.YtpamgedmgjfjjaaDoor.M
open Go.RowKit Go.Proofs.YtpamgedmgjfjjaaDoorW.PrintWords Go.Proofs.YtpamgedmgjfjjaaDoorW.PrintLast Go.Proofs.YtpamgedmgjfjjaaDoorW.PrintMore
open Go.Lib
set_option linter.unusedVariables false
set_option linter.unusedSimpArgs false
theorem iterPos_at {w : World} {k : Nat} {s : ByteArray} {p : Nat} (h : w.heap[k]? = some (.stringIter s p)) : w.iterPos k = p := by simp [World.iterPos, h]
end Go.Proofs.YtpamgedmgjfjjaaDoor.M
end
section
namespace Go.Proofs.YtpamgedmgjfjjaaDoor.M
open Go.RowKit Go.Proofs.YtpamgedmgjfjjaaDoorW.PrintWords Go.Proofs.YtpamgedmgjfjjaaDoorW.PrintLast Go.Proofs.YtpamgedmgjfjjaaDoorW.PrintMore
open Go.Lib
set_option linter.unusedVariables false
set_option linter.unusedSimpArgs false
def validU (s : ByteArray) : Nat → Nat → Bool
  | 0, _ => true
  | f + 1, pos => if pos < s.size then (if (Utf8.decode s pos).1 = 65533 ∧ (Utf8.decode s pos).2 = 1 then false else validU s f (pos + (Utf8.decode s pos).2)) else true
theorem validU_end (s : ByteArray) (f pos : Nat) (h : ¬ pos < s.size) : validU s f pos = true := by
  cases f
  · rfl
  · rw [validU, if_neg h]
set_option maxHeartbeats 2000000 in
set_option maxRecDepth 100000 in
theorem utf_Valid_calls (s : ByteArray) (w : World) (hT : Tabs w) :
    Calls Tryd.prog 14 #[.string s] w fun e w' => e = .returned (.bool (validU s s.size 0)) ∧ Below w.heap.size w w' := by
  have HT := Aside0.mk hT
  clear hT
  go_enter Tryd.func14, Tryd.ntmps14
  go_wp2
  go_step3
  go_wp2
  go_step3
  go_wp2
  go_loopw [] (fun wr => ∃ (pos f : Nat), Aside0 (wr.heap[w.heap.size]? = some (.stringIter s pos)) ∧ Aside0 (Below w.heap.size w wr) ∧ Aside0 (validU s f pos = validU s s.size 0) ∧ Aside0 (s.size ≤ pos + f))
    (fun wr => s.size - wr.iterPos w.heap.size)
  case atStart => exact ⟨0, s.size, ⟨World.iter_heap w s 0⟩, ⟨below_alloc (Below.refl _ _) _⟩, ⟨rfl⟩, ⟨by omega⟩⟩
  case round =>
    obtain ⟨pos, f, HI, HB, HM, HF⟩ := hrel
    by_cases hp : pos < s.size
    · have hnx := fun ty => run_next_any_at (P := Tryd.prog) wr w.heap.size s pos ty HI.out hp
      have HW := Aside0.mk (width_pos s pos)
      have HI1 := Aside0.mk (iterAt_heap wr w.heap.size s pos (pos + (Utf8.decode s pos).2) HI.out)
      have HB1 := Aside0.mk (below_iterAt HB.out (Nat.le_refl w.heap.size) s (pos + (Utf8.decode s pos).2))
      have hd := decodeGo_cut s pos hp
      have hC := Tryd.utf8_DecodeRuneInString (s.extract pos s.size) (wr.iterAt w.heap.size s (pos + (Utf8.decode s pos).2)) (tabs_below HT.out HB1.out)
      rw [hd] at hC
      have HC := Aside0.mk hC
      obtain ⟨f', rfl⟩ : ∃ f', f = f' + 1 := ⟨f - 1, by have := HF.out; omega⟩
      have hst := HM.out
      rw [validU, if_pos hp] at hst
      have HST := Aside0.mk hst
      have HPOS := Aside0.mk (iterPos_at HI.out)
      obtain ⟨q, hq⟩ : ∃ q, pos + (Utf8.decode s pos).2 = q := ⟨_, rfl⟩
      have HQ := Aside0.mk (show pos + 1 ≤ q by have := HW.out; omega)
      rw [hq] at hnx HI1 HB1 HC HST
      have HFQ := Aside0.mk (show s.size ≤ q + f' by have := HF.out; have := HQ.out; omega)
      clear hd hC hst hq HW HI HB HM HF
      generalize (Utf8.decode s pos).1 = r at *
      generalize (Utf8.decode s pos).2 = n at *
      by_cases hr : r = 65533
      · subst hr
        by_cases hn : n = 1
        · subst hn
          go_wp2_with (go_at_call 45; refine HC.out.mono ?_; rintro e w1 ⟨rfl, hb⟩; have HB2 := Aside0.mk (below_then HB1.out HB1.out.size hb); clear hb)
          rw [Exit.noGoto_ret]
          go_ret
          refine ⟨?_, HB2.out⟩
          have h := HST.out
          simp only [and_self, if_true] at h
          rw [← h]
          rfl
        · have n1 : ((n : Int) == 1) = false := beq_eq_false_iff_ne.2 (by omega)
          have n2 : decide ((n : Int) = 1) = false := decide_eq_false (by omega)
          have n3 : (n == 1) = false := beq_eq_false_iff_ne.2 hn
          go_wp2_with (go_at_call 45; refine HC.out.mono ?_; rintro e w1 ⟨rfl, hb⟩; have HB2 := Aside0.mk (below_then HB1.out HB1.out.size hb); have HI2 := Aside0.mk ((hb.block w.heap.size (blk_lt HI1.out)).trans HI1.out); clear hb)
          go_roundw
          case rel => exact ⟨q, f', HI2, HB2, ⟨by rw [← HST.out, if_neg (fun h => hn h.2)]⟩, HFQ⟩
          case measure =>
            have h1 := iterPos_at HI2.out
            have h2 := HPOS.out
            have h3 := HQ.out
            omega
      · have r1 : ((r : Int) != 65533) = true := bne_iff_ne.2 (by omega)
        have r2 : decide ((r : Int) = 65533) = false := decide_eq_false (by omega)
        have r3 : (r == 65533) = false := beq_eq_false_iff_ne.2 hr
        have r4 : (r != 65533) = true := bne_iff_ne.2 hr
        go_wp2
        go_roundw
        case rel => exact ⟨q, f', HI1, HB1, ⟨by rw [← HST.out, if_neg (fun h => hr h.1)]⟩, HFQ⟩
        case measure =>
          have h1 := iterPos_at HI1.out
          have h2 := HPOS.out
          have h3 := HQ.out
          omega
    · have hnx := fun ty => run_next_end_at (P := Tryd.prog) wr w.heap.size s pos ty HI.out hp
      go_wp2
      rw [Exit.noGoto_ret]
      go_ret
      exact ⟨by rw [← HM.out, validU_end s f pos hp]; rfl, HB.out⟩
end Go.Proofs.YtpamgedmgjfjjaaDoor.M
end
section
namespace Go.Proofs.YtpamgedmgjfjjaaDoor.M
open Go.RowKit Go.Proofs.YtpamgedmgjfjjaaDoorW.PrintWords
open Go.Lib
set_option linter.unusedVariables false
set_option linter.unusedSimpArgs false
def Bad (d : Nat × Nat) : Prop := d.1 = 65533 ∧ d.2 = 1
instance (d : Nat × Nat) : Decidable (Bad d) := inferInstanceAs (Decidable (_ ∧ _))
theorem good_shape (n b0 b1 b2 b3 : Nat) (h : ¬ Bad (decodeN n b0 b1 b2 b3)) (hn : 0 < n) :
    ((decodeN n b0 b1 b2 b3).2 = 1 ∧ b0 < 128) ∨ ((decodeN n b0 b1 b2 b3).2 = 2 ∧ 1 < n ∧ b0 / 32 = 6 ∧ b1 / 64 = 2) ∨ ((decodeN n b0 b1 b2 b3).2 = 3 ∧ 2 < n ∧ b0 / 16 = 14 ∧ b1 / 64 = 2 ∧ b2 / 64 = 2)
      ∨ ((decodeN n b0 b1 b2 b3).2 = 4 ∧ 3 < n ∧ b0 / 8 = 30 ∧ b1 / 64 = 2 ∧ b2 / 64 = 2 ∧ b3 / 64 = 2) := by
  unfold Bad decodeN at *
  repeat' split
  all_goals first | (simp_all; done) | (simp_all; omega)
end Go.Proofs.YtpamgedmgjfjjaaDoor.M
end
section
namespace Go.Proofs.YtpamgedmgjfjjaaDoor.M
open Go.RowKit Go.Proofs.YtpamgedmgjfjjaaDoorW.PrintWords
open Go.Lib
set_option linter.unusedVariables false
set_option linter.unusedSimpArgs false
theorem dec_N (l : List UInt8) : decodeL l = decodeN l.length (l.getD 0 0).toNat (l.getD 1 0).toNat (l.getD 2 0).toNat (l.getD 3 0).toNat := by
  unfold decodeL
  rw [decode_N]
  simp
theorem dec_pos (l : List UInt8) : 1 ≤ (decodeL l).2 := by
  unfold decodeL
  exact width_pos _ _
theorem dec_le (l : List UInt8) (h : l ≠ []) (hb : ¬ Bad (decodeL l)) : (decodeL l).2 ≤ l.length := by
  have hl : 0 < l.length := List.length_pos_iff.2 h
  rw [dec_N] at hb ⊢
  rcases good_shape _ _ _ _ _ hb hl with ⟨hw, h1⟩ | ⟨hw, h1⟩ | ⟨hw, h1⟩ | ⟨hw, h1⟩ <;> (rw [hw]; omega)
end Go.Proofs.YtpamgedmgjfjjaaDoor.M
end
section
namespace Go.Proofs.YtpamgedmgjfjjaaDoor.M
open Go.RowKit Go.Proofs.YtpamgedmgjfjjaaDoorW.PrintWords
open Go.Lib
set_option linter.unusedVariables false
set_option linter.unusedSimpArgs false
theorem bad_two {d : Nat × Nat} (h : Bad d) : d.2 = 1 := h.2
theorem dec_le' (l : List UInt8) (h : l ≠ []) : (decodeL l).2 ≤ l.length := by
  by_cases hb : Bad (decodeL l)
  · rw [bad_two hb]
    exact List.length_pos_iff.2 h
  · exact dec_le l h hb
end Go.Proofs.YtpamgedmgjfjjaaDoor.M
end
section
namespace Go.Proofs.YtpamgedmgjfjjaaDoor.M
open Go.RowKit Go.Proofs.YtpamgedmgjfjjaaDoorW.PrintWords
open Go.Lib
set_option linter.unusedVariables false
set_option linter.unusedSimpArgs false
def encL (r : Nat) : List UInt8 :=
  if r < 128 then [UInt8.ofNat r]
  else if r < 2048 then [UInt8.ofNat (192 + r / 64), UInt8.ofNat (128 + r % 64)]
  else if r < 65536 then [UInt8.ofNat (224 + r / 4096), UInt8.ofNat (128 + r / 64 % 64), UInt8.ofNat (128 + r % 64)]
  else [UInt8.ofNat (240 + r / 262144), UInt8.ofNat (128 + r / 4096 % 64), UInt8.ofNat (128 + r / 64 % 64), UInt8.ofNat (128 + r % 64)]
def wid (r : Nat) : Nat := if r < 128 then 1 else if r < 2048 then 2 else if r < 65536 then 3 else 4
theorem encL_len (r : Nat) : (encL r).length = wid r := by
  unfold encL wid
  split
  · rfl
  · split
    · rfl
    · split <;> rfl
def Point (r : Nat) : Prop := r < 55296 ∨ (57343 < r ∧ r ≤ 1114111)
theorem valid_point (r : Int) : Lib.validRune r = true ↔ 0 ≤ r ∧ Point r.toNat := by
  unfold Lib.validRune Point
  rw [decide_eq_true_iff]
  omega
theorem encode_L (r : Int) (h : Lib.validRune r = true) : (Utf8.encode r).data.toList = encL r.toNat := by
  have hv : Utf8.valid r = true := by rw [validRune_eq]; exact h
  unfold Utf8.encode encL
  simp only [hv, if_true]
  split
  · rfl
  · split
    · rfl
    · split <;> rfl
theorem putU_L (r : Int) (h : Lib.validRune r = true) : (putU r).data.toList = encL r.toNat := by
  unfold putU
  rw [if_pos h]
  exact encode_L r h
theorem wid_le (r : Nat) : wid r ≤ 4 := by unfold wid; repeat' split
                                           all_goals omega
end Go.Proofs.YtpamgedmgjfjjaaDoor.M
end
section
namespace Go.Proofs.YtpamgedmgjfjjaaDoor.M
open Go.RowKit Go.Proofs.YtpamgedmgjfjjaaDoorW.PrintWords Go.Proofs.YtpamgedmgjfjjaaDoorW.PrintLast Go.Proofs.YtpamgedmgjfjjaaDoorW.PrintMore
open Go.Lib (byteCells byteCells_length strCells strCells_length cell_of_heap frozen_of_heap ownBlock_ne alloc_old)
set_option linter.unusedVariables false
set_option linter.unusedSimpArgs false
structure BAt (o : Nat) (T : TypeId) (B b : Nat) (cs : Array Value) (l : List UInt8) (w : World) : Prop where
  hB : B ≤ b
  blk : w.heap[b]? = some (.cells cs T (0, 0))
  ptr : cs[o]? = some (.pointer none) ∨ cs[o]? = some (.pointer (some ⟨b, o, none⟩))
  buf : ∃ v, cs[o + 1]? = some v ∧ w.ownsRow B 5 1 v l.length (byteCells l)
structure BFit (o : Nat) (T : TypeId) (n : Nat) : Prop where
  ne : T ≠ 5
  lies : liesAt Tryd.prog Tryd.prog.depth T (n / Tryd.prog.cellsOf T) o 75 1 = true
theorem fit75 : BFit 0 75 2 := ⟨by decide, by kernel_rfl⟩
theorem fit97 : BFit 2 97 4 := ⟨by decide, by kernel_rfl⟩
theorem size75 : (Tryd.prog.info? 75).map (·.size) = some 2 := by kernel_rfl
theorem cells5x : Tryd.prog.cellsOf 5 = 1 := by kernel_rfl
set_option maxHeartbeats 1000000 in
set_option maxRecDepth 100000 in
theorem copy_used (o b : Nat) (w : World) (h0 : w.cell? ⟨b, o, none⟩ = some (.pointer (some ⟨b, o, none⟩))) :
    Calls Tryd.prog 71 #[.pointer (some ⟨b, o, none⟩)] w fun e w' => e = .returned (.tuple #[]) ∧ w' = w := by
  obtain ⟨j, hj, _⟩ := Option.map_eq_some_iff.1 size75
  go_enter Tryd.func71, Tryd.ntmps71
  go_wp2
  rw [Lib.run_neq_ptr_same w _ Tryd.underlying73 hj]
  go_wp2
  go_end0
  exact ⟨rfl, rfl⟩
set_option maxHeartbeats 1000000 in
set_option maxRecDepth 100000 in
theorem copy_fresh (o b : Nat) (T : TypeId) (n : Nat) (w : World) (h0 : w.cell? ⟨b, o, none⟩ = some (.pointer none)) (hsh : w.shape? b = some (T, n)) (hn : o < n) (hfz : w.frozen? ⟨b, o, none⟩ = false) (hF : BFit o T n) :
    Calls Tryd.prog 71 #[.pointer (some ⟨b, o, none⟩)] w fun e w' => e = .returned (.tuple #[]) ∧ w' = w.setCell ⟨b, o, none⟩ (.pointer (some ⟨b, o, none⟩)) := by
  obtain ⟨j, hj, hjs⟩ := Option.map_eq_some_iff.1 size75
  have hL := Aside0.mk hF.lies
  have hN := Aside0.mk hn
  clear hn
  go_enter Tryd.func71, Tryd.ntmps71
  go_wp2
  rw [Lib.run_to_unsafe w ⟨b, o, none⟩ Tryd.underlying73 Tryd.underlying110 hj (by rw [hjs]; decide) hsh hN.out]
  simp only [Result.andThen]
  rw [Oper.upon_value]
  go_wp2
  rw [run_callFunc_extern Tryd.func77 (by kernel_rfl) (by kernel_rfl) (by kernel_rfl) (e := Extern.AbiNoEscape.same) (by kernel_rfl)]
  rw [Lib.run_noEscape]
  simp only [Result.andThen]
  rw [Oper.upon_value]
  go_wp2
  rw [Lib.run_from_unsafe w ⟨b, o, none⟩ Tryd.underlying110 Tryd.underlying73 hj hsh hL.out]
  simp only [Result.andThen]
  rw [Oper.upon_value]
  go_wp2
  go_end0
  exact ⟨rfl, rfl⟩
theorem BAt.lt {o : Nat} {T : TypeId} {B b : Nat} {cs : Array Value} {l : List UInt8} {w : World} (h : BAt o T B b cs l w) : b < w.heap.size := blk_lt h.blk
theorem BAt.set {o : Nat} {T : TypeId} {B b : Nat} {cs : Array Value} {l : List UInt8} {w : World} (h : BAt o T B b cs l w) (hT : T ≠ 5) : BAt o T B b (cs.setIfInBounds o (.pointer (some ⟨b, o, none⟩))) l (w.setCell ⟨b, o, none⟩ (.pointer (some ⟨b, o, none⟩))) := by
  obtain ⟨hB, hb, hp, v, hv, hown⟩ := h
  have hne := ownBlock_ne hown hb hT
  have ho : o < cs.size := by
    rcases hp with h | h <;> exact (Array.getElem?_eq_some_iff.1 h).1
  refine ⟨hB, ?_, .inr ?_, v, ?_, ?_⟩
  · simp [World.setCell, Array.getElem?_modify, hb]
  · simp [ho]
  · rw [Array.getElem?_setIfInBounds_ne (by omega)]
    exact hv
  · exact hown.kept (row := some b) ⟨rfl, rfl, rfl, by simp [World.setCell], fun k _ hk => Below.heap_setCell _ _ _ _ (fun e => hk (by simp [e]))⟩ (Or.inr hne)
theorem copy_any (o T B b n : Nat) (cs : Array Value) (l : List UInt8) (w : World) (h : BAt o T B b cs l w) (hn : cs.size = n) (hF : BFit o T n) :
    Calls Tryd.prog 71 #[.pointer (some ⟨b, o, none⟩)] w fun e w' => e = .returned (.tuple #[]) ∧ BAt o T B b (cs.setIfInBounds o (.pointer (some ⟨b, o, none⟩))) l w' ∧ Below B w w' := by
  subst hn
  rcases h.ptr with hp | hp
  · have ho : o < cs.size := (Array.getElem?_eq_some_iff.1 hp).1
    refine (copy_fresh o b T cs.size w (by rw [cell_of_heap h.blk]; exact hp) (by simp [World.shape?, h.blk]) ho (frozen_of_heap h.blk o) hF).mono ?_
    rintro e w' ⟨rfl, rfl⟩
    exact ⟨rfl, h.set hF.ne, (Below.refl B w).setCell (p := ⟨b, o, none⟩) h.hB _⟩
  · have ho : o < cs.size := (Array.getElem?_eq_some_iff.1 hp).1
    have e : cs.setIfInBounds o (.pointer (some ⟨b, o, none⟩)) = cs := by
      apply Array.ext_getElem?
      intro i
      by_cases hi : i = o
      · subst hi; simp [ho, hp]
        exact (Array.getElem?_eq_some_iff.1 hp).2.symm
      · rw [Array.getElem?_setIfInBounds_ne (by omega)]
    refine (copy_used o b w (by rw [cell_of_heap h.blk]; exact hp)).mono ?_
    rintro e w' ⟨rfl, rfl⟩
    rw [e]
    exact ⟨rfl, h, Below.refl B _⟩
theorem BAt.put {o : Nat} {T : TypeId} {B b : Nat} {cs : Array Value} {l' : List UInt8} {v' : Value} {w : World} (hB : B ≤ b) (hb : w.heap[b]? = some (.cells cs T (0, 0)))
    (hp : cs[o]? = some (.pointer (some ⟨b, o, none⟩))) (ho : o + 1 < cs.size) (hown : w.ownsRow B 5 1 v' l'.length (byteCells l')) (hT : T ≠ 5) :
    BAt o T B b (cs.setIfInBounds (o + 1) v') l' (w.setCell ⟨b, o + 1, none⟩ v') := by
  have hne := ownBlock_ne hown hb hT
  refine ⟨hB, ?_, .inr ?_, v', ?_, ?_⟩
  · simp [World.setCell, Array.getElem?_modify, hb]
  · rw [Array.getElem?_setIfInBounds_ne (by omega)]
    exact hp
  · simp [ho]
  · exact hown.kept (row := some b) ⟨rfl, rfl, rfl, by simp [World.setCell], fun k _ hk => Below.heap_setCell _ _ _ _ (fun e => hk (by simp [e]))⟩ (Or.inr hne)
theorem strCells_bytes (s : ByteArray) : strCells s = byteCells s.data.toList := rfl
theorem byteCells_append (a b : List UInt8) : byteCells a ++ byteCells b = byteCells (a ++ b) := by simp [byteCells]
set_option maxHeartbeats 2000000 in
set_option maxRecDepth 100000 in
theorem writeString_any (o T B b n : Nat) (cs : Array Value) (l : List UInt8) (s : ByteArray) (w : World) (h : BAt o T B b cs l w) (hn : cs.size = n) (ho : o + 1 < n) (hF : BFit o T n) (hlen : l.length + s.size ≤ 140737488355328) (hBw : B ≤ w.heap.size) :
    Calls Tryd.prog 50 #[.pointer (some ⟨b, o, none⟩), .string s] w fun e w' => e = .returned (.tuple #[.int .i64 s.size, .nilIface]) ∧
      ∃ v', BAt o T B b ((cs.setIfInBounds o (.pointer (some ⟨b, o, none⟩))).setIfInBounds (o + 1) v') (l ++ s.data.toList) w' ∧ Below B w w' := by
  obtain ⟨i0, hi, hz0, hz1, hz2⟩ := info_parts info5
  have HC := Aside0.mk (copy_any o T B b n cs l w h hn hF)
  have ho' : o < cs.size := by omega
  have HP0 := Aside0.mk (show (cs.setIfInBounds o (.pointer (some ⟨b, o, none⟩)))[o]? = some (.pointer (some ⟨b, o, none⟩)) by simp [ho'])
  have HP1 := Aside0.mk (show o + 1 < (cs.setIfInBounds o (.pointer (some ⟨b, o, none⟩))).size by simp; omega)
  clear ho'
  generalize cs.setIfInBounds o (.pointer (some ⟨b, o, none⟩)) = ds at *
  have HL := Aside0.mk hlen
  have HBw := Aside0.mk hBw
  clear hn ho h hlen hBw
  go_enter Tryd.func50, Tryd.ntmps50
  go_wp2_with (go_at_call 71; refine HC.out.mono ?_)
  rintro e w1 ⟨rfl, h1, hb1⟩
  obtain ⟨hB, hbk, hp, v, hv, hown⟩ := h1
  have hne := ownBlock_ne hown hbk hF.ne
  have hpo := HP0.out
  have hcs := HP1.out
  have HHB := Aside0.mk hB
  have HBK := Aside0.mk hbk
  have HB1 := Aside0.mk hb1
  have HNE := Aside0.mk hne
  have HPO := Aside0.mk hpo
  have HCS := Aside0.mk hcs
  have c1 : w1.cell? ⟨b, o + 1, none⟩ = some v := by rw [cell_of_heap hbk]; exact hv
  clear hp hv hB hbk hb1 hne hpo hcs
  go_wp2_with (at_builtin; refine Lib.wpList_append_own_string _ rfl _ _ 33 9 rfl B 5 i0 Tryd.underlying33 Tryd.underlying9 hi hz0 hz1 hz2 _ _ _ rfl hown s rfl ?c3 ?c4 ?c5 ?_)
  case c3 => unfold maxLen; have := HL.out; omega
  case c4 => exact HL.out
  case c5 => have := HB1.out.size; have := HBw.out; omega
  intro v' w2 hown' hgrow _
  have hlt : b < w1.heap.size := blk_lt HBK.out
  have hb2 : w2.heap[b]? = some (.cells ds T (0, 0)) := by
    rw [hgrow.block b hlt (fun e => HNE.out e.symm)]
    exact HBK.out
  have d1 : w2.cell? ⟨b, o + 1, none⟩ = some v := by rw [cell_of_heap hb2, ← cell_of_heap HBK.out]; exact c1
  have f1 : w2.frozen? ⟨b, o + 1, none⟩ = false := frozen_of_heap hb2 (o + 1)
  have HB2 := Aside0.mk hb2
  have HOW := Aside0.mk hown'
  have HBB := Aside0.mk (HB1.out.grown hgrow (by have := HB1.out.size; have := HBw.out; omega) (fun k hk => (hown.lt k hk).1))
  obtain ⟨ao, n', cap, rfl⟩ : ∃ ao n' cap, v' = .slice ao n' cap := by
    rcases hown'.2 with ⟨hv, _⟩ | ⟨g, cap, cur, hv, _⟩
    · exact ⟨_, _, _, hv⟩
    · exact ⟨_, _, _, hv⟩
  clear hgrow hown hown' hb2 hlt
  go_wp2
  go_ret2
  refine ⟨rfl, _, BAt.put HHB.out HB2.out HPO.out HCS.out ?_ hF.ne, HBB.out.setCell (p := ⟨b, o + 1, none⟩) HHB.out _⟩
  have h := HOW.out
  rw [strCells_bytes, byteCells_append] at h
  rw [List.length_append, data_length]
  exact h
set_option maxHeartbeats 2000000 in
set_option maxRecDepth 100000 in
theorem writeByte_any (o T B b n : Nat) (cs : Array Value) (l : List UInt8) (c : UInt8) (w : World) (h : BAt o T B b cs l w) (hn : cs.size = n) (ho : o + 1 < n) (hF : BFit o T n) (hlen : l.length + 1 ≤ 140737488355328) (hBw : B ≤ w.heap.size) :
    Calls Tryd.prog 68 #[.pointer (some ⟨b, o, none⟩), .int .u8 c.toNat] w fun e w' => e = .returned .nilIface ∧
      ∃ v', BAt o T B b ((cs.setIfInBounds o (.pointer (some ⟨b, o, none⟩))).setIfInBounds (o + 1) v') (l ++ [c]) w' ∧ Below B w w' := by
  obtain ⟨i0, hi, hz0, hz1, hz2⟩ := info_parts info5
  have HC := Aside0.mk (copy_any o T B b n cs l w h hn hF)
  have ho' : o < cs.size := by omega
  have HP0 := Aside0.mk (show (cs.setIfInBounds o (.pointer (some ⟨b, o, none⟩)))[o]? = some (.pointer (some ⟨b, o, none⟩)) by simp [ho'])
  have HP1 := Aside0.mk (show o + 1 < (cs.setIfInBounds o (.pointer (some ⟨b, o, none⟩))).size by simp; omega)
  clear ho'
  generalize cs.setIfInBounds o (.pointer (some ⟨b, o, none⟩)) = ds at *
  have HCC := Aside0.mk (show byteCells l ++ [Value.int .u8 c.toNat] = byteCells (l ++ [c]) by simp [byteCells])
  generalize (c.toNat : Int) = x at *
  have HL := Aside0.mk hlen
  have HBw := Aside0.mk hBw
  clear hn ho h hlen hBw
  go_enter Tryd.func68, Tryd.ntmps68
  go_wp2_with (go_at_call 71; refine HC.out.mono ?_)
  rintro e w1 ⟨rfl, h1, hb1⟩
  obtain ⟨hB, hbk, hp, v, hv, hown⟩ := h1
  have hne := ownBlock_ne hown hbk hF.ne
  have HHB := Aside0.mk hB
  have HBK := Aside0.mk hbk
  have HB1 := Aside0.mk hb1
  have HNE := Aside0.mk hne
  have c1 : w1.cell? ⟨b, o + 1, none⟩ = some v := by rw [cell_of_heap hbk]; exact hv
  clear hp hv hB hbk hb1 hne
  go_wp2_with (at_builtin; refine wpList_append_own _ rfl _ _ 33 rfl B 5 i0 (.int .u8 0) 1 1 Tryd.underlying33 hi hz0 hz1 hz2 rfl (by decide) _ _ _ rfl (hown.alloc _) ⟨w1.heap.size, 0, none⟩ 1 1 [.int .u8 x] rfl rfl ?c1 ?c2 ?c3 ?c4 ?c5 ?_)
  case c1 =>
    intro j u hj
    match j, hj with
    | 0, hj => simp at hj; subst hj; simp [Addr.add]
  case c2 => intro u hu; simp at hu; subst hu; rfl
  case c3 => unfold maxLen; have := HL.out; omega
  case c4 => have := HL.out; omega
  case c5 => have := HB1.out.size; have := HBw.out; simp; omega
  intro v' w2 hown' hgrow _
  have hlt : b < w1.heap.size := blk_lt HBK.out
  have hb2 : w2.heap[b]? = some (.cells ds T (0, 0)) := by
    rw [hgrow.block b (by simp; omega) (fun e => HNE.out e.symm), alloc_old w1 _ b hlt]
    exact HBK.out
  have d1 : w2.cell? ⟨b, o + 1, none⟩ = some v := by rw [cell_of_heap hb2, ← cell_of_heap HBK.out]; exact c1
  have f1 : w2.frozen? ⟨b, o + 1, none⟩ = false := frozen_of_heap hb2 (o + 1)
  have HB2 := Aside0.mk hb2
  have HOW := Aside0.mk hown'
  have HBB := Aside0.mk ((HB1.out.alloc (by have := HB1.out.size; have := HBw.out; omega) _).grown hgrow (by have := HB1.out.size; have := HBw.out; simp; omega) (fun k hk => (hown.lt k hk).1))
  obtain ⟨ao, n', cap, rfl⟩ : ∃ ao n' cap, v' = .slice ao n' cap := by
    rcases hown'.2 with ⟨hv, _⟩ | ⟨g, cap, cur, hv, _⟩
    · exact ⟨_, _, _, hv⟩
    · exact ⟨_, _, _, hv⟩
  clear hgrow hown hown' hb2 hlt
  go_wp2
  go_ret
  refine ⟨rfl, _, BAt.put HHB.out HB2.out HP0.out HP1.out ?_ hF.ne, HBB.out.setCell (p := ⟨b, o + 1, none⟩) HHB.out _⟩
  have h := HOW.out
  rw [HCC.out] at h
  rw [List.length_append]
  exact h
theorem usNone (W : World) (q : Option Addr) : (Builtin.unsafeString_ #[102, 3] 9 #[.pointer q, .int .i64 0]).run Tryd.prog W = .ok (.string .empty) W := Lib.run_unsafeString_none W _ _ _ q
set_option maxHeartbeats 2000000 in
set_option maxRecDepth 100000 in
theorem string_any (o T B b : Nat) (cs : Array Value) (l : List UInt8) (w : World) (h : BAt o T B b cs l w) (hBw : B ≤ w.heap.size) :
    Calls Tryd.prog 51 #[.pointer (some ⟨b, o, none⟩)] w fun e w' => e = .returned (.string ⟨l.toArray⟩) ∧ Below B w w' := by
  obtain ⟨hB, hbk, _, v, hv, hown⟩ := h
  by_cases h0 : l = []
  · subst h0
    rcases hown.2 with ⟨rfl, _⟩ | ⟨g, cap, cur, rfl, hbg, hg, _, _, _, _⟩
    · have hUS := usNone
      have c1 : w.drew.cell? ⟨b, o + 1, none⟩ = some (.slice none 0 0) := by
        have : w.drew.heap[b]? = some (.cells cs T (0, 0)) := hbk
        rw [cell_of_heap this, hv]
      have hSD : (Builtin.unsafeSliceData_ #[33] 102 #[.slice none 0 0]).run Tryd.prog w.drew = .ok (.pointer none) w.drew := rfl
      clear hown hv hbk
      go_enter Tryd.func51, Tryd.ntmps51
      go_wp2
      go_region
      all_goals (go_wp2; go_ret; exact ⟨rfl, Below.drew (Below.refl B w)⟩)
    · by_cases hc0 : cap = 0
      · subst hc0
        have hUS := usNone
        have hlt : b < w.heap.size := blk_lt hbk
        have c1 : w.drew.cell? ⟨b, o + 1, none⟩ = some (.slice (some ⟨g, 0, none⟩) 0 0) := by
          have : w.drew.heap[b]? = some (.cells cs T (0, 0)) := hbk
          rw [cell_of_heap this, hv]; rfl
        have hSD : (Builtin.unsafeSliceData_ #[33] 102 #[.slice (some ⟨g, 0, none⟩) 0 0]).run Tryd.prog w.drew = .ok (.pointer (some ⟨w.drew.heap.size, 0, none⟩)) (w.drew.alloc (.view ⟨g, 0, none⟩ 5)) :=
          Lib.run_unsafeSliceData_zero w.drew _ _ 5 Tryd.underlying102 ⟨g, 0, none⟩ 0 (5, cur.size) (by have hg' : w.drew.heap[g]? = some (.cells cur 5 (0, 0)) := hg; simp [World.shape?, hg'])
        have c2 : (w.drew.alloc (.view ⟨g, 0, none⟩ 5)).cell? ⟨b, o + 1, none⟩ = some (.slice (some ⟨g, 0, none⟩) 0 0) := by
          have : (w.drew.alloc (.view ⟨g, 0, none⟩ 5)).heap[b]? = _ := (alloc_old w.drew _ b hlt).trans hbk
          rw [cell_of_heap this, hv]; rfl
        have c3 : (w.alloc (.view ⟨g, 0, none⟩ 5)).drew.cell? ⟨b, o + 1, none⟩ = some (.slice (some ⟨g, 0, none⟩) 0 0) := c2
        have c0 : w.cell? ⟨b, o + 1, none⟩ = some (.slice (some ⟨g, 0, none⟩) 0 0) := c1
        clear hown hv hbk hg
        go_enter Tryd.func51, Tryd.ntmps51
        go_wp2
        go_region
        all_goals (go_wp2; go_ret; exact ⟨rfl, Below.drew ((Below.refl B w).alloc hBw _)⟩)
      · have hUS := usNone
        have c1 : w.drew.cell? ⟨b, o + 1, none⟩ = some (.slice (some ⟨g, 0, none⟩) 0 cap) := by
          have : w.drew.heap[b]? = some (.cells cs T (0, 0)) := hbk
          rw [cell_of_heap this, hv]; rfl
        have hSD : (Builtin.unsafeSliceData_ #[33] 102 #[.slice (some ⟨g, 0, none⟩) 0 cap]).run Tryd.prog w.drew = .ok (.pointer (some ⟨g, 0, none⟩)) w.drew :=
          Lib.run_unsafeSliceData_row _ _ _ _ _ _ hc0
        clear hc0 hown hv hbk hg
        go_enter Tryd.func51, Tryd.ntmps51
        go_wp2
        go_region
        all_goals (go_wp2; go_ret; exact ⟨rfl, Below.drew (Below.refl B w)⟩)
  · have hl0 : l.length ≠ 0 := by simpa using h0
    obtain ⟨g, cap, cur, rfl, hbg, hg, hnc, hcm, hcs, htake⟩ : ∃ g cap cur, v = .slice (some ⟨g, 0, none⟩) l.length cap ∧ B ≤ g ∧ w.heap[g]? = some (.cells cur 5 (0, 0)) ∧ l.length ≤ cap ∧ cap ≤ maxLen ∧ cur.size = cap * 1 ∧ cur.toList.take (l.length * 1) = byteCells l := by
      rcases hown.2 with ⟨_, hz⟩ | ⟨g, cap, cur, hv, r⟩
      · exact absurd hz hl0
      · exact ⟨g, cap, cur, hv, r⟩
    have c1 : w.drew.cell? ⟨b, o + 1, none⟩ = some (.slice (some ⟨g, 0, none⟩) l.length cap) := by
      have : w.drew.heap[b]? = some (.cells cs T (0, 0)) := hbk
      rw [cell_of_heap this, hv]
    have hSD : (Builtin.unsafeSliceData_ #[33] 102 #[.slice (some ⟨g, 0, none⟩) l.length cap]).run Tryd.prog w.drew = .ok (.pointer (some ⟨g, 0, none⟩)) w.drew :=
      Lib.run_unsafeSliceData_row _ _ _ _ _ _ (by omega)
    have hUS : (Builtin.unsafeString_ #[102, 3] 9 #[.pointer (some ⟨g, 0, none⟩), .int .i64 l.length]).run Tryd.prog w.drew = .ok (.string ⟨l.toArray⟩) (w.drew.freeze ⟨g, 0, none⟩ l.length) := by
      refine Lib.run_unsafeString_row w.drew 102 3 9 5 Tryd.underlying102 cells5x g cur.size (by have hg' : w.drew.heap[g]? = some (.cells cur 5 (0, 0)) := hg; simp [World.shape?, hg']) l h0 (by omega) (by unfold maxLen at hcm; omega) ?_
      intro j x hx
      have := hown.cells (g := g) rfl j (.int .u8 x.toNat) (by simp [byteCells, hx])
      exact this
    clear hl0 h0 hown hg hnc hcm hcs htake hbk hv
    generalize hs : (⟨l.toArray⟩ : ByteArray) = s at *
    go_enter Tryd.func51, Tryd.ntmps51
    go_wp2
    go_region
    all_goals (go_wp2; go_ret; exact ⟨rfl, Lib.below_freeze (Below.drew (Below.refl B w)) (p := ⟨g, 0, none⟩) hbg _⟩)
end Go.Proofs.YtpamgedmgjfjjaaDoor.M
end
