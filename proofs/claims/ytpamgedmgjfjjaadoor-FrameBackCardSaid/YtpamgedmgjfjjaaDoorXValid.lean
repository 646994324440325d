/-
What utf.Valid comes to.
-/
import Derived.Test.YtpamgedmgjfjjaaDoorXRunes
import Derived.WalkMore
namespace Go.Proofs.YtpamgedmgjfjjaaDoor.M
open Go.RowKit Go.Proofs.YtpamgedmgjfjjaaDoorW.PrintWords Go.Proofs.YtpamgedmgjfjjaaDoorW.PrintLast Go.Proofs.YtpamgedmgjfjjaaDoorW.PrintMore
open Go.Lib
set_option linter.unusedVariables false
set_option linter.unusedSimpArgs false

/-- Is all of a text UTF-8, from a place on, by at most so many runes? -/
def validU (s : ByteArray) : Nat → Nat → Bool
  | 0, _ => true
  | f + 1, pos => if pos < s.size then (if (Utf8.decode s pos).1 = 65533 ∧ (Utf8.decode s pos).2 = 1 then false else validU s f (pos + (Utf8.decode s pos).2)) else true
theorem validU_end (s : ByteArray) (f pos : Nat) (h : ¬ pos < s.size) : validU s f pos = true := by
  cases f
  · rfl
  · rw [validU, if_neg h]

set_option maxHeartbeats 2000000 in
set_option maxRecDepth 100000 in
theorem utf_Valid_calls (s : ByteArray) (w : World) (hT : Tabs w) :
    Calls Tryd.prog 14 #[.string s] w fun e w' => e = .returned (.bool (validU s s.size 0)) ∧ Below w.heap.size w w' := by
  have HT := Aside0.mk hT
  clear hT
  go_enter Tryd.func14, Tryd.ntmps14
  go_wp2
  go_step3
  go_wp2
  go_step3
  go_wp2
  go_loopw [] (fun wr => ∃ (pos f : Nat), Aside0 (wr.heap[w.heap.size]? = some (.stringIter s pos)) ∧ Aside0 (Below w.heap.size w wr) ∧ Aside0 (validU s f pos = validU s s.size 0) ∧ Aside0 (s.size ≤ pos + f))
    (fun wr => s.size - wr.iterPos w.heap.size)
  case atStart => exact ⟨0, s.size, ⟨World.iter_heap w s 0⟩, ⟨below_alloc (Below.refl _ _) _⟩, ⟨rfl⟩, ⟨by omega⟩⟩
  case round =>
    obtain ⟨pos, f, HI, HB, HM, HF⟩ := hrel
    by_cases hp : pos < s.size
    · have hnx := fun ty => run_next_any_at (P := Tryd.prog) wr w.heap.size s pos ty HI.out hp
      have HW := Aside0.mk (width_pos s pos)
      have HI1 := Aside0.mk (iterAt_heap wr w.heap.size s pos (pos + (Utf8.decode s pos).2) HI.out)
      have HB1 := Aside0.mk (below_iterAt HB.out (Nat.le_refl w.heap.size) s (pos + (Utf8.decode s pos).2))
      have hd := decodeGo_cut s pos hp
      have hC := Tryd.utf8_DecodeRuneInString (s.extract pos s.size) (wr.iterAt w.heap.size s (pos + (Utf8.decode s pos).2)) (tabs_below HT.out HB1.out)
      rw [hd] at hC
      have HC := Aside0.mk hC
      obtain ⟨f', rfl⟩ : ∃ f', f = f' + 1 := ⟨f - 1, by have := HF.out; omega⟩
      have hst := HM.out
      rw [validU, if_pos hp] at hst
      have HST := Aside0.mk hst
      have HPOS := Aside0.mk (iterPos_at HI.out)
      obtain ⟨q, hq⟩ : ∃ q, pos + (Utf8.decode s pos).2 = q := ⟨_, rfl⟩
      have HQ := Aside0.mk (show pos + 1 ≤ q by have := HW.out; omega)
      rw [hq] at hnx HI1 HB1 HC HST
      have HFQ := Aside0.mk (show s.size ≤ q + f' by have := HF.out; have := HQ.out; omega)
      clear hd hC hst hq HW HI HB HM HF
      generalize (Utf8.decode s pos).1 = r at *
      generalize (Utf8.decode s pos).2 = n at *
      by_cases hr : r = 65533
      · subst hr
        by_cases hn : n = 1
        · subst hn
          go_wp2_with (go_at_call 45; refine HC.out.mono ?_; rintro e w1 ⟨rfl, hb⟩; have HB2 := Aside0.mk (below_then HB1.out HB1.out.size hb); clear hb)
          rw [Exit.noGoto_ret]
          go_ret
          refine ⟨?_, HB2.out⟩
          have h := HST.out
          simp only [and_self, if_true] at h
          rw [← h]
          rfl
        · have n1 : ((n : Int) == 1) = false := beq_eq_false_iff_ne.2 (by omega)
          have n2 : decide ((n : Int) = 1) = false := decide_eq_false (by omega)
          have n3 : (n == 1) = false := beq_eq_false_iff_ne.2 hn
          go_wp2_with (go_at_call 45; refine HC.out.mono ?_; rintro e w1 ⟨rfl, hb⟩; have HB2 := Aside0.mk (below_then HB1.out HB1.out.size hb); have HI2 := Aside0.mk ((hb.block w.heap.size (blk_lt HI1.out)).trans HI1.out); clear hb)
          go_roundw
          case rel => exact ⟨q, f', HI2, HB2, ⟨by rw [← HST.out, if_neg (fun h => hn h.2)]⟩, HFQ⟩
          case measure =>
            have h1 := iterPos_at HI2.out
            have h2 := HPOS.out
            have h3 := HQ.out
            omega
      · have r1 : ((r : Int) != 65533) = true := bne_iff_ne.2 (by omega)
        have r2 : decide ((r : Int) = 65533) = false := decide_eq_false (by omega)
        have r3 : (r == 65533) = false := beq_eq_false_iff_ne.2 hr
        have r4 : (r != 65533) = true := bne_iff_ne.2 hr
        go_wp2
        go_roundw
        case rel => exact ⟨q, f', HI1, HB1, ⟨by rw [← HST.out, if_neg (fun h => hr h.1)]⟩, HFQ⟩
        case measure =>
          have h1 := iterPos_at HI1.out
          have h2 := HPOS.out
          have h3 := HQ.out
          omega
    · have hnx := fun ty => run_next_end_at (P := Tryd.prog) wr w.heap.size s pos ty HI.out hp
      go_wp2
      rw [Exit.noGoto_ret]
      go_ret
      exact ⟨by rw [← HM.out, validU_end s f pos hp]; rfl, HB.out⟩
end Go.Proofs.YtpamgedmgjfjjaaDoor.M
