/-
What utf.Rune and utf.Put come to.
-/
import Derived.Test.YtpamgedmgjfjjaaDoorM0
import Derived.Test.YtpamgedmgjfjjaaDoorShelf
import Derived.Laws.Runes
import Derived.Lib.TrimUEq
import Derived.Lib.RuneCount
import Derived.Lib.RuneCountTail
namespace Go.Proofs.YtpamgedmgjfjjaaDoor.M
open Go.RowKit Go.Proofs.YtpamgedmgjfjjaaDoorW.PrintWords Go.Proofs.YtpamgedmgjfjjaaDoorW.PrintLast Go.Proofs.YtpamgedmgjfjjaaDoorW.PrintMore
set_option linter.unusedVariables false
set_option linter.unusedSimpArgs false

/-- The two tables that decoding goes by. -/
def Tabs (w : World) : Prop := Lib.Utf8Tabs 0 1 w
theorem tabs_below {w w1 : World} (h : Tabs w) (hb : Below w.heap.size w w1) : Tabs w1 := Utf8Tabs_below h hb

theorem decodeGo_cut (s : ByteArray) (pos : Nat) (h : pos < s.size) : Lib.decodeGo (s.extract pos s.size) = Utf8.decode s pos := by
  unfold Lib.decodeGo
  rw [if_neg (by rw [Lib.tail_size]; omega), Lib.tail_decode, Nat.add_zero]
/-- utf.Rune, in plain words. -/
def runeU (s : ByteArray) (i : Int) : Int × Int :=
  if i < 0 ∨ (s.size : Int) ≤ i then (-1, 0)
  else if (Utf8.decode s i.toNat).1 = 65533 ∧ (Utf8.decode s i.toNat).2 = 1 then (-1, 1)
  else (((Utf8.decode s i.toNat).1 : Int), ((Utf8.decode s i.toNat).2 : Int))

set_option maxHeartbeats 1000000 in
set_option maxRecDepth 100000 in
theorem utf_Rune_calls (s : ByteArray) (i : Int) (w : World) (hT : Tabs w) :
    Calls Tryd.prog 22 #[.string s, .int .i64 i] w fun e w' => e = .returned (.tuple #[.int .i32 (runeU s i).1, .int .i64 (runeU s i).2]) ∧ Below w.heap.size w w' := by
  have HT := Aside0.mk hT
  clear hT
  by_cases h0 : i < 0
  · have e : runeU s i = (-1, 0) := by unfold runeU; rw [if_pos (.inl h0)]
    rw [e]
    go_enter Tryd.func22, Tryd.ntmps22
    go_wp2
    go_ret2
    exact ⟨rfl, Below.refl _ _⟩
  · by_cases h1 : (s.size : Int) ≤ i
    · have e : runeU s i = (-1, 0) := by unfold runeU; rw [if_pos (.inr h1)]
      rw [e]
      go_enter Tryd.func22, Tryd.ntmps22
      go_wp2
      go_ret2
      exact ⟨rfl, Below.refl _ _⟩
    · have hd : Lib.decodeGo (s.extract i.toNat s.size) = Utf8.decode s i.toNat := decodeGo_cut s i.toNat (by omega)
      have hC := Tryd.utf8_DecodeRuneInString (s.extract i.toNat s.size) w HT.out
      rw [hd] at hC
      have HC := Aside0.mk hC
      have e : runeU s i = if (Utf8.decode s i.toNat).1 = 65533 ∧ (Utf8.decode s i.toNat).2 = 1 then (-1, 1) else (((Utf8.decode s i.toNat).1 : Int), ((Utf8.decode s i.toNat).2 : Int)) := by
        unfold runeU
        rw [if_neg (by omega)]
      rw [e]
      clear e hC hd
      generalize (Utf8.decode s i.toNat).1 = r at *
      generalize (Utf8.decode s i.toNat).2 = n at *
      by_cases hr : r = 65533
      · subst hr
        by_cases hn : n = 1
        · subst hn
          rw [if_pos ⟨rfl, rfl⟩]
          go_enter Tryd.func22, Tryd.ntmps22
          go_wp2_with (go_at_call 45; refine HC.out.mono ?_; rintro e w1 ⟨rfl, hb⟩; have HB := Aside0.mk hb; clear hb)
          go_ret2
          exact ⟨rfl, HB.out⟩
        · rw [if_neg (fun h => hn h.2)]
          have n1 : ((n : Int) == 1) = false := beq_eq_false_iff_ne.2 (by omega)
          have n2 : decide ((n : Int) = 1) = false := decide_eq_false (by omega)
          have n3 : (n == 1) = false := beq_eq_false_iff_ne.2 hn
          go_enter Tryd.func22, Tryd.ntmps22
          go_wp2_with (go_at_call 45; refine HC.out.mono ?_; rintro e w1 ⟨rfl, hb⟩; have HB := Aside0.mk hb; clear hb)
          go_ret2
          exact ⟨rfl, HB.out⟩
      · rw [if_neg (fun h => hr h.1)]
        have r1 : ((r : Int) == 65533) = false := beq_eq_false_iff_ne.2 (by omega)
        have r2 : decide ((r : Int) = 65533) = false := decide_eq_false (by omega)
        have r3 : (r == 65533) = false := beq_eq_false_iff_ne.2 hr
        go_enter Tryd.func22, Tryd.ntmps22
        go_wp2_with (go_at_call 45; refine HC.out.mono ?_; rintro e w1 ⟨rfl, hb⟩; have HB := Aside0.mk hb; clear hb)
        go_ret2
        exact ⟨rfl, HB.out⟩
/-- utf.Put, in plain words. -/
def putU (r : Int) : ByteArray := if Lib.validRune r = true then Utf8.encode r else ⟨#[]⟩
theorem utf_Put_calls (r : Int) (w : World) : Calls Tryd.prog 21 #[.int .i32 r] w fun e w' => e = .returned (.string (putU r)) ∧ w' = w := by
  have HC := Aside0.mk (Tryd.utf8_ValidRune r w)
  unfold putU
  cases h : Lib.validRune r
  · rw [h] at HC
    rw [if_neg (by simp)]
    go_enter Tryd.func21, Tryd.ntmps21
    go_wp2_with (go_at_call 48; refine HC.out.mono ?_; rintro e w1 ⟨rfl, rfl⟩)
    go_ret
    exact ⟨rfl, rfl⟩
  · rw [h] at HC
    rw [if_pos rfl]
    go_enter Tryd.func21, Tryd.ntmps21
    go_wp2_with (go_at_call 48; refine HC.out.mono ?_; rintro e w1 ⟨rfl, rfl⟩)
    go_ret
    exact ⟨rfl, rfl⟩
end Go.Proofs.YtpamgedmgjfjjaaDoor.M
