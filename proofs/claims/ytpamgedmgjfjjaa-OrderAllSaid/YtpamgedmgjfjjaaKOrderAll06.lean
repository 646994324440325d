/-
Lemmas for OrderAll, for every input they speak of: XLess.
-/
import Derived.Test.YtpamgedmgjfjjaaKOrderAll04
import Derived.Test.YtpamgedmgjfjjaaKOrderAll05
import Derived.StillTailTactics
import Derived.Test.YtpamgedmgjfjjaaKOrderAll03
namespace Go.Proofs.Ytpamgedmgjfjjaa.M
open Go.RowKit Go.Proofs.YtpamgedmgjfjjaaW.PrintWords Go.Proofs.YtpamgedmgjfjjaaW.PrintLast Go.Proofs.YtpamgedmgjfjjaaW.PrintMore
set_option linter.unusedVariables false
set_option linter.unusedSimpArgs false
def CmpAll (f : Nat) (less : ByteArray → ByteArray → Bool) : Prop :=
  ∀ (W : World) (a b : ByteArray), Calls Try.prog f #[.string a, .string b] W fun e w' => e = .returned (.bool (less a b)) ∧ Below W.heap.size W w'
def ltOf (less : ByteArray → ByteArray → Bool) (l : List ByteArray) (i k : Int) : Bool := less (rdOf ByteArray.empty l i) (rdOf ByteArray.empty l k)
set_option maxHeartbeats 4000000 in
set_option maxRecDepth 100000 in
theorem closure_calls30 (less : ByteArray → ByteArray → Bool) (hcmp : CmpAll 30 less) (W0 : World) (b2 b3 : Nat) (A : Option Addr) (l : List ByteArray) (c : Nat)
    (hb2 : ∀ W, Below W0.heap.size W0 W → W.cell? ⟨b2, 0, none⟩ = some (.slice A l.length c)) (hb3 : ∀ W, Below W0.heap.size W0 W → W.cell? ⟨b3, 0, none⟩ = some (.func (.func 30) #[] #[])) (hl : Kd.C Kd.string W0 A l.length l) (hc : l.length ≤ c) :
    LessAt W0 b2 b3 (l.length : Int) (ltOf less l) := by
  intro W hB i k hi0 hi1 hk0 hk1
  have h2 := hb2 W hB
  have h3 := hb3 W hB
  obtain ⟨a1, rfl, hc1⟩ := Kd.at_string (Kd.C_below hl hB) i hi0 hi1
  obtain ⟨a2, e2, hc2⟩ := Kd.at_string (Kd.C_below hl hB) k hk0 hk1
  injection e2 with e2
  subst e2
  unfold ltOf
  have HCMP := Aside0.mk hcmp
  have HBW := Aside0.mk hB
  clear hcmp hb2 hb3 hl hB
  generalize rdOf ByteArray.empty l i = s1 at *
  generalize rdOf ByteArray.empty l k = s2 at *
  have HBd := Aside0.mk (below_drew (Below.refl W.heap.size W))
  go_enter Try.func48, Try.ntmps48
  go_wp2
  go_still_tail 9, (by kernel_rfl)
  change wpList _ _ _ _ _ W.drew
  go_wp2_with (go_at_call 30; refine (HCMP.out _ s1 s2).mono ?_; rintro e w1 ⟨rfl, hb⟩; have HB1 := Aside0.mk (below_step HBd.out hb); clear hb)
  go_ret
  exact ⟨rfl, HB1.out⟩
set_option maxHeartbeats 4000000 in
set_option maxRecDepth 100000 in
theorem closure_calls37 (less : ByteArray → ByteArray → Bool) (hcmp : CmpAll 37 less) (W0 : World) (b2 b3 : Nat) (A : Option Addr) (l : List ByteArray) (c : Nat)
    (hb2 : ∀ W, Below W0.heap.size W0 W → W.cell? ⟨b2, 0, none⟩ = some (.slice A l.length c)) (hb3 : ∀ W, Below W0.heap.size W0 W → W.cell? ⟨b3, 0, none⟩ = some (.func (.func 37) #[] #[])) (hl : Kd.C Kd.string W0 A l.length l) (hc : l.length ≤ c) :
    LessAt W0 b2 b3 (l.length : Int) (ltOf less l) := by
  intro W hB i k hi0 hi1 hk0 hk1
  have h2 := hb2 W hB
  have h3 := hb3 W hB
  obtain ⟨a1, rfl, hc1⟩ := Kd.at_string (Kd.C_below hl hB) i hi0 hi1
  obtain ⟨a2, e2, hc2⟩ := Kd.at_string (Kd.C_below hl hB) k hk0 hk1
  injection e2 with e2
  subst e2
  unfold ltOf
  have HCMP := Aside0.mk hcmp
  have HBW := Aside0.mk hB
  clear hcmp hb2 hb3 hl hB
  generalize rdOf ByteArray.empty l i = s1 at *
  generalize rdOf ByteArray.empty l k = s2 at *
  have HBd := Aside0.mk (below_drew (Below.refl W.heap.size W))
  go_enter Try.func48, Try.ntmps48
  go_wp2
  go_still_tail 9, (by kernel_rfl)
  change wpList _ _ _ _ _ W.drew
  go_wp2_with (go_at_call 37; refine (HCMP.out _ s1 s2).mono ?_; rintro e w1 ⟨rfl, hb⟩; have HB1 := Aside0.mk (below_step HBd.out hb); clear hb)
  go_ret
  exact ⟨rfl, HB1.out⟩
end Go.Proofs.Ytpamgedmgjfjjaa.M
