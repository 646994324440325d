/-
The document's example of chapter 4 holds.
-/
import Derived.Test.YtpamgedmgjfjjaaDoorXValid
namespace Go.Proofs.YtpamgedmgjfjjaaDoor.M
open Go.RowKit Go.Proofs.YtpamgedmgjfjjaaDoorW.PrintWords Go.Proofs.YtpamgedmgjfjjaaDoorW.PrintLast Go.Proofs.YtpamgedmgjfjjaaDoorW.PrintMore
open Go.Lib
set_option linter.unusedVariables false
set_option linter.unusedSimpArgs false
theorem ex_euro : runeU ⟨#[226, 130, 172]⟩ 0 = (8364, 3) := by kernel_rfl
theorem ex_a : validU ⟨#[97]⟩ 1 0 = true := by kernel_rfl
theorem ex_ff : validU ⟨#[255]⟩ 1 0 = false := by kernel_rfl
theorem valid_b (s : ByteArray) (n : Nat) (b : Bool) (hn : s.size = n) (hb : validU s n 0 = b) (w : World) (hT : Tabs w) : Calls Tryd.prog 14 #[.string s] w fun e w' => e = .returned (.bool b) ∧ Below w.heap.size w w' := by
  subst hn
  subst hb
  exact utf_Valid_calls s w hT
theorem rune_b (s : ByteArray) (i : Int) (r n : Int) (h : runeU s i = (r, n)) (w : World) (hT : Tabs w) : Calls Tryd.prog 22 #[.string s, .int .i64 i] w fun e w' => e = .returned (.tuple #[.int .i32 r, .int .i64 n]) ∧ Below w.heap.size w w' := by
  have h1 := utf_Rune_calls s i w hT
  rw [h] at h1
  exact h1
theorem c22 (w : World) (hT : Tabs w) : Calls Tryd.prog 22 #[.string ⟨#[226, 130, 172]⟩, .int .i64 0] w fun e w' => e = .returned (.tuple #[.int .i32 8364, .int .i64 3]) ∧ Below w.heap.size w w' := rune_b _ 0 8364 3 ex_euro w hT
theorem c14a (w : World) (hT : Tabs w) : Calls Tryd.prog 14 #[.string ⟨#[97]⟩] w fun e w' => e = .returned (.bool true) ∧ Below w.heap.size w w' := valid_b _ 1 true rfl ex_a w hT
theorem c14b (w : World) (hT : Tabs w) : Calls Tryd.prog 14 #[.string ⟨#[255]⟩] w fun e w' => e = .returned (.bool false) ∧ Below w.heap.size w w' := valid_b _ 1 false rfl ex_ff w hT
set_option maxHeartbeats 1000000 in
set_option maxRecDepth 100000 in
theorem utf_awake_calls (w : World) (hT : Tabs w) : Calls Tryd.prog 15 #[] w fun e w' => e = .returned (.bool true) ∧ Below w.heap.size w w' := by
  have HT := Aside0.mk hT
  clear hT
  go_enter Tryd.func15, Tryd.ntmps15
  go_wp2_with (first
    | (go_at_call 22; refine (c22 w HT.out).mono ?_; rintro e w1 ⟨rfl, hb⟩; have HB1 := Aside0.mk hb; clear hb)
    | (go_at_call 14; with_reducible refine (c14a w1 (tabs_below HT.out HB1.out)).mono ?_; rintro e w2 ⟨rfl, hb⟩; have HB2 := Aside0.mk (below_step HB1.out hb); clear hb)
    | (go_at_call 14; with_reducible refine (c14b w2 (tabs_below HT.out HB2.out)).mono ?_; rintro e w3 ⟨rfl, hb⟩; have HB3 := Aside0.mk (below_step HB2.out hb); clear hb))
  go_ret
  exact ⟨rfl, HB3.out⟩
end Go.Proofs.YtpamgedmgjfjjaaDoor.M
