/-
The document's example of chapter 25 holds.
-/
import Derived.Test.YtpamgedmgjfjjaaDoorXFPut
namespace Go.Proofs.YtpamgedmgjfjjaaDoor.M
open Go.RowKit Go.Proofs.YtpamgedmgjfjjaaDoorW.PrintWords Go.Proofs.YtpamgedmgjfjjaaDoorW.PrintLast Go.Proofs.YtpamgedmgjfjjaaDoorW.PrintMore
set_option linter.unusedVariables false
set_option linter.unusedSimpArgs false
def exQ : AskV := ⟨2, ⟨#[97]⟩, 0, 0, 0, 0, 0, ⟨#[]⟩⟩
theorem exQ_ok : exQ.ok = true := by kernel_rfl
theorem exQ_put : strOfNums exQ.put = ⟨#[2, 0, 0, 0, 0, 1, 97, 0, 0, 0, 0, 0, 0, 0, 0]⟩ := by kernel_rfl
theorem exQ_calls (w : World) (hT : Tabs w) : Calls Tryd.prog 19 #[.agg #[.int .i64 2, .string ⟨#[97]⟩, .int .i64 0, .int .i64 0, .int .i64 0, .int .i64 0, .int .i64 0, .string ⟨#[]⟩]] w fun e w' =>
    ∃ v, e = .returned (.tuple #[v, .int .i64 0]) ∧ (convert 33 9 v).run Tryd.prog w' = .ok (.string ⟨#[2, 0, 0, 0, 0, 1, 97, 0, 0, 0, 0, 0, 0, 0, 0]⟩) w' ∧ Below w.heap.size w w' := by
  refine (put_calls exQ w hT (by decide) (by decide) exQ_ok).mono ?_
  rintro e w' ⟨v, rfl, ho, hb⟩
  refine ⟨v, rfl, ?_, hb⟩
  rw [← exQ_put]
  exact own_string Tryd.underlying33 Tryd.underlying5 Tryd.underlying9 ho
set_option maxHeartbeats 1000000 in
set_option maxRecDepth 100000 in
theorem frame_awake_calls (w : World) (hT : Tabs w) : Calls Tryd.prog 18 #[] w fun e w' => e = .returned (.bool true) ∧ Below w.heap.size w w' := by
  have HC := Aside0.mk (exQ_calls w hT)
  clear hT
  go_enter Tryd.func18, Tryd.ntmps18
  go_wp2_with (go_at_call 19; (with_reducible refine HC.out.mono ?_); rintro e w1 ⟨v, rfl, hcv, hb⟩; have HB := Aside0.mk hb; clear hb)
  go_ret
  exact ⟨rfl, HB.out⟩
end Go.Proofs.YtpamgedmgjfjjaaDoor.M
