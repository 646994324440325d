/-
What the two comparisons of keys come to: order.Less, and the closure in order.CBOR.
-/
import Derived.Test.YtpamgedmgjfjjaaXLess
import Derived.Test.YtpamgedmgjfjjaaM1
namespace Go.Proofs.Ytpamgedmgjfjjaa.M
open Go.RowKit Go.Proofs.YtpamgedmgjfjjaaW.PrintWords Go.Proofs.YtpamgedmgjfjjaaW.PrintLast Go.Proofs.YtpamgedmgjfjjaaW.PrintMore
set_option linter.unusedVariables false
set_option linter.unusedSimpArgs false

def lessB (a b : ByteArray) : Bool := Op.bytesLess a.toList b.toList
theorem cmp30 : CmpAll 30 lessB := fun W a b => (order_Less.calls a b _ W rfl).mono fun e w' ⟨h1, n, h2⟩ => ⟨h1, by subst h2; exact pw_below_drewN (Below.refl _ _) n⟩

/-- Less, same, greater. -/
def cmpI (a b : Int) : Int := if a < b then -1 else if a > b then 1 else 0
def orI (a b : Int) : Int := if a = 0 then b else a
def lessC (a b : ByteArray) : Bool := decide (orI (cmpI a.size b.size) (Lib.compareBytes a.data.toList b.data.toList) < 0)
theorem cmpI_eq (a b : Int) : cmp_Compare_int.f a b = some (cmpI a b) := by
  unfold cmp_Compare_int.f cmp_isNaN_int.f cmpI
  (repeat' split) <;> first | rfl | simp_all
theorem orI_eq (a b : Int) : cmp_Or_int.f 3 [a, b] = some (orI a b) := by
  have w1 : wrap64 1 = 1 := by kernel_rfl
  have w2 : wrap64 2 = 2 := by kernel_rfl
  unfold cmp_Or_int.f orI
  by_cases ha : a = 0
  · by_cases hb : b = 0
    · simp [cmp_Or_int.l0, rd, ha, hb, w1, w2]
    · simp [cmp_Or_int.l0, rd, ha, hb, w1, w2]
  · simp [cmp_Or_int.l0, rd, ha, w1, w2]
set_option maxHeartbeats 1000000 in
set_option maxRecDepth 100000 in
theorem cmp37 : CmpAll 37 lessC := by
  intro W a b
  have H1 := Aside0.mk (cmpI_eq a.size b.size)
  have H2 := Aside0.mk (orI_eq (cmpI a.size b.size) (Lib.compareBytes a.data.toList b.data.toList))
  unfold lessC
  generalize cmpI a.size b.size = x at *
  generalize hy : Lib.compareBytes a.data.toList b.data.toList = y at *
  generalize orI x y = z at *
  have HY := Aside0.mk hy
  clear hy
  go_enter Try.func37, Try.ntmps37
  go_wp2_with (first
    | (go_at_call 39; refine (cmp_Compare_int.calls _ _ _ _ H1.out).mono ?_; rintro e w1 ⟨rfl, ⟨n1, rfl⟩⟩)
    | (go_at_call 40; refine (Try.strings_Compare a b _).mono ?_; rw [HY.out]; rintro e w2 ⟨rfl, rfl⟩)
    | (go_at_call 38; refine (cmp_Or_int.calls 3 (some ⟨(W.drewN n1).heap.size, 0, none⟩) 2 [x, y] z _ ?h1 (by simp) H2.out).mono ?_; (case h1 => exact (Kd.R_reads' (Kd.R_of_own (ok := fun _ => True) (h1 := fun _ => rfl) (by simpa [nums, encs] using own_lit (W.drewN n1) 0 3 .i64 [x, y] (Nat.zero_le _) (by simp)) (fun _ _ => trivial))).2.2); rintro e w3 ⟨rfl, ⟨n2, rfl⟩⟩))
  go_ret
  exact ⟨rfl, pw_below_drewN (below_alloc (pw_below_drewN (Below.refl _ _) _) _) _⟩
end Go.Proofs.Ytpamgedmgjfjjaa.M
