/-
CheadOrder: of one major the head of a greater number stands above, byte by byte. For every input.
-/
import Derived.Test.YtpamgedmgjfjjaaM3
import Derived.Test.YtpamgedmgjfjjaaXHead
namespace Go.Proofs.Ytpamgedmgjfjjaa.Pure
open Go.RowKit Go.Proofs.Ytpamgedmgjfjjaa.M Go.Proofs.YtpamgedmgjfjjaaW.PrintWords Go.Proofs.YtpamgedmgjfjjaaW.PrintLast Go.Proofs.YtpamgedmgjfjjaaW.PrintMore
set_option linter.unusedVariables false

theorem place (a n : Int) (h0 : 0 < n) (h1 : n ≤ 1000000) : ∃ r, erratumlaw00_Place.f a n = some r ∧ 0 ≤ r ∧ r < n := by
  unfold erratumlaw00_Place.f
  have hb := Int.tmod_lt_of_pos a h0
  have hc : -n < Int.tmod a n := by
    have := Int.tmod_lt_of_pos (-a) h0
    rw [Int.neg_tmod] at this
    omega
  rw [if_neg (by omega)]
  split
  · refine ⟨_, rfl, ?_⟩
    unfold wrap64
    omega
  · exact ⟨_, rfl, by omega, hb⟩
theorem awake : erratumlaw09_awake.f = some true := by
  unfold erratumlaw09_awake.f chead_Put.f
  rw [if_pos (by decide)]
  simp only [List.nil_append, Option.bind_some]
  rw [head_eq 2 500 (by decide) (by decide) (by decide), str_list]
  decide
theorem put_some (m n : Int) : chead_Put.f [] m n = some (chead_Put.head m n) := by
  unfold chead_Put.f
  rw [if_pos (by decide)]
  rfl
theorem shr_range (x s : Int) (hx : 0 ≤ x) (hx' : x ≤ 18446744073709551615) : 0 ≤ shr .u64 x s ∧ shr .u64 x s ≤ 18446744073709551615 := by
  unfold shr
  have hp : (0 : Int) < 2 ^ min s.toNat IntKind.u64.bits := Int.pow_pos (by decide)
  refine ⟨Int.ediv_nonneg hx (Int.le_of_lt hp), ?_⟩
  have := Int.ediv_le_self (2 ^ min s.toNat IntKind.u64.bits) hx
  omega

theorem u64_range {n : Int} (h : (Lit.int .u64 n).wf = true) : 0 ≤ n ∧ n ≤ 18446744073709551615 := by
  simp only [Lit.wf, Bool.and_eq_true, decide_eq_true_iff] at h
  exact h

theorem CheadOrder : erratumlaw09_CheadOrder.Pure := by
  intro a0 a1 a2 a3 a4 h0 h1 h2 h3 h4
  obtain ⟨p1, q1⟩ := u64_range h1
  obtain ⟨p2, q2⟩ := u64_range h2
  obtain ⟨m, em, m0, m1⟩ := place a0 8 (by decide) (by decide)
  obtain ⟨s, es, s0, s1⟩ := place a3 64 (by decide) (by decide)
  obtain ⟨t, et, t0, t1⟩ := place a4 64 (by decide) (by decide)
  have us : IntKind.u64.wrap s = s := by simp [IntKind.wrap, IntKind.bits, IntKind.signed]; omega
  have ut : IntKind.u64.wrap t = t := by simp [IntKind.wrap, IntKind.bits, IntKind.signed]; omega
  obtain ⟨x0, x1⟩ := shr_range a1 s p1 q1
  obtain ⟨y0, y1⟩ := shr_range a2 t p2 q2
  unfold erratumlaw09_CheadOrder.f
  rw [em, es, et]
  simp only [Option.bind_some, us, ut, put_some]
  rw [if_pos s0, if_pos t0]
  generalize shr .u64 a1 s = x at *
  generalize shr .u64 a2 t = y at *
  have bx := head_bytes m x m0 m1 x0
  have b2 := head_bytes m y m0 m1 y0
  rw [str_less _ _ bx b2, str_eq _ _ bx b2, head_lex m x y m0 m1 x0 x1 y0 y1]
  have e : decide (chead_Put.head m x = chead_Put.head m y) = (x == y) := by
    rw [Bool.eq_iff_iff, decide_eq_true_iff, beq_iff_eq]
    exact head_inj m x y m0 m1 x0 x1 y0 y1
  rw [e, if_pos (by simp), if_pos (by simp)]
  split
  · rw [awake]
    rfl
  · rename_i h7
    have ew : wrap64 (m + 1) = m + 1 := by unfold wrap64; omega
    rw [ew, str_less _ _ bx (head_bytes (m + 1) x (by omega) (by omega) x0)]
    rcases head_next m x x m0 (by omega) x0 with h | h
    · rw [if_pos h, awake]
      rfl
    · omega
end Go.Proofs.Ytpamgedmgjfjjaa.Pure
