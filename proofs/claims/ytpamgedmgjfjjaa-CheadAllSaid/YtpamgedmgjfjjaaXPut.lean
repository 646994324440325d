/-
What chead.Put comes to: the bytes that were there, and behind them the head (chead_Put.head), in memory of the call's own.
-/
import Derived.Test.YtpamgedmgjfjjaaM1
import Derived.Test.YtpamgedmgjfjjaaXBase
namespace Go.Proofs.Ytpamgedmgjfjjaa.M
open Go.RowKit Go.Proofs.YtpamgedmgjfjjaaW.PrintWords Go.Proofs.YtpamgedmgjfjjaaW.PrintLast Go.Proofs.YtpamgedmgjfjjaaW.PrintMore
set_option linter.unusedVariables false

theorem bytes_end (l : List Int) (n : Int) (k : Nat) : chead_bytes.l0 (k + 1) l n (-1) = some l := by
  simp [chead_bytes.l0]
theorem bytes_step (l : List Int) (n i : Int) (k : Nat) (h0 : 0 ≤ i) (h7 : i ≤ 7) (hl : l.length ≤ 2000000) : chead_bytes.l0 (k + 1) l n i = chead_bytes.l0 k (l ++ [(n / 2 ^ (8 * i).toNat) % 256]) n (i - 1) := by
  have e1 : wrap64 (8 * i) = 8 * i := by unfold wrap64; omega
  have e2 : wrap64 (i - 1) = i - 1 := by unfold wrap64; omega
  have e3 : shr .u64 n (8 * i) = n / 2 ^ (8 * i).toNat := by
    unfold shr
    rw [show min (8 * i).toNat IntKind.u64.bits = (8 * i).toNat from Nat.min_eq_left (by simp [IntKind.bits]; omega)]
  simp only [chead_bytes.l0]
  rw [if_pos h0, e1, e2, e3, if_pos (by omega), if_pos (by omega)]

/-- The head of a number, as its bytes. -/
def chead_Put.head (a1 a2 : Int) : List Int :=
  if a2 < 24 then [Go.bits .or .u8 ((((Go.bits .and .i64 a1 7) % 256) * 32) % 256) ((a2) % 256)]
  else if a2 < 256 then [Go.bits .or .u8 ((((Go.bits .and .i64 a1 7) % 256) * 32) % 256) 24, (a2) % 256]
  else if a2 < 65536 then [Go.bits .or .u8 ((((Go.bits .and .i64 a1 7) % 256) * 32) % 256) 25, (a2 / 256) % 256, (a2) % 256]
  else if a2 < 4294967296 then [Go.bits .or .u8 ((((Go.bits .and .i64 a1 7) % 256) * 32) % 256) 26, (a2 / 16777216) % 256, (a2 / 65536) % 256, (a2 / 256) % 256, (a2) % 256]
  else [Go.bits .or .u8 ((((Go.bits .and .i64 a1 7) % 256) * 32) % 256) 27, (a2 / 72057594037927936) % 256, (a2 / 281474976710656) % 256, (a2 / 1099511627776) % 256, (a2 / 4294967296) % 256, (a2 / 16777216) % 256, (a2 / 65536) % 256, (a2 / 256) % 256, (a2) % 256]
def chead_Put.f (l0 : List Int) (a1 : Int) (a2 : Int) : Option (List Int) := if l0.length ≤ 1000000 then some (l0 ++ chead_Put.head a1 a2) else none

theorem bytes_1 (l : List Int) (n : Int) (hl : l.length ≤ 1000001) : chead_bytes.f 9 l n 1 = some (l ++ [n % 256]) := by
  unfold chead_bytes.f
  rw [show wrap64 (1 - 1) = 0 from by unfold wrap64; omega, bytes_step _ _ _ _ (by decide) (by decide) (by omega), show (0 : Int) - 1 = -1 from rfl, bytes_end]
  simp
theorem bytes_2 (l : List Int) (n : Int) (hl : l.length ≤ 1000001) : chead_bytes.f 9 l n 2 = some (l ++ [(n / 256) % 256, n % 256]) := by
  unfold chead_bytes.f
  rw [show wrap64 (2 - 1) = 1 from by unfold wrap64; omega, bytes_step _ _ _ _ (by decide) (by decide) (by omega), show (1 : Int) - 1 = 0 from rfl, bytes_step _ _ _ _ (by decide) (by decide) (by simp; omega), show (0 : Int) - 1 = -1 from rfl, bytes_end]
  simp
theorem bytes_4 (l : List Int) (n : Int) (hl : l.length ≤ 1000001) : chead_bytes.f 9 l n 4 = some (l ++ [(n / 16777216) % 256, (n / 65536) % 256, (n / 256) % 256, n % 256]) := by
  unfold chead_bytes.f
  rw [show wrap64 (4 - 1) = 3 from by unfold wrap64; omega, bytes_step _ _ _ _ (by decide) (by decide) (by omega), show (3 : Int) - 1 = 2 from rfl, bytes_step _ _ _ _ (by decide) (by decide) (by simp; omega), show (2 : Int) - 1 = 1 from rfl,
    bytes_step _ _ _ _ (by decide) (by decide) (by simp; omega), show (1 : Int) - 1 = 0 from rfl, bytes_step _ _ _ _ (by decide) (by decide) (by simp; omega), show (0 : Int) - 1 = -1 from rfl, bytes_end]
  simp
theorem bytes_8 (l : List Int) (n : Int) (hl : l.length ≤ 1000001) : chead_bytes.f 9 l n 8 = some (l ++ [(n / 72057594037927936) % 256, (n / 281474976710656) % 256, (n / 1099511627776) % 256, (n / 4294967296) % 256, (n / 16777216) % 256, (n / 65536) % 256, (n / 256) % 256, n % 256]) := by
  unfold chead_bytes.f
  rw [show wrap64 (8 - 1) = 7 from by unfold wrap64; omega, bytes_step _ _ _ _ (by decide) (by decide) (by omega), show (7 : Int) - 1 = 6 from rfl, bytes_step _ _ _ _ (by decide) (by decide) (by simp; omega), show (6 : Int) - 1 = 5 from rfl,
    bytes_step _ _ _ _ (by decide) (by decide) (by simp; omega), show (5 : Int) - 1 = 4 from rfl, bytes_step _ _ _ _ (by decide) (by decide) (by simp; omega), show (4 : Int) - 1 = 3 from rfl,
    bytes_step _ _ _ _ (by decide) (by decide) (by simp; omega), show (3 : Int) - 1 = 2 from rfl, bytes_step _ _ _ _ (by decide) (by decide) (by simp; omega), show (2 : Int) - 1 = 1 from rfl,
    bytes_step _ _ _ _ (by decide) (by decide) (by simp; omega), show (1 : Int) - 1 = 0 from rfl, bytes_step _ _ _ _ (by decide) (by decide) (by simp; omega), show (0 : Int) - 1 = -1 from rfl, bytes_end]
  simp

set_option maxHeartbeats 1000000 in
set_option maxRecDepth 100000 in
theorem put_small (A0 : Option Addr) (c0 : Nat) (l0 : List Int) (a1 a2 : Int) (w : World) (hr0 : Kd.C (Kd.int .u8) w A0 l0.length l0) (hc0 : l0.length ≤ c0) (hm : l0.length ≤ 1000000) (hlt : decide (a2 < 24) = true) :
    Calls Try.prog 11 #[.slice A0 l0.length c0, .int .i64 a1, .int .u64 a2] w fun e w' => ∃ v0_ : Value, e = .returned v0_ ∧ Kd.R (Kd.int .u8) 5 w' w.heap.size (fun _ => True) v0_ (l0 ++ [Go.bits .or .u8 ((((Go.bits .and .i64 a1 7) % 256) * 32) % 256) ((a2) % 256)]) ∧ Below w.heap.size w w' := by
  have HR := Aside0.mk hr0
  clear hr0
  have hsl := fun w => x_slice_full Try.prog 25 Try.underlying25 1 (fun w => by kernel_rfl) A0 l0.length c0 hc0 w
  go_enter Try.func11, Try.ntmps11
  go_wp2_with (first | (at_builtin; refine x_append_full (enc := Value.int .u8) (h1 := fun _ => rfl) (w0 := w) (0 : Int) rfl (.tmp 21) (.tmp 26) 25 5 (.int .u8 0) 1 rfl Try.underlying25 info5 rfl (by decide) A0 l0 (Go.bits .or .u8 ((((Go.bits .and .i64 a1 7) % 256) * 32) % 256) ((a2) % 256)) rfl rfl HR.out (Below.refl _ _) (by omega) ?_; intro v1 w1 ho hb; have HO := Aside0.mk ho; have HB := Aside0.mk hb; clear ho hb))
  go_ret
  exact ⟨_, rfl, HO.out, HB.out⟩

set_option maxHeartbeats 1000000 in
set_option maxRecDepth 100000 in
theorem put_one (A0 : Option Addr) (c0 : Nat) (l0 : List Int) (a1 a2 : Int) (w : World) (hr0 : Kd.C (Kd.int .u8) w A0 l0.length l0) (hc0 : l0.length ≤ c0) (hm : l0.length ≤ 1000000) (h1 : decide (a2 < 24) = false) (h2 : decide (a2 < 256) = true) :
    Calls Try.prog 11 #[.slice A0 l0.length c0, .int .i64 a1, .int .u64 a2] w fun e w' => ∃ v0_ : Value, e = .returned v0_ ∧ Kd.R (Kd.int .u8) 5 w' w.heap.size (fun _ => True) v0_ (l0 ++ [Go.bits .or .u8 ((((Go.bits .and .i64 a1 7) % 256) * 32) % 256) 24, (a2) % 256]) ∧ Below w.heap.size w w' := by
  have HR := Aside0.mk hr0
  clear hr0
  have hsl := fun w => x_slice_full Try.prog 25 Try.underlying25 1 (fun w => by kernel_rfl) A0 l0.length c0 hc0 w
  have HE := Aside0.mk (bytes_1 (l0 ++ [Go.bits .or .u8 ((((Go.bits .and .i64 a1 7) % 256) * 32) % 256) 24]) a2 (by simp; omega))
  go_enter Try.func11, Try.ntmps11
  go_wp2_with (first
    | (at_builtin; refine x_append_full (enc := Value.int .u8) (h1 := fun _ => rfl) (w0 := w) (0 : Int) rfl (.tmp 31) (.tmp 34) 25 5 (.int .u8 0) 1 rfl Try.underlying25 info5 rfl (by decide) A0 l0 (Go.bits .or .u8 ((((Go.bits .and .i64 a1 7) % 256) * 32) % 256) 24) rfl rfl HR.out (Below.refl _ _) (by omega) ?_; intro v1 w1 ho hb; have HO := Aside0.mk ho; have HB := Aside0.mk hb; clear ho hb)
    | (go_at_call 34; refine (chead_bytes.calls 9 (fun _ => True) _ (l0 ++ [Go.bits .or .u8 ((((Go.bits .and .i64 a1 7) % 256) * 32) % 256) 24]) a2 1 _ w w1 HB.out HO.out HE.out).mono ?_; rintro e w2 ⟨v2, rfl, ho, hb, hk⟩; have HO2 := Aside0.mk ho; have HB2 := Aside0.mk hb; clear ho hb hk))
  go_ret
  exact ⟨_, rfl, by simpa using Kd.R_mono HO2.out (fun _ _ => trivial), HB2.out⟩
set_option maxHeartbeats 1000000 in
set_option maxRecDepth 100000 in
theorem put_two (A0 : Option Addr) (c0 : Nat) (l0 : List Int) (a1 a2 : Int) (w : World) (hr0 : Kd.C (Kd.int .u8) w A0 l0.length l0) (hc0 : l0.length ≤ c0) (hm : l0.length ≤ 1000000) (h1 : decide (a2 < 24) = false) (h2 : decide (a2 < 256) = false) (h3 : decide (a2 < 65536) = true) :
    Calls Try.prog 11 #[.slice A0 l0.length c0, .int .i64 a1, .int .u64 a2] w fun e w' => ∃ v0_ : Value, e = .returned v0_ ∧ Kd.R (Kd.int .u8) 5 w' w.heap.size (fun _ => True) v0_ (l0 ++ [Go.bits .or .u8 ((((Go.bits .and .i64 a1 7) % 256) * 32) % 256) 25, (a2 / 256) % 256, (a2) % 256]) ∧ Below w.heap.size w w' := by
  have HR := Aside0.mk hr0
  clear hr0
  have hsl := fun w => x_slice_full Try.prog 25 Try.underlying25 1 (fun w => by kernel_rfl) A0 l0.length c0 hc0 w
  have HE := Aside0.mk (bytes_2 (l0 ++ [Go.bits .or .u8 ((((Go.bits .and .i64 a1 7) % 256) * 32) % 256) 25]) a2 (by simp; omega))
  go_enter Try.func11, Try.ntmps11
  go_wp2_with (first
    | (at_builtin; refine x_append_full (enc := Value.int .u8) (h1 := fun _ => rfl) (w0 := w) (0 : Int) rfl (.tmp 41) (.tmp 44) 25 5 (.int .u8 0) 1 rfl Try.underlying25 info5 rfl (by decide) A0 l0 (Go.bits .or .u8 ((((Go.bits .and .i64 a1 7) % 256) * 32) % 256) 25) rfl rfl HR.out (Below.refl _ _) (by omega) ?_; intro v1 w1 ho hb; have HO := Aside0.mk ho; have HB := Aside0.mk hb; clear ho hb)
    | (go_at_call 34; refine (chead_bytes.calls 9 (fun _ => True) _ (l0 ++ [Go.bits .or .u8 ((((Go.bits .and .i64 a1 7) % 256) * 32) % 256) 25]) a2 2 _ w w1 HB.out HO.out HE.out).mono ?_; rintro e w2 ⟨v2, rfl, ho, hb, hk⟩; have HO2 := Aside0.mk ho; have HB2 := Aside0.mk hb; clear ho hb hk))
  go_ret
  exact ⟨_, rfl, by simpa using Kd.R_mono HO2.out (fun _ _ => trivial), HB2.out⟩
set_option maxHeartbeats 1000000 in
set_option maxRecDepth 100000 in
theorem put_four (A0 : Option Addr) (c0 : Nat) (l0 : List Int) (a1 a2 : Int) (w : World) (hr0 : Kd.C (Kd.int .u8) w A0 l0.length l0) (hc0 : l0.length ≤ c0) (hm : l0.length ≤ 1000000) (h1 : decide (a2 < 24) = false) (h2 : decide (a2 < 256) = false) (h3 : decide (a2 < 65536) = false) (h4 : decide (a2 < 4294967296) = true) :
    Calls Try.prog 11 #[.slice A0 l0.length c0, .int .i64 a1, .int .u64 a2] w fun e w' => ∃ v0_ : Value, e = .returned v0_ ∧ Kd.R (Kd.int .u8) 5 w' w.heap.size (fun _ => True) v0_ (l0 ++ [Go.bits .or .u8 ((((Go.bits .and .i64 a1 7) % 256) * 32) % 256) 26, (a2 / 16777216) % 256, (a2 / 65536) % 256, (a2 / 256) % 256, (a2) % 256]) ∧ Below w.heap.size w w' := by
  have HR := Aside0.mk hr0
  clear hr0
  have hsl := fun w => x_slice_full Try.prog 25 Try.underlying25 1 (fun w => by kernel_rfl) A0 l0.length c0 hc0 w
  have HE := Aside0.mk (bytes_4 (l0 ++ [Go.bits .or .u8 ((((Go.bits .and .i64 a1 7) % 256) * 32) % 256) 26]) a2 (by simp; omega))
  go_enter Try.func11, Try.ntmps11
  go_wp2_with (first
    | (at_builtin; refine x_append_full (enc := Value.int .u8) (h1 := fun _ => rfl) (w0 := w) (0 : Int) rfl (.tmp 51) (.tmp 54) 25 5 (.int .u8 0) 1 rfl Try.underlying25 info5 rfl (by decide) A0 l0 (Go.bits .or .u8 ((((Go.bits .and .i64 a1 7) % 256) * 32) % 256) 26) rfl rfl HR.out (Below.refl _ _) (by omega) ?_; intro v1 w1 ho hb; have HO := Aside0.mk ho; have HB := Aside0.mk hb; clear ho hb)
    | (go_at_call 34; refine (chead_bytes.calls 9 (fun _ => True) _ (l0 ++ [Go.bits .or .u8 ((((Go.bits .and .i64 a1 7) % 256) * 32) % 256) 26]) a2 4 _ w w1 HB.out HO.out HE.out).mono ?_; rintro e w2 ⟨v2, rfl, ho, hb, hk⟩; have HO2 := Aside0.mk ho; have HB2 := Aside0.mk hb; clear ho hb hk))
  go_ret
  exact ⟨_, rfl, by simpa using Kd.R_mono HO2.out (fun _ _ => trivial), HB2.out⟩
set_option maxHeartbeats 1000000 in
set_option maxRecDepth 100000 in
theorem put_eight (A0 : Option Addr) (c0 : Nat) (l0 : List Int) (a1 a2 : Int) (w : World) (hr0 : Kd.C (Kd.int .u8) w A0 l0.length l0) (hc0 : l0.length ≤ c0) (hm : l0.length ≤ 1000000) (h1 : decide (a2 < 24) = false) (h2 : decide (a2 < 256) = false) (h3 : decide (a2 < 65536) = false) (h4 : decide (a2 < 4294967296) = false) :
    Calls Try.prog 11 #[.slice A0 l0.length c0, .int .i64 a1, .int .u64 a2] w fun e w' => ∃ v0_ : Value, e = .returned v0_ ∧ Kd.R (Kd.int .u8) 5 w' w.heap.size (fun _ => True) v0_ (l0 ++ [Go.bits .or .u8 ((((Go.bits .and .i64 a1 7) % 256) * 32) % 256) 27, (a2 / 72057594037927936) % 256, (a2 / 281474976710656) % 256, (a2 / 1099511627776) % 256, (a2 / 4294967296) % 256, (a2 / 16777216) % 256, (a2 / 65536) % 256, (a2 / 256) % 256, (a2) % 256]) ∧ Below w.heap.size w w' := by
  have HR := Aside0.mk hr0
  clear hr0
  have hsl := fun w => x_slice_full Try.prog 25 Try.underlying25 1 (fun w => by kernel_rfl) A0 l0.length c0 hc0 w
  have HE := Aside0.mk (bytes_8 (l0 ++ [Go.bits .or .u8 ((((Go.bits .and .i64 a1 7) % 256) * 32) % 256) 27]) a2 (by simp; omega))
  go_enter Try.func11, Try.ntmps11
  go_wp2_with (first
    | (at_builtin; refine x_append_full (enc := Value.int .u8) (h1 := fun _ => rfl) (w0 := w) (0 : Int) rfl (.tmp 58) (.tmp 61) 25 5 (.int .u8 0) 1 rfl Try.underlying25 info5 rfl (by decide) A0 l0 (Go.bits .or .u8 ((((Go.bits .and .i64 a1 7) % 256) * 32) % 256) 27) rfl rfl HR.out (Below.refl _ _) (by omega) ?_; intro v1 w1 ho hb; have HO := Aside0.mk ho; have HB := Aside0.mk hb; clear ho hb)
    | (go_at_call 34; refine (chead_bytes.calls 9 (fun _ => True) _ (l0 ++ [Go.bits .or .u8 ((((Go.bits .and .i64 a1 7) % 256) * 32) % 256) 27]) a2 8 _ w w1 HB.out HO.out HE.out).mono ?_; rintro e w2 ⟨v2, rfl, ho, hb, hk⟩; have HO2 := Aside0.mk ho; have HB2 := Aside0.mk hb; clear ho hb hk))
  go_ret
  exact ⟨_, rfl, by simpa using Kd.R_mono HO2.out (fun _ _ => trivial), HB2.out⟩

/-- The contract, in the shape that the printed callers ask. -/
theorem chead_Put.calls (A0 : Option Addr) (c0 : Nat) (l0 : List Int) (a1 : Int) (a2 : Int) (r : List Int) (w : World) (hr0 : Kd.C (Kd.int .u8) w A0 l0.length l0) (hc0 : l0.length ≤ c0) (h : chead_Put.f l0 a1 a2 = some r) :
    Calls Try.prog 11 #[.slice A0 l0.length c0, .int .i64 a1, .int .u64 a2] w fun e w' => ∃ v0_ : Value, e = .returned (v0_) ∧ Kd.R (Kd.int .u8) 5 w' w.heap.size (fun _ => True) v0_ r ∧ Below w.heap.size w w' := by
  unfold chead_Put.f at h
  split at h
  · rename_i hm
    injection h with h
    subst h
    unfold chead_Put.head
    split
    · rename_i h1
      exact put_small A0 c0 l0 a1 a2 w hr0 hc0 hm (decide_eq_true h1)
    · rename_i h1
      split
      · rename_i h2
        exact put_one A0 c0 l0 a1 a2 w hr0 hc0 hm (decide_eq_false h1) (decide_eq_true h2)
      · rename_i h2
        split
        · rename_i h3
          exact put_two A0 c0 l0 a1 a2 w hr0 hc0 hm (decide_eq_false h1) (decide_eq_false h2) (decide_eq_true h3)
        · rename_i h3
          split
          · rename_i h4
            exact put_four A0 c0 l0 a1 a2 w hr0 hc0 hm (decide_eq_false h1) (decide_eq_false h2) (decide_eq_false h3) (decide_eq_true h4)
          · rename_i h4
            exact put_eight A0 c0 l0 a1 a2 w hr0 hc0 hm (decide_eq_false h1) (decide_eq_false h2) (decide_eq_false h3) (decide_eq_false h4)
  · cases h
end Go.Proofs.Ytpamgedmgjfjjaa.M
