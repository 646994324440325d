/-
Lemmas for FrameAll, for every input they speak of: XRef, XRRead, XFFields.
-/
import Derived.Test.YtpamgedmgjfjjaaDoorKFrameAll04
import Derived.Lib.Builder
import Derived.Lib.AppendStr
import Derived.Lib.UnsafeStr
import Derived.Lib.MakeNoZero
import Derived.Laws.Externs
import Derived.Laws.IdiomCopy
import Derived.Test.YtpamgedmgjfjjaaDoorKFrameAll06
import Derived.Test.YtpamgedmgjfjjaaDoorKFrameAll08
import Derived.Laws.BitsLemmas
import Derived.Test.YtpamgedmgjfjjaaDoorKFrameAll11
import Derived.Test.YtpamgedmgjfjjaaDoorKFrameAll12
import Derived.Test.YtpamgedmgjfjjaaDoorKFrameAll10
section
namespace Go.Proofs.YtpamgedmgjfjjaaDoor.M
open Go.RowKit Go.Proofs.YtpamgedmgjfjjaaDoorW.PrintWords Go.Proofs.YtpamgedmgjfjjaaDoorW.PrintLast Go.Proofs.YtpamgedmgjfjjaaDoorW.PrintMore
open Go.Lib (decodeN decode_at decodeL decodeL_drop)
set_option linter.unusedVariables false
set_option linter.unusedSimpArgs false
def bn (s : ByteArray) (n : Nat) : Nat := (s.get! n).toNat
theorem bt_bn (s : ByteArray) (n : Nat) : bt s (n : Int) = (bn s n : Int) := by
  unfold bt bn
  rw [Int.toNat_natCast]
  by_cases h : n < s.size
  · rw [dif_pos h]
    have : s.get! n = s[n]'h := by
      show s.data[n]! = s.data[n]
      rw [getElem!_pos]
    rw [this]
  · rw [dif_neg h]
    have : s.get! n = 0 := by
      show s.data[n]! = 0
      rw [getElem!_neg]
      · rfl
      · exact h
    rw [this]
    rfl
theorem bn_lt (s : ByteArray) (n : Nat) : bn s n < 256 := (s.get! n).toNat_lt
theorem and192e_all : ∀ x : Fin 256, (bits BinOp.and IntKind.u8 ((x.val : Nat) : Int) 192 == 128) = decide (x.val / 64 = 2) := by decide +kernel
theorem and192e (x : Nat) (h : x < 256) : (bits BinOp.and IntKind.u8 (x : Int) 192 == 128) = decide (x / 64 = 2) := and192e_all ⟨x, h⟩
def cB (s : ByteArray) (n : Nat) : Bool := decide (n < s.size ∧ bn s n / 64 = 2)
theorem ref_cont (s : ByteArray) (n : Nat) (i : Int) (hi : i = n) : erratumref04_cont.f s i = some (cB s n) := by
  subst hi
  unfold erratumref04_cont.f cB
  by_cases h : n < s.size
  · rw [if_pos (by omega), if_pos (by omega), bt_bn, and192e _ (bn_lt s n)]
    simp [h]
  · rw [if_neg (by omega)]
    simp [h]
def refR (s : ByteArray) (p : Nat) : Int × Int :=
  if bn s p < 128 then ((bn s p : Int), 1)
  else if 194 ≤ bn s p ∧ bn s p < 224 ∧ cB s (p + 1) = true then ((((bn s p % 32) * 64 + bn s (p + 1) % 64 : Nat) : Int), 2)
  else if 224 ≤ bn s p ∧ bn s p < 240 ∧ cB s (p + 1) = true ∧ cB s (p + 2) = true then
    (if 2048 ≤ (bn s p % 16) * 4096 + (bn s (p + 1) % 64) * 64 + bn s (p + 2) % 64 ∧ ((bn s p % 16) * 4096 + (bn s (p + 1) % 64) * 64 + bn s (p + 2) % 64 < 55296 ∨ 57343 < (bn s p % 16) * 4096 + (bn s (p + 1) % 64) * 64 + bn s (p + 2) % 64)
     then ((((bn s p % 16) * 4096 + (bn s (p + 1) % 64) * 64 + bn s (p + 2) % 64 : Nat) : Int), 3) else (-1, 1))
  else if 240 ≤ bn s p ∧ bn s p < 245 ∧ cB s (p + 1) = true ∧ cB s (p + 2) = true ∧ cB s (p + 3) = true then
    (if 65536 ≤ (bn s p % 8) * 262144 + (bn s (p + 1) % 64) * 4096 + (bn s (p + 2) % 64) * 64 + bn s (p + 3) % 64 ∧ (bn s p % 8) * 262144 + (bn s (p + 1) % 64) * 4096 + (bn s (p + 2) % 64) * 64 + bn s (p + 3) % 64 ≤ 1114111
     then ((((bn s p % 8) * 262144 + (bn s (p + 1) % 64) * 4096 + (bn s (p + 2) % 64) * 64 + bn s (p + 3) % 64 : Nat) : Int), 4) else (-1, 1))
  else (-1, 1)
theorem decN_bad (n b0 b1 b2 b3 : Nat) (h0 : ¬ b0 < 128) (h2 : ¬ (b0 / 32 = 6 ∧ (1 < n ∧ b1 / 64 = 2) ∧ 128 ≤ b0 % 32 * 64 + b1 % 64))
    (h3 : ¬ (b0 / 16 = 14 ∧ (1 < n ∧ b1 / 64 = 2) ∧ (2 < n ∧ b2 / 64 = 2) ∧ 2048 ≤ b0 % 16 * 4096 + b1 % 64 * 64 + b2 % 64 ∧ (b0 % 16 * 4096 + b1 % 64 * 64 + b2 % 64 < 55296 ∨ 57343 < b0 % 16 * 4096 + b1 % 64 * 64 + b2 % 64)))
    (h4 : ¬ (b0 / 8 = 30 ∧ (1 < n ∧ b1 / 64 = 2) ∧ (2 < n ∧ b2 / 64 = 2) ∧ (3 < n ∧ b3 / 64 = 2) ∧ 65536 ≤ b0 % 8 * 262144 + b1 % 64 * 4096 + b2 % 64 * 64 + b3 % 64 ∧ b0 % 8 * 262144 + b1 % 64 * 4096 + b2 % 64 * 64 + b3 % 64 ≤ 1114111)) :
    decodeN n b0 b1 b2 b3 = (65533, 1) := by
  unfold decodeN
  rw [if_neg h0]
  split
  · rename_i c
    rw [if_neg (by omega)]
  · split
    · rename_i c1 c
      rw [if_neg (by omega)]
    · split
      · rename_i c1 c2 c
        rw [if_neg (by omega)]
      · rfl
theorem good_if (r w : Nat) (h : ¬ (r = 65533 ∧ w = 1)) : (if Bad (r, w) then ((-1 : Int), (1 : Int)) else (((r, w).1 : Int), ((r, w).2 : Int))) = ((r : Int), (w : Int)) := if_neg (show ¬ Bad (r, w) from h)
theorem bad_if : (if Bad (65533, 1) then ((-1 : Int), (1 : Int)) else (((65533, 1) : Nat × Nat).1, ((65533, 1) : Nat × Nat).2)) = ((-1 : Int), (1 : Int)) := if_pos ⟨rfl, rfl⟩
theorem refR_N (n b0 b1 b2 b3 : Nat) (hb : b0 < 256) (C1 C2 C3 : Prop) [Decidable C1] [Decidable C2] [Decidable C3] (h1 : C1 ↔ (1 < n ∧ b1 / 64 = 2)) (h2 : C2 ↔ (2 < n ∧ b2 / 64 = 2)) (h3 : C3 ↔ (3 < n ∧ b3 / 64 = 2)) :
    (if b0 < 128 then ((b0 : Int), (1 : Int))
      else if 194 ≤ b0 ∧ b0 < 224 ∧ C1 then ((((b0 % 32) * 64 + b1 % 64 : Nat) : Int), 2)
      else if 224 ≤ b0 ∧ b0 < 240 ∧ C1 ∧ C2 then
        (if 2048 ≤ (b0 % 16) * 4096 + (b1 % 64) * 64 + b2 % 64 ∧ ((b0 % 16) * 4096 + (b1 % 64) * 64 + b2 % 64 < 55296 ∨ 57343 < (b0 % 16) * 4096 + (b1 % 64) * 64 + b2 % 64)
         then ((((b0 % 16) * 4096 + (b1 % 64) * 64 + b2 % 64 : Nat) : Int), 3) else (-1, 1))
      else if 240 ≤ b0 ∧ b0 < 245 ∧ C1 ∧ C2 ∧ C3 then
        (if 65536 ≤ (b0 % 8) * 262144 + (b1 % 64) * 4096 + (b2 % 64) * 64 + b3 % 64 ∧ (b0 % 8) * 262144 + (b1 % 64) * 4096 + (b2 % 64) * 64 + b3 % 64 ≤ 1114111
         then ((((b0 % 8) * 262144 + (b1 % 64) * 4096 + (b2 % 64) * 64 + b3 % 64 : Nat) : Int), 4) else (-1, 1))
      else (-1, 1)) = if Bad (decodeN n b0 b1 b2 b3) then (-1, 1) else (((decodeN n b0 b1 b2 b3).1 : Int), ((decodeN n b0 b1 b2 b3).2 : Int)) := by
  simp only [h1, h2, h3]
  by_cases c0 : b0 < 128
  · rw [if_pos c0, decN1 n b0 b1 b2 b3 c0, good_if _ _ (by omega)]
    rfl
  rw [if_neg c0]
  by_cases c2 : 194 ≤ b0 ∧ b0 < 224 ∧ 1 < n ∧ b1 / 64 = 2
  · rw [if_pos c2, decN2 n b0 b1 b2 b3 (b0 % 32 * 64 + b1 % 64) (by omega) (by omega) (by omega) rfl (by omega), good_if _ _ (by omega)]
    rfl
  rw [if_neg c2]
  by_cases c3 : 224 ≤ b0 ∧ b0 < 240 ∧ (1 < n ∧ b1 / 64 = 2) ∧ 2 < n ∧ b2 / 64 = 2
  · rw [if_pos c3]
    by_cases e3 : 2048 ≤ b0 % 16 * 4096 + b1 % 64 * 64 + b2 % 64 ∧ (b0 % 16 * 4096 + b1 % 64 * 64 + b2 % 64 < 55296 ∨ 57343 < b0 % 16 * 4096 + b1 % 64 * 64 + b2 % 64)
    · rw [if_pos e3, decN3 n b0 b1 b2 b3 (b0 % 16 * 4096 + b1 % 64 * 64 + b2 % 64) (by omega) (by omega) (by omega) (by omega) rfl (by omega) (by unfold Point; omega), good_if _ _ (by omega)]
      rfl
    · rw [if_neg e3, decN_bad n b0 b1 b2 b3 c0 (by omega) (by omega) (by omega), bad_if]
  rw [if_neg c3]
  by_cases c4 : 240 ≤ b0 ∧ b0 < 245 ∧ (1 < n ∧ b1 / 64 = 2) ∧ (2 < n ∧ b2 / 64 = 2) ∧ 3 < n ∧ b3 / 64 = 2
  · rw [if_pos c4]
    by_cases e4 : 65536 ≤ b0 % 8 * 262144 + b1 % 64 * 4096 + b2 % 64 * 64 + b3 % 64 ∧ b0 % 8 * 262144 + b1 % 64 * 4096 + b2 % 64 * 64 + b3 % 64 ≤ 1114111
    · rw [if_pos e4, decN4 n b0 b1 b2 b3 (b0 % 8 * 262144 + b1 % 64 * 4096 + b2 % 64 * 64 + b3 % 64) (by omega) (by omega) (by omega) (by omega) (by omega) rfl (by omega) (by unfold Point; omega), good_if _ _ (by omega)]
      rfl
    · rw [if_neg e4, decN_bad n b0 b1 b2 b3 c0 (by omega) (by omega) (by omega), bad_if]
  rw [if_neg c4, decN_bad n b0 b1 b2 b3 c0 (by omega) (by omega) (by omega), bad_if]
theorem refR_runeU (s : ByteArray) (p : Nat) (h : p < s.size) : refR s p = runeU s p := by
  have hc : ∀ i, (cB s (p + i) = true ↔ (i < s.size - p ∧ bn s (p + i) / 64 = 2)) := fun i => by
    unfold cB
    rw [decide_eq_true_iff]
    constructor
    · rintro ⟨h1, h2⟩; exact ⟨by omega, h2⟩
    · rintro ⟨h1, h2⟩; exact ⟨by omega, h2⟩
  have e := refR_N (s.size - p) (bn s p) (bn s (p + 1)) (bn s (p + 2)) (bn s (p + 3)) (bn_lt s p) _ _ _ (hc 1) (hc 2) (hc 3)
  unfold refR
  rw [e]
  have hd : Utf8.decode s p = decodeN (s.size - p) (bn s p) (bn s (p + 1)) (bn s (p + 2)) (bn s (p + 3)) := decode_at s p
  unfold runeU
  rw [if_neg (show ¬ ((p : Int) < 0 ∨ (s.size : Int) ≤ (p : Int)) by omega), Int.toNat_natCast, hd]
  rfl
theorem i32_mask (i : Nat) (hi : i ≤ 31) (x : Int) (h0 : 0 ≤ x) (h1 : x < 2147483648) (m : Int) (hm : m = 2 ^ i - 1) : bits .and .i32 x m = x % 2 ^ i := by
  subst hm
  exact bits_mask .i32 31 (by decide) wraps_i32 i hi x h0 h1
theorem wrap32_small (x : Int) (h0 : 0 ≤ x) (h1 : x < 2147483648) : wrap32 x = x := by
  unfold wrap32
  omega
theorem m63 (x : Nat) (h : x < 256) : wrap32 (bits .and .u8 (x : Int) 63) = ((x % 64 : Nat) : Int) := by
  have e : bits .and .u8 (x : Int) 63 = (x : Int) % 64 := u8_and63 (x := (x : Int)) (by omega) (by omega)
  rw [e, wrap32_small _ (by omega) (by omega)]
  rfl
theorem or6 (x y : Int) (hx0 : 0 ≤ x) (hx : x % 64 = 0) (hx1 : x < 2147483648) (h0 : 0 ≤ y) (h1 : y < 64) : bits .or .i32 x y = x + y := i32_or6 x y hx0 hx hx1 h0 h1
theorem or12 (x y : Int) (hx0 : 0 ≤ x) (hx : x % 4096 = 0) (hx1 : x < 2147483648) (h0 : 0 ≤ y) (h1 : y < 4096) : bits .or .i32 x y = x + y := i32_or12 x y hx0 hx hx1 h0 h1
theorem or18 (x y : Int) (hx0 : 0 ≤ x) (hx : x % 262144 = 0) (hx1 : x < 2147483648) (h0 : 0 ≤ y) (h1 : y < 262144) : bits .or .i32 x y = x + y := i32_or18 x y hx0 hx hx1 h0 h1
theorem r2eq (a b : Nat) (ha : a < 32) (hb : b < 64) : bits .or .i32 (wrap32 ((a : Int) * 64)) (b : Int) = ((a * 64 + b : Nat) : Int) := by
  rw [wrap32_small _ (by omega) (by omega), or6 _ _ (by omega) (by omega) (by omega) (by omega) (by omega)]
  omega
theorem r3eq (a b c : Nat) (ha : a < 16) (hb : b < 64) (hc : c < 64) : bits .or .i32 (bits .or .i32 (wrap32 ((a : Int) * 4096)) (wrap32 ((b : Int) * 64))) (c : Int) = ((a * 4096 + b * 64 + c : Nat) : Int) := by
  rw [wrap32_small _ (by omega) (by omega), wrap32_small _ (by omega) (by omega), or12 ((a : Int) * 4096) ((b : Int) * 64) (by omega) (by omega) (by omega) (by omega) (by omega), or6 ((a : Int) * 4096 + (b : Int) * 64) c (by omega) (by omega) (by omega) (by omega) (by omega)]
  omega
theorem r4eq (a b c d : Nat) (ha : a < 8) (hb : b < 64) (hc : c < 64) (hd : d < 64) : bits .or .i32 (bits .or .i32 (bits .or .i32 (wrap32 ((a : Int) * 262144)) (wrap32 ((b : Int) * 4096))) (wrap32 ((c : Int) * 64))) (d : Int) = ((a * 262144 + b * 4096 + c * 64 + d : Nat) : Int) := by
  rw [wrap32_small _ (by omega) (by omega), wrap32_small _ (by omega) (by omega), wrap32_small _ (by omega) (by omega), or18 ((a : Int) * 262144) ((b : Int) * 4096) (by omega) (by omega) (by omega) (by omega) (by omega), or12 ((a : Int) * 262144 + (b : Int) * 4096) ((c : Int) * 64) (by omega) (by omega) (by omega) (by omega) (by omega), or6 ((a : Int) * 262144 + (b : Int) * 4096 + (c : Int) * 64) d (by omega) (by omega) (by omega) (by omega) (by omega)]
  omega
set_option maxHeartbeats 4000000 in
theorem refRune_in (s : ByteArray) (p : Nat) (h : p < s.size) (hs : s.size ≤ 140737488351232) (k : Nat) : erratumref04_Rune.f (k + 4) s p = some (refR s p) := by
  have w1 : wrap64 ((p : Int) + 1) = ((p + 1 : Nat) : Int) := by unfold wrap64; omega
  have w2 : wrap64 ((p : Int) + 2) = ((p + 2 : Nat) : Int) := by unfold wrap64; omega
  have w3 : wrap64 ((p : Int) + 3) = ((p + 3 : Nat) : Int) := by unfold wrap64; omega
  have l0 := bn_lt s p
  have e0 : wrap32 (bn s p : Int) = (bn s p : Int) := wrap32_small _ (by omega) (by omega)
  have q1 := ref_cont s (p + 1) _ rfl
  have q2 := ref_cont s (p + 2) _ rfl
  have q3 := ref_cont s (p + 3) _ rfl
  have m1 := m63 _ (bn_lt s (p + 1))
  have m2 := m63 _ (bn_lt s (p + 2))
  have m3 := m63 _ (bn_lt s (p + 3))
  have a31 : bits .and .i32 (bn s p : Int) 31 = ((bn s p % 32 : Nat) : Int) := i32_mask 5 (by decide) _ (by omega) (by omega) 31 (by decide)
  have a15 : bits .and .i32 (bn s p : Int) 15 = ((bn s p % 16 : Nat) : Int) := i32_mask 4 (by decide) _ (by omega) (by omega) 15 (by decide)
  have a7 : bits .and .i32 (bn s p : Int) 7 = ((bn s p % 8 : Nat) : Int) := i32_mask 3 (by decide) _ (by omega) (by omega) 7 (by decide)
  have c1 : cB s (p + 1) = true → p + 1 < s.size := fun h => (of_decide_eq_true h).1
  have c2 : cB s (p + 2) = true → p + 2 < s.size := fun h => (of_decide_eq_true h).1
  have c3 : cB s (p + 3) = true → p + 3 < s.size := fun h => (of_decide_eq_true h).1
  have r2 := r2eq (bn s p % 32) (bn s (p + 1) % 64) (Nat.mod_lt _ (by decide)) (Nat.mod_lt _ (by decide))
  have r3 := r3eq (bn s p % 16) (bn s (p + 1) % 64) (bn s (p + 2) % 64) (Nat.mod_lt _ (by decide)) (Nat.mod_lt _ (by decide)) (Nat.mod_lt _ (by decide))
  have r4 := r4eq (bn s p % 8) (bn s (p + 1) % 64) (bn s (p + 2) % 64) (bn s (p + 3) % 64) (Nat.mod_lt _ (by decide)) (Nat.mod_lt _ (by decide)) (Nat.mod_lt _ (by decide)) (Nat.mod_lt _ (by decide))
  unfold erratumref04_Rune.f
  rw [if_neg (by omega), decide_eq_false (by omega)]
  simp only [erratumref04_Rune.j0, erratumref04_Rune.j1, erratumref04_Rune.j2, erratumref04_Rune.j3, w1, w2, w3, bt_bn, e0, q1, q2, q3, m1, m2, m3, a31, a15, a7, r2, r3, r4, Option.bind_some, Bool.false_eq_true, if_false]
  unfold refR
  clear w1 w2 w3 e0 q1 q2 q3 m1 m2 m3 a31 a15 a7 r2 r3 r4
  generalize cB s (p + 1) = C1 at *
  generalize cB s (p + 2) = C2 at *
  generalize cB s (p + 3) = C3 at *
  generalize bn s p = b0 at *
  generalize bn s (p + 1) = b1 at *
  generalize bn s (p + 2) = b2 at *
  generalize bn s (p + 3) = b3 at *
  rw [if_pos (by omega), if_pos (by omega)]
  obtain ⟨x2, hx2⟩ : ∃ x, b0 % 32 * 64 + b1 % 64 = x := ⟨_, rfl⟩
  obtain ⟨x3, hx3⟩ : ∃ x, b0 % 16 * 4096 + b1 % 64 * 64 + b2 % 64 = x := ⟨_, rfl⟩
  obtain ⟨x4, hx4⟩ : ∃ x, b0 % 8 * 262144 + b1 % 64 * 4096 + b2 % 64 * 64 + b3 % 64 = x := ⟨_, rfl⟩
  simp only [hx2, hx3, hx4]
  clear hx2 hx3 hx4
  have hp1 : ((0 : Int) ≤ ((p + 1 : Nat) : Int)) = True := eq_true (by omega)
  have hp2 : ((0 : Int) ≤ ((p + 2 : Nat) : Int)) = True := eq_true (by omega)
  have hp3 : ((0 : Int) ≤ ((p + 3 : Nat) : Int)) = True := eq_true (by omega)
  have k1 : C1 = true → (((p + 1 : Nat) : Int) < (s.size : Int)) = True := fun h => eq_true (by have := c1 h; omega)
  have k2 : C2 = true → (((p + 2 : Nat) : Int) < (s.size : Int)) = True := fun h => eq_true (by have := c2 h; omega)
  have k3 : C3 = true → (((p + 3 : Nat) : Int) < (s.size : Int)) = True := fun h => eq_true (by have := c3 h; omega)
  clear c1 c2 c3
  have hr : b0 < 128 ∨ (128 ≤ b0 ∧ b0 < 194) ∨ (194 ≤ b0 ∧ b0 < 224) ∨ (224 ≤ b0 ∧ b0 < 240) ∨ (240 ≤ b0 ∧ b0 < 245) ∨ 245 ≤ b0 := by omega
  rcases hr with hr | hr | hr | hr | hr | hr
  · have f1 : ((b0 : Int) < 128) = True := eq_true (by omega)
    have f2 : ((b0 : Int) ≥ 194) = False := eq_false (by omega)
    have f3 : ((b0 : Int) < 224) = True := eq_true (by omega)
    have f4 : ((b0 : Int) ≥ 224) = False := eq_false (by omega)
    have f5 : ((b0 : Int) < 240) = True := eq_true (by omega)
    have f6 : ((b0 : Int) ≥ 240) = False := eq_false (by omega)
    have f7 : ((b0 : Int) < 245) = True := eq_true (by omega)
    have f8 : (b0 < 128) = True := eq_true (by omega)
    have f9 : (194 ≤ b0) = False := eq_false (by omega)
    have f10 : (b0 < 224) = True := eq_true (by omega)
    have f11 : (224 ≤ b0) = False := eq_false (by omega)
    have f12 : (b0 < 240) = True := eq_true (by omega)
    have f13 : (240 ≤ b0) = False := eq_false (by omega)
    have f14 : (b0 < 245) = True := eq_true (by omega)
    simp only [f1, f2, f3, f4, f5, f6, f7, f8, f9, f10, f11, f12, f13, f14, hp1, hp2, hp3, if_true, if_false, true_and, false_and]
    try (cases C1 <;> cases C2 <;> cases C3 <;> simp only [k1, k2, k3, Bool.false_eq_true, if_true, if_false, true_and, and_true, false_and, and_false])
    all_goals (repeat' split)
    all_goals first | with_reducible rfl | (exfalso; omega)
  · have f1 : ((b0 : Int) < 128) = False := eq_false (by omega)
    have f2 : ((b0 : Int) ≥ 194) = False := eq_false (by omega)
    have f3 : ((b0 : Int) < 224) = True := eq_true (by omega)
    have f4 : ((b0 : Int) ≥ 224) = False := eq_false (by omega)
    have f5 : ((b0 : Int) < 240) = True := eq_true (by omega)
    have f6 : ((b0 : Int) ≥ 240) = False := eq_false (by omega)
    have f7 : ((b0 : Int) < 245) = True := eq_true (by omega)
    have f8 : (b0 < 128) = False := eq_false (by omega)
    have f9 : (194 ≤ b0) = False := eq_false (by omega)
    have f10 : (b0 < 224) = True := eq_true (by omega)
    have f11 : (224 ≤ b0) = False := eq_false (by omega)
    have f12 : (b0 < 240) = True := eq_true (by omega)
    have f13 : (240 ≤ b0) = False := eq_false (by omega)
    have f14 : (b0 < 245) = True := eq_true (by omega)
    simp only [f1, f2, f3, f4, f5, f6, f7, f8, f9, f10, f11, f12, f13, f14, hp1, hp2, hp3, if_true, if_false, true_and, false_and]
    try (cases C1 <;> cases C2 <;> cases C3 <;> simp only [k1, k2, k3, Bool.false_eq_true, if_true, if_false, true_and, and_true, false_and, and_false])
    all_goals (repeat' split)
    all_goals first | with_reducible rfl | (exfalso; omega)
  · have f1 : ((b0 : Int) < 128) = False := eq_false (by omega)
    have f2 : ((b0 : Int) ≥ 194) = True := eq_true (by omega)
    have f3 : ((b0 : Int) < 224) = True := eq_true (by omega)
    have f4 : ((b0 : Int) ≥ 224) = False := eq_false (by omega)
    have f5 : ((b0 : Int) < 240) = True := eq_true (by omega)
    have f6 : ((b0 : Int) ≥ 240) = False := eq_false (by omega)
    have f7 : ((b0 : Int) < 245) = True := eq_true (by omega)
    have f8 : (b0 < 128) = False := eq_false (by omega)
    have f9 : (194 ≤ b0) = True := eq_true (by omega)
    have f10 : (b0 < 224) = True := eq_true (by omega)
    have f11 : (224 ≤ b0) = False := eq_false (by omega)
    have f12 : (b0 < 240) = True := eq_true (by omega)
    have f13 : (240 ≤ b0) = False := eq_false (by omega)
    have f14 : (b0 < 245) = True := eq_true (by omega)
    simp only [f1, f2, f3, f4, f5, f6, f7, f8, f9, f10, f11, f12, f13, f14, hp1, hp2, hp3, if_true, if_false, true_and, false_and]
    try (cases C1 <;> cases C2 <;> cases C3 <;> simp only [k1, k2, k3, Bool.false_eq_true, if_true, if_false, true_and, and_true, false_and, and_false])
    all_goals (repeat' split)
    all_goals first | with_reducible rfl | (exfalso; omega)
  · have f1 : ((b0 : Int) < 128) = False := eq_false (by omega)
    have f2 : ((b0 : Int) ≥ 194) = True := eq_true (by omega)
    have f3 : ((b0 : Int) < 224) = False := eq_false (by omega)
    have f4 : ((b0 : Int) ≥ 224) = True := eq_true (by omega)
    have f5 : ((b0 : Int) < 240) = True := eq_true (by omega)
    have f6 : ((b0 : Int) ≥ 240) = False := eq_false (by omega)
    have f7 : ((b0 : Int) < 245) = True := eq_true (by omega)
    have f8 : (b0 < 128) = False := eq_false (by omega)
    have f9 : (194 ≤ b0) = True := eq_true (by omega)
    have f10 : (b0 < 224) = False := eq_false (by omega)
    have f11 : (224 ≤ b0) = True := eq_true (by omega)
    have f12 : (b0 < 240) = True := eq_true (by omega)
    have f13 : (240 ≤ b0) = False := eq_false (by omega)
    have f14 : (b0 < 245) = True := eq_true (by omega)
    simp only [f1, f2, f3, f4, f5, f6, f7, f8, f9, f10, f11, f12, f13, f14, hp1, hp2, hp3, if_true, if_false, true_and, false_and]
    try (cases C1 <;> cases C2 <;> cases C3 <;> simp only [k1, k2, k3, Bool.false_eq_true, if_true, if_false, true_and, and_true, false_and, and_false])
    all_goals (repeat' split)
    all_goals first | with_reducible rfl | (exfalso; omega)
  · have f1 : ((b0 : Int) < 128) = False := eq_false (by omega)
    have f2 : ((b0 : Int) ≥ 194) = True := eq_true (by omega)
    have f3 : ((b0 : Int) < 224) = False := eq_false (by omega)
    have f4 : ((b0 : Int) ≥ 224) = True := eq_true (by omega)
    have f5 : ((b0 : Int) < 240) = False := eq_false (by omega)
    have f6 : ((b0 : Int) ≥ 240) = True := eq_true (by omega)
    have f7 : ((b0 : Int) < 245) = True := eq_true (by omega)
    have f8 : (b0 < 128) = False := eq_false (by omega)
    have f9 : (194 ≤ b0) = True := eq_true (by omega)
    have f10 : (b0 < 224) = False := eq_false (by omega)
    have f11 : (224 ≤ b0) = True := eq_true (by omega)
    have f12 : (b0 < 240) = False := eq_false (by omega)
    have f13 : (240 ≤ b0) = True := eq_true (by omega)
    have f14 : (b0 < 245) = True := eq_true (by omega)
    simp only [f1, f2, f3, f4, f5, f6, f7, f8, f9, f10, f11, f12, f13, f14, hp1, hp2, hp3, if_true, if_false, true_and, false_and]
    try (cases C1 <;> cases C2 <;> cases C3 <;> simp only [k1, k2, k3, Bool.false_eq_true, if_true, if_false, true_and, and_true, false_and, and_false])
    all_goals (repeat' split)
    all_goals first | with_reducible rfl | (exfalso; omega)
  · have f1 : ((b0 : Int) < 128) = False := eq_false (by omega)
    have f2 : ((b0 : Int) ≥ 194) = True := eq_true (by omega)
    have f3 : ((b0 : Int) < 224) = False := eq_false (by omega)
    have f4 : ((b0 : Int) ≥ 224) = True := eq_true (by omega)
    have f5 : ((b0 : Int) < 240) = False := eq_false (by omega)
    have f6 : ((b0 : Int) ≥ 240) = True := eq_true (by omega)
    have f7 : ((b0 : Int) < 245) = False := eq_false (by omega)
    have f8 : (b0 < 128) = False := eq_false (by omega)
    have f9 : (194 ≤ b0) = True := eq_true (by omega)
    have f10 : (b0 < 224) = False := eq_false (by omega)
    have f11 : (224 ≤ b0) = True := eq_true (by omega)
    have f12 : (b0 < 240) = False := eq_false (by omega)
    have f13 : (240 ≤ b0) = True := eq_true (by omega)
    have f14 : (b0 < 245) = False := eq_false (by omega)
    simp only [f1, f2, f3, f4, f5, f6, f7, f8, f9, f10, f11, f12, f13, f14, hp1, hp2, hp3, if_true, if_false, true_and, false_and]
    try (cases C1 <;> cases C2 <;> cases C3 <;> simp only [k1, k2, k3, Bool.false_eq_true, if_true, if_false, true_and, and_true, false_and, and_false])
    all_goals (repeat' split)
    all_goals first | with_reducible rfl | (exfalso; omega)
theorem refRune (s : ByteArray) (i : Int) (hs : s.size ≤ 140737488351232) (k : Nat) : erratumref04_Rune.f (k + 4) s i = some (runeU s i) := by
  by_cases h0 : i < 0
  · rw [runeU_out s i (.inl h0)]
    unfold erratumref04_Rune.f
    rw [if_pos h0]
    simp only [erratumref04_Rune.j0, if_true]
  · by_cases h1 : (s.size : Int) ≤ i
    · rw [runeU_out s i (.inr h1)]
      unfold erratumref04_Rune.f
      rw [if_neg h0, decide_eq_true (show i ≥ (s.size : Int) from h1)]
      simp only [erratumref04_Rune.j0, if_true]
    · obtain ⟨p, rfl⟩ := Int.eq_ofNat_of_zero_le (show 0 ≤ i by omega)
      have hp : p < s.size := by omega
      rw [refRune_in s p hp hs k, refR_runeU s p hp]
theorem refRune_k (s : ByteArray) (i : Int) (hs : s.size ≤ 140737488351232) (k : Nat) (hk : 4 ≤ k) : erratumref04_Rune.f k s i = some (runeU s i) := by
  obtain ⟨m, rfl⟩ : ∃ m, k = m + 4 := ⟨k - 4, by omega⟩
  exact refRune s i hs m
theorem runeU_wid (s : ByteArray) (pos : Nat) (h : pos < s.size) : (runeU s pos).2 = ((Utf8.decode s pos).2 : Int) ∧ 1 ≤ (Utf8.decode s pos).2 ∧ pos + (Utf8.decode s pos).2 ≤ s.size := by
  have hne : ¬ (s.data.toList.drop pos = []) := by
    intro h0
    have := congrArg List.length h0
    rw [List.length_drop, data_length, List.length_nil] at this
    omega
  have hle := dec_le' _ hne
  have hpos := dec_pos (s.data.toList.drop pos)
  rw [decodeL_drop] at hle hpos
  rw [List.length_drop, data_length] at hle
  refine ⟨?_, hpos, by omega⟩
  unfold runeU
  rw [if_neg (by omega), Int.toNat_natCast]
  split
  · rename_i hb
    rw [hb.2]; rfl
  · rfl
theorem refRunes_from (s : ByteArray) (hs : s.size ≤ 1000000) : ∀ (d k pos : Nat) (out : List Int), d + 5 ≤ k → s.size ≤ pos + d → pos ≤ s.size → out.length ≤ pos → erratumref04_Runes.l0 k s out pos = some (out ++ runesU s d pos)
  | 0, k, pos, out, hk, h1, h2, h3 => by
    obtain ⟨m, rfl⟩ : ∃ m, k = m + 1 := ⟨k - 1, by omega⟩
    simp only [erratumref04_Runes.l0]
    rw [if_neg (by omega)]
    simp [runesU]
  | d + 1, k, pos, out, hk, h1, h2, h3 => by
    obtain ⟨m, rfl⟩ : ∃ m, k = m + 1 := ⟨k - 1, by omega⟩
    simp only [erratumref04_Runes.l0]
    by_cases h : pos < s.size
    · obtain ⟨hw, hpos, hle⟩ := runeU_wid s pos h
      rw [if_pos (by omega), refRune_k s pos (by omega) m (by omega)]
      simp only [Option.bind_some]
      have e : wrap64 ((pos : Int) + ((Utf8.decode s pos).2 : Int)) = ((pos + (Utf8.decode s pos).2 : Nat) : Int) := by
        unfold wrap64
        omega
      rw [if_pos (by omega), runesU, if_pos h, hw, e, refRunes_from s hs d m _ _ (by omega) (by omega) (by omega) (by rw [List.length_append]; simp; omega)]
      simp
    · rw [if_neg (by omega), runesU_end s _ _ h]
      simp
theorem refRunes_k (s : ByteArray) (hs : s.size ≤ 1000000) (k : Nat) (hk : s.size + 5 ≤ k) : erratumref04_Runes.f k s = some (rAll s.data.toList) := by
  unfold erratumref04_Runes.f
  have h := refRunes_from s hs s.size k 0 [] hk (by omega) (by omega) (by simp)
  rw [runesU_all] at h
  exact h
def noBad (l : List Int) : Bool := l.all fun r => decide (0 ≤ r)
theorem refValid_from (l : List Int) (hl : l.length ≤ 1000000) : ∀ (d k pos : Nat), d + 1 ≤ k → l.length = pos + d → erratumref04_Valid.l0 k l pos = some (noBad (l.drop pos))
  | 0, k, pos, hk, h1 => by
    obtain ⟨m, rfl⟩ : ∃ m, k = m + 1 := ⟨k - 1, by omega⟩
    simp only [erratumref04_Valid.l0]
    rw [if_neg (by omega), List.drop_eq_nil_of_le (by omega)]
    rfl
  | d + 1, k, pos, hk, h1 => by
    obtain ⟨m, rfl⟩ : ∃ m, k = m + 1 := ⟨k - 1, by omega⟩
    simp only [erratumref04_Valid.l0]
    have hp : pos < l.length := by omega
    have e : l.drop pos = rd l pos :: l.drop (pos + 1) := by
      rw [List.drop_eq_getElem_cons hp]
      congr 1
      simp [rd, List.getD_eq_getElem?_getD, hp]
    have e2 : wrap64 ((pos : Int) + 1) = ((pos + 1 : Nat) : Int) := by unfold wrap64; omega
    rw [if_pos (by omega), if_pos (by omega), e2, e]
    by_cases hneg : rd l pos < 0
    · rw [if_pos hneg]
      simp [noBad]
      omega
    · rw [if_neg hneg, refValid_from l hl d m (pos + 1) (by omega) (by omega)]
      simp [noBad]
      omega
theorem rAll_noBad_good (l : List UInt8) : ∀ n, l.length ≤ n → (noBad (rAll l) = true ↔ Good l) := by
  intro n
  induction n generalizing l with
  | zero =>
    intro h
    obtain rfl : l = [] := List.length_eq_zero_iff.1 (by omega)
    exact ⟨fun _ => .nil, fun _ => rfl⟩
  | succ n ih =>
    intro h
    by_cases h0 : l = []
    · subst h0
      exact ⟨fun _ => .nil, fun _ => rfl⟩
    · have hp := dec_pos l
      have hl := List.length_pos_iff.2 h0
      rw [rAll_step l h0]
      have ih' := ih (l.drop (decodeL l).2) (by rw [List.length_drop]; omega)
      unfold headR
      by_cases hb : Bad (decodeL l)
      · rw [if_pos hb]
        constructor
        · intro h; simp [noBad] at h
        · intro h
          cases h with
          | nil => exact absurd rfl h0
          | rune _ _ hg _ => exact absurd hb hg
      · rw [if_neg hb]
        constructor
        · intro h
          refine .rune l h0 hb (ih'.1 ?_)
          simp [noBad] at h ⊢
          exact h
        · intro h
          cases h with
          | nil => exact absurd rfl h0
          | rune _ _ _ h2 =>
            have := ih'.2 h2
            simp [noBad] at this ⊢
            exact this
theorem refValid_k (s : ByteArray) (hs : s.size ≤ 1000000) (k : Nat) (hk : s.size + 5 ≤ k) : erratumref04_Valid.f k s = some (validU s s.size 0) := by
  unfold erratumref04_Valid.f
  rw [refRunes_k s hs k hk]
  simp only [Option.bind_some]
  have hl := rAll_len s.data.toList
  rw [data_length] at hl
  have h := refValid_from (rAll s.data.toList) (by omega) (rAll s.data.toList).length k 0 (by omega) (by omega)
  have e : noBad (rAll s.data.toList) = validU s s.size 0 := by
    rw [Bool.eq_iff_iff, validU_good, rAll_noBad_good _ _ (Nat.le_refl _)]
  rw [List.drop_zero, e] at h
  exact h
end Go.Proofs.YtpamgedmgjfjjaaDoor.M
end
section
namespace Go.Proofs.YtpamgedmgjfjjaaDoor.M
open Go.RowKit Go.Proofs.YtpamgedmgjfjjaaDoorW.PrintWords Go.Proofs.YtpamgedmgjfjjaaDoorW.PrintLast Go.Proofs.YtpamgedmgjfjjaaDoorW.PrintMore
set_option linter.unusedVariables false
set_option linter.unusedSimpArgs false
theorem bt_list (s : ByteArray) (j : Nat) (h : j < s.size) : (bytesOf s)[j]? = some (bt s (j : Int)) := by
  have hs : j < s.data.toList.length := by rw [Array.length_toList]; exact h
  rw [bytesOf, List.getElem?_map, List.getElem?_eq_getElem hs]
  simp only [Option.map_some]
  unfold bt
  rw [dif_pos (by rw [Int.toNat_natCast]; exact h)]
  rfl
theorem step8 (v x : Int) (h0 : 0 ≤ v) (h1 : v < 16777216) (h2 : 0 ≤ x) (h3 : x ≤ 255) : wrap64 (wrap64 (v * 256) + wrap64 x) = v * 256 + x := by
  have e1 : wrap64 (v * 256) = v * 256 := by unfold wrap64; omega
  have e2 : wrap64 x = x := by unfold wrap64; omega
  rw [e1, e2]
  unfold wrap64
  omega
theorem step1 (j : Nat) (h : j < 100) : wrap64 ((j : Int) + 1) = ((j + 1 : Nat) : Int) := by unfold wrap64; omega
theorem num_l0 (x : ByteArray) (hx : x.size ≤ 4) (a : ByteArray) (b : Int) (c : Bool) : ∀ (fuel j : Nat), j ≤ x.size → x.size < j + fuel → erratumref25_R_number.l0 fuel x (numL ((bytesOf x).take j)) (j : Int) a b c = some (numL (bytesOf x), a, b, c) := by
  intro fuel
  induction fuel with
  | zero => intro j h1 h2; omega
  | succ fuel ih =>
    intro j h1 h2
    unfold erratumref25_R_number.l0
    by_cases hj : j < x.size
    · rw [if_pos (by omega), if_pos (by omega)]
      have hb := bt_list x j hj
      have hbd := bytes_bytesOf x (bt x (j : Int)) (List.mem_of_getElem? hb)
      have hst := numL_step (bytesOf x) j _ hb
      have hn := numL_bound ((bytesOf x).take j) (bytes_take (bytes_bytesOf x) j)
      have hp := pow256 ((bytesOf x).take j).length (by rw [List.length_take]; omega)
      rw [step8 _ _ hn.1 (by omega) hbd.1 hbd.2, step1 j (by omega), ← hst]
      exact ih (j + 1) (by omega) (by omega)
    · have hjj : j = x.size := by omega
      rw [if_neg (by omega), hjj, List.take_of_length_le (by rw [bytesOf_length]; omega)]
theorem extract_str (s : ByteArray) (k n : Nat) (h : k + n ≤ s.size) : s.extract k (k + n) = strOfNums (((bytesOf s).drop k).take n) := by
  apply ba_eq'
  rw [strOfNums_data]
  have : (s.extract k (k + n)).data.toList = (s.data.toList.drop k).take n := by simp [ByteArray.data_extract, List.extract_eq_take_drop]
  rw [this, bytesOf, ← List.map_drop, ← List.map_take, List.map_map]
  have e : ((fun n : Int => UInt8.ofNat n.toNat) ∘ fun b : UInt8 => (b.toNat : Int)) = id := by
    funext b
    simp
  rw [e, List.map_id]
theorem bytes_str (l : List Int) (h : Bytes l) : bytesOf (strOfNums l) = l := by
  rw [bytesOf, strOfNums_data, List.map_map]
  have : ∀ x ∈ l, ((fun b : UInt8 => (b.toNat : Int)) ∘ fun n : Int => UInt8.ofNat n.toNat) x = x := by
    intro x hx
    have := h x hx
    simp
    omega
  rw [List.map_congr_left this, List.map_id']
theorem textF (s : ByteArray) (k : Nat) (hk : k ≤ s.size) (hs : s.size ≤ 1000000) (n : Int) (h0 : 0 ≤ n) (h1 : n ≤ 4294967296) :
    erratumref25_R_text.f s k false n = if n ≤ (s.size : Int) - k then some (strOfNums (((bytesOf s).drop k).take n.toNat), s, ((k + n.toNat : Nat) : Int), false) else some (⟨#[]⟩, s, (k : Int), true) := by
  have e1 : wrap64 ((s.size : Int) - k) = (s.size : Int) - k := by unfold wrap64; omega
  have e2 : wrap64 ((k : Int) + n) = ((k + n.toNat : Nat) : Int) := by unfold wrap64; omega
  unfold erratumref25_R_text.f
  rw [if_neg (by simp), if_neg (by omega), e1, e2]
  by_cases h : n ≤ (s.size : Int) - k
  · rw [if_neg (by omega), if_pos (by omega), if_pos (by omega), if_pos (by omega), if_pos h, Int.toNat_natCast, Int.toNat_natCast, extract_str s k n.toNat (by omega)]
  · rw [if_pos (by omega), if_neg h]
theorem textF_bad (s : ByteArray) (k : Int) (n : Int) : erratumref25_R_text.f s k true n = some (⟨#[]⟩, s, k, true) := by
  unfold erratumref25_R_text.f
  rw [if_pos rfl]
theorem numF (s : ByteArray) (k : Nat) (hk : k ≤ s.size) (hs : s.size ≤ 1000000) (n : Nat) (h1 : n ≤ 4) :
    erratumref25_R_number.f 5 s k false n = if n ≤ s.size - k then some (numL (((bytesOf s).drop k).take n), s, ((k + n : Nat) : Int), false) else some (0, s, (k : Int), true) := by
  unfold erratumref25_R_number.f
  rw [textF s k hk hs n (by omega) (by omega)]
  by_cases h : n ≤ s.size - k
  · rw [if_pos (by omega), if_pos h, Option.bind_some]
    have hsz : (strOfNums (((bytesOf s).drop k).take (n : Int).toNat)).size ≤ 4 := by rw [strOfNums_size, List.length_take]; omega
    have := num_l0 (strOfNums (((bytesOf s).drop k).take (n : Int).toNat)) hsz s ((k + (n : Int).toNat : Nat) : Int) false 5 0 (by omega) (by omega)
    rw [bytes_str _ (bytes_take (fun x hx => bytes_bytesOf s x (List.mem_of_mem_drop hx)) _), Int.toNat_natCast] at this
    rw [Int.toNat_natCast]
    exact this
  · rw [if_neg (by omega), if_neg h, Option.bind_some]
    have := num_l0 ⟨#[]⟩ (by decide) s (k : Int) true 5 0 (by decide) (by decide)
    exact this
theorem numF_bad (s : ByteArray) (k n : Int) : erratumref25_R_number.f 5 s k true n = some (0, s, k, true) := by
  unfold erratumref25_R_number.f
  rw [textF_bad, Option.bind_some]
  exact num_l0 ⟨#[]⟩ (by decide) s k true 5 0 (by decide) (by decide)
def RSt (w0 W : World) (g : Nat) (s : ByteArray) : Option (List Int) → Prop
  | .none => ∃ k : Int, IsS93 w0 W g s k true
  | some l => ∃ k : Nat, k ≤ s.size ∧ l = (bytesOf s).drop k ∧ IsS93 w0 W g s k false
def rN (n : Nat) : Option (List Int) → Int × Option (List Int)
  | .none => (0, .none)
  | some l => if n ≤ l.length then (numL (l.take n), some (l.drop n)) else (0, .none)
def rT (n : Int) : Option (List Int) → ByteArray × Option (List Int)
  | .none => (.empty, .none)
  | some l => if n ≤ l.length then (strOfNums (l.take n.toNat), some (l.drop n.toNat)) else (.empty, .none)
theorem rN_calls (w0 w : World) (g : Nat) (s : ByteArray) (st : Option (List Int)) (n : Nat) (hs : s.size ≤ 1000000) (h1 : n ≤ 4) (h : RSt w0 w g s st) (hB : Below w0.heap.size w0 w) :
    Calls Tryd.prog 61 #[.pointer (some ⟨g, 0, none⟩), .int .i64 n] w fun e w' => e = .returned (.int .i64 (rN n st).1) ∧ RSt w0 w' g s (rN n st).2 ∧ Below w0.heap.size w0 w' ∧ KeepBut w w' g none := by
  cases st with
  | none =>
    obtain ⟨k, hI⟩ := h
    exact (erratumref25_R_number.calls 5 g s k true n _ _ _ _ w0 w hI hB (numF_bad s k n)).mono fun e w' ⟨h1, h2, h3, h4⟩ => ⟨h1, ⟨k, h2⟩, h3, h4⟩
  | some l =>
    obtain ⟨k, hk, rfl, hI⟩ := h
    have hf := numF s k hk hs n h1
    have hl : ((bytesOf s).drop k).length = s.size - k := by rw [List.length_drop, bytesOf_length]
    by_cases hc : n ≤ s.size - k
    · rw [if_pos hc] at hf
      rw [show rN n (some ((bytesOf s).drop k)) = (numL (((bytesOf s).drop k).take n), some (((bytesOf s).drop k).drop n)) from if_pos (by omega)]
      exact (erratumref25_R_number.calls 5 g s k false n _ _ _ _ w0 w hI hB hf).mono fun e w' ⟨h1, h2, h3, h4⟩ => ⟨h1, ⟨k + n, by omega, by rw [List.drop_drop], h2⟩, h3, h4⟩
    · rw [if_neg hc] at hf
      rw [show rN n (some ((bytesOf s).drop k)) = (0, .none) from if_neg (by omega)]
      exact (erratumref25_R_number.calls 5 g s k false n _ _ _ _ w0 w hI hB hf).mono fun e w' ⟨h1, h2, h3, h4⟩ => ⟨h1, ⟨k, h2⟩, h3, h4⟩
theorem rT_calls (w0 w : World) (g : Nat) (s : ByteArray) (st : Option (List Int)) (n : Int) (hs : s.size ≤ 1000000) (h0 : 0 ≤ n) (h1 : n ≤ 4294967296) (h : RSt w0 w g s st) (hB : Below w0.heap.size w0 w) :
    Calls Tryd.prog 62 #[.pointer (some ⟨g, 0, none⟩), .int .i64 n] w fun e w' => e = .returned (.string (rT n st).1) ∧ RSt w0 w' g s (rT n st).2 ∧ Below w0.heap.size w0 w' ∧ KeepBut w w' g none := by
  cases st with
  | none =>
    obtain ⟨k, hI⟩ := h
    exact (erratumref25_R_text.calls g s k true n _ _ _ _ w0 w hI hB (textF_bad s k n)).mono fun e w' ⟨h1, h2, h3, h4⟩ => ⟨h1, ⟨k, h2⟩, h3, h4⟩
  | some l =>
    obtain ⟨k, hk, rfl, hI⟩ := h
    have hf := textF s k hk hs n h0 h1
    have hl : ((bytesOf s).drop k).length = s.size - k := by rw [List.length_drop, bytesOf_length]
    by_cases hc : n ≤ (s.size : Int) - k
    · rw [if_pos hc] at hf
      rw [show rT n (some ((bytesOf s).drop k)) = (strOfNums (((bytesOf s).drop k).take n.toNat), some (((bytesOf s).drop k).drop n.toNat)) from if_pos (by omega)]
      exact (erratumref25_R_text.calls g s k false n _ _ _ _ w0 w hI hB hf).mono fun e w' ⟨h1, h2, h3, h4⟩ => ⟨h1, ⟨k + n.toNat, by omega, by rw [List.drop_drop], h2⟩, h3, h4⟩
    · rw [if_neg hc] at hf
      rw [show rT n (some ((bytesOf s).drop k)) = (.empty, .none) from if_neg (by omega)]
      exact (erratumref25_R_text.calls g s k false n _ _ _ _ w0 w hI hB hf).mono fun e w' ⟨h1, h2, h3, h4⟩ => ⟨h1, ⟨k, h2⟩, h3, h4⟩
end Go.Proofs.YtpamgedmgjfjjaaDoor.M
end
section
namespace Go.Proofs.YtpamgedmgjfjjaaDoor.M
open Go.RowKit Go.Proofs.YtpamgedmgjfjjaaDoorW.PrintWords Go.Proofs.YtpamgedmgjfjjaaDoorW.PrintLast Go.Proofs.YtpamgedmgjfjjaaDoorW.PrintMore
set_option linter.unusedVariables false
set_option linter.unusedSimpArgs false
theorem ref_in_B (v lo hi : Int) : erratumref25_in.f v lo hi = some (inB v lo hi) := by
  unfold erratumref25_in.f inB
  by_cases h : lo ≤ v
  · rw [if_pos h]; simp [h]
  · rw [if_neg h]; simp [h]
theorem refCheck_k (q : AskV) (hn : q.name.size ≤ 1000000) : erratumref25_Check.f (q.name.size + 5) q.k q.name q.f q.lang q.out q.dst q.mat q.body = some q.ok := by
  unfold erratumref25_Check.f AskV.ok
  simp only [ref_in_B, refValid_k q.name hn (q.name.size + 5) (Nat.le_refl _), Option.bind_some]
  have e : decide ((q.body.size : Int) ≤ 32768) = decide (q.body.size ≤ 32768) := by
    by_cases h : q.body.size ≤ 32768
    · rw [decide_eq_true h, decide_eq_true (by omega)]
    · rw [decide_eq_false h, decide_eq_false (by omega)]
  rw [e]
  cases inB q.k 1 6 <;> cases inB q.name.size 1 40 <;> cases validU q.name q.name.size 0 <;> cases inB q.f 0 3 <;> cases inB q.out 0 3 <;> cases inB q.lang 0 3 <;> cases inB q.dst 0 3 <;> cases inB q.mat 0 2147483647 <;> simp
theorem refCheck_calls (q : AskV) (hn : q.name.size ≤ 1000000) (w : World) : Calls Tryd.prog 29 #[.agg q.cells] w fun e w' => e = .returned (.bool q.ok) ∧ Below w.heap.size w w' :=
  erratumref25_Check.calls _ _ _ _ _ _ _ _ _ _ w (refCheck_k q hn)
end Go.Proofs.YtpamgedmgjfjjaaDoor.M
end
