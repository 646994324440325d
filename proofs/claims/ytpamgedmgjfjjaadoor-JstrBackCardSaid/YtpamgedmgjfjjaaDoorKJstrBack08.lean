/-
Lemmas for JstrBack, for every input they speak of: XRef, XJRead.
-/
import Derived.Test.YtpamgedmgjfjjaaDoorKJstrBack03
import Derived.Test.YtpamgedmgjfjjaaDoorKJstrBack05
import Derived.Test.YtpamgedmgjfjjaaDoorKJstrBack07
import Derived.Laws.BitsLemmas
import Derived.BigQuiet
section
namespace Go.Proofs.YtpamgedmgjfjjaaDoor.M
open Go.RowKit Go.Proofs.YtpamgedmgjfjjaaDoorW.PrintWords Go.Proofs.YtpamgedmgjfjjaaDoorW.PrintLast Go.Proofs.YtpamgedmgjfjjaaDoorW.PrintMore
open Go.Lib (decodeN decode_at decodeL decodeL_drop)
set_option linter.unusedVariables false
set_option linter.unusedSimpArgs false
def bn (s : ByteArray) (n : Nat) : Nat := (s.get! n).toNat
theorem bt_bn (s : ByteArray) (n : Nat) : bt s (n : Int) = (bn s n : Int) := by
  unfold bt bn
  rw [Int.toNat_natCast]
  by_cases h : n < s.size
  · rw [dif_pos h]
    have : s.get! n = s[n]'h := by
      show s.data[n]! = s.data[n]
      rw [getElem!_pos]
    rw [this]
  · rw [dif_neg h]
    have : s.get! n = 0 := by
      show s.data[n]! = 0
      rw [getElem!_neg]
      · rfl
      · exact h
    rw [this]
    rfl
theorem bn_lt (s : ByteArray) (n : Nat) : bn s n < 256 := (s.get! n).toNat_lt
theorem and192e_all : ∀ x : Fin 256, (bits BinOp.and IntKind.u8 ((x.val : Nat) : Int) 192 == 128) = decide (x.val / 64 = 2) := by decide +kernel
theorem and192e (x : Nat) (h : x < 256) : (bits BinOp.and IntKind.u8 (x : Int) 192 == 128) = decide (x / 64 = 2) := and192e_all ⟨x, h⟩
def cB (s : ByteArray) (n : Nat) : Bool := decide (n < s.size ∧ bn s n / 64 = 2)
theorem ref_cont (s : ByteArray) (n : Nat) (i : Int) (hi : i = n) : erratumref04_cont.f s i = some (cB s n) := by
  subst hi
  unfold erratumref04_cont.f cB
  by_cases h : n < s.size
  · rw [if_pos (by omega), if_pos (by omega), bt_bn, and192e _ (bn_lt s n)]
    simp [h]
  · rw [if_neg (by omega)]
    simp [h]
def refR (s : ByteArray) (p : Nat) : Int × Int :=
  if bn s p < 128 then ((bn s p : Int), 1)
  else if 194 ≤ bn s p ∧ bn s p < 224 ∧ cB s (p + 1) = true then ((((bn s p % 32) * 64 + bn s (p + 1) % 64 : Nat) : Int), 2)
  else if 224 ≤ bn s p ∧ bn s p < 240 ∧ cB s (p + 1) = true ∧ cB s (p + 2) = true then
    (if 2048 ≤ (bn s p % 16) * 4096 + (bn s (p + 1) % 64) * 64 + bn s (p + 2) % 64 ∧ ((bn s p % 16) * 4096 + (bn s (p + 1) % 64) * 64 + bn s (p + 2) % 64 < 55296 ∨ 57343 < (bn s p % 16) * 4096 + (bn s (p + 1) % 64) * 64 + bn s (p + 2) % 64)
     then ((((bn s p % 16) * 4096 + (bn s (p + 1) % 64) * 64 + bn s (p + 2) % 64 : Nat) : Int), 3) else (-1, 1))
  else if 240 ≤ bn s p ∧ bn s p < 245 ∧ cB s (p + 1) = true ∧ cB s (p + 2) = true ∧ cB s (p + 3) = true then
    (if 65536 ≤ (bn s p % 8) * 262144 + (bn s (p + 1) % 64) * 4096 + (bn s (p + 2) % 64) * 64 + bn s (p + 3) % 64 ∧ (bn s p % 8) * 262144 + (bn s (p + 1) % 64) * 4096 + (bn s (p + 2) % 64) * 64 + bn s (p + 3) % 64 ≤ 1114111
     then ((((bn s p % 8) * 262144 + (bn s (p + 1) % 64) * 4096 + (bn s (p + 2) % 64) * 64 + bn s (p + 3) % 64 : Nat) : Int), 4) else (-1, 1))
  else (-1, 1)
theorem decN_bad (n b0 b1 b2 b3 : Nat) (h0 : ¬ b0 < 128) (h2 : ¬ (b0 / 32 = 6 ∧ (1 < n ∧ b1 / 64 = 2) ∧ 128 ≤ b0 % 32 * 64 + b1 % 64))
    (h3 : ¬ (b0 / 16 = 14 ∧ (1 < n ∧ b1 / 64 = 2) ∧ (2 < n ∧ b2 / 64 = 2) ∧ 2048 ≤ b0 % 16 * 4096 + b1 % 64 * 64 + b2 % 64 ∧ (b0 % 16 * 4096 + b1 % 64 * 64 + b2 % 64 < 55296 ∨ 57343 < b0 % 16 * 4096 + b1 % 64 * 64 + b2 % 64)))
    (h4 : ¬ (b0 / 8 = 30 ∧ (1 < n ∧ b1 / 64 = 2) ∧ (2 < n ∧ b2 / 64 = 2) ∧ (3 < n ∧ b3 / 64 = 2) ∧ 65536 ≤ b0 % 8 * 262144 + b1 % 64 * 4096 + b2 % 64 * 64 + b3 % 64 ∧ b0 % 8 * 262144 + b1 % 64 * 4096 + b2 % 64 * 64 + b3 % 64 ≤ 1114111)) :
    decodeN n b0 b1 b2 b3 = (65533, 1) := by
  unfold decodeN
  rw [if_neg h0]
  split
  · rename_i c
    rw [if_neg (by omega)]
  · split
    · rename_i c1 c
      rw [if_neg (by omega)]
    · split
      · rename_i c1 c2 c
        rw [if_neg (by omega)]
      · rfl
theorem good_if (r w : Nat) (h : ¬ (r = 65533 ∧ w = 1)) : (if Bad (r, w) then ((-1 : Int), (1 : Int)) else (((r, w).1 : Int), ((r, w).2 : Int))) = ((r : Int), (w : Int)) := if_neg (show ¬ Bad (r, w) from h)
theorem bad_if : (if Bad (65533, 1) then ((-1 : Int), (1 : Int)) else (((65533, 1) : Nat × Nat).1, ((65533, 1) : Nat × Nat).2)) = ((-1 : Int), (1 : Int)) := if_pos ⟨rfl, rfl⟩
theorem refR_N (n b0 b1 b2 b3 : Nat) (hb : b0 < 256) (C1 C2 C3 : Prop) [Decidable C1] [Decidable C2] [Decidable C3] (h1 : C1 ↔ (1 < n ∧ b1 / 64 = 2)) (h2 : C2 ↔ (2 < n ∧ b2 / 64 = 2)) (h3 : C3 ↔ (3 < n ∧ b3 / 64 = 2)) :
    (if b0 < 128 then ((b0 : Int), (1 : Int))
      else if 194 ≤ b0 ∧ b0 < 224 ∧ C1 then ((((b0 % 32) * 64 + b1 % 64 : Nat) : Int), 2)
      else if 224 ≤ b0 ∧ b0 < 240 ∧ C1 ∧ C2 then
        (if 2048 ≤ (b0 % 16) * 4096 + (b1 % 64) * 64 + b2 % 64 ∧ ((b0 % 16) * 4096 + (b1 % 64) * 64 + b2 % 64 < 55296 ∨ 57343 < (b0 % 16) * 4096 + (b1 % 64) * 64 + b2 % 64)
         then ((((b0 % 16) * 4096 + (b1 % 64) * 64 + b2 % 64 : Nat) : Int), 3) else (-1, 1))
      else if 240 ≤ b0 ∧ b0 < 245 ∧ C1 ∧ C2 ∧ C3 then
        (if 65536 ≤ (b0 % 8) * 262144 + (b1 % 64) * 4096 + (b2 % 64) * 64 + b3 % 64 ∧ (b0 % 8) * 262144 + (b1 % 64) * 4096 + (b2 % 64) * 64 + b3 % 64 ≤ 1114111
         then ((((b0 % 8) * 262144 + (b1 % 64) * 4096 + (b2 % 64) * 64 + b3 % 64 : Nat) : Int), 4) else (-1, 1))
      else (-1, 1)) = if Bad (decodeN n b0 b1 b2 b3) then (-1, 1) else (((decodeN n b0 b1 b2 b3).1 : Int), ((decodeN n b0 b1 b2 b3).2 : Int)) := by
  simp only [h1, h2, h3]
  by_cases c0 : b0 < 128
  · rw [if_pos c0, decN1 n b0 b1 b2 b3 c0, good_if _ _ (by omega)]
    rfl
  rw [if_neg c0]
  by_cases c2 : 194 ≤ b0 ∧ b0 < 224 ∧ 1 < n ∧ b1 / 64 = 2
  · rw [if_pos c2, decN2 n b0 b1 b2 b3 (b0 % 32 * 64 + b1 % 64) (by omega) (by omega) (by omega) rfl (by omega), good_if _ _ (by omega)]
    rfl
  rw [if_neg c2]
  by_cases c3 : 224 ≤ b0 ∧ b0 < 240 ∧ (1 < n ∧ b1 / 64 = 2) ∧ 2 < n ∧ b2 / 64 = 2
  · rw [if_pos c3]
    by_cases e3 : 2048 ≤ b0 % 16 * 4096 + b1 % 64 * 64 + b2 % 64 ∧ (b0 % 16 * 4096 + b1 % 64 * 64 + b2 % 64 < 55296 ∨ 57343 < b0 % 16 * 4096 + b1 % 64 * 64 + b2 % 64)
    · rw [if_pos e3, decN3 n b0 b1 b2 b3 (b0 % 16 * 4096 + b1 % 64 * 64 + b2 % 64) (by omega) (by omega) (by omega) (by omega) rfl (by omega) (by unfold Point; omega), good_if _ _ (by omega)]
      rfl
    · rw [if_neg e3, decN_bad n b0 b1 b2 b3 c0 (by omega) (by omega) (by omega), bad_if]
  rw [if_neg c3]
  by_cases c4 : 240 ≤ b0 ∧ b0 < 245 ∧ (1 < n ∧ b1 / 64 = 2) ∧ (2 < n ∧ b2 / 64 = 2) ∧ 3 < n ∧ b3 / 64 = 2
  · rw [if_pos c4]
    by_cases e4 : 65536 ≤ b0 % 8 * 262144 + b1 % 64 * 4096 + b2 % 64 * 64 + b3 % 64 ∧ b0 % 8 * 262144 + b1 % 64 * 4096 + b2 % 64 * 64 + b3 % 64 ≤ 1114111
    · rw [if_pos e4, decN4 n b0 b1 b2 b3 (b0 % 8 * 262144 + b1 % 64 * 4096 + b2 % 64 * 64 + b3 % 64) (by omega) (by omega) (by omega) (by omega) (by omega) rfl (by omega) (by unfold Point; omega), good_if _ _ (by omega)]
      rfl
    · rw [if_neg e4, decN_bad n b0 b1 b2 b3 c0 (by omega) (by omega) (by omega), bad_if]
  rw [if_neg c4, decN_bad n b0 b1 b2 b3 c0 (by omega) (by omega) (by omega), bad_if]
theorem refR_runeU (s : ByteArray) (p : Nat) (h : p < s.size) : refR s p = runeU s p := by
  have hc : ∀ i, (cB s (p + i) = true ↔ (i < s.size - p ∧ bn s (p + i) / 64 = 2)) := fun i => by
    unfold cB
    rw [decide_eq_true_iff]
    constructor
    · rintro ⟨h1, h2⟩; exact ⟨by omega, h2⟩
    · rintro ⟨h1, h2⟩; exact ⟨by omega, h2⟩
  have e := refR_N (s.size - p) (bn s p) (bn s (p + 1)) (bn s (p + 2)) (bn s (p + 3)) (bn_lt s p) _ _ _ (hc 1) (hc 2) (hc 3)
  unfold refR
  rw [e]
  have hd : Utf8.decode s p = decodeN (s.size - p) (bn s p) (bn s (p + 1)) (bn s (p + 2)) (bn s (p + 3)) := decode_at s p
  unfold runeU
  rw [if_neg (show ¬ ((p : Int) < 0 ∨ (s.size : Int) ≤ (p : Int)) by omega), Int.toNat_natCast, hd]
  rfl
theorem i32_mask (i : Nat) (hi : i ≤ 31) (x : Int) (h0 : 0 ≤ x) (h1 : x < 2147483648) (m : Int) (hm : m = 2 ^ i - 1) : bits .and .i32 x m = x % 2 ^ i := by
  subst hm
  exact bits_mask .i32 31 (by decide) wraps_i32 i hi x h0 h1
theorem wrap32_small (x : Int) (h0 : 0 ≤ x) (h1 : x < 2147483648) : wrap32 x = x := by
  unfold wrap32
  omega
theorem m63 (x : Nat) (h : x < 256) : wrap32 (bits .and .u8 (x : Int) 63) = ((x % 64 : Nat) : Int) := by
  have e : bits .and .u8 (x : Int) 63 = (x : Int) % 64 := u8_and63 (x := (x : Int)) (by omega) (by omega)
  rw [e, wrap32_small _ (by omega) (by omega)]
  rfl
theorem or6 (x y : Int) (hx0 : 0 ≤ x) (hx : x % 64 = 0) (hx1 : x < 2147483648) (h0 : 0 ≤ y) (h1 : y < 64) : bits .or .i32 x y = x + y := i32_or6 x y hx0 hx hx1 h0 h1
theorem or12 (x y : Int) (hx0 : 0 ≤ x) (hx : x % 4096 = 0) (hx1 : x < 2147483648) (h0 : 0 ≤ y) (h1 : y < 4096) : bits .or .i32 x y = x + y := i32_or12 x y hx0 hx hx1 h0 h1
theorem or18 (x y : Int) (hx0 : 0 ≤ x) (hx : x % 262144 = 0) (hx1 : x < 2147483648) (h0 : 0 ≤ y) (h1 : y < 262144) : bits .or .i32 x y = x + y := i32_or18 x y hx0 hx hx1 h0 h1
theorem r2eq (a b : Nat) (ha : a < 32) (hb : b < 64) : bits .or .i32 (wrap32 ((a : Int) * 64)) (b : Int) = ((a * 64 + b : Nat) : Int) := by
  rw [wrap32_small _ (by omega) (by omega), or6 _ _ (by omega) (by omega) (by omega) (by omega) (by omega)]
  omega
theorem r3eq (a b c : Nat) (ha : a < 16) (hb : b < 64) (hc : c < 64) : bits .or .i32 (bits .or .i32 (wrap32 ((a : Int) * 4096)) (wrap32 ((b : Int) * 64))) (c : Int) = ((a * 4096 + b * 64 + c : Nat) : Int) := by
  rw [wrap32_small _ (by omega) (by omega), wrap32_small _ (by omega) (by omega), or12 ((a : Int) * 4096) ((b : Int) * 64) (by omega) (by omega) (by omega) (by omega) (by omega), or6 ((a : Int) * 4096 + (b : Int) * 64) c (by omega) (by omega) (by omega) (by omega) (by omega)]
  omega
theorem r4eq (a b c d : Nat) (ha : a < 8) (hb : b < 64) (hc : c < 64) (hd : d < 64) : bits .or .i32 (bits .or .i32 (bits .or .i32 (wrap32 ((a : Int) * 262144)) (wrap32 ((b : Int) * 4096))) (wrap32 ((c : Int) * 64))) (d : Int) = ((a * 262144 + b * 4096 + c * 64 + d : Nat) : Int) := by
  rw [wrap32_small _ (by omega) (by omega), wrap32_small _ (by omega) (by omega), wrap32_small _ (by omega) (by omega), or18 ((a : Int) * 262144) ((b : Int) * 4096) (by omega) (by omega) (by omega) (by omega) (by omega), or12 ((a : Int) * 262144 + (b : Int) * 4096) ((c : Int) * 64) (by omega) (by omega) (by omega) (by omega) (by omega), or6 ((a : Int) * 262144 + (b : Int) * 4096 + (c : Int) * 64) d (by omega) (by omega) (by omega) (by omega) (by omega)]
  omega
set_option maxHeartbeats 4000000 in
theorem refRune_in (s : ByteArray) (p : Nat) (h : p < s.size) (hs : s.size ≤ 140737488351232) (k : Nat) : erratumref04_Rune.f (k + 4) s p = some (refR s p) := by
  have w1 : wrap64 ((p : Int) + 1) = ((p + 1 : Nat) : Int) := by unfold wrap64; omega
  have w2 : wrap64 ((p : Int) + 2) = ((p + 2 : Nat) : Int) := by unfold wrap64; omega
  have w3 : wrap64 ((p : Int) + 3) = ((p + 3 : Nat) : Int) := by unfold wrap64; omega
  have l0 := bn_lt s p
  have e0 : wrap32 (bn s p : Int) = (bn s p : Int) := wrap32_small _ (by omega) (by omega)
  have q1 := ref_cont s (p + 1) _ rfl
  have q2 := ref_cont s (p + 2) _ rfl
  have q3 := ref_cont s (p + 3) _ rfl
  have m1 := m63 _ (bn_lt s (p + 1))
  have m2 := m63 _ (bn_lt s (p + 2))
  have m3 := m63 _ (bn_lt s (p + 3))
  have a31 : bits .and .i32 (bn s p : Int) 31 = ((bn s p % 32 : Nat) : Int) := i32_mask 5 (by decide) _ (by omega) (by omega) 31 (by decide)
  have a15 : bits .and .i32 (bn s p : Int) 15 = ((bn s p % 16 : Nat) : Int) := i32_mask 4 (by decide) _ (by omega) (by omega) 15 (by decide)
  have a7 : bits .and .i32 (bn s p : Int) 7 = ((bn s p % 8 : Nat) : Int) := i32_mask 3 (by decide) _ (by omega) (by omega) 7 (by decide)
  have c1 : cB s (p + 1) = true → p + 1 < s.size := fun h => (of_decide_eq_true h).1
  have c2 : cB s (p + 2) = true → p + 2 < s.size := fun h => (of_decide_eq_true h).1
  have c3 : cB s (p + 3) = true → p + 3 < s.size := fun h => (of_decide_eq_true h).1
  have r2 := r2eq (bn s p % 32) (bn s (p + 1) % 64) (Nat.mod_lt _ (by decide)) (Nat.mod_lt _ (by decide))
  have r3 := r3eq (bn s p % 16) (bn s (p + 1) % 64) (bn s (p + 2) % 64) (Nat.mod_lt _ (by decide)) (Nat.mod_lt _ (by decide)) (Nat.mod_lt _ (by decide))
  have r4 := r4eq (bn s p % 8) (bn s (p + 1) % 64) (bn s (p + 2) % 64) (bn s (p + 3) % 64) (Nat.mod_lt _ (by decide)) (Nat.mod_lt _ (by decide)) (Nat.mod_lt _ (by decide)) (Nat.mod_lt _ (by decide))
  unfold erratumref04_Rune.f
  rw [if_neg (by omega), decide_eq_false (by omega)]
  simp only [erratumref04_Rune.j0, erratumref04_Rune.j1, erratumref04_Rune.j2, erratumref04_Rune.j3, w1, w2, w3, bt_bn, e0, q1, q2, q3, m1, m2, m3, a31, a15, a7, r2, r3, r4, Option.bind_some, Bool.false_eq_true, if_false]
  unfold refR
  clear w1 w2 w3 e0 q1 q2 q3 m1 m2 m3 a31 a15 a7 r2 r3 r4
  generalize cB s (p + 1) = C1 at *
  generalize cB s (p + 2) = C2 at *
  generalize cB s (p + 3) = C3 at *
  generalize bn s p = b0 at *
  generalize bn s (p + 1) = b1 at *
  generalize bn s (p + 2) = b2 at *
  generalize bn s (p + 3) = b3 at *
  rw [if_pos (by omega), if_pos (by omega)]
  obtain ⟨x2, hx2⟩ : ∃ x, b0 % 32 * 64 + b1 % 64 = x := ⟨_, rfl⟩
  obtain ⟨x3, hx3⟩ : ∃ x, b0 % 16 * 4096 + b1 % 64 * 64 + b2 % 64 = x := ⟨_, rfl⟩
  obtain ⟨x4, hx4⟩ : ∃ x, b0 % 8 * 262144 + b1 % 64 * 4096 + b2 % 64 * 64 + b3 % 64 = x := ⟨_, rfl⟩
  simp only [hx2, hx3, hx4]
  clear hx2 hx3 hx4
  have hp1 : ((0 : Int) ≤ ((p + 1 : Nat) : Int)) = True := eq_true (by omega)
  have hp2 : ((0 : Int) ≤ ((p + 2 : Nat) : Int)) = True := eq_true (by omega)
  have hp3 : ((0 : Int) ≤ ((p + 3 : Nat) : Int)) = True := eq_true (by omega)
  have k1 : C1 = true → (((p + 1 : Nat) : Int) < (s.size : Int)) = True := fun h => eq_true (by have := c1 h; omega)
  have k2 : C2 = true → (((p + 2 : Nat) : Int) < (s.size : Int)) = True := fun h => eq_true (by have := c2 h; omega)
  have k3 : C3 = true → (((p + 3 : Nat) : Int) < (s.size : Int)) = True := fun h => eq_true (by have := c3 h; omega)
  clear c1 c2 c3
  have hr : b0 < 128 ∨ (128 ≤ b0 ∧ b0 < 194) ∨ (194 ≤ b0 ∧ b0 < 224) ∨ (224 ≤ b0 ∧ b0 < 240) ∨ (240 ≤ b0 ∧ b0 < 245) ∨ 245 ≤ b0 := by omega
  rcases hr with hr | hr | hr | hr | hr | hr
  · have f1 : ((b0 : Int) < 128) = True := eq_true (by omega)
    have f2 : ((b0 : Int) ≥ 194) = False := eq_false (by omega)
    have f3 : ((b0 : Int) < 224) = True := eq_true (by omega)
    have f4 : ((b0 : Int) ≥ 224) = False := eq_false (by omega)
    have f5 : ((b0 : Int) < 240) = True := eq_true (by omega)
    have f6 : ((b0 : Int) ≥ 240) = False := eq_false (by omega)
    have f7 : ((b0 : Int) < 245) = True := eq_true (by omega)
    have f8 : (b0 < 128) = True := eq_true (by omega)
    have f9 : (194 ≤ b0) = False := eq_false (by omega)
    have f10 : (b0 < 224) = True := eq_true (by omega)
    have f11 : (224 ≤ b0) = False := eq_false (by omega)
    have f12 : (b0 < 240) = True := eq_true (by omega)
    have f13 : (240 ≤ b0) = False := eq_false (by omega)
    have f14 : (b0 < 245) = True := eq_true (by omega)
    simp only [f1, f2, f3, f4, f5, f6, f7, f8, f9, f10, f11, f12, f13, f14, hp1, hp2, hp3, if_true, if_false, true_and, false_and]
    try (cases C1 <;> cases C2 <;> cases C3 <;> simp only [k1, k2, k3, Bool.false_eq_true, if_true, if_false, true_and, and_true, false_and, and_false])
    all_goals (repeat' split)
    all_goals first | with_reducible rfl | (exfalso; omega)
  · have f1 : ((b0 : Int) < 128) = False := eq_false (by omega)
    have f2 : ((b0 : Int) ≥ 194) = False := eq_false (by omega)
    have f3 : ((b0 : Int) < 224) = True := eq_true (by omega)
    have f4 : ((b0 : Int) ≥ 224) = False := eq_false (by omega)
    have f5 : ((b0 : Int) < 240) = True := eq_true (by omega)
    have f6 : ((b0 : Int) ≥ 240) = False := eq_false (by omega)
    have f7 : ((b0 : Int) < 245) = True := eq_true (by omega)
    have f8 : (b0 < 128) = False := eq_false (by omega)
    have f9 : (194 ≤ b0) = False := eq_false (by omega)
    have f10 : (b0 < 224) = True := eq_true (by omega)
    have f11 : (224 ≤ b0) = False := eq_false (by omega)
    have f12 : (b0 < 240) = True := eq_true (by omega)
    have f13 : (240 ≤ b0) = False := eq_false (by omega)
    have f14 : (b0 < 245) = True := eq_true (by omega)
    simp only [f1, f2, f3, f4, f5, f6, f7, f8, f9, f10, f11, f12, f13, f14, hp1, hp2, hp3, if_true, if_false, true_and, false_and]
    try (cases C1 <;> cases C2 <;> cases C3 <;> simp only [k1, k2, k3, Bool.false_eq_true, if_true, if_false, true_and, and_true, false_and, and_false])
    all_goals (repeat' split)
    all_goals first | with_reducible rfl | (exfalso; omega)
  · have f1 : ((b0 : Int) < 128) = False := eq_false (by omega)
    have f2 : ((b0 : Int) ≥ 194) = True := eq_true (by omega)
    have f3 : ((b0 : Int) < 224) = True := eq_true (by omega)
    have f4 : ((b0 : Int) ≥ 224) = False := eq_false (by omega)
    have f5 : ((b0 : Int) < 240) = True := eq_true (by omega)
    have f6 : ((b0 : Int) ≥ 240) = False := eq_false (by omega)
    have f7 : ((b0 : Int) < 245) = True := eq_true (by omega)
    have f8 : (b0 < 128) = False := eq_false (by omega)
    have f9 : (194 ≤ b0) = True := eq_true (by omega)
    have f10 : (b0 < 224) = True := eq_true (by omega)
    have f11 : (224 ≤ b0) = False := eq_false (by omega)
    have f12 : (b0 < 240) = True := eq_true (by omega)
    have f13 : (240 ≤ b0) = False := eq_false (by omega)
    have f14 : (b0 < 245) = True := eq_true (by omega)
    simp only [f1, f2, f3, f4, f5, f6, f7, f8, f9, f10, f11, f12, f13, f14, hp1, hp2, hp3, if_true, if_false, true_and, false_and]
    try (cases C1 <;> cases C2 <;> cases C3 <;> simp only [k1, k2, k3, Bool.false_eq_true, if_true, if_false, true_and, and_true, false_and, and_false])
    all_goals (repeat' split)
    all_goals first | with_reducible rfl | (exfalso; omega)
  · have f1 : ((b0 : Int) < 128) = False := eq_false (by omega)
    have f2 : ((b0 : Int) ≥ 194) = True := eq_true (by omega)
    have f3 : ((b0 : Int) < 224) = False := eq_false (by omega)
    have f4 : ((b0 : Int) ≥ 224) = True := eq_true (by omega)
    have f5 : ((b0 : Int) < 240) = True := eq_true (by omega)
    have f6 : ((b0 : Int) ≥ 240) = False := eq_false (by omega)
    have f7 : ((b0 : Int) < 245) = True := eq_true (by omega)
    have f8 : (b0 < 128) = False := eq_false (by omega)
    have f9 : (194 ≤ b0) = True := eq_true (by omega)
    have f10 : (b0 < 224) = False := eq_false (by omega)
    have f11 : (224 ≤ b0) = True := eq_true (by omega)
    have f12 : (b0 < 240) = True := eq_true (by omega)
    have f13 : (240 ≤ b0) = False := eq_false (by omega)
    have f14 : (b0 < 245) = True := eq_true (by omega)
    simp only [f1, f2, f3, f4, f5, f6, f7, f8, f9, f10, f11, f12, f13, f14, hp1, hp2, hp3, if_true, if_false, true_and, false_and]
    try (cases C1 <;> cases C2 <;> cases C3 <;> simp only [k1, k2, k3, Bool.false_eq_true, if_true, if_false, true_and, and_true, false_and, and_false])
    all_goals (repeat' split)
    all_goals first | with_reducible rfl | (exfalso; omega)
  · have f1 : ((b0 : Int) < 128) = False := eq_false (by omega)
    have f2 : ((b0 : Int) ≥ 194) = True := eq_true (by omega)
    have f3 : ((b0 : Int) < 224) = False := eq_false (by omega)
    have f4 : ((b0 : Int) ≥ 224) = True := eq_true (by omega)
    have f5 : ((b0 : Int) < 240) = False := eq_false (by omega)
    have f6 : ((b0 : Int) ≥ 240) = True := eq_true (by omega)
    have f7 : ((b0 : Int) < 245) = True := eq_true (by omega)
    have f8 : (b0 < 128) = False := eq_false (by omega)
    have f9 : (194 ≤ b0) = True := eq_true (by omega)
    have f10 : (b0 < 224) = False := eq_false (by omega)
    have f11 : (224 ≤ b0) = True := eq_true (by omega)
    have f12 : (b0 < 240) = False := eq_false (by omega)
    have f13 : (240 ≤ b0) = True := eq_true (by omega)
    have f14 : (b0 < 245) = True := eq_true (by omega)
    simp only [f1, f2, f3, f4, f5, f6, f7, f8, f9, f10, f11, f12, f13, f14, hp1, hp2, hp3, if_true, if_false, true_and, false_and]
    try (cases C1 <;> cases C2 <;> cases C3 <;> simp only [k1, k2, k3, Bool.false_eq_true, if_true, if_false, true_and, and_true, false_and, and_false])
    all_goals (repeat' split)
    all_goals first | with_reducible rfl | (exfalso; omega)
  · have f1 : ((b0 : Int) < 128) = False := eq_false (by omega)
    have f2 : ((b0 : Int) ≥ 194) = True := eq_true (by omega)
    have f3 : ((b0 : Int) < 224) = False := eq_false (by omega)
    have f4 : ((b0 : Int) ≥ 224) = True := eq_true (by omega)
    have f5 : ((b0 : Int) < 240) = False := eq_false (by omega)
    have f6 : ((b0 : Int) ≥ 240) = True := eq_true (by omega)
    have f7 : ((b0 : Int) < 245) = False := eq_false (by omega)
    have f8 : (b0 < 128) = False := eq_false (by omega)
    have f9 : (194 ≤ b0) = True := eq_true (by omega)
    have f10 : (b0 < 224) = False := eq_false (by omega)
    have f11 : (224 ≤ b0) = True := eq_true (by omega)
    have f12 : (b0 < 240) = False := eq_false (by omega)
    have f13 : (240 ≤ b0) = True := eq_true (by omega)
    have f14 : (b0 < 245) = False := eq_false (by omega)
    simp only [f1, f2, f3, f4, f5, f6, f7, f8, f9, f10, f11, f12, f13, f14, hp1, hp2, hp3, if_true, if_false, true_and, false_and]
    try (cases C1 <;> cases C2 <;> cases C3 <;> simp only [k1, k2, k3, Bool.false_eq_true, if_true, if_false, true_and, and_true, false_and, and_false])
    all_goals (repeat' split)
    all_goals first | with_reducible rfl | (exfalso; omega)
theorem refRune (s : ByteArray) (i : Int) (hs : s.size ≤ 140737488351232) (k : Nat) : erratumref04_Rune.f (k + 4) s i = some (runeU s i) := by
  by_cases h0 : i < 0
  · rw [runeU_out s i (.inl h0)]
    unfold erratumref04_Rune.f
    rw [if_pos h0]
    simp only [erratumref04_Rune.j0, if_true]
  · by_cases h1 : (s.size : Int) ≤ i
    · rw [runeU_out s i (.inr h1)]
      unfold erratumref04_Rune.f
      rw [if_neg h0, decide_eq_true (show i ≥ (s.size : Int) from h1)]
      simp only [erratumref04_Rune.j0, if_true]
    · obtain ⟨p, rfl⟩ := Int.eq_ofNat_of_zero_le (show 0 ≤ i by omega)
      have hp : p < s.size := by omega
      rw [refRune_in s p hp hs k, refR_runeU s p hp]
theorem ba_eq (a b : ByteArray) (h : a.data.toList = b.data.toList) : a = b := by
  cases a with
  | mk x => cases b with
    | mk y =>
      congr 1
      exact Array.toList_inj.1 h
theorem i32_or (i : Nat) (hi : i ≤ 31) (a y : Int) (ha0 : 0 ≤ a) (ha : a % 2 ^ i = 0) (ha1 : a < 2 ^ 31) (h0 : 0 ≤ y) (h1 : y < 2 ^ i) (h2 : y < 2 ^ 31) : bits .or .i32 a y = a + y :=
  bits_join .i32 31 (by decide) wraps_i32 i a y ha0 ha ha1 h0 h1 h2
theorem refRune_k (s : ByteArray) (i : Int) (hs : s.size ≤ 140737488351232) (k : Nat) (hk : 4 ≤ k) : erratumref04_Rune.f k s i = some (runeU s i) := by
  obtain ⟨m, rfl⟩ : ∃ m, k = m + 4 := ⟨k - 4, by omega⟩
  exact refRune s i hs m
theorem runeU_wid (s : ByteArray) (pos : Nat) (h : pos < s.size) : (runeU s pos).2 = ((Utf8.decode s pos).2 : Int) ∧ 1 ≤ (Utf8.decode s pos).2 ∧ pos + (Utf8.decode s pos).2 ≤ s.size := by
  have hne : ¬ (s.data.toList.drop pos = []) := by
    intro h0
    have := congrArg List.length h0
    rw [List.length_drop, data_length, List.length_nil] at this
    omega
  have hle := dec_le' _ hne
  have hpos := dec_pos (s.data.toList.drop pos)
  rw [decodeL_drop] at hle hpos
  rw [List.length_drop, data_length] at hle
  refine ⟨?_, hpos, by omega⟩
  unfold runeU
  rw [if_neg (by omega), Int.toNat_natCast]
  split
  · rename_i hb
    rw [hb.2]; rfl
  · rfl
theorem refRunes_from (s : ByteArray) (hs : s.size ≤ 1000000) : ∀ (d k pos : Nat) (out : List Int), d + 5 ≤ k → s.size ≤ pos + d → pos ≤ s.size → out.length ≤ pos → erratumref04_Runes.l0 k s out pos = some (out ++ runesU s d pos)
  | 0, k, pos, out, hk, h1, h2, h3 => by
    obtain ⟨m, rfl⟩ : ∃ m, k = m + 1 := ⟨k - 1, by omega⟩
    simp only [erratumref04_Runes.l0]
    rw [if_neg (by omega)]
    simp [runesU]
  | d + 1, k, pos, out, hk, h1, h2, h3 => by
    obtain ⟨m, rfl⟩ : ∃ m, k = m + 1 := ⟨k - 1, by omega⟩
    simp only [erratumref04_Runes.l0]
    by_cases h : pos < s.size
    · obtain ⟨hw, hpos, hle⟩ := runeU_wid s pos h
      rw [if_pos (by omega), refRune_k s pos (by omega) m (by omega)]
      simp only [Option.bind_some]
      have e : wrap64 ((pos : Int) + ((Utf8.decode s pos).2 : Int)) = ((pos + (Utf8.decode s pos).2 : Nat) : Int) := by
        unfold wrap64
        omega
      rw [if_pos (by omega), runesU, if_pos h, hw, e, refRunes_from s hs d m _ _ (by omega) (by omega) (by omega) (by rw [List.length_append]; simp; omega)]
      simp
    · rw [if_neg (by omega), runesU_end s _ _ h]
      simp
theorem refRunes_k (s : ByteArray) (hs : s.size ≤ 1000000) (k : Nat) (hk : s.size + 5 ≤ k) : erratumref04_Runes.f k s = some (rAll s.data.toList) := by
  unfold erratumref04_Runes.f
  have h := refRunes_from s hs s.size k 0 [] hk (by omega) (by omega) (by simp)
  rw [runesU_all] at h
  exact h
def noBad (l : List Int) : Bool := l.all fun r => decide (0 ≤ r)
theorem refValid_from (l : List Int) (hl : l.length ≤ 1000000) : ∀ (d k pos : Nat), d + 1 ≤ k → l.length = pos + d → erratumref04_Valid.l0 k l pos = some (noBad (l.drop pos))
  | 0, k, pos, hk, h1 => by
    obtain ⟨m, rfl⟩ : ∃ m, k = m + 1 := ⟨k - 1, by omega⟩
    simp only [erratumref04_Valid.l0]
    rw [if_neg (by omega), List.drop_eq_nil_of_le (by omega)]
    rfl
  | d + 1, k, pos, hk, h1 => by
    obtain ⟨m, rfl⟩ : ∃ m, k = m + 1 := ⟨k - 1, by omega⟩
    simp only [erratumref04_Valid.l0]
    have hp : pos < l.length := by omega
    have e : l.drop pos = rd l pos :: l.drop (pos + 1) := by
      rw [List.drop_eq_getElem_cons hp]
      congr 1
      simp [rd, List.getD_eq_getElem?_getD, hp]
    have e2 : wrap64 ((pos : Int) + 1) = ((pos + 1 : Nat) : Int) := by unfold wrap64; omega
    rw [if_pos (by omega), if_pos (by omega), e2, e]
    by_cases hneg : rd l pos < 0
    · rw [if_pos hneg]
      simp [noBad]
      omega
    · rw [if_neg hneg, refValid_from l hl d m (pos + 1) (by omega) (by omega)]
      simp [noBad]
      omega
theorem rAll_noBad_good (l : List UInt8) : ∀ n, l.length ≤ n → (noBad (rAll l) = true ↔ Good l) := by
  intro n
  induction n generalizing l with
  | zero =>
    intro h
    obtain rfl : l = [] := List.length_eq_zero_iff.1 (by omega)
    exact ⟨fun _ => .nil, fun _ => rfl⟩
  | succ n ih =>
    intro h
    by_cases h0 : l = []
    · subst h0
      exact ⟨fun _ => .nil, fun _ => rfl⟩
    · have hp := dec_pos l
      have hl := List.length_pos_iff.2 h0
      rw [rAll_step l h0]
      have ih' := ih (l.drop (decodeL l).2) (by rw [List.length_drop]; omega)
      unfold headR
      by_cases hb : Bad (decodeL l)
      · rw [if_pos hb]
        constructor
        · intro h; simp [noBad] at h
        · intro h
          cases h with
          | nil => exact absurd rfl h0
          | rune _ _ hg _ => exact absurd hb hg
      · rw [if_neg hb]
        constructor
        · intro h
          refine .rune l h0 hb (ih'.1 ?_)
          simp [noBad] at h ⊢
          exact h
        · intro h
          cases h with
          | nil => exact absurd rfl h0
          | rune _ _ _ h2 =>
            have := ih'.2 h2
            simp [noBad] at this ⊢
            exact this
theorem refValid_k (s : ByteArray) (hs : s.size ≤ 1000000) (k : Nat) (hk : s.size + 5 ≤ k) : erratumref04_Valid.f k s = some (validU s s.size 0) := by
  unfold erratumref04_Valid.f
  rw [refRunes_k s hs k hk]
  simp only [Option.bind_some]
  have hl := rAll_len s.data.toList
  rw [data_length] at hl
  have h := refValid_from (rAll s.data.toList) (by omega) (rAll s.data.toList).length k 0 (by omega) (by omega)
  have e : noBad (rAll s.data.toList) = validU s s.size 0 := by
    rw [Bool.eq_iff_iff, validU_good, rAll_noBad_good _ _ (Nat.le_refl _)]
  rw [List.drop_zero, e] at h
  exact h
end Go.Proofs.YtpamgedmgjfjjaaDoor.M
end
section
namespace Go.Proofs.YtpamgedmgjfjjaaDoor.M
open Go.RowKit Go.Proofs.YtpamgedmgjfjjaaDoorW.PrintWords Go.Proofs.YtpamgedmgjfjjaaDoorW.PrintLast Go.Proofs.YtpamgedmgjfjjaaDoorW.PrintMore
open Go.Lib (byteCells byteCells_length strCells strCells_length cell_of_heap frozen_of_heap ownBlock_ne alloc_old)
set_option linter.unusedVariables false
set_option linter.unusedSimpArgs false
@[reducible] def ThrownJ : List PanicEntry := [{ v := .iface 30 (.int .i64 2), recovered := false }]
theorem BAt.setOther {o : Nat} {T : TypeId} {B b : Nat} {cs : Array Value} {l : List UInt8} {w : World} (h : BAt o T B b cs l w) (hT : T ≠ 5) (i : Nat) (v : Value) (h1 : i ≠ o) (h2 : i ≠ o + 1) : BAt o T B b (cs.setIfInBounds i v) l (w.setCell ⟨b, i, none⟩ v) := by
  obtain ⟨hB, hb, hp, u, hv, hown⟩ := h
  have hne := ownBlock_ne hown hb hT
  refine ⟨hB, ?_, ?_, u, ?_, ?_⟩
  · simp [World.setCell, Array.getElem?_modify, hb]
  · rw [Array.getElem?_setIfInBounds_ne h1]; exact hp
  · rw [Array.getElem?_setIfInBounds_ne h2]; exact hv
  · exact hown.kept (row := some b) ⟨rfl, rfl, rfl, by simp [World.setCell], fun k _ hk => Below.heap_setCell _ _ _ _ (fun e => hk (by simp [e]))⟩ (Or.inr hne)
theorem BAt.later {o : Nat} {T : TypeId} {B b : Nat} {cs : Array Value} {l : List UInt8} {w w' : World} (h : BAt o T B b cs l w) (hb : Below w.heap.size w w') : BAt o T B b cs l w' := by
  obtain ⟨hB, hk, hp, u, hv, hown⟩ := h
  refine ⟨hB, (hb.block b (blk_lt hk)).trans hk, hp, u, hv, ?_⟩
  exact hown.kept (row := none) ⟨hb.os, hb.tape, hb.output, hb.size, fun k hk _ => hb.block k hk⟩ (by
    cases h : u.ownBlock with
    | none => exact .inl rfl
    | some k => exact .inr (by simp))
structure RJ (w0 : World) (g : Nat) (s : ByteArray) (i : Nat) (l : List UInt8) (w : World) : Prop where
  low : Below w0.heap.size w0 w
  at_ : ∃ cs, BAt 2 97 w0.heap.size g cs l w ∧ cs.size = 4 ∧ cs[0]? = some (.string s) ∧ cs[1]? = some (.int .i64 i)
theorem RJ.c0 {w0 w : World} {g : Nat} {s : ByteArray} {i : Nat} {l : List UInt8} (h : RJ w0 g s i l w) : w.cell? ⟨g, 0, none⟩ = some (.string s) := by
  obtain ⟨cs, hb, hs, h0, h1⟩ := h.at_
  rw [cell_of_heap hb.blk]; exact h0
theorem RJ.c1 {w0 w : World} {g : Nat} {s : ByteArray} {i : Nat} {l : List UInt8} (h : RJ w0 g s i l w) : w.cell? ⟨g, 1, none⟩ = some (.int .i64 i) := by
  obtain ⟨cs, hb, hs, h0, h1⟩ := h.at_
  rw [cell_of_heap hb.blk]; exact h1
theorem RJ.fr {w0 w : World} {g : Nat} {s : ByteArray} {i : Nat} {l : List UInt8} (h : RJ w0 g s i l w) (k : Nat) : w.frozen? ⟨g, k, none⟩ = false := by
  obtain ⟨cs, hb, hs, h0, h1⟩ := h.at_
  exact frozen_of_heap hb.blk k
theorem RJ.later {w0 w w' : World} {g : Nat} {s : ByteArray} {i : Nat} {l : List UInt8} (h : RJ w0 g s i l w) (hb : Below w.heap.size w w') : RJ w0 g s i l w' := by
  obtain ⟨low, cs, hc, hs, h0, h1⟩ := h
  exact ⟨low.trans (hb.mono low.size), cs, hc.later hb, hs, h0, h1⟩
theorem RJ.move {w0 w : World} {g : Nat} {s : ByteArray} {i : Nat} {l : List UInt8} (h : RJ w0 g s i l w) (j : Nat) : RJ w0 g s j l (w.setCell ⟨g, 1, none⟩ (.int .i64 j)) := by
  obtain ⟨low, cs, hc, hs, h0, h1⟩ := h
  refine ⟨low.setCell (p := ⟨g, 1, none⟩) hc.hB _, _, hc.setOther (by decide) 1 _ (by decide) (by decide), by simp [hs], ?_, ?_⟩
  · rw [Array.getElem?_setIfInBounds_ne (by decide)]; exact h0
  · simp [hs]
theorem RJ.drewN {w0 w : World} {g : Nat} {s : ByteArray} {i : Nat} {l : List UInt8} (h : RJ w0 g s i l w) (n : Nat) : RJ w0 g s i l (w.drewN n) := h.later ⟨rfl, rfl, rfl, Nat.le_refl _, fun _ _ => rfl⟩
theorem bn_get (s : ByteArray) (i : Nat) (h : i < s.size) : bn s i = (s[i]'h).toNat := by
  unfold bn
  have : s.get! i = s[i]'h := by
    show s.data[i]! = s.data[i]
    rw [getElem!_pos]
  rw [this]
set_option maxHeartbeats 2000000 in
set_option maxRecDepth 100000 in
theorem next_c (w0 w : World) (g : Nat) (s : ByteArray) (i : Nat) (l : List UInt8) (hs : s.size ≤ 1000000) (h : RJ w0 g s i l w) :
    Calls Tryd.prog 74 #[.pointer (some ⟨g, 0, none⟩)] w fun e w' => (i < s.size ∧ e = .returned (.int .u8 (bn s i)) ∧ RJ w0 g s (i + 1) l w') ∨ (s.size ≤ i ∧ e = .panicked ThrownJ ∧ Below w0.heap.size w0 w') := by
  have HR := Aside0.mk h
  have c0 := h.c0
  have c1 := h.c1
  have f1 := h.fr 1
  by_cases hi : i < s.size
  · have n1 : decide ((i : Int) ≥ (s.size : Int)) = false := decide_eq_false (by omega)
    have n2 : decide ((s.size : Int) ≤ (i : Int)) = false := decide_eq_false (by omega)
    have n3 : decide (s.size ≤ i) = false := decide_eq_false (by omega)
    clear h
    go_enter Tryd.func74, Tryd.ntmps74
    go_wp2
    go_quiet (fail)
    go_wp2
    have HM : Aside0 (RJ w0 g s (i + 1) l ((w.drewN nq).setCell ⟨g, 1, none⟩ (.int .i64 ((i : Int) + 1)))) := ⟨by
      have := (HR.out.drewN nq).move (i + 1)
      rw [Int.natCast_add] at this
      exact this⟩
    generalize (w.drewN nq).setCell ⟨g, 1, none⟩ (.int .i64 ((i : Int) + 1)) = w2 at *
    have d0 := HM.out.c0
    have d1 := HM.out.c1
    rw [Int.natCast_add] at d1
    have e1 : (i : Int) + ((1 : Nat) : Int) = (i : Int) + 1 := rfl
    rw [e1] at d1
    go_quiet (fail)
    go_wp2
    go_ret
    refine .inl ⟨hi, ?_, HM.out.drewN _⟩
    rw [bn_get s i hi]
    rfl
  · have n1 : decide ((i : Int) ≥ (s.size : Int)) = true := decide_eq_true (by omega)
    have n2 : decide ((s.size : Int) ≤ (i : Int)) = true := decide_eq_true (by omega)
    have n3 : decide (s.size ≤ i) = true := decide_eq_true (by omega)
    clear h
    go_enter Tryd.func74, Tryd.ntmps74
    go_wp2
    go_quiet (fail)
    go_wp2
    exact ⟨rfl, .inr ⟨by omega, rfl, (HR.out.drewN _).low⟩⟩
def hexD (c : Nat) : Option Nat := if 48 ≤ c ∧ c ≤ 57 then some (c - 48) else if 97 ≤ c ∧ c ≤ 102 then some (c - 87) else if 65 ≤ c ∧ c ≤ 70 then some (c - 55) else none
theorem hexD_lt {c d : Nat} (h : hexD c = some d) : d < 16 := by
  unfold hexD at h
  split at h
  · simp at h; omega
  · split at h
    · simp at h; omega
    · split at h
      · simp at h; omega
      · cases h
def fourR (s : ByteArray) : Nat → Nat → Nat → Option Nat
  | 0, _, v => some v
  | n + 1, i, v => if i < s.size then (hexD (bn s i)).bind fun d => fourR s n (i + 1) (v * 16 + d) else none
def digL : List UInt8 := [48, 49, 50, 51, 52, 53, 54, 55, 56, 57, 97, 98, 99, 100, 101, 102]
def hexI (c : Nat) : Int := match hexD c with | some d => d | none => -1
theorem index_low : ∀ x : Fin 256, ¬ (65 ≤ x.val ∧ x.val ≤ 70) → Lib.indexByte digL (((x.val : Nat) : Int).toNat.toUInt8) = hexI x.val := by decide +kernel
theorem index_up : ∀ x : Fin 256, 65 ≤ x.val ∧ x.val ≤ 70 → Lib.indexByte digL (((x.val : Nat) : Int) + 32).toNat.toUInt8 = hexI x.val := by decide +kernel
theorem idx_low (c : Nat) (hc : c < 256) (h : ¬ (65 ≤ c ∧ c ≤ 70)) (x : Int) (hx : hexI c = x) (w : World) : Calls Tryd.prog 80 #[.string ⟨#[48, 49, 50, 51, 52, 53, 54, 55, 56, 57, 97, 98, 99, 100, 101, 102]⟩, .int .u8 (c : Int)] w fun e w' => e = .returned (.int .i64 x) ∧ w' = w := by
  have h := Tryd.strings_IndexByte ⟨#[48, 49, 50, 51, 52, 53, 54, 55, 56, 57, 97, 98, 99, 100, 101, 102]⟩ (c : Int) w
  rw [show Lib.indexByte (⟨#[48, 49, 50, 51, 52, 53, 54, 55, 56, 57, 97, 98, 99, 100, 101, 102]⟩ : ByteArray).data.toList (c : Int).toNat.toUInt8 = x from (index_low ⟨c, hc⟩ (by assumption)).trans hx] at h
  exact h
theorem idx_up (c : Nat) (hc : c < 256) (h : 65 ≤ c ∧ c ≤ 70) (x : Int) (hx : hexI c = x) (w : World) : Calls Tryd.prog 80 #[.string ⟨#[48, 49, 50, 51, 52, 53, 54, 55, 56, 57, 97, 98, 99, 100, 101, 102]⟩, .int .u8 ((c : Int) + 32)] w fun e w' => e = .returned (.int .i64 x) ∧ w' = w := by
  have h := Tryd.strings_IndexByte ⟨#[48, 49, 50, 51, 52, 53, 54, 55, 56, 57, 97, 98, 99, 100, 101, 102]⟩ ((c : Int) + 32) w
  rw [show Lib.indexByte (⟨#[48, 49, 50, 51, 52, 53, 54, 55, 56, 57, 97, 98, 99, 100, 101, 102]⟩ : ByteArray).data.toList ((c : Int) + 32).toNat.toUInt8 = x from (index_up ⟨c, hc⟩ (by assumption)).trans hx] at h
  exact h
theorem or4 (v d : Nat) (hv : v < 65536) (hd : d < 16) : bits BinOp.or IntKind.i32 ((v : Int) * 16) (d : Int) = ((v * 16 + d : Nat) : Int) := by
  rw [i32_or 4 (by decide) _ _ (by omega) (by omega) (by omega) (by omega) (by omega) (by omega)]
  omega
set_option maxHeartbeats 2000000 in
set_option maxRecDepth 100000 in
theorem four_c (w0 w : World) (g : Nat) (s : ByteArray) (i : Nat) (l : List UInt8) (hs : s.size ≤ 1000000) (h : RJ w0 g s i l w) :
    Calls Tryd.prog 79 #[.pointer (some ⟨g, 0, none⟩)] w fun e w' => (∃ v : Nat, fourR s 4 i 0 = some v ∧ e = .returned (.int .i32 v) ∧ RJ w0 g s (i + 4) l w') ∨ (fourR s 4 i 0 = none ∧ e = .panicked ThrownJ ∧ Below w0.heap.size w0 w') := by
  have HS := Aside0.mk hs
  have HR0 := Aside0.mk h
  obtain ⟨o, ho⟩ : ∃ o, fourR s 4 i 0 = o := ⟨_, rfl⟩
  rw [ho]
  have HO := Aside0.mk ho
  clear h hs ho
  go_enter Tryd.func79, Tryd.ntmps79
  go_wp2
  go_loopw [3, 6] (fun v3 v6 wr => ∃ k v : Nat, v6 = .int .i64 k ∧ v3 = .int .i32 v ∧ Aside0 (k ≤ 4) ∧ Aside0 (v < 16 ^ k) ∧ Aside0 (RJ w0 g s (i + k) l wr) ∧ Aside0 (fourR s (4 - k) (i + k) v = o)) (fun v3 v6 wr => 4 - (RowKit.intOf v6).toNat)
  case atStart => exact ⟨0, 0, rfl, rfl, ⟨by omega⟩, ⟨by decide⟩, HR0, HO⟩
  case round =>
    obtain ⟨k, v, rfl, rfl, HK, HV, HR, HF⟩ := hrel
    by_cases hk : k < 4
    · have n1 : decide ((k : Int) < 4) = true := decide_eq_true (by omega)
      have n2 : decide (k < 4) = true := decide_eq_true (by omega)
      have HN := Aside0.mk (next_c w0 wr g s (i + k) l HS.out HR.out)
      go_wp2_with fail
      refine HN.out.mono ?_
      rintro e w1 (⟨hlt, rfl, hR⟩ | ⟨hge, rfl, hB⟩)
      · have HR1 := Aside0.mk hR
        have hc := bn_lt s (i + k)
        have HFS := Aside0.mk (show fourR s (3 - k + 1) (i + k) v = o by rw [← HF.out]; congr 1; omega)
        clear hR
        rw [fourR, if_pos hlt] at HFS
        generalize bn s (i + k) = c at *
        have hv : v < 65536 := Nat.lt_of_lt_of_le HV.out (by
          match k, hk with
          | 0, _ => decide
          | 1, _ => decide
          | 2, _ => decide
          | 3, _ => decide)
        cases hd : hexD c with
        | none =>
          have HI : hexI c = -1 := by unfold hexI; rw [hd]
          have HE := Aside0.mk (show o = none by rw [← HFS.out, hd]; rfl)
          by_cases hu : 65 ≤ c ∧ c ≤ 70
          · have HX := Aside0.mk (fun w => idx_up c hc hu _ HI w)
            have m1 : decide ((c : Int) ≥ 65) = true := decide_eq_true (by omega)
            have m2 : decide ((c : Int) ≤ 70) = true := decide_eq_true (by omega)
            clear HI hd HFS
            go_wp2_with (go_at_call 80; refine (HX.out _).mono ?_; rintro e w1 ⟨rfl, rfl⟩)
            exact ⟨rfl, .inr ⟨HE.out, rfl, HR1.out.low⟩⟩
          · have HX := Aside0.mk (fun w => idx_low c hc hu _ HI w)
            by_cases hu1 : 65 ≤ c
            · have m1 : decide ((c : Int) ≥ 65) = true := decide_eq_true (by omega)
              have m2 : decide ((c : Int) ≤ 70) = false := decide_eq_false (by omega)
              clear HI hd HFS
              go_wp2_with (go_at_call 80; refine (HX.out _).mono ?_; rintro e w1 ⟨rfl, rfl⟩)
              exact ⟨rfl, .inr ⟨HE.out, rfl, HR1.out.low⟩⟩
            · have m1 : decide ((c : Int) ≥ 65) = false := decide_eq_false (by omega)
              clear HI hd HFS
              go_wp2_with (go_at_call 80; refine (HX.out _).mono ?_; rintro e w1 ⟨rfl, rfl⟩)
              exact ⟨rfl, .inr ⟨HE.out, rfl, HR1.out.low⟩⟩
        | some d =>
          have HI : hexI c = d := by unfold hexI; rw [hd]
          have hd16 := hexD_lt hd
          have HE := Aside0.mk (show fourR s (3 - k) (i + k + 1) (v * 16 + d) = o by rw [← HFS.out, hd]; rfl)
          have hor := or4 v d hv hd16
          have HRR := Aside0.mk (show RJ w0 g s (i + (k + 1)) l w1 from HR1.out)
          have HVV := Aside0.mk (show v * 16 + d < 16 ^ (k + 1) by
            have := HV.out
            rw [Nat.pow_succ]
            omega)
          have HEE := Aside0.mk (show fourR s (4 - (k + 1)) (i + (k + 1)) (v * 16 + d) = o by rw [← HE.out]; congr 1; omega)
          have m3 : decide ((d : Int) < 0) = false := decide_eq_false (by omega)
          by_cases hu : 65 ≤ c ∧ c ≤ 70
          · have HX := Aside0.mk (fun w => idx_up c hc hu _ HI w)
            have m1 : decide ((c : Int) ≥ 65) = true := decide_eq_true (by omega)
            have m2 : decide ((c : Int) ≤ 70) = true := decide_eq_true (by omega)
            clear HI hd HFS HE
            go_wp2_with (go_at_call 80; refine (HX.out _).mono ?_; rintro e w1 ⟨rfl, rfl⟩)
            refine ⟨⟨k + 1, v * 16 + d, rfl, by rw [Int.natCast_add, Int.natCast_mul]; rfl, ⟨by omega⟩, HVV, HRR, HEE⟩, ?_⟩
            simp [RowKit.intOf]
            omega
          · have HX := Aside0.mk (fun w => idx_low c hc hu _ HI w)
            by_cases hu1 : 65 ≤ c
            · have m1 : decide ((c : Int) ≥ 65) = true := decide_eq_true (by omega)
              have m2 : decide ((c : Int) ≤ 70) = false := decide_eq_false (by omega)
              clear HI hd HFS HE
              go_wp2_with (go_at_call 80; refine (HX.out _).mono ?_; rintro e w1 ⟨rfl, rfl⟩)
              refine ⟨⟨k + 1, v * 16 + d, rfl, by rw [Int.natCast_add, Int.natCast_mul]; rfl, ⟨by omega⟩, HVV, HRR, HEE⟩, ?_⟩
              simp [RowKit.intOf]
              omega
            · have m1 : decide ((c : Int) ≥ 65) = false := decide_eq_false (by omega)
              clear HI hd HFS HE
              go_wp2_with (go_at_call 80; refine (HX.out _).mono ?_; rintro e w1 ⟨rfl, rfl⟩)
              refine ⟨⟨k + 1, v * 16 + d, rfl, by rw [Int.natCast_add, Int.natCast_mul]; rfl, ⟨by omega⟩, HVV, HRR, HEE⟩, ?_⟩
              simp [RowKit.intOf]
              omega
      · go_wp2
        refine ⟨rfl, .inr ⟨?_, rfl, hB⟩⟩
        have h := HF.out
        obtain ⟨m, hm⟩ : ∃ m, 4 - k = m + 1 := ⟨3 - k, by omega⟩
        rw [hm, fourR, if_neg (by omega)] at h
        exact h.symm
    · have hk4 : k = 4 := by have := HK.out; omega
      subst hk4
      go_wp2
      go_ret
      exact .inl ⟨v, HF.out.symm, rfl, HR.out⟩
theorem fourR_lt (s : ByteArray) : ∀ (n i v r : Nat), fourR s n i v = some r → r < (v + 1) * 16 ^ n
  | 0, i, v, r, h => by simp [fourR] at h; omega
  | n + 1, i, v, r, h => by
    rw [fourR] at h
    split at h
    · cases hd : hexD (bn s i) with
      | none => rw [hd] at h; cases h
      | some d =>
        rw [hd] at h
        have h1 := hexD_lt hd
        have h2 := fourR_lt s n (i + 1) (v * 16 + d) r h
        refine Nat.lt_of_lt_of_le h2 ?_
        rw [Nat.pow_succ, Nat.mul_comm (16 ^ n) 16, ← Nat.mul_assoc]
        exact Nat.mul_le_mul_right _ (by omega)
    · cases h
theorem four_lt {s : ByteArray} {i r : Nat} (h : fourR s 4 i 0 = some r) : r < 65536 := by
  have := fourR_lt s 4 i 0 r h
  simpa using this
def pointR (s : ByteArray) (i : Nat) : Option (Nat × Nat) :=
  (fourR s 4 i 0).bind fun v => if v < 55296 ∨ 57343 < v then some (v, i + 4)
    else if i + 4 < s.size ∧ bn s (i + 4) = 92 ∧ i + 5 < s.size ∧ bn s (i + 5) = 117 then
      (fourR s 4 (i + 6) 0).bind fun low => if 56320 ≤ v ∨ low < 56320 ∨ 57343 < low then none else some (65536 + (v - 55296) * 1024 + (low - 56320), i + 10)
    else none
set_option maxHeartbeats 2000000 in
set_option maxRecDepth 100000 in
theorem point_c (w0 w : World) (g : Nat) (s : ByteArray) (i : Nat) (l : List UInt8) (hs : s.size ≤ 1000000) (h : RJ w0 g s i l w) :
    Calls Tryd.prog 78 #[.pointer (some ⟨g, 0, none⟩)] w fun e w' => (∃ v j : Nat, pointR s i = some (v, j) ∧ e = .returned (.int .i32 v) ∧ RJ w0 g s j l w') ∨ (pointR s i = none ∧ e = .panicked ThrownJ ∧ Below w0.heap.size w0 w') := by
  have HS := Aside0.mk hs
  have H4 := Aside0.mk (four_c w0 w g s i l hs h)
  obtain ⟨o, ho⟩ : ∃ o, pointR s i = o := ⟨_, rfl⟩
  rw [ho]
  rw [pointR] at ho
  have HO := Aside0.mk ho
  clear h hs ho
  go_enter Tryd.func78, Tryd.ntmps78
  go_wp2_with fail
  refine H4.out.mono ?_
  rintro e w1 (⟨v, hv, rfl, hR⟩ | ⟨hn, rfl, hB⟩)
  · have hlt := four_lt hv
    have HR1 := Aside0.mk hR
    rw [hv, Option.bind_some] at HO
    clear hv hR H4
    by_cases hp : v < 55296 ∨ 57343 < v
    · rw [if_pos hp] at HO
      by_cases h1 : v < 55296
      · have n1 : decide ((v : Int) < 55296) = true := decide_eq_true (by omega)
        go_wp2
        go_ret
        exact .inl ⟨v, i + 4, HO.out.symm, rfl, HR1.out⟩
      · have n1 : decide ((v : Int) < 55296) = false := decide_eq_false (by omega)
        have n2 : decide ((v : Int) > 57343) = true := decide_eq_true (by omega)
        go_wp2
        go_ret
        exact .inl ⟨v, i + 4, HO.out.symm, rfl, HR1.out⟩
    · rw [if_neg hp] at HO
      have n1 : decide ((v : Int) < 55296) = false := decide_eq_false (by omega)
      have n2 : decide ((v : Int) > 57343) = false := decide_eq_false (by omega)
      have HN := Aside0.mk (next_c w0 w1 g s (i + 4) l HS.out HR1.out)
      go_wp2_with fail
      refine HN.out.mono ?_
      rintro e w2 (⟨hl4, rfl, hR⟩ | ⟨hge, rfl, hB⟩)
      · have hc := bn_lt s (i + 4)
        have HN2 := Aside0.mk (next_c w0 w2 g s (i + 5) l HS.out hR)
        have hlow2 := hR.low
        clear hR HN
        by_cases hq : bn s (i + 4) = 92
        · rw [hq]
          go_wp2_with fail
          refine HN2.out.mono ?_
          rintro e w3 (⟨hl5, rfl, hR⟩ | ⟨hge, rfl, hB⟩)
          · have hc := bn_lt s (i + 5)
            have H42 := Aside0.mk (four_c w0 w3 g s (i + 6) l HS.out hR)
            have HR3 := Aside0.mk hR
            clear hR HN2
            by_cases hu : bn s (i + 5) = 117
            · rw [if_pos ⟨hl4, hq, hl5, hu⟩] at HO
              rw [hu]
              go_wp2_with fail
              refine H42.out.mono ?_
              rintro e w4 (⟨low, hv, rfl, hR⟩ | ⟨hn, rfl, hB⟩)
              · have hlt2 := four_lt hv
                rw [hv, Option.bind_some] at HO
                have HR4 := Aside0.mk hR
                clear hv hR H42
                by_cases hb : 56320 ≤ v ∨ low < 56320 ∨ 57343 < low
                · rw [if_pos hb] at HO
                  by_cases b1 : 56320 ≤ v
                  · have m1 : decide ((v : Int) ≥ 56320) = true := decide_eq_true (by omega)
                    go_wp2
                    exact ⟨rfl, .inr ⟨HO.out.symm, rfl, HR4.out.low⟩⟩
                  · have m1 : decide ((v : Int) ≥ 56320) = false := decide_eq_false (by omega)
                    by_cases b2 : low < 56320
                    · have m2 : decide ((low : Int) < 56320) = true := decide_eq_true (by omega)
                      go_wp2
                      exact ⟨rfl, .inr ⟨HO.out.symm, rfl, HR4.out.low⟩⟩
                    · have m2 : decide ((low : Int) < 56320) = false := decide_eq_false (by omega)
                      have m3 : decide ((low : Int) > 57343) = true := decide_eq_true (by omega)
                      go_wp2
                      exact ⟨rfl, .inr ⟨HO.out.symm, rfl, HR4.out.low⟩⟩
                · rw [if_neg hb] at HO
                  have m1 : decide ((v : Int) ≥ 56320) = false := decide_eq_false (by omega)
                  have m2 : decide ((low : Int) < 56320) = false := decide_eq_false (by omega)
                  have m3 : decide ((low : Int) > 57343) = false := decide_eq_false (by omega)
                  go_wp2
                  go_ret
                  refine .inl ⟨_, _, HO.out.symm, ?_, HR4.out⟩
                  rw [show ((65536 + (v - 55296) * 1024 + (low - 56320) : Nat) : Int) = 65536 + ((v : Int) - 55296) * 1024 + (low : Int) - 56320 by omega]
                  rfl
              · go_wp2
                refine ⟨rfl, .inr ⟨?_, rfl, hB⟩⟩
                rw [← HO.out, hn]
                rfl
            · rw [if_neg (fun h => hu h.2.2.2)] at HO
              have m1 : ((bn s (i + 5) : Int) == 117) = false := beq_eq_false_iff_ne.2 (by omega)
              have m2 : ((bn s (i + 5) : Int) != 117) = true := by simp; omega
              have m3 : decide ((bn s (i + 5) : Int) = 117) = false := decide_eq_false (by omega)
              generalize bn s (i + 5) = c at *
              go_wp2
              exact ⟨rfl, .inr ⟨HO.out.symm, rfl, HR3.out.low⟩⟩
          · rw [if_neg (fun h => by omega)] at HO
            go_wp2
            exact ⟨rfl, .inr ⟨HO.out.symm, rfl, hB⟩⟩
        · rw [if_neg (fun h => hq h.2.1)] at HO
          have m1 : ((bn s (i + 4) : Int) == 92) = false := beq_eq_false_iff_ne.2 (by omega)
          have m2 : ((bn s (i + 4) : Int) != 92) = true := by simp; omega
          have m3 : decide ((bn s (i + 4) : Int) = 92) = false := decide_eq_false (by omega)
          clear HN2
          generalize bn s (i + 4) = c at *
          go_wp2
          exact ⟨rfl, .inr ⟨HO.out.symm, rfl, hlow2⟩⟩
      · rw [if_neg (fun h => by omega)] at HO
        go_wp2
        exact ⟨rfl, .inr ⟨HO.out.symm, rfl, hB⟩⟩
  · go_wp2
    refine ⟨rfl, .inr ⟨?_, rfl, hB⟩⟩
    rw [← HO.out, hn]
    rfl
def escR (s : ByteArray) (i : Nat) : Option (ByteArray × Nat) :=
  if i < s.size then
    if bn s i = 34 then some (⟨#[34]⟩, i + 1) else if bn s i = 92 then some (⟨#[92]⟩, i + 1) else if bn s i = 47 then some (⟨#[47]⟩, i + 1)
    else if bn s i = 98 then some (⟨#[8]⟩, i + 1) else if bn s i = 102 then some (⟨#[12]⟩, i + 1) else if bn s i = 110 then some (⟨#[10]⟩, i + 1)
    else if bn s i = 114 then some (⟨#[13]⟩, i + 1) else if bn s i = 116 then some (⟨#[9]⟩, i + 1)
    else if bn s i = 117 then (pointR s (i + 1)).map fun p => (putU p.1, p.2)
    else none
  else none
set_option maxHeartbeats 2000000 in
set_option maxRecDepth 100000 in
theorem escape_c (w0 w : World) (g : Nat) (s : ByteArray) (i : Nat) (l : List UInt8) (hs : s.size ≤ 1000000) (h : RJ w0 g s i l w) :
    Calls Tryd.prog 75 #[.pointer (some ⟨g, 0, none⟩)] w fun e w' => (∃ (t : ByteArray) (j : Nat), escR s i = some (t, j) ∧ e = .returned (.string t) ∧ RJ w0 g s j l w') ∨ (escR s i = none ∧ e = .panicked ThrownJ ∧ Below w0.heap.size w0 w') := by
  have HN := Aside0.mk (next_c w0 w g s i l hs h)
  have HP := Aside0.mk (fun w1 (h1 : RJ w0 g s (i + 1) l w1) => point_c w0 w1 g s (i + 1) l hs h1)
  obtain ⟨o, ho⟩ : ∃ o, escR s i = o := ⟨_, rfl⟩
  rw [ho]
  rw [escR] at ho
  have HO := Aside0.mk ho
  have hc1 : ∀ w : World, (convert 21 9 (.int .i32 34)).run Tryd.prog w = .ok (.string ⟨#[34]⟩) w := fun _ => by kernel_rfl
  have hc2 : ∀ w : World, (convert 21 9 (.int .i32 92)).run Tryd.prog w = .ok (.string ⟨#[92]⟩) w := fun _ => by kernel_rfl
  have hc3 : ∀ w : World, (convert 21 9 (.int .i32 47)).run Tryd.prog w = .ok (.string ⟨#[47]⟩) w := fun _ => by kernel_rfl
  clear h hs ho
  go_enter Tryd.func75, Tryd.ntmps75
  go_wp2_with fail
  refine HN.out.mono ?_
  rintro e w1 (⟨hlt, rfl, hR⟩ | ⟨hge, rfl, hB⟩)
  · rw [if_pos hlt] at HO
    have HR := Aside0.mk hR
    clear HN hR
    have hc := bn_lt s i
    generalize bn s i = c at *
    by_cases c0 : c = 34
    · subst c0
      rw [if_pos rfl] at HO
      go_wp2
      go_ret
      exact .inl ⟨_, _, HO.out.symm, rfl, HR.out⟩
    rw [if_neg c0] at HO
    by_cases c1 : c = 92
    · subst c1
      rw [if_pos rfl] at HO
      go_wp2
      go_ret
      exact .inl ⟨_, _, HO.out.symm, rfl, HR.out⟩
    rw [if_neg c1] at HO
    by_cases c2 : c = 47
    · subst c2
      rw [if_pos rfl] at HO
      go_wp2
      go_ret
      exact .inl ⟨_, _, HO.out.symm, rfl, HR.out⟩
    rw [if_neg c2] at HO
    by_cases c3 : c = 98
    · subst c3
      rw [if_pos rfl] at HO
      go_wp2
      go_ret
      exact .inl ⟨_, _, HO.out.symm, rfl, HR.out⟩
    rw [if_neg c3] at HO
    by_cases c4 : c = 102
    · subst c4
      rw [if_pos rfl] at HO
      go_wp2
      go_ret
      exact .inl ⟨_, _, HO.out.symm, rfl, HR.out⟩
    rw [if_neg c4] at HO
    by_cases c5 : c = 110
    · subst c5
      rw [if_pos rfl] at HO
      go_wp2
      go_ret
      exact .inl ⟨_, _, HO.out.symm, rfl, HR.out⟩
    rw [if_neg c5] at HO
    by_cases c6 : c = 114
    · subst c6
      rw [if_pos rfl] at HO
      go_wp2
      go_ret
      exact .inl ⟨_, _, HO.out.symm, rfl, HR.out⟩
    rw [if_neg c6] at HO
    by_cases c7 : c = 116
    · subst c7
      rw [if_pos rfl] at HO
      go_wp2
      go_ret
      exact .inl ⟨_, _, HO.out.symm, rfl, HR.out⟩
    rw [if_neg c7] at HO
    by_cases c8 : c = 117
    · subst c8
      rw [if_pos rfl] at HO
      go_wp2_with fail
      refine (HP.out _ HR.out).mono ?_
      rintro e w2 (⟨v, j, hv, rfl, hR⟩ | ⟨hn, rfl, hB⟩)
      · have HR2 := Aside0.mk hR
        rw [hv] at HO
        have HU := Aside0.mk (utf_Put_calls v w2)
        have HO2 := Aside0.mk (show some (putU (v : Int), j) = o from HO.out)
        clear hv hR HP HO
        generalize putU (v : Int) = t at *
        go_wp2_with fail
        refine HU.out.mono ?_
        rintro e w3 ⟨rfl, rfl⟩
        go_wp2
        go_ret
        exact .inl ⟨_, _, HO2.out.symm, rfl, HR2.out⟩
      · rw [hn] at HO
        go_wp2
        exact ⟨rfl, .inr ⟨HO.out.symm, rfl, hB⟩⟩
    rw [if_neg c8] at HO
    have m0 : ((c : Int) == 34) = false := beq_eq_false_iff_ne.2 (by omega)
    have k0 : decide ((c : Int) = 34) = false := decide_eq_false (by omega)
    have m1 : ((c : Int) == 92) = false := beq_eq_false_iff_ne.2 (by omega)
    have k1 : decide ((c : Int) = 92) = false := decide_eq_false (by omega)
    have m2 : ((c : Int) == 47) = false := beq_eq_false_iff_ne.2 (by omega)
    have k2 : decide ((c : Int) = 47) = false := decide_eq_false (by omega)
    have m3 : ((c : Int) == 98) = false := beq_eq_false_iff_ne.2 (by omega)
    have k3 : decide ((c : Int) = 98) = false := decide_eq_false (by omega)
    have m4 : ((c : Int) == 102) = false := beq_eq_false_iff_ne.2 (by omega)
    have k4 : decide ((c : Int) = 102) = false := decide_eq_false (by omega)
    have m5 : ((c : Int) == 110) = false := beq_eq_false_iff_ne.2 (by omega)
    have k5 : decide ((c : Int) = 110) = false := decide_eq_false (by omega)
    have m6 : ((c : Int) == 114) = false := beq_eq_false_iff_ne.2 (by omega)
    have k6 : decide ((c : Int) = 114) = false := decide_eq_false (by omega)
    have m7 : ((c : Int) == 116) = false := beq_eq_false_iff_ne.2 (by omega)
    have k7 : decide ((c : Int) = 116) = false := decide_eq_false (by omega)
    have m8 : ((c : Int) == 117) = false := beq_eq_false_iff_ne.2 (by omega)
    have k8 : decide ((c : Int) = 117) = false := decide_eq_false (by omega)
    clear HP
    go_wp2
    exact ⟨rfl, .inr ⟨HO.out.symm, rfl, HR.out.low⟩⟩
  · rw [if_neg (by omega)] at HO
    go_wp2
    exact ⟨rfl, .inr ⟨HO.out.symm, rfl, hB⟩⟩
end Go.Proofs.YtpamgedmgjfjjaaDoor.M
end
