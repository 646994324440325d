/-
Plain laws of encoding: a rune's bytes decode to it; a front part of them is none; they are a text of one good rune.
-/
import Derived.Test.YtpamgedmgjfjjaaDoorXCount
namespace Go.Proofs.YtpamgedmgjfjjaaDoor.M
open Go.RowKit Go.Proofs.YtpamgedmgjfjjaaDoorW.PrintWords
open Go.Lib
set_option linter.unusedVariables false
set_option linter.unusedSimpArgs false

/-- A code point's bytes. -/
def encL (r : Nat) : List UInt8 :=
  if r < 128 then [UInt8.ofNat r]
  else if r < 2048 then [UInt8.ofNat (192 + r / 64), UInt8.ofNat (128 + r % 64)]
  else if r < 65536 then [UInt8.ofNat (224 + r / 4096), UInt8.ofNat (128 + r / 64 % 64), UInt8.ofNat (128 + r % 64)]
  else [UInt8.ofNat (240 + r / 262144), UInt8.ofNat (128 + r / 4096 % 64), UInt8.ofNat (128 + r / 64 % 64), UInt8.ofNat (128 + r % 64)]
/-- How many they are. -/
def wid (r : Nat) : Nat := if r < 128 then 1 else if r < 2048 then 2 else if r < 65536 then 3 else 4
theorem encL_len (r : Nat) : (encL r).length = wid r := by
  unfold encL wid
  split
  · rfl
  · split
    · rfl
    · split <;> rfl
/-- A code point that may stand in a text. -/
def Point (r : Nat) : Prop := r < 55296 ∨ (57343 < r ∧ r ≤ 1114111)
theorem valid_point (r : Int) : Lib.validRune r = true ↔ 0 ≤ r ∧ Point r.toNat := by
  unfold Lib.validRune Point
  rw [decide_eq_true_iff]
  omega
theorem encode_L (r : Int) (h : Lib.validRune r = true) : (Utf8.encode r).data.toList = encL r.toNat := by
  have hv : Utf8.valid r = true := by rw [validRune_eq]; exact h
  unfold Utf8.encode encL
  simp only [hv, if_true]
  split
  · rfl
  · split
    · rfl
    · split <;> rfl
theorem putU_L (r : Int) (h : Lib.validRune r = true) : (putU r).data.toList = encL r.toNat := by
  unfold putU
  rw [if_pos h]
  exact encode_L r h
theorem ofNat_small (n : Nat) (h : n < 256) : (UInt8.ofNat n).toNat = n := by
  simp; omega
theorem decN1 (n b0 b1 b2 b3 : Nat) (h : b0 < 128) : decodeN n b0 b1 b2 b3 = (b0, 1) := by unfold decodeN; rw [if_pos h]
theorem decN2 (n b0 b1 b2 b3 r : Nat) (hn : 1 < n) (h0 : b0 / 32 = 6) (h1 : b1 / 64 = 2) (hr : b0 % 32 * 64 + b1 % 64 = r) (h : 128 ≤ r) : decodeN n b0 b1 b2 b3 = (r, 2) := by
  unfold decodeN
  rw [if_neg (by omega), if_pos ⟨h0, hn, h1⟩, hr, if_pos h]
theorem decN3 (n b0 b1 b2 b3 r : Nat) (hn : 2 < n) (h0 : b0 / 16 = 14) (h1 : b1 / 64 = 2) (h2 : b2 / 64 = 2) (hr : b0 % 16 * 4096 + b1 % 64 * 64 + b2 % 64 = r) (h : 2048 ≤ r) (hp : Point r) : decodeN n b0 b1 b2 b3 = (r, 3) := by
  unfold Point at hp
  unfold decodeN
  rw [if_neg (by omega), if_neg (by omega), if_pos ⟨h0, ⟨by omega, h1⟩, hn, h2⟩, hr, if_pos ⟨h, by omega⟩]
theorem decN4 (n b0 b1 b2 b3 r : Nat) (hn : 3 < n) (h0 : b0 / 8 = 30) (h1 : b1 / 64 = 2) (h2 : b2 / 64 = 2) (h3 : b3 / 64 = 2) (hr : b0 % 8 * 262144 + b1 % 64 * 4096 + b2 % 64 * 64 + b3 % 64 = r) (h : 65536 ≤ r) (hp : Point r) : decodeN n b0 b1 b2 b3 = (r, 4) := by
  unfold Point at hp
  unfold decodeN
  rw [if_neg (by omega), if_neg (by omega), if_neg (by omega), if_pos ⟨h0, ⟨by omega, h1⟩, ⟨by omega, h2⟩, hn, h3⟩, hr, if_pos ⟨h, by omega⟩]
/-- A rune's bytes decode to it, whatever stands behind them. -/
theorem dec_enc (r : Nat) (hp : Point r) (m : List UInt8) : decodeL (encL r ++ m) = (r, wid r) := by
  have hr : r ≤ 1114111 := by unfold Point at hp; omega
  rw [dec_N]
  unfold encL wid
  split
  · rename_i c
    have e : (UInt8.ofNat r).toNat = r := ofNat_small r (by omega)
    rw [decN1 _ _ _ _ _ (by simp; omega)]
    simp
    omega
  · split
    · rename_i c c2
      have e0 : (UInt8.ofNat (192 + r / 64)).toNat = 192 + r / 64 := ofNat_small _ (by omega)
      have e1 : (UInt8.ofNat (128 + r % 64)).toNat = 128 + r % 64 := ofNat_small _ (by omega)
      simp only [List.cons_append, List.nil_append, List.getD_cons_zero, List.getD_cons_succ, List.length_cons, e0, e1]
      exact decN2 _ _ _ _ _ r (by omega) (by omega) (by omega) (by omega) (by omega)
    · split
      · rename_i c c2 c3
        have e0 : (UInt8.ofNat (224 + r / 4096)).toNat = 224 + r / 4096 := ofNat_small _ (by omega)
        have e1 : (UInt8.ofNat (128 + r / 64 % 64)).toNat = 128 + r / 64 % 64 := ofNat_small _ (by omega)
        have e2 : (UInt8.ofNat (128 + r % 64)).toNat = 128 + r % 64 := ofNat_small _ (by omega)
        simp only [List.cons_append, List.nil_append, List.getD_cons_zero, List.getD_cons_succ, List.length_cons, e0, e1, e2]
        exact decN3 _ _ _ _ _ r (by omega) (by omega) (by omega) (by omega) (by omega) (by omega) hp
      · rename_i c c2 c3
        have e0 : (UInt8.ofNat (240 + r / 262144)).toNat = 240 + r / 262144 := ofNat_small _ (by omega)
        have e1 : (UInt8.ofNat (128 + r / 4096 % 64)).toNat = 128 + r / 4096 % 64 := ofNat_small _ (by omega)
        have e2 : (UInt8.ofNat (128 + r / 64 % 64)).toNat = 128 + r / 64 % 64 := ofNat_small _ (by omega)
        have e3 : (UInt8.ofNat (128 + r % 64)).toNat = 128 + r % 64 := ofNat_small _ (by omega)
        simp only [List.cons_append, List.nil_append, List.getD_cons_zero, List.getD_cons_succ, List.length_cons, e0, e1, e2, e3]
        exact decN4 _ _ _ _ _ r (by omega) (by omega) (by omega) (by omega) (by omega) (by omega) (by omega) hp
theorem wid_pos (r : Nat) : 1 ≤ wid r := by unfold wid; repeat' split
                                            all_goals omega
theorem wid_le (r : Nat) : wid r ≤ 4 := by unfold wid; repeat' split
                                           all_goals omega
theorem enc_ne (r : Nat) (m : List UInt8) : encL r ++ m ≠ [] := by
  intro h
  have := congrArg List.length h
  rw [List.length_append, encL_len] at this
  have := wid_pos r
  simp at *
  omega
theorem enc_good (r : Nat) (hp : Point r) (m : List UInt8) : ¬ Bad (decodeL (encL r ++ m)) := by
  rw [dec_enc r hp m]
  rintro ⟨h1, h2⟩
  simp only at h1 h2
  subst h1
  revert h2
  decide
theorem good_enc (r : Nat) (hp : Point r) {m : List UInt8} (hm : Good m) : Good (encL r ++ m) := by
  refine .rune _ (enc_ne r m) (enc_good r hp m) ?_
  rw [dec_enc r hp m]
  simp only
  rw [← encL_len, List.drop_left]
  exact hm
/-- The rune at a place is the one that stands there. -/
theorem runeU_enc (s : ByteArray) (pos : Nat) (r : Nat) (hp : Point r) (m : List UInt8) (h : s.data.toList.drop pos = encL r ++ m) : runeU s pos = ((r : Int), (wid r : Int)) := by
  have hl : s.data.toList.length = s.size := by rw [Array.length_toList]; rfl
  have hlt : pos < s.size := by
    rcases Nat.lt_or_ge pos s.size with h1 | h1
    · exact h1
    · rw [List.drop_eq_nil_of_le (by omega)] at h
      exact absurd h.symm (enc_ne r m)
  have hd : Utf8.decode s pos = (r, wid r) := by rw [← decodeL_drop, h, dec_enc r hp m]
  have hb := enc_good r hp m
  rw [dec_enc r hp m] at hb
  unfold runeU
  rw [if_neg (by omega), Int.toNat_natCast, hd, if_neg (show ¬ (_ ∧ _) from hb)]
theorem runeU_bad (s : ByteArray) (pos : Nat) (hlt : pos < s.size) (hb : Bad (decodeL (s.data.toList.drop pos))) : runeU s pos = (-1, 1) := by
  rw [decodeL_drop] at hb
  unfold runeU
  rw [if_neg (by omega), Int.toNat_natCast, if_pos (show _ ∧ _ from hb)]
theorem runeU_out (s : ByteArray) (i : Int) (h : i < 0 ∨ (s.size : Int) ≤ i) : runeU s i = (-1, 0) := by
  unfold runeU
  rw [if_pos h]
/-- All but a rune's last byte is none. -/
theorem runeU_front (e : ByteArray) (r : Nat) (hp : Point r) (he : e.data.toList = encL r) (k : Nat) (hk : k = wid r) :
    runeU (e.extract 0 (k - 1)) 0 = if k = 1 then (-1, 0) else (-1, 1) := by
  subst hk
  have h1 := wid_pos r
  have hd : (e.extract 0 (wid r - 1)).data.toList = (encL r).take (wid r - 1) := by simp [he]
  have hsz : (e.extract 0 (wid r - 1)).size = wid r - 1 := by
    rw [← data_length, hd, List.length_take, encL_len]
    omega
  by_cases h : wid r = 1
  · rw [if_pos h]
    exact runeU_out _ _ (.inr (by rw [hsz, h]; decide))
  · rw [if_neg h]
    refine runeU_bad _ 0 (by rw [hsz]; omega) ?_
    rw [List.drop_zero, hd]
    have hg := enc_good r hp []
    have hne := enc_ne r []
    rw [List.append_nil] at hg hne
    have hw := dec_enc r hp []
    rw [List.append_nil] at hw
    refine dec_front _ _ hne hg (by omega) ?_
    rw [hw]
    simp only
    omega
end Go.Proofs.YtpamgedmgjfjjaaDoor.M
