/-
Plain laws: the runes of a valid text, joined, are the text; joined runes are a valid text with just these runes.
-/
import Derived.Test.YtpamgedmgjfjjaaDoorXJoin
namespace Go.Proofs.YtpamgedmgjfjjaaDoor.M
open Go.RowKit Go.Proofs.YtpamgedmgjfjjaaDoorW.PrintWords
open Go.Lib (decodeN decode_at decodeL decodeL_drop)
set_option linter.unusedVariables false
set_option linter.unusedSimpArgs false

theorem u8_of (b : UInt8) (n : Nat) (h : n = b.toNat) : UInt8.ofNat n = b := by
  subst h
  exact UInt8.ofNat_toNat
theorem good_val (n b0 b1 b2 b3 : Nat) (h : ¬ Bad (decodeN n b0 b1 b2 b3)) :
    ((decodeN n b0 b1 b2 b3) = (b0, 1) ∧ b0 < 128) ∨
    ((decodeN n b0 b1 b2 b3) = (b0 % 32 * 64 + b1 % 64, 2) ∧ 1 < n ∧ b0 / 32 = 6 ∧ b1 / 64 = 2 ∧ 128 ≤ b0 % 32 * 64 + b1 % 64) ∨
    ((decodeN n b0 b1 b2 b3) = (b0 % 16 * 4096 + b1 % 64 * 64 + b2 % 64, 3) ∧ 2 < n ∧ b0 / 16 = 14 ∧ b1 / 64 = 2 ∧ b2 / 64 = 2 ∧ 2048 ≤ b0 % 16 * 4096 + b1 % 64 * 64 + b2 % 64 ∧ Point (b0 % 16 * 4096 + b1 % 64 * 64 + b2 % 64)) ∨
    ((decodeN n b0 b1 b2 b3) = (b0 % 8 * 262144 + b1 % 64 * 4096 + b2 % 64 * 64 + b3 % 64, 4) ∧ 3 < n ∧ b0 / 8 = 30 ∧ b1 / 64 = 2 ∧ b2 / 64 = 2 ∧ b3 / 64 = 2 ∧ 65536 ≤ b0 % 8 * 262144 + b1 % 64 * 4096 + b2 % 64 * 64 + b3 % 64 ∧ Point (b0 % 8 * 262144 + b1 % 64 * 4096 + b2 % 64 * 64 + b3 % 64)) := by
  unfold Bad decodeN at *
  by_cases c0 : b0 < 128
  · rw [if_pos c0] at h ⊢
    exact .inl ⟨rfl, c0⟩
  rw [if_neg c0] at h ⊢
  by_cases c1 : b0 / 32 = 6 ∧ (1 < n ∧ b1 / 64 = 2)
  · rw [if_pos c1] at h ⊢
    by_cases e : b0 % 32 * 64 + b1 % 64 ≥ 128
    · rw [if_pos e]
      exact .inr (.inl ⟨rfl, c1.2.1, c1.1, c1.2.2, e⟩)
    · rw [if_neg e] at h
      exact absurd ⟨rfl, rfl⟩ h
  rw [if_neg c1] at h ⊢
  by_cases c2 : b0 / 16 = 14 ∧ (1 < n ∧ b1 / 64 = 2) ∧ (2 < n ∧ b2 / 64 = 2)
  · rw [if_pos c2] at h ⊢
    split
    · rename_i e
      refine .inr (.inr (.inl ⟨rfl, c2.2.2.1, c2.1, c2.2.1.2, c2.2.2.2, e.1, ?_⟩))
      unfold Point
      have := e.2
      omega
    · rename_i e
      rw [if_neg e] at h
      exact absurd ⟨rfl, rfl⟩ h
  rw [if_neg c2] at h ⊢
  by_cases c3 : b0 / 8 = 30 ∧ (1 < n ∧ b1 / 64 = 2) ∧ (2 < n ∧ b2 / 64 = 2) ∧ (3 < n ∧ b3 / 64 = 2)
  · rw [if_pos c3] at h ⊢
    split
    · rename_i e
      refine .inr (.inr (.inr ⟨rfl, c3.2.2.2.1, c3.1, c3.2.1.2, c3.2.2.1.2, c3.2.2.2.2, e.1, ?_⟩))
      unfold Point
      have := e.2
      omega
    · rename_i e
      rw [if_neg e] at h
      exact absurd ⟨rfl, rfl⟩ h
  rw [if_neg c3] at h
  exact absurd ⟨rfl, rfl⟩ h
theorem list2 (l : List UInt8) (h : 1 < l.length) : ∃ a b r, l = a :: b :: r := by
  match l, h with
  | a :: b :: r, _ => exact ⟨a, b, r, rfl⟩
theorem list3 (l : List UInt8) (h : 2 < l.length) : ∃ a b d r, l = a :: b :: d :: r := by
  match l, h with
  | a :: b :: d :: r, _ => exact ⟨a, b, d, r, rfl⟩
theorem list4 (l : List UInt8) (h : 3 < l.length) : ∃ a b d g r, l = a :: b :: d :: g :: r := by
  match l, h with
  | a :: b :: d :: g :: r, _ => exact ⟨a, b, d, g, r, rfl⟩
theorem enc2x (a b : UInt8) (x y : Nat) (ha : a.toNat = x) (hb : b.toNat = y) (c0 : x / 32 = 6) (c1 : y / 64 = 2) (cr : 128 ≤ x % 32 * 64 + y % 64) : encL (x % 32 * 64 + y % 64) = [a, b] := by
  have hx := a.toNat_lt
  rw [encL, if_neg (by omega), if_pos (by omega), u8_of a _ (by omega), u8_of b _ (by omega)]
theorem enc3x (a b d : UInt8) (x y z : Nat) (ha : a.toNat = x) (hb : b.toNat = y) (hd : d.toNat = z) (c0 : x / 16 = 14) (c1 : y / 64 = 2) (c2 : z / 64 = 2) (cr : 2048 ≤ x % 16 * 4096 + y % 64 * 64 + z % 64) : encL (x % 16 * 4096 + y % 64 * 64 + z % 64) = [a, b, d] := by
  have hx := a.toNat_lt
  rw [encL, if_neg (by omega), if_neg (by omega), if_pos (by omega), u8_of a _ (by omega), u8_of b _ (by omega), u8_of d _ (by omega)]
theorem enc4x (a b d g : UInt8) (x y z v : Nat) (ha : a.toNat = x) (hb : b.toNat = y) (hd : d.toNat = z) (hg : g.toNat = v) (c0 : x / 8 = 30) (c1 : y / 64 = 2) (c2 : z / 64 = 2) (c3 : v / 64 = 2) (cr : 65536 ≤ x % 8 * 262144 + y % 64 * 4096 + z % 64 * 64 + v % 64) : encL (x % 8 * 262144 + y % 64 * 4096 + z % 64 * 64 + v % 64) = [a, b, d, g] := by
  have hx := a.toNat_lt
  rw [encL, if_neg (by omega), if_neg (by omega), if_neg (by omega), u8_of a _ (by omega), u8_of b _ (by omega), u8_of d _ (by omega), u8_of g _ (by omega)]
/-- A good rune's bytes are its own. -/
theorem enc_dec (l : List UInt8) (h0 : l ≠ []) (h : ¬ Bad (decodeL l)) : Point (decodeL l).1 ∧ encL (decodeL l).1 = l.take (decodeL l).2 := by
  have hN := dec_N l
  rw [hN] at h ⊢
  rcases good_val _ _ _ _ _ h with ⟨e, c⟩ | ⟨e, hn, c0, c1, cr⟩ | ⟨e, hn, c0, c1, c2, cr, cp⟩ | ⟨e, hn, c0, c1, c2, c3, cr, cp⟩
  · rw [e]
    match l, h0 with
    | a :: r, _ =>
      simp only [List.getD_cons_zero] at c ⊢
      refine ⟨by unfold Point; omega, ?_⟩
      rw [encL, if_pos c]
      simp
  · rw [e]
    refine ⟨by unfold Point; omega, ?_⟩
    obtain ⟨a, b, r, rfl⟩ := list2 l hn
    exact enc2x a b _ _ rfl rfl c0 c1 cr
  · rw [e]
    refine ⟨cp, ?_⟩
    obtain ⟨a, b, d, r, rfl⟩ := list3 l hn
    exact enc3x a b d _ _ _ rfl rfl rfl c0 c1 c2 cr
  · rw [e]
    refine ⟨cp, ?_⟩
    obtain ⟨a, b, d, g, r, rfl⟩ := list4 l hn
    exact enc4x a b d g _ _ _ _ rfl rfl rfl rfl c0 c1 c2 c3 cr
/-- The runes of a valid text, joined, are the text. -/
theorem join_good {s : List UInt8} (h : Good s) : joinP (rAll s) = some s := by
  induction h with
  | nil => rfl
  | rune l h0 hg ht ih =>
    obtain ⟨hp, he⟩ := enc_dec l h0 hg
    rw [rAll_step l h0, joinP, headR, if_neg hg, if_pos ((valid_point _).2 ⟨by omega, by simpa using hp⟩), ih, Int.toNat_natCast, he]
    simp
/-- Joined runes are a valid text with just these runes. -/
theorem good_join : ∀ (l : List Int) (t : List UInt8), joinP l = some t → Good t ∧ rAll t = l
  | [], t, h => by
    simp [joinP] at h
    subst h
    exact ⟨.nil, rfl⟩
  | r :: l, t, h => by
    rw [joinP] at h
    by_cases hv : Lib.validRune r = true
    · rw [if_pos hv] at h
      obtain ⟨m, hm, rfl⟩ := Option.map_eq_some_iff.1 h
      obtain ⟨hg, hr⟩ := good_join l m hm
      obtain ⟨h0, hp⟩ := (valid_point r).1 hv
      refine ⟨good_enc _ hp hg, ?_⟩
      have hd := dec_enc r.toNat hp m
      rw [rAll_step _ (enc_ne _ m), headR, if_neg (enc_good _ hp m), hd]
      simp only
      rw [← encL_len, List.drop_left, hr]
      congr 1
      omega
    · rw [if_neg hv] at h
      cases h
theorem joinP_len : ∀ (l : List Int) (t : List UInt8), joinP l = some t → t.length ≤ 4 * l.length
  | [], t, h => by
    simp [joinP] at h
    subst h
    simp
  | r :: l, t, h => by
    rw [joinP] at h
    by_cases hv : Lib.validRune r = true
    · rw [if_pos hv] at h
      obtain ⟨m, hm, rfl⟩ := Option.map_eq_some_iff.1 h
      have := joinP_len l m hm
      have := wid_le r.toNat
      rw [List.length_append, encL_len, List.length_cons]
      omega
    · rw [if_neg hv] at h
      cases h
theorem good_drop {l : List UInt8} (h : Good l) (h0 : l ≠ []) : ¬ Bad (decodeL l) ∧ Good (l.drop (decodeL l).2) := by
  cases h with
  | nil => exact absurd rfl h0
  | rune _ _ hg ht => exact ⟨hg, ht⟩
end Go.Proofs.YtpamgedmgjfjjaaDoor.M
