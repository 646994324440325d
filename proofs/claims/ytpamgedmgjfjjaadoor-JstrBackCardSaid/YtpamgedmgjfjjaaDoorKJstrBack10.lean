/-
Lemmas for JstrBack, for every input they speak of: XJRefQ, XBackP, XJBackP, XJBack.
-/
import Derived.Test.YtpamgedmgjfjjaaDoorKJstrBack09
import Derived.Test.YtpamgedmgjfjjaaDoorKJstrBack03
import Derived.Test.YtpamgedmgjfjjaaDoorKJstrBack05
section
namespace Go.Proofs.YtpamgedmgjfjjaaDoor.M
open Go.RowKit Go.Proofs.YtpamgedmgjfjjaaDoorW.PrintWords Go.Proofs.YtpamgedmgjfjjaaDoorW.PrintLast Go.Proofs.YtpamgedmgjfjjaaDoorW.PrintMore
set_option linter.unusedVariables false
set_option linter.unusedSimpArgs false
theorem escL_of (b : UInt8) (c : Nat) (x : List UInt8) (hb : b.toNat = c) (h0 : ¬ (escB c).size = 0) (hx : (escB c).data.toList = x) : escL b = x := by
  unfold escL
  rw [hb, if_neg h0, hx]
theorem escL_self (b : UInt8) (c : Nat) (hb : b.toNat = c) (h0 : (escB c).size = 0) : escL b = [b] := by
  unfold escL
  rw [hb, if_pos h0]
theorem ba_append (a b : ByteArray) : (a ++ b).data.toList = a.data.toList ++ b.data.toList := by
  rw [ByteArray.data_append, Array.toList_append]
theorem ext_one (s : ByteArray) (k : Nat) (h : k < s.size) : (s.extract k (k + 1)).data.toList = [s[k]'h] := by
  rw [ByteArray.data_extract, Array.toList_extract, List.extract_eq_take_drop]
  have hl : k < s.data.toList.length := by rw [data_length]; exact h
  rw [show k + 1 - k = 1 by omega, List.drop_eq_getElem_cons hl, List.take_succ_cons, List.take_zero]
  rfl
end Go.Proofs.YtpamgedmgjfjjaaDoor.M
end
section
namespace Go.Proofs.YtpamgedmgjfjjaaDoor.M
open Go.RowKit Go.Proofs.YtpamgedmgjfjjaaDoorW.PrintWords
open Go.Lib (decodeN decode_at decodeL decodeL_drop)
set_option linter.unusedVariables false
set_option linter.unusedSimpArgs false
theorem u8_of (b : UInt8) (n : Nat) (h : n = b.toNat) : UInt8.ofNat n = b := by
  subst h
  exact UInt8.ofNat_toNat
theorem good_val (n b0 b1 b2 b3 : Nat) (h : ¬ Bad (decodeN n b0 b1 b2 b3)) :
    ((decodeN n b0 b1 b2 b3) = (b0, 1) ∧ b0 < 128) ∨
    ((decodeN n b0 b1 b2 b3) = (b0 % 32 * 64 + b1 % 64, 2) ∧ 1 < n ∧ b0 / 32 = 6 ∧ b1 / 64 = 2 ∧ 128 ≤ b0 % 32 * 64 + b1 % 64) ∨
    ((decodeN n b0 b1 b2 b3) = (b0 % 16 * 4096 + b1 % 64 * 64 + b2 % 64, 3) ∧ 2 < n ∧ b0 / 16 = 14 ∧ b1 / 64 = 2 ∧ b2 / 64 = 2 ∧ 2048 ≤ b0 % 16 * 4096 + b1 % 64 * 64 + b2 % 64 ∧ Point (b0 % 16 * 4096 + b1 % 64 * 64 + b2 % 64)) ∨
    ((decodeN n b0 b1 b2 b3) = (b0 % 8 * 262144 + b1 % 64 * 4096 + b2 % 64 * 64 + b3 % 64, 4) ∧ 3 < n ∧ b0 / 8 = 30 ∧ b1 / 64 = 2 ∧ b2 / 64 = 2 ∧ b3 / 64 = 2 ∧ 65536 ≤ b0 % 8 * 262144 + b1 % 64 * 4096 + b2 % 64 * 64 + b3 % 64 ∧ Point (b0 % 8 * 262144 + b1 % 64 * 4096 + b2 % 64 * 64 + b3 % 64)) := by
  unfold Bad decodeN at *
  by_cases c0 : b0 < 128
  · rw [if_pos c0] at h ⊢
    exact .inl ⟨rfl, c0⟩
  rw [if_neg c0] at h ⊢
  by_cases c1 : b0 / 32 = 6 ∧ (1 < n ∧ b1 / 64 = 2)
  · rw [if_pos c1] at h ⊢
    by_cases e : b0 % 32 * 64 + b1 % 64 ≥ 128
    · rw [if_pos e]
      exact .inr (.inl ⟨rfl, c1.2.1, c1.1, c1.2.2, e⟩)
    · rw [if_neg e] at h
      exact absurd ⟨rfl, rfl⟩ h
  rw [if_neg c1] at h ⊢
  by_cases c2 : b0 / 16 = 14 ∧ (1 < n ∧ b1 / 64 = 2) ∧ (2 < n ∧ b2 / 64 = 2)
  · rw [if_pos c2] at h ⊢
    split
    · rename_i e
      refine .inr (.inr (.inl ⟨rfl, c2.2.2.1, c2.1, c2.2.1.2, c2.2.2.2, e.1, ?_⟩))
      unfold Point
      have := e.2
      omega
    · rename_i e
      rw [if_neg e] at h
      exact absurd ⟨rfl, rfl⟩ h
  rw [if_neg c2] at h ⊢
  by_cases c3 : b0 / 8 = 30 ∧ (1 < n ∧ b1 / 64 = 2) ∧ (2 < n ∧ b2 / 64 = 2) ∧ (3 < n ∧ b3 / 64 = 2)
  · rw [if_pos c3] at h ⊢
    split
    · rename_i e
      refine .inr (.inr (.inr ⟨rfl, c3.2.2.2.1, c3.1, c3.2.1.2, c3.2.2.1.2, c3.2.2.2.2, e.1, ?_⟩))
      unfold Point
      have := e.2
      omega
    · rename_i e
      rw [if_neg e] at h
      exact absurd ⟨rfl, rfl⟩ h
  rw [if_neg c3] at h
  exact absurd ⟨rfl, rfl⟩ h
theorem list2 (l : List UInt8) (h : 1 < l.length) : ∃ a b r, l = a :: b :: r := by
  match l, h with
  | a :: b :: r, _ => exact ⟨a, b, r, rfl⟩
theorem list3 (l : List UInt8) (h : 2 < l.length) : ∃ a b d r, l = a :: b :: d :: r := by
  match l, h with
  | a :: b :: d :: r, _ => exact ⟨a, b, d, r, rfl⟩
theorem list4 (l : List UInt8) (h : 3 < l.length) : ∃ a b d g r, l = a :: b :: d :: g :: r := by
  match l, h with
  | a :: b :: d :: g :: r, _ => exact ⟨a, b, d, g, r, rfl⟩
theorem enc2x (a b : UInt8) (x y : Nat) (ha : a.toNat = x) (hb : b.toNat = y) (c0 : x / 32 = 6) (c1 : y / 64 = 2) (cr : 128 ≤ x % 32 * 64 + y % 64) : encL (x % 32 * 64 + y % 64) = [a, b] := by
  have hx := a.toNat_lt
  rw [encL, if_neg (by omega), if_pos (by omega), u8_of a _ (by omega), u8_of b _ (by omega)]
theorem enc3x (a b d : UInt8) (x y z : Nat) (ha : a.toNat = x) (hb : b.toNat = y) (hd : d.toNat = z) (c0 : x / 16 = 14) (c1 : y / 64 = 2) (c2 : z / 64 = 2) (cr : 2048 ≤ x % 16 * 4096 + y % 64 * 64 + z % 64) : encL (x % 16 * 4096 + y % 64 * 64 + z % 64) = [a, b, d] := by
  have hx := a.toNat_lt
  rw [encL, if_neg (by omega), if_neg (by omega), if_pos (by omega), u8_of a _ (by omega), u8_of b _ (by omega), u8_of d _ (by omega)]
theorem enc4x (a b d g : UInt8) (x y z v : Nat) (ha : a.toNat = x) (hb : b.toNat = y) (hd : d.toNat = z) (hg : g.toNat = v) (c0 : x / 8 = 30) (c1 : y / 64 = 2) (c2 : z / 64 = 2) (c3 : v / 64 = 2) (cr : 65536 ≤ x % 8 * 262144 + y % 64 * 4096 + z % 64 * 64 + v % 64) : encL (x % 8 * 262144 + y % 64 * 4096 + z % 64 * 64 + v % 64) = [a, b, d, g] := by
  have hx := a.toNat_lt
  rw [encL, if_neg (by omega), if_neg (by omega), if_neg (by omega), u8_of a _ (by omega), u8_of b _ (by omega), u8_of d _ (by omega), u8_of g _ (by omega)]
theorem enc_dec (l : List UInt8) (h0 : l ≠ []) (h : ¬ Bad (decodeL l)) : Point (decodeL l).1 ∧ encL (decodeL l).1 = l.take (decodeL l).2 := by
  have hN := dec_N l
  rw [hN] at h ⊢
  rcases good_val _ _ _ _ _ h with ⟨e, c⟩ | ⟨e, hn, c0, c1, cr⟩ | ⟨e, hn, c0, c1, c2, cr, cp⟩ | ⟨e, hn, c0, c1, c2, c3, cr, cp⟩
  · rw [e]
    match l, h0 with
    | a :: r, _ =>
      simp only [List.getD_cons_zero] at c ⊢
      refine ⟨by unfold Point; omega, ?_⟩
      rw [encL, if_pos c]
      simp
  · rw [e]
    refine ⟨by unfold Point; omega, ?_⟩
    obtain ⟨a, b, r, rfl⟩ := list2 l hn
    exact enc2x a b _ _ rfl rfl c0 c1 cr
  · rw [e]
    refine ⟨cp, ?_⟩
    obtain ⟨a, b, d, r, rfl⟩ := list3 l hn
    exact enc3x a b d _ _ _ rfl rfl rfl c0 c1 c2 cr
  · rw [e]
    refine ⟨cp, ?_⟩
    obtain ⟨a, b, d, g, r, rfl⟩ := list4 l hn
    exact enc4x a b d g _ _ _ _ rfl rfl rfl rfl c0 c1 c2 c3 cr
end Go.Proofs.YtpamgedmgjfjjaaDoor.M
end
section
namespace Go.Proofs.YtpamgedmgjfjjaaDoor.M
open Go.RowKit Go.Proofs.YtpamgedmgjfjjaaDoorW.PrintWords Go.Proofs.YtpamgedmgjfjjaaDoorW.PrintLast Go.Proofs.YtpamgedmgjfjjaaDoorW.PrintMore
open Go.Lib (decodeL decodeN)
set_option linter.unusedVariables false
set_option linter.unusedSimpArgs false
theorem bn_drop (S : ByteArray) (i : Nat) (l : List UInt8) (h : S.data.toList.drop i = l) (j : Nat) (hj : j < l.length) : i + j < S.size ∧ bn S (i + j) = (l[j]'hj).toNat := by
  have hl : l.length = S.size - i := by rw [← h, List.length_drop, data_length]
  have h1 : i + j < S.size := by omega
  refine ⟨h1, ?_⟩
  rw [bn_get S (i + j) h1]
  subst h
  rw [List.getElem_drop]
  rfl
theorem escL_high (b : UInt8) (h : 128 ≤ b.toNat) : escL b = [b] := by
  refine escL_self b b.toNat rfl ?_
  unfold escB
  rw [if_neg (by omega), if_neg (by omega), if_neg (by omega), if_neg (by omega), if_neg (by omega), if_neg (by omega), if_neg (by omega), if_neg (by omega)]
  rfl
theorem escL_plain (b : UInt8) (h : 32 ≤ b.toNat) (h1 : b.toNat ≠ 34) (h2 : b.toNat ≠ 92) : escL b = [b] := by
  refine escL_self b b.toNat rfl ?_
  unfold escB
  rw [if_neg (by omega), if_neg (by omega), if_neg (by omega), if_neg (by omega), if_neg (by omega), if_neg (by omega), if_neg (by omega), if_neg (by omega)]
  rfl
theorem quoteL_app (a b : List UInt8) : quoteL (a ++ b) = quoteL a ++ quoteL b := List.flatMap_append
theorem quoteL_high : ∀ (l : List UInt8), (∀ b ∈ l, 128 ≤ b.toNat) → quoteL l = l
  | [], _ => rfl
  | a :: t, h => by
    show escL a ++ quoteL t = a :: t
    rw [escL_high a (h a (by simp)), quoteL_high t (fun b hb => h b (by simp [hb]))]
    rfl
theorem encL_high (r : Nat) (hr : 128 ≤ r) (hp : Point r) : ∀ b ∈ encL r, 128 ≤ b.toNat := by
  have hle : r ≤ 1114111 := by rcases hp with h | h <;> omega
  unfold encL
  rw [if_neg (by omega)]
  intro b hb
  split at hb
  · simp only [List.mem_cons, List.not_mem_nil, or_false] at hb
    rcases hb with rfl | rfl <;> (rw [ofNat_small _ (by omega)]; omega)
  · split at hb
    · simp only [List.mem_cons, List.not_mem_nil, or_false] at hb
      rcases hb with rfl | rfl | rfl <;> (rw [ofNat_small _ (by omega)]; omega)
    · simp only [List.mem_cons, List.not_mem_nil, or_false] at hb
      rcases hb with rfl | rfl | rfl | rfl <;> (rw [ofNat_small _ (by omega)]; omega)
theorem hexB_digit : ∀ d : Fin 16, hexD (hexB d.val).toNat = some d.val := by decide +kernel
theorem putU_low (r : Nat) (h : r < 128) : (putU (r : Int)).data.toList = [UInt8.ofNat r] := by
  rw [putU_L _ ((valid_point _).2 ⟨by omega, .inl (by rw [Int.toNat_natCast]; omega)⟩), Int.toNat_natCast]
  unfold encL
  rw [if_pos h]
theorem u_point (S : ByteArray) (i : Nat) (h1 h2 : UInt8) (m : List UInt8) (d1 d2 : Nat) (hS : S.data.toList.drop i = 48 :: 48 :: h1 :: h2 :: m) (e1 : hexD h1.toNat = some d1) (e2 : hexD h2.toNat = some d2) (hlt : d1 < 8) (hl2 : d2 < 16) :
    pointR S i = some (d1 * 16 + d2, i + 4) := by
  obtain ⟨a0, b0⟩ := bn_drop S i _ hS 0 (by simp)
  obtain ⟨a1, b1⟩ := bn_drop S i _ hS 1 (by simp)
  obtain ⟨a2, b2⟩ := bn_drop S i _ hS 2 (by simp)
  obtain ⟨a3, b3⟩ := bn_drop S i _ hS 3 (by simp)
  have hz : hexD 48 = some 0 := by decide
  have f : fourR S 4 i 0 = some (d1 * 16 + d2) := by
    rw [fourR, if_pos (by omega), show bn S i = 48 from b0, hz, Option.bind_some, fourR, if_pos (by omega), show bn S (i + 1) = 48 from b1, hz, Option.bind_some,
      fourR, if_pos (by omega), show bn S (i + 1 + 1) = h1.toNat from b2, e1, Option.bind_some, fourR, if_pos (by omega), show bn S (i + 1 + 1 + 1) = h2.toNat from b3, e2, Option.bind_some, fourR]
    congr 1
    omega
  rw [pointR, f, Option.bind_some, if_pos (by omega)]
theorem text_esc (S : ByteArray) (i f : Nat) (acc : List UInt8) (b : UInt8) (j : Nat) (t : ByteArray) (hi : i < S.size) (h92 : bn S i = 92) (he : escR S (i + 1) = some (t, j)) (ht : t.data.toList = [b]) :
    textR S (f + 1) i acc = textR S f j (acc ++ [b]) := by
  rw [textR, if_pos hi, if_neg (by omega), if_pos h92, he, Option.bind_some, ht]
theorem text_low (S : ByteArray) (i : Nat) (b : UInt8) (m : List UInt8) (hb : b.toNat < 128) (hS : S.data.toList.drop i = escL b ++ m) (f : Nat) (acc : List UInt8) :
    textR S (f + 1) i acc = textR S f (i + (escL b).length) (acc ++ [b]) := by
  by_cases hp : 32 ≤ b.toNat ∧ b.toNat ≠ 34 ∧ b.toNat ≠ 92
  · have he := escL_plain b hp.1 hp.2.1 hp.2.2
    rw [he] at hS ⊢
    obtain ⟨a0, b0⟩ := bn_drop S i _ hS 0 (by simp)
    have b0' : bn S i = b.toNat := b0
    have hr := runeU_enc S i b.toNat (.inl (by omega)) m (by rw [hS]; unfold encL; rw [if_pos hb]; simp)
    have hw : wid b.toNat = 1 := by unfold wid; rw [if_pos hb]
    rw [hw] at hr
    rw [textR, if_pos (by omega), if_neg (by omega), if_neg (by omega), if_neg (by omega), hr]
    show (if ((b.toNat : Int) < 0) then none else textR S f (i + ((1 : Nat) : Int).toNat) (acc ++ (S.extract i (i + ((1 : Nat) : Int).toNat)).data.toList)) = _
    rw [if_neg (by omega), Int.toNat_natCast, ext_one S i (by omega)]
    have : S[i]'(by omega) = b := by
      have h := bn_get S i (by omega)
      rw [b0'] at h
      exact UInt8.toNat_inj.1 h.symm
    rw [this]
    rfl
  · have short : ∀ (x : UInt8) (c : Nat), b.toNat = c → escL b = [92, x] → escR S (i + 1) = some (⟨#[b]⟩, i + 2) → textR S (f + 1) i acc = textR S f (i + (escL b).length) (acc ++ [b]) := by
      intro x c hc he hr
      rw [he] at hS ⊢
      obtain ⟨a0, b0⟩ := bn_drop S i _ hS 0 (by simp)
      exact text_esc S i f acc b (i + 2) _ (by omega) b0 hr rfl
    have two : ∀ (x : UInt8) (c : Nat), b.toNat = c → escL b = [92, x] → i + 1 < S.size ∧ bn S (i + 1) = x.toNat := by
      intro x c hc he
      rw [he] at hS
      exact bn_drop S i _ hS 1 (by simp)
    have bof : ∀ c, b.toNat = c → b = UInt8.ofNat c := fun c h => by rw [← h]; simp
    by_cases c1 : b.toNat = 34
    · have he := escL_of b 34 [92, 34] c1 (by decide) (by decide)
      obtain ⟨u, v⟩ := two _ _ c1 he
      refine short _ _ c1 he ?_
      rw [escR, if_pos u, v, if_pos (by decide), bof _ c1]
      rfl
    by_cases c2 : b.toNat = 92
    · have he := escL_of b 92 [92, 92] c2 (by decide) (by decide)
      obtain ⟨u, v⟩ := two _ _ c2 he
      refine short _ _ c2 he ?_
      rw [escR, if_pos u, v, if_neg (by decide), if_pos (by decide), bof _ c2]
      rfl
    by_cases c3 : b.toNat = 8
    · have he := escL_of b 8 [92, 98] c3 (by decide) (by decide)
      obtain ⟨u, v⟩ := two _ _ c3 he
      refine short _ _ c3 he ?_
      rw [escR, if_pos u, v, if_neg (by decide), if_neg (by decide), if_neg (by decide), if_pos (by decide), bof _ c3]
      rfl
    by_cases c4 : b.toNat = 9
    · have he := escL_of b 9 [92, 116] c4 (by decide) (by decide)
      obtain ⟨u, v⟩ := two _ _ c4 he
      refine short _ _ c4 he ?_
      rw [escR, if_pos u, v, if_neg (by decide), if_neg (by decide), if_neg (by decide), if_neg (by decide), if_neg (by decide), if_neg (by decide), if_neg (by decide), if_pos (by decide), bof _ c4]
      rfl
    by_cases c5 : b.toNat = 10
    · have he := escL_of b 10 [92, 110] c5 (by decide) (by decide)
      obtain ⟨u, v⟩ := two _ _ c5 he
      refine short _ _ c5 he ?_
      rw [escR, if_pos u, v, if_neg (by decide), if_neg (by decide), if_neg (by decide), if_neg (by decide), if_neg (by decide), if_pos (by decide), bof _ c5]
      rfl
    by_cases c6 : b.toNat = 12
    · have he := escL_of b 12 [92, 102] c6 (by decide) (by decide)
      obtain ⟨u, v⟩ := two _ _ c6 he
      refine short _ _ c6 he ?_
      rw [escR, if_pos u, v, if_neg (by decide), if_neg (by decide), if_neg (by decide), if_neg (by decide), if_pos (by decide), bof _ c6]
      rfl
    by_cases c7 : b.toNat = 13
    · have he := escL_of b 13 [92, 114] c7 (by decide) (by decide)
      obtain ⟨u, v⟩ := two _ _ c7 he
      refine short _ _ c7 he ?_
      rw [escR, if_pos u, v, if_neg (by decide), if_neg (by decide), if_neg (by decide), if_neg (by decide), if_neg (by decide), if_neg (by decide), if_pos (by decide), bof _ c7]
      rfl
    have hlow : b.toNat < 32 := by omega
    have hB : escB b.toNat = ⟨#[92, 117, 48, 48, hexB (b.toNat / 16), hexB (b.toNat % 16)]⟩ := by
      unfold escB
      rw [if_neg c1, if_neg c2, if_neg c3, if_neg c4, if_neg c5, if_neg c6, if_neg c7, if_pos hlow]
    have he : escL b = [92, 117, 48, 48, hexB (b.toNat / 16), hexB (b.toNat % 16)] := escL_of b b.toNat _ rfl (by rw [hB]; show ¬ (6 : Nat) = 0; omega) (by rw [hB])
    rw [he] at hS ⊢
    obtain ⟨a0, b0⟩ := bn_drop S i _ hS 0 (by simp)
    obtain ⟨a1, b1⟩ := bn_drop S i _ hS 1 (by simp)
    have hd2 : S.data.toList.drop (i + 2) = 48 :: 48 :: hexB (b.toNat / 16) :: hexB (b.toNat % 16) :: m := by
      rw [← List.drop_drop, hS]; rfl
    have hp := u_point S (i + 2) _ _ m (b.toNat / 16) (b.toNat % 16) hd2 (hexB_digit ⟨b.toNat / 16, by omega⟩) (hexB_digit ⟨b.toNat % 16, by omega⟩) (by omega) (by omega)
    rw [show b.toNat / 16 * 16 + b.toNat % 16 = b.toNat by omega] at hp
    refine text_esc S i f acc b (i + 6) (putU (b.toNat : Int)) (by omega) b0 ?_ (by rw [putU_low _ hb]; simp)
    rw [escR, if_pos a1, show bn S (i + 1) = 117 from b1, if_neg (by decide), if_neg (by decide), if_neg (by decide), if_neg (by decide), if_neg (by decide), if_neg (by decide), if_neg (by decide), if_neg (by decide), if_pos rfl, hp]
    rfl
theorem ext_list (S : ByteArray) (i m : Nat) : (S.extract i (i + m)).data.toList = (S.data.toList.drop i).take m := by
  rw [ByteArray.data_extract, Array.toList_extract, List.extract_eq_take_drop, show i + m - i = m by omega]
theorem text_rune (S : ByteArray) (i : Nat) (r : Nat) (hp : Point r) (m : List UInt8) (hS : S.data.toList.drop i = quoteL (encL r) ++ m) (f : Nat) (acc : List UInt8) :
    textR S (f + 1) i acc = textR S f (i + (quoteL (encL r)).length) (acc ++ encL r) := by
  by_cases h128 : r < 128
  · have e : encL r = [UInt8.ofNat r] := by unfold encL; rw [if_pos h128]
    have q : quoteL (encL r) = escL (UInt8.ofNat r) := by rw [e]; simp [quoteL]
    rw [q] at hS ⊢
    rw [e]
    exact text_low S i (UInt8.ofNat r) m (by rw [ofNat_small _ (by omega)]; exact h128) hS f acc
  · have hh := encL_high r (by omega) hp
    rw [quoteL_high _ hh] at hS ⊢
    have hlen := encL_len r
    have hw := wid_pos r
    have hl : 0 < (encL r ++ m).length := by rw [List.length_append]; omega
    obtain ⟨a0, b0⟩ := bn_drop S i _ hS 0 hl
    have h0 : 128 ≤ bn S i := by
      have : bn S i = ((encL r ++ m)[0]'hl).toNat := b0
      rw [this, List.getElem_append_left (by omega)]
      exact hh _ (List.getElem_mem _)
    rw [textR, if_pos (by omega), if_neg (by omega), if_neg (by omega), if_neg (by omega), runeU_enc S i r hp m hS]
    show (if ((r : Int) < 0) then none else textR S f (i + ((wid r : Nat) : Int).toNat) (acc ++ (S.extract i (i + ((wid r : Nat) : Int).toNat)).data.toList)) = _
    rw [if_neg (by omega), Int.toNat_natCast, ext_list, hS, ← hlen, List.take_left]
theorem text_back (S : ByteArray) {g : List UInt8} (hg : Good g) : ∀ (i : Nat) (rest : List UInt8), S.data.toList.drop i = quoteL g ++ 34 :: rest → ∀ (f : Nat) (acc : List UInt8), S.size < i + f → textR S f i acc = some (acc ++ g, i + (quoteL g).length + 1) := by
  induction hg with
  | nil =>
    intro i rest hS f acc hf
    obtain ⟨a0, b0⟩ := bn_drop S i _ hS 0 (by simp [quoteL])
    obtain ⟨f', rfl⟩ : ∃ f', f = f' + 1 := ⟨f - 1, by omega⟩
    rw [textR, if_pos (by omega), if_pos (show bn S i = 34 from b0)]
    simp [quoteL]
  | rune l h0 hb _ ih =>
    intro i rest hS f acc hf
    obtain ⟨hp, he⟩ := enc_dec l h0 hb
    have hl : l = encL (decodeL l).1 ++ l.drop (decodeL l).2 := by rw [he, List.take_append_drop]
    have hq : quoteL l = quoteL (encL (decodeL l).1) ++ quoteL (l.drop (decodeL l).2) := by rw [← quoteL_app, ← hl]
    rw [hq, List.append_assoc] at hS
    have hpos : 0 < (quoteL (encL (decodeL l).1)).length := by
      have h1 := encL_len (decodeL l).1
      have h2 := wid_pos (decodeL l).1
      cases hc : encL (decodeL l).1 with
      | nil => rw [hc] at h1; simp at h1; omega
      | cons a t =>
        show 0 < (escL a ++ quoteL t).length
        have : 0 < (escL a).length := by
          unfold escL
          split
          · simp
          · rw [data_length]; omega
        rw [List.length_append]; omega
    have hlt : i < S.size := by
      have h := congrArg List.length hS
      rw [List.length_drop, data_length, List.length_append] at h
      omega
    obtain ⟨f', rfl⟩ : ∃ f', f = f' + 1 := ⟨f - 1, by omega⟩
    rw [text_rune S i _ hp _ hS f' acc]
    rw [ih (i + (quoteL (encL (decodeL l).1)).length) rest (by rw [← List.drop_drop, hS, List.drop_left]) f' _ (by omega), List.append_assoc, ← hl, hq, List.length_append]
    congr 2
    omega
structure Front (P S : ByteArray) : Prop where
  size : P.size ≤ S.size
  list : ∃ z, S.data.toList = P.data.toList ++ z
theorem Front.bn {P S : ByteArray} (h : Front P S) (j : Nat) (hj : j < P.size) : bn S j = bn P j := by
  obtain ⟨z, hz⟩ := h.list
  have hd : P.data.toList.drop j ≠ [] := by
    intro h0
    have := congrArg List.length h0
    rw [List.length_drop, data_length, List.length_nil] at this
    omega
  cases hl : P.data.toList.drop j with
  | nil => exact absurd hl hd
  | cons a t =>
    have h1 := bn_drop P j _ hl 0 (by simp)
    have h2 := bn_drop S j (a :: t ++ z) (by rw [hz, List.drop_append_of_le_length (by rw [data_length]; omega), hl]) 0 (by simp)
    exact h2.2.trans h1.2.symm
theorem four_front {P S : ByteArray} (h : Front P S) : ∀ (n i v r : Nat), fourR P n i v = some r → fourR S n i v = some r
  | 0, i, v, r, e => e
  | n + 1, i, v, r, e => by
    rw [fourR] at e ⊢
    split at e
    · rename_i hi
      have := h.size
      rw [if_pos (by omega), h.bn i hi]
      cases hd : hexD (M.bn P i) with
      | none => rw [hd] at e; cases e
      | some d =>
        rw [hd, Option.bind_some] at e
        rw [Option.bind_some]
        exact four_front h n (i + 1) (v * 16 + d) r e
    · cases e
theorem point_front {P S : ByteArray} (h : Front P S) (i v j : Nat) (e : pointR P i = some (v, j)) : pointR S i = some (v, j) := by
  rw [pointR] at e ⊢
  cases h4 : fourR P 4 i 0 with
  | none => rw [h4] at e; cases e
  | some x =>
    rw [h4, Option.bind_some] at e
    rw [four_front h 4 i 0 x h4, Option.bind_some]
    split at e
    · rename_i hc; rw [if_pos hc]; exact e
    · rename_i hc
      rw [if_neg hc]
      split at e
      · rename_i hg
        have := h.size
        rw [if_pos ⟨by omega, by rw [h.bn _ hg.1]; exact hg.2.1, by omega, by rw [h.bn _ hg.2.2.1]; exact hg.2.2.2⟩]
        cases h6 : fourR P 4 (i + 6) 0 with
        | none => rw [h6] at e; cases e
        | some y =>
          rw [h6] at e
          rw [four_front h 4 (i + 6) 0 y h6]
          exact e
      · cases e
theorem esc_front {P S : ByteArray} (h : Front P S) (i : Nat) (t : ByteArray) (j : Nat) (e : escR P i = some (t, j)) : escR S i = some (t, j) := by
  rw [escR] at e ⊢
  split at e
  · rename_i hi
    have := h.size
    rw [if_pos (by omega), h.bn i hi]
    by_cases hu : M.bn P i = 117
    · rw [hu] at e ⊢
      cases hp : pointR P (i + 1) with
      | none => rw [hp] at e; simp at e
      | some p =>
        obtain ⟨v, k⟩ := p
        rw [hp] at e
        rw [point_front h _ _ _ hp]
        exact e
    · simp only [if_neg hu] at e ⊢
      exact e
  · cases e
theorem rune_front {P S : ByteArray} (h : Front P S) (i : Nat) (hi : i < P.size) (hr : ¬ (runeU P i).1 < 0) : runeU S i = runeU P i := by
  obtain ⟨z, hz⟩ := h.list
  have hd : P.data.toList.drop i ≠ [] := by
    intro h0
    have := congrArg List.length h0
    rw [List.length_drop, data_length, List.length_nil] at this
    omega
  have hb : ¬ Bad (decodeL (P.data.toList.drop i)) := fun hb => hr (by rw [runeU_bad P i hi hb]; decide)
  obtain ⟨hp, he⟩ := enc_dec _ hd hb
  have e1 : P.data.toList.drop i = encL (decodeL (P.data.toList.drop i)).1 ++ (P.data.toList.drop i).drop (decodeL (P.data.toList.drop i)).2 := by rw [he, List.take_append_drop]
  rw [runeU_enc P i _ hp _ e1]
  exact runeU_enc S i _ hp ((P.data.toList.drop i).drop (decodeL (P.data.toList.drop i)).2 ++ z) (by rw [hz, List.drop_append_of_le_length (by rw [data_length]; omega), ← List.append_assoc, ← e1])
theorem text_front {P S : ByteArray} (h : Front P S) : ∀ (f i : Nat) (acc l : List UInt8) (j : Nat), textR P f i acc = some (l, j) → ∀ f', f ≤ f' → textR S f' i acc = some (l, j)
  | 0, i, acc, l, j, e, f', hf => by cases e
  | f + 1, i, acc, l, j, e, f', hf => by
    obtain ⟨f', rfl⟩ : ∃ g, f' = g + 1 := ⟨f' - 1, by omega⟩
    rw [textR] at e ⊢
    split at e
    · rename_i hi
      have := h.size
      rw [if_pos (by omega), h.bn i hi]
      split at e
      · rename_i h34; rw [if_pos h34]; exact e
      · rename_i h34
        rw [if_neg h34]
        split at e
        · rename_i h92
          rw [if_pos h92]
          cases he : escR P (i + 1) with
          | none => rw [he] at e; cases e
          | some p =>
            obtain ⟨t, k⟩ := p
            rw [he, Option.bind_some] at e
            rw [esc_front h _ _ _ he, Option.bind_some]
            exact text_front h f _ _ l j e f' (by omega)
        · rename_i h92
          rw [if_neg h92]
          split at e
          · cases e
          · rename_i h32
            rw [if_neg h32]
            split at e
            · cases e
            · rename_i hr
              rw [rune_front h i hi hr, if_neg hr]
              obtain ⟨hw, hm1, hml⟩ := runeU_wid P i hi
              obtain ⟨z, hz⟩ := h.list
              have hx : (S.extract i (i + (runeU P i).2.toNat)).data.toList = (P.extract i (i + (runeU P i).2.toNat)).data.toList := by
                rw [ext_list, ext_list, hz, List.drop_append_of_le_length (by rw [data_length]; omega), List.take_append_of_le_length (by rw [List.length_drop, data_length, hw, Int.toNat_natCast]; omega)]
              rw [hx]
              exact text_front h f _ _ l j e f' (by omega)
    · cases e
theorem text_in (P : ByteArray) : ∀ (f i : Nat) (acc l : List UInt8) (j : Nat), textR P f i acc = some (l, j) → j ≤ P.size
  | 0, i, acc, l, j, e => by cases e
  | f + 1, i, acc, l, j, e => by
    rw [textR] at e
    split at e
    · split at e
      · cases e; omega
      · split at e
        · cases he : escR P (i + 1) with
          | none => rw [he] at e; cases e
          | some p => rw [he, Option.bind_some] at e; exact text_in P f _ _ l j e
        · split at e
          · cases e
          · split at e
            · cases e
            · exact text_in P f _ _ l j e
    · cases e
theorem unq_quote (s S : ByteArray) (i : Nat) (rest : List UInt8) (hv : validU s s.size 0 = true) (hS : S.data.toList.drop i = (quoteU s).data.toList ++ rest) : unqU S i = (s, ((i + (quoteU s).size : Nat) : Int), 0) := by
  have hq : (quoteU s).data.toList = 34 :: (quoteL s.data.toList ++ [34]) := by rw [quoteU, if_pos hv]
  have hqs : (quoteU s).size = (quoteL s.data.toList).length + 2 := by rw [← data_length, hq]; simp
  rw [hq] at hS
  obtain ⟨a0, b0⟩ := bn_drop S i _ hS 0 (by simp)
  have h1 : S.data.toList.drop (i + 1) = quoteL s.data.toList ++ 34 :: rest := by rw [← List.drop_drop, hS]; simp
  have hno : ¬ ((i : Int) < 0 ∨ (S.size : Int) ≤ (i : Int) ∨ bn S (i : Int).toNat ≠ 34) := by
    rintro (h | h | h)
    · omega
    · omega
    · rw [Int.toNat_natCast] at h
      exact h b0
  rw [unqU, if_neg hno, Int.toNat_natCast,
    text_back S ((validU_good s).1 hv) (i + 1) rest h1 (S.size - i) [] (by omega), hqs]
  show ((⟨s.data.toList.toArray⟩ : ByteArray), ((i + 1 + (quoteL s.data.toList).length + 1 : Nat) : Int), (0 : Int)) = _
  rw [show i + 1 + (quoteL s.data.toList).length + 1 = i + ((quoteL s.data.toList).length + 2) by omega]
theorem unq_cut (s : ByteArray) (k : Nat) (hv : validU s s.size 0 = true) (hk : k < (quoteU s).size) : unqU ((quoteU s).extract 0 k) 0 = (⟨#[]⟩, 0, 2) := by
  have hP : ((quoteU s).extract 0 k).size = k := by rw [ByteArray.size_extract]; omega
  have hF : Front ((quoteU s).extract 0 k) (quoteU s) := ⟨by omega, (quoteU s).data.toList.drop k, by
    have := ext_list (quoteU s) 0 k
    rw [Nat.zero_add, List.drop_zero] at this
    rw [this, List.take_append_drop]⟩
  rw [unqU]
  split
  · rfl
  · rename_i hc
    cases ht : textR ((quoteU s).extract 0 k) (((quoteU s).extract 0 k).size - (0 : Int).toNat) ((0 : Int).toNat + 1) [] with
    | none => rfl
    | some p =>
      exfalso
      obtain ⟨l, j⟩ := p
      have hin := text_in _ _ _ _ _ _ ht
      have hfr := text_front hF _ _ _ _ _ ht (quoteU s).size (by rw [hP]; simp; omega)
      have hq : (quoteU s).data.toList = 34 :: (quoteL s.data.toList ++ [34]) := by rw [quoteU, if_pos hv]
      have hqs : (quoteU s).size = (quoteL s.data.toList).length + 2 := by rw [← data_length, hq]; simp
      have hb := text_back (quoteU s) ((validU_good s).1 hv) 1 [] (by rw [hq]; simp) (quoteU s).size [] (by omega)
      have e : some (l, j) = some (([] : List UInt8) ++ s.data.toList, 1 + (quoteL s.data.toList).length + 1) := hfr.symm.trans hb
      have e2 := congrArg Prod.snd (Option.some.inj e)
      have e3 : j = 1 + (quoteL s.data.toList).length + 1 := e2
      omega
end Go.Proofs.YtpamgedmgjfjjaaDoor.M
end
section
namespace Go.Proofs.YtpamgedmgjfjjaaDoor.M
open Go.RowKit Go.Proofs.YtpamgedmgjfjjaaDoorW.PrintWords Go.Proofs.YtpamgedmgjfjjaaDoorW.PrintLast Go.Proofs.YtpamgedmgjfjjaaDoorW.PrintMore
set_option linter.unusedVariables false
set_option linter.unusedSimpArgs false
set_option maxHeartbeats 2000000 in
set_option maxRecDepth 100000 in
theorem jback_out (s head more : ByteArray) (at_ : Int) (w : World) (hT : Tabs w) (h : 500 < s.size ∨ 100 < head.size ∨ 100 < more.size) : Calls Tryd.prog 12 #[.string s, .string head, .string more, .int .i64 at_] w fun e w' => e = .returned (.bool true) ∧ Below w.heap.size w w' := by
  have HW := Aside0.mk (awake07_calls w hT)
  clear hT
  by_cases h1 : 500 < s.size
  · have n1 : decide ((s.size : Int) > 500) = true := decide_eq_true (by omega)
    go_enter Tryd.func12, Tryd.ntmps12
    go_wp2_with (go_at_call 39; (with_reducible refine HW.out.mono ?_); rintro e w1 ⟨rfl, hb⟩)
    go_ret
    exact ⟨rfl, hb⟩
  · have n1 : decide ((s.size : Int) > 500) = false := decide_eq_false (by omega)
    by_cases h2 : 100 < head.size
    · have n2 : decide ((head.size : Int) > 100) = true := decide_eq_true (by omega)
      go_enter Tryd.func12, Tryd.ntmps12
      go_wp2_with (go_at_call 39; (with_reducible refine HW.out.mono ?_); rintro e w1 ⟨rfl, hb⟩)
      go_ret
      exact ⟨rfl, hb⟩
    · have n2 : decide ((head.size : Int) > 100) = false := decide_eq_false (by omega)
      have n3 : decide ((more.size : Int) > 100) = true := decide_eq_true (by omega)
      go_enter Tryd.func12, Tryd.ntmps12
      go_wp2_with (go_at_call 39; (with_reducible refine HW.out.mono ?_); rintro e w1 ⟨rfl, hb⟩)
      go_ret
      exact ⟨rfl, hb⟩
set_option maxHeartbeats 4000000 in
set_option maxRecDepth 100000 in
theorem jback_in (s head more : ByteArray) (at_ : Int) (w : World) (hT : Tabs w) (h1 : s.size ≤ 500) (h2 : head.size ≤ 100) (h3 : more.size ≤ 100) : Calls Tryd.prog 12 #[.string s, .string head, .string more, .int .i64 at_] w fun e w' => e = .returned (.bool true) ∧ Below w.heap.size w w' := by
  have HW := Aside0.mk (fun w1 (h : Below w.heap.size w w1) => awake07_calls w1 (tabs_below hT h))
  have HQ := Aside0.mk (quote_calls s w hT (by omega))
  have HV := Aside0.mk (fun w1 => erratumref04_Valid.calls _ _ _ w1 (refValid_k s (by omega) (s.size + 5) (Nat.le_refl _)))
  have n1 : decide ((s.size : Int) > 500) = false := decide_eq_false (by omega)
  have n2 : decide ((head.size : Int) > 100) = false := decide_eq_false (by omega)
  have n3 : decide ((more.size : Int) > 100) = false := decide_eq_false (by omega)
  cases hv : validU s s.size 0 with
  | false =>
    have e : quoteU s = ⟨#[]⟩ := by rw [quoteU, hv]; rfl
    rw [e] at HQ
    rw [hv] at HV
    clear hT hv e
    go_enter Tryd.func12, Tryd.ntmps12
    go_wp2_with (first
      | (go_at_call 42; (with_reducible refine HQ.out.mono ?_); rintro e w1 ⟨rfl, hb⟩; have HB1 := Aside0.mk hb; clear hb)
      | (go_at_call 27; (with_reducible refine (HV.out _).mono ?_); rintro e w2 ⟨rfl, hb⟩; have HB2 := Aside0.mk (below_step HB1.out hb); clear hb)
      | (go_at_call 39; (with_reducible refine (HW.out _ HB2.out).mono ?_); rintro e w3 ⟨rfl, hb⟩; have HB3 := Aside0.mk (below_step HB2.out hb); clear hb))
    go_ret
    exact ⟨rfl, HB3.out⟩
  | true =>
    rw [hv] at HV
    have hq : (quoteU s).data.toList = 34 :: (quoteL s.data.toList ++ [34]) := by rw [quoteU, if_pos hv]
    have hqs : (quoteU s).size = (quoteL s.data.toList).length + 2 := by rw [← data_length, hq]; simp
    have hq6 := quoteL_len s.data.toList
    rw [data_length] at hq6
    have HX := Aside0.mk (fun S i rest (h : S.data.toList.drop i = (quoteU s).data.toList ++ rest) => unq_quote s S i rest hv h)
    have HY := Aside0.mk (fun k (h : k < (quoteU s).size) => unq_cut s k hv h)
    generalize quoteU s = q at *
    obtain ⟨p, hp, hp0, hp1⟩ := xplace_w at_ q.size (by omega) (by omega)
    obtain ⟨k, rfl⟩ : ∃ k : Nat, p = k := ⟨p.toNat, by omega⟩
    have HP := Aside0.mk (fun w1 => erratumlaw00_Place.calls at_ (q.size : Int) (k : Int) w1 hp)
    have e1 : unqU (head ++ q ++ more) (head.size : Int) = (s, ((head.size + q.size : Nat) : Int), 0) := by
      refine HX.out _ _ more.data.toList ?_
      rw [ba_append, ba_append, List.append_assoc, List.drop_left' (data_length head)]
    have e2 := HY.out k (by omega)
    have h40a := fun w1 (h : Below w.heap.size w w1) => unquote_calls (head ++ q ++ more) (head.size : Int) w1 (tabs_below hT h) (by rw [ByteArray.size_append, ByteArray.size_append]; omega)
    have h40b := fun w1 (h : Below w.heap.size w w1) => unquote_calls (q.extract 0 k) 0 w1 (tabs_below hT h) (by rw [ByteArray.size_extract]; omega)
    rw [e1] at h40a
    rw [e2] at h40b
    have H40a := Aside0.mk h40a
    have H40b := Aside0.mk h40b
    have m1 : decide ((q.size : Int) < 2) = false := decide_eq_false (by omega)
    have s1 : head.size + q.size ≤ 9223372036854775807 := by omega
    have s2 : (head ++ q).size + more.size ≤ 9223372036854775807 := by rw [ByteArray.size_append]; omega
    have s3 : (9223372036854775807 < head.size + q.size) = False := eq_false (by omega)
    have s4 : (9223372036854775807 < (head ++ q).size + more.size) = False := eq_false (by omega)
    have s5 : (9223372036854775807 < head.size + q.size + more.size) = False := eq_false (by omega)
    have b1 : (0 : Int) ≤ (k : Int) := by omega
    have b2 : (k : Int) ≤ (q.size : Int) := by omega
    have hin : (k : Int).toNat = k := Int.toNat_natCast k
    clear hT hv hq hqs hq6 HX HY e1 e2 hp h40a h40b
    go_enter Tryd.func12, Tryd.ntmps12
    go_wp2_with (first
      | (go_at_call 42; (with_reducible refine HQ.out.mono ?_); rintro e w1 ⟨rfl, hb⟩; have HB1 := Aside0.mk hb; clear hb)
      | (go_at_call 27; (with_reducible refine (HV.out _).mono ?_); rintro e w2 ⟨rfl, hb⟩; have HB2 := Aside0.mk (below_step HB1.out hb); clear hb)
      | (go_at_call 40; (with_reducible refine (H40a.out _ HB2.out).mono ?_); rintro e w3 ⟨rfl, hb⟩; have HB3 := Aside0.mk (below_step HB2.out hb); clear hb)
      | (go_at_call 16; (with_reducible refine (HP.out _).mono ?_); rintro e w4 ⟨rfl, hd⟩; have HB4 := Aside0.mk (below_step HB3.out hd.below); clear hd)
      | (go_at_call 40; (with_reducible refine (H40b.out _ HB4.out).mono ?_); rintro e w5 ⟨rfl, hb⟩; have HB5 := Aside0.mk (below_step HB4.out hb); clear hb)
      | (go_at_call 39; (with_reducible refine (HW.out _ HB5.out).mono ?_); rintro e w6 ⟨rfl, hb⟩; have HB6 := Aside0.mk (below_step HB5.out hb); clear hb))
    go_ret
    exact ⟨rfl, HB6.out⟩
theorem jback_all (s head more : ByteArray) (at_ : Int) (w : World) (hT : Tabs w) : Calls Tryd.prog 12 #[.string s, .string head, .string more, .int .i64 at_] w fun e w' => e = .returned (.bool true) ∧ Below w.heap.size w w' := by
  by_cases h : 500 < s.size ∨ 100 < head.size ∨ 100 < more.size
  · exact jback_out s head more at_ w hT h
  · exact jback_in s head more at_ w hT (by omega) (by omega) (by omega)
end Go.Proofs.YtpamgedmgjfjjaaDoor.M
end
