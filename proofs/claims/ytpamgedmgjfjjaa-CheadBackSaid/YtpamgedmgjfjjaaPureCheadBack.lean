/-
CheadBack: what is put is got, in as few bytes as can be; cut it is none; in more bytes it is the same number. For every input.
-/
import Derived.Test.YtpamgedmgjfjjaaM6
import Derived.Test.YtpamgedmgjfjjaaXGet
namespace Go.Proofs.Ytpamgedmgjfjjaa.Pure
open Go.RowKit Go.Proofs.Ytpamgedmgjfjjaa.M Go.Proofs.YtpamgedmgjfjjaaW.PrintWords Go.Proofs.YtpamgedmgjfjjaaW.PrintLast Go.Proofs.YtpamgedmgjfjjaaW.PrintMore
set_option linter.unusedVariables false

theorem place (a n : Int) (h0 : 0 < n) (h1 : n ≤ 1000000) : ∃ r, erratumlaw00_Place.f a n = some r ∧ 0 ≤ r ∧ r < n := by
  unfold erratumlaw00_Place.f
  have hb := Int.tmod_lt_of_pos a h0
  have hc : -n < Int.tmod a n := by
    have := Int.tmod_lt_of_pos (-a) h0
    rw [Int.neg_tmod] at this
    omega
  rw [if_neg (by omega)]
  split
  · refine ⟨_, rfl, ?_⟩
    unfold wrap64
    omega
  · exact ⟨_, rfl, by omega, hb⟩
theorem u64_range {n : Int} (h : (Lit.int .u64 n).wf = true) : 0 ≤ n ∧ n ≤ 18446744073709551615 := by
  simp only [Lit.wf, Bool.and_eq_true, decide_eq_true_iff] at h
  exact h
theorem wrap_range (n : Int) : 0 ≤ IntKind.u64.wrap n ∧ IntKind.u64.wrap n ≤ 18446744073709551615 := by
  simp [IntKind.wrap, IntKind.bits, IntKind.signed]; omega
theorem bits_range (op : BinOp) (a b : Int) : 0 ≤ Go.bits op .u64 a b ∧ Go.bits op .u64 a b ≤ 18446744073709551615 := by
  unfold Go.bits
  split
  all_goals exact wrap_range _
theorem awake : erratumlaw09_awake.f = some true := by
  unfold erratumlaw09_awake.f chead_Put.f
  rw [if_pos (by decide)]
  simp only [List.nil_append, Option.bind_some]
  rw [head_eq 2 500 (by decide) (by decide) (by decide), str_list]
  decide
theorem be_length (n : Int) : ∀ k, (be n k).length = k
  | 0 => rfl
  | k + 1 => by simp [be, be_length n k]
theorem foldl_bv (l : List Int) (v : Int) : l.foldl (fun v d => v * 256 + d) v = v * 256 ^ l.length + bv l := by
  induction l generalizing v with
  | nil => simp [bv]
  | cons a l ih =>
    simp only [List.foldl_cons, List.length_cons, bv]
    rw [ih, ih (0 * 256 + a), Int.pow_succ]
    grind
theorem bv_be (n : Int) : ∀ k, bv (be n k) = n % 256 ^ k
  | 0 => by simp [be, bv, Int.emod_one]
  | k + 1 => by
    rw [be_split, ← bv_be n k]
    have := foldl_bv (be n k) (0 * 256 + (n / 256 ^ k) % 256)
    rw [be_length] at this
    simp only [be, bv, List.foldl_cons] at this ⊢
    rw [this]
    simp
theorem info_mod (m x : Int) (h0 : 0 ≤ m) (hx : 0 ≤ x) : (m * 32 + info x) % 32 = info x ∧ (m * 32 + info x) / 32 = m := by
  have := info_range x hx
  omega
theorem size_info (x : Int) (hx : 0 ≤ x) : sizeS (info x) = width x ∧ (info x < 24 ↔ x < 24) ∧ (x < 24 → info x = x) ∧ (¬ x < 24 → ¬ info x < 24) := by
  unfold sizeS info width
  refine ⟨?_, ?_, ?_, ?_⟩ <;> repeat' split
  all_goals omega
theorem rd_one (a b : Int) (l : List Int) : rd (a :: b :: l) 1 = b := rfl
/-- What is put is got. -/
theorem got (m x : Int) (h0 : 0 ≤ m) (h1 : m < 8) (hx : 0 ≤ x) (hx' : x ≤ 18446744073709551615) : getS ([1] ++ chead_Put.head m x) 1 = (m, info x, x, 2 + (width x : Int), 0) := by
  rw [head_eq m x h0 h1 hx]
  simp only [List.singleton_append]
  unfold getS
  rw [rd_one, (info_mod m x h0 hx).1, (info_mod m x h0 hx).2]
  obtain ⟨s1, s2, s3, s4⟩ := size_info x hx
  have hr := info_range x hx
  have hl : ((1 :: (m * 32 + info x) :: be x (width x)).length : Int) = 2 + (width x : Int) := by simp [be_length]; omega
  rw [hl, s1, if_neg (by omega), if_neg (by omega), if_neg (by omega)]
  have hd : ((1 :: (m * 32 + info x) :: be x (width x)).drop ((1 : Int) + 1).toNat).take (width x) = be x (width x) := by
    show (be x (width x)).take (width x) = _
    exact List.take_of_length_le (by rw [be_length]; exact Nat.le_refl _)
  rw [hd, bv_be]
  by_cases h24 : x < 24
  · rw [if_pos (s2.2 h24), s3 h24]
    simp
  · rw [if_neg (s4 h24)]
    rcases width_mod x hx hx' with ⟨hw, _⟩ | hw
    · exact absurd (show x < 24 by
        unfold width at hw
        rw [if_neg h24] at hw
        repeat' split at hw
        all_goals omega) h24
    · rw [hw]
      simp
/-- Cut it is none. -/
theorem cut_none (m x : Int) (h0 : 0 ≤ m) (h1 : m < 8) (hx : 0 ≤ x) : getS (([1] ++ chead_Put.head m x).take (1 + width x)) 1 = (0, 0, 0, 0, 2) := by
  rw [head_eq m x h0 h1 hx]
  simp only [List.singleton_append]
  obtain ⟨s1, s2, s3, s4⟩ := size_info x hx
  unfold getS
  have hl : (((1 :: (m * 32 + info x) :: be x (width x)).take (1 + width x)).length : Int) = 1 + (width x : Int) := by simp [be_length]; omega
  rw [hl, if_neg (by omega)]
  by_cases hw : width x = 0
  · rw [hw, if_pos (by omega)]
  · obtain ⟨j, hj⟩ : ∃ j, width x = j + 1 := ⟨width x - 1, by omega⟩
    have he : (1 :: (m * 32 + info x) :: be x (width x)).take (1 + width x) = 1 :: (m * 32 + info x) :: (be x (width x)).take j := by
      rw [show 1 + width x = j + 1 + 1 by omega, List.take_succ_cons, List.take_succ_cons]
    rw [if_neg (by omega), he, rd_one, (info_mod m x h0 hx).1, s1, if_pos (.inr (by omega))]
theorem head_small (m x : Int) (h0 : 0 ≤ m) (h1 : m < 8) (hx : 0 ≤ x) : (chead_Put.head m x).length = 1 + width x := by
  rw [head_eq m x h0 h1 hx]
  simp [be_length]
  omega
theorem width_le (x : Int) : width x ≤ 8 := by
  unfold width
  repeat' split
  all_goals omega
/-- In so many bytes. -/
theorem long (m x : Int) (w : Nat) (h0 : 0 ≤ m) (h1 : m < 8) (hw : w < 4) : getS ((m * 32 + 24 + w) :: be x (2 ^ w)) 0 = (m, 24 + (w : Int), x % 256 ^ (2 ^ w), 1 + ((2 ^ w : Nat) : Int), 0) := by
  unfold getS
  have hr : rd ((m * 32 + 24 + (w : Int)) :: be x (2 ^ w)) 0 = m * 32 + 24 + w := rfl
  have hl : (((m * 32 + 24 + (w : Int)) :: be x (2 ^ w)).length : Int) = 1 + ((2 ^ w : Nat) : Int) := by simp [be_length]; omega
  have hs : sizeS (24 + (w : Int)) = 2 ^ w := by
    have : w = 0 ∨ w = 1 ∨ w = 2 ∨ w = 3 := by omega
    rcases this with rfl | rfl | rfl | rfl <;> rfl
  have hp : 0 < 2 ^ w := Nat.two_pow_pos w
  rw [hr, hl, show (m * 32 + 24 + (w : Int)) % 32 = 24 + w by omega, show (m * 32 + 24 + (w : Int)) / 32 = m by omega, hs, if_neg (by omega), if_neg (by omega), if_neg (by omega), if_neg (by omega)]
  have hd : (((m * 32 + 24 + (w : Int)) :: be x (2 ^ w)).drop ((0 : Int) + 1).toNat).take (2 ^ w) = be x (2 ^ w) := by
    show (be x (2 ^ w)).take (2 ^ w) = _
    exact List.take_of_length_le (by rw [be_length]; exact Nat.le_refl _)
  rw [hd, bv_be]
  simp
theorem shr_be (x : Int) (i : Nat) (h : i ≤ 7) : shr .u64 x (8 * (i : Int)) % 256 = (x / 256 ^ i) % 256 := by
  unfold shr
  have e : (2 : Int) ^ min (8 * (i : Int)).toNat IntKind.u64.bits = 256 ^ i := by
    have : i = 0 ∨ i = 1 ∨ i = 2 ∨ i = 3 ∨ i = 4 ∨ i = 5 ∨ i = 6 ∨ i = 7 := by omega
    rcases this with rfl | rfl | rfl | rfl | rfl | rfl | rfl | rfl <;> decide
  rw [e]
theorem getS_bytes (l : List Int) (a : Int) : getS l a = ((getS l a).1, (getS l a).2.1, (getS l a).2.2.1, (getS l a).2.2.2.1, (getS l a).2.2.2.2) := rfl
/-- The longer form: its loop, and what stands behind it. -/
theorem loop (x m : Int) (w : Nat) (m0 : 0 ≤ m) (m1 : m < 8) (hw : w < 4) (hx : 0 ≤ x) (hx' : x ≤ 18446744073709551615) (want : Int) (hwant : want = 1 + (width x : Int)) : ∀ (i k : Nat) (c : List Int), i ≤ 2 ^ w → i + 30 ≤ k → c ++ be x i = (m * 32 + 24 + (w : Int)) :: be x (2 ^ w) →
    erratumlaw09_CheadBack.l0 k x want m m x (2 + (width x : Int)) 0 2 (w : Int) c ((i : Int) - 1) = some true
  | 0, k, c, hi, hk, hc => by
    obtain ⟨k, rfl⟩ : ∃ j, k = j + 1 := ⟨k - 1, by omega⟩
    have hcc : c = (m * 32 + 24 + (w : Int)) :: be x (2 ^ w) := by simpa [be] using hc
    have hB : Bytes c := by
      rw [hcc]
      exact Bytes.cons (by omega) (by omega) (be_bytes _ _)
    have hp : 2 ^ w ≤ 8 := by
      have : w = 0 ∨ w = 1 ∨ w = 2 ∨ w = 3 := by omega
      rcases this with rfl | rfl | rfl | rfl <;> decide
    have hL : c.length ≤ 1000000 := by
      rw [hcc]
      simp only [List.length_cons, be_length]
      omega
    simp only [erratumlaw09_CheadBack.l0]
    rw [if_neg (by omega), get_eq c hB hL 0 k (by omega), hcc, long m x w m0 m1 hw]
    simp only [Option.bind_some, awake]
    have hwt : 2 + (width x : Int) = wrap64 (want + 1) := by
      have := width_le x
      rw [w64 _ (by omega) (by omega)]
      omega
    by_cases h3 : (w : Int) = 3
    · have h3' : w = 3 := by omega
      rw [if_pos h3]
      simp only [if_true]
      rw [if_pos hwt, if_pos (by subst h3'; exact Int.emod_eq_of_lt hx (by omega))]
    · rw [if_neg h3, wrap_u64 (w : Int) (by omega) (by omega), if_pos (by omega)]
      simp only [if_true]
      rw [if_pos hwt]
      by_cases hf : x < shl .u64 1 (shl .u64 8 (w : Int))
      · rw [if_pos hf, if_pos]
        have hs : shl .u64 1 (shl .u64 8 (w : Int)) = 256 ^ (2 ^ w) := by
          have : w = 0 ∨ w = 1 ∨ w = 2 := by omega
          rcases this with rfl | rfl | rfl <;> decide
        rw [hs] at hf
        exact Int.emod_eq_of_lt hx hf
      · rw [if_neg hf]
  | i + 1, k, c, hi, hk, hc => by
    obtain ⟨k, rfl⟩ : ∃ j, k = j + 1 := ⟨k - 1, by omega⟩
    have hp : 2 ^ w ≤ 8 := by
      have : w = 0 ∨ w = 1 ∨ w = 2 ∨ w = 3 := by omega
      rcases this with rfl | rfl | rfl | rfl <;> decide
    have hcl : c.length ≤ 9 := by
      have := congrArg List.length hc
      simp only [List.length_append, be_length, List.length_cons] at this
      omega
    have ih := loop x m w m0 m1 hw hx hx' want hwant i k (c ++ [(x / 256 ^ i) % 256]) (by omega) (by omega) (by rw [List.append_assoc]; exact hc)
    have e0 : ((i + 1 : Nat) : Int) - 1 = (i : Int) := by omega
    have hi7 : i ≤ 7 := by omega
    rw [e0]
    simp only [erratumlaw09_CheadBack.l0]
    have w1 := w64 (8 * (i : Int)) (by omega) (by omega)
    have w2 := w64 ((i : Int) - 1) (by omega) (by omega)
    have u1 := wrap_u64 (8 * (i : Int)) (by omega) (by omega)
    rw [if_pos (Int.natCast_nonneg i), w1, u1, if_pos (by omega), if_pos (by omega), shr_be x i hi7, w2]
    exact ih
theorem behind (k : Nat) (a0 a3 x want : Int) (hx : 0 ≤ x) (hx' : x ≤ 18446744073709551615) (hwant : want = 1 + (width x : Int)) (hk : 60 ≤ k) : erratumlaw09_CheadBack.j1 k a0 a3 x want = some true := by
  obtain ⟨k, rfl⟩ : ∃ j, k = j + 1 := ⟨k - 1, by omega⟩
  obtain ⟨m, em, m0, m1⟩ := place a0 8 (by decide) (by decide)
  obtain ⟨w, ew, w0, w1⟩ := place a3 4 (by decide) (by decide)
  obtain ⟨w, rfl⟩ := Int.eq_ofNat_of_zero_le w0
  have hwl := width_le x
  have hpl : ([1] ++ chead_Put.head m x).length = 2 + width x := by
    rw [List.length_append, head_small m x m0 m1 hx]
    simp
    omega
  have hB : Bytes ([1] ++ chead_Put.head m x) := Bytes.cons (by decide) (by decide) (head_bytes m x m0 m1 hx)
  have hBt : Bytes (([1] ++ chead_Put.head m x).take (1 + width x)) := fun z hz => hB z (List.mem_of_mem_take hz)
  have hput : chead_Put.f [1] m x = some ([1] ++ chead_Put.head m x) := by
    unfold chead_Put.f
    rw [if_pos (by decide)]
  simp only [erratumlaw09_CheadBack.j1]
  have v1 := w64 (want + 1) (by omega) (by omega)
  have v2 := w64 (((2 + width x : Nat) : Int) - 1) (by omega) (by omega)
  have v3 : (((2 + width x : Nat) : Int) - 1).toNat = 1 + width x := by omega
  have u1 := wrap_u64 (w : Int) (by omega) (by omega)
  rw [em, ew]
  simp only [Option.bind_some]
  rw [hput]
  simp only [Option.bind_some]
  rw [hpl, v1, v2, v3, u1, if_pos (by omega), get_eq _ hB (by omega) 1 k (by omega), got m x m0 m1 hx hx']
  simp only [Option.bind_some]
  rw [if_pos (by omega), if_pos (by omega), get_eq _ hBt (by rw [List.length_take]; omega) 1 k (by omega), cut_none m x m0 m1 hx]
  simp only [Option.bind_some]
  rw [if_pos w0]
  have hs : shl .i64 1 (w : Int) = ((2 ^ w : Nat) : Int) := by
    have : w = 0 ∨ w = 1 ∨ w = 2 ∨ w = 3 := by omega
    rcases this with rfl | rfl | rfl | rfl <;> decide
  have hp : 2 ^ w ≤ 8 := by
    have : w = 0 ∨ w = 1 ∨ w = 2 ∨ w = 3 := by omega
    rcases this with rfl | rfl | rfl | rfl <;> decide
  have x1 := w64 (m * 32) (by omega) (by omega)
  have x2 := w64 (m * 32 + 24) (by omega) (by omega)
  have x3 := w64 (m * 32 + 24 + (w : Int)) (by omega) (by omega)
  have x4 : wrap64 (((2 ^ w : Nat) : Int) - 1) = ((2 ^ w : Nat) : Int) - 1 := by
    have y1 := Int.ofNat_le.2 hp
    have y2 := Int.natCast_nonneg (2 ^ w)
    generalize ((2 ^ w : Nat) : Int) = q at *
    exact w64 _ (by omega) (by omega)
  have x5 : (m * 32 + 24 + (w : Int)) % 256 = m * 32 + 24 + w := by omega
  rw [x1, x2, x3, hs, x4, x5]
  exact loop x m w m0 m1 (by omega) hx hx' want hwant (2 ^ w) k _ (Nat.le_refl _) (by omega) rfl
theorem first (k : Nat) (a0 a3 x : Int) (hx : 0 ≤ x) (hx' : x ≤ 18446744073709551615) (hk : 61 ≤ k) : erratumlaw09_CheadBack.j0 k a0 a3 x = some true := by
  obtain ⟨k, rfl⟩ : ∃ j, k = j + 1 := ⟨k - 1, by omega⟩
  simp only [erratumlaw09_CheadBack.j0]
  split
  · exact behind k a0 a3 x 1 hx hx' (by unfold width; rw [if_pos (by assumption)]; rfl) (by omega)
  · split
    · exact behind k a0 a3 x 2 hx hx' (by unfold width; rw [if_neg (by assumption), if_pos (by assumption)]; rfl) (by omega)
    · split
      · exact behind k a0 a3 x 3 hx hx' (by unfold width; rw [if_neg (by assumption), if_neg (by assumption), if_pos (by assumption)]; rfl) (by omega)
      · split
        · exact behind k a0 a3 x 5 hx hx' (by unfold width; rw [if_neg (by assumption), if_neg (by assumption), if_neg (by assumption), if_pos (by assumption)]; rfl) (by omega)
        · exact behind k a0 a3 x 9 hx hx' (by unfold width; rw [if_neg (by assumption), if_neg (by assumption), if_neg (by assumption), if_neg (by assumption)]; rfl) (by omega)

theorem CheadBack : erratumlaw09_CheadBack.Pure := by
  intro a0 a1 a2 a3 h0 h1 h2 h3
  obtain ⟨p1, q1⟩ := u64_range h1
  obtain ⟨n, en, n0, n1⟩ := place a2 65 (by decide) (by decide)
  refine ⟨61, ?_⟩
  unfold erratumlaw09_CheadBack.f
  rw [en]
  simp only [Option.bind_some]
  split
  · rw [if_pos (wrap_range _).1]
    have := bits_range .and a1 (IntKind.u64.wrap ((shl .u64 1 (IntKind.u64.wrap n)) - 1))
    exact first 61 a0 a3 _ this.1 this.2 (Nat.le_refl _)
  · exact first 61 a0 a3 a1 p1 q1 (Nat.le_refl _)
end Go.Proofs.Ytpamgedmgjfjjaa.Pure
