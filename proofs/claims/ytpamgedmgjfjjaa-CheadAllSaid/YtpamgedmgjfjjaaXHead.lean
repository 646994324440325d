/-
Plain laws on heads: the bytes of a number, the highest first; their order is the numbers' order; the head of a number.
-/
import Derived.Test.YtpamgedmgjfjjaaXPut
namespace Go.Proofs.Ytpamgedmgjfjjaa.M
open Go.RowKit Go.Proofs.YtpamgedmgjfjjaaW.PrintWords Go.Proofs.YtpamgedmgjfjjaaW.PrintLast Go.Proofs.YtpamgedmgjfjjaaW.PrintMore
set_option linter.unusedVariables false

/-- Byte by byte, over whole numbers. -/
def lexB : List Int → List Int → Bool
  | _, [] => false
  | [], _ :: _ => true
  | a :: x, b :: y => decide (a < b) || (decide (a = b) && lexB x y)
def Bytes (l : List Int) : Prop := ∀ x ∈ l, 0 ≤ x ∧ x < 256
theorem Bytes.nil : Bytes [] := fun x h => by cases h
theorem Bytes.cons {a : Int} {l : List Int} (h0 : 0 ≤ a) (h1 : a < 256) (h : Bytes l) : Bytes (a :: l) := fun x hx => by
  rcases List.mem_cons.1 hx with rfl | hx
  · exact ⟨h0, h1⟩
  · exact h x hx
theorem u8_lt {a b : Int} (ha : 0 ≤ a) (ha' : a < 256) (hb : 0 ≤ b) (hb' : b < 256) : (UInt8.ofNat a.toNat < UInt8.ofNat b.toNat) ↔ a < b := by
  rw [UInt8.lt_iff_toNat_lt, UInt8.toNat_ofNat', UInt8.toNat_ofNat']
  omega
theorem u8_eq {a b : Int} (ha : 0 ≤ a) (ha' : a < 256) (hb : 0 ≤ b) (hb' : b < 256) : (UInt8.ofNat a.toNat = UInt8.ofNat b.toNat) ↔ a = b := by
  rw [← UInt8.toNat_inj, UInt8.toNat_ofNat', UInt8.toNat_ofNat']
  omega
theorem str_list (xs : List Int) : (strOfNums xs).toList = xs.map fun n => UInt8.ofNat n.toNat := by
  rw [ByteArray.toList_eq]
  exact strOfNums_data xs
theorem less_lex : ∀ (xs ys : List Int), Bytes xs → Bytes ys → Op.bytesLess (xs.map fun n => UInt8.ofNat n.toNat) (ys.map fun n => UInt8.ofNat n.toNat) = lexB xs ys
  | _, [], _, _ => by simp [Op.bytesLess, lexB]
  | [], _ :: _, _, _ => by simp [Op.bytesLess, lexB]
  | a :: x, b :: y, hx, hy => by
    have ha := hx a List.mem_cons_self
    have hb := hy b List.mem_cons_self
    have ih := less_lex x y (fun z hz => hx z (List.mem_cons_of_mem _ hz)) (fun z hz => hy z (List.mem_cons_of_mem _ hz))
    simp only [List.map_cons, Op.bytesLess, lexB, ih]
    congr 1
    · exact decide_eq_decide.2 (u8_lt ha.1 ha.2 hb.1 hb.2)
    · congr 1
      rw [Bool.eq_iff_iff, beq_iff_eq, decide_eq_true_iff]
      exact u8_eq ha.1 ha.2 hb.1 hb.2
theorem str_less (xs ys : List Int) (hx : Bytes xs) (hy : Bytes ys) : Op.bytesLess ((strOfNums xs).toList) ((strOfNums ys).toList) = lexB xs ys := by
  rw [str_list, str_list, less_lex xs ys hx hy]
theorem map_inj : ∀ (xs ys : List Int), Bytes xs → Bytes ys → ((xs.map fun n => UInt8.ofNat n.toNat) = (ys.map fun n => UInt8.ofNat n.toNat) ↔ xs = ys)
  | [], [], _, _ => by simp
  | [], _ :: _, _, _ => by simp
  | _ :: _, [], _, _ => by simp
  | a :: x, b :: y, hx, hy => by
    have ha := hx a List.mem_cons_self
    have hb := hy b List.mem_cons_self
    have ih := map_inj x y (fun z hz => hx z (List.mem_cons_of_mem _ hz)) (fun z hz => hy z (List.mem_cons_of_mem _ hz))
    simp only [List.map_cons, List.cons.injEq, ih, u8_eq ha.1 ha.2 hb.1 hb.2]
theorem str_eq (xs ys : List Int) (hx : Bytes xs) (hy : Bytes ys) : (((strOfNums xs).toList == (strOfNums ys).toList)) = decide (xs = ys) := by
  rw [str_list, str_list, Bool.eq_iff_iff, beq_iff_eq, decide_eq_true_iff]
  exact map_inj xs ys hx hy

/-- The lowest k bytes of a number, the highest first. -/
def be (n : Int) : Nat → List Int
  | 0 => []
  | k + 1 => (n / 256 ^ k) % 256 :: be n k
theorem be_bytes (n : Int) : ∀ k, Bytes (be n k)
  | 0 => Bytes.nil
  | k + 1 => Bytes.cons (Int.emod_nonneg _ (by decide)) (Int.emod_lt_of_pos _ (by decide)) (be_bytes n k)
theorem be_split (n : Int) (k : Nat) : n % 256 ^ (k + 1) = (n / 256 ^ k) % 256 * 256 ^ k + n % 256 ^ k := by
  have hp : (0 : Int) < 256 ^ k := Int.pow_pos (by decide)
  have e1 := Int.mul_ediv_add_emod n (256 ^ k)
  have e2 := Int.mul_ediv_add_emod (n / 256 ^ k) 256
  have h1 := Int.emod_nonneg n (Int.ne_of_gt hp)
  have h2 := Int.emod_lt_of_pos n hp
  have h3 := Int.emod_nonneg (n / 256 ^ k) (show (256 : Int) ≠ 0 by decide)
  have h4 := Int.emod_lt_of_pos (n / 256 ^ k) (show (0 : Int) < 256 by decide)
  have e3 : n = (n / 256 ^ k / 256) * 256 ^ (k + 1) + ((n / 256 ^ k) % 256 * 256 ^ k + n % 256 ^ k) := by
    calc n = 256 ^ k * (n / 256 ^ k) + n % 256 ^ k := e1.symm
      _ = 256 ^ k * (256 * (n / 256 ^ k / 256) + n / 256 ^ k % 256) + n % 256 ^ k := by rw [e2]
      _ = _ := by rw [Int.pow_succ]; grind
  have h5 : 0 ≤ (n / 256 ^ k) % 256 * 256 ^ k + n % 256 ^ k := by
    have := Int.mul_nonneg h3 (Int.le_of_lt hp)
    omega
  have h6 : (n / 256 ^ k) % 256 * 256 ^ k + n % 256 ^ k < 256 ^ (k + 1) := by
    have h7 : (n / 256 ^ k) % 256 * 256 ^ k ≤ 255 * 256 ^ k := Int.mul_le_mul_of_nonneg_right (by omega) (Int.le_of_lt hp)
    have h8 : (256 : Int) ^ (k + 1) = 255 * 256 ^ k + 256 ^ k := by rw [Int.pow_succ]; omega
    omega
  have e4 : n % 256 ^ (k + 1) = ((n / 256 ^ k / 256) * 256 ^ (k + 1) + ((n / 256 ^ k) % 256 * 256 ^ k + n % 256 ^ k)) % 256 ^ (k + 1) := congrArg (fun z => z % 256 ^ (k + 1)) e3
  rw [e4, Int.add_comm ((n / 256 ^ k / 256) * 256 ^ (k + 1)), Int.add_mul_emod_self_right, Int.emod_eq_of_lt h5 h6]
theorem be_lex (x y : Int) : ∀ k, lexB (be x k) (be y k) = decide (x % 256 ^ k < y % 256 ^ k)
  | 0 => by simp [be, lexB, Int.emod_one]
  | k + 1 => by
    have hp : (0 : Int) < 256 ^ k := Int.pow_pos (by decide)
    have hx1 := Int.emod_nonneg x (Int.ne_of_gt hp)
    have hx2 := Int.emod_lt_of_pos x hp
    have hy1 := Int.emod_nonneg y (Int.ne_of_gt hp)
    have hy2 := Int.emod_lt_of_pos y hp
    simp only [be, lexB, be_lex x y k, be_split]
    generalize x / 256 ^ k % 256 = p
    generalize y / 256 ^ k % 256 = q
    generalize x % 256 ^ k = r at *
    generalize y % 256 ^ k = s at *
    generalize (256 : Int) ^ k = z at *
    rw [Bool.eq_iff_iff]
    simp only [Bool.or_eq_true, Bool.and_eq_true, decide_eq_true_iff]
    constructor
    · rintro (h | ⟨rfl, h⟩)
      · have : (p + 1) * z ≤ q * z := Int.mul_le_mul_of_nonneg_right (by omega) (Int.le_of_lt hp)
        have e : (p + 1) * z = p * z + z := by rw [Int.add_mul, Int.one_mul]
        omega
      · omega
    · intro h
      rcases Int.lt_trichotomy p q with h1 | h1 | h1
      · exact .inl h1
      · subst h1
        exact .inr ⟨rfl, by omega⟩
      · have : (q + 1) * z ≤ p * z := Int.mul_le_mul_of_nonneg_right (by omega) (Int.le_of_lt hp)
        have e : (q + 1) * z = q * z + z := by rw [Int.add_mul, Int.one_mul]
        omega
theorem be_inj (x y : Int) : ∀ k, be x k = be y k ↔ x % 256 ^ k = y % 256 ^ k
  | 0 => by simp [be, Int.emod_one]
  | k + 1 => by
    have hp : (0 : Int) < 256 ^ k := Int.pow_pos (by decide)
    have hx1 := Int.emod_nonneg x (Int.ne_of_gt hp)
    have hx2 := Int.emod_lt_of_pos x hp
    have hy1 := Int.emod_nonneg y (Int.ne_of_gt hp)
    have hy2 := Int.emod_lt_of_pos y hp
    simp only [be, List.cons.injEq, be_inj x y k, be_split]
    generalize x / 256 ^ k % 256 = p
    generalize y / 256 ^ k % 256 = q
    generalize x % 256 ^ k = r at *
    generalize y % 256 ^ k = s at *
    generalize (256 : Int) ^ k = z at *
    constructor
    · rintro ⟨rfl, rfl⟩
      rfl
    · intro h
      rcases Int.lt_trichotomy p q with h1 | h1 | h1
      · have : (p + 1) * z ≤ q * z := Int.mul_le_mul_of_nonneg_right (by omega) (Int.le_of_lt hp)
        have e : (p + 1) * z = p * z + z := by rw [Int.add_mul, Int.one_mul]
        omega
      · subst h1
        exact ⟨rfl, by omega⟩
      · have : (q + 1) * z ≤ p * z := Int.mul_le_mul_of_nonneg_right (by omega) (Int.le_of_lt hp)
        have e : (q + 1) * z = q * z + z := by rw [Int.add_mul, Int.one_mul]
        omega

theorem wraps_i64 (n : Int) (h₀ : 0 ≤ n) (h₁ : n < 2 ^ 63) : IntKind.i64.wrap n = n := by
  rw [IntKind.wrap_i64]
  have e : (2 : Int) ^ 63 = 9223372036854775808 := rfl
  omega
theorem and7 (m : Int) (h0 : 0 ≤ m) (h1 : m < 1000) : Go.bits .and .i64 m 7 = m % 8 :=
  bits_mask .i64 63 (by decide) wraps_i64 3 (by decide) m h0 (by have e : (2 : Int) ^ 63 = 9223372036854775808 := rfl; omega)
theorem first_byte (m n : Int) (h0 : 0 ≤ m) (h1 : m < 8) (hn : 0 ≤ n) (hn' : n < 32) : Go.bits .or .u8 ((((Go.bits .and .i64 m 7) % 256) * 32) % 256) n = m * 32 + n := by
  rw [and7 m h0 (by omega), show ((m % 8) % 256 * 32) % 256 = m * 32 by omega]
  exact bits_join .u8 8 (by decide) wraps_u8 5 (m * 32) n (by omega) (by omega) (by omega) hn (by omega) (by omega)

/-- The head, in words: a first byte, and so many bytes. -/
def info (n : Int) : Int := if n < 24 then n else if n < 256 then 24 else if n < 65536 then 25 else if n < 4294967296 then 26 else 27
def width (n : Int) : Nat := if n < 24 then 0 else if n < 256 then 1 else if n < 65536 then 2 else if n < 4294967296 then 4 else 8
theorem head_eq (m n : Int) (h0 : 0 ≤ m) (h1 : m < 8) (hn : 0 ≤ n) : chead_Put.head m n = (m * 32 + info n) :: be n (width n) := by
  unfold chead_Put.head info width
  have e1 : n / 1 = n := Int.ediv_one n
  split
  · rw [show n % 256 = n by omega, first_byte m n h0 h1 hn (by omega)]
    rfl
  · split
    · rw [first_byte m 24 h0 h1 (by decide) (by decide)]
      simp [be]
    · split
      · rw [first_byte m 25 h0 h1 (by decide) (by decide)]
        simp [be]
      · split
        · rw [first_byte m 26 h0 h1 (by decide) (by decide)]
          simp [be]
        · rw [first_byte m 27 h0 h1 (by decide) (by decide)]
          simp [be]
theorem info_range (n : Int) (hn : 0 ≤ n) : 0 ≤ info n ∧ info n < 28 := by
  unfold info
  repeat' split
  all_goals omega
theorem head_bytes (m n : Int) (h0 : 0 ≤ m) (h1 : m < 8) (hn : 0 ≤ n) : Bytes (chead_Put.head m n) := by
  rw [head_eq m n h0 h1 hn]
  have := info_range n hn
  exact Bytes.cons (by omega) (by omega) (be_bytes _ _)
theorem width_mod (n : Int) (hn : 0 ≤ n) (hn' : n ≤ 18446744073709551615) : width n = 0 ∧ n = info n ∨ n % 256 ^ width n = n := by
  unfold width info
  split
  · exact .inl ⟨rfl, rfl⟩
  · right
    split
    · exact Int.emod_eq_of_lt hn (by omega)
    · split
      · exact Int.emod_eq_of_lt hn (by omega)
      · split
        · exact Int.emod_eq_of_lt hn (by omega)
        · exact Int.emod_eq_of_lt hn (by omega)
theorem info_mono (x y : Int) (hx : 0 ≤ x) (hy : 0 ≤ y) : (info x < info y → x < y) ∧ (info x = info y → width x = width y) ∧ (info x = info y → width x = 0 → x = y) := by
  unfold info width
  refine ⟨?_, ?_, ?_⟩ <;> repeat' split
  all_goals omega
/-- Of one major: the order, and the sameness, of heads are those of their numbers. -/
theorem head_lex (m x y : Int) (h0 : 0 ≤ m) (h1 : m < 8) (hx : 0 ≤ x) (hx' : x ≤ 18446744073709551615) (hy : 0 ≤ y) (hy' : y ≤ 18446744073709551615) : lexB (chead_Put.head m x) (chead_Put.head m y) = decide (x < y) := by
  rw [head_eq m x h0 h1 hx, head_eq m y h0 h1 hy]
  simp only [lexB]
  obtain ⟨i1, i2, i3⟩ := info_mono x y hx hy
  obtain ⟨j1, _, _⟩ := info_mono y x hy hx
  rcases Int.lt_trichotomy (info x) (info y) with h | h | h
  · rw [decide_eq_true (show m * 32 + info x < m * 32 + info y by omega), decide_eq_true (i1 h)]
    rfl
  · rw [decide_eq_false (show ¬ m * 32 + info x < m * 32 + info y by omega), decide_eq_true (show m * 32 + info x = m * 32 + info y by omega), Bool.false_or, Bool.true_and, ← i2 h, be_lex]
    rcases width_mod x hx hx' with ⟨hw, _⟩ | hw
    · have := i3 h hw
      subst this
      simp
    · rcases width_mod y hy hy' with ⟨hw2, _⟩ | hw2
      · have := i3 h (by rw [i2 h]; exact hw2)
        subst this
        simp
      · rw [← i2 h] at hw2
        rw [hw, hw2]
  · rw [decide_eq_false (show ¬ m * 32 + info x < m * 32 + info y by omega), decide_eq_false (show ¬ m * 32 + info x = m * 32 + info y by omega), decide_eq_false (show ¬ x < y by have := j1 h; omega)]
    rfl
theorem head_inj (m x y : Int) (h0 : 0 ≤ m) (h1 : m < 8) (hx : 0 ≤ x) (hx' : x ≤ 18446744073709551615) (hy : 0 ≤ y) (hy' : y ≤ 18446744073709551615) : chead_Put.head m x = chead_Put.head m y ↔ x = y := by
  constructor
  · intro h
    have e1 := head_lex m x y h0 h1 hx hx' hy hy'
    have e2 := head_lex m y x h0 h1 hy hy' hx hx'
    rw [h] at e1 e2
    have e3 := head_lex m y y h0 h1 hy hy' hy hy'
    rw [e3] at e1 e2
    have f1 := decide_eq_decide.1 e1
    have f2 := decide_eq_decide.1 e2
    omega
  · rintro rfl
    rfl
theorem head_next (m x y : Int) (h0 : 0 ≤ m) (h1 : m < 7) (hx : 0 ≤ x) : lexB (chead_Put.head m x) (chead_Put.head (m + 1) y) = true ∨ y < 0 := by
  by_cases hy : 0 ≤ y
  · left
    rw [head_eq m x h0 (by omega) hx, head_eq (m + 1) y (by omega) (by omega) hy]
    simp only [lexB]
    have := info_range x hx
    have := info_range y hy
    rw [decide_eq_true (show m * 32 + info x < (m + 1) * 32 + info y by omega)]
    rfl
  · right
    omega
end Go.Proofs.Ytpamgedmgjfjjaa.M
