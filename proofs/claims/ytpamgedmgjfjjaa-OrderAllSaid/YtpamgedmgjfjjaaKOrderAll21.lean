/-
Lemmas for OrderAll, for every input they speak of: XOrder.
-/
import Derived.Test.YtpamgedmgjfjjaaKOrderAll08
namespace Go.Proofs.Ytpamgedmgjfjjaa.M
open Go.RowKit Go.Proofs.YtpamgedmgjfjjaaW.PrintWords Go.Proofs.YtpamgedmgjfjjaaW.PrintLast Go.Proofs.YtpamgedmgjfjjaaW.PrintMore
set_option linter.unusedVariables false
set_option linter.unusedSimpArgs false
theorem bl_step (x y : UInt8) (xs ys : List UInt8) : Op.bytesLess (x :: xs) (y :: ys) = true ↔ x.toNat < y.toNat ∨ (x = y ∧ Op.bytesLess xs ys = true) := by
  simp [Op.bytesLess, UInt8.lt_iff_toNat_lt]
theorem u8_eq (x y : UInt8) (h : x.toNat = y.toNat) : x = y := UInt8.toNat_inj.1 h
theorem bl_A : ∀ a b : List UInt8, Op.bytesLess a b = true → Op.bytesLess b a = false
  | a, [], h => by simp [Op.bytesLess] at h
  | [], _ :: _, _ => rfl
  | x :: xs, y :: ys, h => by
    rw [Bool.eq_false_iff]
    intro h2
    rw [bl_step] at h h2
    rcases h with h | ⟨rfl, h⟩
    · rcases h2 with h2 | ⟨rfl, h2⟩ <;> omega
    · rcases h2 with h2 | ⟨_, h2⟩
      · omega
      · rw [bl_A xs ys h] at h2
        cases h2
theorem bl_tri : ∀ a b : List UInt8, Op.bytesLess a b = false → Op.bytesLess b a = false → a = b
  | [], [], _, _ => rfl
  | [], _ :: _, h, _ => by simp [Op.bytesLess] at h
  | _ :: _, [], _, h => by simp [Op.bytesLess] at h
  | x :: xs, y :: ys, h, h2 => by
    rw [Bool.eq_false_iff, ne_eq, bl_step] at h h2
    have e : x = y := u8_eq x y (by
      have h3 : ¬ x.toNat < y.toNat := fun h3 => h (.inl h3)
      have h4 : ¬ y.toNat < x.toNat := fun h4 => h2 (.inl h4)
      omega)
    subst e
    rw [bl_tri xs ys (by rw [Bool.eq_false_iff]; exact fun h3 => h (.inr ⟨rfl, h3⟩)) (by rw [Bool.eq_false_iff]; exact fun h3 => h2 (.inr ⟨rfl, h3⟩))]
theorem bl_T : ∀ a b c : List UInt8, Op.bytesLess a b = true → Op.bytesLess b c = true → Op.bytesLess a c = true
  | a, b, [], _, h => by simp [Op.bytesLess] at h
  | a, [], _, h, _ => by simp [Op.bytesLess] at h
  | [], _ :: _, _ :: _, _, _ => rfl
  | x :: xs, y :: ys, z :: zs, h, h2 => by
    rw [bl_step] at *
    rcases h with h | ⟨rfl, h⟩
    · rcases h2 with h2 | ⟨rfl, h2⟩
      · exact .inl (by omega)
      · exact .inl h
    · rcases h2 with h2 | ⟨rfl, h2⟩
      · exact .inl h2
      · exact .inr ⟨rfl, bl_T xs ys zs h h2⟩
theorem bl_N (a b c : List UInt8) (h : Op.bytesLess a b = false) (h2 : Op.bytesLess b c = false) : Op.bytesLess a c = false := by
  cases h3 : Op.bytesLess a c
  · rfl
  · cases h4 : Op.bytesLess c b
    · rw [bl_tri b c h2 h4] at h
      rw [h] at h3
      cases h3
    · rw [bl_T a c b h3 h4] at h
      cases h
theorem cmp_bl : ∀ a b : List UInt8, Lib.compareBytes a b = if Op.bytesLess a b = true then -1 else if a = b then 0 else 1
  | [], [] => by simp [Lib.compareBytes, Op.bytesLess]
  | [], _ :: _ => by simp [Lib.compareBytes, Op.bytesLess]
  | _ :: _, [] => by simp [Lib.compareBytes, Op.bytesLess]
  | x :: xs, y :: ys => by
    rw [Lib.compareBytes, cmp_bl xs ys]
    simp only [bl_step, UInt8.lt_iff_toNat_lt, List.cons.injEq]
    by_cases h1 : x.toNat < y.toNat
    · simp [h1]
    · by_cases h2 : y.toNat < x.toNat
      · have : x ≠ y := by
          rintro rfl
          omega
        simp [h1, h2, this]
      · have : x = y := u8_eq x y (by omega)
        simp [h1, h2, this]
def Ahead (lt : Int → Int → Bool) (i j : Int) : Prop := lt j i = false ∧ (lt i j = true ∨ i < j)
structure Weak (lt : Int → Int → Bool) : Prop where
  N : ∀ a b c, lt a b = false → lt b c = false → lt a c = false
  A : ∀ a b, lt a b = true → lt b a = false
theorem Ahead.asymm {lt : Int → Int → Bool} {i j : Int} (h : Ahead lt i j) (h2 : Ahead lt j i) : False := by
  obtain ⟨h1, h3⟩ := h
  obtain ⟨h4, h5⟩ := h2
  rw [h4] at h3
  rw [h1] at h5
  simp at h3 h5
  omega
theorem Weak.pos {lt : Int → Int → Bool} (W : Weak lt) {y x z : Int} (h : lt y x = true) (h2 : lt z x = false) : lt y z = true := by
  cases h3 : lt y z
  · rw [W.N y z x h3 h2] at h
    cases h
  · rfl
theorem mergeL_ahead {lt : Int → Int → Bool} (W : Weak lt) : ∀ (xs ys : List Int), xs.Pairwise (Ahead lt) → ys.Pairwise (Ahead lt) → (∀ x ∈ xs, ∀ y ∈ ys, x < y) → (mergeL lt xs ys).Pairwise (Ahead lt)
  | [], ys, _, h, _ => by rw [mergeL_nil]; exact h
  | x :: xs, [], h, _, _ => by rw [mergeL_nil2]; exact h
  | x :: xs, y :: ys, hx, hy, hlt => by
    have hx1 := List.pairwise_cons.1 hx
    have hy1 := List.pairwise_cons.1 hy
    cases h : lt y x
    · rw [mergeL_ge lt x y xs ys h, List.pairwise_cons]
      refine ⟨fun z hz => ?_, mergeL_ahead W xs (y :: ys) hx1.2 hy (fun a ha b hb => hlt a (List.mem_cons_of_mem _ ha) b hb)⟩
      have hz1 : z ∈ xs ++ (y :: ys) := (List.merge_perm_append _).mem_iff.1 hz
      rcases List.mem_append.1 hz1 with hz2 | hz2
      · exact hx1.1 z hz2
      · rcases List.mem_cons.1 hz2 with rfl | hz3
        · exact ⟨h, .inr (hlt x List.mem_cons_self z List.mem_cons_self)⟩
        · exact ⟨W.N z y x (hy1.1 z hz3).1 h, .inr (hlt x List.mem_cons_self z (List.mem_cons_of_mem _ hz3))⟩
    · rw [mergeL_lt lt x y xs ys h, List.pairwise_cons]
      refine ⟨fun z hz => ?_, mergeL_ahead W (x :: xs) ys hx hy1.2 (fun a ha b hb => hlt a ha b (List.mem_cons_of_mem _ hb))⟩
      have hz1 : z ∈ (x :: xs) ++ ys := (List.merge_perm_append _).mem_iff.1 hz
      rcases List.mem_append.1 hz1 with hz2 | hz2
      · rcases List.mem_cons.1 hz2 with rfl | hz3
        · exact ⟨W.A y z h, .inl h⟩
        · have h3 := W.pos h (hx1.1 z hz3).1
          exact ⟨W.A y z h3, .inl h3⟩
      · exact hy1.1 z hz2
theorem sortedL_ahead {lt : Int → Int → Bool} (W : Weak lt) : ∀ (k : Nat) (l : List Int), l.length ≤ 2 ^ k → l.Pairwise (· < ·) → (sortedL lt k l).Pairwise (Ahead lt)
  | 0, l, hk, _ => by
    match l, hk with
    | [], _ => exact List.Pairwise.nil
    | [x], _ => simp [sortedL]
  | k + 1, l, hk, hp => by
    unfold sortedL
    by_cases h : l.length < 2
    · rw [if_pos h]
      match l, h with
      | [], _ => exact List.Pairwise.nil
      | [x], _ => simp
    · rw [if_neg h]
      have hpw : (2 : Nat) ^ (k + 1) = 2 * 2 ^ k := by rw [Nat.pow_succ]; omega
      have hsplit := hp
      rw [← List.take_append_drop (l.length / 2) l, List.pairwise_append] at hsplit
      refine mergeL_ahead W _ _ (sortedL_ahead W k _ (by rw [List.length_take]; omega) hsplit.1) (sortedL_ahead W k _ (by rw [List.length_drop]; omega) hsplit.2.1) (fun x hx y hy => ?_)
      exact hsplit.2.2 x ((sortedL_perm lt k _).mem_iff.1 hx) y ((sortedL_perm lt k _).mem_iff.1 hy)
def idx (n : Nat) : List Int := (List.range n).map fun (i : Nat) => (i : Int)
theorem idx_length (n : Nat) : (idx n).length = n := by simp [idx]
theorem idx_lt (n : Nat) : (idx n).Pairwise (· < ·) := by
  unfold idx
  rw [List.pairwise_map]
  exact (List.pairwise_lt_range).imp (by intro a b h; omega)
theorem mem_idx {n : Nat} {x : Int} : x ∈ idx n ↔ 0 ≤ x ∧ x < n := by
  unfold idx
  rw [List.mem_map]
  constructor
  · rintro ⟨i, hi, rfl⟩
    rw [List.mem_range] at hi
    omega
  · rintro ⟨h0, h1⟩
    exact ⟨x.toNat, by rw [List.mem_range]; omega, by omega⟩
theorem sortF_perm (less : ByteArray → ByteArray → Bool) (l : List ByteArray) : (sortF less l).Perm (idx l.length) := sortedL_perm _ _ _
theorem sortF_length (less : ByteArray → ByteArray → Bool) (l : List ByteArray) : (sortF less l).length = l.length := by rw [(sortF_perm less l).length_eq, idx_length]
theorem sortF_ahead (less : ByteArray → ByteArray → Bool) (l : List ByteArray) (W : Weak (ltOf less l)) (h : l.length ≤ 1000000) : (sortF less l).Pairwise (Ahead (ltOf less l)) :=
  sortedL_ahead W 20 _ (by simp; omega) (idx_lt _)
theorem sortF_unique (less : ByteArray → ByteArray → Bool) (l : List ByteArray) (W : Weak (ltOf less l)) (h : l.length ≤ 1000000) (t : List Int) (hp : t.Perm (idx l.length)) (ht : t.Pairwise (Ahead (ltOf less l))) : sortF less l = t :=
  List.Perm.eq_of_pairwise (fun a b _ _ h1 h2 => (h1.asymm h2).elim) (sortF_ahead less l W h) ht ((sortF_perm less l).trans hp.symm)
theorem weak_less {less : ByteArray → ByteArray → Bool} (l : List ByteArray) (hN : ∀ a b c, less a b = false → less b c = false → less a c = false) (hA : ∀ a b, less a b = true → less b a = false) : Weak (ltOf less l) :=
  ⟨fun _ _ _ h1 h2 => hN _ _ _ h1 h2, fun _ _ h => hA _ _ h⟩
theorem weakB (l : List ByteArray) : Weak (ltOf lessB l) := weak_less l (fun _ _ _ h1 h2 => bl_N _ _ _ h1 h2) (fun _ _ h => bl_A _ _ h)
theorem lessC_eq (a b : ByteArray) : lessC a b = (decide (a.size < b.size) || (decide (a.size = b.size) && Op.bytesLess a.data.toList b.data.toList)) := by
  unfold lessC orI cmpI
  rw [cmp_bl]
  by_cases h1 : a.size < b.size
  · have : (a.size : Int) < b.size := by omega
    simp [h1]
  · by_cases h2 : a.size = b.size
    · rw [h2]
      cases h3 : Op.bytesLess a.data.toList b.data.toList
      · by_cases h4 : a.data.toList = b.data.toList
        · simp [h4]
        · simp [h4]
      · simp
    · have : (b.size : Int) < a.size := by omega
      have h5 : ¬ (a.size : Int) < b.size := by omega
      simp [h1, h2, this, h5]
theorem weakC (l : List ByteArray) : Weak (ltOf lessC l) := by
  refine weak_less l (fun a b c => ?_) (fun a b => ?_)
  · simp only [lessC_eq]
    intro h1 h2
    simp only [Bool.or_eq_false_iff, Bool.and_eq_false_iff, decide_eq_false_iff_not] at *
    refine ⟨by omega, ?_⟩
    by_cases hac : a.size = c.size
    · right
      exact bl_N _ b.data.toList _ (by rcases h1.2 with h | h; omega; exact h) (by rcases h2.2 with h | h; omega; exact h)
    · exact .inl hac
  · simp only [lessC_eq]
    intro h1
    simp only [Bool.or_eq_true, Bool.and_eq_true, decide_eq_true_eq, Bool.or_eq_false_iff, Bool.and_eq_false_iff, decide_eq_false_iff_not] at *
    rcases h1 with h | ⟨h, h2⟩
    · exact ⟨by omega, .inl (by omega)⟩
    · exact ⟨by omega, .inr (bl_A _ _ h2)⟩
end Go.Proofs.Ytpamgedmgjfjjaa.M
