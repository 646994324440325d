/-
Lemmas for OrderAll, for every input they speak of: PureOrderRef, PureOrderTwice, PureFew, PureOrderAll.
-/
import Derived.Test.YtpamgedmgjfjjaaKOrderAll17
import Derived.Test.YtpamgedmgjfjjaaKOrderAll21
import Derived.Test.YtpamgedmgjfjjaaKOrderAll10
import Derived.Test.YtpamgedmgjfjjaaKOrderAll11
import Derived.Test.YtpamgedmgjfjjaaKOrderAll19
import Derived.Test.YtpamgedmgjfjjaaKOrderAll20
section
namespace Go.Proofs.Ytpamgedmgjfjjaa.Pure.Refs
open Go.RowKit Go.Proofs.Ytpamgedmgjfjjaa.M Go.Proofs.YtpamgedmgjfjjaaW.PrintWords Go.Proofs.YtpamgedmgjfjjaaW.PrintLast Go.Proofs.YtpamgedmgjfjjaaW.PrintMore
set_option linter.unusedVariables false
theorem w64 (x : Int) (h0 : -9223372036854775808 ≤ x) (h1 : x ≤ 9223372036854775807) : wrap64 x = x := by
  unfold wrap64
  omega
theorem rdo_at (l : List ByteArray) (i : Nat) (h : i < l.length) : rdOf ByteArray.empty l (i : Int) = l[i] := by simp [rdOf, List.getD_eq_getElem?_getD, h]
theorem twice_l1 (l : List ByteArray) (hl : l.length ≤ 1000000) (i : Nat) (hi : i < l.length) (K : Nat) (V : Int × Bool) (hK : ∀ k, K ≤ k → erratumref06_Twice.l0 k l ((i + 1 : Nat) : Int) = some V) : ∀ (d j : Nat), i - j = d → j ≤ i →
    ∀ k, K + d + 1 ≤ k → erratumref06_Twice.l1 k l (i : Int) (j : Int) = some (if l[i].data.toList ∈ ((kbs l).take i).drop j then ((i : Int), true) else V) := by
  intro d
  induction d with
  | zero =>
    intro j hd hj k hk
    obtain ⟨k', rfl⟩ : ∃ k', k = k' + 1 := ⟨k - 1, by omega⟩
    have e : ((kbs l).take i).drop j = [] := List.drop_eq_nil_of_le (by rw [List.length_take]; omega)
    rw [erratumref06_Twice.l1, if_neg (by omega), e, if_neg (by simp), w64 _ (by omega) (by omega)]
    exact hK k' (by omega)
  | succ d ih =>
    intro j hd hj k hk
    obtain ⟨k', rfl⟩ : ∃ k', k = k' + 1 := ⟨k - 1, by omega⟩
    have hjl : j < ((kbs l).take i).length := by rw [List.length_take, kbs_length]; omega
    have e : ((kbs l).take i).drop j = l[j].data.toList :: ((kbs l).take i).drop (j + 1) := by
      rw [List.drop_eq_getElem_cons hjl]
      congr 1
      rw [List.getElem_take, kbs_get l j (by omega)]
    rw [erratumref06_Twice.l1, if_pos (by omega), if_pos (by omega), if_pos (by omega), if_pos (by omega), if_pos (by omega), rdo_at l j (by omega), rdo_at l i hi, ByteArray.toList_eq, ByteArray.toList_eq, e]
    by_cases hq : l[j].data.toList = l[i].data.toList
    · rw [if_pos hq, if_pos (by rw [hq]; simp)]
    · rw [if_neg hq, w64 _ (by omega) (by omega)]
      have h := ih (j + 1) (by omega) (by omega) k' (by omega)
      refine Eq.trans h ?_
      by_cases hm : l[i].data.toList ∈ ((kbs l).take i).drop (j + 1)
      · rw [if_pos hm, if_pos (List.mem_cons_of_mem _ hm)]
      · rw [if_neg hm, if_neg (fun h => by rcases List.mem_cons.1 h with h | h; exact hq h.symm; exact hm h)]
theorem twice_from (l : List ByteArray) (hl : l.length ≤ 1000000) : ∀ (d i : Nat), l.length - i = d → i ≤ l.length → ∃ K, ∀ k, K ≤ k → erratumref06_Twice.l0 k l (i : Int) = some (twiceL ((kbs l).drop i) ((kbs l).take i) i) := by
  intro d
  induction d with
  | zero =>
    intro i hd hi
    refine ⟨1, fun k hk => ?_⟩
    obtain ⟨k', rfl⟩ : ∃ k', k = k' + 1 := ⟨k - 1, by omega⟩
    rw [erratumref06_Twice.l0, if_neg (by omega), List.drop_eq_nil_of_le (by rw [kbs_length]; omega)]
    rfl
  | succ d ih =>
    intro i hd hi
    obtain ⟨K, hK⟩ := ih (i + 1) (by omega) (by omega)
    refine ⟨K + i + 2, fun k hk => ?_⟩
    obtain ⟨k', rfl⟩ : ∃ k', k = k' + 1 := ⟨k - 1, by omega⟩
    have hil : i < l.length := by omega
    have h := twice_l1 l hl i hil K _ hK i 0 (by omega) (Nat.zero_le _) k' (by omega)
    rw [erratumref06_Twice.l0, if_pos (by omega), twice_step (kbs l) i (by rw [kbs_length]; exact hil), kbs_get l i hil]
    exact h
theorem twice_k (l : List ByteArray) (hl : l.length ≤ 1000000) : ∃ K, ∀ k, K ≤ k → erratumref06_Twice.f k l = some (twiceL (kbs l) [] 0) := by
  obtain ⟨K, hK⟩ := twice_from l hl l.length 0 (by omega) (Nat.zero_le _)
  exact ⟨K, fun k hk => hK k hk⟩
def lessOf (c : Bool) : ByteArray → ByteArray → Bool := if c = true then lessC else lessB
theorem weakOf (c : Bool) (l : List ByteArray) : Weak (ltOf (lessOf c) l) := by cases c; exact weakB l; exact weakC l
theorem short_less (a b : ByteArray) : erratumref06_short.f a b = some (lessC a b) := by
  rw [erratumref06_short.f, lessC_eq]
  by_cases h1 : a.size < b.size
  · rw [if_pos (by omega), decide_eq_true h1]; rfl
  · rw [if_neg (by omega), decide_eq_false h1]
    by_cases h2 : a.size = b.size
    · rw [if_pos (by omega), decide_eq_true h2, ByteArray.toList_eq, ByteArray.toList_eq]; rfl
    · rw [if_neg (by omega), decide_eq_false h2]; rfl
theorem rd_get (t : List Int) (i : Nat) (h : i < t.length) : rd t (i : Int) = t[i] := by simp [rd, h]
theorem place_l1 (l : List ByteArray) (hl : l.length ≤ 1000000) (c : Bool) (t : List Int) (i : Nat) (hi : i < l.length) (ht : t.length = i) (hm : ∀ x ∈ t, 0 ≤ x ∧ x < l.length) : ∀ (m : Nat), m ≤ t.length → (∀ p (h : p < t.length), m ≤ p → ltOf (lessOf c) l i t[p] = true) →
    ∃ m', m' ≤ t.length ∧ (∀ p (h : p < t.length), m' ≤ p → ltOf (lessOf c) l i t[p] = true) ∧ (∀ (h : 0 < m') (h2 : m' - 1 < t.length), ltOf (lessOf c) l i t[m' - 1] = false) ∧
      ∀ (K : Nat) (V : List Int), (∀ k, K ≤ k → erratumref06_place.l0 k l c ((t.take m' ++ [(i : Int)]) ++ t.drop m') ((i + 1 : Nat) : Int) = some V) → ∀ k, K + m + 1 ≤ k → erratumref06_place.l1 k l c t (i : Int) (m : Int) = some V := by
  intro m
  have put : ∀ (m K : Nat) (V : List Int), m ≤ t.length → (∀ k, K ≤ k → erratumref06_place.l0 k l c ((t.take m ++ [(i : Int)]) ++ t.drop m) ((i + 1 : Nat) : Int) = some V) → ∀ k, K ≤ k →
      (if 0 ≤ (m : Int) then (if (m : Int) ≤ (t.length : Int) then ((some (t.take (m : Int).toNat : List Int)).bind fun y => (if ([] : List Int).length + y.length < 17592186044416 then ((some (([] : List Int) ++ y : List Int)).bind fun y2 => (if y2.length < 17592186044416 then ((some (y2 ++ [(i : Int)] : List Int)).bind fun y3 => ((some (t.drop (m : Int).toNat : List Int)).bind fun y4 => (if y3.length + y4.length < 17592186044416 then (erratumref06_place.l0 k l c (y3 ++ y4) (wrap64 ((i : Int) + 1))) else (none)))) else (none))) else (none))) else (none)) else (none)) = some V := by
    intro m K V hmt hK k hk
    rw [if_pos (by omega), if_pos (by omega), Int.toNat_natCast, Option.bind_some, if_pos (by simp only [List.length_nil, List.length_take]; omega), Option.bind_some, if_pos (by simp only [List.nil_append, List.length_take]; omega), Option.bind_some, Option.bind_some,
      if_pos (by simp only [List.nil_append, List.length_append, List.length_take, List.length_drop, List.length_cons, List.length_nil]; omega), w64 _ (by omega) (by omega)]
    exact hK k hk
  induction m with
  | zero =>
    intro _ hall
    refine ⟨0, Nat.zero_le _, hall, fun h => absurd h (by omega), fun K V hK k hk => ?_⟩
    obtain ⟨k', rfl⟩ : ∃ k', k = k' + 1 := ⟨k - 1, by omega⟩
    rw [erratumref06_place.l1, if_neg (by omega)]
    exact put 0 K V (Nat.zero_le _) hK k' (by omega)
  | succ m ih =>
    intro hmt hall
    have hml : m < t.length := by omega
    have hx := hm t[m] (List.getElem_mem hml)
    have e1 : wrap64 (((m + 1 : Nat) : Int) - 1) = (m : Int) := by rw [w64 _ (by omega) (by omega)]; omega
    have hlt : ltOf (lessOf c) l i t[m] = (lessOf c) (rdOf ByteArray.empty l (i : Int)) (rdOf ByteArray.empty l (t[m])) := rfl
    by_cases hc : ltOf (lessOf c) l i t[m] = true
    · obtain ⟨m', h1, h2, h3, h4⟩ := ih (by omega) (fun p h hp => by by_cases hpm : p = m; subst hpm; exact hc; exact hall p h (by omega))
      refine ⟨m', h1, h2, h3, fun K V hK k hk => ?_⟩
      obtain ⟨k', rfl⟩ : ∃ k', k = k' + 1 := ⟨k - 1, by omega⟩
      have hgo := h4 K V hK k' (by omega)
      rw [hlt] at hc
      rw [erratumref06_place.l1, if_pos (by omega)]
      cases c with
      | true =>
        rw [if_pos rfl, if_pos (by omega), if_pos (by omega), e1, if_pos (by omega), if_pos (by omega), rd_get t m hml, if_pos hx.1, if_pos hx.2, short_less, Option.bind_some, if_pos (show lessC _ _ = true from hc)]
        exact hgo
      | false =>
        rw [if_neg (by simp), if_pos (by omega), if_pos (by omega), e1, if_pos (by omega), if_pos (by omega), rd_get t m hml, if_pos hx.1, if_pos hx.2, if_pos (show Op.bytesLess _ _ = true from hc)]
        exact hgo
    · refine ⟨m + 1, hmt, hall, fun _ _ => by simpa using hc, fun K V hK k hk => ?_⟩
      obtain ⟨k', rfl⟩ : ∃ k', k = k' + 1 := ⟨k - 1, by omega⟩
      rw [hlt] at hc
      rw [erratumref06_place.l1, if_pos (by omega)]
      cases c with
      | true =>
        rw [if_pos rfl, if_pos (by omega), if_pos (by omega), e1, if_pos (by omega), if_pos (by omega), rd_get t m hml, if_pos hx.1, if_pos hx.2, short_less, Option.bind_some, if_neg (show ¬ lessC _ _ = true from hc)]
        exact put (m + 1) K V hmt hK k' (by omega)
      | false =>
        rw [if_neg (by simp), if_pos (by omega), if_pos (by omega), e1, if_pos (by omega), if_pos (by omega), rd_get t m hml, if_pos hx.1, if_pos hx.2, if_neg (show ¬ Op.bytesLess _ _ = true from hc)]
        exact put (m + 1) K V hmt hK k' (by omega)
theorem idx_succ (i : Nat) : idx (i + 1) = idx i ++ [(i : Int)] := by simp [idx, List.range_succ]
theorem place_from (l : List ByteArray) (hl : l.length ≤ 1000000) (c : Bool) : ∀ (d i : Nat) (t : List Int), l.length - i = d → i ≤ l.length → t.Perm (idx i) → t.Pairwise (Ahead (ltOf (lessOf c) l)) →
    ∃ K, ∀ k, K ≤ k → erratumref06_place.l0 k l c t (i : Int) = some (sortF (lessOf c) l) := by
  intro d
  induction d with
  | zero =>
    intro i t hd hi hp ha
    have e : i = l.length := by omega
    subst e
    refine ⟨1, fun k hk => ?_⟩
    obtain ⟨k', rfl⟩ : ∃ k', k = k' + 1 := ⟨k - 1, by omega⟩
    rw [erratumref06_place.l0, if_neg (by omega), sortF_unique (lessOf c) l (weakOf c l) hl t hp ha]
  | succ d ih =>
    intro i t hd hi hp ha
    have hil : i < l.length := by omega
    have hti : t.length = i := by rw [hp.length_eq, idx_length]
    have hmem : ∀ x ∈ t, 0 ≤ x ∧ x < i := fun x hx => mem_idx.1 (hp.mem_iff.1 hx)
    have W := weakOf c l
    obtain ⟨m, h1, h2, h3, h4⟩ := place_l1 l hl c t i hil hti (fun x hx => by have := hmem x hx; omega) t.length (Nat.le_refl _) (fun p h hp => by omega)
    have hperm : ((t.take m ++ [(i : Int)]) ++ t.drop m).Perm (idx (i + 1)) := by
      rw [idx_succ, List.append_assoc]
      refine (List.perm_append_comm_assoc _ _ _).trans ?_
      rw [List.take_append_drop]
      exact (List.perm_append_comm).trans (hp.append_right _)
    have hpair : ((t.take m ++ [(i : Int)]) ++ t.drop m).Pairwise (Ahead (ltOf (lessOf c) l)) := by
      have hsplit := ha
      rw [← List.take_append_drop m t, List.pairwise_append] at hsplit
      obtain ⟨p1, p2, p3⟩ := hsplit
      have before : ∀ a ∈ t.take m, Ahead (ltOf (lessOf c) l) a i := by
        intro a hta
        have hai := hmem a (List.mem_of_mem_take hta)
        refine ⟨?_, .inr hai.2⟩
        obtain ⟨p, hp1, rfl⟩ := List.mem_iff_getElem.1 hta
        rw [List.length_take] at hp1
        rw [List.getElem_take]
        have hm0 : 0 < m := by omega
        have hlast := h3 hm0 (by omega)
        by_cases hpm : p = m - 1
        · subst hpm; exact hlast
        · have hlt := (List.pairwise_iff_getElem.1 ha p (m - 1) (by omega) (by omega) (by omega)).1
          exact W.N _ _ _ hlast hlt
      have after : ∀ b ∈ t.drop m, Ahead (ltOf (lessOf c) l) i b := by
        intro b hb
        obtain ⟨p, hp1, rfl⟩ := List.mem_iff_getElem.1 hb
        rw [List.length_drop] at hp1
        rw [List.getElem_drop]
        have := h2 (m + p) (by omega) (by omega)
        exact ⟨W.A _ _ this, .inl this⟩
      rw [List.pairwise_append, List.pairwise_append]
      refine ⟨⟨p1, by simp, fun a hta b hb => ?_⟩, p2, fun a hta b hb => ?_⟩
      · obtain rfl := List.mem_singleton.1 hb
        exact before a hta
      · rcases List.mem_append.1 hta with hta | hta
        · exact p3 a hta b hb
        · obtain rfl := List.mem_singleton.1 hta
          exact after b hb
    obtain ⟨K, hK⟩ := ih (i + 1) _ (by omega) (by omega) hperm hpair
    refine ⟨K + t.length + 2, fun k hk => ?_⟩
    obtain ⟨k', rfl⟩ : ∃ k', k = k' + 1 := ⟨k - 1, by omega⟩
    rw [erratumref06_place.l0, if_pos (by omega)]
    exact h4 K _ hK k' (by omega)
theorem place_k (l : List ByteArray) (hl : l.length ≤ 1000000) (c : Bool) : ∃ K, ∀ k, K ≤ k → erratumref06_place.f k l c = some (sortF (lessOf c) l) :=
  place_from l hl c l.length 0 [] (by omega) (Nat.zero_le _) (by simp [idx]) List.Pairwise.nil
end Go.Proofs.Ytpamgedmgjfjjaa.Pure.Refs
end
section
namespace Go.Proofs.Ytpamgedmgjfjjaa.Pure
open Go.RowKit Go.Proofs.Ytpamgedmgjfjjaa.M Go.Proofs.YtpamgedmgjfjjaaW.PrintWords Go.Proofs.YtpamgedmgjfjjaaW.PrintLast Go.Proofs.YtpamgedmgjfjjaaW.PrintMore
set_option linter.unusedVariables false
set_option linter.unusedSimpArgs false
namespace Twice
theorem w64 (x : Int) (h0 : -9223372036854775808 ≤ x) (h1 : x ≤ 9223372036854775807) : wrap64 x = x := by
  unfold wrap64
  omega
theorem place (a n : Int) (h0 : 0 < n) (h1 : n ≤ 1000000) : ∃ r, erratumlaw00_Place.f a n = some r ∧ 0 ≤ r ∧ r < n := by
  unfold erratumlaw00_Place.f
  have hb := Int.tmod_lt_of_pos a h0
  have hc : -n < Int.tmod a n := by
    have := Int.tmod_lt_of_pos (-a) h0
    rw [Int.neg_tmod] at this
    omega
  rw [if_neg (by omega)]
  split
  · refine ⟨_, rfl, ?_⟩
    unfold wrap64
    omega
  · exact ⟨_, rfl, by omega, hb⟩
theorem ba (b : UInt8) : (⟨#[b]⟩ : ByteArray).toList = [b] := by rw [ByteArray.toList_eq]
theorem ba2 (a b : UInt8) : (⟨#[a, b]⟩ : ByteArray).toList = [a, b] := by rw [ByteArray.toList_eq]
theorem ex_sort : order_Sort.f [(⟨#[98]⟩ : ByteArray), (⟨#[97]⟩ : ByteArray), (⟨#[98]⟩ : ByteArray)] = some [1, 0, 2] := by
  unfold order_Sort.f
  rw [if_pos (by decide)]
  congr 1
  refine sortF_unique lessB _ (weakB _) (by decide) _ (by decide) ?_
  simp [Ahead, ltOf, lessB, rdOf, ba]
  decide
theorem ex_cbor : order_CBOR.f [(⟨#[98, 98]⟩ : ByteArray), (⟨#[99]⟩ : ByteArray)] = some [1, 0] := by
  unfold order_CBOR.f
  rw [if_pos (by decide)]
  congr 1
  refine sortF_unique lessC _ (weakC _) (by decide) _ (by decide) ?_
  refine List.pairwise_cons.2 ⟨fun z hz => ?_, by simp⟩
  obtain rfl := List.mem_singleton.1 hz
  unfold Ahead ltOf
  rw [lessC_eq, lessC_eq]
  decide
theorem ints_same (l : List Int) (hl : l.length ≤ 1000000) : ∀ (d j k : Nat), l.length - j = d → j ≤ l.length → d < k → erratumlaw00_SameInts.l0 k l l j = some true
  | d, j, 0, _, _, h => absurd h (by omega)
  | 0, j, k + 1, hd, hj, _ => by
    rw [erratumlaw00_SameInts.l0, if_neg (by omega)]
  | d + 1, j, k + 1, hd, hj, h => by
    have := ints_same l hl d (j + 1) k (by omega) (by omega) (by omega)
    rw [erratumlaw00_SameInts.l0, if_pos (by omega), if_pos (by omega), if_pos (by omega), if_pos rfl, w64 _ (by omega) (by omega)]
    exact_mod_cast this
theorem awake6 (k : Nat) (hk : 4 ≤ k) : erratumlaw06_awake.f k = some true := by
  unfold erratumlaw06_awake.f
  have h1 := ints_same [1, 0, 2] (by decide) 3 0 k rfl (by decide) (by omega)
  have h2 := ints_same [1, 0] (by decide) 2 0 k rfl (by decide) (by omega)
  have h3 : order_Less.f (⟨#[97]⟩ : ByteArray) (⟨#[97, 98]⟩ : ByteArray) = some true := by
    unfold order_Less.f
    rw [ba, ba2]
    decide
  rw [ex_sort, ex_cbor, h3]
  simp only [Option.bind_some, erratumlaw00_SameInts.f, if_pos]
  have h1' : erratumlaw00_SameInts.l0 k [1, 0, 2] [1, 0, 2] 0 = some true := h1
  have h2' : erratumlaw00_SameInts.l0 k [1, 0] [1, 0] 0 = some true := h2
  rw [h1', h2']
  simp
theorem twiceL_nodup : ∀ (r seen : List (List UInt8)) (i : Nat), (∀ s ∈ r, s ∉ seen) → r.Nodup → twiceL r seen i = (0, false)
  | [], _, _, _, _ => rfl
  | s :: r, seen, i, h, hn => by
    rw [twiceL, if_neg (h s List.mem_cons_self)]
    have hn1 := List.nodup_cons.1 hn
    refine twiceL_nodup r _ _ (fun t ht => ?_) hn1.2
    rw [List.mem_append]
    rintro (h2 | h2)
    · exact h t (List.mem_cons_of_mem _ ht) h2
    · rw [List.mem_singleton] at h2
      subst h2
      exact hn1.1 ht
theorem twiceL_app : ∀ (r seen : List (List UInt8)) (i : Nat) (x : List UInt8), (∀ s ∈ r, s ∉ seen) → r.Nodup → x ∈ seen ++ r → twiceL (r ++ [x]) seen i = (((i + r.length : Nat) : Int), true)
  | [], seen, i, x, _, _, hx => by
    rw [List.append_nil] at hx
    simp [twiceL, hx]
  | s :: r, seen, i, x, h, hn, hx => by
    have hn1 := List.nodup_cons.1 hn
    rw [List.cons_append, twiceL, if_neg (h s List.mem_cons_self), twiceL_app r _ _ x (fun t ht => ?_) hn1.2 (by simpa using hx)]
    · simp only [List.length_cons]
      congr 2
      omega
    · rw [List.mem_append]
      rintro (h2 | h2)
      · exact h t (List.mem_cons_of_mem _ ht) h2
      · rw [List.mem_singleton] at h2
        subst h2
        exact hn1.1 ht
def abc : ByteArray := ⟨#[97, 98, 99, 100, 101, 102, 103, 104, 105, 106, 107, 108, 109, 110, 111, 112, 113, 114, 115, 116, 117, 118, 119, 120, 121, 122]⟩
def rank (k c i : Nat) : Nat := (i + c) % k
def key (k c i : Nat) : ByteArray := abc.extract 0 (rank k c i + 1)
def keys (k c j : Nat) : List ByteArray := (List.range j).map (key k c)
theorem key_list (k c i : Nat) (hk : 0 < k) (h26 : k ≤ 25) : (key k c i).data.toList = abc.data.toList.take (rank k c i + 1) := by
  have h : rank k c i < k := Nat.mod_lt _ hk
  have hx : ∀ n, n ≤ 26 → (abc.extract 0 n).data.toList = abc.data.toList.take n := by decide
  exact hx _ (by omega)
theorem take_less : ∀ (s : List UInt8) (a b : Nat), a < b → b ≤ s.length → Op.bytesLess (s.take a) (s.take b) = true
  | [], a, b, h, h2 => absurd h2 (by simp; omega)
  | x :: s, 0, b + 1, h, h2 => rfl
  | x :: s, a + 1, b + 1, h, h2 => by
    rw [List.take_succ_cons, List.take_succ_cons, bl_step]
    exact .inr ⟨rfl, take_less s a b (by omega) (by simpa using h2)⟩
theorem key_less (k c : Nat) (hk : 0 < k) (h26 : k ≤ 25) (i j : Nat) (h : rank k c i < rank k c j) : lessB (key k c i) (key k c j) = true := by
  unfold lessB
  rw [ByteArray.toList_eq, ByteArray.toList_eq, key_list k c i hk h26, key_list k c j hk h26]
  have h2 : rank k c j < k := Nat.mod_lt _ hk
  refine take_less _ _ _ (by omega) ?_
  show _ ≤ 26
  omega
theorem rank_inj (k c i j : Nat) (hi : i < k) (hj : j < k) (h : rank k c i = rank k c j) : i = j := by
  unfold rank at h
  have h1 := Nat.div_add_mod (i + c) k
  have h2 := Nat.div_add_mod (j + c) k
  rw [h] at h1
  have h3 : (i + c) / k = (j + c) / k := by
    rcases Nat.lt_trichotomy ((i + c) / k) ((j + c) / k) with h4 | h4 | h4
    · have := Nat.mul_le_mul_left k (Nat.succ_le_of_lt h4)
      rw [Nat.mul_succ] at this
      omega
    · exact h4
    · have := Nat.mul_le_mul_left k (Nat.succ_le_of_lt h4)
      rw [Nat.mul_succ] at this
      omega
  rw [h3] at h1
  omega
theorem kbs_keys (k c j : Nat) (hk : 0 < k) (h26 : k ≤ 25) : kbs (keys k c j) = (List.range j).map fun i => abc.data.toList.take (rank k c i + 1) := by
  unfold kbs keys
  rw [List.map_map]
  exact List.map_congr_left fun i _ => key_list k c i hk h26
theorem nodup_keys (k c : Nat) (hk : 0 < k) (h26 : k ≤ 25) : (kbs (keys k c k)).Nodup := by
  rw [kbs_keys k c k hk h26]
  unfold List.Nodup
  rw [List.pairwise_map]
  refine (List.pairwise_lt_range).imp_of_mem ?_
  intro a b ha hb hab he
  rw [List.mem_range] at ha hb
  have h1 : rank k c a < k := Nat.mod_lt _ hk
  have h2 : rank k c b < k := Nat.mod_lt _ hk
  have h3 := congrArg List.length he
  have h4 : abc.data.toList.length = 26 := rfl
  rw [List.length_take, List.length_take, h4] at h3
  have := rank_inj k c a b ha hb (by omega)
  omega
theorem keys_length (k c j : Nat) : (keys k c j).length = j := by simp [keys]
theorem keys_size (k c j : Nat) (hk : 0 < k) (h26 : k ≤ 25) : ∀ s ∈ keys k c j, s.size ≤ 1000000 := by
  intro s hs
  obtain ⟨i, hi, rfl⟩ := List.mem_map.1 hs
  have h := key_list k c i hk h26
  have h2 := congrArg List.length h
  rw [List.length_take] at h2
  have : (key k c i).size = (key k c i).data.toList.length := by rw [Array.length_toList]; rfl
  rw [this, h2]
  have : abc.data.toList.length = 26 := rfl
  omega
theorem keys_get (k c j i : Nat) (h : i < j) : rdOf ByteArray.empty (keys k c j) (i : Int) = key k c i := by
  simp [rdOf, keys, List.getD_eq_getElem?_getD, h]
theorem keys_get' (k c j : Nat) (i : Int) (h0 : 0 ≤ i) (h : i < j) : rdOf ByteArray.empty (keys k c j) i = key k c i.toNat := by
  obtain ⟨m, rfl⟩ := Int.eq_ofNat_of_zero_le h0
  exact keys_get k c j m (by omega)
theorem twice_no (k c : Nat) (hk : 0 < k) (h26 : k ≤ 25) : order_Twice.f (keys k c k) = some (0, false) := by
  unfold order_Twice.f
  rw [if_pos ⟨by rw [keys_length]; omega, by rw [List.all_eq_true]; exact fun s hs => by simpa using keys_size k c k hk h26 s hs⟩, twiceL_nodup _ _ _ (by simp) (nodup_keys k c hk h26)]
theorem twice_yes (k c p : Nat) (hk : 0 < k) (h26 : k ≤ 25) (hp : p < k) : order_Twice.f (keys k c k ++ [key k c p]) = some ((k : Int), true) := by
  have hm : key k c p ∈ keys k c k := List.mem_map.2 ⟨p, List.mem_range.2 hp, rfl⟩
  unfold order_Twice.f
  rw [if_pos ⟨by rw [List.length_append, keys_length]; simp; omega, by
    rw [List.all_eq_true]
    intro s hs
    rcases List.mem_append.1 hs with h | h
    · simpa using keys_size k c k hk h26 s h
    · obtain rfl := List.mem_singleton.1 h
      simpa using keys_size k c k hk h26 _ hm⟩]
  have : kbs (keys k c k ++ [key k c p]) = kbs (keys k c k) ++ [(key k c p).data.toList] := by simp [kbs]
  rw [this, twiceL_app _ _ _ _ (by simp) (nodup_keys k c hk h26) (by
    rw [List.nil_append]
    exact List.mem_map.2 ⟨_, hm, rfl⟩), kbs_length, keys_length]
  simp
def turned (k c : Nat) : List Int := (idx k).drop (k - c) ++ (idx k).take (k - c)
theorem idx_get (n i : Nat) (h : i < n) : (idx n)[i]'(by rw [idx_length]; exact h) = (i : Int) := by simp [idx]
theorem turned_length (k c : Nat) : (turned k c).length = k := by
  unfold turned
  rw [List.length_append, List.length_drop, List.length_take, idx_length]
  omega
theorem turned_get (k c i : Nat) (hc : c < k) (hi : i < k) : rd (turned k c) (i : Int) = if i < c then ((i + k - c : Nat) : Int) else ((i - c : Nat) : Int) := by
  unfold rd turned
  rw [List.getD_eq_getElem?_getD, Int.toNat_natCast]
  by_cases h : i < c
  · rw [if_pos h, List.getElem?_append_left (by rw [List.length_drop, idx_length]; omega), List.getElem?_drop, List.getElem?_eq_getElem (by rw [idx_length]; omega), Option.getD_some, idx_get _ _ (by omega)]
    congr 1
    omega
  · rw [if_neg h, List.getElem?_append_right (by rw [List.length_drop, idx_length]; omega), List.length_drop, idx_length, List.getElem?_take_of_lt (by omega), List.getElem?_eq_getElem (by rw [idx_length]; omega), Option.getD_some, idx_get _ _ (by omega)]
    congr 1
    omega
theorem sort_keys (k c : Nat) (hk : 0 < k) (h26 : k ≤ 25) (hc : c < k) : order_Sort.f (keys k c k) = some (turned k c) := by
  unfold order_Sort.f
  rw [if_pos (by rw [keys_length]; omega)]
  congr 1
  have hahead : ∀ a b : Int, 0 ≤ a → a < k → 0 ≤ b → b < k → rank k c a.toNat < rank k c b.toNat → Ahead (ltOf lessB (keys k c k)) a b := by
    intro a b ha ha' hb hb' h
    have h1 : ltOf lessB (keys k c k) a b = true := by
      unfold ltOf
      rw [keys_get' k c k a ha ha', keys_get' k c k b hb hb']
      exact key_less k c hk h26 _ _ h
    exact ⟨(weakB _).A _ _ h1, .inl h1⟩
  have hr : ∀ a : Int, 0 ≤ a → a < k → (a < k - c → (rank k c a.toNat : Int) = a + c) ∧ (¬ a < k - c → (rank k c a.toNat : Int) = a + c - k) := by
    intro a h0 h1
    unfold rank
    constructor
    · intro h2
      rw [Nat.mod_eq_of_lt (by omega)]
      omega
    · intro h2
      rw [Nat.mod_eq_sub_mod (by omega), Nat.mod_eq_of_lt (by omega)]
      omega
  refine sortF_unique lessB _ (weakB _) (by rw [keys_length]; omega) _ ?_ ?_
  · rw [keys_length]
    unfold turned
    exact (List.perm_append_comm).trans (by rw [List.take_append_drop])
  · unfold turned
    have hsplit := idx_lt k
    rw [← List.take_append_drop (k - c) (idx k), List.pairwise_append] at hsplit
    have m1 : ∀ x ∈ (idx k).take (k - c), 0 ≤ x ∧ x < k ∧ x < k - c := by
      intro x hx
      have h1 := mem_idx.1 (List.mem_of_mem_take hx)
      obtain ⟨i, hi, rfl⟩ := List.getElem_of_mem hx
      rw [List.length_take, idx_length] at hi
      rw [List.getElem_take, idx_get _ _ (by omega)] at h1 ⊢
      omega
    have m2 : ∀ x ∈ (idx k).drop (k - c), 0 ≤ x ∧ x < k ∧ ¬ x < k - c := by
      intro x hx
      have h1 := mem_idx.1 (List.mem_of_mem_drop hx)
      obtain ⟨i, hi, rfl⟩ := List.getElem_of_mem hx
      rw [List.length_drop, idx_length] at hi
      rw [List.getElem_drop, idx_get _ _ (by omega)] at h1 ⊢
      omega
    rw [List.pairwise_append]
    refine ⟨hsplit.2.1.imp_of_mem ?_, hsplit.1.imp_of_mem ?_, ?_⟩
    · intro a b ha hb hab
      have h1 := m2 a ha
      have h2 := m2 b hb
      have h3 := (hr a h1.1 h1.2.1).2 h1.2.2
      have h4 := (hr b h2.1 h2.2.1).2 h2.2.2
      exact hahead a b h1.1 h1.2.1 h2.1 h2.2.1 (by omega)
    · intro a b ha hb hab
      have h1 := m1 a ha
      have h2 := m1 b hb
      have h3 := (hr a h1.1 h1.2.1).1 h1.2.2
      have h4 := (hr b h2.1 h2.2.1).1 h2.2.2
      exact hahead a b h1.1 h1.2.1 h2.1 h2.2.1 (by omega)
    · intro a ha b hb
      have h1 := m2 a ha
      have h2 := m1 b hb
      have h3 := (hr a h1.1 h1.2.1).2 h1.2.2
      have h4 := (hr b h2.1 h2.2.1).1 h2.2.2
      exact hahead a b h1.1 h1.2.1 h2.1 h2.2.1 (by omega)
theorem loop1 (k c : Nat) (hk : 0 < k) (h26 : k ≤ 25) (hc : c < k) (x1 : Int) : ∀ (d j F : Nat), k - j = d → j ≤ k →
    erratumlaw06_OrderTwice.l0 (F + d) x1 (k : Int) (keys k c j) abc (c : Int) (j : Int) = erratumlaw06_OrderTwice.l0 F x1 (k : Int) (keys k c k) abc (c : Int) (k : Int)
  | 0, j, F, hd, hj => by
    obtain rfl : j = k := by omega
    rfl
  | d + 1, j, F, hd, hj => by
    have ih := loop1 k c hk h26 hc x1 d (j + 1) F (by omega) (by omega)
    have h26' : (abc.size : Int) = 26 := rfl
    have e1 : Int.tmod (wrap64 ((j : Int) + (c : Int))) (k : Int) = (rank k c j : Int) := by
      rw [w64 _ (by omega) (by omega)]
      unfold rank
      exact_mod_cast Int.tmod_eq_emod_of_nonneg (by omega : (0 : Int) ≤ (j : Int) + (c : Int))
    have hr : rank k c j < k := Nat.mod_lt _ hk
    have e2 : keys k c (j + 1) = keys k c j ++ [key k c j] := by simp [keys, List.range_succ]
    have e3 : ((rank k c j : Int) + 1).toNat = rank k c j + 1 := by omega
    rw [show F + (d + 1) = (F + d) + 1 from rfl, erratumlaw06_OrderTwice.l0, if_pos (by omega), if_neg (by omega), e1, w64 ((rank k c j : Int) + 1) (by omega) (by omega), if_pos (by omega), if_pos (by omega), if_pos (by rw [keys_length]; omega), w64 ((j : Int) + 1) (by omega) (by omega), e3]
    rw [e2] at ih
    exact_mod_cast ih
theorem loop2 (k c : Nat) (hk : 0 < k) (h26 : k ≤ 25) (hc : c < k) : ∀ (d j F : Nat), k - j = d → j ≤ k →
    erratumlaw06_OrderTwice.l1 (F + 5 + d) (k : Int) (c : Int) (turned k c) (j : Int) = some true
  | 0, j, F, hd, hj => by
    obtain rfl : j = k := by omega
    rw [show F + 5 + 0 = (F + 4) + 1 from rfl, erratumlaw06_OrderTwice.l1, if_neg (by omega), awake6 _ (by omega)]
    rfl
  | d + 1, j, F, hd, hj => by
    have ih := loop2 k c hk h26 hc d (j + 1) F (by omega) (by omega)
    have e1 : Int.tmod (wrap64 (wrap64 ((j : Int) + (k : Int)) - (c : Int))) (k : Int) = (((j + k - c) % k : Nat) : Int) := by
      rw [w64 ((j : Int) + k) (by omega) (by omega), w64 _ (by omega) (by omega), Int.tmod_eq_emod_of_nonneg (by omega)]
      have : (j : Int) + k - c = ((j + k - c : Nat) : Int) := by omega
      rw [this]
      rfl
    have e2 : rd (turned k c) (j : Int) = (((j + k - c) % k : Nat) : Int) := by
      rw [turned_get k c j hc (by omega)]
      by_cases h : j < c
      · rw [if_pos h, Nat.mod_eq_of_lt (by omega)]
      · rw [if_neg h, Nat.mod_eq_sub_mod (by omega), Nat.mod_eq_of_lt (by omega)]
        congr 1
        omega
    rw [show F + 5 + (d + 1) = (F + 5 + d) + 1 from rfl, erratumlaw06_OrderTwice.l1, if_pos (by omega), if_pos (by omega), if_pos (by rw [turned_length]; omega), if_neg (by omega), e1, e2, if_pos rfl, w64 ((j : Int) + 1) (by omega) (by omega)]
    exact_mod_cast ih
theorem all (a1 : Int) (k c : Nat) (hk : 0 < k) (h26 : k ≤ 25) (hc : c < k) : erratumlaw06_OrderTwice.l0 (100 + k) a1 (k : Int) [] abc (c : Int) 0 = some true := by
  have h := loop1 k c hk h26 hc a1 k 0 100 (by omega) (by omega)
  have e : keys k c 0 = [] := rfl
  rw [e] at h
  refine h.trans ?_
  obtain ⟨p, hp, hp0, hp1⟩ := place a1 (k : Int) (by omega) (by omega)
  have hst : erratumlaw00_Strings.f (keys k c k) = some (keys k c k) := by
    unfold erratumlaw00_Strings.f
    rw [if_pos (by rw [keys_length]; simp; omega)]
    rfl
  have ht := twice_yes k c p.toNat hk h26 (by omega)
  have h2 := loop2 k c hk h26 hc k 0 (93 - k) (by omega) (by omega)
  rw [show 93 - k + 5 + k = 98 by omega] at h2
  rw [show (100 : Nat) = 99 + 1 from rfl, erratumlaw06_OrderTwice.l0, if_neg (by omega), twice_no k c hk h26, hst, hp, sort_keys k c hk h26 hc]
  simp only [Option.bind_some]
  rw [if_pos hp0, if_pos (by rw [keys_length]; omega), if_pos (by rw [keys_length]; omega), keys_get' k c k p hp0 (by omega), ht]
  simp only [Option.bind_some]
  rw [if_pos (by rw [turned_length]), if_neg (by decide), if_pos trivial]
  have hne : ((k : Int) != (k : Int)) = false := by simp
  rw [hne, show (99 : Nat) = 98 + 1 from rfl, erratumlaw06_OrderTwice.j1, if_neg (by decide)]
  exact h2
end Twice
end Go.Proofs.Ytpamgedmgjfjjaa.Pure
end
section
namespace Go.Proofs.Ytpamgedmgjfjjaa.Pure.Few
open Go.RowKit Go.Proofs.Ytpamgedmgjfjjaa.M Go.Proofs.YtpamgedmgjfjjaaW.PrintWords Go.Proofs.YtpamgedmgjfjjaaW.PrintLast Go.Proofs.YtpamgedmgjfjjaaW.PrintMore
set_option linter.unusedVariables false
theorem w64 (x : Int) (h0 : -9223372036854775808 ≤ x) (h1 : x ≤ 9223372036854775807) : wrap64 x = x := by
  unfold wrap64
  omega
theorem few_all (l : List ByteArray) : ∀ (d j F : Nat), 60 - j = d → j ≤ 60 → j ≤ l.length → ∃ r, erratumlaw06_few.l0 (F + 2 + 2 * d) l (j : Int) = some r ∧ (r = true → l.length ≤ 60 ∧ ∀ i, j ≤ i → i < l.length → (rdOf ByteArray.empty l (i : Int)).size ≤ 300)
  | d, j, F, hd, hj, hjl => by
    by_cases h1 : j < l.length
    · by_cases h2 : j < 60
      · obtain ⟨d2, rfl⟩ : ∃ d2, d = d2 + 1 := ⟨d - 1, by omega⟩
        rw [show F + 2 + 2 * (d2 + 1) = (F + 2 + 2 * d2 + 1) + 1 by omega, erratumlaw06_few.l0, if_pos (by omega), decide_eq_true (by omega), erratumlaw06_few.j1, if_pos rfl, if_pos (by omega), if_pos (by omega)]
        by_cases h3 : ((rdOf ByteArray.empty l (j : Int)).size : Int) > 300
        · rw [if_pos h3]
          exact ⟨false, rfl, fun h => by cases h⟩
        · rw [if_neg h3, w64 _ (by omega) (by omega)]
          obtain ⟨r, hr, hh⟩ := few_all l d2 (j + 1) F (by omega) (by omega) (by omega)
          refine ⟨r, hr, fun h => ⟨(hh h).1, fun i hi hl => ?_⟩⟩
          by_cases hij : i = j
          · subst hij; omega
          · exact (hh h).2 i (by omega) hl
      · rw [show F + 2 + 2 * d = (F + 2 * d + 1) + 1 by omega, erratumlaw06_few.l0, if_pos (by omega), decide_eq_false (by omega), erratumlaw06_few.j1, if_neg (by simp)]
        refine ⟨_, rfl, fun h => ?_⟩
        have := of_decide_eq_true h
        omega
    · rw [show F + 2 + 2 * d = (F + 2 * d + 1) + 1 by omega, erratumlaw06_few.l0, if_neg (by omega), erratumlaw06_few.j1, if_neg (by simp)]
      refine ⟨_, rfl, fun h => ⟨?_, fun i hi hl => by omega⟩⟩
      have := of_decide_eq_true h
      omega
end Go.Proofs.Ytpamgedmgjfjjaa.Pure.Few
end
section
namespace Go.Proofs.Ytpamgedmgjfjjaa.Pure.All
open Go.RowKit Go.Proofs.Ytpamgedmgjfjjaa.M Go.Proofs.YtpamgedmgjfjjaaW.PrintWords Go.Proofs.YtpamgedmgjfjjaaW.PrintLast Go.Proofs.YtpamgedmgjfjjaaW.PrintMore
open Go.Proofs.Ytpamgedmgjfjjaa.Pure.Trees (Small Fits eta50 rd_at fuel_list Light_all copy_trees same_tree)
set_option linter.unusedVariables false
theorem w64 (x : Int) (h0 : -9223372036854775808 ≤ x) (h1 : x ≤ 9223372036854775807) : wrap64 x = x := by
  unfold wrap64
  omega
theorem obj_loop (l : List ByteArray) (v : List S50) (t : List Int) (ht : t.length ≤ 60) (hm : ∀ x ∈ t, 0 ≤ x ∧ x < l.length ∧ x < v.length) : ∀ (d j k : Nat), t.length - j = d → j ≤ t.length → d < k →
    order_Object.l0 k l v t (t.length : Int) (j : Int) 7 false false 0 (⟨#[]⟩ : ByteArray) ((t.take j).map (rdOf ByteArray.empty l)) ((t.take j).map (rd_T50 v))
      = some (7, false, false, [], 0, ⟨#[]⟩, t.map (rdOf ByteArray.empty l), t.map (rd_T50 v), 0, true)
  | d, j, 0, _, _, h => absurd h (by omega)
  | 0, j, k + 1, hd, hj, _ => by
    have e : j = t.length := by omega
    rw [order_Object.l0, if_neg (by omega), e, List.take_length]
  | d + 1, j, k + 1, hd, hj, h => by
    have hjt : j < t.length := by omega
    have hr : rd t (j : Int) = t[j] := by simp [rd, hjt]
    obtain ⟨h0, h1, h2⟩ := hm t[j] (List.getElem_mem hjt)
    have ih := obj_loop l v t ht hm d (j + 1) k (by omega) (by omega) (by omega)
    rw [order_Object.l0, if_pos (by omega), if_pos (by omega), if_pos (by omega), hr, if_pos h0, if_pos h1, if_pos (by rw [List.length_map, List.length_take]; omega), if_pos h2, if_pos (by rw [List.length_map, List.length_take]; omega), w64 _ (by omega) (by omega)]
    have e : t.take (j + 1) = t.take j ++ [t[j]] := by rw [List.take_add_one, List.getElem?_eq_getElem hjt]; rfl
    rw [e, List.map_append, List.map_append] at ih
    rw [eta50]
    exact ih
theorem mn_nat (a b : Nat) : mn (a : Int) (b : Int) = ((min a b : Nat) : Int) := by
  unfold mn
  split <;> omega
theorem obj_k (l : List ByteArray) (v : List S50) (h1 : l.length ≤ 60) (h3 : v.length ≤ 60) (h2 : l.all (fun s => decide (s.size ≤ 1000000)) = true) (k : Nat) (hk : 100 ≤ k) : order_Object.f k l v = some (objR l v) := by
  have hn : objN l v ≤ l.length := Nat.min_le_left _ _
  have hn2 : objN l v ≤ v.length := Nat.min_le_right _ _
  have hmn : mn (l.length : Int) (v.length : Int) = ((objN l v : Nat) : Int) := mn_nat _ _
  have hlt : (l.take (objN l v)).length = objN l v := by rw [List.length_take]; omega
  have hall : (l.take (objN l v)).all (fun s => decide (s.size ≤ 1000000)) = true := by
    rw [List.all_eq_true] at h2 ⊢
    exact fun x hx => h2 x (List.mem_of_mem_take hx)
  have ht : order_Twice.f (l.take (objN l v)) = some (twiceL (kbs (l.take (objN l v))) [] 0) := by unfold order_Twice.f; rw [if_pos ⟨by omega, hall⟩]
  rw [order_Object.f, hmn, if_pos (by omega), if_pos (by omega), Int.toNat_natCast, ht, Option.bind_some, objR]
  by_cases hd : (twiceL (kbs (l.take (objN l v))) [] 0).2 = true
  · rw [if_pos hd, if_pos hd]
  · rw [if_neg hd, if_neg hd]
    have hs : order_Sort.f (l.take (objN l v)) = some (sortF lessB (l.take (objN l v))) := by unfold order_Sort.f; rw [if_pos (by omega)]
    have hlen := sortF_length lessB (l.take (objN l v))
    rw [hs, Option.bind_some]
    exact obj_loop l v _ (by omega) (fun x hx => by have := mem_idx.1 ((sortF_perm lessB (l.take (objN l v))).mem_iff.1 hx); omega) _ 0 k rfl (Nat.zero_le _) (by omega)
theorem refobj_loop (l : List ByteArray) (v : List S50) (t : List Int) (ht : t.length ≤ 60) (hm : ∀ x ∈ t, 0 ≤ x ∧ x < l.length ∧ x < v.length) : ∀ (d j k : Nat), t.length - j = d → j ≤ t.length → d < k →
    erratumref06_Object.l0 k l v t (j : Int) 7 false false 0 (⟨#[]⟩ : ByteArray) ((t.take j).map (rdOf ByteArray.empty l)) ((t.take j).map (rd_T50 v))
      = some (7, false, false, [], 0, ⟨#[]⟩, t.map (rdOf ByteArray.empty l), t.map (rd_T50 v), 0, true)
  | d, j, 0, _, _, h => absurd h (by omega)
  | 0, j, k + 1, hd, hj, _ => by
    have e : j = t.length := by omega
    rw [erratumref06_Object.l0, if_neg (by omega), e, List.take_length]
  | d + 1, j, k + 1, hd, hj, h => by
    have hjt : j < t.length := by omega
    have hr : rd t (j : Int) = t[j] := by simp [rd, hjt]
    obtain ⟨h0, h1, h2⟩ := hm t[j] (List.getElem_mem hjt)
    have ih := refobj_loop l v t ht hm d (j + 1) k (by omega) (by omega) (by omega)
    rw [erratumref06_Object.l0, if_pos (by omega), if_pos (by omega), hr, if_pos h0, if_pos h1, Option.bind_some, if_pos (by simp only [List.length_map, List.length_take, List.length_cons, List.length_nil]; omega), if_pos h2, Option.bind_some,
      if_pos (by simp only [List.length_map, List.length_take, List.length_cons, List.length_nil]; omega), w64 _ (by omega) (by omega)]
    have e : t.take (j + 1) = t.take j ++ [t[j]] := by rw [List.take_add_one, List.getElem?_eq_getElem hjt]; rfl
    rw [e, List.map_append, List.map_append] at ih
    rw [eta50]
    exact ih
theorem refobj_k (l : List ByteArray) (v : List S50) (h1 : l.length ≤ 60) (h3 : v.length ≤ 60) : ∃ K, ∀ k, K ≤ k → erratumref06_Object.f k l v = some (objR l v) := by
  have hn : objN l v ≤ l.length := Nat.min_le_left _ _
  have hn2 : objN l v ≤ v.length := Nat.min_le_right _ _
  have hmn : mn (l.length : Int) (v.length : Int) = ((objN l v : Nat) : Int) := mn_nat _ _
  have hlt : (l.take (objN l v)).length = objN l v := by rw [List.length_take]; omega
  obtain ⟨K1, hK1⟩ := Refs.twice_k (l.take (objN l v)) (by omega)
  obtain ⟨K2, hK2⟩ := Refs.place_k (l.take (objN l v)) (by omega) false
  refine ⟨K1 + K2 + 100, fun k hk => ?_⟩
  rw [erratumref06_Object.f, hmn, if_pos (by omega), if_pos (by omega), Int.toNat_natCast, hK1 k (by omega), Option.bind_some, objR]
  by_cases hd : (twiceL (kbs (l.take (objN l v))) [] 0).2 = true
  · rw [if_pos hd, if_pos hd]
  · rw [if_neg hd, if_neg hd]
    have hs : erratumref06_Sort.f k (l.take (objN l v)) = some (sortF lessB (l.take (objN l v))) := by rw [erratumref06_Sort.f, hK2 k (by omega)]; rfl
    have hlen := sortF_length lessB (l.take (objN l v))
    rw [hs, Option.bind_some]
    exact refobj_loop l v _ (by omega) (fun x hx => by have := mem_idx.1 ((sortF_perm lessB (l.take (objN l v))).mem_iff.1 hx); omega) _ 0 k rfl (Nat.zero_le _) (by omega)
theorem same_objR (l : List ByteArray) (v : List S50) (h1 : l.length ≤ 60) (hv : ∀ x ∈ v, Small x) :
    ∃ K, ∀ k, K ≤ k → erratumlaw00_SameTree.f k (objR l v).1 (objR l v).2.1 (objR l v).2.2.1 (objR l v).2.2.2.1 (objR l v).2.2.2.2.1 (objR l v).2.2.2.2.2.1 (objR l v).2.2.2.2.2.2.1 (objR l v).2.2.2.2.2.2.2.1
      (objR l v).1 (objR l v).2.1 (objR l v).2.2.1 (objR l v).2.2.2.1 (objR l v).2.2.2.2.1 (objR l v).2.2.2.2.2.1 (objR l v).2.2.2.2.2.2.1 (objR l v).2.2.2.2.2.2.2.1 = some true := by
  have hn : objN l v ≤ l.length := Nat.min_le_left _ _
  have hn2 : objN l v ≤ v.length := Nat.min_le_right _ _
  unfold objR
  by_cases hd : (twiceL (kbs (l.take (objN l v))) [] 0).2 = true
  · rw [if_pos hd]
    obtain ⟨K, hK⟩ := same_tree (t := ⟨0, false, ⟨false, [], 0⟩, ⟨#[]⟩, [], []⟩) (.mk _ (by simp) (by simp) (by simp) (fun x hx => by simp at hx))
    exact ⟨K, fun k hk => hK k hk⟩
  · rw [if_neg hd]
    have hlen := sortF_length lessB (l.take (objN l v))
    have hlt : (l.take (objN l v)).length ≤ 60 := by rw [List.length_take]; omega
    obtain ⟨K, hK⟩ := same_tree (t := ⟨7, false, ⟨false, [], 0⟩, ⟨#[]⟩, (sortF lessB (l.take (objN l v))).map (rdOf ByteArray.empty l), (sortF lessB (l.take (objN l v))).map (rd_T50 v)⟩)
      (.mk _ (by simp) (by simp only [List.length_map]; omega) (by simp only [List.length_map]; omega) (fun x hx => by
        obtain ⟨i, hi, rfl⟩ := List.mem_map.1 hx
        have hb := mem_idx.1 ((sortF_perm lessB (l.take (objN l v))).mem_iff.1 hi)
        rw [List.length_take] at hb
        have hi2 : i.toNat < v.length := by omega
        have e : rd_T50 v i = v[i.toNat] := by simp [rd_T50, List.getD_eq_getElem?_getD, hi2]
        rw [e]
        exact (hv _ (List.getElem_mem hi2)).fits))
    exact ⟨K, fun k hk => hK k hk⟩
theorem ints_refl (l : List Int) (hl : l.length ≤ 1000000) (k : Nat) (hk : l.length + 2 ≤ k) : erratumlaw00_SameInts.f k l l = some true := by
  rw [erratumlaw00_SameInts.f, if_pos rfl]
  exact Twice.ints_same l hl l.length 0 k (by omega) (Nat.zero_le _) (by omega)
theorem law_end (l : List ByteArray) (v : List S50) (a b : ByteArray) (h1 : l.length ≤ 60) (h3 : v.length ≤ 60) (h2 : l.all (fun s => decide (s.size ≤ 1000000)) = true) (hv : ∀ x ∈ v, Small x) :
    ∃ K, ∀ k, K ≤ k → erratumlaw06_OrderAll.l0 k l v a b (v.length : Int) = some true := by
  obtain ⟨K1, hK1⟩ := copy_trees v h3 hv
  obtain ⟨K2, hK2⟩ := same_objR l v h1 hv
  obtain ⟨K3, hK3⟩ := Refs.twice_k l (by omega)
  obtain ⟨K4, hK4⟩ := Refs.place_k l (by omega) false
  obtain ⟨K5, hK5⟩ := Refs.place_k l (by omega) true
  obtain ⟨K6, hK6⟩ := refobj_k l v h1 h3
  refine ⟨K1 + K2 + K3 + K4 + K5 + K6 + 300, fun k hk => ?_⟩
  obtain ⟨k', rfl⟩ : ∃ k', k = k' + 1 := ⟨k - 1, by omega⟩
  have hs : erratumlaw00_Strings.f l = some l := by rw [erratumlaw00_Strings.f, if_pos (by simp only [List.length_nil]; omega)]; rfl
  have ht : order_Twice.f l = some (twiceL (kbs l) [] 0) := by unfold order_Twice.f; rw [if_pos ⟨by omega, h2⟩]
  have hso : order_Sort.f l = some (sortF lessB l) := by unfold order_Sort.f; rw [if_pos (by omega)]
  have hcb : order_CBOR.f l = some (sortF lessC l) := by unfold order_CBOR.f; rw [if_pos (by omega)]
  have hob : erratumref06_Object.f k' l v = some (objR l v) := hK6 k' (by omega)
  have hrs : erratumref06_Sort.f k' l = some (sortF lessB l) := by rw [erratumref06_Sort.f, hK4 k' (by omega)]; rfl
  have hrc : erratumref06_CBOR.f k' l = some (sortF lessC l) := by rw [erratumref06_CBOR.f, hK5 k' (by omega)]; rfl
  have l1 := sortF_length lessB l
  have l2 := sortF_length lessC l
  rw [erratumlaw06_OrderAll.l0, if_neg (by omega), hs, Option.bind_some, hK1 k' (by omega), Option.bind_some, obj_k l v h1 h3 h2 k' (by omega), Option.bind_some, hob, Option.bind_some, Option.bind_some, ht, Option.bind_some, hK3 k' (by omega), Option.bind_some, Option.bind_some,
    hso, Option.bind_some, hrs, Option.bind_some, ints_refl _ (by omega) k' (by omega), Option.bind_some, if_pos rfl, Option.bind_some, hcb, Option.bind_some, hrc, Option.bind_some, ints_refl _ (by omega) k' (by omega), Option.bind_some, if_pos rfl, order_Less.f, Option.bind_some, erratumref06_Less.f, Option.bind_some,
    if_pos (by simp), if_pos rfl, if_pos (by simp), hK2 k' (by omega), Option.bind_some, if_pos rfl, if_pos rfl, if_pos (by simp), Twice.awake6 k' (by omega)]
  rfl
theorem law_loop (l : List ByteArray) (v : List S50) (a b : ByteArray) (h1 : l.length ≤ 60) (h3 : v.length ≤ 60) (h2 : l.all (fun s => decide (s.size ≤ 1000000)) = true) : ∀ (d j : Nat), v.length - j = d → j ≤ v.length → (∀ x ∈ v.take j, Small x) →
    ∃ K, ∀ k, K ≤ k → erratumlaw06_OrderAll.l0 k l v a b (j : Int) = some true := by
  intro d
  induction d with
  | zero =>
    intro j hd hj hs
    have e : j = v.length := by omega
    subst e
    rw [List.take_length] at hs
    exact law_end l v a b h1 h3 h2 hs
  | succ d ih =>
    intro j hd hj hs
    have hjl : j < v.length := by omega
    obtain ⟨r, K, hK, hr⟩ := Light_all v[j]
    cases r with
    | false =>
      refine ⟨K + 10, fun k hk => ?_⟩
      obtain ⟨k', rfl⟩ : ∃ k', k = k' + 1 := ⟨k - 1, by omega⟩
      rw [erratumlaw06_OrderAll.l0, if_pos (by omega), if_pos (by omega), rd_at v j hjl, hK k' (by omega), Option.bind_some, if_neg (by simp), Twice.awake6 k' (by omega)]
      rfl
    | true =>
      obtain ⟨K2, hK2⟩ := ih (j + 1) (by omega) (by omega) (fun x hx => by
        have e : v.take (j + 1) = v.take j ++ [v[j]] := by rw [List.take_add_one, List.getElem?_eq_getElem hjl]; rfl
        rw [e] at hx
        rcases List.mem_append.1 hx with hx | hx
        · exact hs x hx
        · obtain rfl := List.mem_singleton.1 hx
          exact hr rfl)
      refine ⟨K + K2 + 1, fun k hk => ?_⟩
      obtain ⟨k', rfl⟩ : ∃ k', k = k' + 1 := ⟨k - 1, by omega⟩
      rw [erratumlaw06_OrderAll.l0, if_pos (by omega), if_pos (by omega), rd_at v j hjl, hK k' (by omega), Option.bind_some, if_pos rfl, w64 _ (by omega) (by omega)]
      exact hK2 k' (by omega)
theorem All (l : List ByteArray) (v : List S50) (a b : ByteArray) : ∃ k, erratumlaw06_OrderAll.f k l v a b = some true := by
  obtain ⟨r, hr, hh⟩ := Few.few_all l 60 0 0 rfl (by omega) (by omega)
  have hfew : ∀ n, erratumlaw06_few.f (122 + n) l = some r := by
    intro n
    obtain ⟨r2, hr2, _⟩ := Few.few_all l 60 0 n rfl (by omega) (by omega)
    have hm : ∀ n, erratumlaw06_few.f (122 + n) l = some r := by
      intro n
      induction n with
      | zero => exact hr
      | succ n ih => exact erratumlaw06_few.mono l (122 + n) r ih
    exact hm n
  have bad : ∀ n, erratumlaw06_OrderAll.j0 (n + 10) l v a b true = some true := fun n => by rw [erratumlaw06_OrderAll.j0, if_pos rfl, Twice.awake6 (n + 9) (by omega)]; rfl
  cases r with
  | false =>
    refine ⟨122 + 10, ?_⟩
    rw [erratumlaw06_OrderAll.f, hfew, Option.bind_some, if_neg (by simp)]
    exact bad 122
  | true =>
    obtain ⟨h60, hsz⟩ := hh rfl
    have h2 : l.all (fun s => decide (s.size ≤ 1000000)) = true := by
      rw [List.all_eq_true]
      intro s hs
      obtain ⟨i, hi, rfl⟩ := List.mem_iff_getElem.1 hs
      have := hsz i (Nat.zero_le _) hi
      have e : rdOf ByteArray.empty l (i : Int) = l[i] := by simp [rdOf, List.getD_eq_getElem?_getD, hi]
      rw [e] at this
      exact decide_eq_true (by omega)
    by_cases hv : (v.length : Int) > 60
    · refine ⟨122 + 10, ?_⟩
      rw [erratumlaw06_OrderAll.f, hfew, Option.bind_some, if_pos rfl, decide_eq_true hv]
      exact bad 122
    · obtain ⟨K, hK⟩ := law_loop l v a b h60 (by omega) h2 v.length 0 (by omega) (Nat.zero_le _) (fun x hx => by simp at hx)
      refine ⟨122 + (K + 1), ?_⟩
      rw [erratumlaw06_OrderAll.f, hfew, Option.bind_some, if_pos rfl, decide_eq_false hv, show 122 + (K + 1) = (122 + K) + 1 by omega, erratumlaw06_OrderAll.j0, if_neg (by simp)]
      exact hK (122 + K) (by omega)
end Go.Proofs.Ytpamgedmgjfjjaa.Pure.All
end
