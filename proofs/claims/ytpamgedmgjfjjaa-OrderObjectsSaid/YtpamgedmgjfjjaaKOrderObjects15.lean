/-
Lemmas for OrderObjects, for every input they speak of: PureOrderTwice, PureOrderObjects.
-/
import Derived.Test.YtpamgedmgjfjjaaKOrderObjects13
import Derived.Test.YtpamgedmgjfjjaaKOrderObjects14
import Derived.Test.YtpamgedmgjfjjaaKOrderObjects12
section
namespace Go.Proofs.Ytpamgedmgjfjjaa.Pure
open Go.RowKit Go.Proofs.Ytpamgedmgjfjjaa.M Go.Proofs.YtpamgedmgjfjjaaW.PrintWords Go.Proofs.YtpamgedmgjfjjaaW.PrintLast Go.Proofs.YtpamgedmgjfjjaaW.PrintMore
set_option linter.unusedVariables false
set_option linter.unusedSimpArgs false
namespace Twice
theorem w64 (x : Int) (h0 : -9223372036854775808 ≤ x) (h1 : x ≤ 9223372036854775807) : wrap64 x = x := by
  unfold wrap64
  omega
theorem place (a n : Int) (h0 : 0 < n) (h1 : n ≤ 1000000) : ∃ r, erratumlaw00_Place.f a n = some r ∧ 0 ≤ r ∧ r < n := by
  unfold erratumlaw00_Place.f
  have hb := Int.tmod_lt_of_pos a h0
  have hc : -n < Int.tmod a n := by
    have := Int.tmod_lt_of_pos (-a) h0
    rw [Int.neg_tmod] at this
    omega
  rw [if_neg (by omega)]
  split
  · refine ⟨_, rfl, ?_⟩
    unfold wrap64
    omega
  · exact ⟨_, rfl, by omega, hb⟩
theorem ba (b : UInt8) : (⟨#[b]⟩ : ByteArray).toList = [b] := by rw [ByteArray.toList_eq]
theorem ba2 (a b : UInt8) : (⟨#[a, b]⟩ : ByteArray).toList = [a, b] := by rw [ByteArray.toList_eq]
theorem ex_sort : order_Sort.f [(⟨#[98]⟩ : ByteArray), (⟨#[97]⟩ : ByteArray), (⟨#[98]⟩ : ByteArray)] = some [1, 0, 2] := by
  unfold order_Sort.f
  rw [if_pos (by decide)]
  congr 1
  refine sortF_unique lessB _ (weakB _) (by decide) _ (by decide) ?_
  simp [Ahead, ltOf, lessB, rdOf, ba]
  decide
theorem ex_cbor : order_CBOR.f [(⟨#[98, 98]⟩ : ByteArray), (⟨#[99]⟩ : ByteArray)] = some [1, 0] := by
  unfold order_CBOR.f
  rw [if_pos (by decide)]
  congr 1
  refine sortF_unique lessC _ (weakC _) (by decide) _ (by decide) ?_
  refine List.pairwise_cons.2 ⟨fun z hz => ?_, by simp⟩
  obtain rfl := List.mem_singleton.1 hz
  unfold Ahead ltOf
  rw [lessC_eq, lessC_eq]
  decide
theorem ints_same (l : List Int) (hl : l.length ≤ 1000000) : ∀ (d j k : Nat), l.length - j = d → j ≤ l.length → d < k → erratumlaw00_SameInts.l0 k l l j = some true
  | d, j, 0, _, _, h => absurd h (by omega)
  | 0, j, k + 1, hd, hj, _ => by
    rw [erratumlaw00_SameInts.l0, if_neg (by omega)]
  | d + 1, j, k + 1, hd, hj, h => by
    have := ints_same l hl d (j + 1) k (by omega) (by omega) (by omega)
    rw [erratumlaw00_SameInts.l0, if_pos (by omega), if_pos (by omega), if_pos (by omega), if_pos rfl, w64 _ (by omega) (by omega)]
    exact_mod_cast this
theorem awake6 (k : Nat) (hk : 4 ≤ k) : erratumlaw06_awake.f k = some true := by
  unfold erratumlaw06_awake.f
  have h1 := ints_same [1, 0, 2] (by decide) 3 0 k rfl (by decide) (by omega)
  have h2 := ints_same [1, 0] (by decide) 2 0 k rfl (by decide) (by omega)
  have h3 : order_Less.f (⟨#[97]⟩ : ByteArray) (⟨#[97, 98]⟩ : ByteArray) = some true := by
    unfold order_Less.f
    rw [ba, ba2]
    decide
  rw [ex_sort, ex_cbor, h3]
  simp only [Option.bind_some, erratumlaw00_SameInts.f, if_pos]
  have h1' : erratumlaw00_SameInts.l0 k [1, 0, 2] [1, 0, 2] 0 = some true := h1
  have h2' : erratumlaw00_SameInts.l0 k [1, 0] [1, 0] 0 = some true := h2
  rw [h1', h2']
  simp
theorem twiceL_nodup : ∀ (r seen : List (List UInt8)) (i : Nat), (∀ s ∈ r, s ∉ seen) → r.Nodup → twiceL r seen i = (0, false)
  | [], _, _, _, _ => rfl
  | s :: r, seen, i, h, hn => by
    rw [twiceL, if_neg (h s List.mem_cons_self)]
    have hn1 := List.nodup_cons.1 hn
    refine twiceL_nodup r _ _ (fun t ht => ?_) hn1.2
    rw [List.mem_append]
    rintro (h2 | h2)
    · exact h t (List.mem_cons_of_mem _ ht) h2
    · rw [List.mem_singleton] at h2
      subst h2
      exact hn1.1 ht
theorem twiceL_app : ∀ (r seen : List (List UInt8)) (i : Nat) (x : List UInt8), (∀ s ∈ r, s ∉ seen) → r.Nodup → x ∈ seen ++ r → twiceL (r ++ [x]) seen i = (((i + r.length : Nat) : Int), true)
  | [], seen, i, x, _, _, hx => by
    rw [List.append_nil] at hx
    simp [twiceL, hx]
  | s :: r, seen, i, x, h, hn, hx => by
    have hn1 := List.nodup_cons.1 hn
    rw [List.cons_append, twiceL, if_neg (h s List.mem_cons_self), twiceL_app r _ _ x (fun t ht => ?_) hn1.2 (by simpa using hx)]
    · simp only [List.length_cons]
      congr 2
      omega
    · rw [List.mem_append]
      rintro (h2 | h2)
      · exact h t (List.mem_cons_of_mem _ ht) h2
      · rw [List.mem_singleton] at h2
        subst h2
        exact hn1.1 ht
def abc : ByteArray := ⟨#[97, 98, 99, 100, 101, 102, 103, 104, 105, 106, 107, 108, 109, 110, 111, 112, 113, 114, 115, 116, 117, 118, 119, 120, 121, 122]⟩
def rank (k c i : Nat) : Nat := (i + c) % k
def key (k c i : Nat) : ByteArray := abc.extract 0 (rank k c i + 1)
def keys (k c j : Nat) : List ByteArray := (List.range j).map (key k c)
theorem key_list (k c i : Nat) (hk : 0 < k) (h26 : k ≤ 25) : (key k c i).data.toList = abc.data.toList.take (rank k c i + 1) := by
  have h : rank k c i < k := Nat.mod_lt _ hk
  have hx : ∀ n, n ≤ 26 → (abc.extract 0 n).data.toList = abc.data.toList.take n := by decide
  exact hx _ (by omega)
theorem take_less : ∀ (s : List UInt8) (a b : Nat), a < b → b ≤ s.length → Op.bytesLess (s.take a) (s.take b) = true
  | [], a, b, h, h2 => absurd h2 (by simp; omega)
  | x :: s, 0, b + 1, h, h2 => rfl
  | x :: s, a + 1, b + 1, h, h2 => by
    rw [List.take_succ_cons, List.take_succ_cons, bl_step]
    exact .inr ⟨rfl, take_less s a b (by omega) (by simpa using h2)⟩
theorem key_less (k c : Nat) (hk : 0 < k) (h26 : k ≤ 25) (i j : Nat) (h : rank k c i < rank k c j) : lessB (key k c i) (key k c j) = true := by
  unfold lessB
  rw [ByteArray.toList_eq, ByteArray.toList_eq, key_list k c i hk h26, key_list k c j hk h26]
  have h2 : rank k c j < k := Nat.mod_lt _ hk
  refine take_less _ _ _ (by omega) ?_
  show _ ≤ 26
  omega
theorem rank_inj (k c i j : Nat) (hi : i < k) (hj : j < k) (h : rank k c i = rank k c j) : i = j := by
  unfold rank at h
  have h1 := Nat.div_add_mod (i + c) k
  have h2 := Nat.div_add_mod (j + c) k
  rw [h] at h1
  have h3 : (i + c) / k = (j + c) / k := by
    rcases Nat.lt_trichotomy ((i + c) / k) ((j + c) / k) with h4 | h4 | h4
    · have := Nat.mul_le_mul_left k (Nat.succ_le_of_lt h4)
      rw [Nat.mul_succ] at this
      omega
    · exact h4
    · have := Nat.mul_le_mul_left k (Nat.succ_le_of_lt h4)
      rw [Nat.mul_succ] at this
      omega
  rw [h3] at h1
  omega
theorem kbs_keys (k c j : Nat) (hk : 0 < k) (h26 : k ≤ 25) : kbs (keys k c j) = (List.range j).map fun i => abc.data.toList.take (rank k c i + 1) := by
  unfold kbs keys
  rw [List.map_map]
  exact List.map_congr_left fun i _ => key_list k c i hk h26
theorem nodup_keys (k c : Nat) (hk : 0 < k) (h26 : k ≤ 25) : (kbs (keys k c k)).Nodup := by
  rw [kbs_keys k c k hk h26]
  unfold List.Nodup
  rw [List.pairwise_map]
  refine (List.pairwise_lt_range).imp_of_mem ?_
  intro a b ha hb hab he
  rw [List.mem_range] at ha hb
  have h1 : rank k c a < k := Nat.mod_lt _ hk
  have h2 : rank k c b < k := Nat.mod_lt _ hk
  have h3 := congrArg List.length he
  have h4 : abc.data.toList.length = 26 := rfl
  rw [List.length_take, List.length_take, h4] at h3
  have := rank_inj k c a b ha hb (by omega)
  omega
theorem keys_length (k c j : Nat) : (keys k c j).length = j := by simp [keys]
theorem keys_size (k c j : Nat) (hk : 0 < k) (h26 : k ≤ 25) : ∀ s ∈ keys k c j, s.size ≤ 1000000 := by
  intro s hs
  obtain ⟨i, hi, rfl⟩ := List.mem_map.1 hs
  have h := key_list k c i hk h26
  have h2 := congrArg List.length h
  rw [List.length_take] at h2
  have : (key k c i).size = (key k c i).data.toList.length := by rw [Array.length_toList]; rfl
  rw [this, h2]
  have : abc.data.toList.length = 26 := rfl
  omega
theorem keys_get (k c j i : Nat) (h : i < j) : rdOf ByteArray.empty (keys k c j) (i : Int) = key k c i := by
  simp [rdOf, keys, List.getD_eq_getElem?_getD, h]
theorem keys_get' (k c j : Nat) (i : Int) (h0 : 0 ≤ i) (h : i < j) : rdOf ByteArray.empty (keys k c j) i = key k c i.toNat := by
  obtain ⟨m, rfl⟩ := Int.eq_ofNat_of_zero_le h0
  exact keys_get k c j m (by omega)
theorem twice_no (k c : Nat) (hk : 0 < k) (h26 : k ≤ 25) : order_Twice.f (keys k c k) = some (0, false) := by
  unfold order_Twice.f
  rw [if_pos ⟨by rw [keys_length]; omega, by rw [List.all_eq_true]; exact fun s hs => by simpa using keys_size k c k hk h26 s hs⟩, twiceL_nodup _ _ _ (by simp) (nodup_keys k c hk h26)]
theorem twice_yes (k c p : Nat) (hk : 0 < k) (h26 : k ≤ 25) (hp : p < k) : order_Twice.f (keys k c k ++ [key k c p]) = some ((k : Int), true) := by
  have hm : key k c p ∈ keys k c k := List.mem_map.2 ⟨p, List.mem_range.2 hp, rfl⟩
  unfold order_Twice.f
  rw [if_pos ⟨by rw [List.length_append, keys_length]; simp; omega, by
    rw [List.all_eq_true]
    intro s hs
    rcases List.mem_append.1 hs with h | h
    · simpa using keys_size k c k hk h26 s h
    · obtain rfl := List.mem_singleton.1 h
      simpa using keys_size k c k hk h26 _ hm⟩]
  have : kbs (keys k c k ++ [key k c p]) = kbs (keys k c k) ++ [(key k c p).data.toList] := by simp [kbs]
  rw [this, twiceL_app _ _ _ _ (by simp) (nodup_keys k c hk h26) (by
    rw [List.nil_append]
    exact List.mem_map.2 ⟨_, hm, rfl⟩), kbs_length, keys_length]
  simp
def turned (k c : Nat) : List Int := (idx k).drop (k - c) ++ (idx k).take (k - c)
theorem idx_get (n i : Nat) (h : i < n) : (idx n)[i]'(by rw [idx_length]; exact h) = (i : Int) := by simp [idx]
theorem turned_length (k c : Nat) : (turned k c).length = k := by
  unfold turned
  rw [List.length_append, List.length_drop, List.length_take, idx_length]
  omega
theorem turned_get (k c i : Nat) (hc : c < k) (hi : i < k) : rd (turned k c) (i : Int) = if i < c then ((i + k - c : Nat) : Int) else ((i - c : Nat) : Int) := by
  unfold rd turned
  rw [List.getD_eq_getElem?_getD, Int.toNat_natCast]
  by_cases h : i < c
  · rw [if_pos h, List.getElem?_append_left (by rw [List.length_drop, idx_length]; omega), List.getElem?_drop, List.getElem?_eq_getElem (by rw [idx_length]; omega), Option.getD_some, idx_get _ _ (by omega)]
    congr 1
    omega
  · rw [if_neg h, List.getElem?_append_right (by rw [List.length_drop, idx_length]; omega), List.length_drop, idx_length, List.getElem?_take_of_lt (by omega), List.getElem?_eq_getElem (by rw [idx_length]; omega), Option.getD_some, idx_get _ _ (by omega)]
    congr 1
    omega
theorem sort_keys (k c : Nat) (hk : 0 < k) (h26 : k ≤ 25) (hc : c < k) : order_Sort.f (keys k c k) = some (turned k c) := by
  unfold order_Sort.f
  rw [if_pos (by rw [keys_length]; omega)]
  congr 1
  have hahead : ∀ a b : Int, 0 ≤ a → a < k → 0 ≤ b → b < k → rank k c a.toNat < rank k c b.toNat → Ahead (ltOf lessB (keys k c k)) a b := by
    intro a b ha ha' hb hb' h
    have h1 : ltOf lessB (keys k c k) a b = true := by
      unfold ltOf
      rw [keys_get' k c k a ha ha', keys_get' k c k b hb hb']
      exact key_less k c hk h26 _ _ h
    exact ⟨(weakB _).A _ _ h1, .inl h1⟩
  have hr : ∀ a : Int, 0 ≤ a → a < k → (a < k - c → (rank k c a.toNat : Int) = a + c) ∧ (¬ a < k - c → (rank k c a.toNat : Int) = a + c - k) := by
    intro a h0 h1
    unfold rank
    constructor
    · intro h2
      rw [Nat.mod_eq_of_lt (by omega)]
      omega
    · intro h2
      rw [Nat.mod_eq_sub_mod (by omega), Nat.mod_eq_of_lt (by omega)]
      omega
  refine sortF_unique lessB _ (weakB _) (by rw [keys_length]; omega) _ ?_ ?_
  · rw [keys_length]
    unfold turned
    exact (List.perm_append_comm).trans (by rw [List.take_append_drop])
  · unfold turned
    have hsplit := idx_lt k
    rw [← List.take_append_drop (k - c) (idx k), List.pairwise_append] at hsplit
    have m1 : ∀ x ∈ (idx k).take (k - c), 0 ≤ x ∧ x < k ∧ x < k - c := by
      intro x hx
      have h1 := mem_idx.1 (List.mem_of_mem_take hx)
      obtain ⟨i, hi, rfl⟩ := List.getElem_of_mem hx
      rw [List.length_take, idx_length] at hi
      rw [List.getElem_take, idx_get _ _ (by omega)] at h1 ⊢
      omega
    have m2 : ∀ x ∈ (idx k).drop (k - c), 0 ≤ x ∧ x < k ∧ ¬ x < k - c := by
      intro x hx
      have h1 := mem_idx.1 (List.mem_of_mem_drop hx)
      obtain ⟨i, hi, rfl⟩ := List.getElem_of_mem hx
      rw [List.length_drop, idx_length] at hi
      rw [List.getElem_drop, idx_get _ _ (by omega)] at h1 ⊢
      omega
    rw [List.pairwise_append]
    refine ⟨hsplit.2.1.imp_of_mem ?_, hsplit.1.imp_of_mem ?_, ?_⟩
    · intro a b ha hb hab
      have h1 := m2 a ha
      have h2 := m2 b hb
      have h3 := (hr a h1.1 h1.2.1).2 h1.2.2
      have h4 := (hr b h2.1 h2.2.1).2 h2.2.2
      exact hahead a b h1.1 h1.2.1 h2.1 h2.2.1 (by omega)
    · intro a b ha hb hab
      have h1 := m1 a ha
      have h2 := m1 b hb
      have h3 := (hr a h1.1 h1.2.1).1 h1.2.2
      have h4 := (hr b h2.1 h2.2.1).1 h2.2.2
      exact hahead a b h1.1 h1.2.1 h2.1 h2.2.1 (by omega)
    · intro a ha b hb
      have h1 := m2 a ha
      have h2 := m1 b hb
      have h3 := (hr a h1.1 h1.2.1).2 h1.2.2
      have h4 := (hr b h2.1 h2.2.1).1 h2.2.2
      exact hahead a b h1.1 h1.2.1 h2.1 h2.2.1 (by omega)
theorem loop1 (k c : Nat) (hk : 0 < k) (h26 : k ≤ 25) (hc : c < k) (x1 : Int) : ∀ (d j F : Nat), k - j = d → j ≤ k →
    erratumlaw06_OrderTwice.l0 (F + d) x1 (k : Int) (keys k c j) abc (c : Int) (j : Int) = erratumlaw06_OrderTwice.l0 F x1 (k : Int) (keys k c k) abc (c : Int) (k : Int)
  | 0, j, F, hd, hj => by
    obtain rfl : j = k := by omega
    rfl
  | d + 1, j, F, hd, hj => by
    have ih := loop1 k c hk h26 hc x1 d (j + 1) F (by omega) (by omega)
    have h26' : (abc.size : Int) = 26 := rfl
    have e1 : Int.tmod (wrap64 ((j : Int) + (c : Int))) (k : Int) = (rank k c j : Int) := by
      rw [w64 _ (by omega) (by omega)]
      unfold rank
      exact_mod_cast Int.tmod_eq_emod_of_nonneg (by omega : (0 : Int) ≤ (j : Int) + (c : Int))
    have hr : rank k c j < k := Nat.mod_lt _ hk
    have e2 : keys k c (j + 1) = keys k c j ++ [key k c j] := by simp [keys, List.range_succ]
    have e3 : ((rank k c j : Int) + 1).toNat = rank k c j + 1 := by omega
    rw [show F + (d + 1) = (F + d) + 1 from rfl, erratumlaw06_OrderTwice.l0, if_pos (by omega), if_neg (by omega), e1, w64 ((rank k c j : Int) + 1) (by omega) (by omega), if_pos (by omega), if_pos (by omega), if_pos (by rw [keys_length]; omega), w64 ((j : Int) + 1) (by omega) (by omega), e3]
    rw [e2] at ih
    exact_mod_cast ih
theorem loop2 (k c : Nat) (hk : 0 < k) (h26 : k ≤ 25) (hc : c < k) : ∀ (d j F : Nat), k - j = d → j ≤ k →
    erratumlaw06_OrderTwice.l1 (F + 5 + d) (k : Int) (c : Int) (turned k c) (j : Int) = some true
  | 0, j, F, hd, hj => by
    obtain rfl : j = k := by omega
    rw [show F + 5 + 0 = (F + 4) + 1 from rfl, erratumlaw06_OrderTwice.l1, if_neg (by omega), awake6 _ (by omega)]
    rfl
  | d + 1, j, F, hd, hj => by
    have ih := loop2 k c hk h26 hc d (j + 1) F (by omega) (by omega)
    have e1 : Int.tmod (wrap64 (wrap64 ((j : Int) + (k : Int)) - (c : Int))) (k : Int) = (((j + k - c) % k : Nat) : Int) := by
      rw [w64 ((j : Int) + k) (by omega) (by omega), w64 _ (by omega) (by omega), Int.tmod_eq_emod_of_nonneg (by omega)]
      have : (j : Int) + k - c = ((j + k - c : Nat) : Int) := by omega
      rw [this]
      rfl
    have e2 : rd (turned k c) (j : Int) = (((j + k - c) % k : Nat) : Int) := by
      rw [turned_get k c j hc (by omega)]
      by_cases h : j < c
      · rw [if_pos h, Nat.mod_eq_of_lt (by omega)]
      · rw [if_neg h, Nat.mod_eq_sub_mod (by omega), Nat.mod_eq_of_lt (by omega)]
        congr 1
        omega
    rw [show F + 5 + (d + 1) = (F + 5 + d) + 1 from rfl, erratumlaw06_OrderTwice.l1, if_pos (by omega), if_pos (by omega), if_pos (by rw [turned_length]; omega), if_neg (by omega), e1, e2, if_pos rfl, w64 ((j : Int) + 1) (by omega) (by omega)]
    exact_mod_cast ih
theorem all (a1 : Int) (k c : Nat) (hk : 0 < k) (h26 : k ≤ 25) (hc : c < k) : erratumlaw06_OrderTwice.l0 (100 + k) a1 (k : Int) [] abc (c : Int) 0 = some true := by
  have h := loop1 k c hk h26 hc a1 k 0 100 (by omega) (by omega)
  have e : keys k c 0 = [] := rfl
  rw [e] at h
  refine h.trans ?_
  obtain ⟨p, hp, hp0, hp1⟩ := place a1 (k : Int) (by omega) (by omega)
  have hst : erratumlaw00_Strings.f (keys k c k) = some (keys k c k) := by
    unfold erratumlaw00_Strings.f
    rw [if_pos (by rw [keys_length]; simp; omega)]
    rfl
  have ht := twice_yes k c p.toNat hk h26 (by omega)
  have h2 := loop2 k c hk h26 hc k 0 (93 - k) (by omega) (by omega)
  rw [show 93 - k + 5 + k = 98 by omega] at h2
  rw [show (100 : Nat) = 99 + 1 from rfl, erratumlaw06_OrderTwice.l0, if_neg (by omega), twice_no k c hk h26, hst, hp, sort_keys k c hk h26 hc]
  simp only [Option.bind_some]
  rw [if_pos hp0, if_pos (by rw [keys_length]; omega), if_pos (by rw [keys_length]; omega), keys_get' k c k p hp0 (by omega), ht]
  simp only [Option.bind_some]
  rw [if_pos (by rw [turned_length]), if_neg (by decide), if_pos trivial]
  have hne : ((k : Int) != (k : Int)) = false := by simp
  rw [hne, show (99 : Nat) = 98 + 1 from rfl, erratumlaw06_OrderTwice.j1, if_neg (by decide)]
  exact h2
end Twice
end Go.Proofs.Ytpamgedmgjfjjaa.Pure
end
section
namespace Go.Proofs.Ytpamgedmgjfjjaa.Pure.Objects
open Go.RowKit Go.Proofs.Ytpamgedmgjfjjaa.M Go.Proofs.YtpamgedmgjfjjaaW.PrintWords Go.Proofs.YtpamgedmgjfjjaaW.PrintLast Go.Proofs.YtpamgedmgjfjjaaW.PrintMore
set_option linter.unusedVariables false
theorem w64 (x : Int) (h0 : -9223372036854775808 ≤ x) (h1 : x ≤ 9223372036854775807) : wrap64 x = x := by
  unfold wrap64
  omega
theorem few_all (l : List ByteArray) : ∀ (d j F : Nat), 60 - j = d → j ≤ 60 → j ≤ l.length → ∃ r, erratumlaw06_few.l0 (F + 2 + 2 * d) l (j : Int) = some r ∧ (r = true → l.length ≤ 60 ∧ ∀ i, j ≤ i → i < l.length → (rdOf ByteArray.empty l (i : Int)).size ≤ 300)
  | d, j, F, hd, hj, hjl => by
    by_cases h1 : j < l.length
    · by_cases h2 : j < 60
      · obtain ⟨d2, rfl⟩ : ∃ d2, d = d2 + 1 := ⟨d - 1, by omega⟩
        rw [show F + 2 + 2 * (d2 + 1) = (F + 2 + 2 * d2 + 1) + 1 by omega, erratumlaw06_few.l0, if_pos (by omega), decide_eq_true (by omega), erratumlaw06_few.j1, if_pos rfl, if_pos (by omega), if_pos (by omega)]
        by_cases h3 : ((rdOf ByteArray.empty l (j : Int)).size : Int) > 300
        · rw [if_pos h3]
          exact ⟨false, rfl, fun h => by cases h⟩
        · rw [if_neg h3, w64 _ (by omega) (by omega)]
          obtain ⟨r, hr, hh⟩ := few_all l d2 (j + 1) F (by omega) (by omega) (by omega)
          refine ⟨r, hr, fun h => ⟨(hh h).1, fun i hi hl => ?_⟩⟩
          by_cases hij : i = j
          · subst hij; omega
          · exact (hh h).2 i (by omega) hl
      · rw [show F + 2 + 2 * d = (F + 2 * d + 1) + 1 by omega, erratumlaw06_few.l0, if_pos (by omega), decide_eq_false (by omega), erratumlaw06_few.j1, if_neg (by simp)]
        refine ⟨_, rfl, fun h => ?_⟩
        have := of_decide_eq_true h
        omega
    · rw [show F + 2 + 2 * d = (F + 2 * d + 1) + 1 by omega, erratumlaw06_few.l0, if_neg (by omega), erratumlaw06_few.j1, if_neg (by simp)]
      refine ⟨_, rfl, fun h => ⟨?_, fun i hi hl => by omega⟩⟩
      have := of_decide_eq_true h
      omega
def leafT (s : ByteArray) : S50 := ⟨4, false, ⟨false, [], 0⟩, s, [], []⟩
theorem rd_leaf (l : List ByteArray) (i : Int) (h0 : 0 ≤ i) (h1 : i < l.length) : rd_T50 (l.map leafT) i = leafT (rdOf ByteArray.empty l i) := by
  have h : i.toNat < l.length := by omega
  simp [rd_T50, rdOf, List.getD_eq_getElem?_getD, h]
theorem twice_dup : ∀ (r seen : List (List UInt8)) (i : Nat), (twiceL r seen i).2 = false → (∀ s ∈ r, s ∉ seen) ∧ r.Nodup
  | [], _, _, _ => ⟨fun _ h => by simp at h, List.nodup_nil⟩
  | s :: r, seen, i, h => by
    rw [twiceL] at h
    by_cases hs : s ∈ seen
    · rw [if_pos hs] at h; cases h
    · rw [if_neg hs] at h
      obtain ⟨h1, h2⟩ := twice_dup r (seen ++ [s]) (i + 1) h
      refine ⟨fun x hx => ?_, List.nodup_cons.2 ⟨fun hm => h1 s hm (by simp), h2⟩⟩
      rcases List.mem_cons.1 hx with rfl | hx
      · exact hs
      · exact fun hm => h1 x hx (by simp [hm])
theorem twice_iff (l : List (List UInt8)) : (twiceL l [] 0).2 = false ↔ l.Nodup :=
  ⟨fun h => (twice_dup l [] 0 h).2, fun h => by rw [Twice.twiceL_nodup l [] 0 (fun _ _ => by simp) h]⟩
def ks (l : List ByteArray) : List ByteArray := (sortF lessB l).map (rdOf ByteArray.empty l)
theorem idx_map (l : List ByteArray) : (idx l.length).map (rdOf ByteArray.empty l) = l := by
  apply List.ext_getElem
  · simp [idx]
  · intro i h1 h2
    simp [idx, rdOf, List.getD_eq_getElem?_getD, h2]
theorem ks_perm (l : List ByteArray) : (ks l).Perm l := by
  have h := (sortF_perm lessB l).map (rdOf ByteArray.empty l)
  rw [idx_map] at h
  exact h
theorem ks_length (l : List ByteArray) : (ks l).length = l.length := (ks_perm l).length_eq
theorem ba_ext (a b : ByteArray) (h : a.toList = b.toList) : a = b := by
  rw [ByteArray.toList_eq, ByteArray.toList_eq] at h
  cases a; cases b
  simp only [ByteArray.mk.injEq]
  exact Array.toList_inj.1 h
theorem ks_sorted (l : List ByteArray) (hl : l.length ≤ 1000000) (hn : (kbs l).Nodup) : (ks l).Pairwise fun a b => Op.bytesLess a.toList b.toList = true := by
  have h := sortF_ahead lessB l (weakB l) hl
  have hnd : l.Nodup := by
    unfold kbs at hn
    rw [List.Nodup, List.pairwise_map] at hn
    exact hn.imp (fun h e => h (by rw [e]))
  unfold ks
  rw [List.pairwise_map]
  have hmem : ∀ x ∈ sortF lessB l, 0 ≤ x ∧ x < l.length := fun x hx => mem_idx.1 ((sortF_perm lessB l).mem_iff.1 hx)
  refine List.Pairwise.imp_of_mem ?_ h
  intro i j hi hj ha
  obtain ⟨h1, h2⟩ := ha
  have hi' := hmem i hi
  have hj' := hmem j hj
  unfold ltOf lessB at h1 h2
  cases h3 : Op.bytesLess (rdOf ByteArray.empty l i).toList (rdOf ByteArray.empty l j).toList with
  | true => rfl
  | false =>
    exfalso
    have he := ba_ext _ _ (bl_tri _ _ h3 h1)
    rcases h2 with h2 | h2
    · rw [h3] at h2; cases h2
    · have a1 : i.toNat < l.length := by omega
      have a2 : j.toNat < l.length := by omega
      have e1 : l[i.toNat] = l[j.toNat] := by
        simpa [rdOf, List.getD_eq_getElem?_getD, a1, a2] using he
      have := (List.getElem_inj hnd).1 e1
      omega
theorem ks_turned (l m : List ByteArray) (hl : l.length ≤ 1000000) (hp : m.Perm l) (hn : (kbs l).Nodup) : ks m = ks l := by
  have hm : (kbs m).Nodup := (hp.map _).nodup_iff.2 hn
  refine List.Perm.eq_of_pairwise (le := fun a b => Op.bytesLess a.toList b.toList = true) (fun a b _ _ h1 h2 => ?_) (ks_sorted m (by rw [hp.length_eq]; exact hl) hm) (ks_sorted l hl hn) ((ks_perm m).trans (hp.trans (ks_perm l).symm))
  rw [bl_A _ _ h1] at h2
  cases h2
def objL (l : List ByteArray) : Int × Bool × Bool × List Int × Int × ByteArray × List ByteArray × (List S50) × Int × Bool :=
  if (twiceL (kbs l) [] 0).2 = true then (0, false, false, [], 0, ⟨#[]⟩, [], [], (twiceL (kbs l) [] 0).1, false)
  else (7, false, false, [], 0, ⟨#[]⟩, ks l, (ks l).map leafT, 0, true)
theorem obj_loop (l : List ByteArray) (hl : l.length ≤ 1000000) (t : List Int) (ht : t.length ≤ 1000000) (hm : ∀ x ∈ t, 0 ≤ x ∧ x < l.length) : ∀ (d j k : Nat), t.length - j = d → j ≤ t.length → d < k →
    order_Object.l0 k l (l.map leafT) t (t.length : Int) (j : Int) 7 false false 0 (⟨#[]⟩ : ByteArray) ((t.take j).map (rdOf ByteArray.empty l)) (((t.take j).map (rdOf ByteArray.empty l)).map leafT)
      = some (7, false, false, [], 0, ⟨#[]⟩, t.map (rdOf ByteArray.empty l), (t.map (rdOf ByteArray.empty l)).map leafT, 0, true)
  | d, j, 0, _, _, h => absurd h (by omega)
  | 0, j, k + 1, hd, hj, _ => by
    have e : j = t.length := by omega
    rw [order_Object.l0, if_neg (by omega), e, List.take_length]
  | d + 1, j, k + 1, hd, hj, h => by
    have hjt : j < t.length := by omega
    have hr : rd t (j : Int) = t[j] := by simp [rd, hjt]
    obtain ⟨h0, h1⟩ := hm t[j] (List.getElem_mem hjt)
    have ih := obj_loop l hl t ht hm d (j + 1) k (by omega) (by omega) (by omega)
    have hlen : ((t.take j).map (rdOf ByteArray.empty l)).length = j := by rw [List.length_map, List.length_take]; omega
    rw [order_Object.l0, if_pos (by omega), if_pos (by omega), if_pos (by omega), hr, if_pos h0, if_pos h1, if_pos (by rw [hlen]; omega), if_pos (by rw [List.length_map]; exact h1), if_pos (by rw [List.length_map, hlen]; omega), rd_leaf l _ h0 h1, w64 _ (by omega) (by omega)]
    have e : t.take (j + 1) = t.take j ++ [t[j]] := by rw [List.take_add_one, List.getElem?_eq_getElem hjt]; rfl
    rw [e, List.map_append, List.map_append] at ih
    exact ih
theorem obj_k (l : List ByteArray) (h1 : l.length ≤ 1000000) (h2 : l.all (fun s => decide (s.size ≤ 1000000)) = true) (k : Nat) (hk : l.length + 2 ≤ k) : order_Object.f k l (l.map leafT) = some (objL l) := by
  have hmn : mn (l.length : Int) ((l.map leafT).length : Int) = (l.length : Int) := by rw [List.length_map]; unfold mn; split <;> rfl
  have ht : order_Twice.f l = some (twiceL (kbs l) [] 0) := by unfold order_Twice.f; rw [if_pos ⟨h1, h2⟩]
  rw [order_Object.f, hmn, if_pos (by omega), if_pos (by omega), Int.toNat_natCast, List.take_length, ht, Option.bind_some, objL]
  by_cases hd : (twiceL (kbs l) [] 0).2 = true
  · rw [if_pos hd, if_pos hd]
  · rw [if_neg hd, if_neg hd]
    have hs : order_Sort.f l = some (sortF lessB l) := by unfold order_Sort.f; rw [if_pos h1]
    have hlen := sortF_length lessB l
    rw [hs, Option.bind_some]
    exact obj_loop l h1 (sortF lessB l) (by omega) (fun x hx => mem_idx.1 ((sortF_perm lessB l).mem_iff.1 hx)) l.length 0 k (by omega) (Nat.zero_le _) (by omega)
theorem same_leaf (s : ByteArray) (k : Nat) : erratumref05_Same.f (k + 2) 4 false false [] 0 s [] [] 4 false false [] 0 s [] [] = some true := by
  rw [erratumref05_Same.f, if_pos rfl, if_neg (by decide), if_neg (by decide), if_pos rfl, erratumref05_Same.j0, if_pos (by decide)]
  simp
theorem same_vals (K : List ByteArray) (hK : K.length ≤ 1000000) (n1 : Int) (b1 b2 : Bool) (m1 : List Int) (e1 : Int) (s1 : ByteArray) : ∀ (d j k : Nat), K.length - j = d → j ≤ K.length → d + 3 ≤ k →
    erratumref05_Same.l1 k (j : Int) n1 b1 b2 m1 e1 s1 K (K.map leafT) n1 b1 b2 m1 e1 s1 K (K.map leafT) = some true
  | d, j, 0, _, _, h => absurd h (by omega)
  | 0, j, k + 1, hd, hj, _ => by
    rw [erratumref05_Same.l1, if_neg (by rw [List.length_map]; omega)]
  | d + 1, j, k + 1, hd, hj, h => by
    obtain ⟨k', rfl⟩ : ∃ k', k = k' + 2 := ⟨k - 2, by omega⟩
    have ih := same_vals K hK n1 b1 b2 m1 e1 s1 d (j + 1) (k' + 2) (by omega) (by omega) (by omega)
    rw [erratumref05_Same.l1, if_pos (by rw [List.length_map]; omega), if_pos (by omega), if_pos (by rw [List.length_map]; omega), rd_leaf K _ (by omega) (by omega)]
    show (erratumref05_Same.f (k' + 2) 4 false false [] 0 (rdOf ByteArray.empty K (j : Int)) [] [] 4 false false [] 0 (rdOf ByteArray.empty K (j : Int)) [] []).bind _ = _
    rw [same_leaf, Option.bind_some, if_pos rfl, w64 _ (by omega) (by omega)]
    exact ih
theorem same_keys (K : List ByteArray) (hK : K.length ≤ 1000000) : ∀ (d j k : Nat), K.length - j = d → j ≤ K.length → 2 * d + K.length + 6 ≤ k →
    erratumref05_Same.l0 k (j : Int) 7 false false [] 0 ⟨#[]⟩ K (K.map leafT) 7 false false [] 0 ⟨#[]⟩ K (K.map leafT) = some true
  | d, j, 0, _, _, h => absurd h (by omega)
  | 0, j, k + 1, hd, hj, hk => by
    obtain ⟨k', rfl⟩ : ∃ k', k = k' + 1 := ⟨k - 1, by omega⟩
    rw [erratumref05_Same.l0, if_neg (by omega), erratumref05_Same.j4, if_neg (by simp)]
    exact same_vals K hK 7 false false [] 0 ⟨#[]⟩ K.length 0 k' (by omega) (by omega) (by omega)
  | d + 1, j, k + 1, hd, hj, hk => by
    obtain ⟨k', rfl⟩ : ∃ k', k = k' + 1 := ⟨k - 1, by omega⟩
    have ih := same_keys K hK d (j + 1) k' (by omega) (by omega) (by omega)
    rw [erratumref05_Same.l0, if_pos (by omega), erratumref05_Same.j4, if_pos (by decide), if_pos (by omega), if_pos (by omega), if_pos (by omega), if_pos rfl, w64 _ (by omega) (by omega)]
    exact ih
theorem same_obj (K : List ByteArray) (hK : K.length ≤ 1000000) (k : Nat) (hk : 3 * K.length + 20 ≤ k) : erratumref05_Same.f k 7 false false [] 0 ⟨#[]⟩ K (K.map leafT) 7 false false [] 0 ⟨#[]⟩ K (K.map leafT) = some true := by
  obtain ⟨k', rfl⟩ : ∃ k', k = k' + 4 := ⟨k - 4, by omega⟩
  rw [erratumref05_Same.f, if_pos rfl, if_neg (by decide), if_neg (by decide), if_neg (by decide), erratumref05_Same.j0, if_neg (by decide), if_neg (by decide), erratumref05_Same.j1, if_pos (by decide), if_pos rfl, if_pos rfl, erratumref05_Same.j2, if_neg (by simp)]
  exact same_keys K hK K.length 0 k' (by omega) (by omega) (by omega)
theorem law_l1 (l K : List ByteArray) (hl : l.length ≤ 60) (hK : K.length = l.length) (hp : K.Pairwise fun a b => Op.bytesLess a.toList b.toList = true) : ∀ (d j F : Nat), K.length - j = d → j ≤ K.length → d + 3 * K.length + 30 ≤ F →
    erratumlaw06_OrderObjects.l1 F l true (j : Int) 7 false false [] 0 ⟨#[]⟩ K (K.map leafT) 7 false false [] 0 ⟨#[]⟩ K (K.map leafT) = some true
  | d, j, 0, _, _, h => absurd h (by omega)
  | 0, j, F + 1, hd, hj, hF => by
    rw [erratumlaw06_OrderObjects.l1, if_neg (by omega), if_pos rfl, if_pos (by omega), same_obj K (by omega) F (by omega), Option.bind_some, if_pos rfl, Twice.awake6 F (by omega)]
    rfl
  | d + 1, j, F + 1, hd, hj, hF => by
    have ih := law_l1 l K hl hK hp d (j + 1) F (by omega) (by omega) (by omega)
    have hjK : j < K.length := by omega
    have hv : ((rd_T50 (K.map leafT) (j : Int)).f3).toList = (rdOf ByteArray.empty K (j : Int)).toList := by rw [rd_leaf K _ (by omega) (by omega)]; rfl
    rw [erratumlaw06_OrderObjects.l1, if_pos (by omega)]
    by_cases h0 : j = 0
    · subst h0
      rw [if_neg (by omega), if_neg (by rw [List.length_map]; omega), if_pos (by omega), if_pos (by rw [List.length_map]; omega), if_pos hv, w64 _ (by omega) (by omega)]
      exact ih
    · have e1 : wrap64 ((j : Int) - 1) = ((j - 1 : Nat) : Int) := by rw [w64 _ (by omega) (by omega)]; omega
      have hs : Op.bytesLess (rdOf ByteArray.empty K ((j - 1 : Nat) : Int)).toList (rdOf ByteArray.empty K (j : Int)).toList = true := by
        have h := List.pairwise_iff_getElem.1 hp (j - 1) j (by omega) hjK (by omega)
        have a1 : j - 1 < K.length := by omega
        simpa [rdOf, List.getD_eq_getElem?_getD, a1, hjK] using h
      rw [if_pos (by omega), if_pos (by omega), e1, if_pos (by omega), if_pos (by omega), if_pos hs, if_neg (by rw [List.length_map]; omega), if_pos (by rw [List.length_map]; omega), if_pos hv, w64 _ (by omega) (by omega)]
      exact ih
theorem law_tail (l : List ByteArray) (p : Nat) (hl : l.length ≤ 60) (hs : l.all (fun s => decide (s.size ≤ 1000000)) = true) (hp : p ≤ l.length) (F : Nat) (hF : 500 ≤ F) :
    erratumlaw06_OrderObjects.l0 F l (l.map leafT) (p : Int) (l.length : Int) = some true := by
  obtain ⟨k, rfl⟩ : ∃ k, F = k + 2 := ⟨F - 2, by omega⟩
  have hperm : (l.drop p ++ l.take p).Perm l := List.perm_append_comm.trans (by rw [List.take_append_drop])
  have hml : (l.drop p ++ l.take p).length = l.length := hperm.length_eq
  have hms : (l.drop p ++ l.take p).all (fun s => decide (s.size ≤ 1000000)) = true := by
    rw [List.all_eq_true] at hs ⊢
    exact fun x hx => hs x (hperm.mem_iff.1 hx)
  have ht : order_Twice.f l = some (twiceL (kbs l) [] 0) := by unfold order_Twice.f; rw [if_pos ⟨by omega, hs⟩]
  have hA := obj_k l (by omega) hs (k + 1) (by omega)
  have hB := obj_k (l.drop p ++ l.take p) (by omega) hms (k + 1) (by omega)
  have hmap : ([] ++ (l.map leafT).drop p) ++ (l.map leafT).take p = (l.drop p ++ l.take p).map leafT := by rw [List.map_append, List.map_drop, List.map_take]; rfl
  rw [erratumlaw06_OrderObjects.l0, if_neg (by omega), if_pos (by omega), if_pos (by omega), Int.toNat_natCast, Option.bind_some, if_pos (by simp only [List.length_nil, List.length_drop]; omega), Option.bind_some, Option.bind_some,
    if_pos (by simp only [List.nil_append, List.length_drop, List.length_take]; omega), if_pos (by rw [List.length_map]; omega), Option.bind_some, if_pos (by simp only [List.length_nil, List.length_drop, List.length_map]; omega), Option.bind_some, Option.bind_some,
    if_pos (by simp only [List.nil_append, List.length_drop, List.length_take, List.length_map]; omega), hA, Option.bind_some, hmap, List.nil_append, hB, Option.bind_some, ht, Option.bind_some]
  by_cases hn : (kbs l).Nodup
  · have hn2 : (kbs (l.drop p ++ l.take p)).Nodup := (hperm.map _).nodup_iff.2 hn
    have t1 : twiceL (kbs l) [] 0 = (0, false) := Twice.twiceL_nodup _ _ _ (fun _ _ => by simp) hn
    have o1 : objL l = (7, false, false, [], 0, ⟨#[]⟩, ks l, (ks l).map leafT, 0, true) := by rw [objL, t1, if_neg (by simp)]
    have o2 : objL (l.drop p ++ l.take p) = (7, false, false, [], 0, ⟨#[]⟩, ks l, (ks l).map leafT, 0, true) := by
      rw [objL, if_neg (by rw [(twice_iff _).2 hn2]; simp), ks_turned l _ (by omega) hperm hn]
    rw [o1, o2, t1]
    show (if (true != true) = true then _ else (if (true == false) = true then _ else erratumlaw06_OrderObjects.j1 (k + 1) l true ((0 : Int) != 0) 7 false false [] 0 ⟨#[]⟩ (ks l) ((ks l).map leafT) 7 false false [] 0 ⟨#[]⟩ (ks l) ((ks l).map leafT))) = some true
    rw [if_neg (by decide), if_neg (by decide), erratumlaw06_OrderObjects.j1, if_neg (by decide)]
    exact law_l1 l (ks l) hl (ks_length l) (ks_sorted l (by omega) hn) (ks l).length 0 k (by omega) (Nat.zero_le _) (by rw [ks_length]; omega)
  · have hn2 : ¬ (kbs (l.drop p ++ l.take p)).Nodup := fun h => hn ((hperm.map _).nodup_iff.1 h)
    have t1 : (twiceL (kbs l) [] 0).2 = true := by
      cases h : (twiceL (kbs l) [] 0).2
      · exact absurd ((twice_iff _).1 h) hn
      · rfl
    have t2 : (twiceL (kbs (l.drop p ++ l.take p)) [] 0).2 = true := by
      cases h : (twiceL (kbs (l.drop p ++ l.take p)) [] 0).2
      · exact absurd ((twice_iff _).1 h) hn2
      · rfl
    have o1 : objL l = (0, false, false, [], 0, ⟨#[]⟩, [], [], (twiceL (kbs l) [] 0).1, false) := by rw [objL, if_pos t1]
    have o2 : objL (l.drop p ++ l.take p) = (0, false, false, [], 0, ⟨#[]⟩, [], [], (twiceL (kbs (l.drop p ++ l.take p)) [] 0).1, false) := by rw [objL, if_pos t2]
    rw [o1, o2, t1]
    show (if (false != false) = true then _ else (if (false == true) = true then _ else erratumlaw06_OrderObjects.j1 (k + 1) l false ((twiceL (kbs l) [] 0).1 != (twiceL (kbs l) [] 0).1) 0 false false [] 0 ⟨#[]⟩ [] [] 0 false false [] 0 ⟨#[]⟩ [] [])) = some true
    rw [if_neg (by decide), if_neg (by decide), bne_self_eq_false, erratumlaw06_OrderObjects.j1, if_neg (by decide)]
    obtain ⟨k', rfl⟩ : ∃ k', k = k' + 1 := ⟨k - 1, by omega⟩
    rw [erratumlaw06_OrderObjects.l1, if_neg (by simp), if_neg (by decide), Twice.awake6 k' (by omega)]
    rfl
theorem law_loop (l : List ByteArray) (p : Nat) (hl : l.length ≤ 60) (hs : l.all (fun s => decide (s.size ≤ 1000000)) = true) (hp : p ≤ l.length) : ∀ (d j F : Nat), l.length - j = d → j ≤ l.length → 500 + d ≤ F →
    erratumlaw06_OrderObjects.l0 F l ((l.take j).map leafT) (p : Int) (j : Int) = some true
  | 0, j, F, hd, hj, hF => by
    have e : j = l.length := by omega
    subst e
    rw [List.take_length]
    exact law_tail l p hl hs hp F (by omega)
  | d + 1, j, 0, hd, hj, hF => by omega
  | d + 1, j, F + 1, hd, hj, hF => by
    have hjl : j < l.length := by omega
    have ih := law_loop l p hl hs hp d (j + 1) F (by omega) (by omega) (by omega)
    have hr : rdOf ByteArray.empty l (j : Int) = l[j] := by simp [rdOf, List.getD_eq_getElem?_getD, hjl]
    have e : l.take (j + 1) = l.take j ++ [l[j]] := by rw [List.take_add_one, List.getElem?_eq_getElem hjl]; rfl
    rw [e, List.map_append] at ih
    rw [erratumlaw06_OrderObjects.l0, if_pos (by omega), if_pos (by omega), if_pos (by simp only [List.length_map, List.length_take]; omega), hr, w64 _ (by omega) (by omega)]
    exact ih
theorem Objects (l : List ByteArray) (a1 : Int) : erratumlaw06_OrderObjects.f 1000 l a1 = some true := by
  obtain ⟨r, hr, hh⟩ := few_all l 60 0 878 rfl (by omega) (by omega)
  have hf : erratumlaw06_few.f 1000 l = some r := hr
  rw [erratumlaw06_OrderObjects.f, hf, Option.bind_some]
  cases r with
  | false => rw [if_neg (by simp), Twice.awake6 1000 (by decide)]; rfl
  | true =>
    obtain ⟨h60, hsz⟩ := hh rfl
    rw [if_pos rfl, w64 _ (by omega) (by omega)]
    obtain ⟨p, hp, hp0, hp1⟩ := Twice.place a1 ((l.length : Int) + 1) (by omega) (by omega)
    rw [hp, Option.bind_some]
    obtain ⟨q, rfl⟩ : ∃ q : Nat, p = q := ⟨p.toNat, by omega⟩
    refine law_loop l q h60 ?_ (by omega) l.length 0 1000 (by omega) (Nat.zero_le _) (by omega)
    rw [List.all_eq_true]
    intro s hs
    obtain ⟨i, hi, rfl⟩ := List.mem_iff_getElem.1 hs
    have := hsz i (Nat.zero_le _) hi
    have e : rdOf ByteArray.empty l (i : Int) = l[i] := by simp [rdOf, List.getD_eq_getElem?_getD, hi]
    rw [e] at this
    exact decide_eq_true (by omega)
end Go.Proofs.Ytpamgedmgjfjjaa.Pure.Objects
end
