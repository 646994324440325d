/-
OrderTwice: keys that are all unlike, and one of them once more at the end. For every input.
-/
import Derived.Test.YtpamgedmgjfjjaaM9
import Derived.Test.YtpamgedmgjfjjaaXOrder
namespace Go.Proofs.Ytpamgedmgjfjjaa.Pure
open Go.RowKit Go.Proofs.Ytpamgedmgjfjjaa.M Go.Proofs.YtpamgedmgjfjjaaW.PrintWords Go.Proofs.YtpamgedmgjfjjaaW.PrintLast Go.Proofs.YtpamgedmgjfjjaaW.PrintMore
set_option linter.unusedVariables false
set_option linter.unusedSimpArgs false

namespace Twice
theorem w64 (x : Int) (h0 : -9223372036854775808 ≤ x) (h1 : x ≤ 9223372036854775807) : wrap64 x = x := by
  unfold wrap64
  omega
theorem place (a n : Int) (h0 : 0 < n) (h1 : n ≤ 1000000) : ∃ r, erratumlaw00_Place.f a n = some r ∧ 0 ≤ r ∧ r < n := by
  unfold erratumlaw00_Place.f
  have hb := Int.tmod_lt_of_pos a h0
  have hc : -n < Int.tmod a n := by
    have := Int.tmod_lt_of_pos (-a) h0
    rw [Int.neg_tmod] at this
    omega
  rw [if_neg (by omega)]
  split
  · refine ⟨_, rfl, ?_⟩
    unfold wrap64
    omega
  · exact ⟨_, rfl, by omega, hb⟩
/-! ### The document's example -/
theorem ba (b : UInt8) : (⟨#[b]⟩ : ByteArray).toList = [b] := by rw [ByteArray.toList_eq]
theorem ba2 (a b : UInt8) : (⟨#[a, b]⟩ : ByteArray).toList = [a, b] := by rw [ByteArray.toList_eq]
theorem ex_sort : order_Sort.f [(⟨#[98]⟩ : ByteArray), (⟨#[97]⟩ : ByteArray), (⟨#[98]⟩ : ByteArray)] = some [1, 0, 2] := by
  unfold order_Sort.f
  rw [if_pos (by decide)]
  congr 1
  refine sortF_unique lessB _ (weakB _) (by decide) _ (by decide) ?_
  simp [Ahead, ltOf, lessB, rdOf, ba]
  decide
theorem ex_cbor : order_CBOR.f [(⟨#[98, 98]⟩ : ByteArray), (⟨#[99]⟩ : ByteArray)] = some [1, 0] := by
  unfold order_CBOR.f
  rw [if_pos (by decide)]
  congr 1
  refine sortF_unique lessC _ (weakC _) (by decide) _ (by decide) ?_
  refine List.pairwise_cons.2 ⟨fun z hz => ?_, by simp⟩
  obtain rfl := List.mem_singleton.1 hz
  unfold Ahead ltOf
  rw [lessC_eq, lessC_eq]
  decide
theorem ints_same (l : List Int) (hl : l.length ≤ 1000000) : ∀ (d j k : Nat), l.length - j = d → j ≤ l.length → d < k → erratumlaw00_SameInts.l0 k l l j = some true
  | d, j, 0, _, _, h => absurd h (by omega)
  | 0, j, k + 1, hd, hj, _ => by
    rw [erratumlaw00_SameInts.l0, if_neg (by omega)]
  | d + 1, j, k + 1, hd, hj, h => by
    have := ints_same l hl d (j + 1) k (by omega) (by omega) (by omega)
    rw [erratumlaw00_SameInts.l0, if_pos (by omega), if_pos (by omega), if_pos (by omega), if_pos rfl, w64 _ (by omega) (by omega)]
    exact_mod_cast this
theorem awake6 (k : Nat) (hk : 4 ≤ k) : erratumlaw06_awake.f k = some true := by
  unfold erratumlaw06_awake.f
  have h1 := ints_same [1, 0, 2] (by decide) 3 0 k rfl (by decide) (by omega)
  have h2 := ints_same [1, 0] (by decide) 2 0 k rfl (by decide) (by omega)
  have h3 : order_Less.f (⟨#[97]⟩ : ByteArray) (⟨#[97, 98]⟩ : ByteArray) = some true := by
    unfold order_Less.f
    rw [ba, ba2]
    decide
  rw [ex_sort, ex_cbor, h3]
  simp only [Option.bind_some, erratumlaw00_SameInts.f, if_pos]
  have h1' : erratumlaw00_SameInts.l0 k [1, 0, 2] [1, 0, 2] 0 = some true := h1
  have h2' : erratumlaw00_SameInts.l0 k [1, 0] [1, 0] 0 = some true := h2
  rw [h1', h2']
  simp
/-! ### Twice -/
theorem twiceL_nodup : ∀ (r seen : List (List UInt8)) (i : Nat), (∀ s ∈ r, s ∉ seen) → r.Nodup → twiceL r seen i = (0, false)
  | [], _, _, _, _ => rfl
  | s :: r, seen, i, h, hn => by
    rw [twiceL, if_neg (h s List.mem_cons_self)]
    have hn1 := List.nodup_cons.1 hn
    refine twiceL_nodup r _ _ (fun t ht => ?_) hn1.2
    rw [List.mem_append]
    rintro (h2 | h2)
    · exact h t (List.mem_cons_of_mem _ ht) h2
    · rw [List.mem_singleton] at h2
      subst h2
      exact hn1.1 ht
theorem twiceL_app : ∀ (r seen : List (List UInt8)) (i : Nat) (x : List UInt8), (∀ s ∈ r, s ∉ seen) → r.Nodup → x ∈ seen ++ r → twiceL (r ++ [x]) seen i = (((i + r.length : Nat) : Int), true)
  | [], seen, i, x, _, _, hx => by
    rw [List.append_nil] at hx
    simp [twiceL, hx]
  | s :: r, seen, i, x, h, hn, hx => by
    have hn1 := List.nodup_cons.1 hn
    rw [List.cons_append, twiceL, if_neg (h s List.mem_cons_self), twiceL_app r _ _ x (fun t ht => ?_) hn1.2 (by simpa using hx)]
    · simp only [List.length_cons]
      congr 2
      omega
    · rw [List.mem_append]
      rintro (h2 | h2)
      · exact h t (List.mem_cons_of_mem _ ht) h2
      · rw [List.mem_singleton] at h2
        subst h2
        exact hn1.1 ht
/-! ### The keys -/
def abc : ByteArray := ⟨#[97, 98, 99, 100, 101, 102, 103, 104, 105, 106, 107, 108, 109, 110, 111, 112, 113, 114, 115, 116, 117, 118, 119, 120, 121, 122]⟩
def rank (k c i : Nat) : Nat := (i + c) % k
def key (k c i : Nat) : ByteArray := abc.extract 0 (rank k c i + 1)
def keys (k c j : Nat) : List ByteArray := (List.range j).map (key k c)
theorem key_list (k c i : Nat) (hk : 0 < k) (h26 : k ≤ 25) : (key k c i).data.toList = abc.data.toList.take (rank k c i + 1) := by
  have h : rank k c i < k := Nat.mod_lt _ hk
  have hx : ∀ n, n ≤ 26 → (abc.extract 0 n).data.toList = abc.data.toList.take n := by decide
  exact hx _ (by omega)
theorem take_less : ∀ (s : List UInt8) (a b : Nat), a < b → b ≤ s.length → Op.bytesLess (s.take a) (s.take b) = true
  | [], a, b, h, h2 => absurd h2 (by simp; omega)
  | x :: s, 0, b + 1, h, h2 => rfl
  | x :: s, a + 1, b + 1, h, h2 => by
    rw [List.take_succ_cons, List.take_succ_cons, bl_step]
    exact .inr ⟨rfl, take_less s a b (by omega) (by simpa using h2)⟩
theorem key_less (k c : Nat) (hk : 0 < k) (h26 : k ≤ 25) (i j : Nat) (h : rank k c i < rank k c j) : lessB (key k c i) (key k c j) = true := by
  unfold lessB
  rw [ByteArray.toList_eq, ByteArray.toList_eq, key_list k c i hk h26, key_list k c j hk h26]
  have h2 : rank k c j < k := Nat.mod_lt _ hk
  refine take_less _ _ _ (by omega) ?_
  show _ ≤ 26
  omega
theorem rank_inj (k c i j : Nat) (hi : i < k) (hj : j < k) (h : rank k c i = rank k c j) : i = j := by
  unfold rank at h
  have h1 := Nat.div_add_mod (i + c) k
  have h2 := Nat.div_add_mod (j + c) k
  rw [h] at h1
  have h3 : (i + c) / k = (j + c) / k := by
    rcases Nat.lt_trichotomy ((i + c) / k) ((j + c) / k) with h4 | h4 | h4
    · have := Nat.mul_le_mul_left k (Nat.succ_le_of_lt h4)
      rw [Nat.mul_succ] at this
      omega
    · exact h4
    · have := Nat.mul_le_mul_left k (Nat.succ_le_of_lt h4)
      rw [Nat.mul_succ] at this
      omega
  rw [h3] at h1
  omega
theorem kbs_keys (k c j : Nat) (hk : 0 < k) (h26 : k ≤ 25) : kbs (keys k c j) = (List.range j).map fun i => abc.data.toList.take (rank k c i + 1) := by
  unfold kbs keys
  rw [List.map_map]
  exact List.map_congr_left fun i _ => key_list k c i hk h26
theorem nodup_keys (k c : Nat) (hk : 0 < k) (h26 : k ≤ 25) : (kbs (keys k c k)).Nodup := by
  rw [kbs_keys k c k hk h26]
  unfold List.Nodup
  rw [List.pairwise_map]
  refine (List.pairwise_lt_range).imp_of_mem ?_
  intro a b ha hb hab he
  rw [List.mem_range] at ha hb
  have h1 : rank k c a < k := Nat.mod_lt _ hk
  have h2 : rank k c b < k := Nat.mod_lt _ hk
  have h3 := congrArg List.length he
  have h4 : abc.data.toList.length = 26 := rfl
  rw [List.length_take, List.length_take, h4] at h3
  have := rank_inj k c a b ha hb (by omega)
  omega
theorem keys_length (k c j : Nat) : (keys k c j).length = j := by simp [keys]
theorem keys_size (k c j : Nat) (hk : 0 < k) (h26 : k ≤ 25) : ∀ s ∈ keys k c j, s.size ≤ 1000000 := by
  intro s hs
  obtain ⟨i, hi, rfl⟩ := List.mem_map.1 hs
  have h := key_list k c i hk h26
  have h2 := congrArg List.length h
  rw [List.length_take] at h2
  have : (key k c i).size = (key k c i).data.toList.length := by rw [Array.length_toList]; rfl
  rw [this, h2]
  have : abc.data.toList.length = 26 := rfl
  omega
theorem keys_get (k c j i : Nat) (h : i < j) : rdOf ByteArray.empty (keys k c j) (i : Int) = key k c i := by
  simp [rdOf, keys, List.getD_eq_getElem?_getD, h]
theorem keys_get' (k c j : Nat) (i : Int) (h0 : 0 ≤ i) (h : i < j) : rdOf ByteArray.empty (keys k c j) i = key k c i.toNat := by
  obtain ⟨m, rfl⟩ := Int.eq_ofNat_of_zero_le h0
  exact keys_get k c j m (by omega)
theorem twice_no (k c : Nat) (hk : 0 < k) (h26 : k ≤ 25) : order_Twice.f (keys k c k) = some (0, false) := by
  unfold order_Twice.f
  rw [if_pos ⟨by rw [keys_length]; omega, by rw [List.all_eq_true]; exact fun s hs => by simpa using keys_size k c k hk h26 s hs⟩, twiceL_nodup _ _ _ (by simp) (nodup_keys k c hk h26)]
theorem twice_yes (k c p : Nat) (hk : 0 < k) (h26 : k ≤ 25) (hp : p < k) : order_Twice.f (keys k c k ++ [key k c p]) = some ((k : Int), true) := by
  have hm : key k c p ∈ keys k c k := List.mem_map.2 ⟨p, List.mem_range.2 hp, rfl⟩
  unfold order_Twice.f
  rw [if_pos ⟨by rw [List.length_append, keys_length]; simp; omega, by
    rw [List.all_eq_true]
    intro s hs
    rcases List.mem_append.1 hs with h | h
    · simpa using keys_size k c k hk h26 s h
    · obtain rfl := List.mem_singleton.1 h
      simpa using keys_size k c k hk h26 _ hm⟩]
  have : kbs (keys k c k ++ [key k c p]) = kbs (keys k c k) ++ [(key k c p).data.toList] := by simp [kbs]
  rw [this, twiceL_app _ _ _ _ (by simp) (nodup_keys k c hk h26) (by
    rw [List.nil_append]
    exact List.mem_map.2 ⟨_, hm, rfl⟩), kbs_length, keys_length]
  simp
/-! ### The places in order -/
def turned (k c : Nat) : List Int := (idx k).drop (k - c) ++ (idx k).take (k - c)
theorem idx_get (n i : Nat) (h : i < n) : (idx n)[i]'(by rw [idx_length]; exact h) = (i : Int) := by simp [idx]
theorem turned_length (k c : Nat) : (turned k c).length = k := by
  unfold turned
  rw [List.length_append, List.length_drop, List.length_take, idx_length]
  omega
theorem turned_get (k c i : Nat) (hc : c < k) (hi : i < k) : rd (turned k c) (i : Int) = if i < c then ((i + k - c : Nat) : Int) else ((i - c : Nat) : Int) := by
  unfold rd turned
  rw [List.getD_eq_getElem?_getD, Int.toNat_natCast]
  by_cases h : i < c
  · rw [if_pos h, List.getElem?_append_left (by rw [List.length_drop, idx_length]; omega), List.getElem?_drop, List.getElem?_eq_getElem (by rw [idx_length]; omega), Option.getD_some, idx_get _ _ (by omega)]
    congr 1
    omega
  · rw [if_neg h, List.getElem?_append_right (by rw [List.length_drop, idx_length]; omega), List.length_drop, idx_length, List.getElem?_take_of_lt (by omega), List.getElem?_eq_getElem (by rw [idx_length]; omega), Option.getD_some, idx_get _ _ (by omega)]
    congr 1
    omega
theorem sort_keys (k c : Nat) (hk : 0 < k) (h26 : k ≤ 25) (hc : c < k) : order_Sort.f (keys k c k) = some (turned k c) := by
  unfold order_Sort.f
  rw [if_pos (by rw [keys_length]; omega)]
  congr 1
  have hahead : ∀ a b : Int, 0 ≤ a → a < k → 0 ≤ b → b < k → rank k c a.toNat < rank k c b.toNat → Ahead (ltOf lessB (keys k c k)) a b := by
    intro a b ha ha' hb hb' h
    have h1 : ltOf lessB (keys k c k) a b = true := by
      unfold ltOf
      rw [keys_get' k c k a ha ha', keys_get' k c k b hb hb']
      exact key_less k c hk h26 _ _ h
    exact ⟨(weakB _).A _ _ h1, .inl h1⟩
  have hr : ∀ a : Int, 0 ≤ a → a < k → (a < k - c → (rank k c a.toNat : Int) = a + c) ∧ (¬ a < k - c → (rank k c a.toNat : Int) = a + c - k) := by
    intro a h0 h1
    unfold rank
    constructor
    · intro h2
      rw [Nat.mod_eq_of_lt (by omega)]
      omega
    · intro h2
      rw [Nat.mod_eq_sub_mod (by omega), Nat.mod_eq_of_lt (by omega)]
      omega
  refine sortF_unique lessB _ (weakB _) (by rw [keys_length]; omega) _ ?_ ?_
  · rw [keys_length]
    unfold turned
    exact (List.perm_append_comm).trans (by rw [List.take_append_drop])
  · unfold turned
    have hsplit := idx_lt k
    rw [← List.take_append_drop (k - c) (idx k), List.pairwise_append] at hsplit
    have m1 : ∀ x ∈ (idx k).take (k - c), 0 ≤ x ∧ x < k ∧ x < k - c := by
      intro x hx
      have h1 := mem_idx.1 (List.mem_of_mem_take hx)
      obtain ⟨i, hi, rfl⟩ := List.getElem_of_mem hx
      rw [List.length_take, idx_length] at hi
      rw [List.getElem_take, idx_get _ _ (by omega)] at h1 ⊢
      omega
    have m2 : ∀ x ∈ (idx k).drop (k - c), 0 ≤ x ∧ x < k ∧ ¬ x < k - c := by
      intro x hx
      have h1 := mem_idx.1 (List.mem_of_mem_drop hx)
      obtain ⟨i, hi, rfl⟩ := List.getElem_of_mem hx
      rw [List.length_drop, idx_length] at hi
      rw [List.getElem_drop, idx_get _ _ (by omega)] at h1 ⊢
      omega
    rw [List.pairwise_append]
    refine ⟨hsplit.2.1.imp_of_mem ?_, hsplit.1.imp_of_mem ?_, ?_⟩
    · intro a b ha hb hab
      have h1 := m2 a ha
      have h2 := m2 b hb
      have h3 := (hr a h1.1 h1.2.1).2 h1.2.2
      have h4 := (hr b h2.1 h2.2.1).2 h2.2.2
      exact hahead a b h1.1 h1.2.1 h2.1 h2.2.1 (by omega)
    · intro a b ha hb hab
      have h1 := m1 a ha
      have h2 := m1 b hb
      have h3 := (hr a h1.1 h1.2.1).1 h1.2.2
      have h4 := (hr b h2.1 h2.2.1).1 h2.2.2
      exact hahead a b h1.1 h1.2.1 h2.1 h2.2.1 (by omega)
    · intro a ha b hb
      have h1 := m2 a ha
      have h2 := m1 b hb
      have h3 := (hr a h1.1 h1.2.1).2 h1.2.2
      have h4 := (hr b h2.1 h2.2.1).1 h2.2.2
      exact hahead a b h1.1 h1.2.1 h2.1 h2.2.1 (by omega)
/-! ### The loops -/
theorem loop1 (k c : Nat) (hk : 0 < k) (h26 : k ≤ 25) (hc : c < k) (x1 : Int) : ∀ (d j F : Nat), k - j = d → j ≤ k →
    erratumlaw06_OrderTwice.l0 (F + d) x1 (k : Int) (keys k c j) abc (c : Int) (j : Int) = erratumlaw06_OrderTwice.l0 F x1 (k : Int) (keys k c k) abc (c : Int) (k : Int)
  | 0, j, F, hd, hj => by
    obtain rfl : j = k := by omega
    rfl
  | d + 1, j, F, hd, hj => by
    have ih := loop1 k c hk h26 hc x1 d (j + 1) F (by omega) (by omega)
    have h26' : (abc.size : Int) = 26 := rfl
    have e1 : Int.tmod (wrap64 ((j : Int) + (c : Int))) (k : Int) = (rank k c j : Int) := by
      rw [w64 _ (by omega) (by omega)]
      unfold rank
      exact_mod_cast Int.tmod_eq_emod_of_nonneg (by omega : (0 : Int) ≤ (j : Int) + (c : Int))
    have hr : rank k c j < k := Nat.mod_lt _ hk
    have e2 : keys k c (j + 1) = keys k c j ++ [key k c j] := by simp [keys, List.range_succ]
    have e3 : ((rank k c j : Int) + 1).toNat = rank k c j + 1 := by omega
    rw [show F + (d + 1) = (F + d) + 1 from rfl, erratumlaw06_OrderTwice.l0, if_pos (by omega), if_neg (by omega), e1, w64 ((rank k c j : Int) + 1) (by omega) (by omega), if_pos (by omega), if_pos (by omega), if_pos (by rw [keys_length]; omega), w64 ((j : Int) + 1) (by omega) (by omega), e3]
    rw [e2] at ih
    exact_mod_cast ih
theorem loop2 (k c : Nat) (hk : 0 < k) (h26 : k ≤ 25) (hc : c < k) : ∀ (d j F : Nat), k - j = d → j ≤ k →
    erratumlaw06_OrderTwice.l1 (F + 5 + d) (k : Int) (c : Int) (turned k c) (j : Int) = some true
  | 0, j, F, hd, hj => by
    obtain rfl : j = k := by omega
    rw [show F + 5 + 0 = (F + 4) + 1 from rfl, erratumlaw06_OrderTwice.l1, if_neg (by omega), awake6 _ (by omega)]
    rfl
  | d + 1, j, F, hd, hj => by
    have ih := loop2 k c hk h26 hc d (j + 1) F (by omega) (by omega)
    have e1 : Int.tmod (wrap64 (wrap64 ((j : Int) + (k : Int)) - (c : Int))) (k : Int) = (((j + k - c) % k : Nat) : Int) := by
      rw [w64 ((j : Int) + k) (by omega) (by omega), w64 _ (by omega) (by omega), Int.tmod_eq_emod_of_nonneg (by omega)]
      have : (j : Int) + k - c = ((j + k - c : Nat) : Int) := by omega
      rw [this]
      rfl
    have e2 : rd (turned k c) (j : Int) = (((j + k - c) % k : Nat) : Int) := by
      rw [turned_get k c j hc (by omega)]
      by_cases h : j < c
      · rw [if_pos h, Nat.mod_eq_of_lt (by omega)]
      · rw [if_neg h, Nat.mod_eq_sub_mod (by omega), Nat.mod_eq_of_lt (by omega)]
        congr 1
        omega
    rw [show F + 5 + (d + 1) = (F + 5 + d) + 1 from rfl, erratumlaw06_OrderTwice.l1, if_pos (by omega), if_pos (by omega), if_pos (by rw [turned_length]; omega), if_neg (by omega), e1, e2, if_pos rfl, w64 ((j : Int) + 1) (by omega) (by omega)]
    exact_mod_cast ih
theorem all (a1 : Int) (k c : Nat) (hk : 0 < k) (h26 : k ≤ 25) (hc : c < k) : erratumlaw06_OrderTwice.l0 (100 + k) a1 (k : Int) [] abc (c : Int) 0 = some true := by
  have h := loop1 k c hk h26 hc a1 k 0 100 (by omega) (by omega)
  have e : keys k c 0 = [] := rfl
  rw [e] at h
  refine h.trans ?_
  obtain ⟨p, hp, hp0, hp1⟩ := place a1 (k : Int) (by omega) (by omega)
  have hst : erratumlaw00_Strings.f (keys k c k) = some (keys k c k) := by
    unfold erratumlaw00_Strings.f
    rw [if_pos (by rw [keys_length]; simp; omega)]
    rfl
  have ht := twice_yes k c p.toNat hk h26 (by omega)
  have h2 := loop2 k c hk h26 hc k 0 (93 - k) (by omega) (by omega)
  rw [show 93 - k + 5 + k = 98 by omega] at h2
  rw [show (100 : Nat) = 99 + 1 from rfl, erratumlaw06_OrderTwice.l0, if_neg (by omega), twice_no k c hk h26, hst, hp, sort_keys k c hk h26 hc]
  simp only [Option.bind_some]
  rw [if_pos hp0, if_pos (by rw [keys_length]; omega), if_pos (by rw [keys_length]; omega), keys_get' k c k p hp0 (by omega), ht]
  simp only [Option.bind_some]
  rw [if_pos (by rw [turned_length]), if_neg (by decide), if_pos trivial]
  have hne : ((k : Int) != (k : Int)) = false := by simp
  rw [hne, show (99 : Nat) = 98 + 1 from rfl, erratumlaw06_OrderTwice.j1, if_neg (by decide)]
  exact h2
end Twice
theorem OrderTwice : erratumlaw06_OrderTwice.Pure := by
  intro a0 a1 a2 w0 w1 w2
  obtain ⟨n, hn, hn0, hn1⟩ := Twice.place a0 25 (by decide) (by decide)
  have e : wrap64 (1 + n) = ((n.toNat + 1 : Nat) : Int) := by
    rw [Twice.w64 _ (by omega) (by omega)]
    omega
  obtain ⟨c, hc, hc0, hc1⟩ := Twice.place a2 ((n.toNat + 1 : Nat) : Int) (by omega) (by omega)
  have ec : c = (c.toNat : Int) := by omega
  refine ⟨100 + (n.toNat + 1), ?_⟩
  unfold erratumlaw06_OrderTwice.f
  rw [hn]
  simp only [Option.bind_some]
  rw [e, hc]
  simp only [Option.bind_some]
  rw [ec]
  exact Twice.all a1 (n.toNat + 1) c.toNat (by omega) (by omega) (by omega)
end Go.Proofs.Ytpamgedmgjfjjaa.Pure
