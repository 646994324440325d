/-
Lemmas for OrderAll, for every input they speak of: PureTrees.
-/
import Derived.Test.YtpamgedmgjfjjaaKOrderAll12
import Derived.Test.YtpamgedmgjfjjaaKOrderAll15
import Derived.Test.YtpamgedmgjfjjaaKOrderAll18
namespace Go.Proofs.Ytpamgedmgjfjjaa.Pure.Trees
open Go.RowKit Go.Proofs.Ytpamgedmgjfjjaa.M Go.Proofs.YtpamgedmgjfjjaaW.PrintWords Go.Proofs.YtpamgedmgjfjjaaW.PrintLast Go.Proofs.YtpamgedmgjfjjaaW.PrintMore
set_option linter.unusedVariables false
theorem w64 (x : Int) (h0 : -9223372036854775808 ≤ x) (h1 : x ≤ 9223372036854775807) : wrap64 x = x := by
  unfold wrap64
  omega
theorem lt_kid (t x : S50) (h : x ∈ t.f5) : SizeOf.sizeOf x < SizeOf.sizeOf t := by
  cases t
  have := List.sizeOf_lt_of_mem h
  simp only [S50.mk.sizeOf_spec]
  simp only at this
  omega
theorem ind {P : S50 → Prop} (h : ∀ t, (∀ x ∈ t.f5, P x) → P t) (t : S50) : P t :=
  (measure (SizeOf.sizeOf : S50 → Nat)).wf.induction t fun t ih => h t fun x hx => ih x (lt_kid t x hx)
theorem fuel_list {P : S50 → Nat → Prop} : ∀ (l : List S50), (∀ x ∈ l, ∃ K, ∀ k, K ≤ k → P x k) → ∃ K, ∀ x ∈ l, ∀ k, K ≤ k → P x k
  | [], _ => ⟨0, fun x hx => by simp at hx⟩
  | a :: l, h => by
    obtain ⟨K1, h1⟩ := h a List.mem_cons_self
    obtain ⟨K2, h2⟩ := fuel_list l fun x hx => h x (List.mem_cons_of_mem _ hx)
    refine ⟨max K1 K2, fun x hx k hk => ?_⟩
    rcases List.mem_cons.1 hx with rfl | hx
    · exact h1 k (by omega)
    · exact h2 x hx k (by omega)
inductive Small : S50 → Prop
  | mk (t : S50) : t.f2.f1.length ≤ 95 → t.f4.length ≤ 40 → t.f5.length ≤ 40 → (∀ x ∈ t.f5, Small x) → Small t
theorem eta50 (t : S50) : (⟨t.f0, t.f1, ⟨t.f2.f0, t.f2.f1, t.f2.f2⟩, t.f3, t.f4, t.f5⟩ : S50) = t := by cases t; rfl
theorem rd_at (l : List S50) (i : Nat) (h : i < l.length) : rd_T50 l (i : Int) = l[i] := by simp [rd_T50, List.getD_eq_getElem?_getD, h]
theorem same_strings (l : List ByteArray) (hl : l.length ≤ 4611686018427387904) : ∀ (d j k : Nat), l.length - j = d → j ≤ l.length → d < k → erratumlaw00_SameStrings.l0 k l l (j : Int) = some true
  | d, j, 0, _, _, h => absurd h (by omega)
  | 0, j, k + 1, hd, hj, _ => by rw [erratumlaw00_SameStrings.l0, if_neg (by omega)]
  | d + 1, j, k + 1, hd, hj, h => by
    have ih := same_strings l hl d (j + 1) k (by omega) (by omega) (by omega)
    rw [erratumlaw00_SameStrings.l0, if_pos (by omega), if_pos (by omega), if_pos (by omega), if_pos rfl, w64 _ (by omega) (by omega)]
    exact ih
theorem same_limbs (l : List Int) (hl : l.length ≤ 4611686018427387904) : ∀ (d j k : Nat), l.length - j = d → j ≤ l.length → d < k → erratumlaw00_SameLimbs.l0 k l l (j : Int) = some true
  | d, j, 0, _, _, h => absurd h (by omega)
  | 0, j, k + 1, hd, hj, _ => by rw [erratumlaw00_SameLimbs.l0, if_neg (by omega)]
  | d + 1, j, k + 1, hd, hj, h => by
    have ih := same_limbs l hl d (j + 1) k (by omega) (by omega) (by omega)
    rw [erratumlaw00_SameLimbs.l0, if_pos (by omega), if_pos (by omega), if_pos (by omega), if_pos rfl, w64 _ (by omega) (by omega)]
    exact ih
def SameOk (t : S50) (k : Nat) : Prop := erratumlaw00_SameTree.f k t.f0 t.f1 t.f2.f0 t.f2.f1 t.f2.f2 t.f3 t.f4 t.f5 t.f0 t.f1 t.f2.f0 t.f2.f1 t.f2.f2 t.f3 t.f4 t.f5 = some true
theorem same_kids (t : S50) (K : Nat) (hl : t.f5.length ≤ 4611686018427387904) (hK : ∀ x ∈ t.f5, ∀ k, K ≤ k → SameOk x k) : ∀ (d j k : Nat), t.f5.length - j = d → j ≤ t.f5.length → K + d + 1 ≤ k →
    erratumlaw00_SameTree.l0 k (j : Int) t.f0 t.f1 t.f2.f0 t.f2.f1 t.f2.f2 t.f3 t.f4 t.f5 t.f0 t.f1 t.f2.f0 t.f2.f1 t.f2.f2 t.f3 t.f4 t.f5 = some true
  | d, j, 0, _, _, h => absurd h (by omega)
  | 0, j, k + 1, hd, hj, _ => by rw [erratumlaw00_SameTree.l0, if_neg (by omega)]
  | d + 1, j, k + 1, hd, hj, h => by
    have ih := same_kids t K hl hK d (j + 1) k (by omega) (by omega) (by omega)
    have hjl : j < t.f5.length := by omega
    have hx := hK t.f5[j] (List.getElem_mem hjl) k (by omega)
    unfold SameOk at hx
    rw [erratumlaw00_SameTree.l0, if_pos (by omega), if_pos (by omega), if_pos (by omega), rd_at _ _ hjl, hx, Option.bind_some, if_pos rfl, w64 _ (by omega) (by omega)]
    exact ih
inductive Fits : S50 → Prop
  | mk (t : S50) : t.f2.f1.length ≤ 4611686018427387904 → t.f4.length ≤ 4611686018427387904 → t.f5.length ≤ 4611686018427387904 → (∀ x ∈ t.f5, Fits x) → Fits t
theorem Small.fits {t : S50} (h : Small t) : Fits t := by
  induction h with
  | mk t h1 h2 h3 _ ih => exact .mk t (by omega) (by omega) (by omega) ih
theorem same_tree {t : S50} (h : Fits t) : ∃ K, ∀ k, K ≤ k → SameOk t k := by
  induction h with
  | mk t h1 h2 h3 _ ih =>
    obtain ⟨K, hK⟩ := fuel_list t.f5 ih
    refine ⟨K + t.f5.length + t.f4.length + t.f2.f1.length + 10, fun k hk => ?_⟩
    obtain ⟨k', rfl⟩ : ∃ k', k = k' + 2 := ⟨k - 2, by omega⟩
    unfold SameOk
    have hn : erratumlaw00_SameNum.f (k' + 1) t.f2.f0 t.f2.f1 t.f2.f2 t.f2.f0 t.f2.f1 t.f2.f2 = some true := by
      rw [erratumlaw00_SameNum.f, if_pos (by simp), if_pos rfl, erratumlaw00_SameLimbs.f, if_pos rfl]
      have := same_limbs t.f2.f1 h1 t.f2.f1.length 0 (k' + 1) (by omega) (Nat.zero_le _) (by omega)
      rw [show ((0 : Nat) : Int) = 0 from rfl] at this
      rw [this]
      rfl
    have hs : erratumlaw00_SameStrings.f (k' + 1) t.f4 t.f4 = some true := by
      rw [erratumlaw00_SameStrings.f, if_pos rfl]
      exact same_strings t.f4 h2 t.f4.length 0 (k' + 1) (by omega) (Nat.zero_le _) (by omega)
    rw [erratumlaw00_SameTree.f, if_pos rfl, if_neg (by simp), hn, Option.bind_some, if_pos rfl, if_pos rfl, hs, Option.bind_some, if_pos rfl, erratumlaw00_SameTree.j0, if_neg (by simp)]
    exact same_kids t K h3 hK t.f5.length 0 k' (by omega) (Nat.zero_le _) (by omega)
def CopyOk (t : S50) (k : Nat) : Prop := erratumlaw00_Tree.f k t.f0 t.f1 t.f2.f0 t.f2.f1 t.f2.f2 t.f3 t.f4 t.f5 = some (t.f0, t.f1, t.f2.f0, t.f2.f1, t.f2.f2, t.f3, t.f4, t.f5)
theorem copy_kids (t : S50) (K : Nat) (hl : t.f5.length ≤ 1000) (hK : ∀ x ∈ t.f5, ∀ k, K ≤ k → CopyOk x k) (b0 : Int) (b1 b2 : Bool) (b3 : List Int) (b4 : Int) (b5 : ByteArray) (b6 : List ByteArray) : ∀ (d j k : Nat), t.f5.length - j = d → j ≤ t.f5.length → K + d + 1 ≤ k →
    erratumlaw00_Tree.l0 k (j : Int) t.f0 t.f1 t.f2.f0 t.f2.f1 t.f2.f2 t.f3 t.f4 t.f5 b0 b1 b2 b3 b4 b5 b6 (t.f5.take j) = some (b0, b1, b2, b3, b4, b5, b6, t.f5)
  | d, j, 0, _, _, h => absurd h (by omega)
  | 0, j, k + 1, hd, hj, _ => by
    rw [erratumlaw00_Tree.l0, if_neg (by omega), List.take_of_length_le (by omega)]
  | d + 1, j, k + 1, hd, hj, h => by
    have ih := copy_kids t K hl hK b0 b1 b2 b3 b4 b5 b6 d (j + 1) k (by omega) (by omega) (by omega)
    have hjl : j < t.f5.length := by omega
    have hx := hK t.f5[j] (List.getElem_mem hjl) k (by omega)
    unfold CopyOk at hx
    have e : t.f5.take (j + 1) = t.f5.take j ++ [t.f5[j]] := by rw [List.take_add_one, List.getElem?_eq_getElem hjl]; rfl
    rw [e] at ih
    rw [erratumlaw00_Tree.l0, if_pos (by omega), if_pos (by omega), rd_at _ _ hjl, hx, Option.bind_some, if_pos (by rw [List.length_take]; omega), w64 _ (by omega) (by omega)]
    dsimp only
    rw [eta50]
    exact ih
theorem copy_tree {t : S50} (h : Small t) : ∃ K, ∀ k, K ≤ k → CopyOk t k := by
  induction h with
  | mk t h1 h2 h3 _ ih =>
    obtain ⟨K, hK⟩ := fuel_list t.f5 ih
    refine ⟨K + t.f5.length + 3, fun k hk => ?_⟩
    obtain ⟨k', rfl⟩ : ∃ k', k = k' + 1 := ⟨k - 1, by omega⟩
    unfold CopyOk
    have hn : erratumlaw00_Num.f t.f2.f0 t.f2.f1 t.f2.f2 = some (t.f2.f0, t.f2.f1, t.f2.f2) := by
      rw [erratumlaw00_Num.f, erratumlaw00_Limbs.f, if_pos (by simp only [List.length_nil]; omega)]
      rfl
    have hs : erratumlaw00_Strings.f t.f4 = some t.f4 := by
      rw [erratumlaw00_Strings.f, if_pos (by simp only [List.length_nil]; omega)]
      rfl
    rw [erratumlaw00_Tree.f, hn, Option.bind_some, hs, Option.bind_some]
    exact copy_kids t K (by omega) hK t.f0 t.f1 t.f2.f0 t.f2.f1 t.f2.f2 t.f3 t.f4 t.f5.length 0 k' (by omega) (Nat.zero_le _) (by omega)
theorem copy_trees (v : List S50) (hl : v.length ≤ 60) (h : ∀ x ∈ v, Small x) : ∃ K, ∀ k, K ≤ k → erratumlaw00_Trees.f k v = some v := by
  obtain ⟨K, hK⟩ := fuel_list v fun x hx => copy_tree (h x hx)
  have go : ∀ (d j k : Nat), v.length - j = d → j ≤ v.length → K + d + 1 ≤ k → erratumlaw00_Trees.l0 k v (v.take j) (j : Int) = some v := by
    intro d
    induction d with
    | zero =>
      intro j k hd hj hk
      obtain ⟨k', rfl⟩ : ∃ k', k = k' + 1 := ⟨k - 1, by omega⟩
      rw [erratumlaw00_Trees.l0, if_neg (by omega), List.take_of_length_le (by omega)]
    | succ d ih =>
      intro j k hd hj hk
      obtain ⟨k', rfl⟩ : ∃ k', k = k' + 1 := ⟨k - 1, by omega⟩
      have ih := ih (j + 1) k' (by omega) (by omega) (by omega)
      have hjl : j < v.length := by omega
      have hx := hK v[j] (List.getElem_mem hjl) k' (by omega)
      unfold CopyOk at hx
      have e : v.take (j + 1) = v.take j ++ [v[j]] := by rw [List.take_add_one, List.getElem?_eq_getElem hjl]; rfl
      rw [e] at ih
      rw [erratumlaw00_Trees.l0, if_pos (by omega), if_pos (by omega), rd_at _ _ hjl, hx, Option.bind_some, if_pos (by rw [List.length_take]; omega), w64 _ (by omega) (by omega)]
      dsimp only
      rw [eta50]
      exact ih
  exact ⟨K + v.length + 2, fun k hk => go v.length 0 k (by omega) (Nat.zero_le _) (by omega)⟩
def LightOk (t : S50) (a r : Int) (k : Nat) : Prop := erratumlaw00_light.f k t.f0 t.f1 t.f2.f0 t.f2.f1 t.f2.f2 t.f3 t.f4 t.f5 a = some r
theorem light_kids (t : S50) (hl : t.f5.length ≤ 40) (ih : ∀ x ∈ t.f5, ∀ a : Int, 0 ≤ a → a ≤ 20 → ∃ r K, (∀ k, K ≤ k → LightOk x a r k) ∧ -1 ≤ r ∧ r ≤ 20 ∧ (0 ≤ r → Small x)) : ∀ (d j : Nat) (x1 : Int), t.f5.length - j = d → j ≤ t.f5.length → -1 ≤ x1 → x1 ≤ 20 →
    ∃ (r : Int) (K : Nat), (∀ k, K ≤ k → erratumlaw00_light.l1 k x1 (j : Int) t.f0 t.f1 t.f2.f0 t.f2.f1 t.f2.f2 t.f3 t.f4 t.f5 = some r) ∧ -1 ≤ r ∧ r ≤ 20 ∧ (0 ≤ r → 0 ≤ x1 ∧ ∀ i (h : i < t.f5.length), j ≤ i → Small t.f5[i]) := by
  intro d
  induction d with
  | zero =>
    intro j x1 hd hj h0 h1
    refine ⟨x1, 1, fun k hk => ?_, h0, h1, fun hr => ⟨hr, fun i h hi => by omega⟩⟩
    obtain ⟨k', rfl⟩ : ∃ k', k = k' + 1 := ⟨k - 1, by omega⟩
    rw [erratumlaw00_light.l1, if_neg (by omega)]
  | succ d ihd =>
    intro j x1 hd hj h0 h1
    have hjl : j < t.f5.length := by omega
    by_cases hx : x1 ≥ 0
    · obtain ⟨r', K', hk', hr0, hr1, hs⟩ := ih t.f5[j] (List.getElem_mem hjl) x1 (by omega) h1
      obtain ⟨r, K, hk, h2, h3, h4⟩ := ihd (j + 1) r' (by omega) (by omega) hr0 hr1
      refine ⟨r, max K K' + 1, fun k hkk => ?_, h2, h3, fun hr => ⟨by omega, fun i h hi => ?_⟩⟩
      · obtain ⟨k'', rfl⟩ : ∃ k'', k = k'' + 1 := ⟨k - 1, by omega⟩
        have e1 := hk' k'' (by omega)
        unfold LightOk at e1
        rw [erratumlaw00_light.l1, if_pos (by omega), if_pos hx, if_pos (by omega), rd_at _ _ hjl, e1, Option.bind_some, w64 _ (by omega) (by omega)]
        exact hk k'' (by omega)
      · by_cases hij : i = j
        · subst hij; exact hs (h4 hr).1
        · exact (h4 hr).2 i h (by omega)
    · refine ⟨x1, 1, fun k hk => ?_, h0, h1, fun hr => absurd hr hx⟩
      obtain ⟨k', rfl⟩ : ∃ k', k = k' + 1 := ⟨k - 1, by omega⟩
      rw [erratumlaw00_light.l1, if_pos (by omega), if_neg hx]
theorem light_keys (t : S50) (hl : t.f4.length ≤ 40) (x1 r : Int) (K : Nat) (h0 : -1 ≤ r) (hK : ∀ k, K ≤ k → erratumlaw00_light.l1 k x1 0 t.f0 t.f1 t.f2.f0 t.f2.f1 t.f2.f2 t.f3 t.f4 t.f5 = some r) : ∀ (d j : Nat), t.f4.length - j = d → j ≤ t.f4.length →
    ∃ r' : Int, (∀ k, K + d + 1 ≤ k → erratumlaw00_light.l0 k x1 (j : Int) t.f0 t.f1 t.f2.f0 t.f2.f1 t.f2.f2 t.f3 t.f4 t.f5 = some r') ∧ (r' = -1 ∨ r' = r) := by
  intro d
  induction d with
  | zero =>
    intro j hd hj
    refine ⟨r, fun k hk => ?_, .inr rfl⟩
    obtain ⟨k', rfl⟩ : ∃ k', k = k' + 1 := ⟨k - 1, by omega⟩
    rw [erratumlaw00_light.l0, if_neg (by omega)]
    exact hK k' (by omega)
  | succ d ih =>
    intro j hd hj
    obtain ⟨r', h1, h2⟩ := ih (j + 1) (by omega) (by omega)
    by_cases hs : ((rdOf ByteArray.empty t.f4 (j : Int)).size : Int) > 2100
    · refine ⟨-1, fun k hk => ?_, .inl rfl⟩
      obtain ⟨k', rfl⟩ : ∃ k', k = k' + 1 := ⟨k - 1, by omega⟩
      rw [erratumlaw00_light.l0, if_pos (by omega), if_pos (by omega), if_pos hs]
    · refine ⟨r', fun k hk => ?_, h2⟩
      obtain ⟨k', rfl⟩ : ∃ k', k = k' + 1 := ⟨k - 1, by omega⟩
      rw [erratumlaw00_light.l0, if_pos (by omega), if_pos (by omega), if_neg hs, w64 _ (by omega) (by omega)]
      exact h1 k' (by omega)
theorem light_all (t : S50) : ∀ a : Int, 0 ≤ a → a ≤ 20 → ∃ r K, (∀ k, K ≤ k → LightOk t a r k) ∧ -1 ≤ r ∧ r ≤ 20 ∧ (0 ≤ r → Small t) := by
  induction t using ind with
  | h t ih =>
    intro a h0 h1
    have bad : ∀ k x1, erratumlaw00_light.j0 (k + 1) x1 true t.f0 t.f1 t.f2.f0 t.f2.f1 t.f2.f2 t.f3 t.f4 t.f5 = some (-1) := fun k x1 => by rw [erratumlaw00_light.j0, if_pos rfl]
    have none_ : (∀ k, 2 ≤ k → LightOk t a (-1) k) → ∃ r K, (∀ k, K ≤ k → LightOk t a r k) ∧ -1 ≤ r ∧ r ≤ 20 ∧ (0 ≤ r → Small t) := fun h => ⟨-1, 2, h, by omega, by omega, fun hr => by omega⟩
    by_cases c1 : (t.f2.f1.length : Int) > 95
    · refine none_ fun k hk => ?_
      obtain ⟨k', rfl⟩ : ∃ k', k = k' + 2 := ⟨k - 2, by omega⟩
      unfold LightOk
      rw [erratumlaw00_light.f, if_pos c1]
      exact bad k' _
    by_cases c2 : (t.f3.size : Int) > 2100
    · refine none_ fun k hk => ?_
      obtain ⟨k', rfl⟩ : ∃ k', k = k' + 2 := ⟨k - 2, by omega⟩
      unfold LightOk
      rw [erratumlaw00_light.f, if_neg c1, if_pos c2]
      exact bad k' _
    by_cases c3 : (t.f4.length : Int) > 40
    · refine none_ fun k hk => ?_
      obtain ⟨k', rfl⟩ : ∃ k', k = k' + 2 := ⟨k - 2, by omega⟩
      unfold LightOk
      rw [erratumlaw00_light.f, if_neg c1, if_neg c2, if_pos c3]
      exact bad k' _
    by_cases c4 : (t.f5.length : Int) > 40
    · refine none_ fun k hk => ?_
      obtain ⟨k', rfl⟩ : ∃ k', k = k' + 2 := ⟨k - 2, by omega⟩
      unfold LightOk
      rw [erratumlaw00_light.f, if_neg c1, if_neg c2, if_neg c3, decide_eq_true c4]
      exact bad k' _
    obtain ⟨r, K, hK, hr0, hr1, hrs⟩ := light_kids t (by omega) ih t.f5.length 0 (a - 1) (by omega) (Nat.zero_le _) (by omega) (by omega)
    obtain ⟨r', hl, hor⟩ := light_keys t (by omega) (a - 1) r K hr0 hK t.f4.length 0 (by omega) (Nat.zero_le _)
    refine ⟨r', K + t.f4.length + 3, fun k hk => ?_, by omega, by omega, fun h => ?_⟩
    · obtain ⟨k', rfl⟩ : ∃ k', k = k' + 2 := ⟨k - 2, by omega⟩
      unfold LightOk
      rw [erratumlaw00_light.f, if_neg c1, if_neg c2, if_neg c3, decide_eq_false c4, w64 _ (by omega) (by omega), erratumlaw00_light.j0, if_neg (by simp)]
      exact hl k' (by omega)
    · have e : r' = r := by rcases hor with e | e <;> omega
      rw [e] at h
      refine .mk t (by omega) (by omega) (by omega) fun x hx => ?_
      obtain ⟨i, hi, rfl⟩ := List.mem_iff_getElem.1 hx
      exact (hrs h).2 i hi (Nat.zero_le _)
theorem Light_all (t : S50) : ∃ (b : Bool) (K : Nat), (∀ k, K ≤ k → erratumlaw00_Light.f k t.f0 t.f1 t.f2.f0 t.f2.f1 t.f2.f2 t.f3 t.f4 t.f5 20 = some b) ∧ (b = true → Small t) := by
  obtain ⟨r, K, hK, _, _, hs⟩ := light_all t 20 (by omega) (by omega)
  refine ⟨decide (r ≥ 0), K, fun k hk => ?_, fun h => hs (of_decide_eq_true h)⟩
  have := hK k hk
  unfold LightOk at this
  rw [erratumlaw00_Light.f, this, Option.bind_some]
end Go.Proofs.Ytpamgedmgjfjjaa.Pure.Trees
