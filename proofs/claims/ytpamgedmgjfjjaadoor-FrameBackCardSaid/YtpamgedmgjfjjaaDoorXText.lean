/-
Plain laws of texts: valid texts by their runes; two of them, one behind the other; a text cut.
-/
import Derived.Test.YtpamgedmgjfjjaaDoorXDec
namespace Go.Proofs.YtpamgedmgjfjjaaDoor.M
open Go.RowKit Go.Proofs.YtpamgedmgjfjjaaDoorW.PrintWords
open Go.Lib
set_option linter.unusedVariables false
set_option linter.unusedSimpArgs false

theorem dec_N (l : List UInt8) : decodeL l = decodeN l.length (l.getD 0 0).toNat (l.getD 1 0).toNat (l.getD 2 0).toNat (l.getD 3 0).toNat := by
  unfold decodeL
  rw [decode_N]
  simp
theorem dec_pos (l : List UInt8) : 1 ≤ (decodeL l).2 := by
  unfold decodeL
  exact width_pos _ _
theorem dec_le (l : List UInt8) (h : l ≠ []) (hb : ¬ Bad (decodeL l)) : (decodeL l).2 ≤ l.length := by
  have hl : 0 < l.length := List.length_pos_iff.2 h
  rw [dec_N] at hb ⊢
  rcases good_shape _ _ _ _ _ hb hl with ⟨hw, h1⟩ | ⟨hw, h1⟩ | ⟨hw, h1⟩ | ⟨hw, h1⟩ <;> (rw [hw]; omega)
/-- A good rune hangs on its own bytes alone. -/
theorem dec_same (l m : List UInt8) (h : l ≠ []) (hb : ¬ Bad (decodeL l)) (hw : (decodeL l).2 ≤ m.length) (hm : ∀ i, i < (decodeL l).2 → m.getD i 0 = l.getD i 0) : decodeL m = decodeL l := by
  have hl : 0 < l.length := List.length_pos_iff.2 h
  have hp := dec_pos l
  rw [dec_N m]
  rw [dec_N l] at hb hw hm hp ⊢
  rw [hm 0 (by omega)]
  refine good_same _ _ _ _ _ _ _ _ _ hb hl hw (fun h => ?_) (fun h => ?_) (fun h => ?_)
  · rw [hm 1 h]
  · rw [hm 2 h]
  · rw [hm 3 h]
theorem dec_app (l m : List UInt8) (h : l ≠ []) (hb : ¬ Bad (decodeL l)) : decodeL (l ++ m) = decodeL l := by
  have h1 := dec_le l h hb
  refine dec_same l (l ++ m) h hb (by rw [List.length_append]; omega) (fun i hi => ?_)
  simp [List.getD_eq_getElem?_getD, List.getElem?_append_left (show i < l.length by omega)]
theorem dec_take (l : List UInt8) (k : Nat) (h : l ≠ []) (hb : ¬ Bad (decodeL l)) (hk : (decodeL l).2 ≤ k) : decodeL (l.take k) = decodeL l := by
  have h1 := dec_le l h hb
  refine dec_same l (l.take k) h hb (by rw [List.length_take]; omega) (fun i hi => ?_)
  simp [List.getD_eq_getElem?_getD, List.getElem?_take_of_lt (show i < k by omega)]
/-- A front part of a good rune is none. -/
theorem dec_front (l : List UInt8) (k : Nat) (h : l ≠ []) (hb : ¬ Bad (decodeL l)) (h0 : 0 < k) (hk : k < (decodeL l).2) : Bad (decodeL (l.take k)) := by
  have hl : 0 < l.length := List.length_pos_iff.2 h
  have h1 := dec_le l h hb
  rw [dec_N (l.take k)]
  rw [dec_N l] at hb hk h1
  have e : (l.take k).getD 0 0 = l.getD 0 0 := by simp [List.getD_eq_getElem?_getD, List.getElem?_take_of_lt h0]
  rw [e]
  exact front_bad _ _ _ _ _ _ _ _ _ hb hl (by rw [List.length_take]; omega) (by rw [List.length_take]; omega)
theorem dec_cont (l : List UInt8) (h : (l.getD 0 0).toNat / 64 = 2) : Bad (decodeL l) := by
  rw [dec_N]
  exact cont_bad _ _ _ _ _ h
theorem dec_head (l : List UInt8) (h : l ≠ []) (hb : ¬ Bad (decodeL l)) : (l.getD 0 0).toNat / 64 ≠ 2 := fun hc => hb (dec_cont l hc)
theorem dec_tail (l : List UInt8) (h : l ≠ []) (hb : ¬ Bad (decodeL l)) (i : Nat) (h0 : 0 < i) (hi : i < (decodeL l).2) : (l.getD i 0).toNat / 64 = 2 := by
  have hl : 0 < l.length := List.length_pos_iff.2 h
  rw [dec_N] at hb hi
  rcases good_shape _ _ _ _ _ hb hl with ⟨hw, h1⟩ | ⟨hw, h1⟩ | ⟨hw, h1⟩ | ⟨hw, h1⟩
  all_goals rw [hw] at hi
  · omega
  · obtain rfl : i = 1 := by omega
    exact h1.2.2
  · rcases (show i = 1 ∨ i = 2 by omega) with rfl | rfl
    · exact h1.2.2.1
    · exact h1.2.2.2
  · rcases (show i = 1 ∨ i = 2 ∨ i = 3 by omega) with rfl | rfl | rfl
    · exact h1.2.2.1
    · exact h1.2.2.2.1
    · exact h1.2.2.2.2
/-- A text of good runes. -/
inductive Good : List UInt8 → Prop
  | nil : Good []
  | rune (l : List UInt8) : l ≠ [] → ¬ Bad (decodeL l) → Good (l.drop (decodeL l).2) → Good l
theorem good_app {a b : List UInt8} (ha : Good a) (hb : Good b) : Good (a ++ b) := by
  induction ha with
  | nil => exact hb
  | rune l h hg _ ih =>
    have h1 := dec_le l h hg
    have h2 := dec_app l b h hg
    refine .rune _ (by simp [h]) (by rw [h2]; exact hg) ?_
    rw [h2, List.drop_append_of_le_length h1]
    exact ih
/-- Is a text good? By at most so many runes. -/
def vL : Nat → List UInt8 → Bool
  | 0, _ => true
  | f + 1, l => if l = [] then true else if Bad (decodeL l) then false else vL f (l.drop (decodeL l).2)
theorem vL_good : ∀ (f : Nat) (l : List UInt8), l.length ≤ f → (vL f l = true ↔ Good l)
  | 0, l, h => by
    obtain rfl : l = [] := List.length_eq_zero_iff.1 (by omega)
    exact ⟨fun _ => .nil, fun _ => rfl⟩
  | f + 1, l, h => by
    rw [vL]
    by_cases h0 : l = []
    · subst h0
      exact ⟨fun _ => .nil, fun _ => rfl⟩
    · rw [if_neg h0]
      by_cases hb : Bad (decodeL l)
      · rw [if_pos hb]
        refine ⟨fun h => (by cases h), fun h => ?_⟩
        cases h with
        | nil => exact absurd rfl h0
        | rune _ _ hg _ => exact absurd hb hg
      · rw [if_neg hb]
        have hp := dec_pos l
        have hl : 0 < l.length := List.length_pos_iff.2 h0
        have ih := vL_good f (l.drop (decodeL l).2) (by rw [List.length_drop]; omega)
        refine ih.trans ⟨fun h => .rune l h0 hb h, fun h => ?_⟩
        cases h with
        | nil => exact absurd rfl h0
        | rune _ _ _ h => exact h
theorem validU_vL (s : ByteArray) : ∀ (f pos : Nat), pos ≤ s.size → validU s f pos = vL f (s.data.toList.drop pos)
  | 0, _, _ => rfl
  | f + 1, pos, hp => by
    have hl : s.data.toList.length = s.size := by rw [Array.length_toList]; rfl
    rw [validU, vL, decodeL_drop]
    by_cases h : pos < s.size
    · have hne : ¬ (s.data.toList.drop pos = []) := by
        intro h0
        have := congrArg List.length h0
        rw [List.length_drop, hl, List.length_nil] at this
        omega
      rw [if_pos h, if_neg hne]
      by_cases hb : Bad (Utf8.decode s pos)
      · rw [if_pos hb, if_pos (show _ ∧ _ from hb)]
      · rw [if_neg hb, if_neg (show ¬ (_ ∧ _) from hb)]
        have h1 : (Utf8.decode s pos).2 ≤ (s.data.toList.drop pos).length := by
          have := dec_le (s.data.toList.drop pos) hne (by rw [decodeL_drop]; exact hb)
          rwa [decodeL_drop] at this
        rw [List.length_drop, hl] at h1
        rw [validU_vL s f _ (by omega), List.drop_drop]
    · rw [if_neg h, if_pos (List.drop_eq_nil_of_le (by omega))]
/-- utf.Valid tells whether a text is good. -/
theorem validU_good (s : ByteArray) : validU s s.size 0 = true ↔ Good s.data.toList := by
  have hl : s.data.toList.length = s.size := by rw [Array.length_toList]; rfl
  rw [validU_vL s s.size 0 (Nat.zero_le _), List.drop_zero]
  exact vL_good _ _ (by omega)
/-- A good text, cut: both halves are good where no byte goes on, neither elsewhere. -/
theorem good_cut {s : List UInt8} (hs : Good s) : ∀ k, k ≤ s.length → (Good (s.take k) ↔ (k = s.length ∨ (s.getD k 0).toNat / 64 ≠ 2)) ∧ (Good (s.drop k) ↔ (k = s.length ∨ (s.getD k 0).toNat / 64 ≠ 2)) := by
  induction hs with
  | nil =>
    intro k hk
    obtain rfl : k = 0 := by simpa using hk
    exact ⟨⟨fun _ => .inl rfl, fun _ => .nil⟩, ⟨fun _ => .inl rfl, fun _ => .nil⟩⟩
  | rune l h hg ht ih =>
    intro k hk
    have h1 := dec_le l h hg
    have hp := dec_pos l
    rcases Nat.eq_zero_or_pos k with rfl | h0
    · have e := dec_head l h hg
      exact ⟨⟨fun _ => .inr e, fun _ => .nil⟩, ⟨fun _ => .inr e, fun _ => .rune l h hg ht⟩⟩
    · by_cases hw : k < (decodeL l).2
      · have e := dec_tail l h hg k h0 hw
        have hf := dec_front l k h hg h0 hw
        have hne : ¬ (k = l.length ∨ (l.getD k 0).toNat / 64 ≠ 2) := by
          rintro (h2 | h2)
          · omega
          · exact h2 e
        refine ⟨⟨fun hgood => ?_, fun h2 => absurd h2 hne⟩, ⟨fun hgood => ?_, fun h2 => absurd h2 hne⟩⟩
        · exfalso
          generalize hm : l.take k = m at *
          cases hgood with
          | nil =>
            have := congrArg List.length hm
            rw [List.length_take, List.length_nil] at this
            omega
          | rune _ _ hg2 _ => exact hg2 hf
        · exfalso
          have hc : Bad (decodeL (l.drop k)) := dec_cont _ (by simpa [List.getD_eq_getElem?_getD] using e)
          generalize hm : l.drop k = m at *
          cases hgood with
          | nil =>
            have := congrArg List.length hm
            rw [List.length_drop, List.length_nil] at this
            omega
          | rune _ _ hg2 _ => exact hg2 hc
      · have ih2 := ih (k - (decodeL l).2) (by rw [List.length_drop]; omega)
        have e1 : (l.drop (decodeL l).2).getD (k - (decodeL l).2) 0 = l.getD k 0 := by
          simp only [List.getD_eq_getElem?_getD, List.getElem?_drop]
          rw [show (decodeL l).2 + (k - (decodeL l).2) = k by omega]
        have e2 : (k - (decodeL l).2 = (l.drop (decodeL l).2).length) ↔ (k = l.length) := by
          rw [List.length_drop]
          omega
        have e3 : (l.drop (decodeL l).2).drop (k - (decodeL l).2) = l.drop k := by
          rw [List.drop_drop]
          congr 1
          omega
        have e4 : (l.drop (decodeL l).2).take (k - (decodeL l).2) = (l.take k).drop (decodeL l).2 := by
          rw [List.drop_take]
        have e5 := dec_take l k h hg (by omega)
        rw [e1, e2, e3, e4] at ih2
        refine ⟨Iff.trans ⟨fun hgood => ?_, fun hgood => ?_⟩ ih2.1, ih2.2⟩
        · generalize hm : l.take k = m at *
          cases hgood with
          | nil =>
            have := congrArg List.length hm
            rw [List.length_take, List.length_nil] at this
            omega
          | rune _ _ _ h2 => rw [← e5]; exact h2
        · refine .rune _ ?_ (by rw [e5]; exact hg) (by rw [e5]; exact hgood)
          intro h2
          have := congrArg List.length h2
          rw [List.length_take, List.length_nil] at this
          omega
end Go.Proofs.YtpamgedmgjfjjaaDoor.M
