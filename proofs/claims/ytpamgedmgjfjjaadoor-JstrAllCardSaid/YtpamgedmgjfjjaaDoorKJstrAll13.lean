/-
Lemmas for JstrAll, for every input they speak of: XJRef, XJRefQ, XJAll.
-/
import Derived.Test.YtpamgedmgjfjjaaDoorKJstrAll09
import Derived.Test.YtpamgedmgjfjjaaDoorKJstrAll12
section
namespace Go.Proofs.YtpamgedmgjfjjaaDoor.M
open Go.RowKit Go.Proofs.YtpamgedmgjfjjaaDoorW.PrintWords Go.Proofs.YtpamgedmgjfjjaaDoorW.PrintLast Go.Proofs.YtpamgedmgjfjjaaDoorW.PrintMore
set_option linter.unusedVariables false
set_option linter.unusedSimpArgs false
def four1 (o : Option Nat) : Int := match o with | some v => (v : Int) | none => -1
set_option maxRecDepth 100000 in
theorem step16 (v d n : Nat) (hn : n ≤ 3) (hd : d < 16) (hv : v * 16 * 16 ^ n < 65536) : (v * 16 + d) * 16 ^ n < 65536 := by
  match n, hn with
  | 0, _ => rw [Nat.pow_zero] at hv ⊢; omega
  | 1, _ => rw [Nat.pow_one] at hv ⊢; omega
  | 2, _ => rw [show (16 : Nat) ^ 2 = 256 by decide] at hv ⊢; omega
  | 3, _ => rw [show (16 : Nat) ^ 3 = 4096 by decide] at hv ⊢; omega
theorem w32s (x : Int) (h0 : 0 ≤ x) (h1 : x < 2147483648) : wrap32 x = x := by unfold wrap32; omega
theorem w64s (x : Int) (h0 : -9223372036854775808 ≤ x) (h1 : x < 9223372036854775808) : wrap64 x = x := by unfold wrap64; omega
theorem hex1 (v c : Nat) (hv : v * 16 < 65536) (h : 48 ≤ c ∧ c ≤ 57) : wrap32 (wrap32 (16 * (v : Int)) + ((c : Int) - 48) % 256) = ((v * 16 + (c - 48) : Nat) : Int) := by
  rw [show ((c : Int) - 48) % 256 = (c : Int) - 48 by omega, w32s (16 * (v : Int)) (by omega) (by omega), w32s _ (by omega) (by omega)]
  omega
theorem hex2 (v c a : Nat) (hv : v * 16 < 65536) (ha : 65 ≤ a) (h : a ≤ c ∧ c ≤ a + 5) (hc : a ≤ 97) : wrap32 (wrap32 (wrap32 (16 * (v : Int)) + ((c : Int) - (a : Int)) % 256) + 10) = ((v * 16 + (c - (a - 10)) : Nat) : Int) := by
  rw [show ((c : Int) - (a : Int)) % 256 = (c : Int) - (a : Int) by omega, w32s (16 * (v : Int)) (by omega) (by omega), w32s (16 * (v : Int) + ((c : Int) - (a : Int))) (by omega) (by omega), w32s _ (by omega) (by omega)]
  omega
theorem refFour_step (s : ByteArray) (hs : s.size ≤ 1000000) (x1 : Nat) (hx : x1 ≤ 2000000) (n i v k : Nat) (hi : x1 + 4 = i + (n + 1)) (h16 : v * 16 < 65536)
    (rec_ : ∀ d k', d < 16 → k ≤ k' → erratumref07_four.l0 k' s (x1 : Int) ((v * 16 + d : Nat) : Int) ((i + 1 : Nat) : Int) = some (four1 (fourR s n (i + 1) (v * 16 + d)))) :
    erratumref07_four.l0 (k + 3) s (x1 : Int) (v : Int) (i : Int) = some (four1 (fourR s (n + 1) i v)) := by
  rw [erratumref07_four.l0, w64s _ (by omega) (by omega), if_pos (by omega), fourR]
  by_cases hlt : i < s.size
  · rw [if_neg (by omega), if_pos (by omega), if_pos (by omega), bt_bn, if_pos hlt]
    have hc := bn_lt s i
    have hw : wrap64 ((i : Int) + 1) = ((i + 1 : Nat) : Int) := by rw [w64s _ (by omega) (by omega)]; rfl
    generalize bn s i = c at *
    by_cases h1 : 48 ≤ c ∧ c ≤ 57
    · rw [if_pos (by omega), erratumref07_four.j1, if_pos (decide_eq_true (by omega)), hw, hex1 v c h16 h1]
      rw [show hexD c = some (c - 48) by unfold hexD; rw [if_pos h1]]
      exact rec_ _ _ (by omega) (by omega)
    · have e1 : (if (c : Int) ≥ 48 then erratumref07_four.j1 (k + 2) s (x1 : Int) (v : Int) (i : Int) (c : Int) (decide ((c : Int) ≤ 57)) else erratumref07_four.j1 (k + 2) s (x1 : Int) (v : Int) (i : Int) (c : Int) false) = erratumref07_four.j1 (k + 2) s (x1 : Int) (v : Int) (i : Int) (c : Int) false := by
        by_cases h : (c : Int) ≥ 48
        · rw [if_pos h, decide_eq_false (by omega)]
        · rw [if_neg h]
      rw [e1, erratumref07_four.j1, if_neg (by simp)]
      by_cases h2 : 97 ≤ c ∧ c ≤ 102
      · rw [if_pos (by omega), erratumref07_four.j2, if_pos (decide_eq_true (by omega)), hw]
        have hx2 := hex2 v c 97 h16 (by decide) ⟨h2.1, by omega⟩ (by decide)
        rw [show hexD c = some (c - 87) by unfold hexD; rw [if_neg h1, if_pos h2]]
        refine Eq.trans ?_ (rec_ (c - 87) k (by omega) (by omega))
        exact congrArg (fun z => erratumref07_four.l0 k s (x1 : Int) z ((i + 1 : Nat) : Int)) hx2
      · have e2 : (if (c : Int) ≥ 97 then erratumref07_four.j2 (k + 1) s (x1 : Int) (v : Int) (i : Int) (c : Int) (decide ((c : Int) ≤ 102)) else erratumref07_four.j2 (k + 1) s (x1 : Int) (v : Int) (i : Int) (c : Int) false) = erratumref07_four.j2 (k + 1) s (x1 : Int) (v : Int) (i : Int) (c : Int) false := by
          by_cases h : (c : Int) ≥ 97
          · rw [if_pos h, decide_eq_false (by omega)]
          · rw [if_neg h]
        rw [e2, erratumref07_four.j2, if_neg (by simp)]
        by_cases h3 : 65 ≤ c ∧ c ≤ 70
        · rw [if_pos (by omega), if_pos (by omega), hw]
          have hx2 := hex2 v c 65 h16 (by decide) ⟨h3.1, by omega⟩ (by decide)
          rw [show hexD c = some (c - 55) by unfold hexD; rw [if_neg h1, if_neg h2, if_pos h3]]
          refine Eq.trans ?_ (rec_ (c - 55) k (by omega) (by omega))
          exact congrArg (fun z => erratumref07_four.l0 k s (x1 : Int) z ((i + 1 : Nat) : Int)) hx2
        · rw [show hexD c = none by unfold hexD; rw [if_neg h1, if_neg h2, if_neg h3]]
          by_cases h : (c : Int) ≥ 65
          · rw [if_pos h, if_neg (by omega)]; rfl
          · rw [if_neg h]; rfl
  · rw [if_pos (by omega), if_neg hlt]
    rfl
theorem refFour_from (s : ByteArray) (hs : s.size ≤ 1000000) (x1 : Nat) (hx : x1 ≤ 2000000) : ∀ (n i v k : Nat), n ≤ 4 → x1 + 4 = i + n → v * 16 ^ n < 65536 → 3 * n + 1 ≤ k →
    erratumref07_four.l0 k s (x1 : Int) (v : Int) (i : Int) = some (four1 (fourR s n i v))
  | 0, i, v, k, _, hi, _, hk => by
    obtain ⟨k', rfl⟩ : ∃ k', k = k' + 1 := ⟨k - 1, by omega⟩
    rw [erratumref07_four.l0, w64s _ (by omega) (by omega), if_neg (by omega)]
    rfl
  | n + 1, i, v, k, hn, hi, hv, hk => by
    obtain ⟨k', rfl⟩ : ∃ k', k = k' + 3 := ⟨k - 3, by omega⟩
    have hv1 : v * 16 * 16 ^ n < 65536 := by rw [Nat.pow_succ, Nat.mul_comm (16 ^ n) 16, ← Nat.mul_assoc] at hv; exact hv
    have h16 : v * 16 < 65536 := Nat.lt_of_le_of_lt (Nat.le_mul_of_pos_right _ (Nat.pow_pos (by decide))) hv1
    exact refFour_step s hs x1 hx n i v k' hi h16 (fun d k2 hd hk2 => refFour_from s hs x1 hx n (i + 1) (v * 16 + d) k2 (by omega) (by omega) (step16 v d n (by omega) hd hv1) (by omega))
theorem refFour_k (s : ByteArray) (hs : s.size ≤ 1000000) (i : Nat) (hi : i ≤ 2000000) (k : Nat) (hk : 13 ≤ k) : erratumref07_four.f k s (i : Int) = some (four1 (fourR s 4 i 0)) :=
  refFour_from s hs i hi 4 i 0 k (Nat.le_refl _) rfl (by decide) (by omega)
@[reducible] def FROM : ByteArray := ⟨#[34, 92, 47, 98, 102, 110, 114, 116]⟩
@[reducible] def TO : ByteArray := ⟨#[34, 92, 47, 8, 12, 10, 13, 9]⟩
theorem esc_step (k : Nat) (s : ByteArray) (i : Nat) (hi : i < s.size) (hs : s.size ≤ 1000000) (m : Nat) (hm : m < 8) (b : Nat) (hb : bt FROM (m : Int) = (b : Int)) (t : ByteArray) (ht : TO.extract m (m + 1) = t) :
    erratumref07_escape.l0 (k + 1) s (i : Int) FROM TO (m : Int) = if bn s i = b then some (t, ((i + 1 : Nat) : Int)) else erratumref07_escape.l0 k s (i : Int) FROM TO ((m + 1 : Nat) : Int) := by
  rw [erratumref07_escape.l0, if_pos (show (m : Int) < ((FROM.size : Nat) : Int) from by show (m : Int) < 8; omega), if_pos (by omega), if_pos (by omega), if_pos (by omega), hb, bt_bn,
    show wrap64 ((m : Int) + 1) = ((m + 1 : Nat) : Int) by rw [w64s _ (by omega) (by omega)]; rfl]
  by_cases h : bn s i = b
  · rw [if_pos (by omega), if_pos h, if_pos (by omega), if_pos (show ((m + 1 : Nat) : Int) ≤ ((TO.size : Nat) : Int) from by show ((m + 1 : Nat) : Int) ≤ 8; omega), Int.toNat_natCast, Int.toNat_natCast, ht, w64s _ (by omega) (by omega)]
    rfl
  · rw [if_neg (by omega), if_neg h]
def esc1 (o : Option (ByteArray × Nat)) : ByteArray × Int := match o with | some (t, j) => (t, (j : Int)) | none => (⟨#[]⟩, 0)
set_option maxHeartbeats 2000000 in
set_option maxRecDepth 100000 in
theorem esc_tail (k : Nat) (hk : 20 ≤ k) (s : ByteArray) (i : Nat) (hi : i < s.size) (hs : s.size ≤ 1000000) :
    erratumref07_escape.l0 (k + 1) s (i : Int) FROM TO 8 = some (esc1 (if bn s i = 117 then (pointR s (i + 1)).map fun p => (putU p.1, p.2) else none)) := by
  obtain ⟨k', rfl⟩ : ∃ k', k = k' + 3 := ⟨k - 3, by omega⟩
  rw [erratumref07_escape.l0, if_neg (show ¬ ((8 : Int) < ((FROM.size : Nat) : Int)) from by show ¬ ((8 : Int) < 8); omega), show wrap64 ((i : Int) + 1) = ((i + 1 : Nat) : Int) by rw [w64s _ (by omega) (by omega)]; rfl,
    refFour_k s hs (i + 1) (by omega) _ (by omega), Option.bind_some, if_pos (by omega), if_pos (by omega), bt_bn]
  by_cases hu : bn s i = 117
  · rw [if_pos (by omega), if_pos hu, pointR]
    cases h4 : fourR s 4 (i + 1) 0 with
    | none =>
      show (if ((-1 : Int) < 0) then _ else _) = _
      rw [if_pos (by decide), erratumref07_escape.j1, if_pos rfl]
      rfl
    | some v =>
      have hv := four_lt h4
      show (if ((v : Int) < 0) then _ else _) = _
      rw [if_neg (by omega), Option.bind_some]
      by_cases hlow : 56320 ≤ v ∧ v ≤ 57343
      · have hj : (if (v : Int) ≥ 56320 then erratumref07_escape.j1 (k' + 3) s (i : Int) (v : Int) (decide ((v : Int) ≤ 57343)) else erratumref07_escape.j1 (k' + 3) s (i : Int) (v : Int) false) = erratumref07_escape.j1 (k' + 3) s (i : Int) (v : Int) true := by
          rw [if_pos (by omega), decide_eq_true (by omega)]
        refine hj.trans ?_
        rw [erratumref07_escape.j1, if_pos rfl, if_neg (by omega)]
        have hq : (if i + 1 + 4 < s.size ∧ bn s (i + 1 + 4) = 92 ∧ i + 1 + 5 < s.size ∧ bn s (i + 1 + 5) = 117 then
            (fourR s 4 (i + 1 + 6) 0).bind fun low => if 56320 ≤ v ∨ low < 56320 ∨ 57343 < low then none else some (65536 + (v - 55296) * 1024 + (low - 56320), i + 1 + 10) else none) = (none : Option (Nat × Nat)) := by
          split
          · cases fourR s 4 (i + 1 + 6) 0 with
            | none => rfl
            | some low => rw [Option.bind_some, if_pos (.inl hlow.1)]
          · rfl
        rw [hq]
        rfl
      · have hj : (if (v : Int) ≥ 56320 then erratumref07_escape.j1 (k' + 3) s (i : Int) (v : Int) (decide ((v : Int) ≤ 57343)) else erratumref07_escape.j1 (k' + 3) s (i : Int) (v : Int) false) = erratumref07_escape.j1 (k' + 3) s (i : Int) (v : Int) false := by
          by_cases h : (v : Int) ≥ 56320
          · rw [if_pos h, decide_eq_false (by omega)]
          · rw [if_neg h]
        refine hj.trans ?_
        rw [erratumref07_escape.j1, if_neg (by simp)]
        by_cases hh : 55296 ≤ v ∧ v < 56320
        · rw [if_pos (by omega), decide_eq_true (by omega), erratumref07_escape.j2, if_pos rfl, show wrap64 ((i : Int) + 7) = ((i + 1 + 6 : Nat) : Int) by rw [w64s _ (by omega) (by omega)]; omega,
            refFour_k s hs (i + 1 + 6) (by omega) _ (by omega), Option.bind_some, show wrap64 ((i : Int) + 6) = ((i + 1 + 5 : Nat) : Int) by rw [w64s _ (by omega) (by omega)]; omega,
            show wrap64 ((i : Int) + 5) = ((i + 1 + 4 : Nat) : Int) by rw [w64s _ (by omega) (by omega)]; omega, if_neg (show ¬ (v < 55296 ∨ 57343 < v) by omega)]
          have fail3 : ∀ x, erratumref07_escape.j3 (k' + 1) (i : Int) (v : Int) x true = some (⟨#[]⟩, 0) := fun x => by rw [erratumref07_escape.j3, if_pos rfl]
          by_cases g5 : i + 1 + 5 < s.size
          · rw [if_neg (by omega), if_pos (by omega), if_pos (by omega), bt_bn, bt_bn]
            by_cases g92 : bn s (i + 1 + 4) = 92
            · rw [if_pos (by omega), if_pos (by omega), if_pos (by omega)]
              by_cases g117 : bn s (i + 1 + 5) = 117
              · rw [if_pos (show ((bn s (i + 1 + 5) : Nat) : Int) = 117 by omega), if_pos (show i + 1 + 4 < s.size ∧ bn s (i + 1 + 4) = 92 ∧ i + 1 + 5 < s.size ∧ bn s (i + 1 + 5) = 117 from ⟨by omega, g92, g5, g117⟩)]
                cases h6 : fourR s 4 (i + 1 + 6) 0 with
                | none =>
                  show (if ((-1 : Int) < 56320) then _ else _) = _
                  rw [if_pos (by decide), fail3]
                  rfl
                | some low =>
                  have hl := four_lt h6
                  show (if ((low : Int) < 56320) then _ else _) = _
                  rw [Option.bind_some]
                  by_cases b1 : low < 56320
                  · rw [if_pos (by omega), fail3, if_pos (by omega)]; rfl
                  · rw [if_neg (by omega)]
                    by_cases b2 : 57343 < low
                    · rw [show decide (four1 (some low) > 57343) = true from decide_eq_true (by show (low : Int) > 57343; omega)]
                      refine (fail3 _).trans ?_
                      rw [if_pos (by omega)]; rfl
                    · rw [show decide (four1 (some low) > 57343) = false from decide_eq_false (by show ¬ ((low : Int) > 57343); omega), erratumref07_escape.j3, if_neg (by simp), if_neg (by omega)]
                      rw [refPut_k _ _ (by omega), Option.bind_some]
                      show some (putU (wrap32 (wrap32 (wrap32 (65536 + wrap32 (wrap32 ((v : Int) - 55296) * 1024)) + (low : Int)) - 56320)), wrap64 ((i : Int) + 11)) = some (putU ((65536 + (v - 55296) * 1024 + (low - 56320) : Nat) : Int), ((i + 1 + 10 : Nat) : Int))
                      rw [w32s ((v : Int) - 55296) (by omega) (by omega), w32s (((v : Int) - 55296) * 1024) (by omega) (by omega), w32s (65536 + ((v : Int) - 55296) * 1024) (by omega) (by omega), w32s (65536 + ((v : Int) - 55296) * 1024 + (low : Int)) (by omega) (by omega), w32s _ (by omega) (by omega),
                        w64s _ (by omega) (by omega), show (65536 + ((v : Int) - 55296) * 1024 + (low : Int)) - 56320 = ((65536 + (v - 55296) * 1024 + (low - 56320) : Nat) : Int) by omega, show (i : Int) + 11 = ((i + 1 + 10 : Nat) : Int) by omega]
              · rw [if_neg (by omega), fail3, if_neg (fun h => g117 h.2.2.2)]; rfl
            · rw [if_neg (by omega), fail3, if_neg (fun h => g92 h.2.1)]; rfl
          · rw [if_pos (by omega), fail3, if_neg (fun h => g5 h.2.2.1)]; rfl
        · have hj2 : (if (v : Int) ≥ 55296 then erratumref07_escape.j2 (k' + 2) s (i : Int) (v : Int) (decide ((v : Int) < 56320)) else erratumref07_escape.j2 (k' + 2) s (i : Int) (v : Int) false) = erratumref07_escape.j2 (k' + 2) s (i : Int) (v : Int) false := by
            by_cases h : (v : Int) ≥ 55296
            · rw [if_pos h, decide_eq_false (by omega)]
            · rw [if_neg h]
          refine hj2.trans ?_
          rw [erratumref07_escape.j2, if_neg (by simp), refPut_k _ _ (by omega), Option.bind_some, if_pos (by omega), w64s _ (by omega) (by omega)]
          show some (putU (v : Int), (i : Int) + 5) = some (putU (v : Int), ((i + 1 + 4 : Nat) : Int))
          rw [show (i : Int) + 5 = ((i + 1 + 4 : Nat) : Int) by omega]
  · rw [if_neg (by omega), if_neg hu, erratumref07_escape.j1, if_pos rfl]
    rfl
theorem refEscape_k (s : ByteArray) (hs : s.size ≤ 1000000) (i : Nat) (k : Nat) (hk : 40 ≤ k) : erratumref07_escape.f k s (i : Int) = some (esc1 (escR s i)) := by
  obtain ⟨k', rfl⟩ : ∃ k', k = k' + 9 := ⟨k - 9, by omega⟩
  rw [erratumref07_escape.f, escR]
  by_cases hi : i < s.size
  · rw [if_neg (by omega), if_pos hi]
    refine (esc_step (k' + 8) s i hi hs 0 (by decide) 34 (by decide) ⟨#[34]⟩ (by kernel_rfl)).trans ?_
    by_cases c1 : bn s i = 34
    · rw [if_pos c1, if_pos c1]; rfl
    rw [if_neg c1, if_neg c1]
    refine (esc_step (k' + 7) s i hi hs 1 (by decide) 92 (by decide) ⟨#[92]⟩ (by kernel_rfl)).trans ?_
    by_cases c2 : bn s i = 92
    · rw [if_pos c2, if_pos c2]; rfl
    rw [if_neg c2, if_neg c2]
    refine (esc_step (k' + 6) s i hi hs 2 (by decide) 47 (by decide) ⟨#[47]⟩ (by kernel_rfl)).trans ?_
    by_cases c3 : bn s i = 47
    · rw [if_pos c3, if_pos c3]; rfl
    rw [if_neg c3, if_neg c3]
    refine (esc_step (k' + 5) s i hi hs 3 (by decide) 98 (by decide) ⟨#[8]⟩ (by kernel_rfl)).trans ?_
    by_cases c4 : bn s i = 98
    · rw [if_pos c4, if_pos c4]; rfl
    rw [if_neg c4, if_neg c4]
    refine (esc_step (k' + 4) s i hi hs 4 (by decide) 102 (by decide) ⟨#[12]⟩ (by kernel_rfl)).trans ?_
    by_cases c5 : bn s i = 102
    · rw [if_pos c5, if_pos c5]; rfl
    rw [if_neg c5, if_neg c5]
    refine (esc_step (k' + 3) s i hi hs 5 (by decide) 110 (by decide) ⟨#[10]⟩ (by kernel_rfl)).trans ?_
    by_cases c6 : bn s i = 110
    · rw [if_pos c6, if_pos c6]; rfl
    rw [if_neg c6, if_neg c6]
    refine (esc_step (k' + 2) s i hi hs 6 (by decide) 114 (by decide) ⟨#[13]⟩ (by kernel_rfl)).trans ?_
    by_cases c7 : bn s i = 114
    · rw [if_pos c7, if_pos c7]; rfl
    rw [if_neg c7, if_neg c7]
    refine (esc_step (k' + 1) s i hi hs 7 (by decide) 116 (by decide) ⟨#[9]⟩ (by kernel_rfl)).trans ?_
    by_cases c8 : bn s i = 116
    · rw [if_pos c8, if_pos c8]; rfl
    rw [if_neg c8, if_neg c8]
    exact esc_tail k' (by omega) s i hi hs
  · rw [if_pos (by omega), if_neg hi]
    rfl
theorem runeU_low (s : ByteArray) (i : Nat) (h : i < s.size) : ((runeU s i).1 < 32 ↔ bn s i < 32 ∨ (runeU s i).1 < 0) := by
  rw [← refR_runeU s i h]
  unfold refR
  by_cases h1 : bn s i < 128
  · rw [if_pos h1]
    show ((bn s i : Int) < 32 ↔ bn s i < 32 ∨ (bn s i : Int) < 0)
    omega
  · rw [if_neg h1]
    split
    · rename_i h2
      show ((((bn s i % 32) * 64 + bn s (i + 1) % 64 : Nat) : Int) < 32 ↔ bn s i < 32 ∨ (((bn s i % 32) * 64 + bn s (i + 1) % 64 : Nat) : Int) < 0)
      omega
    · split
      · split
        · rename_i h3
          constructor
          · intro h4; exfalso; have h4' : (((bn s i % 16) * 4096 + (bn s (i + 1) % 64) * 64 + bn s (i + 2) % 64 : Nat) : Int) < 32 := h4; omega
          · rintro (h4 | h4)
            · omega
            · have h4' : (((bn s i % 16) * 4096 + (bn s (i + 1) % 64) * 64 + bn s (i + 2) % 64 : Nat) : Int) < 0 := h4; omega
        · show ((-1 : Int) < 32 ↔ bn s i < 32 ∨ (-1 : Int) < 0)
          omega
      · split
        · split
          · rename_i h3
            constructor
            · intro h4; exfalso; have h4' : (((bn s i % 8) * 262144 + (bn s (i + 1) % 64) * 4096 + (bn s (i + 2) % 64) * 64 + bn s (i + 3) % 64 : Nat) : Int) < 32 := h4; omega
            · rintro (h4 | h4)
              · omega
              · have h4' : (((bn s i % 8) * 262144 + (bn s (i + 1) % 64) * 4096 + (bn s (i + 2) % 64) * 64 + bn s (i + 3) % 64 : Nat) : Int) < 0 := h4; omega
          · show ((-1 : Int) < 32 ↔ bn s i < 32 ∨ (-1 : Int) < 0)
            omega
        · show ((-1 : Int) < 32 ↔ bn s i < 32 ∨ (-1 : Int) < 0)
          omega
def unq1 (o : Option (List UInt8 × Nat)) : ByteArray × Int × Int := match o with | some (l, j) => (⟨l.toArray⟩, (j : Int), 0) | none => (⟨#[]⟩, 0, 2)
set_option maxHeartbeats 2000000 in
theorem refUnq_from (s : ByteArray) (hs : s.size ≤ 1000000) : ∀ (f i k : Nat) (acc : ByteArray), 2 * f + 45 ≤ k → i ≤ s.size → s.size < i + f → acc.size ≤ 4 * i →
    erratumref07_Unquote.l0 k s acc (i : Int) = some (unq1 (textR s f i acc.data.toList))
  | 0, i, k, acc, _, _, hf, _ => by omega
  | f + 1, i, k, acc, hk, hi, hf, ha => by
    obtain ⟨k', rfl⟩ : ∃ k', k = k' + 2 := ⟨k - 2, by omega⟩
    have hnone : some ((⟨#[]⟩ : ByteArray), (0 : Int), (2 : Int)) = some (unq1 none) := rfl
    rw [erratumref07_Unquote.l0, textR]
    by_cases hlt : i < s.size
    · rw [if_pos (by omega), if_pos (by omega), bt_bn, if_pos hlt]
      by_cases h34 : bn s i = 34
      · rw [if_pos h34, show (((bn s i : Nat) : Int) != 34) = false by rw [h34]; rfl, erratumref07_Unquote.j2, if_neg (by simp), if_neg (by omega), w64s _ (by omega) (by omega)]
        rfl
      · rw [if_neg h34, show (((bn s i : Nat) : Int) != 34) = true by simp; omega, erratumref07_Unquote.j2, if_pos rfl, if_pos (by omega), if_pos (by omega), bt_bn]
        by_cases h92 : bn s i = 92
        · rw [if_pos (by omega), if_pos h92, show wrap64 ((i : Int) + 1) = ((i + 1 : Nat) : Int) by rw [w64s _ (by omega) (by omega)]; rfl, refEscape_k s hs (i + 1) _ (by omega), Option.bind_some]
          cases he : escR s (i + 1) with
          | none => rfl
          | some p =>
            obtain ⟨t, j⟩ := p
            obtain ⟨ht, hj1, hj2⟩ := escR_in he
            show (if ((j : Int) = 0) then _ else _) = _
            rw [if_neg (by omega)]
            show (if acc.size + t.size ≤ 9223372036854775807 then erratumref07_Unquote.l0 k' s (acc ++ t) (j : Int) else none) = some (unq1 (textR s f j (acc.data.toList ++ t.data.toList)))
            rw [if_pos (by omega), refUnq_from s hs f j k' (acc ++ t) (by omega) (by omega) (by omega) (by rw [ByteArray.size_append]; omega), ByteArray.data_append, Array.toList_append]
        · rw [if_neg (by omega), if_neg h92, refRune_k s _ (by omega) _ (by omega), Option.bind_some]
          have hl := runeU_low s i hlt
          obtain ⟨hw, hm1, hml⟩ := runeU_wid s i hlt
          by_cases hr : (runeU s i).1 < 32
          · rw [if_pos hr]
            by_cases hb : bn s i < 32
            · rw [if_pos hb]; rfl
            · rw [if_neg hb, if_pos ((hl.1 hr).resolve_left hb)]; rfl
          · rw [if_neg hr, if_neg (fun h => hr (hl.2 (.inl h))), if_neg (fun h => hr (hl.2 (.inr h)))]
            rw [hw]
            generalize (Utf8.decode s i).2 = m at *
            have e1 : wrap64 ((i : Int) + (m : Int)) = ((i + m : Nat) : Int) := by rw [w64s _ (by omega) (by omega)]; omega
            have hx : (s.extract i (i + m)).size = m := by rw [ByteArray.size_extract]; omega
            rw [e1, if_pos (by omega), if_pos (by omega), Int.toNat_natCast, Int.toNat_natCast, Int.toNat_natCast, if_pos (by rw [hx]; omega),
              refUnq_from s hs f (i + m) k' (acc ++ s.extract i (i + m)) (by omega) (by omega) (by omega) (by rw [ByteArray.size_append, hx]; omega), ByteArray.data_append, Array.toList_append]
    · rw [if_neg (by omega), if_neg hlt, erratumref07_Unquote.j2, if_neg (by simp), if_pos (by omega)]
      rfl
theorem refUnq_k (s : ByteArray) (hs : s.size ≤ 1000000) (at_ : Int) (k : Nat) (hk : 2 * s.size + 60 ≤ k) : erratumref07_Unquote.f k s at_ = some (unqU s at_) := by
  obtain ⟨k', rfl⟩ : ∃ k', k = k' + 1 := ⟨k - 1, by omega⟩
  have bad : erratumref07_Unquote.j0 (k' + 1) s at_ true = some (⟨#[]⟩, 0, 2) := by rw [erratumref07_Unquote.j0, if_pos rfl]
  rw [erratumref07_Unquote.f, unqU]
  by_cases h0 : at_ < 0
  · rw [if_pos h0, bad, if_pos (.inl h0)]
  · rw [if_neg h0]
    by_cases h1 : at_ ≥ (s.size : Int)
    · rw [if_pos h1, bad, if_pos (.inr (.inl h1))]
    · rw [if_neg h1, if_pos (by omega), if_pos (by omega)]
      obtain ⟨a, rfl⟩ : ∃ a : Nat, at_ = a := ⟨at_.toNat, by omega⟩
      rw [bt_bn, Int.toNat_natCast]
      by_cases h2 : bn s a = 34
      · rw [show (((bn s a : Nat) : Int) != 34) = false by rw [h2]; rfl, if_neg (by rintro (h | h | h) <;> omega), erratumref07_Unquote.j0, if_neg (by simp),
          show wrap64 ((a : Int) + 1) = ((a + 1 : Nat) : Int) by rw [w64s _ (by omega) (by omega)]; rfl,
          refUnq_from s hs (s.size - a) (a + 1) k' ⟨#[]⟩ (by omega) (by omega) (by omega) (Nat.zero_le _)]
        rfl
      · rw [show (((bn s a : Nat) : Int) != 34) = true by simp; omega, bad, if_pos (.inr (.inr h2))]
end Go.Proofs.YtpamgedmgjfjjaaDoor.M
end
section
namespace Go.Proofs.YtpamgedmgjfjjaaDoor.M
open Go.RowKit Go.Proofs.YtpamgedmgjfjjaaDoorW.PrintWords Go.Proofs.YtpamgedmgjfjjaaDoorW.PrintLast Go.Proofs.YtpamgedmgjfjjaaDoorW.PrintMore
set_option linter.unusedVariables false
set_option linter.unusedSimpArgs false
theorem escL_of (b : UInt8) (c : Nat) (x : List UInt8) (hb : b.toNat = c) (h0 : ¬ (escB c).size = 0) (hx : (escB c).data.toList = x) : escL b = x := by
  unfold escL
  rw [hb, if_neg h0, hx]
theorem escL_self (b : UInt8) (c : Nat) (hb : b.toNat = c) (h0 : (escB c).size = 0) : escL b = [b] := by
  unfold escL
  rw [hb, if_pos h0]
theorem ba_append (a b : ByteArray) : (a ++ b).data.toList = a.data.toList ++ b.data.toList := by
  rw [ByteArray.data_append, Array.toList_append]
theorem ext_one (s : ByteArray) (k : Nat) (h : k < s.size) : (s.extract k (k + 1)).data.toList = [s[k]'h] := by
  rw [ByteArray.data_extract, Array.toList_extract, List.extract_eq_take_drop]
  have hl : k < s.data.toList.length := by rw [data_length]; exact h
  rw [show k + 1 - k = 1 by omega, List.drop_eq_getElem_cons hl, List.take_succ_cons, List.take_zero]
  rfl
set_option maxHeartbeats 16000000 in
set_option maxRecDepth 100000 in
theorem refQuote_calls (s : ByteArray) (w : World) (hs : s.size ≤ 1000000) :
    Calls Tryd.prog 43 #[.string s] w fun e w' => e = .returned (.string (quoteU s)) ∧ Below w.heap.size w w' := by
  have HS := Aside0.mk hs
  have HV := Aside0.mk (erratumref04_Valid.calls _ _ _ w (refValid_k s hs (s.size + 5) (Nat.le_refl _)))
  obtain ⟨o, ho⟩ : ∃ o, quoteU s = o := ⟨_, rfl⟩
  rw [ho]
  rw [quoteU] at ho
  have HO := Aside0.mk ho
  clear ho
  cases hv : validU s s.size 0 with
  | false =>
    rw [hv] at HV HO
    go_enter Tryd.func43, Tryd.ntmps43
    go_wp2_with (go_at_call 27; refine HV.out.mono ?_; rintro e w1 ⟨rfl, hb⟩)
    go_ret
    exact ⟨by rw [← HO.out]; rfl, hb⟩
  | true =>
    rw [hv, if_pos rfl] at HO
    rw [hv] at HV
    clear hv
    go_enter Tryd.func43, Tryd.ntmps43
    go_wp2_with fail
    refine HV.out.mono ?_
    rintro e w1 ⟨rfl, hb⟩
    have HB1 := Aside0.mk hb
    clear HV hb
    go_wp2
    go_loopw [3, 4] (fun v3 v4 wr => ∃ (k : Nat) (q : ByteArray), v4 = .int .i64 k ∧ v3 = .string q ∧ Aside0 (k ≤ s.size) ∧ Aside0 (q.data.toList = 34 :: quoteL (s.data.toList.take k)) ∧ Aside0 (Below w.heap.size w wr))
      (fun v3 v4 wr => s.size - (RowKit.intOf v4).toNat)
    case atStart => exact ⟨0, _, rfl, rfl, ⟨Nat.zero_le _⟩, ⟨by simp [quoteL]⟩, HB1⟩
    case round =>
      obtain ⟨k, q, rfl, rfl, HK, HQ, HB⟩ := hrel
      have hlen := quoteL_len (s.data.toList.take k)
      rw [List.length_take] at hlen
      have hqs : q.size ≤ 10000000 := by
        have h := congrArg List.length HQ.out
        have hdl := data_length s
        have hkk := HK.out
        rw [data_length, List.length_cons] at h
        omega
      by_cases hk : k < s.size
      · have n1 : decide ((k : Int) < (s.size : Int)) = true := decide_eq_true (by omega)
        have b1 : (0 : Int) ≤ (k : Int) := by omega
        have b2 : (k : Int) < (s.size : Int) := by omega
        have b3 : (k : Int) ≤ (k : Int) + 1 := by omega
        have b4 : (k : Int) + 1 ≤ (s.size : Int) := by omega
        have hin : ((k : Int) + 1).toNat = k + 1 := by omega
        have HT := Aside0.mk (quoteL_take s.data.toList k (s[k]'hk) (by rw [List.getElem?_eq_getElem (by rw [data_length]; exact hk)]; rfl))
        have HX1 := Aside0.mk (ext_one s k hk)
        have hxs : (s.extract k (k + 1)).size = 1 := by rw [ByteArray.size_extract]; omega
        have hcl : (s[k]'hk).toNat < 256 := (s[k]'hk).toNat_lt
        have HC := Aside0.mk (rfl : (s[k]'hk).toNat = (s[k]'hk).toNat)
        have HD := Aside0.mk (show ∀ c, (s[k]'hk).toNat = c → (s[k]'hk) = UInt8.ofNat c from fun c h => by rw [← h]; simp)
        have HES := Aside0.mk (fun c x h0 hx (h : (s[k]'hk).toNat = c) => escL_of (s[k]'hk) c x h h0 hx)
        have HEQ := Aside0.mk (fun c h0 (h : (s[k]'hk).toNat = c) => escL_self (s[k]'hk) c h h0)
        generalize hx : s.extract k (k + 1) = x at *
        generalize hsk : s[k]'hk = b at *
        generalize hcc : b.toNat = c at *
        clear hlen
        by_cases c34 : c = 34
        · subst c34
          go_wp2
          refine ⟨⟨k + 1, _, rfl, rfl, ⟨by omega⟩, ⟨?_⟩, HB⟩, ?_⟩
          · simp only [ba_append]
            rw [HQ.out, HT.out, HES.out 34 [92, 34] (by decide) (by decide) rfl]
            rw [HX1.out, HD.out 34 rfl]; simp
          · simp [RowKit.intOf]
            omega
        by_cases c92 : c = 92
        · subst c92
          go_wp2
          refine ⟨⟨k + 1, _, rfl, rfl, ⟨by omega⟩, ⟨?_⟩, HB⟩, ?_⟩
          · simp only [ba_append]
            rw [HQ.out, HT.out, HES.out 92 [92, 92] (by decide) (by decide) rfl]
            rw [HX1.out, HD.out 92 rfl]; simp
          · simp [RowKit.intOf]
            omega
        by_cases c8 : c = 8
        · subst c8
          go_wp2
          refine ⟨⟨k + 1, _, rfl, rfl, ⟨by omega⟩, ⟨?_⟩, HB⟩, ?_⟩
          · simp only [ba_append]
            rw [HQ.out, HT.out, HES.out 8 [92, 98] (by decide) (by decide) rfl]
            simp
          · simp [RowKit.intOf]
            omega
        by_cases c9 : c = 9
        · subst c9
          go_wp2
          refine ⟨⟨k + 1, _, rfl, rfl, ⟨by omega⟩, ⟨?_⟩, HB⟩, ?_⟩
          · simp only [ba_append]
            rw [HQ.out, HT.out, HES.out 9 [92, 116] (by decide) (by decide) rfl]
            simp
          · simp [RowKit.intOf]
            omega
        by_cases c10 : c = 10
        · subst c10
          go_wp2
          refine ⟨⟨k + 1, _, rfl, rfl, ⟨by omega⟩, ⟨?_⟩, HB⟩, ?_⟩
          · simp only [ba_append]
            rw [HQ.out, HT.out, HES.out 10 [92, 110] (by decide) (by decide) rfl]
            simp
          · simp [RowKit.intOf]
            omega
        by_cases c12 : c = 12
        · subst c12
          go_wp2
          refine ⟨⟨k + 1, _, rfl, rfl, ⟨by omega⟩, ⟨?_⟩, HB⟩, ?_⟩
          · simp only [ba_append]
            rw [HQ.out, HT.out, HES.out 12 [92, 102] (by decide) (by decide) rfl]
            simp
          · simp [RowKit.intOf]
            omega
        by_cases c13 : c = 13
        · subst c13
          go_wp2
          refine ⟨⟨k + 1, _, rfl, rfl, ⟨by omega⟩, ⟨?_⟩, HB⟩, ?_⟩
          · simp only [ba_append]
            rw [HQ.out, HT.out, HES.out 13 [92, 114] (by decide) (by decide) rfl]
            simp
          · simp [RowKit.intOf]
            omega
        by_cases c32 : c < 32
        · have hv : c = 0 ∨ c = 1 ∨ c = 2 ∨ c = 3 ∨ c = 4 ∨ c = 5 ∨ c = 6 ∨ c = 7 ∨ c = 11 ∨ c = 14 ∨ c = 15 ∨ c = 16 ∨ c = 17 ∨ c = 18 ∨ c = 19 ∨ c = 20 ∨ c = 21 ∨ c = 22 ∨ c = 23 ∨ c = 24 ∨ c = 25 ∨ c = 26 ∨ c = 27 ∨ c = 28 ∨ c = 29 ∨ c = 30 ∨ c = 31 := by omega
          clear c34 c92 c8 c9 c10 c12 c13 c32 hcl
          rcases hv with rfl | rfl | rfl | rfl | rfl | rfl | rfl | rfl | rfl | rfl | rfl | rfl | rfl | rfl | rfl | rfl | rfl | rfl | rfl | rfl | rfl | rfl | rfl | rfl | rfl | rfl | rfl
          · go_wp2
            go_quiet (fail)
            go_wp2
            refine ⟨⟨k + 1, _, rfl, rfl, ⟨by omega⟩, ⟨?_⟩, ⟨HB.out.trans ⟨rfl, rfl, rfl, Nat.le_refl _, fun _ _ => rfl⟩⟩⟩, ?_⟩
            · simp only [ba_append]
              rw [HQ.out, HT.out, HES.out 0 [92, 117, 48, 48, 48, 48] (by decide +kernel) (by decide +kernel) rfl]
              rw [show ((⟨#[48, 49]⟩ : ByteArray).extract 0 1).data.toList = [48] by decide +kernel, show ((⟨#[48, 49, 50, 51, 52, 53, 54, 55, 56, 57, 97, 98, 99, 100, 101, 102]⟩ : ByteArray).extract 0 1).data.toList = [48] by decide +kernel]; simp
            · simp [RowKit.intOf]
              omega
          · go_wp2
            go_quiet (fail)
            go_wp2
            refine ⟨⟨k + 1, _, rfl, rfl, ⟨by omega⟩, ⟨?_⟩, ⟨HB.out.trans ⟨rfl, rfl, rfl, Nat.le_refl _, fun _ _ => rfl⟩⟩⟩, ?_⟩
            · simp only [ba_append]
              rw [HQ.out, HT.out, HES.out 1 [92, 117, 48, 48, 48, 49] (by decide +kernel) (by decide +kernel) rfl]
              rw [show ((⟨#[48, 49]⟩ : ByteArray).extract 0 1).data.toList = [48] by decide +kernel, show ((⟨#[48, 49, 50, 51, 52, 53, 54, 55, 56, 57, 97, 98, 99, 100, 101, 102]⟩ : ByteArray).extract 1 2).data.toList = [49] by decide +kernel]; simp
            · simp [RowKit.intOf]
              omega
          · go_wp2
            go_quiet (fail)
            go_wp2
            refine ⟨⟨k + 1, _, rfl, rfl, ⟨by omega⟩, ⟨?_⟩, ⟨HB.out.trans ⟨rfl, rfl, rfl, Nat.le_refl _, fun _ _ => rfl⟩⟩⟩, ?_⟩
            · simp only [ba_append]
              rw [HQ.out, HT.out, HES.out 2 [92, 117, 48, 48, 48, 50] (by decide +kernel) (by decide +kernel) rfl]
              rw [show ((⟨#[48, 49]⟩ : ByteArray).extract 0 1).data.toList = [48] by decide +kernel, show ((⟨#[48, 49, 50, 51, 52, 53, 54, 55, 56, 57, 97, 98, 99, 100, 101, 102]⟩ : ByteArray).extract 2 3).data.toList = [50] by decide +kernel]; simp
            · simp [RowKit.intOf]
              omega
          · go_wp2
            go_quiet (fail)
            go_wp2
            refine ⟨⟨k + 1, _, rfl, rfl, ⟨by omega⟩, ⟨?_⟩, ⟨HB.out.trans ⟨rfl, rfl, rfl, Nat.le_refl _, fun _ _ => rfl⟩⟩⟩, ?_⟩
            · simp only [ba_append]
              rw [HQ.out, HT.out, HES.out 3 [92, 117, 48, 48, 48, 51] (by decide +kernel) (by decide +kernel) rfl]
              rw [show ((⟨#[48, 49]⟩ : ByteArray).extract 0 1).data.toList = [48] by decide +kernel, show ((⟨#[48, 49, 50, 51, 52, 53, 54, 55, 56, 57, 97, 98, 99, 100, 101, 102]⟩ : ByteArray).extract 3 4).data.toList = [51] by decide +kernel]; simp
            · simp [RowKit.intOf]
              omega
          · go_wp2
            go_quiet (fail)
            go_wp2
            refine ⟨⟨k + 1, _, rfl, rfl, ⟨by omega⟩, ⟨?_⟩, ⟨HB.out.trans ⟨rfl, rfl, rfl, Nat.le_refl _, fun _ _ => rfl⟩⟩⟩, ?_⟩
            · simp only [ba_append]
              rw [HQ.out, HT.out, HES.out 4 [92, 117, 48, 48, 48, 52] (by decide +kernel) (by decide +kernel) rfl]
              rw [show ((⟨#[48, 49]⟩ : ByteArray).extract 0 1).data.toList = [48] by decide +kernel, show ((⟨#[48, 49, 50, 51, 52, 53, 54, 55, 56, 57, 97, 98, 99, 100, 101, 102]⟩ : ByteArray).extract 4 5).data.toList = [52] by decide +kernel]; simp
            · simp [RowKit.intOf]
              omega
          · go_wp2
            go_quiet (fail)
            go_wp2
            refine ⟨⟨k + 1, _, rfl, rfl, ⟨by omega⟩, ⟨?_⟩, ⟨HB.out.trans ⟨rfl, rfl, rfl, Nat.le_refl _, fun _ _ => rfl⟩⟩⟩, ?_⟩
            · simp only [ba_append]
              rw [HQ.out, HT.out, HES.out 5 [92, 117, 48, 48, 48, 53] (by decide +kernel) (by decide +kernel) rfl]
              rw [show ((⟨#[48, 49]⟩ : ByteArray).extract 0 1).data.toList = [48] by decide +kernel, show ((⟨#[48, 49, 50, 51, 52, 53, 54, 55, 56, 57, 97, 98, 99, 100, 101, 102]⟩ : ByteArray).extract 5 6).data.toList = [53] by decide +kernel]; simp
            · simp [RowKit.intOf]
              omega
          · go_wp2
            go_quiet (fail)
            go_wp2
            refine ⟨⟨k + 1, _, rfl, rfl, ⟨by omega⟩, ⟨?_⟩, ⟨HB.out.trans ⟨rfl, rfl, rfl, Nat.le_refl _, fun _ _ => rfl⟩⟩⟩, ?_⟩
            · simp only [ba_append]
              rw [HQ.out, HT.out, HES.out 6 [92, 117, 48, 48, 48, 54] (by decide +kernel) (by decide +kernel) rfl]
              rw [show ((⟨#[48, 49]⟩ : ByteArray).extract 0 1).data.toList = [48] by decide +kernel, show ((⟨#[48, 49, 50, 51, 52, 53, 54, 55, 56, 57, 97, 98, 99, 100, 101, 102]⟩ : ByteArray).extract 6 7).data.toList = [54] by decide +kernel]; simp
            · simp [RowKit.intOf]
              omega
          · go_wp2
            go_quiet (fail)
            go_wp2
            refine ⟨⟨k + 1, _, rfl, rfl, ⟨by omega⟩, ⟨?_⟩, ⟨HB.out.trans ⟨rfl, rfl, rfl, Nat.le_refl _, fun _ _ => rfl⟩⟩⟩, ?_⟩
            · simp only [ba_append]
              rw [HQ.out, HT.out, HES.out 7 [92, 117, 48, 48, 48, 55] (by decide +kernel) (by decide +kernel) rfl]
              rw [show ((⟨#[48, 49]⟩ : ByteArray).extract 0 1).data.toList = [48] by decide +kernel, show ((⟨#[48, 49, 50, 51, 52, 53, 54, 55, 56, 57, 97, 98, 99, 100, 101, 102]⟩ : ByteArray).extract 7 8).data.toList = [55] by decide +kernel]; simp
            · simp [RowKit.intOf]
              omega
          · go_wp2
            go_quiet (fail)
            go_wp2
            refine ⟨⟨k + 1, _, rfl, rfl, ⟨by omega⟩, ⟨?_⟩, ⟨HB.out.trans ⟨rfl, rfl, rfl, Nat.le_refl _, fun _ _ => rfl⟩⟩⟩, ?_⟩
            · simp only [ba_append]
              rw [HQ.out, HT.out, HES.out 11 [92, 117, 48, 48, 48, 98] (by decide +kernel) (by decide +kernel) rfl]
              rw [show ((⟨#[48, 49]⟩ : ByteArray).extract 0 1).data.toList = [48] by decide +kernel, show ((⟨#[48, 49, 50, 51, 52, 53, 54, 55, 56, 57, 97, 98, 99, 100, 101, 102]⟩ : ByteArray).extract 11 12).data.toList = [98] by decide +kernel]; simp
            · simp [RowKit.intOf]
              omega
          · go_wp2
            go_quiet (fail)
            go_wp2
            refine ⟨⟨k + 1, _, rfl, rfl, ⟨by omega⟩, ⟨?_⟩, ⟨HB.out.trans ⟨rfl, rfl, rfl, Nat.le_refl _, fun _ _ => rfl⟩⟩⟩, ?_⟩
            · simp only [ba_append]
              rw [HQ.out, HT.out, HES.out 14 [92, 117, 48, 48, 48, 101] (by decide +kernel) (by decide +kernel) rfl]
              rw [show ((⟨#[48, 49]⟩ : ByteArray).extract 0 1).data.toList = [48] by decide +kernel, show ((⟨#[48, 49, 50, 51, 52, 53, 54, 55, 56, 57, 97, 98, 99, 100, 101, 102]⟩ : ByteArray).extract 14 15).data.toList = [101] by decide +kernel]; simp
            · simp [RowKit.intOf]
              omega
          · go_wp2
            go_quiet (fail)
            go_wp2
            refine ⟨⟨k + 1, _, rfl, rfl, ⟨by omega⟩, ⟨?_⟩, ⟨HB.out.trans ⟨rfl, rfl, rfl, Nat.le_refl _, fun _ _ => rfl⟩⟩⟩, ?_⟩
            · simp only [ba_append]
              rw [HQ.out, HT.out, HES.out 15 [92, 117, 48, 48, 48, 102] (by decide +kernel) (by decide +kernel) rfl]
              rw [show ((⟨#[48, 49]⟩ : ByteArray).extract 0 1).data.toList = [48] by decide +kernel, show ((⟨#[48, 49, 50, 51, 52, 53, 54, 55, 56, 57, 97, 98, 99, 100, 101, 102]⟩ : ByteArray).extract 15 16).data.toList = [102] by decide +kernel]; simp
            · simp [RowKit.intOf]
              omega
          · go_wp2
            go_quiet (fail)
            go_wp2
            refine ⟨⟨k + 1, _, rfl, rfl, ⟨by omega⟩, ⟨?_⟩, ⟨HB.out.trans ⟨rfl, rfl, rfl, Nat.le_refl _, fun _ _ => rfl⟩⟩⟩, ?_⟩
            · simp only [ba_append]
              rw [HQ.out, HT.out, HES.out 16 [92, 117, 48, 48, 49, 48] (by decide +kernel) (by decide +kernel) rfl]
              rw [show ((⟨#[48, 49]⟩ : ByteArray).extract 1 2).data.toList = [49] by decide +kernel, show ((⟨#[48, 49, 50, 51, 52, 53, 54, 55, 56, 57, 97, 98, 99, 100, 101, 102]⟩ : ByteArray).extract 0 1).data.toList = [48] by decide +kernel]; simp
            · simp [RowKit.intOf]
              omega
          · go_wp2
            go_quiet (fail)
            go_wp2
            refine ⟨⟨k + 1, _, rfl, rfl, ⟨by omega⟩, ⟨?_⟩, ⟨HB.out.trans ⟨rfl, rfl, rfl, Nat.le_refl _, fun _ _ => rfl⟩⟩⟩, ?_⟩
            · simp only [ba_append]
              rw [HQ.out, HT.out, HES.out 17 [92, 117, 48, 48, 49, 49] (by decide +kernel) (by decide +kernel) rfl]
              rw [show ((⟨#[48, 49]⟩ : ByteArray).extract 1 2).data.toList = [49] by decide +kernel, show ((⟨#[48, 49, 50, 51, 52, 53, 54, 55, 56, 57, 97, 98, 99, 100, 101, 102]⟩ : ByteArray).extract 1 2).data.toList = [49] by decide +kernel]; simp
            · simp [RowKit.intOf]
              omega
          · go_wp2
            go_quiet (fail)
            go_wp2
            refine ⟨⟨k + 1, _, rfl, rfl, ⟨by omega⟩, ⟨?_⟩, ⟨HB.out.trans ⟨rfl, rfl, rfl, Nat.le_refl _, fun _ _ => rfl⟩⟩⟩, ?_⟩
            · simp only [ba_append]
              rw [HQ.out, HT.out, HES.out 18 [92, 117, 48, 48, 49, 50] (by decide +kernel) (by decide +kernel) rfl]
              rw [show ((⟨#[48, 49]⟩ : ByteArray).extract 1 2).data.toList = [49] by decide +kernel, show ((⟨#[48, 49, 50, 51, 52, 53, 54, 55, 56, 57, 97, 98, 99, 100, 101, 102]⟩ : ByteArray).extract 2 3).data.toList = [50] by decide +kernel]; simp
            · simp [RowKit.intOf]
              omega
          · go_wp2
            go_quiet (fail)
            go_wp2
            refine ⟨⟨k + 1, _, rfl, rfl, ⟨by omega⟩, ⟨?_⟩, ⟨HB.out.trans ⟨rfl, rfl, rfl, Nat.le_refl _, fun _ _ => rfl⟩⟩⟩, ?_⟩
            · simp only [ba_append]
              rw [HQ.out, HT.out, HES.out 19 [92, 117, 48, 48, 49, 51] (by decide +kernel) (by decide +kernel) rfl]
              rw [show ((⟨#[48, 49]⟩ : ByteArray).extract 1 2).data.toList = [49] by decide +kernel, show ((⟨#[48, 49, 50, 51, 52, 53, 54, 55, 56, 57, 97, 98, 99, 100, 101, 102]⟩ : ByteArray).extract 3 4).data.toList = [51] by decide +kernel]; simp
            · simp [RowKit.intOf]
              omega
          · go_wp2
            go_quiet (fail)
            go_wp2
            refine ⟨⟨k + 1, _, rfl, rfl, ⟨by omega⟩, ⟨?_⟩, ⟨HB.out.trans ⟨rfl, rfl, rfl, Nat.le_refl _, fun _ _ => rfl⟩⟩⟩, ?_⟩
            · simp only [ba_append]
              rw [HQ.out, HT.out, HES.out 20 [92, 117, 48, 48, 49, 52] (by decide +kernel) (by decide +kernel) rfl]
              rw [show ((⟨#[48, 49]⟩ : ByteArray).extract 1 2).data.toList = [49] by decide +kernel, show ((⟨#[48, 49, 50, 51, 52, 53, 54, 55, 56, 57, 97, 98, 99, 100, 101, 102]⟩ : ByteArray).extract 4 5).data.toList = [52] by decide +kernel]; simp
            · simp [RowKit.intOf]
              omega
          · go_wp2
            go_quiet (fail)
            go_wp2
            refine ⟨⟨k + 1, _, rfl, rfl, ⟨by omega⟩, ⟨?_⟩, ⟨HB.out.trans ⟨rfl, rfl, rfl, Nat.le_refl _, fun _ _ => rfl⟩⟩⟩, ?_⟩
            · simp only [ba_append]
              rw [HQ.out, HT.out, HES.out 21 [92, 117, 48, 48, 49, 53] (by decide +kernel) (by decide +kernel) rfl]
              rw [show ((⟨#[48, 49]⟩ : ByteArray).extract 1 2).data.toList = [49] by decide +kernel, show ((⟨#[48, 49, 50, 51, 52, 53, 54, 55, 56, 57, 97, 98, 99, 100, 101, 102]⟩ : ByteArray).extract 5 6).data.toList = [53] by decide +kernel]; simp
            · simp [RowKit.intOf]
              omega
          · go_wp2
            go_quiet (fail)
            go_wp2
            refine ⟨⟨k + 1, _, rfl, rfl, ⟨by omega⟩, ⟨?_⟩, ⟨HB.out.trans ⟨rfl, rfl, rfl, Nat.le_refl _, fun _ _ => rfl⟩⟩⟩, ?_⟩
            · simp only [ba_append]
              rw [HQ.out, HT.out, HES.out 22 [92, 117, 48, 48, 49, 54] (by decide +kernel) (by decide +kernel) rfl]
              rw [show ((⟨#[48, 49]⟩ : ByteArray).extract 1 2).data.toList = [49] by decide +kernel, show ((⟨#[48, 49, 50, 51, 52, 53, 54, 55, 56, 57, 97, 98, 99, 100, 101, 102]⟩ : ByteArray).extract 6 7).data.toList = [54] by decide +kernel]; simp
            · simp [RowKit.intOf]
              omega
          · go_wp2
            go_quiet (fail)
            go_wp2
            refine ⟨⟨k + 1, _, rfl, rfl, ⟨by omega⟩, ⟨?_⟩, ⟨HB.out.trans ⟨rfl, rfl, rfl, Nat.le_refl _, fun _ _ => rfl⟩⟩⟩, ?_⟩
            · simp only [ba_append]
              rw [HQ.out, HT.out, HES.out 23 [92, 117, 48, 48, 49, 55] (by decide +kernel) (by decide +kernel) rfl]
              rw [show ((⟨#[48, 49]⟩ : ByteArray).extract 1 2).data.toList = [49] by decide +kernel, show ((⟨#[48, 49, 50, 51, 52, 53, 54, 55, 56, 57, 97, 98, 99, 100, 101, 102]⟩ : ByteArray).extract 7 8).data.toList = [55] by decide +kernel]; simp
            · simp [RowKit.intOf]
              omega
          · go_wp2
            go_quiet (fail)
            go_wp2
            refine ⟨⟨k + 1, _, rfl, rfl, ⟨by omega⟩, ⟨?_⟩, ⟨HB.out.trans ⟨rfl, rfl, rfl, Nat.le_refl _, fun _ _ => rfl⟩⟩⟩, ?_⟩
            · simp only [ba_append]
              rw [HQ.out, HT.out, HES.out 24 [92, 117, 48, 48, 49, 56] (by decide +kernel) (by decide +kernel) rfl]
              rw [show ((⟨#[48, 49]⟩ : ByteArray).extract 1 2).data.toList = [49] by decide +kernel, show ((⟨#[48, 49, 50, 51, 52, 53, 54, 55, 56, 57, 97, 98, 99, 100, 101, 102]⟩ : ByteArray).extract 8 9).data.toList = [56] by decide +kernel]; simp
            · simp [RowKit.intOf]
              omega
          · go_wp2
            go_quiet (fail)
            go_wp2
            refine ⟨⟨k + 1, _, rfl, rfl, ⟨by omega⟩, ⟨?_⟩, ⟨HB.out.trans ⟨rfl, rfl, rfl, Nat.le_refl _, fun _ _ => rfl⟩⟩⟩, ?_⟩
            · simp only [ba_append]
              rw [HQ.out, HT.out, HES.out 25 [92, 117, 48, 48, 49, 57] (by decide +kernel) (by decide +kernel) rfl]
              rw [show ((⟨#[48, 49]⟩ : ByteArray).extract 1 2).data.toList = [49] by decide +kernel, show ((⟨#[48, 49, 50, 51, 52, 53, 54, 55, 56, 57, 97, 98, 99, 100, 101, 102]⟩ : ByteArray).extract 9 10).data.toList = [57] by decide +kernel]; simp
            · simp [RowKit.intOf]
              omega
          · go_wp2
            go_quiet (fail)
            go_wp2
            refine ⟨⟨k + 1, _, rfl, rfl, ⟨by omega⟩, ⟨?_⟩, ⟨HB.out.trans ⟨rfl, rfl, rfl, Nat.le_refl _, fun _ _ => rfl⟩⟩⟩, ?_⟩
            · simp only [ba_append]
              rw [HQ.out, HT.out, HES.out 26 [92, 117, 48, 48, 49, 97] (by decide +kernel) (by decide +kernel) rfl]
              rw [show ((⟨#[48, 49]⟩ : ByteArray).extract 1 2).data.toList = [49] by decide +kernel, show ((⟨#[48, 49, 50, 51, 52, 53, 54, 55, 56, 57, 97, 98, 99, 100, 101, 102]⟩ : ByteArray).extract 10 11).data.toList = [97] by decide +kernel]; simp
            · simp [RowKit.intOf]
              omega
          · go_wp2
            go_quiet (fail)
            go_wp2
            refine ⟨⟨k + 1, _, rfl, rfl, ⟨by omega⟩, ⟨?_⟩, ⟨HB.out.trans ⟨rfl, rfl, rfl, Nat.le_refl _, fun _ _ => rfl⟩⟩⟩, ?_⟩
            · simp only [ba_append]
              rw [HQ.out, HT.out, HES.out 27 [92, 117, 48, 48, 49, 98] (by decide +kernel) (by decide +kernel) rfl]
              rw [show ((⟨#[48, 49]⟩ : ByteArray).extract 1 2).data.toList = [49] by decide +kernel, show ((⟨#[48, 49, 50, 51, 52, 53, 54, 55, 56, 57, 97, 98, 99, 100, 101, 102]⟩ : ByteArray).extract 11 12).data.toList = [98] by decide +kernel]; simp
            · simp [RowKit.intOf]
              omega
          · go_wp2
            go_quiet (fail)
            go_wp2
            refine ⟨⟨k + 1, _, rfl, rfl, ⟨by omega⟩, ⟨?_⟩, ⟨HB.out.trans ⟨rfl, rfl, rfl, Nat.le_refl _, fun _ _ => rfl⟩⟩⟩, ?_⟩
            · simp only [ba_append]
              rw [HQ.out, HT.out, HES.out 28 [92, 117, 48, 48, 49, 99] (by decide +kernel) (by decide +kernel) rfl]
              rw [show ((⟨#[48, 49]⟩ : ByteArray).extract 1 2).data.toList = [49] by decide +kernel, show ((⟨#[48, 49, 50, 51, 52, 53, 54, 55, 56, 57, 97, 98, 99, 100, 101, 102]⟩ : ByteArray).extract 12 13).data.toList = [99] by decide +kernel]; simp
            · simp [RowKit.intOf]
              omega
          · go_wp2
            go_quiet (fail)
            go_wp2
            refine ⟨⟨k + 1, _, rfl, rfl, ⟨by omega⟩, ⟨?_⟩, ⟨HB.out.trans ⟨rfl, rfl, rfl, Nat.le_refl _, fun _ _ => rfl⟩⟩⟩, ?_⟩
            · simp only [ba_append]
              rw [HQ.out, HT.out, HES.out 29 [92, 117, 48, 48, 49, 100] (by decide +kernel) (by decide +kernel) rfl]
              rw [show ((⟨#[48, 49]⟩ : ByteArray).extract 1 2).data.toList = [49] by decide +kernel, show ((⟨#[48, 49, 50, 51, 52, 53, 54, 55, 56, 57, 97, 98, 99, 100, 101, 102]⟩ : ByteArray).extract 13 14).data.toList = [100] by decide +kernel]; simp
            · simp [RowKit.intOf]
              omega
          · go_wp2
            go_quiet (fail)
            go_wp2
            refine ⟨⟨k + 1, _, rfl, rfl, ⟨by omega⟩, ⟨?_⟩, ⟨HB.out.trans ⟨rfl, rfl, rfl, Nat.le_refl _, fun _ _ => rfl⟩⟩⟩, ?_⟩
            · simp only [ba_append]
              rw [HQ.out, HT.out, HES.out 30 [92, 117, 48, 48, 49, 101] (by decide +kernel) (by decide +kernel) rfl]
              rw [show ((⟨#[48, 49]⟩ : ByteArray).extract 1 2).data.toList = [49] by decide +kernel, show ((⟨#[48, 49, 50, 51, 52, 53, 54, 55, 56, 57, 97, 98, 99, 100, 101, 102]⟩ : ByteArray).extract 14 15).data.toList = [101] by decide +kernel]; simp
            · simp [RowKit.intOf]
              omega
          · go_wp2
            go_quiet (fail)
            go_wp2
            refine ⟨⟨k + 1, _, rfl, rfl, ⟨by omega⟩, ⟨?_⟩, ⟨HB.out.trans ⟨rfl, rfl, rfl, Nat.le_refl _, fun _ _ => rfl⟩⟩⟩, ?_⟩
            · simp only [ba_append]
              rw [HQ.out, HT.out, HES.out 31 [92, 117, 48, 48, 49, 102] (by decide +kernel) (by decide +kernel) rfl]
              rw [show ((⟨#[48, 49]⟩ : ByteArray).extract 1 2).data.toList = [49] by decide +kernel, show ((⟨#[48, 49, 50, 51, 52, 53, 54, 55, 56, 57, 97, 98, 99, 100, 101, 102]⟩ : ByteArray).extract 15 16).data.toList = [102] by decide +kernel]; simp
            · simp [RowKit.intOf]
              omega
        have m34 : ((c : Int) == 34) = false := beq_eq_false_iff_ne.2 (by omega)
        have k34 : decide ((c : Int) = 34) = false := decide_eq_false (by omega)
        have m92 : ((c : Int) == 92) = false := beq_eq_false_iff_ne.2 (by omega)
        have k92 : decide ((c : Int) = 92) = false := decide_eq_false (by omega)
        have m8 : ((c : Int) == 8) = false := beq_eq_false_iff_ne.2 (by omega)
        have k8 : decide ((c : Int) = 8) = false := decide_eq_false (by omega)
        have m9 : ((c : Int) == 9) = false := beq_eq_false_iff_ne.2 (by omega)
        have k9 : decide ((c : Int) = 9) = false := decide_eq_false (by omega)
        have m10 : ((c : Int) == 10) = false := beq_eq_false_iff_ne.2 (by omega)
        have k10 : decide ((c : Int) = 10) = false := decide_eq_false (by omega)
        have m12 : ((c : Int) == 12) = false := beq_eq_false_iff_ne.2 (by omega)
        have k12 : decide ((c : Int) = 12) = false := decide_eq_false (by omega)
        have m13 : ((c : Int) == 13) = false := beq_eq_false_iff_ne.2 (by omega)
        have k13 : decide ((c : Int) = 13) = false := decide_eq_false (by omega)
        have m32 : decide ((c : Int) < 32) = false := decide_eq_false (by omega)
        have e0 : (escB c).size = 0 := by unfold escB; rw [if_neg c34, if_neg c92, if_neg c8, if_neg c9, if_neg c10, if_neg c12, if_neg c13, if_neg c32]; rfl
        go_wp2
        refine ⟨⟨k + 1, _, rfl, rfl, ⟨by omega⟩, ⟨?_⟩, HB⟩, ?_⟩
        · simp only [ba_append]
          rw [HQ.out, HT.out, HEQ.out c e0 rfl]
          rw [HX1.out]; simp
        · simp [RowKit.intOf]
          omega
      · have n1 : decide ((k : Int) < (s.size : Int)) = false := decide_eq_false (by omega)
        have hks : k = s.size := by have := HK.out; omega
        have ht : s.data.toList.take k = s.data.toList := List.take_of_length_le (by rw [data_length]; omega)
        rw [ht] at HQ
        go_wp2
        go_ret
        refine ⟨?_, HB.out⟩
        rw [← HO.out]
        have e : q ++ (⟨#[34]⟩ : ByteArray) = ⟨(34 :: (quoteL s.data.toList ++ [34])).toArray⟩ := by
          apply ba_eq
          rw [ba_append, HQ.out]
          simp
        rw [← e]
        rfl
end Go.Proofs.YtpamgedmgjfjjaaDoor.M
end
section
namespace Go.Proofs.YtpamgedmgjfjjaaDoor.M
open Go.RowKit Go.Proofs.YtpamgedmgjfjjaaDoorW.PrintWords Go.Proofs.YtpamgedmgjfjjaaDoorW.PrintLast Go.Proofs.YtpamgedmgjfjjaaDoorW.PrintMore
set_option linter.unusedVariables false
set_option linter.unusedSimpArgs false
set_option maxHeartbeats 2000000 in
set_option maxRecDepth 100000 in
theorem jall_all (s : ByteArray) (at_ : Int) (w : World) (hT : Tabs w) : Calls Tryd.prog 11 #[.string s, .int .i64 at_] w fun e w' => e = .returned (.bool true) ∧ Below w.heap.size w w' := by
  have HT := Aside0.mk hT
  have HW := Aside0.mk (fun w1 (h : Below w.heap.size w w1) => awake07_calls w1 (tabs_below hT h))
  have HB0 := Aside0.mk (Below.refl w.heap.size w)
  by_cases h1 : 1000 < s.size
  · have n1 : decide ((s.size : Int) > 1000) = true := decide_eq_true (by omega)
    clear hT
    go_enter Tryd.func11, Tryd.ntmps11
    go_wp2_with (go_at_call 39; (with_reducible refine (HW.out _ HB0.out).mono ?_); rintro e w1 ⟨rfl, hb⟩)
    go_ret
    exact ⟨rfl, hb⟩
  · have n1 : decide ((s.size : Int) > 1000) = false := decide_eq_false (by omega)
    obtain ⟨⟨t, n, e⟩, hu⟩ : ∃ u, unqU s at_ = u := ⟨_, rfl⟩
    obtain ⟨q, hq⟩ : ∃ q, quoteU s = q := ⟨_, rfl⟩
    have h40 := unquote_calls s at_ w hT (by omega)
    have h41 := fun w1 => erratumref07_Unquote.calls (2 * s.size + 60) s at_ t n e w1 ((refUnq_k s (by omega) at_ _ (Nat.le_refl _)).trans (by rw [hu]))
    have h42 := fun w1 (h : Below w.heap.size w w1) => quote_calls s w1 (tabs_below hT h) (by omega)
    have h43 := fun w1 => refQuote_calls s w1 (by omega)
    rw [hu] at h40
    rw [hq] at h42 h43
    have H40 := Aside0.mk h40
    have H41 := Aside0.mk h41
    have H42 := Aside0.mk h42
    have H43 := Aside0.mk h43
    clear h40 h41 h42 h43 hu hq hT
    go_enter Tryd.func11, Tryd.ntmps11
    go_wp2_with (first
      | (go_at_call 40; (with_reducible refine H40.out.mono ?_); rintro e w1 ⟨rfl, hb⟩; have HB1 := Aside0.mk hb; clear hb)
      | (go_at_call 41; (with_reducible refine (H41.out _).mono ?_); rintro e w2 ⟨rfl, hb⟩; have HB2 := Aside0.mk (below_step HB1.out hb); clear hb)
      | (go_at_call 42; (with_reducible refine (H42.out _ HB2.out).mono ?_); rintro e w3 ⟨rfl, hb⟩; have HB3 := Aside0.mk (below_step HB2.out hb); clear hb)
      | (go_at_call 43; (with_reducible refine (H43.out _).mono ?_); rintro e w4 ⟨rfl, hb⟩; have HB4 := Aside0.mk (below_step HB3.out hb); clear hb)
      | (go_at_call 39; (with_reducible refine (HW.out _ HB4.out).mono ?_); rintro e w5 ⟨rfl, hb⟩; have HB5 := Aside0.mk (below_step HB4.out hb); clear hb))
    go_ret
    exact ⟨rfl, HB5.out⟩
end Go.Proofs.YtpamgedmgjfjjaaDoor.M
end
