/-
The walk of UtfBack.
-/
import Derived.Test.YtpamgedmgjfjjaaDoorXBackP
namespace Go.Proofs.YtpamgedmgjfjjaaDoor.M
open Go.RowKit Go.Proofs.YtpamgedmgjfjjaaDoorW.PrintWords Go.Proofs.YtpamgedmgjfjjaaDoorW.PrintLast Go.Proofs.YtpamgedmgjfjjaaDoorW.PrintMore
open Go.Lib (run_next_any_at run_next_end_at iterAt_heap below_iterAt width_pos decodeL decodeL_drop)
set_option linter.unusedVariables false
set_option linter.unusedSimpArgs false

set_option maxHeartbeats 1000000 in
set_option maxRecDepth 100000 in
theorem back_out (s : ByteArray) (A0 : Option Addr) (c0 : Nat) (l : List Int) (w : World) (hT : Tabs w) (h : 1000 < s.size ∨ 300 < l.length) :
    Calls Tryd.prog 7 #[.string s, .slice A0 l.length c0] w fun e w' => e = .returned (.bool true) ∧ Below w.heap.size w w' := by
  have HB0 := Aside0.mk (Below.refl w.heap.size w)
  have HW := Aside0.mk (fun w1 (h : Below w.heap.size w w1) => utf_awake_calls w1 (tabs_below hT h))
  clear hT
  by_cases h1 : 1000 < s.size
  · have d1 : decide ((1000 : Int) < (s.size : Int)) = true := decide_eq_true (by omega)
    clear h
    go_enter Tryd.func7, Tryd.ntmps7
    go_wp2_with (go_at_call 15; refine (HW.out _ HB0.out).mono ?_; rintro e w3 ⟨rfl, hb⟩; have HB3 := Aside0.mk (below_step HB0.out hb); clear hb)
    go_ret
    exact ⟨rfl, HB3.out⟩
  · have d1 : decide ((1000 : Int) < (s.size : Int)) = false := decide_eq_false (by omega)
    have d2 : decide ((300 : Int) < (l.length : Int)) = true := decide_eq_true (by omega)
    clear h
    go_enter Tryd.func7, Tryd.ntmps7
    go_wp2_with (go_at_call 15; refine (HW.out _ HB0.out).mono ?_; rintro e w3 ⟨rfl, hb⟩; have HB3 := Aside0.mk (below_step HB0.out hb); clear hb)
    go_ret
    exact ⟨rfl, HB3.out⟩
/-- What is passed of a text: so many runes. -/
structure Passed (ra : List Int) (s : ByteArray) (i pos : Nat) : Prop where
  done : ∃ d : List Int, d.length = i ∧ ra = d ++ rAll (s.data.toList.drop pos)
  good : Good (s.data.toList.drop pos)
theorem Passed.start {s : ByteArray} (h : Good s.data.toList) : Passed (rAll s.data.toList) s 0 0 := ⟨⟨[], rfl, by simp⟩, by simpa using h⟩
theorem Passed.next {ra : List Int} {s : ByteArray} {i pos : Nat} (h : Passed ra s i pos) (hp : pos < s.size) :
    i < ra.length ∧ rd ra i = ((Utf8.decode s pos).1 : Int) ∧ Passed ra s (i + 1) (pos + (Utf8.decode s pos).2) := by
  obtain ⟨⟨d, hd, he⟩, hg⟩ := h
  have hne : ¬ (s.data.toList.drop pos = []) := by
    intro h0
    have := congrArg List.length h0
    rw [List.length_drop, data_length, List.length_nil] at this
    omega
  obtain ⟨hb, hg2⟩ := good_drop hg hne
  have hs := rAll_step _ hne
  rw [headR, if_neg hb, decodeL_drop, List.drop_drop] at hs
  rw [decodeL_drop, List.drop_drop] at hg2
  rw [hs] at he
  refine ⟨by rw [he]; simp; omega, ?_, ⟨⟨d ++ [((Utf8.decode s pos).1 : Int)], by simp [hd], by rw [he]; simp⟩, hg2⟩⟩
  rw [he, rd, Int.toNat_natCast, ← hd]
  simp
theorem Passed.all {ra : List Int} {s : ByteArray} {i pos : Nat} (h : Passed ra s i pos) (hp : ¬ pos < s.size) : i = ra.length := by
  obtain ⟨⟨d, hd, he⟩, _⟩ := h
  rw [List.drop_eq_nil_of_le (by rw [data_length]; omega), rAll_nil, List.append_nil] at he
  rw [he, hd]
set_option maxHeartbeats 4000000 in
set_option maxRecDepth 100000 in
theorem back_in (s : ByteArray) (A0 : Option Addr) (c0 : Nat) (l : List Int) (w : World) (hT : Tabs w) (hr0 : Kd.C (Kd.int .i32) w A0 l.length l) (hc0 : l.length ≤ c0) (h1 : s.size ≤ 1000) (h2 : l.length ≤ 300) (hv : validU s s.size 0 = true) :
    Calls Tryd.prog 7 #[.string s, .slice A0 l.length c0] w fun e w' => e = .returned (.bool true) ∧ Below w.heap.size w w' := by
  have HB0 := Aside0.mk (Below.refl w.heap.size w)
  have HW := Aside0.mk (fun w1 (h : Below w.heap.size w w1) => utf_awake_calls w1 (tabs_below hT h))
  have HTT := Aside0.mk (fun w1 (h : Below w.heap.size w w1) => tabs_below hT h)
  have HR0 := Aside0.mk hr0
  have hgood := (validU_good s).1 hv
  have HPS := Aside0.mk (Passed.start hgood)
  have hrl := rAll_len s.data.toList
  rw [data_length] at hrl
  have hju : joinU (rAll s.data.toList) = (s, true) := by
    unfold joinU
    rw [join_good hgood]
  have H17 := Aside0.mk (fun w1 (h : Below w.heap.size w w1) => utf_Runes_calls s w1 (tabs_below hT h) (by omega))
  rw [runesU_all] at H17
  have H24 := Aside0.mk (fun (A : Option Addr) (c : Nat) (w1 : World) (h : Kd.C (Kd.int .i32) w1 A (rAll s.data.toList).length (rAll s.data.toList)) => utf_Join_calls A c (rAll s.data.toList) w1 h (by omega))
  rw [hju] at H24
  have H14 := Aside0.mk (fun w1 (h : Below w.heap.size w w1) => valid_c s true hv w1 (tabs_below hT h))
  generalize rAll s.data.toList = ra at *
  have d1 : decide ((1000 : Int) < (s.size : Int)) = false := decide_eq_false (by omega)
  have d2 : decide ((300 : Int) < (l.length : Int)) = false := decide_eq_false (by omega)
  have HL2 := Aside0.mk h2
  have hra63 : ra.length ≤ 1000 := by omega
  clear hT hr0 hrl hju hgood hv hc0
  go_enter Tryd.func7, Tryd.ntmps7
  go_wp2_with (first
    | (go_at_call 17; (with_reducible refine (H17.out _ HB0.out).mono ?_); rintro e w1 ⟨v1, rfl, hR, hb⟩; have HB1 := Aside0.mk (below_step HB0.out hb); obtain ⟨A1, c1, rfl, _, hC⟩ := Kd.R_reads hR; have HC1 := Aside0.mk hC; clear hb hR hC)
    | (go_at_call 14; (with_reducible refine (H14.out _ HB1.out).mono ?_); rintro e w2 ⟨rfl, hb⟩; have HC2 := Aside0.mk (Kd.C_below HC1.out hb); have HB2 := Aside0.mk (below_step HB1.out hb); clear hb)
    | (go_at_call 24; (with_reducible refine (H24.out _ _ _ HC2.out).mono ?_); rintro e w3 ⟨rfl, hb⟩; have HC3 := Aside0.mk (Kd.C_below HC2.out hb); have HB3 := Aside0.mk (below_step HB2.out hb); clear hb))
  go_loopw [8] (fun v8 wr => ∃ (i pos : Nat), v8 = .int .i64 i ∧ Aside0 (wr.heap[w3.heap.size]? = some (.stringIter s pos)) ∧ Aside0 (Below w3.heap.size w3 wr) ∧ Aside0 (Passed ra s i pos) ∧ Aside0 (i ≤ ra.length))
    (fun v8 wr => s.size - wr.iterPos w3.heap.size)
  case atStart => exact ⟨0, 0, rfl, ⟨World.iter_heap w3 s 0⟩, ⟨below_alloc (Below.refl _ _) _⟩, HPS, ⟨Nat.zero_le _⟩⟩
  case round =>
    obtain ⟨i, pos, rfl, HI, HB, HP, HIL⟩ := hrel
    by_cases hp : pos < s.size
    · have hnx := fun ty => run_next_any_at (P := Tryd.prog) wr w3.heap.size s pos ty HI.out hp
      have hwd := width_pos s pos
      obtain ⟨hil, hrd, hpn⟩ := HP.out.next hp
      have HI1 := Aside0.mk (iterAt_heap wr w3.heap.size s pos (pos + (Utf8.decode s pos).2) HI.out)
      have HB4 := Aside0.mk (below_iterAt HB.out (Nat.le_refl w3.heap.size) s (pos + (Utf8.decode s pos).2))
      obtain ⟨ad, e1, hx⟩ := Kd.at_int (Kd.C_below HC3.out HB4.out) (i : Int) (by omega) (by omega)
      cases e1
      rw [Int.toNat_natCast, hrd] at hx
      have HPOS := Aside0.mk (iterPos_at HI.out)
      have HPN := Aside0.mk hpn
      obtain ⟨q, hq⟩ : ∃ q, pos + (Utf8.decode s pos).2 = q := ⟨_, rfl⟩
      have HQ := Aside0.mk (show pos + 1 ≤ q by omega)
      rw [hq] at hnx HI1 HB4 HPN hx
      generalize (Utf8.decode s pos).1 = r at *
      have b1 : decide ((ra.length : Int) ≤ (i : Int)) = false := decide_eq_false (by omega)
      clear hq hpn hrd hwd
      go_wp2
      go_roundw
      case rel => exact ⟨i + 1, q, by go_num, HI1, HB4, HPN, ⟨by omega⟩⟩
      case measure =>
        have h1 := iterPos_at HI1.out
        have h2 := HPOS.out
        have h3 := HQ.out
        omega
    · have hnx := fun ty => run_next_end_at (P := Tryd.prog) wr w3.heap.size s pos ty HI.out hp
      have hil := HP.out.all hp
      subst hil
      have HBT := Aside0.mk (below_step HB3.out HB.out)
      clear HB HI HP HIL
      cases hjl : joinP l with
      | none =>
        have HJ := Aside0.mk (fun (w1 : World) (h : Kd.C (Kd.int .i32) w1 A0 l.length l) => utf_Join_calls A0 c0 l w1 h (by have := HL2.out; omega))
        rw [show joinU l = (⟨#[]⟩, false) by unfold joinU; rw [hjl]] at HJ
        go_wp2_with (first
          | (go_at_call 24; (with_reducible refine (HJ.out _ (Kd.C_below HR0.out HBT.out)).mono ?_); rintro e w5 ⟨rfl, hb⟩; have HB5 := Aside0.mk (below_step HBT.out hb); clear hb)
          | (go_at_call 15; (with_reducible refine (HW.out _ HB5.out).mono ?_); rintro e w6 ⟨rfl, hb⟩; have HB6 := Aside0.mk (below_step HB5.out hb); clear hb))
        go_ret
        exact ⟨rfl, HB6.out⟩
      | some t =>
        have HJ := Aside0.mk (fun (w1 : World) (h : Kd.C (Kd.int .i32) w1 A0 l.length l) => utf_Join_calls A0 c0 l w1 h (by have := HL2.out; omega))
        obtain ⟨hgt, hrt⟩ := good_join l t hjl
        have htl := joinP_len l t hjl
        obtain ⟨tb, htb⟩ : ∃ tb : ByteArray, tb = ⟨t.toArray⟩ := ⟨_, rfl⟩
        have htd : tb.data.toList = t := by rw [htb]
        have hts : tb.size ≤ 1200 := by rw [← data_length, htd]; have := HL2.out; omega
        rw [show joinU l = (tb, true) by unfold joinU; rw [hjl, htb]] at HJ
        have HY := Aside0.mk (fun w1 (h : Below w.heap.size w w1) => utf_Runes_calls tb w1 (HTT.out _ h) (by omega))
        rw [runesU_all, htd, hrt] at HY
        have HV := Aside0.mk (fun w1 (h : Below w.heap.size w w1) => valid_c tb true ((validU_good tb).2 (by rw [htd]; exact hgt)) w1 (HTT.out _ h))
        have hl63 : l.length ≤ 300 := HL2.out
        clear htb htd hgt hrt htl hjl hts
        go_wp2_with (first
          | (go_at_call 24; (with_reducible refine (HJ.out _ (Kd.C_below HR0.out HBT.out)).mono ?_); rintro e w5 ⟨rfl, hb⟩; have HB5 := Aside0.mk (below_step HBT.out hb); clear hb)
          | (go_at_call 17; (with_reducible refine (HY.out _ HB5.out).mono ?_); rintro e w6 ⟨v6, rfl, hR, hb⟩; have HB6 := Aside0.mk (below_step HB5.out hb); obtain ⟨A6, c6, rfl, _, hC⟩ := Kd.R_reads hR; have HC6 := Aside0.mk hC; clear hb hR hC))
        go_loopw [14] (fun v14 wr => ∃ k : Nat, v14 = .int .i64 k ∧ Aside0 (k ≤ l.length) ∧ Aside0 (Below w6.heap.size w6 wr)) (fun v14 wr => l.length - (RowKit.intOf v14).toNat)
        case atStart => exact ⟨0, rfl, ⟨Nat.zero_le _⟩, ⟨Below.refl _ _⟩⟩
        case round =>
          obtain ⟨k, rfl, HK, HBK⟩ := hrel
          by_cases hlt : k < l.length
          · obtain ⟨ad6, e6, hx6⟩ := Kd.at_int (Kd.C_below HC6.out HBK.out) (k : Int) (by omega) (by omega)
            obtain ⟨ad7, e7, hx7⟩ := Kd.at_int (Kd.C_below (Kd.C_below HR0.out HB6.out) HBK.out) (k : Int) (by omega) (by omega)
            cases e6
            cases e7
            rw [Int.toNat_natCast] at hx6 hx7
            have b1 : decide ((k : Int) < (l.length : Int)) = true := decide_eq_true (by omega)
            have b0 : decide ((0 : Int) ≤ (k : Int)) = true := decide_eq_true (by omega)
            generalize rd l k = x at *
            go_wp2
            go_quiet (fail)
            go_wp2
            go_roundw
            case rel => exact ⟨k + 1, by go_num, ⟨by omega⟩, ⟨pw_below_drewN HBK.out _⟩⟩
            case measure => simp [RowKit.intOf]; omega
          · have b1 : decide ((k : Int) < (l.length : Int)) = false := decide_eq_false (by omega)
            have HB8 := Aside0.mk (below_step HB6.out HBK.out)
            go_wp2_with (first
              | (go_at_call 14; (with_reducible refine (HV.out _ HB8.out).mono ?_); rintro e w9 ⟨rfl, hb⟩; have HB9 := Aside0.mk (below_step HB8.out hb); clear hb)
              | (go_at_call 15; (with_reducible refine (HW.out _ HB9.out).mono ?_); rintro e w10 ⟨rfl, hb⟩; have HB10 := Aside0.mk (below_step HB9.out hb); clear hb))
            go_ret
            exact ⟨rfl, HB10.out⟩
set_option maxHeartbeats 4000000 in
set_option maxRecDepth 100000 in
theorem back_bad (s : ByteArray) (A0 : Option Addr) (c0 : Nat) (l : List Int) (w : World) (hT : Tabs w) (hr0 : Kd.C (Kd.int .i32) w A0 l.length l) (hc0 : l.length ≤ c0) (h1 : s.size ≤ 1000) (h2 : l.length ≤ 300) (hv : validU s s.size 0 = false) :
    Calls Tryd.prog 7 #[.string s, .slice A0 l.length c0] w fun e w' => e = .returned (.bool true) ∧ Below w.heap.size w w' := by
  have HB0 := Aside0.mk (Below.refl w.heap.size w)
  have HW := Aside0.mk (fun w1 (h : Below w.heap.size w w1) => utf_awake_calls w1 (tabs_below hT h))
  have HTT := Aside0.mk (fun w1 (h : Below w.heap.size w w1) => tabs_below hT h)
  have HR0 := Aside0.mk hr0
  have H17 := Aside0.mk (fun w1 (h : Below w.heap.size w w1) => utf_Runes_calls s w1 (tabs_below hT h) (by omega))
  rw [runesU_all] at H17
  have H14 := Aside0.mk (fun w1 (h : Below w.heap.size w w1) => valid_c s false hv w1 (tabs_below hT h))
  generalize rAll s.data.toList = ra at *
  have d1 : decide ((1000 : Int) < (s.size : Int)) = false := decide_eq_false (by omega)
  have d2 : decide ((300 : Int) < (l.length : Int)) = false := decide_eq_false (by omega)
  have HL2 := Aside0.mk h2
  clear hT hr0 hv hc0
  go_enter Tryd.func7, Tryd.ntmps7
  go_upto_region 17 with (first
    | (go_at_call 17; (with_reducible refine (H17.out _ HB0.out).mono ?_); rintro e w1 ⟨v1, rfl, hR, hb⟩; have HB1 := Aside0.mk (below_step HB0.out hb); obtain ⟨A1, c1, rfl, _, hC⟩ := Kd.R_reads hR; clear hb hR hC)
    | (go_at_call 14; (with_reducible refine (H14.out _ HB1.out).mono ?_); rintro e w2 ⟨rfl, hb⟩; have HBT := Aside0.mk (below_step HB1.out hb); clear hb))
  cases hjl : joinP l with
  | none =>
    have HJ := Aside0.mk (fun (w1 : World) (h : Kd.C (Kd.int .i32) w1 A0 l.length l) => utf_Join_calls A0 c0 l w1 h (by have := HL2.out; omega))
    rw [show joinU l = (⟨#[]⟩, false) by unfold joinU; rw [hjl]] at HJ
    go_wp2_with (first
      | (go_at_call 24; (with_reducible refine (HJ.out _ (Kd.C_below HR0.out HBT.out)).mono ?_); rintro e w5 ⟨rfl, hb⟩; have HB5 := Aside0.mk (below_step HBT.out hb); clear hb)
      | (go_at_call 15; (with_reducible refine (HW.out _ HB5.out).mono ?_); rintro e w6 ⟨rfl, hb⟩; have HB6 := Aside0.mk (below_step HB5.out hb); clear hb))
    go_ret
    exact ⟨rfl, HB6.out⟩
  | some t =>
    have HJ := Aside0.mk (fun (w1 : World) (h : Kd.C (Kd.int .i32) w1 A0 l.length l) => utf_Join_calls A0 c0 l w1 h (by have := HL2.out; omega))
    obtain ⟨hgt, hrt⟩ := good_join l t hjl
    have htl := joinP_len l t hjl
    obtain ⟨tb, htb⟩ : ∃ tb : ByteArray, tb = ⟨t.toArray⟩ := ⟨_, rfl⟩
    have htd : tb.data.toList = t := by rw [htb]
    have hts : tb.size ≤ 1200 := by rw [← data_length, htd]; have := HL2.out; omega
    rw [show joinU l = (tb, true) by unfold joinU; rw [hjl, htb]] at HJ
    have HY := Aside0.mk (fun w1 (h : Below w.heap.size w w1) => utf_Runes_calls tb w1 (HTT.out _ h) (by omega))
    rw [runesU_all, htd, hrt] at HY
    have HV := Aside0.mk (fun w1 (h : Below w.heap.size w w1) => valid_c tb true ((validU_good tb).2 (by rw [htd]; exact hgt)) w1 (HTT.out _ h))
    have hl63 : l.length ≤ 300 := HL2.out
    clear htb htd hgt hrt htl hjl hts
    go_wp2_with (first
      | (go_at_call 24; (with_reducible refine (HJ.out _ (Kd.C_below HR0.out HBT.out)).mono ?_); rintro e w5 ⟨rfl, hb⟩; have HB5 := Aside0.mk (below_step HBT.out hb); clear hb)
      | (go_at_call 17; (with_reducible refine (HY.out _ HB5.out).mono ?_); rintro e w6 ⟨v6, rfl, hR, hb⟩; have HB6 := Aside0.mk (below_step HB5.out hb); obtain ⟨A6, c6, rfl, _, hC⟩ := Kd.R_reads hR; have HC6 := Aside0.mk hC; clear hb hR hC))
    go_loopw [14] (fun v14 wr => ∃ k : Nat, v14 = .int .i64 k ∧ Aside0 (k ≤ l.length) ∧ Aside0 (Below w6.heap.size w6 wr)) (fun v14 wr => l.length - (RowKit.intOf v14).toNat)
    case atStart => exact ⟨0, rfl, ⟨Nat.zero_le _⟩, ⟨Below.refl _ _⟩⟩
    case round =>
      obtain ⟨k, rfl, HK, HBK⟩ := hrel
      by_cases hlt : k < l.length
      · obtain ⟨ad6, e6, hx6⟩ := Kd.at_int (Kd.C_below HC6.out HBK.out) (k : Int) (by omega) (by omega)
        obtain ⟨ad7, e7, hx7⟩ := Kd.at_int (Kd.C_below (Kd.C_below HR0.out HB6.out) HBK.out) (k : Int) (by omega) (by omega)
        cases e6
        cases e7
        rw [Int.toNat_natCast] at hx6 hx7
        have b1 : decide ((k : Int) < (l.length : Int)) = true := decide_eq_true (by omega)
        have b0 : decide ((0 : Int) ≤ (k : Int)) = true := decide_eq_true (by omega)
        generalize rd l k = x at *
        go_wp2
        go_quiet (fail)
        go_wp2
        go_roundw
        case rel => exact ⟨k + 1, by go_num, ⟨by omega⟩, ⟨pw_below_drewN HBK.out _⟩⟩
        case measure => simp [RowKit.intOf]; omega
      · have b1 : decide ((k : Int) < (l.length : Int)) = false := decide_eq_false (by omega)
        have HB8 := Aside0.mk (below_step HB6.out HBK.out)
        go_wp2_with (first
          | (go_at_call 14; (with_reducible refine (HV.out _ HB8.out).mono ?_); rintro e w9 ⟨rfl, hb⟩; have HB9 := Aside0.mk (below_step HB8.out hb); clear hb)
          | (go_at_call 15; (with_reducible refine (HW.out _ HB9.out).mono ?_); rintro e w10 ⟨rfl, hb⟩; have HB10 := Aside0.mk (below_step HB9.out hb); clear hb))
        go_ret
        exact ⟨rfl, HB10.out⟩
/-- UtfBack answers true at every input. -/
theorem back_all (s : ByteArray) (A0 : Option Addr) (c0 : Nat) (l : List Int) (w : World) (hT : Tabs w) (hr0 : Kd.C (Kd.int .i32) w A0 l.length l) (hc0 : l.length ≤ c0) :
    Calls Tryd.prog 7 #[.string s, .slice A0 l.length c0] w fun e w' => e = .returned (.bool true) ∧ Below w.heap.size w w' := by
  by_cases h : 1000 < s.size ∨ 300 < l.length
  · exact back_out s A0 c0 l w hT h
  · cases hv : validU s s.size 0
    · exact back_bad s A0 c0 l w hT hr0 hc0 (by omega) (by omega) hv
    · exact back_in s A0 c0 l w hT hr0 hc0 (by omega) (by omega) hv
end Go.Proofs.YtpamgedmgjfjjaaDoor.M
