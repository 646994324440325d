/-
The walk of CheadAll: what it comes to, out of the contracts of what it calls.
-/
import Derived.Test.YtpamgedmgjfjjaaM2
import Derived.Test.YtpamgedmgjfjjaaXGet
namespace Go.Proofs.Ytpamgedmgjfjjaa.M
open Go.RowKit Go.Proofs.YtpamgedmgjfjjaaW.PrintWords Go.Proofs.YtpamgedmgjfjjaaW.PrintLast Go.Proofs.YtpamgedmgjfjjaaW.PrintMore
set_option linter.unusedVariables false

theorem c_string {P : Program} {w : World} {src dst e : TypeId} {A : Option Addr} {n c : Nat} {xs : List Int} (hs : P.underlying src = some (.slice e)) (he : P.underlying e = some (.int .u8)) (hd : P.underlying dst = some .string)
    (h : (Kd.int .u8).C w A n xs) : (convert src dst (.slice A n c)).run P w = .ok (.string (strOfNums xs)) w :=
  string_of_reads hs he hd (Kd.reads_of_C (enc := Value.int .u8) (d := (0 : Int)) (h1 := fun _ => rfl) h)

theorem refput_eq (a1 a2 : Int) : erratumref09_Put.f a1 a2 = some (chead_Put.head a1 a2) := by
  unfold erratumref09_Put.f chead_Put.head
  (repeat' split) <;> first | rfl | contradiction
set_option maxHeartbeats 4000000 in
set_option maxRecDepth 100000 in
theorem all_small (A0 : Option Addr) (c0 : Nat) (l0 : List Int) (a1 a2 a3 : Int) (w : World) (hr0 : Kd.C (Kd.int .u8) w A0 l0.length l0) (hc0 : l0.length ≤ c0) (hB : Bytes l0) (hm : l0.length ≤ 500) :
    Calls Try.prog 4 #[.slice A0 l0.length c0, .int .i64 a1, .int .u64 a2, .int .i64 a3] w fun e w' => e = .returned (.bool true) ∧ Below w.heap.size w w' := by
  have HR := Aside0.mk hr0
  have HC := Aside0.mk hc0
  have HBy := Aside0.mk hB
  have HM := Aside0.mk hm
  have h500 : decide (500 < l0.length) = false := decide_eq_false (by omega)
  have h500i : decide ((500 : Int) < (l0.length : Int)) = false := decide_eq_false (by omega)
  have HB := Aside0.mk (Below.refl w.heap.size w)
  clear hr0 hc0 hB hm
  go_enter Try.func4, Try.ntmps4
  go_upto_region 4 with (first
    | ((with_reducible refine gate_builtin (b := .append) (xs := #[.const (.slice none 0 0), .tmp 24]) rfl ?_); at_builtin; refine Kd.R_append_rows (Kd.int .u8) (w0 := w) w.heap.size rfl (.const (.slice none 0 0)) (.tmp 24) 25 5 (.int .u8 0) 1 rfl Try.underlying25 info5 rfl (by decide) (by omega) (.slice none 0 0) ([] : List Int) l0 A0 l0.length c0 (fun _ => True) (fun _ => False) rfl rfl ?aO HR.out (fun _ _ h => h) (fun _ h => h.elim) (fun _ _ => trivial) HB.out (Nat.le_refl _) ?aL ?_; (case aO => exact Kd.R_nil _ _ _ _ _); (case aL => have := HM.out; simp; omega); intro v1 w1 ho hb hg hat; have HO1 := Aside0.mk (show Kd.R (Kd.int .u8) 5 w1 w.heap.size (fun _ => True) v1 l0 from ho); have HB1 := Aside0.mk hb; clear ho hb hg hat)
    | ((with_reducible refine gate_builtin (b := .append) (xs := #[.tmp 25, .tmp 26]) rfl ?_); at_builtin; refine Kd.R_append (Kd.int .u8) (w0 := w) w.heap.size rfl (.tmp 25) (.tmp 26) 25 5 (.int .u8 0) 1 rfl Try.underlying25 info5 rfl (by decide) (by omega) v1 l0 99 [.int .u8 99] (fun _ => True) (fun _ => False) rfl rfl ?aP (fun _ hk => hk.elim) (fun _ _ => trivial) ?aO ?aB ?aS ?aL ?_; (case aP => exact rfl); (case aO => exact HO1.out); (case aB => exact HB1.out); (case aS => exact below_size HB1.out); (case aL => have := HM.out; omega); intro v2 w2 ho hb hg hat; obtain ⟨Ao, co, eo⟩ := Kd.R_slice ho; subst eo; have hle : l0.length + 1 ≤ co := (by have := Kd.R_reads ho; obtain ⟨_, _, e_, hl_, _⟩ := this; injection e_ with _ _ e3; subst e3; simpa using hl_); have HO2 := Aside0.mk ho; have HB2 := Aside0.mk hb; clear ho hb hg hat))
  have HO3 := Aside0.mk (show Kd.R (Kd.int .u8) 5 w2 w.heap.size (fun _ => True) (.slice Ao (l0.length + 1) co) (l0 ++ [99]) by simpa using HO2.out)
  have HC3 := Aside0.mk (show Kd.C (Kd.int .u8) w2 Ao (l0 ++ [99]).length (l0 ++ [99]) by
    have h_ := (Kd.R_reads' HO2.out).2.2
    exact h_)
  have HC4 := Aside0.mk (show Kd.C (Kd.int .u8) w2 Ao l0.length l0 by
    have h_ := Kd.C_take HC3.out (m := l0.length) (by simp)
    simpa using h_)
  have HP := Aside0.mk (show chead_Put.f l0 a1 a2 = some (l0 ++ chead_Put.head a1 a2) by unfold chead_Put.f; rw [if_pos (by have := HM.out; omega)])
  have HQ := Aside0.mk (refput_eq a1 a2)
  have hl13 : (strOfNums l0).size + (strOfNums (chead_Put.head a1 a2)).size ≤ 9223372036854775807 := by
    rw [strOfNums_size, strOfNums_size]
    have := HM.out
    have : (chead_Put.head a1 a2).length ≤ 9 := by
      unfold chead_Put.head
      (repeat' split) <;> (simp only [List.length_cons, List.length_nil]; omega)
    omega
  have hz1 := eq_true hl13
  have hz2 : (9223372036854775807 < (strOfNums l0).size + (strOfNums (chead_Put.head a1 a2)).size) = False := eq_false (Nat.not_lt.2 hl13)
  have HNE := Aside0.mk (show ((strOfNums (l0 ++ chead_Put.head a1 a2)).toList == (strOfNums l0 ++ strOfNums (chead_Put.head a1 a2)).toList) = true by
    rw [beq_iff_eq, str_list, ByteArray.toList_eq]
    simp [strOfNums])
  have HLE := Aside0.mk hle
  clear hle hl13
  go_cut [43] (fun v43 wc => v43 = .bool false ∧ Aside0 (Below w2.heap.size w2 wc))
  case first =>
    have hcs0 := c_string (P := Try.prog) (c := c0) Try.underlying25 Try.underlying5 Try.underlying9 (Kd.C_drew (Kd.C_below HR.out HB2.out))
    go_region_with (first
      | (go_at_call 11; refine (chead_Put.calls _ _ l0 a1 a2 _ _ ?s1 ?s2 HP.out).mono ?_; (case s1 => exact Kd.C_drew HC4.out); (case s2 => have := HLE.out; omega); rintro e w3 ⟨v3, rfl, ho, hb⟩; have hcv3 := own_string (P := Try.prog) Try.underlying25 Try.underlying5 Try.underlying9 (Kd.own_of_R ho); have HR3 := Aside0.mk (Kd.C_below (Kd.C_drew (Kd.C_below HR.out HB2.out)) hb); have hcs3 := c_string (P := Try.prog) (c := c0) Try.underlying25 Try.underlying5 Try.underlying9 HR3.out; have HO5 := Aside0.mk ho; have HB5 := Aside0.mk hb; clear ho hb)
      | (go_at_call 13; refine (erratumref09_Put.calls a1 a2 _ _ HQ.out).mono ?_; rintro e w4 ⟨v4, rfl, ho, hb⟩; have hcv4 := own_string (P := Try.prog) Try.underlying25 Try.underlying5 Try.underlying9 (Kd.own_of_R ho); have hcv5 := own_string (P := Try.prog) Try.underlying25 Try.underlying5 Try.underlying9 (Kd.own_of_R (Kd.R_below HO5.out hb)); have hcs4 := c_string (P := Try.prog) (c := c0) Try.underlying25 Try.underlying5 Try.underlying9 (Kd.C_below HR3.out hb); have HB6 := Aside0.mk hb; clear ho hb))
    all_goals
      go_wp2
      go_meet
      case rel => exact ⟨by rw [HNE.out]; rfl, ⟨below_step (below_drew (Below.refl _ _)) (below_step HB5.out HB6.out)⟩⟩
  case rest =>
    clear hz1 hz2 HNE HP HQ
    obtain ⟨rfl, hbc⟩ := hcut
    obtain ⟨g1, g2, g3, g4, g5, hg⟩ : ∃ g1 g2 g3 g4 g5, getS l0 a3 = (g1, g2, g3, g4, g5) := ⟨_, _, _, _, _, rfl⟩
    have HG := Aside0.mk ((get_eq l0 HBy.out (by have := HM.out; omega) a3 20 (Nat.le_refl _)).trans (congrArg some hg))
    have HH := Aside0.mk ((ref_get_eq l0 HBy.out (by have := HM.out; omega) a3 20 (Nat.le_refl _)).trans (congrArg some hg))
    clear hg
    have HAW := Aside0.mk (show erratumlaw09_awake.f = some true by
      unfold erratumlaw09_awake.f chead_Put.f
      rw [if_pos (by decide)]
      simp only [List.nil_append, Option.bind_some]
      rw [head_eq 2 500 (by decide) (by decide) (by decide), str_list]
      decide)
    have HC5 := Aside0.mk (Kd.C_below HC4.out hbc.out)
    have HR5 := Aside0.mk (Kd.C_below (Kd.C_below HR.out HB2.out) hbc.out)
    have HB7 := Aside0.mk (below_step HB2.out hbc.out)
    obtain ⟨ad, ea, hcell⟩ := Kd.at_int (Kd.C_below HC3.out hbc.out) (l0.length : Int) (by omega) (by simp only [List.length_append, List.length_singleton]; omega)
    subst ea
    have e99 : rd (l0 ++ [99]) (l0.length : Int) = 99 := by simp [rd, List.getD_eq_getElem?_getD]
    rw [e99, Int.toNat_natCast] at hcell
    have hm := HM.out
    have hle := HLE.out
    clear e99 hbc
    go_wp2_with (first
      | (go_at_call 14; refine (chead_Get.calls 20 _ _ l0 a3 g1 g2 g3 g4 g5 _ ?s1 ?s2 HG.out).mono ?_; (case s1 => exact HC5.out); (case s2 => omega); rintro e w' ⟨rfl, ⟨n1, rfl⟩⟩)
      | (go_at_call 15; refine (erratumref09_Get.calls 20 _ _ l0 a3 g1 g2 g3 g4 g5 _ ?s1 ?s2 HH.out).mono ?_; (case s1 => exact Kd.C_drewN HR5.out _); (case s2 => exact HC.out); rintro e w' ⟨rfl, ⟨n2, rfl⟩⟩)
      | (go_at_call 12; refine (erratumlaw09_awake.calls true _ HAW.out).mono ?_; rintro e w' ⟨rfl, hb⟩; have HB8 := Aside0.mk hb; clear hb))
    go_ret
    exact ⟨rfl, below_step (pw_below_drewN HB7.out _) HB8.out⟩
set_option maxHeartbeats 1000000 in
set_option maxRecDepth 100000 in
theorem all_great (A0 : Option Addr) (c0 : Nat) (l0 : List Int) (a1 a2 a3 : Int) (w : World) (hm : 500 < l0.length) :
    Calls Try.prog 4 #[.slice A0 l0.length c0, .int .i64 a1, .int .u64 a2, .int .i64 a3] w fun e w' => e = .returned (.bool true) ∧ Below w.heap.size w w' := by
  have h500 : decide (500 < l0.length) = true := decide_eq_true hm
  have h500i : decide ((500 : Int) < (l0.length : Int)) = true := decide_eq_true (by omega)
  have HAW := Aside0.mk (show erratumlaw09_awake.f = some true by
    unfold erratumlaw09_awake.f chead_Put.f
    rw [if_pos (by decide)]
    simp only [List.nil_append, Option.bind_some]
    rw [head_eq 2 500 (by decide) (by decide) (by decide), str_list]
    decide)
  go_enter Try.func4, Try.ntmps4
  go_wp2_with (go_at_call 12; refine (erratumlaw09_awake.calls true _ HAW.out).mono ?_; rintro e w' ⟨rfl, hb⟩; have HB8 := Aside0.mk hb; clear hb)
  go_ret
  exact ⟨rfl, HB8.out⟩
/-- What is left to prove elsewhere: nothing. -/
def erratumlaw09_CheadAll.Pure : Prop := True
/-- CheadAll answers true, and writes nothing that was there. -/
theorem erratumlaw09_CheadAll.walk (_P : erratumlaw09_CheadAll.Pure) (a0 : Option Addr) (len0 cap0 : Nat) (z0 : List Int) (a1 : Int) (a2 : Int) (a3 : Int) (w : World)
    (w0 : (a0 = none ∧ len0 = 0 ∧ cap0 = 0 ∧ z0 = []) ∨ ∃ x, a0 = some x ∧ len0 ≤ cap0 ∧ cap0 ≤ maxLen ∧ z0.length = cap0 ∧ (∀ i, i < z0.length → w.cell? (x.add i) = some (.int .u8 (z0.getD i 0))) ∧ ∀ n ∈ z0, (Lit.int .u8 n).wf = true)
    (_y0 : len0 * 1 ≤ 140737488351232) (_w1 : (Lit.int .i64 a1).wf = true) (_w2 : (Lit.int .u64 a2).wf = true) (_w3 : (Lit.int .i64 a3).wf = true) :
    Calls Try.prog 4 #[.slice a0 len0 cap0, .int .i64 a1, .int .u64 a2, .int .i64 a3] w fun e w' => e = .returned (.bool true) ∧ Below w.heap.size w w' := by
  obtain ⟨l0, rfl, hr0, hm0, hw0, hc0⟩ := ReadsInt.ofRowC w0
  by_cases hm : 500 < l0.length
  · exact all_great a0 cap0 l0 a1 a2 a3 w hm
  · refine all_small a0 cap0 l0 a1 a2 a3 w (Kd.C_of_reads (d := (0 : Int)) (h1 := fun _ => rfl) hr0) hc0 (fun x hx => ?_) (by omega)
    have h := hw0 x hx
    simp only [Lit.wf, Bool.and_eq_true, decide_eq_true_iff] at h
    have h1 : 0 ≤ x ∧ x ≤ 255 := h
    omega
end Go.Proofs.Ytpamgedmgjfjjaa.M
