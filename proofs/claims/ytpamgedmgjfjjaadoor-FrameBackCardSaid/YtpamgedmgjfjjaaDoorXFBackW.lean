/-
The walk of FrameBack.
-/
import Derived.Test.YtpamgedmgjfjjaaDoorXFBackP
import Derived.Test.YtpamgedmgjfjjaaDoorXSameA
import Derived.Test.YtpamgedmgjfjjaaDoorM4
namespace Go.Proofs.YtpamgedmgjfjjaaDoor.M
open Go.RowKit Go.Proofs.YtpamgedmgjfjjaaDoorW.PrintWords Go.Proofs.YtpamgedmgjfjjaaDoorW.PrintLast Go.Proofs.YtpamgedmgjfjjaaDoorW.PrintMore
set_option linter.unusedVariables false
set_option linter.unusedSimpArgs false
theorem info5x : (Tryd.prog.info? 5).map (fun i => (i.zero, i.size, i.bytes)) = some (some (.int .u8 0), 1, 1) := by kernel_rfl
theorem sameA_refl' (q : AnsV) (w : World) : Calls Tryd.prog 38 #[.agg q.cells, .agg q.cells] w fun e w' => e = .returned (.bool true) ∧ Below w.heap.size w w' :=
  erratumlaw00_SameAnswer.calls _ _ _ _ _ _ _ _ true w (by simp [erratumlaw00_SameAnswer.f])
theorem same_refl' (q : AskV) (w : World) : Calls Tryd.prog 32 #[.agg q.cells, .agg q.cells] w fun e w' => e = .returned (.bool true) ∧ Below w.heap.size w w' :=
  erratumlaw25_same.calls _ _ _ _ _ _ _ _ _ _ _ _ _ _ _ _ true w (by simp [erratumlaw25_same.f])
theorem fput (q : AskV) (w : World) (hT : Tabs w) (hok : q.ok = true) : Calls Tryd.prog 19 #[.agg q.cells] w fun e w' => ∃ g cap, e = .returned (.tuple #[.slice (some ⟨g, 0, none⟩) q.put.length cap, .int .i64 0]) ∧ q.put.length ≤ cap ∧ (Kd.int .u8).C w' (some ⟨g, 0, none⟩) q.put.length q.put ∧ Below w.heap.size w w' := by
  have hb := q.ok_bounds hok
  refine (put_calls q w hT (by omega) (by omega) hok).mono ?_
  rintro e w' ⟨v, rfl, hown, hbel⟩
  obtain ⟨g, cap, N, rfl, hPI, hbg, hNN⟩ := putted q w w' v hok hown
  have hle := hPI.le
  subst hNN
  exact ⟨g, cap, rfl, hle, hPI.all, hbel⟩
theorem fputA (q : AnsV) (w : World) (hok : q.ok = true) : Calls Tryd.prog 20 #[.agg q.cells] w fun e w' => ∃ g cap, e = .returned (.tuple #[.slice (some ⟨g, 0, none⟩) q.put.length cap, .int .i64 0]) ∧ q.put.length ≤ cap ∧ (Kd.int .u8).C w' (some ⟨g, 0, none⟩) q.put.length q.put ∧ Below w.heap.size w w' := by
  refine (putAns_calls q w hok).mono ?_
  rintro e w' ⟨v, rfl, hown, hbel⟩
  obtain ⟨g, cap, N, rfl, hPI, hbg, hNN⟩ := puttedA q w w' v hown
  have hle := hPI.le
  subst hNN
  exact ⟨g, cap, rfl, hle, hPI.all, hbel⟩
theorem get_any4 {w : World} {A : Option Addr} {n c : Nat} {r : Int} (h : Calls Tryd.prog 31 #[.slice A n c] w fun r' w' => (∃ q : AskV, r' = .returned (.tuple #[.agg q.cells, .int .i64 r])) ∧ Below w.heap.size w w') :
    Calls Tryd.prog 31 #[.slice A n c] w fun r' w' => ∃ y0 y1 y2 y3 y4 y5 y6 y7, r' = .returned (.tuple #[.agg #[.int .i64 y0, .string y1, .int .i64 y2, .int .i64 y3, .int .i64 y4, .int .i64 y5, .int .i64 y6, .string y7], .int .i64 r]) ∧ Below w.heap.size w w' :=
  h.mono fun r' w' ⟨⟨q, hq⟩, hb⟩ => ⟨q.k, q.name, q.f, q.lang, q.out, q.dst, q.mat, q.body, hq, hb⟩
theorem ans_any4 {w : World} {A : Option Addr} {n c : Nat} {r : Int} (h : Calls Tryd.prog 36 #[.slice A n c] w fun r' w' => (∃ q : AnsV, r' = .returned (.tuple #[.agg q.cells, .int .i64 r])) ∧ Below w.heap.size w w') :
    Calls Tryd.prog 36 #[.slice A n c] w fun r' w' => ∃ y0 y1 y2 y3, r' = .returned (.tuple #[.agg #[.int .i64 y0, .int .i64 y1, .int .i64 y2, .string y3], .int .i64 r]) ∧ Below w.heap.size w w' :=
  h.mono fun r' w' ⟨⟨q, hq⟩, hb⟩ => ⟨q.e, q.i, q.r, q.body, hq, hb⟩
theorem cut_row {w : World} {A : Option Addr} {l : List Int} {c : Nat} (h : (Kd.int .u8).C w A l.length l) (k : Nat) (hk : k ≤ l.length) (hc : l.length ≤ c) : (Kd.int .u8).C w A (l.take k).length (l.take k) := by
  have := Kd.C_mid (lo := 0) (hi := k) (c := c) h (by omega) hk hc
  simp only [List.drop_zero] at this
  by_cases hc0 : c = 0
  · rw [if_pos hc0] at this; exact this
  · rw [if_neg hc0] at this; simpa [Addr.add] using this
theorem xplaceN (a : Int) (n : Nat) (h0 : 0 < n) (h1 : n ≤ 100000) : ∃ k : Nat, erratumlaw00_Place.f a n = some (k : Int) ∧ 0 ≤ k ∧ k < n := by
  obtain ⟨r, hr, r0, r1⟩ := xplace a n (by omega) (by omega)
  exact ⟨r.toNat, by rw [hr, Int.toNat_of_nonneg r0], Nat.zero_le _, by omega⟩
set_option maxHeartbeats 8000000 in
set_option maxRecDepth 100000 in
theorem fback_tt (q : AskV) (x : AnsV) (at_ : Int) (A0 : Option Addr) (c0 : Nat) (more : List Int) (w : World) (hT : Tabs w) (hr : (Kd.int .u8).C w A0 more.length more) (hc : more.length ≤ c0) (hy : Bytes more)
    (h1 : q.body.size ≤ 3000) (h2 : q.name.size ≤ 500) (h3 : x.body.size ≤ 3000) (h4 : more.length ≤ 100) (hq : q.ok = true) (hx : x.ok = true) :
    Calls Tryd.prog 10 #[.agg q.cells, .agg x.cells, .int .i64 at_, .slice A0 more.length c0] w fun e w' => e = .returned (.bool true) ∧ Below w.heap.size w w' := by
  have d1 : decide ((3000 : Int) < (q.body.size : Int)) = false := decide_eq_false (by omega)
  have d2 : decide ((500 : Int) < (q.name.size : Int)) = false := decide_eq_false (by omega)
  have d3 : decide ((3000 : Int) < (x.body.size : Int)) = false := decide_eq_false (by omega)
  have d4 : decide ((100 : Int) < (more.length : Int)) = false := decide_eq_false (by omega)
  have HW := Aside0.mk (fun w1 (h : Below w.heap.size w w1) => frame_awake_calls w1 (tabs_below hT h))
  have HMO := Aside0.mk hr
  have HMC := Aside0.mk hc
  have HM100 := Aside0.mk h4
  have hlq := q.put_len
  have hbq := q.ok_bounds hq
  obtain ⟨kz, hkz, k0, k1⟩ := xplaceN at_ q.put.length (by omega) (by omega)
  have HPl := Aside0.mk (fun w1 => erratumlaw00_Place.calls at_ (q.put.length : Int) (kz : Int) w1 hkz)
  have HK := Aside0.mk k1
  have H19 := Aside0.mk (fun w1 (h : Below w.heap.size w w1) => fput q w1 (tabs_below hT h) hq)
  have H32 := Aside0.mk (fun w1 => same_refl' q w1)
  have H31a := Aside0.mk (fun A c w1 (hle : q.put.length ≤ c) (hC : (Kd.int .u8).C w1 A q.put.length q.put) (h : Below w.heap.size w w1) => get_good w1 q.put A c q (getL_put q hq) hle hC (by omega) (bytes_put q hq) (tabs_below hT h))
  have H31b := Aside0.mk (fun A c w1 (hle : q.put.length ≤ c) (hC : (Kd.int .u8).C w1 A q.put.length q.put) (h : Below w.heap.size w w1) => get_any w1 (q.put.take kz) A c (by rw [List.length_take]; omega) (cut_row hC kz (by omega) hle) (by rw [List.length_take]; omega) (bytes_take (bytes_put q hq) kz) (tabs_below hT h))
  rw [getL_cut q hq kz k1, List.length_take, Nat.min_eq_left (Nat.le_of_lt k1)] at H31b
  have H31c := Aside0.mk (fun A c w1 (hle : (q.put ++ more).length ≤ c) (hC : (Kd.int .u8).C w1 A (q.put ++ more).length (q.put ++ more)) (h : Below w.heap.size w w1) => get_any w1 (q.put ++ more) A c hle hC (by rw [List.length_append]; omega) (bytes_append (bytes_put q hq) hy) (tabs_below hT h))
  obtain ⟨e9, he9⟩ : ∃ e, (getL (q.put ++ more)).1 = e := ⟨_, rfl⟩
  rw [he9] at H31c
  simp only [List.length_append] at H31c
  replace H31b := Aside0.mk (fun A c w1 hle hC h => get_any4 (H31b.out A c w1 hle hC h))
  replace H31c := Aside0.mk (fun A c w1 hle hC h => get_any4 (H31c.out A c w1 hle hC h))
  have h9 := getL_more q hq more
  rw [he9] at h9
  obtain ⟨b9, g1, g2, g3⟩ : ∃ b : Bool, (e9 == 0) = b ∧ ((more.length : Int) == 0) = b ∧ (more.length == 0) = b := by
    by_cases hm : more = []
    · exact ⟨true, by simp [h9.2 hm], by simp [hm], by simp [hm]⟩
    · have : more.length ≠ 0 := fun h => hm (List.length_eq_zero_iff.1 h)
      refine ⟨false, by simp [h9, hm], ?_, by simpa using this⟩
      rw [beq_eq_false_iff_ne]; omega
  have d15 : decide ((q.put.length : Int) < 15) = false := decide_eq_false (by omega)
  have HLQ := Aside0.mk (show q.put.length ≤ 10000 by omega)
  have hsl := fun A c (hle : q.put.length ≤ c) => cut_to (P := Tryd.prog) 33 5 .i64 Tryd.underlying33 (Option.map_eq_some_iff.1 size33).choose_spec.1 A q.put.length c (kz : Int) (by omega) (by omega) hle
  rw [Int.toNat_natCast] at hsl
  have HSL := Aside0.mk hsl
  obtain ⟨pl, hpl⟩ : ∃ l, q.put = l := ⟨_, rfl⟩
  rw [hpl] at HPl HK H19 H31a H31b H31c d15 HLQ HSL
  clear hlq hbq hkz k0 k1 he9 h9 hpl hsl
  have hlx := x.put_len
  obtain ⟨kx, hkx, k2, k3⟩ := xplaceN at_ x.put.length (by omega) (by omega)
  have HPx := Aside0.mk (fun w1 => erratumlaw00_Place.calls at_ (x.put.length : Int) (kx : Int) w1 hkx)
  have H20 := Aside0.mk (fun w1 => fputA x w1 hx)
  have H38 := Aside0.mk (fun w1 => sameA_refl' x w1)
  have H36a := Aside0.mk (fun A c w1 (hle : x.put.length ≤ c) (hC : (Kd.int .u8).C w1 A x.put.length x.put) => ans_good w1 x.put A c x (ansG_put x hx) hle hC (by omega) (bytes_ans x hx))
  have H36b := Aside0.mk (fun A c w1 (hle : x.put.length ≤ c) (hC : (Kd.int .u8).C w1 A x.put.length x.put) => ans_any w1 (x.put.take kx) A c (by rw [List.length_take]; omega) (cut_row hC kx (by omega) hle) (by rw [List.length_take]; omega) (bytes_take (bytes_ans x hx) kx))
  rw [ansG_cut x hx kx k3, List.length_take, Nat.min_eq_left (Nat.le_of_lt k3)] at H36b
  replace H36b := Aside0.mk (fun A c w1 hle hC => ans_any4 (H36b.out A c w1 hle hC))
  have hsx := fun A c (hle : x.put.length ≤ c) => cut_to (P := Tryd.prog) 33 5 .i64 Tryd.underlying33 (Option.map_eq_some_iff.1 size33).choose_spec.1 A x.put.length c (kx : Int) (by omega) (by omega) hle
  rw [Int.toNat_natCast] at hsx
  have HSX := Aside0.mk hsx
  have e10 : ((x.put.length : Int) != 10 + (x.body.size : Int)) = false := bne_eq_false_iff_eq.2 (by omega)
  have HLX := Aside0.mk (show x.put.length ≤ 10000 by omega)
  obtain ⟨px, hpx⟩ : ∃ l, x.put = l := ⟨_, rfl⟩
  rw [hpx] at HPx H20 H36a H36b HSX e10 HLX
  clear hlx hkx k2 k3 hpx hsx
  obtain ⟨k, name, f, lang, out, dst, mat, body⟩ := q
  obtain ⟨xe, xi, xr, xb⟩ := x
  simp only [AskV.cells, AnsV.cells] at *
  have hb00 := below_alloc (Below.refl w.heap.size w) (.cells #[.int .i64 k, .string name, .int .i64 f, .int .i64 lang, .int .i64 out, .int .i64 dst, .int .i64 mat, .string body] 29)
  have HB0 := Aside0.mk (below_alloc hb00 (.cells #[.int .i64 xe, .int .i64 xi, .int .i64 xr, .string xb] 32))
  have BK0 := Aside0.mk (blk_alloc (heap_new w (.cells #[.int .i64 k, .string name, .int .i64 f, .int .i64 lang, .int .i64 out, .int .i64 dst, .int .i64 mat, .string body] 29)) (.cells #[.int .i64 xe, .int .i64 xi, .int .i64 xr, .string xb] 32))
  have BX0 := Aside0.mk (heap_new1 w (.cells #[.int .i64 k, .string name, .int .i64 f, .int .i64 lang, .int .i64 out, .int .i64 dst, .int .i64 mat, .string body] 29) (.cells #[.int .i64 xe, .int .i64 xi, .int .i64 xr, .string xb] 32))
  clear hb00 hT hr hc hy h1 h2 h4 hq hx
  go_enter Tryd.func10, Tryd.ntmps10
  go_upto_region 3 with fail
  clear d1 d2 d3 d4
  generalize hw0 : (w.alloc (.cells #[.int .i64 k, .string name, .int .i64 f, .int .i64 lang, .int .i64 out, .int .i64 dst, .int .i64 mat, .string body] 29)).alloc (.cells #[.int .i64 xe, .int .i64 xi, .int .i64 xr, .string xb] 32) = w0 at HB0 BK0 BX0 ⊢
  clear hw0
  obtain ⟨b0, b1, b2, b3, b4, b5, b6, b7⟩ := box29 BK0.out
  go_upto_region 6 with (first
    | (go_at_call 19; (with_reducible refine (H19.out _ HB0.out).mono ?_); rintro e w1 ⟨g1, cap1, rfl, hle, hC, hb⟩; have HB1 := Aside0.mk (below_step HB0.out hb); have BK1 := Aside0.mk (blk_below BK0.out hb); have BX1 := Aside0.mk (blk_below BX0.out hb); have HC1 := Aside0.mk hC; have HL1 := Aside0.mk hle; clear hb hC hle)
    | ((with_reducible refine gate_builtin (b := .append) (xs := #[.const (.slice none 0 0), .tmp 53]) rfl ?_); at_builtin; refine Kd.R_append_rows (Kd.int .u8) (w0 := w1) w1.heap.size rfl (.const (.slice none 0 0)) (.tmp 53) 33 5 (.int .u8 0) 1 rfl Tryd.underlying33 info5x rfl (by decide) (by omega) (.slice none 0 0) ([] : List Int) pl (some ⟨g1, 0, none⟩) pl.length cap1 (fun _ => True) (fun _ => False) rfl rfl ?a1O (HC1.out) (fun _ _ h => h) (fun _ h => h.elim) (fun _ _ => trivial) (Below.refl _ _) (Nat.le_refl _) ?a1L ?_; (case a1O => exact Kd.R_nil _ _ _ _ _); (case a1L => have := HLQ.out; simp; omega); intro v_ w2 ho hb hg hat; obtain ⟨A2, c2, rfl, hle2, hC2⟩ := Kd.R_reads ho; have HC2 := Aside0.mk hC2; have HL2 := Aside0.mk hle2; have HB2 := Aside0.mk (below_step HB1.out hb); have BK2 := Aside0.mk (blk_below BK1.out hb); have BX2 := Aside0.mk (blk_below BX1.out hb); have HP2 := Aside0.mk (Kd.C_below HC1.out hb); clear ho hb hg hat hC2 hle2)
    | (go_at_call 31; (with_reducible refine (H31a.out _ _ _ HL2.out HC2.out HB2.out).mono ?_); rintro e w3 ⟨rfl, hb⟩; have HB3 := Aside0.mk (below_step HB2.out hb); have BK3 := Aside0.mk (blk_below BK2.out hb); have BX3 := Aside0.mk (blk_below BX2.out hb); have HP3 := Aside0.mk (Kd.C_below HP2.out hb); clear hb))
  have HB4 := Aside0.mk (below_alloc HB3.out (.cells #[.int .i64 k, .string name, .int .i64 f, .int .i64 lang, .int .i64 out, .int .i64 dst, .int .i64 mat, .string body] 29))
  have BK4 := Aside0.mk (blk_alloc BK3.out (.cells #[.int .i64 k, .string name, .int .i64 f, .int .i64 lang, .int .i64 out, .int .i64 dst, .int .i64 mat, .string body] 29))
  have BX4 := Aside0.mk (blk_alloc BX3.out (.cells #[.int .i64 k, .string name, .int .i64 f, .int .i64 lang, .int .i64 out, .int .i64 dst, .int .i64 mat, .string body] 29))
  have HP4 := Aside0.mk (Kd.C_below HP3.out (below_alloc (Below.refl _ _) (.cells #[.int .i64 k, .string name, .int .i64 f, .int .i64 lang, .int .i64 out, .int .i64 dst, .int .i64 mat, .string body] 29)))
  have BN4 := Aside0.mk (blk_new w3 (.cells #[.int .i64 k, .string name, .int .i64 f, .int .i64 lang, .int .i64 out, .int .i64 dst, .int .i64 mat, .string body] 29))
  generalize w3.alloc (.cells #[.int .i64 k, .string name, .int .i64 f, .int .i64 lang, .int .i64 out, .int .i64 dst, .int .i64 mat, .string body] 29) = w4 at HB4 BK4 BX4 HP4 BN4 ⊢
  generalize w3.heap.size = n4 at BN4 ⊢
  clear b0 b1 b2 b3 b4 b5 b6 b7 HB0 BK0 BX0 HB1 BK1 BX1 HC1 HB2 BK2 BX2 HC2 HL2 HP2 HB3 BK3 BX3 HP3 H19 H31a
  obtain ⟨b0, b1, b2, b3, b4, b5, b6, b7⟩ := box29 BK4.out
  obtain ⟨n0, n1, n2, n3, n4', n5, n6, n7⟩ := box29 BN4.out
  go_upto_region 8 with (go_at_call 32; (with_reducible refine (H32.out _).mono ?_); rintro e w5 ⟨rfl, hb⟩; have HB5 := Aside0.mk (below_step HB4.out hb); have BK5 := Aside0.mk (blk_below BK4.out hb); have BX5 := Aside0.mk (blk_below BX4.out hb); have HP5 := Aside0.mk (Kd.C_below HP4.out hb); clear hb)
  clear b0 b1 b2 b3 b4 b5 b6 b7 n0 n1 n2 n3 n4' n5 n6 n7 HB4 BK4 BX4 HP4 BN4 H32
  have hs := HSL.out (some ⟨g1, 0, none⟩) cap1 HL1.out
  go_upto_region 9 with (first
    | (go_at_call 16; (with_reducible refine (HPl.out _).mono ?_); rintro e w6 ⟨rfl, hd⟩; have HB6 := Aside0.mk (below_step HB5.out hd.below); have BX6 := Aside0.mk (blk_below BX5.out hd.below); have HP6 := Aside0.mk (Kd.C_below HP5.out hd.below); clear hd)
    | (go_at_call 31; (with_reducible refine (H31b.out _ _ _ HL1.out HP6.out HB6.out).mono ?_); rintro e w7 ⟨y0, y1, y2, y3, y4, y5, y6, y7, rfl, hb⟩; have HB7 := Aside0.mk (below_step HB6.out hb); have BX7 := Aside0.mk (blk_below BX6.out hb); have HP7 := Aside0.mk (Kd.C_below HP6.out hb); clear hb))
  have HB8 := Aside0.mk (below_alloc HB7.out (.cells #[.int .i64 y0, .string y1, .int .i64 y2, .int .i64 y3, .int .i64 y4, .int .i64 y5, .int .i64 y6, .string y7] 29))
  have BX8 := Aside0.mk (blk_alloc BX7.out (.cells #[.int .i64 y0, .string y1, .int .i64 y2, .int .i64 y3, .int .i64 y4, .int .i64 y5, .int .i64 y6, .string y7] 29))
  have HP8 := Aside0.mk (Kd.C_below HP7.out (below_alloc (Below.refl _ _) (.cells #[.int .i64 y0, .string y1, .int .i64 y2, .int .i64 y3, .int .i64 y4, .int .i64 y5, .int .i64 y6, .string y7] 29)))
  generalize w7.alloc (.cells #[.int .i64 y0, .string y1, .int .i64 y2, .int .i64 y3, .int .i64 y4, .int .i64 y5, .int .i64 y6, .string y7] 29) = w8 at HB8 BX8 HP8 ⊢
  clear hs HB5 BK5 BX5 HP5 HB6 BX6 HP6 HB7 BX7 HP7 H31b HPl HSL
  have HMO8 := Aside0.mk (Kd.C_below HMO.out HB8.out)
  go_upto_region 10 with (first
    | ((with_reducible refine gate_builtin (b := .append) (xs := #[.const (.slice none 0 0), .tmp 82]) rfl ?_); at_builtin; refine Kd.R_append_rows (Kd.int .u8) (w0 := w8) w8.heap.size rfl (.const (.slice none 0 0)) (.tmp 82) 33 5 (.int .u8 0) 1 rfl Tryd.underlying33 info5x rfl (by decide) (by omega) (.slice none 0 0) ([] : List Int) pl (some ⟨g1, 0, none⟩) pl.length cap1 (fun _ => True) (fun _ => False) rfl rfl ?a2O (HP8.out) (fun _ _ h => h) (fun _ h => h.elim) (fun _ _ => trivial) (Below.refl _ _) (Nat.le_refl _) ?a2L ?_; (case a2O => exact Kd.R_nil _ _ _ _ _); (case a2L => have := HLQ.out; simp; omega); intro v_ w9 ho hb hg hat; simp only [List.nil_append] at ho; have HR9 := Aside0.mk ho; have HX9 := Aside0.mk hb; have HB9 := Aside0.mk (below_step HB8.out hb); have BX9 := Aside0.mk (blk_below BX8.out hb); have HMO9 := Aside0.mk (Kd.C_below HMO8.out hb); clear ho hb hg hat)
    | ((with_reducible refine gate_builtin (b := .append) (xs := #[.tmp 83, .tmp 84]) rfl ?_); at_builtin; refine Kd.R_append_rows (Kd.int .u8) (w0 := w8) w8.heap.size rfl (.tmp 83) (.tmp 84) 33 5 (.int .u8 0) 1 rfl Tryd.underlying33 info5x rfl (by decide) (by omega) v_ pl more A0 more.length c0 (fun _ => True) (fun _ => False) rfl rfl ?a3O (HMO9.out) (fun _ _ h => h) (fun _ h => h.elim) (fun _ _ => trivial) (HX9.out) (HX9.out.size) ?a3L ?_; (case a3O => exact HR9.out); (case a3L => have := HLQ.out; have := HMC.out; have := HM100.out; omega); intro v2_ wa ho hb hg hat; obtain ⟨Aa, ca, rfl, hlea, hCa⟩ := Kd.R_reads ho; rw [List.length_append] at hlea hCa; have HCa := Aside0.mk hCa; have HLa := Aside0.mk hlea; have HBa := Aside0.mk (below_step HB8.out hb); have BXa := Aside0.mk (blk_below BX8.out hb); clear ho hb hg hat hCa hlea)
    | (go_at_call 31; (with_reducible refine (H31c.out _ _ _ HLa.out HCa.out HBa.out).mono ?_); rintro e wb ⟨z0, z1, z2, z3, z4, z5, z6, z7, rfl, hb⟩; have HBb := Aside0.mk (below_step HBa.out hb); have BXb := Aside0.mk (blk_below BXa.out hb); clear hb))
  have HBc := Aside0.mk (below_alloc HBb.out (.cells #[.int .i64 z0, .string z1, .int .i64 z2, .int .i64 z3, .int .i64 z4, .int .i64 z5, .int .i64 z6, .string z7] 29))
  have BXc := Aside0.mk (blk_alloc BXb.out (.cells #[.int .i64 z0, .string z1, .int .i64 z2, .int .i64 z3, .int .i64 z4, .int .i64 z5, .int .i64 z6, .string z7] 29))
  generalize wb.alloc (.cells #[.int .i64 z0, .string z1, .int .i64 z2, .int .i64 z3, .int .i64 z4, .int .i64 z5, .int .i64 z6, .string z7] 29) = wc at HBc BXc ⊢
  clear HB8 BX8 HP8 HMO8 HR9 HX9 HB9 BX9 HMO9 HCa HLa HBa BXa HBb BXb H31c
  go_upto_region 12 with fail
  obtain ⟨x0, x1, x2, x3⟩ := box32 BXc.out
  go_upto_region 15 with (first
    | (go_at_call 20; (with_reducible refine (H20.out _).mono ?_); rintro e w21 ⟨g2, cap2, rfl, hle, hC, hb⟩; have HB21 := Aside0.mk (below_step HBc.out hb); have BX21 := Aside0.mk (blk_below BXc.out hb); have HC21 := Aside0.mk hC; have HL21 := Aside0.mk hle; clear hb hC hle)
    | ((with_reducible refine gate_builtin (b := .append) (xs := #[.const (.slice none 0 0), .tmp 107]) rfl ?_); at_builtin; refine Kd.R_append_rows (Kd.int .u8) (w0 := w21) w21.heap.size rfl (.const (.slice none 0 0)) (.tmp 107) 33 5 (.int .u8 0) 1 rfl Tryd.underlying33 info5x rfl (by decide) (by omega) (.slice none 0 0) ([] : List Int) px (some ⟨g2, 0, none⟩) px.length cap2 (fun _ => True) (fun _ => False) rfl rfl ?a5O (HC21.out) (fun _ _ h => h) (fun _ h => h.elim) (fun _ _ => trivial) (Below.refl _ _) (Nat.le_refl _) ?a5L ?_; (case a5O => exact Kd.R_nil _ _ _ _ _); (case a5L => have := HLX.out; simp; omega); intro v_ w22 ho hb hg hat; obtain ⟨A22, c22, rfl, hle2, hC2⟩ := Kd.R_reads ho; have HC22 := Aside0.mk hC2; have HL22 := Aside0.mk hle2; have HB22 := Aside0.mk (below_step HB21.out hb); have BX22 := Aside0.mk (blk_below BX21.out hb); have HP22 := Aside0.mk (Kd.C_below HC21.out hb); clear ho hb hg hat hC2 hle2)
    | (go_at_call 36; (with_reducible refine (H36a.out _ _ _ HL22.out HC22.out).mono ?_); rintro e w23 ⟨rfl, hb⟩; have HB23 := Aside0.mk (below_step HB22.out hb); have BX23 := Aside0.mk (blk_below BX22.out hb); have HP23 := Aside0.mk (Kd.C_below HP22.out hb); clear hb))
  have HB24 := Aside0.mk (below_alloc HB23.out (.cells #[.int .i64 xe, .int .i64 xi, .int .i64 xr, .string xb] 32))
  have BX24 := Aside0.mk (blk_alloc BX23.out (.cells #[.int .i64 xe, .int .i64 xi, .int .i64 xr, .string xb] 32))
  have HP24 := Aside0.mk (Kd.C_below HP23.out (below_alloc (Below.refl _ _) (.cells #[.int .i64 xe, .int .i64 xi, .int .i64 xr, .string xb] 32)))
  have BN24 := Aside0.mk (blk_new w23 (.cells #[.int .i64 xe, .int .i64 xi, .int .i64 xr, .string xb] 32))
  generalize w23.alloc (.cells #[.int .i64 xe, .int .i64 xi, .int .i64 xr, .string xb] 32) = w24 at HB24 BX24 HP24 BN24 ⊢
  generalize w23.heap.size = n24 at BN24 ⊢
  clear x0 x1 x2 x3 HBc BXc HB21 BX21 HC21 HB22 BX22 HC22 HL22 HP22 HB23 BX23 HP23 H20 H36a
  obtain ⟨x0, x1, x2, x3⟩ := box32 BX24.out
  obtain ⟨n0, n1, n2, n3⟩ := box32 BN24.out
  go_upto_region 17 with (go_at_call 38; (with_reducible refine (H38.out _).mono ?_); rintro e w25 ⟨rfl, hb⟩; have HB25 := Aside0.mk (below_step HB24.out hb); have BX25 := Aside0.mk (blk_below BX24.out hb); have HP25 := Aside0.mk (Kd.C_below HP24.out hb); obtain ⟨u0, u1, u2, u3⟩ := box32 BX25.out; clear hb)
  clear x0 x1 x2 x3 n0 n1 n2 n3 HB24 BX24 HP24 BN24 H38
  have hs := HSX.out (some ⟨g2, 0, none⟩) cap2 HL21.out
  go_upto_region 18 with (first
    | (go_at_call 16; (with_reducible refine (HPx.out _).mono ?_); rintro e w26 ⟨rfl, hd⟩; have HB26 := Aside0.mk (below_step HB25.out hd.below); have HP26 := Aside0.mk (Kd.C_below HP25.out hd.below); clear hd)
    | (go_at_call 36; (with_reducible refine (H36b.out _ _ _ HL21.out HP26.out).mono ?_); rintro e w27 ⟨y0, y1, y2, y3, rfl, hb⟩; have HB27 := Aside0.mk (below_step HB26.out hb); clear hb))
  have HB28 := Aside0.mk (below_alloc HB27.out (.cells #[.int .i64 y0, .int .i64 y1, .int .i64 y2, .string y3] 32))
  generalize w27.alloc (.cells #[.int .i64 y0, .int .i64 y1, .int .i64 y2, .string y3] 32) = w28 at HB28 ⊢
  go_wp2_with (go_at_call 18; (with_reducible refine (HW.out _ HB28.out).mono ?_); rintro e we ⟨rfl, hb⟩; have HBe := Aside0.mk (below_step HB28.out hb); clear hb)
  go_ret
  exact ⟨rfl, HBe.out⟩
set_option maxHeartbeats 8000000 in
set_option maxRecDepth 100000 in
theorem fback_tf (q : AskV) (x : AnsV) (at_ : Int) (A0 : Option Addr) (c0 : Nat) (more : List Int) (w : World) (hT : Tabs w) (hr : (Kd.int .u8).C w A0 more.length more) (hc : more.length ≤ c0) (hy : Bytes more)
    (h1 : q.body.size ≤ 3000) (h2 : q.name.size ≤ 500) (h3 : x.body.size ≤ 3000) (h4 : more.length ≤ 100) (hq : q.ok = true) (hx : x.ok = false) :
    Calls Tryd.prog 10 #[.agg q.cells, .agg x.cells, .int .i64 at_, .slice A0 more.length c0] w fun e w' => e = .returned (.bool true) ∧ Below w.heap.size w w' := by
  have d1 : decide ((3000 : Int) < (q.body.size : Int)) = false := decide_eq_false (by omega)
  have d2 : decide ((500 : Int) < (q.name.size : Int)) = false := decide_eq_false (by omega)
  have d3 : decide ((3000 : Int) < (x.body.size : Int)) = false := decide_eq_false (by omega)
  have d4 : decide ((100 : Int) < (more.length : Int)) = false := decide_eq_false (by omega)
  have HW := Aside0.mk (fun w1 (h : Below w.heap.size w w1) => frame_awake_calls w1 (tabs_below hT h))
  have HMO := Aside0.mk hr
  have HMC := Aside0.mk hc
  have HM100 := Aside0.mk h4
  have hlq := q.put_len
  have hbq := q.ok_bounds hq
  obtain ⟨kz, hkz, k0, k1⟩ := xplaceN at_ q.put.length (by omega) (by omega)
  have HPl := Aside0.mk (fun w1 => erratumlaw00_Place.calls at_ (q.put.length : Int) (kz : Int) w1 hkz)
  have HK := Aside0.mk k1
  have H19 := Aside0.mk (fun w1 (h : Below w.heap.size w w1) => fput q w1 (tabs_below hT h) hq)
  have H32 := Aside0.mk (fun w1 => same_refl' q w1)
  have H31a := Aside0.mk (fun A c w1 (hle : q.put.length ≤ c) (hC : (Kd.int .u8).C w1 A q.put.length q.put) (h : Below w.heap.size w w1) => get_good w1 q.put A c q (getL_put q hq) hle hC (by omega) (bytes_put q hq) (tabs_below hT h))
  have H31b := Aside0.mk (fun A c w1 (hle : q.put.length ≤ c) (hC : (Kd.int .u8).C w1 A q.put.length q.put) (h : Below w.heap.size w w1) => get_any w1 (q.put.take kz) A c (by rw [List.length_take]; omega) (cut_row hC kz (by omega) hle) (by rw [List.length_take]; omega) (bytes_take (bytes_put q hq) kz) (tabs_below hT h))
  rw [getL_cut q hq kz k1, List.length_take, Nat.min_eq_left (Nat.le_of_lt k1)] at H31b
  have H31c := Aside0.mk (fun A c w1 (hle : (q.put ++ more).length ≤ c) (hC : (Kd.int .u8).C w1 A (q.put ++ more).length (q.put ++ more)) (h : Below w.heap.size w w1) => get_any w1 (q.put ++ more) A c hle hC (by rw [List.length_append]; omega) (bytes_append (bytes_put q hq) hy) (tabs_below hT h))
  obtain ⟨e9, he9⟩ : ∃ e, (getL (q.put ++ more)).1 = e := ⟨_, rfl⟩
  rw [he9] at H31c
  simp only [List.length_append] at H31c
  replace H31b := Aside0.mk (fun A c w1 hle hC h => get_any4 (H31b.out A c w1 hle hC h))
  replace H31c := Aside0.mk (fun A c w1 hle hC h => get_any4 (H31c.out A c w1 hle hC h))
  have h9 := getL_more q hq more
  rw [he9] at h9
  obtain ⟨b9, g1, g2, g3⟩ : ∃ b : Bool, (e9 == 0) = b ∧ ((more.length : Int) == 0) = b ∧ (more.length == 0) = b := by
    by_cases hm : more = []
    · exact ⟨true, by simp [h9.2 hm], by simp [hm], by simp [hm]⟩
    · have : more.length ≠ 0 := fun h => hm (List.length_eq_zero_iff.1 h)
      refine ⟨false, by simp [h9, hm], ?_, by simpa using this⟩
      rw [beq_eq_false_iff_ne]; omega
  have d15 : decide ((q.put.length : Int) < 15) = false := decide_eq_false (by omega)
  have HLQ := Aside0.mk (show q.put.length ≤ 10000 by omega)
  have hsl := fun A c (hle : q.put.length ≤ c) => cut_to (P := Tryd.prog) 33 5 .i64 Tryd.underlying33 (Option.map_eq_some_iff.1 size33).choose_spec.1 A q.put.length c (kz : Int) (by omega) (by omega) hle
  rw [Int.toNat_natCast] at hsl
  have HSL := Aside0.mk hsl
  obtain ⟨pl, hpl⟩ : ∃ l, q.put = l := ⟨_, rfl⟩
  rw [hpl] at HPl HK H19 H31a H31b H31c d15 HLQ HSL
  clear hlq hbq hkz k0 k1 he9 h9 hpl hsl
  have H20 := Aside0.mk (fun w1 => putAns_no x w1 hx)
  obtain ⟨k, name, f, lang, out, dst, mat, body⟩ := q
  obtain ⟨xe, xi, xr, xb⟩ := x
  simp only [AskV.cells, AnsV.cells] at *
  have hb00 := below_alloc (Below.refl w.heap.size w) (.cells #[.int .i64 k, .string name, .int .i64 f, .int .i64 lang, .int .i64 out, .int .i64 dst, .int .i64 mat, .string body] 29)
  have HB0 := Aside0.mk (below_alloc hb00 (.cells #[.int .i64 xe, .int .i64 xi, .int .i64 xr, .string xb] 32))
  have BK0 := Aside0.mk (blk_alloc (heap_new w (.cells #[.int .i64 k, .string name, .int .i64 f, .int .i64 lang, .int .i64 out, .int .i64 dst, .int .i64 mat, .string body] 29)) (.cells #[.int .i64 xe, .int .i64 xi, .int .i64 xr, .string xb] 32))
  have BX0 := Aside0.mk (heap_new1 w (.cells #[.int .i64 k, .string name, .int .i64 f, .int .i64 lang, .int .i64 out, .int .i64 dst, .int .i64 mat, .string body] 29) (.cells #[.int .i64 xe, .int .i64 xi, .int .i64 xr, .string xb] 32))
  clear hb00 hT hr hc hy h1 h2 h4 hq hx
  go_enter Tryd.func10, Tryd.ntmps10
  go_upto_region 3 with fail
  clear d1 d2 d3 d4
  generalize hw0 : (w.alloc (.cells #[.int .i64 k, .string name, .int .i64 f, .int .i64 lang, .int .i64 out, .int .i64 dst, .int .i64 mat, .string body] 29)).alloc (.cells #[.int .i64 xe, .int .i64 xi, .int .i64 xr, .string xb] 32) = w0 at HB0 BK0 BX0 ⊢
  clear hw0
  obtain ⟨b0, b1, b2, b3, b4, b5, b6, b7⟩ := box29 BK0.out
  go_upto_region 6 with (first
    | (go_at_call 19; (with_reducible refine (H19.out _ HB0.out).mono ?_); rintro e w1 ⟨g1, cap1, rfl, hle, hC, hb⟩; have HB1 := Aside0.mk (below_step HB0.out hb); have BK1 := Aside0.mk (blk_below BK0.out hb); have BX1 := Aside0.mk (blk_below BX0.out hb); have HC1 := Aside0.mk hC; have HL1 := Aside0.mk hle; clear hb hC hle)
    | ((with_reducible refine gate_builtin (b := .append) (xs := #[.const (.slice none 0 0), .tmp 53]) rfl ?_); at_builtin; refine Kd.R_append_rows (Kd.int .u8) (w0 := w1) w1.heap.size rfl (.const (.slice none 0 0)) (.tmp 53) 33 5 (.int .u8 0) 1 rfl Tryd.underlying33 info5x rfl (by decide) (by omega) (.slice none 0 0) ([] : List Int) pl (some ⟨g1, 0, none⟩) pl.length cap1 (fun _ => True) (fun _ => False) rfl rfl ?a1O (HC1.out) (fun _ _ h => h) (fun _ h => h.elim) (fun _ _ => trivial) (Below.refl _ _) (Nat.le_refl _) ?a1L ?_; (case a1O => exact Kd.R_nil _ _ _ _ _); (case a1L => have := HLQ.out; simp; omega); intro v_ w2 ho hb hg hat; obtain ⟨A2, c2, rfl, hle2, hC2⟩ := Kd.R_reads ho; have HC2 := Aside0.mk hC2; have HL2 := Aside0.mk hle2; have HB2 := Aside0.mk (below_step HB1.out hb); have BK2 := Aside0.mk (blk_below BK1.out hb); have BX2 := Aside0.mk (blk_below BX1.out hb); have HP2 := Aside0.mk (Kd.C_below HC1.out hb); clear ho hb hg hat hC2 hle2)
    | (go_at_call 31; (with_reducible refine (H31a.out _ _ _ HL2.out HC2.out HB2.out).mono ?_); rintro e w3 ⟨rfl, hb⟩; have HB3 := Aside0.mk (below_step HB2.out hb); have BK3 := Aside0.mk (blk_below BK2.out hb); have BX3 := Aside0.mk (blk_below BX2.out hb); have HP3 := Aside0.mk (Kd.C_below HP2.out hb); clear hb))
  have HB4 := Aside0.mk (below_alloc HB3.out (.cells #[.int .i64 k, .string name, .int .i64 f, .int .i64 lang, .int .i64 out, .int .i64 dst, .int .i64 mat, .string body] 29))
  have BK4 := Aside0.mk (blk_alloc BK3.out (.cells #[.int .i64 k, .string name, .int .i64 f, .int .i64 lang, .int .i64 out, .int .i64 dst, .int .i64 mat, .string body] 29))
  have BX4 := Aside0.mk (blk_alloc BX3.out (.cells #[.int .i64 k, .string name, .int .i64 f, .int .i64 lang, .int .i64 out, .int .i64 dst, .int .i64 mat, .string body] 29))
  have HP4 := Aside0.mk (Kd.C_below HP3.out (below_alloc (Below.refl _ _) (.cells #[.int .i64 k, .string name, .int .i64 f, .int .i64 lang, .int .i64 out, .int .i64 dst, .int .i64 mat, .string body] 29)))
  have BN4 := Aside0.mk (blk_new w3 (.cells #[.int .i64 k, .string name, .int .i64 f, .int .i64 lang, .int .i64 out, .int .i64 dst, .int .i64 mat, .string body] 29))
  generalize w3.alloc (.cells #[.int .i64 k, .string name, .int .i64 f, .int .i64 lang, .int .i64 out, .int .i64 dst, .int .i64 mat, .string body] 29) = w4 at HB4 BK4 BX4 HP4 BN4 ⊢
  generalize w3.heap.size = n4 at BN4 ⊢
  clear b0 b1 b2 b3 b4 b5 b6 b7 HB0 BK0 BX0 HB1 BK1 BX1 HC1 HB2 BK2 BX2 HC2 HL2 HP2 HB3 BK3 BX3 HP3 H19 H31a
  obtain ⟨b0, b1, b2, b3, b4, b5, b6, b7⟩ := box29 BK4.out
  obtain ⟨n0, n1, n2, n3, n4', n5, n6, n7⟩ := box29 BN4.out
  go_upto_region 8 with (go_at_call 32; (with_reducible refine (H32.out _).mono ?_); rintro e w5 ⟨rfl, hb⟩; have HB5 := Aside0.mk (below_step HB4.out hb); have BK5 := Aside0.mk (blk_below BK4.out hb); have BX5 := Aside0.mk (blk_below BX4.out hb); have HP5 := Aside0.mk (Kd.C_below HP4.out hb); clear hb)
  clear b0 b1 b2 b3 b4 b5 b6 b7 n0 n1 n2 n3 n4' n5 n6 n7 HB4 BK4 BX4 HP4 BN4 H32
  have hs := HSL.out (some ⟨g1, 0, none⟩) cap1 HL1.out
  go_upto_region 9 with (first
    | (go_at_call 16; (with_reducible refine (HPl.out _).mono ?_); rintro e w6 ⟨rfl, hd⟩; have HB6 := Aside0.mk (below_step HB5.out hd.below); have BX6 := Aside0.mk (blk_below BX5.out hd.below); have HP6 := Aside0.mk (Kd.C_below HP5.out hd.below); clear hd)
    | (go_at_call 31; (with_reducible refine (H31b.out _ _ _ HL1.out HP6.out HB6.out).mono ?_); rintro e w7 ⟨y0, y1, y2, y3, y4, y5, y6, y7, rfl, hb⟩; have HB7 := Aside0.mk (below_step HB6.out hb); have BX7 := Aside0.mk (blk_below BX6.out hb); have HP7 := Aside0.mk (Kd.C_below HP6.out hb); clear hb))
  have HB8 := Aside0.mk (below_alloc HB7.out (.cells #[.int .i64 y0, .string y1, .int .i64 y2, .int .i64 y3, .int .i64 y4, .int .i64 y5, .int .i64 y6, .string y7] 29))
  have BX8 := Aside0.mk (blk_alloc BX7.out (.cells #[.int .i64 y0, .string y1, .int .i64 y2, .int .i64 y3, .int .i64 y4, .int .i64 y5, .int .i64 y6, .string y7] 29))
  have HP8 := Aside0.mk (Kd.C_below HP7.out (below_alloc (Below.refl _ _) (.cells #[.int .i64 y0, .string y1, .int .i64 y2, .int .i64 y3, .int .i64 y4, .int .i64 y5, .int .i64 y6, .string y7] 29)))
  generalize w7.alloc (.cells #[.int .i64 y0, .string y1, .int .i64 y2, .int .i64 y3, .int .i64 y4, .int .i64 y5, .int .i64 y6, .string y7] 29) = w8 at HB8 BX8 HP8 ⊢
  clear hs HB5 BK5 BX5 HP5 HB6 BX6 HP6 HB7 BX7 HP7 H31b HPl HSL
  have HMO8 := Aside0.mk (Kd.C_below HMO.out HB8.out)
  go_upto_region 10 with (first
    | ((with_reducible refine gate_builtin (b := .append) (xs := #[.const (.slice none 0 0), .tmp 82]) rfl ?_); at_builtin; refine Kd.R_append_rows (Kd.int .u8) (w0 := w8) w8.heap.size rfl (.const (.slice none 0 0)) (.tmp 82) 33 5 (.int .u8 0) 1 rfl Tryd.underlying33 info5x rfl (by decide) (by omega) (.slice none 0 0) ([] : List Int) pl (some ⟨g1, 0, none⟩) pl.length cap1 (fun _ => True) (fun _ => False) rfl rfl ?a2O (HP8.out) (fun _ _ h => h) (fun _ h => h.elim) (fun _ _ => trivial) (Below.refl _ _) (Nat.le_refl _) ?a2L ?_; (case a2O => exact Kd.R_nil _ _ _ _ _); (case a2L => have := HLQ.out; simp; omega); intro v_ w9 ho hb hg hat; simp only [List.nil_append] at ho; have HR9 := Aside0.mk ho; have HX9 := Aside0.mk hb; have HB9 := Aside0.mk (below_step HB8.out hb); have BX9 := Aside0.mk (blk_below BX8.out hb); have HMO9 := Aside0.mk (Kd.C_below HMO8.out hb); clear ho hb hg hat)
    | ((with_reducible refine gate_builtin (b := .append) (xs := #[.tmp 83, .tmp 84]) rfl ?_); at_builtin; refine Kd.R_append_rows (Kd.int .u8) (w0 := w8) w8.heap.size rfl (.tmp 83) (.tmp 84) 33 5 (.int .u8 0) 1 rfl Tryd.underlying33 info5x rfl (by decide) (by omega) v_ pl more A0 more.length c0 (fun _ => True) (fun _ => False) rfl rfl ?a3O (HMO9.out) (fun _ _ h => h) (fun _ h => h.elim) (fun _ _ => trivial) (HX9.out) (HX9.out.size) ?a3L ?_; (case a3O => exact HR9.out); (case a3L => have := HLQ.out; have := HMC.out; have := HM100.out; omega); intro v2_ wa ho hb hg hat; obtain ⟨Aa, ca, rfl, hlea, hCa⟩ := Kd.R_reads ho; rw [List.length_append] at hlea hCa; have HCa := Aside0.mk hCa; have HLa := Aside0.mk hlea; have HBa := Aside0.mk (below_step HB8.out hb); have BXa := Aside0.mk (blk_below BX8.out hb); clear ho hb hg hat hCa hlea)
    | (go_at_call 31; (with_reducible refine (H31c.out _ _ _ HLa.out HCa.out HBa.out).mono ?_); rintro e wb ⟨z0, z1, z2, z3, z4, z5, z6, z7, rfl, hb⟩; have HBb := Aside0.mk (below_step HBa.out hb); have BXb := Aside0.mk (blk_below BXa.out hb); clear hb))
  have HBc := Aside0.mk (below_alloc HBb.out (.cells #[.int .i64 z0, .string z1, .int .i64 z2, .int .i64 z3, .int .i64 z4, .int .i64 z5, .int .i64 z6, .string z7] 29))
  have BXc := Aside0.mk (blk_alloc BXb.out (.cells #[.int .i64 z0, .string z1, .int .i64 z2, .int .i64 z3, .int .i64 z4, .int .i64 z5, .int .i64 z6, .string z7] 29))
  generalize wb.alloc (.cells #[.int .i64 z0, .string z1, .int .i64 z2, .int .i64 z3, .int .i64 z4, .int .i64 z5, .int .i64 z6, .string z7] 29) = wc at HBc BXc ⊢
  clear HB8 BX8 HP8 HMO8 HR9 HX9 HB9 BX9 HMO9 HCa HLa HBa BXa HBb BXb H31c
  go_upto_region 12 with fail
  obtain ⟨x0, x1, x2, x3⟩ := box32 BXc.out
  go_wp2_with (first
    | (go_at_call 20; (with_reducible refine (H20.out _).mono ?_); rintro e wd ⟨rfl, hb⟩; have HBd := Aside0.mk (below_step HBc.out hb); clear hb)
    | (go_at_call 18; (with_reducible refine (HW.out _ HBd.out).mono ?_); rintro e we ⟨rfl, hb⟩; have HBe := Aside0.mk (below_step HBd.out hb); clear hb))
  go_ret
  exact ⟨rfl, HBe.out⟩
set_option maxHeartbeats 8000000 in
set_option maxRecDepth 100000 in
theorem fback_ft (q : AskV) (x : AnsV) (at_ : Int) (A0 : Option Addr) (c0 : Nat) (more : List Int) (w : World) (hT : Tabs w) (hr : (Kd.int .u8).C w A0 more.length more) (hc : more.length ≤ c0) (hy : Bytes more)
    (h1 : q.body.size ≤ 3000) (h2 : q.name.size ≤ 500) (h3 : x.body.size ≤ 3000) (h4 : more.length ≤ 100) (hq : q.ok = false) (hx : x.ok = true) :
    Calls Tryd.prog 10 #[.agg q.cells, .agg x.cells, .int .i64 at_, .slice A0 more.length c0] w fun e w' => e = .returned (.bool true) ∧ Below w.heap.size w w' := by
  have d1 : decide ((3000 : Int) < (q.body.size : Int)) = false := decide_eq_false (by omega)
  have d2 : decide ((500 : Int) < (q.name.size : Int)) = false := decide_eq_false (by omega)
  have d3 : decide ((3000 : Int) < (x.body.size : Int)) = false := decide_eq_false (by omega)
  have d4 : decide ((100 : Int) < (more.length : Int)) = false := decide_eq_false (by omega)
  have HW := Aside0.mk (fun w1 (h : Below w.heap.size w w1) => frame_awake_calls w1 (tabs_below hT h))
  have HMO := Aside0.mk hr
  have HMC := Aside0.mk hc
  have HM100 := Aside0.mk h4
  have H19 := Aside0.mk (fun w1 (h : Below w.heap.size w w1) => put_no q w1 (tabs_below hT h) (by omega) (by omega) hq)
  have hlx := x.put_len
  obtain ⟨kx, hkx, k2, k3⟩ := xplaceN at_ x.put.length (by omega) (by omega)
  have HPx := Aside0.mk (fun w1 => erratumlaw00_Place.calls at_ (x.put.length : Int) (kx : Int) w1 hkx)
  have H20 := Aside0.mk (fun w1 => fputA x w1 hx)
  have H38 := Aside0.mk (fun w1 => sameA_refl' x w1)
  have H36a := Aside0.mk (fun A c w1 (hle : x.put.length ≤ c) (hC : (Kd.int .u8).C w1 A x.put.length x.put) => ans_good w1 x.put A c x (ansG_put x hx) hle hC (by omega) (bytes_ans x hx))
  have H36b := Aside0.mk (fun A c w1 (hle : x.put.length ≤ c) (hC : (Kd.int .u8).C w1 A x.put.length x.put) => ans_any w1 (x.put.take kx) A c (by rw [List.length_take]; omega) (cut_row hC kx (by omega) hle) (by rw [List.length_take]; omega) (bytes_take (bytes_ans x hx) kx))
  rw [ansG_cut x hx kx k3, List.length_take, Nat.min_eq_left (Nat.le_of_lt k3)] at H36b
  replace H36b := Aside0.mk (fun A c w1 hle hC => ans_any4 (H36b.out A c w1 hle hC))
  have hsx := fun A c (hle : x.put.length ≤ c) => cut_to (P := Tryd.prog) 33 5 .i64 Tryd.underlying33 (Option.map_eq_some_iff.1 size33).choose_spec.1 A x.put.length c (kx : Int) (by omega) (by omega) hle
  rw [Int.toNat_natCast] at hsx
  have HSX := Aside0.mk hsx
  have e10 : ((x.put.length : Int) != 10 + (x.body.size : Int)) = false := bne_eq_false_iff_eq.2 (by omega)
  have HLX := Aside0.mk (show x.put.length ≤ 10000 by omega)
  obtain ⟨px, hpx⟩ : ∃ l, x.put = l := ⟨_, rfl⟩
  rw [hpx] at HPx H20 H36a H36b HSX e10 HLX
  clear hlx hkx k2 k3 hpx hsx
  obtain ⟨k, name, f, lang, out, dst, mat, body⟩ := q
  obtain ⟨xe, xi, xr, xb⟩ := x
  simp only [AskV.cells, AnsV.cells] at *
  have hb00 := below_alloc (Below.refl w.heap.size w) (.cells #[.int .i64 k, .string name, .int .i64 f, .int .i64 lang, .int .i64 out, .int .i64 dst, .int .i64 mat, .string body] 29)
  have HB0 := Aside0.mk (below_alloc hb00 (.cells #[.int .i64 xe, .int .i64 xi, .int .i64 xr, .string xb] 32))
  have BK0 := Aside0.mk (blk_alloc (heap_new w (.cells #[.int .i64 k, .string name, .int .i64 f, .int .i64 lang, .int .i64 out, .int .i64 dst, .int .i64 mat, .string body] 29)) (.cells #[.int .i64 xe, .int .i64 xi, .int .i64 xr, .string xb] 32))
  have BX0 := Aside0.mk (heap_new1 w (.cells #[.int .i64 k, .string name, .int .i64 f, .int .i64 lang, .int .i64 out, .int .i64 dst, .int .i64 mat, .string body] 29) (.cells #[.int .i64 xe, .int .i64 xi, .int .i64 xr, .string xb] 32))
  clear hb00 hT hr hc hy h1 h2 h4 hq hx
  go_enter Tryd.func10, Tryd.ntmps10
  go_upto_region 3 with fail
  clear d1 d2 d3 d4
  generalize hw0 : (w.alloc (.cells #[.int .i64 k, .string name, .int .i64 f, .int .i64 lang, .int .i64 out, .int .i64 dst, .int .i64 mat, .string body] 29)).alloc (.cells #[.int .i64 xe, .int .i64 xi, .int .i64 xr, .string xb] 32) = w0 at HB0 BK0 BX0 ⊢
  clear hw0
  obtain ⟨b0, b1, b2, b3, b4, b5, b6, b7⟩ := box29 BK0.out
  go_upto_region 12 with (go_at_call 19; (with_reducible refine (H19.out _ HB0.out).mono ?_); rintro e wc ⟨rfl, hb⟩; have HBc := Aside0.mk (below_step HB0.out hb); have BXc := Aside0.mk (blk_below BX0.out hb); clear hb)
  clear b0 b1 b2 b3 b4 b5 b6 b7 HB0 BK0 BX0
  obtain ⟨x0, x1, x2, x3⟩ := box32 BXc.out
  go_upto_region 15 with (first
    | (go_at_call 20; (with_reducible refine (H20.out _).mono ?_); rintro e w21 ⟨g2, cap2, rfl, hle, hC, hb⟩; have HB21 := Aside0.mk (below_step HBc.out hb); have BX21 := Aside0.mk (blk_below BXc.out hb); have HC21 := Aside0.mk hC; have HL21 := Aside0.mk hle; clear hb hC hle)
    | ((with_reducible refine gate_builtin (b := .append) (xs := #[.const (.slice none 0 0), .tmp 107]) rfl ?_); at_builtin; refine Kd.R_append_rows (Kd.int .u8) (w0 := w21) w21.heap.size rfl (.const (.slice none 0 0)) (.tmp 107) 33 5 (.int .u8 0) 1 rfl Tryd.underlying33 info5x rfl (by decide) (by omega) (.slice none 0 0) ([] : List Int) px (some ⟨g2, 0, none⟩) px.length cap2 (fun _ => True) (fun _ => False) rfl rfl ?a5O (HC21.out) (fun _ _ h => h) (fun _ h => h.elim) (fun _ _ => trivial) (Below.refl _ _) (Nat.le_refl _) ?a5L ?_; (case a5O => exact Kd.R_nil _ _ _ _ _); (case a5L => have := HLX.out; simp; omega); intro v_ w22 ho hb hg hat; obtain ⟨A22, c22, rfl, hle2, hC2⟩ := Kd.R_reads ho; have HC22 := Aside0.mk hC2; have HL22 := Aside0.mk hle2; have HB22 := Aside0.mk (below_step HB21.out hb); have BX22 := Aside0.mk (blk_below BX21.out hb); have HP22 := Aside0.mk (Kd.C_below HC21.out hb); clear ho hb hg hat hC2 hle2)
    | (go_at_call 36; (with_reducible refine (H36a.out _ _ _ HL22.out HC22.out).mono ?_); rintro e w23 ⟨rfl, hb⟩; have HB23 := Aside0.mk (below_step HB22.out hb); have BX23 := Aside0.mk (blk_below BX22.out hb); have HP23 := Aside0.mk (Kd.C_below HP22.out hb); clear hb))
  have HB24 := Aside0.mk (below_alloc HB23.out (.cells #[.int .i64 xe, .int .i64 xi, .int .i64 xr, .string xb] 32))
  have BX24 := Aside0.mk (blk_alloc BX23.out (.cells #[.int .i64 xe, .int .i64 xi, .int .i64 xr, .string xb] 32))
  have HP24 := Aside0.mk (Kd.C_below HP23.out (below_alloc (Below.refl _ _) (.cells #[.int .i64 xe, .int .i64 xi, .int .i64 xr, .string xb] 32)))
  have BN24 := Aside0.mk (blk_new w23 (.cells #[.int .i64 xe, .int .i64 xi, .int .i64 xr, .string xb] 32))
  generalize w23.alloc (.cells #[.int .i64 xe, .int .i64 xi, .int .i64 xr, .string xb] 32) = w24 at HB24 BX24 HP24 BN24 ⊢
  generalize w23.heap.size = n24 at BN24 ⊢
  clear x0 x1 x2 x3 HBc BXc HB21 BX21 HC21 HB22 BX22 HC22 HL22 HP22 HB23 BX23 HP23 H20 H36a
  obtain ⟨x0, x1, x2, x3⟩ := box32 BX24.out
  obtain ⟨n0, n1, n2, n3⟩ := box32 BN24.out
  go_upto_region 17 with (go_at_call 38; (with_reducible refine (H38.out _).mono ?_); rintro e w25 ⟨rfl, hb⟩; have HB25 := Aside0.mk (below_step HB24.out hb); have BX25 := Aside0.mk (blk_below BX24.out hb); have HP25 := Aside0.mk (Kd.C_below HP24.out hb); obtain ⟨u0, u1, u2, u3⟩ := box32 BX25.out; clear hb)
  clear x0 x1 x2 x3 n0 n1 n2 n3 HB24 BX24 HP24 BN24 H38
  have hs := HSX.out (some ⟨g2, 0, none⟩) cap2 HL21.out
  go_upto_region 18 with (first
    | (go_at_call 16; (with_reducible refine (HPx.out _).mono ?_); rintro e w26 ⟨rfl, hd⟩; have HB26 := Aside0.mk (below_step HB25.out hd.below); have HP26 := Aside0.mk (Kd.C_below HP25.out hd.below); clear hd)
    | (go_at_call 36; (with_reducible refine (H36b.out _ _ _ HL21.out HP26.out).mono ?_); rintro e w27 ⟨y0, y1, y2, y3, rfl, hb⟩; have HB27 := Aside0.mk (below_step HB26.out hb); clear hb))
  have HB28 := Aside0.mk (below_alloc HB27.out (.cells #[.int .i64 y0, .int .i64 y1, .int .i64 y2, .string y3] 32))
  generalize w27.alloc (.cells #[.int .i64 y0, .int .i64 y1, .int .i64 y2, .string y3] 32) = w28 at HB28 ⊢
  go_wp2_with (go_at_call 18; (with_reducible refine (HW.out _ HB28.out).mono ?_); rintro e we ⟨rfl, hb⟩; have HBe := Aside0.mk (below_step HB28.out hb); clear hb)
  go_ret
  exact ⟨rfl, HBe.out⟩
set_option maxHeartbeats 8000000 in
set_option maxRecDepth 100000 in
theorem fback_ff (q : AskV) (x : AnsV) (at_ : Int) (A0 : Option Addr) (c0 : Nat) (more : List Int) (w : World) (hT : Tabs w) (hr : (Kd.int .u8).C w A0 more.length more) (hc : more.length ≤ c0) (hy : Bytes more)
    (h1 : q.body.size ≤ 3000) (h2 : q.name.size ≤ 500) (h3 : x.body.size ≤ 3000) (h4 : more.length ≤ 100) (hq : q.ok = false) (hx : x.ok = false) :
    Calls Tryd.prog 10 #[.agg q.cells, .agg x.cells, .int .i64 at_, .slice A0 more.length c0] w fun e w' => e = .returned (.bool true) ∧ Below w.heap.size w w' := by
  have d1 : decide ((3000 : Int) < (q.body.size : Int)) = false := decide_eq_false (by omega)
  have d2 : decide ((500 : Int) < (q.name.size : Int)) = false := decide_eq_false (by omega)
  have d3 : decide ((3000 : Int) < (x.body.size : Int)) = false := decide_eq_false (by omega)
  have d4 : decide ((100 : Int) < (more.length : Int)) = false := decide_eq_false (by omega)
  have HW := Aside0.mk (fun w1 (h : Below w.heap.size w w1) => frame_awake_calls w1 (tabs_below hT h))
  have HMO := Aside0.mk hr
  have HMC := Aside0.mk hc
  have HM100 := Aside0.mk h4
  have H19 := Aside0.mk (fun w1 (h : Below w.heap.size w w1) => put_no q w1 (tabs_below hT h) (by omega) (by omega) hq)
  have H20 := Aside0.mk (fun w1 => putAns_no x w1 hx)
  obtain ⟨k, name, f, lang, out, dst, mat, body⟩ := q
  obtain ⟨xe, xi, xr, xb⟩ := x
  simp only [AskV.cells, AnsV.cells] at *
  have hb00 := below_alloc (Below.refl w.heap.size w) (.cells #[.int .i64 k, .string name, .int .i64 f, .int .i64 lang, .int .i64 out, .int .i64 dst, .int .i64 mat, .string body] 29)
  have HB0 := Aside0.mk (below_alloc hb00 (.cells #[.int .i64 xe, .int .i64 xi, .int .i64 xr, .string xb] 32))
  have BK0 := Aside0.mk (blk_alloc (heap_new w (.cells #[.int .i64 k, .string name, .int .i64 f, .int .i64 lang, .int .i64 out, .int .i64 dst, .int .i64 mat, .string body] 29)) (.cells #[.int .i64 xe, .int .i64 xi, .int .i64 xr, .string xb] 32))
  have BX0 := Aside0.mk (heap_new1 w (.cells #[.int .i64 k, .string name, .int .i64 f, .int .i64 lang, .int .i64 out, .int .i64 dst, .int .i64 mat, .string body] 29) (.cells #[.int .i64 xe, .int .i64 xi, .int .i64 xr, .string xb] 32))
  clear hb00 hT hr hc hy h1 h2 h4 hq hx
  go_enter Tryd.func10, Tryd.ntmps10
  go_upto_region 3 with fail
  clear d1 d2 d3 d4
  generalize hw0 : (w.alloc (.cells #[.int .i64 k, .string name, .int .i64 f, .int .i64 lang, .int .i64 out, .int .i64 dst, .int .i64 mat, .string body] 29)).alloc (.cells #[.int .i64 xe, .int .i64 xi, .int .i64 xr, .string xb] 32) = w0 at HB0 BK0 BX0 ⊢
  clear hw0
  obtain ⟨b0, b1, b2, b3, b4, b5, b6, b7⟩ := box29 BK0.out
  go_upto_region 12 with (go_at_call 19; (with_reducible refine (H19.out _ HB0.out).mono ?_); rintro e wc ⟨rfl, hb⟩; have HBc := Aside0.mk (below_step HB0.out hb); have BXc := Aside0.mk (blk_below BX0.out hb); clear hb)
  clear b0 b1 b2 b3 b4 b5 b6 b7 HB0 BK0 BX0
  obtain ⟨x0, x1, x2, x3⟩ := box32 BXc.out
  go_wp2_with (first
    | (go_at_call 20; (with_reducible refine (H20.out _).mono ?_); rintro e wd ⟨rfl, hb⟩; have HBd := Aside0.mk (below_step HBc.out hb); clear hb)
    | (go_at_call 18; (with_reducible refine (HW.out _ HBd.out).mono ?_); rintro e we ⟨rfl, hb⟩; have HBe := Aside0.mk (below_step HBd.out hb); clear hb))
  go_ret
  exact ⟨rfl, HBe.out⟩
set_option maxHeartbeats 8000000 in
set_option maxRecDepth 100000 in
theorem fback_out (q : AskV) (x : AnsV) (at_ : Int) (A0 : Option Addr) (c0 : Nat) (more : List Int) (w : World) (hT : Tabs w)
    (h : 3000 < q.body.size ∨ 500 < q.name.size ∨ 3000 < x.body.size ∨ 100 < more.length) :
    Calls Tryd.prog 10 #[.agg q.cells, .agg x.cells, .int .i64 at_, .slice A0 more.length c0] w fun e w' => e = .returned (.bool true) ∧ Below w.heap.size w w' := by
  obtain ⟨k, name, f, lang, out, dst, mat, body⟩ := q
  obtain ⟨xe, xi, xr, xb⟩ := x
  simp only [AskV.cells, AnsV.cells] at *
  have HB0 := Aside0.mk (below_alloc (below_alloc (Below.refl w.heap.size w) (.cells #[.int .i64 k, .string name, .int .i64 f, .int .i64 lang, .int .i64 out, .int .i64 dst, .int .i64 mat, .string body] 29)) (.cells #[.int .i64 xe, .int .i64 xi, .int .i64 xr, .string xb] 32))
  have HW := Aside0.mk (fun w1 (h : Below w.heap.size w w1) => frame_awake_calls w1 (tabs_below hT h))
  clear hT
  have hc : (decide ((3000 : Int) < (body.size : Int)) = true) ∨ (decide ((3000 : Int) < (body.size : Int)) = false ∧ decide ((500 : Int) < (name.size : Int)) = true) ∨ (decide ((3000 : Int) < (body.size : Int)) = false ∧ decide ((500 : Int) < (name.size : Int)) = false ∧ decide ((3000 : Int) < (xb.size : Int)) = true)
      ∨ (decide ((3000 : Int) < (body.size : Int)) = false ∧ decide ((500 : Int) < (name.size : Int)) = false ∧ decide ((3000 : Int) < (xb.size : Int)) = false ∧ decide ((100 : Int) < (more.length : Int)) = true) := by
    simp only [decide_eq_true_iff, decide_eq_false_iff_not]
    omega
  clear h
  rcases hc with d1 | ⟨d1, d2⟩ | ⟨d1, d2, d3⟩ | ⟨d1, d2, d3, d4⟩
  all_goals
    go_enter Tryd.func10, Tryd.ntmps10
    go_wp2_with (go_at_call 18; (with_reducible refine (HW.out _ HB0.out).mono ?_); rintro e7 w7 ⟨rfl, hb⟩; have HB7 := Aside0.mk (below_step HB0.out hb); clear hb)
    go_ret
    exact ⟨rfl, HB7.out⟩
/-- FrameBack answers true at every input. -/
theorem fback_all (q : AskV) (x : AnsV) (at_ : Int) (A0 : Option Addr) (c0 : Nat) (more : List Int) (w : World) (hT : Tabs w) (hr : (Kd.int .u8).C w A0 more.length more) (hc : more.length ≤ c0) (hy : Bytes more) :
    Calls Tryd.prog 10 #[.agg q.cells, .agg x.cells, .int .i64 at_, .slice A0 more.length c0] w fun e w' => e = .returned (.bool true) ∧ Below w.heap.size w w' := by
  by_cases h : 3000 < q.body.size ∨ 500 < q.name.size ∨ 3000 < x.body.size ∨ 100 < more.length
  · exact fback_out q x at_ A0 c0 more w hT h
  · cases hq : q.ok <;> cases hx : x.ok
    · exact fback_ff q x at_ A0 c0 more w hT hr hc hy (by omega) (by omega) (by omega) (by omega) hq hx
    · exact fback_ft q x at_ A0 c0 more w hT hr hc hy (by omega) (by omega) (by omega) (by omega) hq hx
    · exact fback_tf q x at_ A0 c0 more w hT hr hc hy (by omega) (by omega) (by omega) (by omega) hq hx
    · exact fback_tt q x at_ A0 c0 more w hT hr hc hy (by omega) (by omega) (by omega) (by omega) hq hx
end Go.Proofs.YtpamgedmgjfjjaaDoor.M
