/-
The walk of FrameFields.
-/
import Derived.Test.YtpamgedmgjfjjaaDoorXFGetP
import Derived.Test.YtpamgedmgjfjjaaDoorM3
import Derived.Test.YtpamgedmgjfjjaaDoorM4
import Derived.Test.YtpamgedmgjfjjaaDoorXRef
import Derived.Test.YtpamgedmgjfjjaaDoorXRunesLaw
namespace Go.Proofs.YtpamgedmgjfjjaaDoor.M
open Go.RowKit Go.Proofs.YtpamgedmgjfjjaaDoorW.PrintWords Go.Proofs.YtpamgedmgjfjjaaDoorW.PrintLast Go.Proofs.YtpamgedmgjfjjaaDoorW.PrintMore
set_option linter.unusedVariables false
set_option linter.unusedSimpArgs false
theorem ref_in_B (v lo hi : Int) : erratumref25_in.f v lo hi = some (inB v lo hi) := by
  unfold erratumref25_in.f inB
  by_cases h : lo ≤ v
  · rw [if_pos h]; simp [h]
  · rw [if_neg h]; simp [h]
theorem refCheck_k (q : AskV) (hn : q.name.size ≤ 1000000) : erratumref25_Check.f (q.name.size + 5) q.k q.name q.f q.lang q.out q.dst q.mat q.body = some q.ok := by
  unfold erratumref25_Check.f AskV.ok
  simp only [ref_in_B, refValid_k q.name hn (q.name.size + 5) (Nat.le_refl _), Option.bind_some]
  have e : decide ((q.body.size : Int) ≤ 32768) = decide (q.body.size ≤ 32768) := by
    by_cases h : q.body.size ≤ 32768
    · rw [decide_eq_true h, decide_eq_true (by omega)]
    · rw [decide_eq_false h, decide_eq_false (by omega)]
  rw [e]
  cases inB q.k 1 6 <;> cases inB q.name.size 1 40 <;> cases validU q.name q.name.size 0 <;> cases inB q.f 0 3 <;> cases inB q.out 0 3 <;> cases inB q.lang 0 3 <;> cases inB q.dst 0 3 <;> cases inB q.mat 0 2147483647 <;> simp
theorem refCheck_calls (q : AskV) (hn : q.name.size ≤ 1000000) (w : World) : Calls Tryd.prog 29 #[.agg q.cells] w fun e w' => e = .returned (.bool q.ok) ∧ Below w.heap.size w w' :=
  erratumref25_Check.calls _ _ _ _ _ _ _ _ _ _ w (refCheck_k q hn)
theorem same_refl (q : AskV) (w : World) : Calls Tryd.prog 32 #[.agg q.cells, .agg q.cells] w fun e w' => e = .returned (.bool true) ∧ Below w.heap.size w w' :=
  erratumlaw25_same.calls _ _ _ _ _ _ _ _ _ _ _ _ _ _ _ _ true w (by simp [erratumlaw25_same.f])
/-- One field turned: which, to what; its greatest, its least. -/
def AskV.turn (q : AskV) (m : Int) (n : Int) : AskV :=
  if m = 0 then { q with k := n } else if m = 1 then { q with f := n } else if m = 2 then { q with out := n } else if m = 3 then { q with lang := n } else if m = 4 then { q with dst := n } else { q with mat := n }
def mostOf (m : Int) : Int := if m = 0 then 6 else if m = 1 then 3 else if m = 2 then 3 else if m = 3 then 3 else if m = 4 then 3 else 2147483647
def leastOf (m : Int) : Int := if m = 0 then 1 else 0
theorem inB_iff (v lo hi : Int) : inB v lo hi = true ↔ lo ≤ v ∧ v ≤ hi := by simp [inB]
theorem turn_ok (q : AskV) (m n : Int) (hok : q.ok = true) : (q.turn m n).ok = inB n (leastOf m) (mostOf m) := by
  simp only [AskV.ok, Bool.and_eq_true] at hok
  obtain ⟨h1, h2, h3, h4, h5, h6, h7, h8, h9⟩ := hok
  unfold AskV.turn mostOf leastOf
  by_cases e0 : m = 0
  · simp [e0, AskV.ok, h1, h2, h3, h4, h5, h6, h7, h8, h9]
  by_cases e1 : m = 1
  · simp [e1, AskV.ok, h1, h2, h3, h4, h5, h6, h7, h8, h9]
  by_cases e2 : m = 2
  · simp [e2, AskV.ok, h1, h2, h3, h4, h5, h6, h7, h8, h9]
  by_cases e3 : m = 3
  · simp [e3, AskV.ok, h1, h2, h3, h4, h5, h6, h7, h8, h9]
  by_cases e4 : m = 4
  · simp [e4, AskV.ok, h1, h2, h3, h4, h5, h6, h7, h8, h9]
  · simp [e0, e1, e2, e3, e4, AskV.ok, h1, h2, h3, h4, h5, h6, h7, h8, h9]
theorem box29w {w : World} {g : Nat} {k : Int} {name : ByteArray} {f lang out dst mat : Int} {body : ByteArray} (h : w.heap[g]? = some (.cells #[.int .i64 k, .string name, .int .i64 f, .int .i64 lang, .int .i64 out, .int .i64 dst, .int .i64 mat, .string body] 29 (0, 0))) :
    w.frozen? ⟨g, 0, none⟩ = false ∧ w.frozen? ⟨g, 2, none⟩ = false ∧ w.frozen? ⟨g, 3, none⟩ = false ∧ w.frozen? ⟨g, 4, none⟩ = false ∧ w.frozen? ⟨g, 5, none⟩ = false ∧ w.frozen? ⟨g, 6, none⟩ = false :=
  ⟨blk_frozen h 0, blk_frozen h 2, blk_frozen h 3, blk_frozen h 4, blk_frozen h 5, blk_frozen h 6⟩
/-- What is put is got. -/
theorem put_get (q : AskV) (w : World) (hT : Tabs w) (hok : q.ok = true) :
    Calls Tryd.prog 19 #[.agg q.cells] w fun e w' => ∃ g N cap, e = .returned (.tuple #[.slice (some ⟨g, 0, none⟩) N cap, .int .i64 0]) ∧ N = q.put.length ∧ N ≤ cap ∧ (Kd.int .u8).C w' (some ⟨g, 0, none⟩) q.put.length q.put ∧ Below w.heap.size w w' ∧
      ∀ w2, Below w'.heap.size w' w2 → Calls Tryd.prog 31 #[.slice (some ⟨g, 0, none⟩) N cap] w2 fun e w3 => e = .returned (.tuple #[.agg q.cells, .int .i64 0]) ∧ Below w2.heap.size w2 w3 := by
  have hb := q.ok_bounds hok
  refine (put_calls q w hT (by omega) (by omega) hok).mono ?_
  rintro e w' ⟨v, rfl, hown, hbel⟩
  obtain ⟨g, cap, N, rfl, hPI, hbg, hNN⟩ := putted q w w' v hok hown
  refine ⟨g, N, cap, rfl, hNN, hPI.le, hPI.all, hbel, fun w2 h2 => ?_⟩
  have hle := hPI.le
  have hl := q.put_len
  subst hNN
  exact get_good w2 q.put (some ⟨g, 0, none⟩) cap q (getL_put q hok) hle (Kd.C_below hPI.all h2) (by omega) (bytes_put q hok) (tabs_below (tabs_below hT hbel) h2)
set_option maxHeartbeats 8000000 in
set_option maxRecDepth 100000 in
theorem fields_0in (k : Int) (name : ByteArray) (f lang out dst mat : Int) (body : ByteArray) (which v n : Int) (w : World) (hT : Tabs w) (h1 : body.size ≤ 100) (h2 : name.size ≤ 100) (hok : (AskV.mk k name f lang out dst mat body).ok = true)
    (hm : erratumlaw00_Place.f which 6 = some 0) (hr : erratumlaw00_Place.f v 9 = some (n + 2)) (n0 : -2 ≤ n) (n1 : n ≤ 6) (hin : (AskV.mk n name f lang out dst mat body).ok = true) (hlo : 1 ≤ n) (hhi : n ≤ 6) :
    Calls Tryd.prog 8 #[.agg #[.int .i64 k, .string name, .int .i64 f, .int .i64 lang, .int .i64 out, .int .i64 dst, .int .i64 mat, .string body], .int .i64 which, .int .i64 v] w fun e w' => e = .returned (.bool true) ∧ Below w.heap.size w w' := by
  have HP1 := Aside0.mk (fun w1 => erratumlaw00_Place.calls v 9 (n + 2) w1 hr)
  have HP2 := Aside0.mk (fun w1 => erratumlaw00_Place.calls which 6 0 w1 hm)
  have HCk := Aside0.mk (fun w1 => refCheck_calls ⟨k, name, f, lang, out, dst, mat, body⟩ (by show name.size ≤ _; omega) w1)
  rw [hok] at HCk
  have HW := Aside0.mk (fun w1 (h : Below w.heap.size w w1) => frame_awake_calls w1 (tabs_below hT h))
  have HC := Aside0.mk (fun w1 (h : Below w.heap.size w w1) => put_get ⟨n, name, f, lang, out, dst, mat, body⟩ w1 (tabs_below hT h) hin)
  have HSa := Aside0.mk (fun w1 => same_refl ⟨n, name, f, lang, out, dst, mat, body⟩ w1)
  have HCf := Aside0.mk (fun w1 (h : Below w.heap.size w w1) => check_calls ⟨n, name, f, lang, out, dst, mat, body⟩ w1 (tabs_below hT h) (by show name.size ≤ _; omega) (by show body.size ≤ _; omega))
  rw [hin] at HCf
  simp only [AskV.cells] at HC HCf HCk HSa
  have d1 : decide ((100 : Int) < (body.size : Int)) = false := decide_eq_false (by omega)
  have d2 : decide ((100 : Int) < (name.size : Int)) = false := decide_eq_false (by omega)
  have b1 : decide ((1 : Int) ≤ n) = true := decide_eq_true hlo
  have b2 : decide (n ≤ (6 : Int)) = true := decide_eq_true hhi
  have b3 : decide (n ≥ (1 : Int)) = true := decide_eq_true hlo
  have HB0 := Aside0.mk (below_alloc (Below.refl w.heap.size w) (.cells #[.int .i64 k, .string name, .int .i64 f, .int .i64 lang, .int .i64 out, .int .i64 dst, .int .i64 mat, .string body] 29))
  have BK0 := Aside0.mk (heap_new w (.cells #[.int .i64 k, .string name, .int .i64 f, .int .i64 lang, .int .i64 out, .int .i64 dst, .int .i64 mat, .string body] 29))
  clear hm hr hok h1 h2 hT hin
  go_enter Tryd.func8, Tryd.ntmps8
  go_upto_region 18 with (first
    | (go_at_call 29; (with_reducible refine (HCk.out _).mono ?_); rintro e w1 ⟨rfl, hb⟩; have HB1 := Aside0.mk (below_step HB0.out hb); have BK1 := Aside0.mk (blk_below BK0.out hb); clear hb)
    | (go_at_call 16; (with_reducible refine (HP1.out _).mono ?_); rintro e w2 ⟨rfl, hd⟩; have HB2 := Aside0.mk (below_step HB1.out hd.below); have BK2 := Aside0.mk (blk_below BK1.out hd.below); clear hd)
    | (go_at_call 16; (with_reducible refine (HP2.out _).mono ?_); rintro e w3 ⟨rfl, hd⟩; have HB3 := Aside0.mk ((below_step HB2.out hd.below).setCell (p := ⟨w.heap.size, 0, none⟩) (Nat.le_refl _) (.int .i64 n)); have bk3 := blk_below BK2.out hd.below; have BK3 := Aside0.mk (show (w3.setCell ⟨w.heap.size, 0, none⟩ (.int .i64 n)).heap[w.heap.size]? = some (.cells #[.int .i64 n, .string name, .int .i64 f, .int .i64 lang, .int .i64 out, .int .i64 dst, .int .i64 mat, .string body] 29 (0, 0)) from blk_set bk3 0 (.int .i64 n)); obtain ⟨c0, c1, c2, c3, c4, c5, c6, c7⟩ := box29 bk3; obtain ⟨f0, f2, f3, f4, f5, f6⟩ := box29w bk3; clear hd))
  clear c0 c1 c2 c3 c4 c5 c6 c7 f0 f2 f3 f4 f5 f6 bk3
  generalize w3.setCell ⟨w.heap.size, 0, none⟩ (.int .i64 n) = w3 at *
  obtain ⟨c0, c1, c2, c3, c4, c5, c6, c7⟩ := box29 BK3.out
  go_upto_region 22 with (first
    | (go_at_call 19; (with_reducible refine (HC.out _ HB3.out).mono ?_); rintro e w4 ⟨g, N, cap, rfl, hN, hle, hC, hb, hget⟩; have HGet := Aside0.mk (hget _ (Below.refl _ _)); have HB4 := Aside0.mk (below_step HB3.out hb); have BK4 := Aside0.mk (blk_below BK3.out hb); clear hN hle hC hb hget)
    | (go_at_call 31; (with_reducible refine HGet.out.mono ?_); rintro e w5 ⟨rfl, hb⟩; have HB5 := Aside0.mk (below_step HB4.out hb); have BK5 := Aside0.mk (blk_below BK4.out hb); clear hb))
  clear c0 c1 c2 c3 c4 c5 c6 c7 b1 b2 b3 d1 d2 hlo hhi n0 n1 HC HGet HCk HP1 HP2 HB4 HB3 HB2 HB1 HB0 BK0 BK1 BK2 BK3 BK4
  have HB6 := Aside0.mk (below_alloc HB5.out (.cells #[.int .i64 n, .string name, .int .i64 f, .int .i64 lang, .int .i64 out, .int .i64 dst, .int .i64 mat, .string body] 29))
  have BK6 := Aside0.mk (blk_alloc BK5.out (.cells #[.int .i64 n, .string name, .int .i64 f, .int .i64 lang, .int .i64 out, .int .i64 dst, .int .i64 mat, .string body] 29))
  have BN6 := Aside0.mk (blk_new w5 (.cells #[.int .i64 n, .string name, .int .i64 f, .int .i64 lang, .int .i64 out, .int .i64 dst, .int .i64 mat, .string body] 29))
  clear HB5 BK5
  generalize w5.alloc (.cells #[.int .i64 n, .string name, .int .i64 f, .int .i64 lang, .int .i64 out, .int .i64 dst, .int .i64 mat, .string body] 29) = w6 at HB6 BK6 BN6 ⊢
  generalize w5.heap.size = gn at BN6 ⊢
  obtain ⟨c0, c1, c2, c3, c4, c5, c6, c7⟩ := box29 BK6.out
  obtain ⟨x0, x1, x2, x3, x4, x5, x6, x7⟩ := box29 BN6.out
  go_wp2_with (first
    | (go_at_call 32; (with_reducible refine (HSa.out _).mono ?_); rintro e w7 ⟨rfl, hb⟩; have HB7 := Aside0.mk (below_step HB6.out hb); obtain ⟨z0, z1, z2, z3, z4, z5, z6, z7⟩ := box29 (blk_below BK6.out hb); clear hb)
    | (go_at_call 30; (with_reducible refine (HCf.out _ HB7.out).mono ?_); rintro e w8 ⟨rfl, hb⟩; have HB8 := Aside0.mk (below_step HB7.out hb); clear hb)
    | (go_at_call 18; (with_reducible refine (HW.out _ HB8.out).mono ?_); rintro e w9 ⟨rfl, hb⟩; have HB9 := Aside0.mk (below_step HB8.out hb); clear hb))
  go_ret
  exact ⟨rfl, HB9.out⟩
set_option maxHeartbeats 8000000 in
set_option maxRecDepth 100000 in
theorem fields_0lo (k : Int) (name : ByteArray) (f lang out dst mat : Int) (body : ByteArray) (which v n : Int) (w : World) (hT : Tabs w) (h1 : body.size ≤ 100) (h2 : name.size ≤ 100) (hok : (AskV.mk k name f lang out dst mat body).ok = true)
    (hm : erratumlaw00_Place.f which 6 = some 0) (hr : erratumlaw00_Place.f v 9 = some (n + 2)) (n0 : -2 ≤ n) (n1 : n ≤ 6) (hin : (AskV.mk n name f lang out dst mat body).ok = false) (hlo : n < 1) :
    Calls Tryd.prog 8 #[.agg #[.int .i64 k, .string name, .int .i64 f, .int .i64 lang, .int .i64 out, .int .i64 dst, .int .i64 mat, .string body], .int .i64 which, .int .i64 v] w fun e w' => e = .returned (.bool true) ∧ Below w.heap.size w w' := by
  have HP1 := Aside0.mk (fun w1 => erratumlaw00_Place.calls v 9 (n + 2) w1 hr)
  have HP2 := Aside0.mk (fun w1 => erratumlaw00_Place.calls which 6 0 w1 hm)
  have HCk := Aside0.mk (fun w1 => refCheck_calls ⟨k, name, f, lang, out, dst, mat, body⟩ (by show name.size ≤ _; omega) w1)
  rw [hok] at HCk
  have HW := Aside0.mk (fun w1 (h : Below w.heap.size w w1) => frame_awake_calls w1 (tabs_below hT h))
  have HC := Aside0.mk (fun w1 (h : Below w.heap.size w w1) => put_no ⟨n, name, f, lang, out, dst, mat, body⟩ w1 (tabs_below hT h) (by show name.size ≤ _; omega) (by show body.size ≤ _; omega) hin)
  have HCf := Aside0.mk (fun w1 (h : Below w.heap.size w w1) => check_calls ⟨n, name, f, lang, out, dst, mat, body⟩ w1 (tabs_below hT h) (by show name.size ≤ _; omega) (by show body.size ≤ _; omega))
  rw [hin] at HCf
  simp only [AskV.cells] at HC HCf HCk
  have d1 : decide ((100 : Int) < (body.size : Int)) = false := decide_eq_false (by omega)
  have d2 : decide ((100 : Int) < (name.size : Int)) = false := decide_eq_false (by omega)
  have b1 : decide ((1 : Int) ≤ n) = false := decide_eq_false (by omega)
  have b3 : decide (n ≥ (1 : Int)) = false := decide_eq_false (by omega)
  have HB0 := Aside0.mk (below_alloc (Below.refl w.heap.size w) (.cells #[.int .i64 k, .string name, .int .i64 f, .int .i64 lang, .int .i64 out, .int .i64 dst, .int .i64 mat, .string body] 29))
  have BK0 := Aside0.mk (heap_new w (.cells #[.int .i64 k, .string name, .int .i64 f, .int .i64 lang, .int .i64 out, .int .i64 dst, .int .i64 mat, .string body] 29))
  clear hm hr hok h1 h2 hT hin
  go_enter Tryd.func8, Tryd.ntmps8
  go_upto_region 18 with (first
    | (go_at_call 29; (with_reducible refine (HCk.out _).mono ?_); rintro e w1 ⟨rfl, hb⟩; have HB1 := Aside0.mk (below_step HB0.out hb); have BK1 := Aside0.mk (blk_below BK0.out hb); clear hb)
    | (go_at_call 16; (with_reducible refine (HP1.out _).mono ?_); rintro e w2 ⟨rfl, hd⟩; have HB2 := Aside0.mk (below_step HB1.out hd.below); have BK2 := Aside0.mk (blk_below BK1.out hd.below); clear hd)
    | (go_at_call 16; (with_reducible refine (HP2.out _).mono ?_); rintro e w3 ⟨rfl, hd⟩; have HB3 := Aside0.mk ((below_step HB2.out hd.below).setCell (p := ⟨w.heap.size, 0, none⟩) (Nat.le_refl _) (.int .i64 n)); have bk3 := blk_below BK2.out hd.below; have BK3 := Aside0.mk (show (w3.setCell ⟨w.heap.size, 0, none⟩ (.int .i64 n)).heap[w.heap.size]? = some (.cells #[.int .i64 n, .string name, .int .i64 f, .int .i64 lang, .int .i64 out, .int .i64 dst, .int .i64 mat, .string body] 29 (0, 0)) from blk_set bk3 0 (.int .i64 n)); obtain ⟨c0, c1, c2, c3, c4, c5, c6, c7⟩ := box29 bk3; obtain ⟨f0, f2, f3, f4, f5, f6⟩ := box29w bk3; clear hd))
  clear c0 c1 c2 c3 c4 c5 c6 c7 f0 f2 f3 f4 f5 f6 bk3
  generalize w3.setCell ⟨w.heap.size, 0, none⟩ (.int .i64 n) = w3 at *
  obtain ⟨c0, c1, c2, c3, c4, c5, c6, c7⟩ := box29 BK3.out
  go_wp2_with (first
    | (go_at_call 19; (with_reducible refine (HC.out _ HB3.out).mono ?_); rintro e w4 ⟨rfl, hb⟩; have HB4 := Aside0.mk (below_step HB3.out hb); obtain ⟨z0, z1, z2, z3, z4, z5, z6, z7⟩ := box29 (blk_below BK3.out hb); clear hb)
    | (go_at_call 30; (with_reducible refine (HCf.out _ HB4.out).mono ?_); rintro e w8 ⟨rfl, hb⟩; have HB8 := Aside0.mk (below_step HB4.out hb); clear hb)
    | (go_at_call 18; (with_reducible refine (HW.out _ HB8.out).mono ?_); rintro e w9 ⟨rfl, hb⟩; have HB9 := Aside0.mk (below_step HB8.out hb); clear hb))
  go_ret
  exact ⟨rfl, HB9.out⟩
set_option maxHeartbeats 8000000 in
set_option maxRecDepth 100000 in
theorem fields_1in (k : Int) (name : ByteArray) (f lang out dst mat : Int) (body : ByteArray) (which v n : Int) (w : World) (hT : Tabs w) (h1 : body.size ≤ 100) (h2 : name.size ≤ 100) (hok : (AskV.mk k name f lang out dst mat body).ok = true)
    (hm : erratumlaw00_Place.f which 6 = some 1) (hr : erratumlaw00_Place.f v 9 = some (n + 2)) (n0 : -2 ≤ n) (n1 : n ≤ 6) (hin : (AskV.mk k name n lang out dst mat body).ok = true) (hlo : 0 ≤ n) (hhi : n ≤ 3) :
    Calls Tryd.prog 8 #[.agg #[.int .i64 k, .string name, .int .i64 f, .int .i64 lang, .int .i64 out, .int .i64 dst, .int .i64 mat, .string body], .int .i64 which, .int .i64 v] w fun e w' => e = .returned (.bool true) ∧ Below w.heap.size w w' := by
  have HP1 := Aside0.mk (fun w1 => erratumlaw00_Place.calls v 9 (n + 2) w1 hr)
  have HP2 := Aside0.mk (fun w1 => erratumlaw00_Place.calls which 6 1 w1 hm)
  have HCk := Aside0.mk (fun w1 => refCheck_calls ⟨k, name, f, lang, out, dst, mat, body⟩ (by show name.size ≤ _; omega) w1)
  rw [hok] at HCk
  have HW := Aside0.mk (fun w1 (h : Below w.heap.size w w1) => frame_awake_calls w1 (tabs_below hT h))
  have HC := Aside0.mk (fun w1 (h : Below w.heap.size w w1) => put_get ⟨k, name, n, lang, out, dst, mat, body⟩ w1 (tabs_below hT h) hin)
  have HSa := Aside0.mk (fun w1 => same_refl ⟨k, name, n, lang, out, dst, mat, body⟩ w1)
  have HCf := Aside0.mk (fun w1 (h : Below w.heap.size w w1) => check_calls ⟨k, name, n, lang, out, dst, mat, body⟩ w1 (tabs_below hT h) (by show name.size ≤ _; omega) (by show body.size ≤ _; omega))
  rw [hin] at HCf
  simp only [AskV.cells] at HC HCf HCk HSa
  have d1 : decide ((100 : Int) < (body.size : Int)) = false := decide_eq_false (by omega)
  have d2 : decide ((100 : Int) < (name.size : Int)) = false := decide_eq_false (by omega)
  have b1 : decide ((0 : Int) ≤ n) = true := decide_eq_true hlo
  have b2 : decide (n ≤ (3 : Int)) = true := decide_eq_true hhi
  have b3 : decide (n ≥ (0 : Int)) = true := decide_eq_true hlo
  have HB0 := Aside0.mk (below_alloc (Below.refl w.heap.size w) (.cells #[.int .i64 k, .string name, .int .i64 f, .int .i64 lang, .int .i64 out, .int .i64 dst, .int .i64 mat, .string body] 29))
  have BK0 := Aside0.mk (heap_new w (.cells #[.int .i64 k, .string name, .int .i64 f, .int .i64 lang, .int .i64 out, .int .i64 dst, .int .i64 mat, .string body] 29))
  clear hm hr hok h1 h2 hT hin
  go_enter Tryd.func8, Tryd.ntmps8
  go_upto_region 18 with (first
    | (go_at_call 29; (with_reducible refine (HCk.out _).mono ?_); rintro e w1 ⟨rfl, hb⟩; have HB1 := Aside0.mk (below_step HB0.out hb); have BK1 := Aside0.mk (blk_below BK0.out hb); clear hb)
    | (go_at_call 16; (with_reducible refine (HP1.out _).mono ?_); rintro e w2 ⟨rfl, hd⟩; have HB2 := Aside0.mk (below_step HB1.out hd.below); have BK2 := Aside0.mk (blk_below BK1.out hd.below); clear hd)
    | (go_at_call 16; (with_reducible refine (HP2.out _).mono ?_); rintro e w3 ⟨rfl, hd⟩; have HB3 := Aside0.mk ((below_step HB2.out hd.below).setCell (p := ⟨w.heap.size, 2, none⟩) (Nat.le_refl _) (.int .i64 n)); have bk3 := blk_below BK2.out hd.below; have BK3 := Aside0.mk (show (w3.setCell ⟨w.heap.size, 2, none⟩ (.int .i64 n)).heap[w.heap.size]? = some (.cells #[.int .i64 k, .string name, .int .i64 n, .int .i64 lang, .int .i64 out, .int .i64 dst, .int .i64 mat, .string body] 29 (0, 0)) from blk_set bk3 2 (.int .i64 n)); obtain ⟨c0, c1, c2, c3, c4, c5, c6, c7⟩ := box29 bk3; obtain ⟨f0, f2, f3, f4, f5, f6⟩ := box29w bk3; clear hd))
  clear c0 c1 c2 c3 c4 c5 c6 c7 f0 f2 f3 f4 f5 f6 bk3
  generalize w3.setCell ⟨w.heap.size, 2, none⟩ (.int .i64 n) = w3 at *
  obtain ⟨c0, c1, c2, c3, c4, c5, c6, c7⟩ := box29 BK3.out
  go_upto_region 22 with (first
    | (go_at_call 19; (with_reducible refine (HC.out _ HB3.out).mono ?_); rintro e w4 ⟨g, N, cap, rfl, hN, hle, hC, hb, hget⟩; have HGet := Aside0.mk (hget _ (Below.refl _ _)); have HB4 := Aside0.mk (below_step HB3.out hb); have BK4 := Aside0.mk (blk_below BK3.out hb); clear hN hle hC hb hget)
    | (go_at_call 31; (with_reducible refine HGet.out.mono ?_); rintro e w5 ⟨rfl, hb⟩; have HB5 := Aside0.mk (below_step HB4.out hb); have BK5 := Aside0.mk (blk_below BK4.out hb); clear hb))
  clear c0 c1 c2 c3 c4 c5 c6 c7 b1 b2 b3 d1 d2 hlo hhi n0 n1 HC HGet HCk HP1 HP2 HB4 HB3 HB2 HB1 HB0 BK0 BK1 BK2 BK3 BK4
  have HB6 := Aside0.mk (below_alloc HB5.out (.cells #[.int .i64 k, .string name, .int .i64 n, .int .i64 lang, .int .i64 out, .int .i64 dst, .int .i64 mat, .string body] 29))
  have BK6 := Aside0.mk (blk_alloc BK5.out (.cells #[.int .i64 k, .string name, .int .i64 n, .int .i64 lang, .int .i64 out, .int .i64 dst, .int .i64 mat, .string body] 29))
  have BN6 := Aside0.mk (blk_new w5 (.cells #[.int .i64 k, .string name, .int .i64 n, .int .i64 lang, .int .i64 out, .int .i64 dst, .int .i64 mat, .string body] 29))
  clear HB5 BK5
  generalize w5.alloc (.cells #[.int .i64 k, .string name, .int .i64 n, .int .i64 lang, .int .i64 out, .int .i64 dst, .int .i64 mat, .string body] 29) = w6 at HB6 BK6 BN6 ⊢
  generalize w5.heap.size = gn at BN6 ⊢
  obtain ⟨c0, c1, c2, c3, c4, c5, c6, c7⟩ := box29 BK6.out
  obtain ⟨x0, x1, x2, x3, x4, x5, x6, x7⟩ := box29 BN6.out
  go_wp2_with (first
    | (go_at_call 32; (with_reducible refine (HSa.out _).mono ?_); rintro e w7 ⟨rfl, hb⟩; have HB7 := Aside0.mk (below_step HB6.out hb); obtain ⟨z0, z1, z2, z3, z4, z5, z6, z7⟩ := box29 (blk_below BK6.out hb); clear hb)
    | (go_at_call 30; (with_reducible refine (HCf.out _ HB7.out).mono ?_); rintro e w8 ⟨rfl, hb⟩; have HB8 := Aside0.mk (below_step HB7.out hb); clear hb)
    | (go_at_call 18; (with_reducible refine (HW.out _ HB8.out).mono ?_); rintro e w9 ⟨rfl, hb⟩; have HB9 := Aside0.mk (below_step HB8.out hb); clear hb))
  go_ret
  exact ⟨rfl, HB9.out⟩
set_option maxHeartbeats 8000000 in
set_option maxRecDepth 100000 in
theorem fields_1lo (k : Int) (name : ByteArray) (f lang out dst mat : Int) (body : ByteArray) (which v n : Int) (w : World) (hT : Tabs w) (h1 : body.size ≤ 100) (h2 : name.size ≤ 100) (hok : (AskV.mk k name f lang out dst mat body).ok = true)
    (hm : erratumlaw00_Place.f which 6 = some 1) (hr : erratumlaw00_Place.f v 9 = some (n + 2)) (n0 : -2 ≤ n) (n1 : n ≤ 6) (hin : (AskV.mk k name n lang out dst mat body).ok = false) (hlo : n < 0) :
    Calls Tryd.prog 8 #[.agg #[.int .i64 k, .string name, .int .i64 f, .int .i64 lang, .int .i64 out, .int .i64 dst, .int .i64 mat, .string body], .int .i64 which, .int .i64 v] w fun e w' => e = .returned (.bool true) ∧ Below w.heap.size w w' := by
  have HP1 := Aside0.mk (fun w1 => erratumlaw00_Place.calls v 9 (n + 2) w1 hr)
  have HP2 := Aside0.mk (fun w1 => erratumlaw00_Place.calls which 6 1 w1 hm)
  have HCk := Aside0.mk (fun w1 => refCheck_calls ⟨k, name, f, lang, out, dst, mat, body⟩ (by show name.size ≤ _; omega) w1)
  rw [hok] at HCk
  have HW := Aside0.mk (fun w1 (h : Below w.heap.size w w1) => frame_awake_calls w1 (tabs_below hT h))
  have HC := Aside0.mk (fun w1 (h : Below w.heap.size w w1) => put_no ⟨k, name, n, lang, out, dst, mat, body⟩ w1 (tabs_below hT h) (by show name.size ≤ _; omega) (by show body.size ≤ _; omega) hin)
  have HCf := Aside0.mk (fun w1 (h : Below w.heap.size w w1) => check_calls ⟨k, name, n, lang, out, dst, mat, body⟩ w1 (tabs_below hT h) (by show name.size ≤ _; omega) (by show body.size ≤ _; omega))
  rw [hin] at HCf
  simp only [AskV.cells] at HC HCf HCk
  have d1 : decide ((100 : Int) < (body.size : Int)) = false := decide_eq_false (by omega)
  have d2 : decide ((100 : Int) < (name.size : Int)) = false := decide_eq_false (by omega)
  have b1 : decide ((0 : Int) ≤ n) = false := decide_eq_false (by omega)
  have b3 : decide (n ≥ (0 : Int)) = false := decide_eq_false (by omega)
  have HB0 := Aside0.mk (below_alloc (Below.refl w.heap.size w) (.cells #[.int .i64 k, .string name, .int .i64 f, .int .i64 lang, .int .i64 out, .int .i64 dst, .int .i64 mat, .string body] 29))
  have BK0 := Aside0.mk (heap_new w (.cells #[.int .i64 k, .string name, .int .i64 f, .int .i64 lang, .int .i64 out, .int .i64 dst, .int .i64 mat, .string body] 29))
  clear hm hr hok h1 h2 hT hin
  go_enter Tryd.func8, Tryd.ntmps8
  go_upto_region 18 with (first
    | (go_at_call 29; (with_reducible refine (HCk.out _).mono ?_); rintro e w1 ⟨rfl, hb⟩; have HB1 := Aside0.mk (below_step HB0.out hb); have BK1 := Aside0.mk (blk_below BK0.out hb); clear hb)
    | (go_at_call 16; (with_reducible refine (HP1.out _).mono ?_); rintro e w2 ⟨rfl, hd⟩; have HB2 := Aside0.mk (below_step HB1.out hd.below); have BK2 := Aside0.mk (blk_below BK1.out hd.below); clear hd)
    | (go_at_call 16; (with_reducible refine (HP2.out _).mono ?_); rintro e w3 ⟨rfl, hd⟩; have HB3 := Aside0.mk ((below_step HB2.out hd.below).setCell (p := ⟨w.heap.size, 2, none⟩) (Nat.le_refl _) (.int .i64 n)); have bk3 := blk_below BK2.out hd.below; have BK3 := Aside0.mk (show (w3.setCell ⟨w.heap.size, 2, none⟩ (.int .i64 n)).heap[w.heap.size]? = some (.cells #[.int .i64 k, .string name, .int .i64 n, .int .i64 lang, .int .i64 out, .int .i64 dst, .int .i64 mat, .string body] 29 (0, 0)) from blk_set bk3 2 (.int .i64 n)); obtain ⟨c0, c1, c2, c3, c4, c5, c6, c7⟩ := box29 bk3; obtain ⟨f0, f2, f3, f4, f5, f6⟩ := box29w bk3; clear hd))
  clear c0 c1 c2 c3 c4 c5 c6 c7 f0 f2 f3 f4 f5 f6 bk3
  generalize w3.setCell ⟨w.heap.size, 2, none⟩ (.int .i64 n) = w3 at *
  obtain ⟨c0, c1, c2, c3, c4, c5, c6, c7⟩ := box29 BK3.out
  go_wp2_with (first
    | (go_at_call 19; (with_reducible refine (HC.out _ HB3.out).mono ?_); rintro e w4 ⟨rfl, hb⟩; have HB4 := Aside0.mk (below_step HB3.out hb); obtain ⟨z0, z1, z2, z3, z4, z5, z6, z7⟩ := box29 (blk_below BK3.out hb); clear hb)
    | (go_at_call 30; (with_reducible refine (HCf.out _ HB4.out).mono ?_); rintro e w8 ⟨rfl, hb⟩; have HB8 := Aside0.mk (below_step HB4.out hb); clear hb)
    | (go_at_call 18; (with_reducible refine (HW.out _ HB8.out).mono ?_); rintro e w9 ⟨rfl, hb⟩; have HB9 := Aside0.mk (below_step HB8.out hb); clear hb))
  go_ret
  exact ⟨rfl, HB9.out⟩
set_option maxHeartbeats 8000000 in
set_option maxRecDepth 100000 in
theorem fields_1hi (k : Int) (name : ByteArray) (f lang out dst mat : Int) (body : ByteArray) (which v n : Int) (w : World) (hT : Tabs w) (h1 : body.size ≤ 100) (h2 : name.size ≤ 100) (hok : (AskV.mk k name f lang out dst mat body).ok = true)
    (hm : erratumlaw00_Place.f which 6 = some 1) (hr : erratumlaw00_Place.f v 9 = some (n + 2)) (n0 : -2 ≤ n) (n1 : n ≤ 6) (hin : (AskV.mk k name n lang out dst mat body).ok = false) (hlo : 0 ≤ n) (hhi : 3 < n) :
    Calls Tryd.prog 8 #[.agg #[.int .i64 k, .string name, .int .i64 f, .int .i64 lang, .int .i64 out, .int .i64 dst, .int .i64 mat, .string body], .int .i64 which, .int .i64 v] w fun e w' => e = .returned (.bool true) ∧ Below w.heap.size w w' := by
  have HP1 := Aside0.mk (fun w1 => erratumlaw00_Place.calls v 9 (n + 2) w1 hr)
  have HP2 := Aside0.mk (fun w1 => erratumlaw00_Place.calls which 6 1 w1 hm)
  have HCk := Aside0.mk (fun w1 => refCheck_calls ⟨k, name, f, lang, out, dst, mat, body⟩ (by show name.size ≤ _; omega) w1)
  rw [hok] at HCk
  have HW := Aside0.mk (fun w1 (h : Below w.heap.size w w1) => frame_awake_calls w1 (tabs_below hT h))
  have HC := Aside0.mk (fun w1 (h : Below w.heap.size w w1) => put_no ⟨k, name, n, lang, out, dst, mat, body⟩ w1 (tabs_below hT h) (by show name.size ≤ _; omega) (by show body.size ≤ _; omega) hin)
  have HCf := Aside0.mk (fun w1 (h : Below w.heap.size w w1) => check_calls ⟨k, name, n, lang, out, dst, mat, body⟩ w1 (tabs_below hT h) (by show name.size ≤ _; omega) (by show body.size ≤ _; omega))
  rw [hin] at HCf
  simp only [AskV.cells] at HC HCf HCk
  have d1 : decide ((100 : Int) < (body.size : Int)) = false := decide_eq_false (by omega)
  have d2 : decide ((100 : Int) < (name.size : Int)) = false := decide_eq_false (by omega)
  have b1 : decide ((0 : Int) ≤ n) = true := decide_eq_true hlo
  have b2 : decide (n ≤ (3 : Int)) = false := decide_eq_false (by omega)
  have b3 : decide (n ≥ (0 : Int)) = true := decide_eq_true hlo
  have HB0 := Aside0.mk (below_alloc (Below.refl w.heap.size w) (.cells #[.int .i64 k, .string name, .int .i64 f, .int .i64 lang, .int .i64 out, .int .i64 dst, .int .i64 mat, .string body] 29))
  have BK0 := Aside0.mk (heap_new w (.cells #[.int .i64 k, .string name, .int .i64 f, .int .i64 lang, .int .i64 out, .int .i64 dst, .int .i64 mat, .string body] 29))
  clear hm hr hok h1 h2 hT hin
  go_enter Tryd.func8, Tryd.ntmps8
  go_upto_region 18 with (first
    | (go_at_call 29; (with_reducible refine (HCk.out _).mono ?_); rintro e w1 ⟨rfl, hb⟩; have HB1 := Aside0.mk (below_step HB0.out hb); have BK1 := Aside0.mk (blk_below BK0.out hb); clear hb)
    | (go_at_call 16; (with_reducible refine (HP1.out _).mono ?_); rintro e w2 ⟨rfl, hd⟩; have HB2 := Aside0.mk (below_step HB1.out hd.below); have BK2 := Aside0.mk (blk_below BK1.out hd.below); clear hd)
    | (go_at_call 16; (with_reducible refine (HP2.out _).mono ?_); rintro e w3 ⟨rfl, hd⟩; have HB3 := Aside0.mk ((below_step HB2.out hd.below).setCell (p := ⟨w.heap.size, 2, none⟩) (Nat.le_refl _) (.int .i64 n)); have bk3 := blk_below BK2.out hd.below; have BK3 := Aside0.mk (show (w3.setCell ⟨w.heap.size, 2, none⟩ (.int .i64 n)).heap[w.heap.size]? = some (.cells #[.int .i64 k, .string name, .int .i64 n, .int .i64 lang, .int .i64 out, .int .i64 dst, .int .i64 mat, .string body] 29 (0, 0)) from blk_set bk3 2 (.int .i64 n)); obtain ⟨c0, c1, c2, c3, c4, c5, c6, c7⟩ := box29 bk3; obtain ⟨f0, f2, f3, f4, f5, f6⟩ := box29w bk3; clear hd))
  clear c0 c1 c2 c3 c4 c5 c6 c7 f0 f2 f3 f4 f5 f6 bk3
  generalize w3.setCell ⟨w.heap.size, 2, none⟩ (.int .i64 n) = w3 at *
  obtain ⟨c0, c1, c2, c3, c4, c5, c6, c7⟩ := box29 BK3.out
  go_wp2_with (first
    | (go_at_call 19; (with_reducible refine (HC.out _ HB3.out).mono ?_); rintro e w4 ⟨rfl, hb⟩; have HB4 := Aside0.mk (below_step HB3.out hb); obtain ⟨z0, z1, z2, z3, z4, z5, z6, z7⟩ := box29 (blk_below BK3.out hb); clear hb)
    | (go_at_call 30; (with_reducible refine (HCf.out _ HB4.out).mono ?_); rintro e w8 ⟨rfl, hb⟩; have HB8 := Aside0.mk (below_step HB4.out hb); clear hb)
    | (go_at_call 18; (with_reducible refine (HW.out _ HB8.out).mono ?_); rintro e w9 ⟨rfl, hb⟩; have HB9 := Aside0.mk (below_step HB8.out hb); clear hb))
  go_ret
  exact ⟨rfl, HB9.out⟩
set_option maxHeartbeats 8000000 in
set_option maxRecDepth 100000 in
theorem fields_2in (k : Int) (name : ByteArray) (f lang out dst mat : Int) (body : ByteArray) (which v n : Int) (w : World) (hT : Tabs w) (h1 : body.size ≤ 100) (h2 : name.size ≤ 100) (hok : (AskV.mk k name f lang out dst mat body).ok = true)
    (hm : erratumlaw00_Place.f which 6 = some 2) (hr : erratumlaw00_Place.f v 9 = some (n + 2)) (n0 : -2 ≤ n) (n1 : n ≤ 6) (hin : (AskV.mk k name f lang n dst mat body).ok = true) (hlo : 0 ≤ n) (hhi : n ≤ 3) :
    Calls Tryd.prog 8 #[.agg #[.int .i64 k, .string name, .int .i64 f, .int .i64 lang, .int .i64 out, .int .i64 dst, .int .i64 mat, .string body], .int .i64 which, .int .i64 v] w fun e w' => e = .returned (.bool true) ∧ Below w.heap.size w w' := by
  have HP1 := Aside0.mk (fun w1 => erratumlaw00_Place.calls v 9 (n + 2) w1 hr)
  have HP2 := Aside0.mk (fun w1 => erratumlaw00_Place.calls which 6 2 w1 hm)
  have HCk := Aside0.mk (fun w1 => refCheck_calls ⟨k, name, f, lang, out, dst, mat, body⟩ (by show name.size ≤ _; omega) w1)
  rw [hok] at HCk
  have HW := Aside0.mk (fun w1 (h : Below w.heap.size w w1) => frame_awake_calls w1 (tabs_below hT h))
  have HC := Aside0.mk (fun w1 (h : Below w.heap.size w w1) => put_get ⟨k, name, f, lang, n, dst, mat, body⟩ w1 (tabs_below hT h) hin)
  have HSa := Aside0.mk (fun w1 => same_refl ⟨k, name, f, lang, n, dst, mat, body⟩ w1)
  have HCf := Aside0.mk (fun w1 (h : Below w.heap.size w w1) => check_calls ⟨k, name, f, lang, n, dst, mat, body⟩ w1 (tabs_below hT h) (by show name.size ≤ _; omega) (by show body.size ≤ _; omega))
  rw [hin] at HCf
  simp only [AskV.cells] at HC HCf HCk HSa
  have d1 : decide ((100 : Int) < (body.size : Int)) = false := decide_eq_false (by omega)
  have d2 : decide ((100 : Int) < (name.size : Int)) = false := decide_eq_false (by omega)
  have b1 : decide ((0 : Int) ≤ n) = true := decide_eq_true hlo
  have b2 : decide (n ≤ (3 : Int)) = true := decide_eq_true hhi
  have b3 : decide (n ≥ (0 : Int)) = true := decide_eq_true hlo
  have HB0 := Aside0.mk (below_alloc (Below.refl w.heap.size w) (.cells #[.int .i64 k, .string name, .int .i64 f, .int .i64 lang, .int .i64 out, .int .i64 dst, .int .i64 mat, .string body] 29))
  have BK0 := Aside0.mk (heap_new w (.cells #[.int .i64 k, .string name, .int .i64 f, .int .i64 lang, .int .i64 out, .int .i64 dst, .int .i64 mat, .string body] 29))
  clear hm hr hok h1 h2 hT hin
  go_enter Tryd.func8, Tryd.ntmps8
  go_upto_region 18 with (first
    | (go_at_call 29; (with_reducible refine (HCk.out _).mono ?_); rintro e w1 ⟨rfl, hb⟩; have HB1 := Aside0.mk (below_step HB0.out hb); have BK1 := Aside0.mk (blk_below BK0.out hb); clear hb)
    | (go_at_call 16; (with_reducible refine (HP1.out _).mono ?_); rintro e w2 ⟨rfl, hd⟩; have HB2 := Aside0.mk (below_step HB1.out hd.below); have BK2 := Aside0.mk (blk_below BK1.out hd.below); clear hd)
    | (go_at_call 16; (with_reducible refine (HP2.out _).mono ?_); rintro e w3 ⟨rfl, hd⟩; have HB3 := Aside0.mk ((below_step HB2.out hd.below).setCell (p := ⟨w.heap.size, 4, none⟩) (Nat.le_refl _) (.int .i64 n)); have bk3 := blk_below BK2.out hd.below; have BK3 := Aside0.mk (show (w3.setCell ⟨w.heap.size, 4, none⟩ (.int .i64 n)).heap[w.heap.size]? = some (.cells #[.int .i64 k, .string name, .int .i64 f, .int .i64 lang, .int .i64 n, .int .i64 dst, .int .i64 mat, .string body] 29 (0, 0)) from blk_set bk3 4 (.int .i64 n)); obtain ⟨c0, c1, c2, c3, c4, c5, c6, c7⟩ := box29 bk3; obtain ⟨f0, f2, f3, f4, f5, f6⟩ := box29w bk3; clear hd))
  clear c0 c1 c2 c3 c4 c5 c6 c7 f0 f2 f3 f4 f5 f6 bk3
  generalize w3.setCell ⟨w.heap.size, 4, none⟩ (.int .i64 n) = w3 at *
  obtain ⟨c0, c1, c2, c3, c4, c5, c6, c7⟩ := box29 BK3.out
  go_upto_region 22 with (first
    | (go_at_call 19; (with_reducible refine (HC.out _ HB3.out).mono ?_); rintro e w4 ⟨g, N, cap, rfl, hN, hle, hC, hb, hget⟩; have HGet := Aside0.mk (hget _ (Below.refl _ _)); have HB4 := Aside0.mk (below_step HB3.out hb); have BK4 := Aside0.mk (blk_below BK3.out hb); clear hN hle hC hb hget)
    | (go_at_call 31; (with_reducible refine HGet.out.mono ?_); rintro e w5 ⟨rfl, hb⟩; have HB5 := Aside0.mk (below_step HB4.out hb); have BK5 := Aside0.mk (blk_below BK4.out hb); clear hb))
  clear c0 c1 c2 c3 c4 c5 c6 c7 b1 b2 b3 d1 d2 hlo hhi n0 n1 HC HGet HCk HP1 HP2 HB4 HB3 HB2 HB1 HB0 BK0 BK1 BK2 BK3 BK4
  have HB6 := Aside0.mk (below_alloc HB5.out (.cells #[.int .i64 k, .string name, .int .i64 f, .int .i64 lang, .int .i64 n, .int .i64 dst, .int .i64 mat, .string body] 29))
  have BK6 := Aside0.mk (blk_alloc BK5.out (.cells #[.int .i64 k, .string name, .int .i64 f, .int .i64 lang, .int .i64 n, .int .i64 dst, .int .i64 mat, .string body] 29))
  have BN6 := Aside0.mk (blk_new w5 (.cells #[.int .i64 k, .string name, .int .i64 f, .int .i64 lang, .int .i64 n, .int .i64 dst, .int .i64 mat, .string body] 29))
  clear HB5 BK5
  generalize w5.alloc (.cells #[.int .i64 k, .string name, .int .i64 f, .int .i64 lang, .int .i64 n, .int .i64 dst, .int .i64 mat, .string body] 29) = w6 at HB6 BK6 BN6 ⊢
  generalize w5.heap.size = gn at BN6 ⊢
  obtain ⟨c0, c1, c2, c3, c4, c5, c6, c7⟩ := box29 BK6.out
  obtain ⟨x0, x1, x2, x3, x4, x5, x6, x7⟩ := box29 BN6.out
  go_wp2_with (first
    | (go_at_call 32; (with_reducible refine (HSa.out _).mono ?_); rintro e w7 ⟨rfl, hb⟩; have HB7 := Aside0.mk (below_step HB6.out hb); obtain ⟨z0, z1, z2, z3, z4, z5, z6, z7⟩ := box29 (blk_below BK6.out hb); clear hb)
    | (go_at_call 30; (with_reducible refine (HCf.out _ HB7.out).mono ?_); rintro e w8 ⟨rfl, hb⟩; have HB8 := Aside0.mk (below_step HB7.out hb); clear hb)
    | (go_at_call 18; (with_reducible refine (HW.out _ HB8.out).mono ?_); rintro e w9 ⟨rfl, hb⟩; have HB9 := Aside0.mk (below_step HB8.out hb); clear hb))
  go_ret
  exact ⟨rfl, HB9.out⟩
set_option maxHeartbeats 8000000 in
set_option maxRecDepth 100000 in
theorem fields_2lo (k : Int) (name : ByteArray) (f lang out dst mat : Int) (body : ByteArray) (which v n : Int) (w : World) (hT : Tabs w) (h1 : body.size ≤ 100) (h2 : name.size ≤ 100) (hok : (AskV.mk k name f lang out dst mat body).ok = true)
    (hm : erratumlaw00_Place.f which 6 = some 2) (hr : erratumlaw00_Place.f v 9 = some (n + 2)) (n0 : -2 ≤ n) (n1 : n ≤ 6) (hin : (AskV.mk k name f lang n dst mat body).ok = false) (hlo : n < 0) :
    Calls Tryd.prog 8 #[.agg #[.int .i64 k, .string name, .int .i64 f, .int .i64 lang, .int .i64 out, .int .i64 dst, .int .i64 mat, .string body], .int .i64 which, .int .i64 v] w fun e w' => e = .returned (.bool true) ∧ Below w.heap.size w w' := by
  have HP1 := Aside0.mk (fun w1 => erratumlaw00_Place.calls v 9 (n + 2) w1 hr)
  have HP2 := Aside0.mk (fun w1 => erratumlaw00_Place.calls which 6 2 w1 hm)
  have HCk := Aside0.mk (fun w1 => refCheck_calls ⟨k, name, f, lang, out, dst, mat, body⟩ (by show name.size ≤ _; omega) w1)
  rw [hok] at HCk
  have HW := Aside0.mk (fun w1 (h : Below w.heap.size w w1) => frame_awake_calls w1 (tabs_below hT h))
  have HC := Aside0.mk (fun w1 (h : Below w.heap.size w w1) => put_no ⟨k, name, f, lang, n, dst, mat, body⟩ w1 (tabs_below hT h) (by show name.size ≤ _; omega) (by show body.size ≤ _; omega) hin)
  have HCf := Aside0.mk (fun w1 (h : Below w.heap.size w w1) => check_calls ⟨k, name, f, lang, n, dst, mat, body⟩ w1 (tabs_below hT h) (by show name.size ≤ _; omega) (by show body.size ≤ _; omega))
  rw [hin] at HCf
  simp only [AskV.cells] at HC HCf HCk
  have d1 : decide ((100 : Int) < (body.size : Int)) = false := decide_eq_false (by omega)
  have d2 : decide ((100 : Int) < (name.size : Int)) = false := decide_eq_false (by omega)
  have b1 : decide ((0 : Int) ≤ n) = false := decide_eq_false (by omega)
  have b3 : decide (n ≥ (0 : Int)) = false := decide_eq_false (by omega)
  have HB0 := Aside0.mk (below_alloc (Below.refl w.heap.size w) (.cells #[.int .i64 k, .string name, .int .i64 f, .int .i64 lang, .int .i64 out, .int .i64 dst, .int .i64 mat, .string body] 29))
  have BK0 := Aside0.mk (heap_new w (.cells #[.int .i64 k, .string name, .int .i64 f, .int .i64 lang, .int .i64 out, .int .i64 dst, .int .i64 mat, .string body] 29))
  clear hm hr hok h1 h2 hT hin
  go_enter Tryd.func8, Tryd.ntmps8
  go_upto_region 18 with (first
    | (go_at_call 29; (with_reducible refine (HCk.out _).mono ?_); rintro e w1 ⟨rfl, hb⟩; have HB1 := Aside0.mk (below_step HB0.out hb); have BK1 := Aside0.mk (blk_below BK0.out hb); clear hb)
    | (go_at_call 16; (with_reducible refine (HP1.out _).mono ?_); rintro e w2 ⟨rfl, hd⟩; have HB2 := Aside0.mk (below_step HB1.out hd.below); have BK2 := Aside0.mk (blk_below BK1.out hd.below); clear hd)
    | (go_at_call 16; (with_reducible refine (HP2.out _).mono ?_); rintro e w3 ⟨rfl, hd⟩; have HB3 := Aside0.mk ((below_step HB2.out hd.below).setCell (p := ⟨w.heap.size, 4, none⟩) (Nat.le_refl _) (.int .i64 n)); have bk3 := blk_below BK2.out hd.below; have BK3 := Aside0.mk (show (w3.setCell ⟨w.heap.size, 4, none⟩ (.int .i64 n)).heap[w.heap.size]? = some (.cells #[.int .i64 k, .string name, .int .i64 f, .int .i64 lang, .int .i64 n, .int .i64 dst, .int .i64 mat, .string body] 29 (0, 0)) from blk_set bk3 4 (.int .i64 n)); obtain ⟨c0, c1, c2, c3, c4, c5, c6, c7⟩ := box29 bk3; obtain ⟨f0, f2, f3, f4, f5, f6⟩ := box29w bk3; clear hd))
  clear c0 c1 c2 c3 c4 c5 c6 c7 f0 f2 f3 f4 f5 f6 bk3
  generalize w3.setCell ⟨w.heap.size, 4, none⟩ (.int .i64 n) = w3 at *
  obtain ⟨c0, c1, c2, c3, c4, c5, c6, c7⟩ := box29 BK3.out
  go_wp2_with (first
    | (go_at_call 19; (with_reducible refine (HC.out _ HB3.out).mono ?_); rintro e w4 ⟨rfl, hb⟩; have HB4 := Aside0.mk (below_step HB3.out hb); obtain ⟨z0, z1, z2, z3, z4, z5, z6, z7⟩ := box29 (blk_below BK3.out hb); clear hb)
    | (go_at_call 30; (with_reducible refine (HCf.out _ HB4.out).mono ?_); rintro e w8 ⟨rfl, hb⟩; have HB8 := Aside0.mk (below_step HB4.out hb); clear hb)
    | (go_at_call 18; (with_reducible refine (HW.out _ HB8.out).mono ?_); rintro e w9 ⟨rfl, hb⟩; have HB9 := Aside0.mk (below_step HB8.out hb); clear hb))
  go_ret
  exact ⟨rfl, HB9.out⟩
set_option maxHeartbeats 8000000 in
set_option maxRecDepth 100000 in
theorem fields_2hi (k : Int) (name : ByteArray) (f lang out dst mat : Int) (body : ByteArray) (which v n : Int) (w : World) (hT : Tabs w) (h1 : body.size ≤ 100) (h2 : name.size ≤ 100) (hok : (AskV.mk k name f lang out dst mat body).ok = true)
    (hm : erratumlaw00_Place.f which 6 = some 2) (hr : erratumlaw00_Place.f v 9 = some (n + 2)) (n0 : -2 ≤ n) (n1 : n ≤ 6) (hin : (AskV.mk k name f lang n dst mat body).ok = false) (hlo : 0 ≤ n) (hhi : 3 < n) :
    Calls Tryd.prog 8 #[.agg #[.int .i64 k, .string name, .int .i64 f, .int .i64 lang, .int .i64 out, .int .i64 dst, .int .i64 mat, .string body], .int .i64 which, .int .i64 v] w fun e w' => e = .returned (.bool true) ∧ Below w.heap.size w w' := by
  have HP1 := Aside0.mk (fun w1 => erratumlaw00_Place.calls v 9 (n + 2) w1 hr)
  have HP2 := Aside0.mk (fun w1 => erratumlaw00_Place.calls which 6 2 w1 hm)
  have HCk := Aside0.mk (fun w1 => refCheck_calls ⟨k, name, f, lang, out, dst, mat, body⟩ (by show name.size ≤ _; omega) w1)
  rw [hok] at HCk
  have HW := Aside0.mk (fun w1 (h : Below w.heap.size w w1) => frame_awake_calls w1 (tabs_below hT h))
  have HC := Aside0.mk (fun w1 (h : Below w.heap.size w w1) => put_no ⟨k, name, f, lang, n, dst, mat, body⟩ w1 (tabs_below hT h) (by show name.size ≤ _; omega) (by show body.size ≤ _; omega) hin)
  have HCf := Aside0.mk (fun w1 (h : Below w.heap.size w w1) => check_calls ⟨k, name, f, lang, n, dst, mat, body⟩ w1 (tabs_below hT h) (by show name.size ≤ _; omega) (by show body.size ≤ _; omega))
  rw [hin] at HCf
  simp only [AskV.cells] at HC HCf HCk
  have d1 : decide ((100 : Int) < (body.size : Int)) = false := decide_eq_false (by omega)
  have d2 : decide ((100 : Int) < (name.size : Int)) = false := decide_eq_false (by omega)
  have b1 : decide ((0 : Int) ≤ n) = true := decide_eq_true hlo
  have b2 : decide (n ≤ (3 : Int)) = false := decide_eq_false (by omega)
  have b3 : decide (n ≥ (0 : Int)) = true := decide_eq_true hlo
  have HB0 := Aside0.mk (below_alloc (Below.refl w.heap.size w) (.cells #[.int .i64 k, .string name, .int .i64 f, .int .i64 lang, .int .i64 out, .int .i64 dst, .int .i64 mat, .string body] 29))
  have BK0 := Aside0.mk (heap_new w (.cells #[.int .i64 k, .string name, .int .i64 f, .int .i64 lang, .int .i64 out, .int .i64 dst, .int .i64 mat, .string body] 29))
  clear hm hr hok h1 h2 hT hin
  go_enter Tryd.func8, Tryd.ntmps8
  go_upto_region 18 with (first
    | (go_at_call 29; (with_reducible refine (HCk.out _).mono ?_); rintro e w1 ⟨rfl, hb⟩; have HB1 := Aside0.mk (below_step HB0.out hb); have BK1 := Aside0.mk (blk_below BK0.out hb); clear hb)
    | (go_at_call 16; (with_reducible refine (HP1.out _).mono ?_); rintro e w2 ⟨rfl, hd⟩; have HB2 := Aside0.mk (below_step HB1.out hd.below); have BK2 := Aside0.mk (blk_below BK1.out hd.below); clear hd)
    | (go_at_call 16; (with_reducible refine (HP2.out _).mono ?_); rintro e w3 ⟨rfl, hd⟩; have HB3 := Aside0.mk ((below_step HB2.out hd.below).setCell (p := ⟨w.heap.size, 4, none⟩) (Nat.le_refl _) (.int .i64 n)); have bk3 := blk_below BK2.out hd.below; have BK3 := Aside0.mk (show (w3.setCell ⟨w.heap.size, 4, none⟩ (.int .i64 n)).heap[w.heap.size]? = some (.cells #[.int .i64 k, .string name, .int .i64 f, .int .i64 lang, .int .i64 n, .int .i64 dst, .int .i64 mat, .string body] 29 (0, 0)) from blk_set bk3 4 (.int .i64 n)); obtain ⟨c0, c1, c2, c3, c4, c5, c6, c7⟩ := box29 bk3; obtain ⟨f0, f2, f3, f4, f5, f6⟩ := box29w bk3; clear hd))
  clear c0 c1 c2 c3 c4 c5 c6 c7 f0 f2 f3 f4 f5 f6 bk3
  generalize w3.setCell ⟨w.heap.size, 4, none⟩ (.int .i64 n) = w3 at *
  obtain ⟨c0, c1, c2, c3, c4, c5, c6, c7⟩ := box29 BK3.out
  go_wp2_with (first
    | (go_at_call 19; (with_reducible refine (HC.out _ HB3.out).mono ?_); rintro e w4 ⟨rfl, hb⟩; have HB4 := Aside0.mk (below_step HB3.out hb); obtain ⟨z0, z1, z2, z3, z4, z5, z6, z7⟩ := box29 (blk_below BK3.out hb); clear hb)
    | (go_at_call 30; (with_reducible refine (HCf.out _ HB4.out).mono ?_); rintro e w8 ⟨rfl, hb⟩; have HB8 := Aside0.mk (below_step HB4.out hb); clear hb)
    | (go_at_call 18; (with_reducible refine (HW.out _ HB8.out).mono ?_); rintro e w9 ⟨rfl, hb⟩; have HB9 := Aside0.mk (below_step HB8.out hb); clear hb))
  go_ret
  exact ⟨rfl, HB9.out⟩
set_option maxHeartbeats 8000000 in
set_option maxRecDepth 100000 in
theorem fields_3in (k : Int) (name : ByteArray) (f lang out dst mat : Int) (body : ByteArray) (which v n : Int) (w : World) (hT : Tabs w) (h1 : body.size ≤ 100) (h2 : name.size ≤ 100) (hok : (AskV.mk k name f lang out dst mat body).ok = true)
    (hm : erratumlaw00_Place.f which 6 = some 3) (hr : erratumlaw00_Place.f v 9 = some (n + 2)) (n0 : -2 ≤ n) (n1 : n ≤ 6) (hin : (AskV.mk k name f n out dst mat body).ok = true) (hlo : 0 ≤ n) (hhi : n ≤ 3) :
    Calls Tryd.prog 8 #[.agg #[.int .i64 k, .string name, .int .i64 f, .int .i64 lang, .int .i64 out, .int .i64 dst, .int .i64 mat, .string body], .int .i64 which, .int .i64 v] w fun e w' => e = .returned (.bool true) ∧ Below w.heap.size w w' := by
  have HP1 := Aside0.mk (fun w1 => erratumlaw00_Place.calls v 9 (n + 2) w1 hr)
  have HP2 := Aside0.mk (fun w1 => erratumlaw00_Place.calls which 6 3 w1 hm)
  have HCk := Aside0.mk (fun w1 => refCheck_calls ⟨k, name, f, lang, out, dst, mat, body⟩ (by show name.size ≤ _; omega) w1)
  rw [hok] at HCk
  have HW := Aside0.mk (fun w1 (h : Below w.heap.size w w1) => frame_awake_calls w1 (tabs_below hT h))
  have HC := Aside0.mk (fun w1 (h : Below w.heap.size w w1) => put_get ⟨k, name, f, n, out, dst, mat, body⟩ w1 (tabs_below hT h) hin)
  have HSa := Aside0.mk (fun w1 => same_refl ⟨k, name, f, n, out, dst, mat, body⟩ w1)
  have HCf := Aside0.mk (fun w1 (h : Below w.heap.size w w1) => check_calls ⟨k, name, f, n, out, dst, mat, body⟩ w1 (tabs_below hT h) (by show name.size ≤ _; omega) (by show body.size ≤ _; omega))
  rw [hin] at HCf
  simp only [AskV.cells] at HC HCf HCk HSa
  have d1 : decide ((100 : Int) < (body.size : Int)) = false := decide_eq_false (by omega)
  have d2 : decide ((100 : Int) < (name.size : Int)) = false := decide_eq_false (by omega)
  have b1 : decide ((0 : Int) ≤ n) = true := decide_eq_true hlo
  have b2 : decide (n ≤ (3 : Int)) = true := decide_eq_true hhi
  have b3 : decide (n ≥ (0 : Int)) = true := decide_eq_true hlo
  have HB0 := Aside0.mk (below_alloc (Below.refl w.heap.size w) (.cells #[.int .i64 k, .string name, .int .i64 f, .int .i64 lang, .int .i64 out, .int .i64 dst, .int .i64 mat, .string body] 29))
  have BK0 := Aside0.mk (heap_new w (.cells #[.int .i64 k, .string name, .int .i64 f, .int .i64 lang, .int .i64 out, .int .i64 dst, .int .i64 mat, .string body] 29))
  clear hm hr hok h1 h2 hT hin
  go_enter Tryd.func8, Tryd.ntmps8
  go_upto_region 18 with (first
    | (go_at_call 29; (with_reducible refine (HCk.out _).mono ?_); rintro e w1 ⟨rfl, hb⟩; have HB1 := Aside0.mk (below_step HB0.out hb); have BK1 := Aside0.mk (blk_below BK0.out hb); clear hb)
    | (go_at_call 16; (with_reducible refine (HP1.out _).mono ?_); rintro e w2 ⟨rfl, hd⟩; have HB2 := Aside0.mk (below_step HB1.out hd.below); have BK2 := Aside0.mk (blk_below BK1.out hd.below); clear hd)
    | (go_at_call 16; (with_reducible refine (HP2.out _).mono ?_); rintro e w3 ⟨rfl, hd⟩; have HB3 := Aside0.mk ((below_step HB2.out hd.below).setCell (p := ⟨w.heap.size, 3, none⟩) (Nat.le_refl _) (.int .i64 n)); have bk3 := blk_below BK2.out hd.below; have BK3 := Aside0.mk (show (w3.setCell ⟨w.heap.size, 3, none⟩ (.int .i64 n)).heap[w.heap.size]? = some (.cells #[.int .i64 k, .string name, .int .i64 f, .int .i64 n, .int .i64 out, .int .i64 dst, .int .i64 mat, .string body] 29 (0, 0)) from blk_set bk3 3 (.int .i64 n)); obtain ⟨c0, c1, c2, c3, c4, c5, c6, c7⟩ := box29 bk3; obtain ⟨f0, f2, f3, f4, f5, f6⟩ := box29w bk3; clear hd))
  clear c0 c1 c2 c3 c4 c5 c6 c7 f0 f2 f3 f4 f5 f6 bk3
  generalize w3.setCell ⟨w.heap.size, 3, none⟩ (.int .i64 n) = w3 at *
  obtain ⟨c0, c1, c2, c3, c4, c5, c6, c7⟩ := box29 BK3.out
  go_upto_region 22 with (first
    | (go_at_call 19; (with_reducible refine (HC.out _ HB3.out).mono ?_); rintro e w4 ⟨g, N, cap, rfl, hN, hle, hC, hb, hget⟩; have HGet := Aside0.mk (hget _ (Below.refl _ _)); have HB4 := Aside0.mk (below_step HB3.out hb); have BK4 := Aside0.mk (blk_below BK3.out hb); clear hN hle hC hb hget)
    | (go_at_call 31; (with_reducible refine HGet.out.mono ?_); rintro e w5 ⟨rfl, hb⟩; have HB5 := Aside0.mk (below_step HB4.out hb); have BK5 := Aside0.mk (blk_below BK4.out hb); clear hb))
  clear c0 c1 c2 c3 c4 c5 c6 c7 b1 b2 b3 d1 d2 hlo hhi n0 n1 HC HGet HCk HP1 HP2 HB4 HB3 HB2 HB1 HB0 BK0 BK1 BK2 BK3 BK4
  have HB6 := Aside0.mk (below_alloc HB5.out (.cells #[.int .i64 k, .string name, .int .i64 f, .int .i64 n, .int .i64 out, .int .i64 dst, .int .i64 mat, .string body] 29))
  have BK6 := Aside0.mk (blk_alloc BK5.out (.cells #[.int .i64 k, .string name, .int .i64 f, .int .i64 n, .int .i64 out, .int .i64 dst, .int .i64 mat, .string body] 29))
  have BN6 := Aside0.mk (blk_new w5 (.cells #[.int .i64 k, .string name, .int .i64 f, .int .i64 n, .int .i64 out, .int .i64 dst, .int .i64 mat, .string body] 29))
  clear HB5 BK5
  generalize w5.alloc (.cells #[.int .i64 k, .string name, .int .i64 f, .int .i64 n, .int .i64 out, .int .i64 dst, .int .i64 mat, .string body] 29) = w6 at HB6 BK6 BN6 ⊢
  generalize w5.heap.size = gn at BN6 ⊢
  obtain ⟨c0, c1, c2, c3, c4, c5, c6, c7⟩ := box29 BK6.out
  obtain ⟨x0, x1, x2, x3, x4, x5, x6, x7⟩ := box29 BN6.out
  go_wp2_with (first
    | (go_at_call 32; (with_reducible refine (HSa.out _).mono ?_); rintro e w7 ⟨rfl, hb⟩; have HB7 := Aside0.mk (below_step HB6.out hb); obtain ⟨z0, z1, z2, z3, z4, z5, z6, z7⟩ := box29 (blk_below BK6.out hb); clear hb)
    | (go_at_call 30; (with_reducible refine (HCf.out _ HB7.out).mono ?_); rintro e w8 ⟨rfl, hb⟩; have HB8 := Aside0.mk (below_step HB7.out hb); clear hb)
    | (go_at_call 18; (with_reducible refine (HW.out _ HB8.out).mono ?_); rintro e w9 ⟨rfl, hb⟩; have HB9 := Aside0.mk (below_step HB8.out hb); clear hb))
  go_ret
  exact ⟨rfl, HB9.out⟩
set_option maxHeartbeats 8000000 in
set_option maxRecDepth 100000 in
theorem fields_3lo (k : Int) (name : ByteArray) (f lang out dst mat : Int) (body : ByteArray) (which v n : Int) (w : World) (hT : Tabs w) (h1 : body.size ≤ 100) (h2 : name.size ≤ 100) (hok : (AskV.mk k name f lang out dst mat body).ok = true)
    (hm : erratumlaw00_Place.f which 6 = some 3) (hr : erratumlaw00_Place.f v 9 = some (n + 2)) (n0 : -2 ≤ n) (n1 : n ≤ 6) (hin : (AskV.mk k name f n out dst mat body).ok = false) (hlo : n < 0) :
    Calls Tryd.prog 8 #[.agg #[.int .i64 k, .string name, .int .i64 f, .int .i64 lang, .int .i64 out, .int .i64 dst, .int .i64 mat, .string body], .int .i64 which, .int .i64 v] w fun e w' => e = .returned (.bool true) ∧ Below w.heap.size w w' := by
  have HP1 := Aside0.mk (fun w1 => erratumlaw00_Place.calls v 9 (n + 2) w1 hr)
  have HP2 := Aside0.mk (fun w1 => erratumlaw00_Place.calls which 6 3 w1 hm)
  have HCk := Aside0.mk (fun w1 => refCheck_calls ⟨k, name, f, lang, out, dst, mat, body⟩ (by show name.size ≤ _; omega) w1)
  rw [hok] at HCk
  have HW := Aside0.mk (fun w1 (h : Below w.heap.size w w1) => frame_awake_calls w1 (tabs_below hT h))
  have HC := Aside0.mk (fun w1 (h : Below w.heap.size w w1) => put_no ⟨k, name, f, n, out, dst, mat, body⟩ w1 (tabs_below hT h) (by show name.size ≤ _; omega) (by show body.size ≤ _; omega) hin)
  have HCf := Aside0.mk (fun w1 (h : Below w.heap.size w w1) => check_calls ⟨k, name, f, n, out, dst, mat, body⟩ w1 (tabs_below hT h) (by show name.size ≤ _; omega) (by show body.size ≤ _; omega))
  rw [hin] at HCf
  simp only [AskV.cells] at HC HCf HCk
  have d1 : decide ((100 : Int) < (body.size : Int)) = false := decide_eq_false (by omega)
  have d2 : decide ((100 : Int) < (name.size : Int)) = false := decide_eq_false (by omega)
  have b1 : decide ((0 : Int) ≤ n) = false := decide_eq_false (by omega)
  have b3 : decide (n ≥ (0 : Int)) = false := decide_eq_false (by omega)
  have HB0 := Aside0.mk (below_alloc (Below.refl w.heap.size w) (.cells #[.int .i64 k, .string name, .int .i64 f, .int .i64 lang, .int .i64 out, .int .i64 dst, .int .i64 mat, .string body] 29))
  have BK0 := Aside0.mk (heap_new w (.cells #[.int .i64 k, .string name, .int .i64 f, .int .i64 lang, .int .i64 out, .int .i64 dst, .int .i64 mat, .string body] 29))
  clear hm hr hok h1 h2 hT hin
  go_enter Tryd.func8, Tryd.ntmps8
  go_upto_region 18 with (first
    | (go_at_call 29; (with_reducible refine (HCk.out _).mono ?_); rintro e w1 ⟨rfl, hb⟩; have HB1 := Aside0.mk (below_step HB0.out hb); have BK1 := Aside0.mk (blk_below BK0.out hb); clear hb)
    | (go_at_call 16; (with_reducible refine (HP1.out _).mono ?_); rintro e w2 ⟨rfl, hd⟩; have HB2 := Aside0.mk (below_step HB1.out hd.below); have BK2 := Aside0.mk (blk_below BK1.out hd.below); clear hd)
    | (go_at_call 16; (with_reducible refine (HP2.out _).mono ?_); rintro e w3 ⟨rfl, hd⟩; have HB3 := Aside0.mk ((below_step HB2.out hd.below).setCell (p := ⟨w.heap.size, 3, none⟩) (Nat.le_refl _) (.int .i64 n)); have bk3 := blk_below BK2.out hd.below; have BK3 := Aside0.mk (show (w3.setCell ⟨w.heap.size, 3, none⟩ (.int .i64 n)).heap[w.heap.size]? = some (.cells #[.int .i64 k, .string name, .int .i64 f, .int .i64 n, .int .i64 out, .int .i64 dst, .int .i64 mat, .string body] 29 (0, 0)) from blk_set bk3 3 (.int .i64 n)); obtain ⟨c0, c1, c2, c3, c4, c5, c6, c7⟩ := box29 bk3; obtain ⟨f0, f2, f3, f4, f5, f6⟩ := box29w bk3; clear hd))
  clear c0 c1 c2 c3 c4 c5 c6 c7 f0 f2 f3 f4 f5 f6 bk3
  generalize w3.setCell ⟨w.heap.size, 3, none⟩ (.int .i64 n) = w3 at *
  obtain ⟨c0, c1, c2, c3, c4, c5, c6, c7⟩ := box29 BK3.out
  go_wp2_with (first
    | (go_at_call 19; (with_reducible refine (HC.out _ HB3.out).mono ?_); rintro e w4 ⟨rfl, hb⟩; have HB4 := Aside0.mk (below_step HB3.out hb); obtain ⟨z0, z1, z2, z3, z4, z5, z6, z7⟩ := box29 (blk_below BK3.out hb); clear hb)
    | (go_at_call 30; (with_reducible refine (HCf.out _ HB4.out).mono ?_); rintro e w8 ⟨rfl, hb⟩; have HB8 := Aside0.mk (below_step HB4.out hb); clear hb)
    | (go_at_call 18; (with_reducible refine (HW.out _ HB8.out).mono ?_); rintro e w9 ⟨rfl, hb⟩; have HB9 := Aside0.mk (below_step HB8.out hb); clear hb))
  go_ret
  exact ⟨rfl, HB9.out⟩
set_option maxHeartbeats 8000000 in
set_option maxRecDepth 100000 in
theorem fields_3hi (k : Int) (name : ByteArray) (f lang out dst mat : Int) (body : ByteArray) (which v n : Int) (w : World) (hT : Tabs w) (h1 : body.size ≤ 100) (h2 : name.size ≤ 100) (hok : (AskV.mk k name f lang out dst mat body).ok = true)
    (hm : erratumlaw00_Place.f which 6 = some 3) (hr : erratumlaw00_Place.f v 9 = some (n + 2)) (n0 : -2 ≤ n) (n1 : n ≤ 6) (hin : (AskV.mk k name f n out dst mat body).ok = false) (hlo : 0 ≤ n) (hhi : 3 < n) :
    Calls Tryd.prog 8 #[.agg #[.int .i64 k, .string name, .int .i64 f, .int .i64 lang, .int .i64 out, .int .i64 dst, .int .i64 mat, .string body], .int .i64 which, .int .i64 v] w fun e w' => e = .returned (.bool true) ∧ Below w.heap.size w w' := by
  have HP1 := Aside0.mk (fun w1 => erratumlaw00_Place.calls v 9 (n + 2) w1 hr)
  have HP2 := Aside0.mk (fun w1 => erratumlaw00_Place.calls which 6 3 w1 hm)
  have HCk := Aside0.mk (fun w1 => refCheck_calls ⟨k, name, f, lang, out, dst, mat, body⟩ (by show name.size ≤ _; omega) w1)
  rw [hok] at HCk
  have HW := Aside0.mk (fun w1 (h : Below w.heap.size w w1) => frame_awake_calls w1 (tabs_below hT h))
  have HC := Aside0.mk (fun w1 (h : Below w.heap.size w w1) => put_no ⟨k, name, f, n, out, dst, mat, body⟩ w1 (tabs_below hT h) (by show name.size ≤ _; omega) (by show body.size ≤ _; omega) hin)
  have HCf := Aside0.mk (fun w1 (h : Below w.heap.size w w1) => check_calls ⟨k, name, f, n, out, dst, mat, body⟩ w1 (tabs_below hT h) (by show name.size ≤ _; omega) (by show body.size ≤ _; omega))
  rw [hin] at HCf
  simp only [AskV.cells] at HC HCf HCk
  have d1 : decide ((100 : Int) < (body.size : Int)) = false := decide_eq_false (by omega)
  have d2 : decide ((100 : Int) < (name.size : Int)) = false := decide_eq_false (by omega)
  have b1 : decide ((0 : Int) ≤ n) = true := decide_eq_true hlo
  have b2 : decide (n ≤ (3 : Int)) = false := decide_eq_false (by omega)
  have b3 : decide (n ≥ (0 : Int)) = true := decide_eq_true hlo
  have HB0 := Aside0.mk (below_alloc (Below.refl w.heap.size w) (.cells #[.int .i64 k, .string name, .int .i64 f, .int .i64 lang, .int .i64 out, .int .i64 dst, .int .i64 mat, .string body] 29))
  have BK0 := Aside0.mk (heap_new w (.cells #[.int .i64 k, .string name, .int .i64 f, .int .i64 lang, .int .i64 out, .int .i64 dst, .int .i64 mat, .string body] 29))
  clear hm hr hok h1 h2 hT hin
  go_enter Tryd.func8, Tryd.ntmps8
  go_upto_region 18 with (first
    | (go_at_call 29; (with_reducible refine (HCk.out _).mono ?_); rintro e w1 ⟨rfl, hb⟩; have HB1 := Aside0.mk (below_step HB0.out hb); have BK1 := Aside0.mk (blk_below BK0.out hb); clear hb)
    | (go_at_call 16; (with_reducible refine (HP1.out _).mono ?_); rintro e w2 ⟨rfl, hd⟩; have HB2 := Aside0.mk (below_step HB1.out hd.below); have BK2 := Aside0.mk (blk_below BK1.out hd.below); clear hd)
    | (go_at_call 16; (with_reducible refine (HP2.out _).mono ?_); rintro e w3 ⟨rfl, hd⟩; have HB3 := Aside0.mk ((below_step HB2.out hd.below).setCell (p := ⟨w.heap.size, 3, none⟩) (Nat.le_refl _) (.int .i64 n)); have bk3 := blk_below BK2.out hd.below; have BK3 := Aside0.mk (show (w3.setCell ⟨w.heap.size, 3, none⟩ (.int .i64 n)).heap[w.heap.size]? = some (.cells #[.int .i64 k, .string name, .int .i64 f, .int .i64 n, .int .i64 out, .int .i64 dst, .int .i64 mat, .string body] 29 (0, 0)) from blk_set bk3 3 (.int .i64 n)); obtain ⟨c0, c1, c2, c3, c4, c5, c6, c7⟩ := box29 bk3; obtain ⟨f0, f2, f3, f4, f5, f6⟩ := box29w bk3; clear hd))
  clear c0 c1 c2 c3 c4 c5 c6 c7 f0 f2 f3 f4 f5 f6 bk3
  generalize w3.setCell ⟨w.heap.size, 3, none⟩ (.int .i64 n) = w3 at *
  obtain ⟨c0, c1, c2, c3, c4, c5, c6, c7⟩ := box29 BK3.out
  go_wp2_with (first
    | (go_at_call 19; (with_reducible refine (HC.out _ HB3.out).mono ?_); rintro e w4 ⟨rfl, hb⟩; have HB4 := Aside0.mk (below_step HB3.out hb); obtain ⟨z0, z1, z2, z3, z4, z5, z6, z7⟩ := box29 (blk_below BK3.out hb); clear hb)
    | (go_at_call 30; (with_reducible refine (HCf.out _ HB4.out).mono ?_); rintro e w8 ⟨rfl, hb⟩; have HB8 := Aside0.mk (below_step HB4.out hb); clear hb)
    | (go_at_call 18; (with_reducible refine (HW.out _ HB8.out).mono ?_); rintro e w9 ⟨rfl, hb⟩; have HB9 := Aside0.mk (below_step HB8.out hb); clear hb))
  go_ret
  exact ⟨rfl, HB9.out⟩
set_option maxHeartbeats 8000000 in
set_option maxRecDepth 100000 in
theorem fields_4in (k : Int) (name : ByteArray) (f lang out dst mat : Int) (body : ByteArray) (which v n : Int) (w : World) (hT : Tabs w) (h1 : body.size ≤ 100) (h2 : name.size ≤ 100) (hok : (AskV.mk k name f lang out dst mat body).ok = true)
    (hm : erratumlaw00_Place.f which 6 = some 4) (hr : erratumlaw00_Place.f v 9 = some (n + 2)) (n0 : -2 ≤ n) (n1 : n ≤ 6) (hin : (AskV.mk k name f lang out n mat body).ok = true) (hlo : 0 ≤ n) (hhi : n ≤ 3) :
    Calls Tryd.prog 8 #[.agg #[.int .i64 k, .string name, .int .i64 f, .int .i64 lang, .int .i64 out, .int .i64 dst, .int .i64 mat, .string body], .int .i64 which, .int .i64 v] w fun e w' => e = .returned (.bool true) ∧ Below w.heap.size w w' := by
  have HP1 := Aside0.mk (fun w1 => erratumlaw00_Place.calls v 9 (n + 2) w1 hr)
  have HP2 := Aside0.mk (fun w1 => erratumlaw00_Place.calls which 6 4 w1 hm)
  have HCk := Aside0.mk (fun w1 => refCheck_calls ⟨k, name, f, lang, out, dst, mat, body⟩ (by show name.size ≤ _; omega) w1)
  rw [hok] at HCk
  have HW := Aside0.mk (fun w1 (h : Below w.heap.size w w1) => frame_awake_calls w1 (tabs_below hT h))
  have HC := Aside0.mk (fun w1 (h : Below w.heap.size w w1) => put_get ⟨k, name, f, lang, out, n, mat, body⟩ w1 (tabs_below hT h) hin)
  have HSa := Aside0.mk (fun w1 => same_refl ⟨k, name, f, lang, out, n, mat, body⟩ w1)
  have HCf := Aside0.mk (fun w1 (h : Below w.heap.size w w1) => check_calls ⟨k, name, f, lang, out, n, mat, body⟩ w1 (tabs_below hT h) (by show name.size ≤ _; omega) (by show body.size ≤ _; omega))
  rw [hin] at HCf
  simp only [AskV.cells] at HC HCf HCk HSa
  have d1 : decide ((100 : Int) < (body.size : Int)) = false := decide_eq_false (by omega)
  have d2 : decide ((100 : Int) < (name.size : Int)) = false := decide_eq_false (by omega)
  have b1 : decide ((0 : Int) ≤ n) = true := decide_eq_true hlo
  have b2 : decide (n ≤ (3 : Int)) = true := decide_eq_true hhi
  have b3 : decide (n ≥ (0 : Int)) = true := decide_eq_true hlo
  have HB0 := Aside0.mk (below_alloc (Below.refl w.heap.size w) (.cells #[.int .i64 k, .string name, .int .i64 f, .int .i64 lang, .int .i64 out, .int .i64 dst, .int .i64 mat, .string body] 29))
  have BK0 := Aside0.mk (heap_new w (.cells #[.int .i64 k, .string name, .int .i64 f, .int .i64 lang, .int .i64 out, .int .i64 dst, .int .i64 mat, .string body] 29))
  clear hm hr hok h1 h2 hT hin
  go_enter Tryd.func8, Tryd.ntmps8
  go_upto_region 18 with (first
    | (go_at_call 29; (with_reducible refine (HCk.out _).mono ?_); rintro e w1 ⟨rfl, hb⟩; have HB1 := Aside0.mk (below_step HB0.out hb); have BK1 := Aside0.mk (blk_below BK0.out hb); clear hb)
    | (go_at_call 16; (with_reducible refine (HP1.out _).mono ?_); rintro e w2 ⟨rfl, hd⟩; have HB2 := Aside0.mk (below_step HB1.out hd.below); have BK2 := Aside0.mk (blk_below BK1.out hd.below); clear hd)
    | (go_at_call 16; (with_reducible refine (HP2.out _).mono ?_); rintro e w3 ⟨rfl, hd⟩; have HB3 := Aside0.mk ((below_step HB2.out hd.below).setCell (p := ⟨w.heap.size, 5, none⟩) (Nat.le_refl _) (.int .i64 n)); have bk3 := blk_below BK2.out hd.below; have BK3 := Aside0.mk (show (w3.setCell ⟨w.heap.size, 5, none⟩ (.int .i64 n)).heap[w.heap.size]? = some (.cells #[.int .i64 k, .string name, .int .i64 f, .int .i64 lang, .int .i64 out, .int .i64 n, .int .i64 mat, .string body] 29 (0, 0)) from blk_set bk3 5 (.int .i64 n)); obtain ⟨c0, c1, c2, c3, c4, c5, c6, c7⟩ := box29 bk3; obtain ⟨f0, f2, f3, f4, f5, f6⟩ := box29w bk3; clear hd))
  clear c0 c1 c2 c3 c4 c5 c6 c7 f0 f2 f3 f4 f5 f6 bk3
  generalize w3.setCell ⟨w.heap.size, 5, none⟩ (.int .i64 n) = w3 at *
  obtain ⟨c0, c1, c2, c3, c4, c5, c6, c7⟩ := box29 BK3.out
  go_upto_region 22 with (first
    | (go_at_call 19; (with_reducible refine (HC.out _ HB3.out).mono ?_); rintro e w4 ⟨g, N, cap, rfl, hN, hle, hC, hb, hget⟩; have HGet := Aside0.mk (hget _ (Below.refl _ _)); have HB4 := Aside0.mk (below_step HB3.out hb); have BK4 := Aside0.mk (blk_below BK3.out hb); clear hN hle hC hb hget)
    | (go_at_call 31; (with_reducible refine HGet.out.mono ?_); rintro e w5 ⟨rfl, hb⟩; have HB5 := Aside0.mk (below_step HB4.out hb); have BK5 := Aside0.mk (blk_below BK4.out hb); clear hb))
  clear c0 c1 c2 c3 c4 c5 c6 c7 b1 b2 b3 d1 d2 hlo hhi n0 n1 HC HGet HCk HP1 HP2 HB4 HB3 HB2 HB1 HB0 BK0 BK1 BK2 BK3 BK4
  have HB6 := Aside0.mk (below_alloc HB5.out (.cells #[.int .i64 k, .string name, .int .i64 f, .int .i64 lang, .int .i64 out, .int .i64 n, .int .i64 mat, .string body] 29))
  have BK6 := Aside0.mk (blk_alloc BK5.out (.cells #[.int .i64 k, .string name, .int .i64 f, .int .i64 lang, .int .i64 out, .int .i64 n, .int .i64 mat, .string body] 29))
  have BN6 := Aside0.mk (blk_new w5 (.cells #[.int .i64 k, .string name, .int .i64 f, .int .i64 lang, .int .i64 out, .int .i64 n, .int .i64 mat, .string body] 29))
  clear HB5 BK5
  generalize w5.alloc (.cells #[.int .i64 k, .string name, .int .i64 f, .int .i64 lang, .int .i64 out, .int .i64 n, .int .i64 mat, .string body] 29) = w6 at HB6 BK6 BN6 ⊢
  generalize w5.heap.size = gn at BN6 ⊢
  obtain ⟨c0, c1, c2, c3, c4, c5, c6, c7⟩ := box29 BK6.out
  obtain ⟨x0, x1, x2, x3, x4, x5, x6, x7⟩ := box29 BN6.out
  go_wp2_with (first
    | (go_at_call 32; (with_reducible refine (HSa.out _).mono ?_); rintro e w7 ⟨rfl, hb⟩; have HB7 := Aside0.mk (below_step HB6.out hb); obtain ⟨z0, z1, z2, z3, z4, z5, z6, z7⟩ := box29 (blk_below BK6.out hb); clear hb)
    | (go_at_call 30; (with_reducible refine (HCf.out _ HB7.out).mono ?_); rintro e w8 ⟨rfl, hb⟩; have HB8 := Aside0.mk (below_step HB7.out hb); clear hb)
    | (go_at_call 18; (with_reducible refine (HW.out _ HB8.out).mono ?_); rintro e w9 ⟨rfl, hb⟩; have HB9 := Aside0.mk (below_step HB8.out hb); clear hb))
  go_ret
  exact ⟨rfl, HB9.out⟩
set_option maxHeartbeats 8000000 in
set_option maxRecDepth 100000 in
theorem fields_4lo (k : Int) (name : ByteArray) (f lang out dst mat : Int) (body : ByteArray) (which v n : Int) (w : World) (hT : Tabs w) (h1 : body.size ≤ 100) (h2 : name.size ≤ 100) (hok : (AskV.mk k name f lang out dst mat body).ok = true)
    (hm : erratumlaw00_Place.f which 6 = some 4) (hr : erratumlaw00_Place.f v 9 = some (n + 2)) (n0 : -2 ≤ n) (n1 : n ≤ 6) (hin : (AskV.mk k name f lang out n mat body).ok = false) (hlo : n < 0) :
    Calls Tryd.prog 8 #[.agg #[.int .i64 k, .string name, .int .i64 f, .int .i64 lang, .int .i64 out, .int .i64 dst, .int .i64 mat, .string body], .int .i64 which, .int .i64 v] w fun e w' => e = .returned (.bool true) ∧ Below w.heap.size w w' := by
  have HP1 := Aside0.mk (fun w1 => erratumlaw00_Place.calls v 9 (n + 2) w1 hr)
  have HP2 := Aside0.mk (fun w1 => erratumlaw00_Place.calls which 6 4 w1 hm)
  have HCk := Aside0.mk (fun w1 => refCheck_calls ⟨k, name, f, lang, out, dst, mat, body⟩ (by show name.size ≤ _; omega) w1)
  rw [hok] at HCk
  have HW := Aside0.mk (fun w1 (h : Below w.heap.size w w1) => frame_awake_calls w1 (tabs_below hT h))
  have HC := Aside0.mk (fun w1 (h : Below w.heap.size w w1) => put_no ⟨k, name, f, lang, out, n, mat, body⟩ w1 (tabs_below hT h) (by show name.size ≤ _; omega) (by show body.size ≤ _; omega) hin)
  have HCf := Aside0.mk (fun w1 (h : Below w.heap.size w w1) => check_calls ⟨k, name, f, lang, out, n, mat, body⟩ w1 (tabs_below hT h) (by show name.size ≤ _; omega) (by show body.size ≤ _; omega))
  rw [hin] at HCf
  simp only [AskV.cells] at HC HCf HCk
  have d1 : decide ((100 : Int) < (body.size : Int)) = false := decide_eq_false (by omega)
  have d2 : decide ((100 : Int) < (name.size : Int)) = false := decide_eq_false (by omega)
  have b1 : decide ((0 : Int) ≤ n) = false := decide_eq_false (by omega)
  have b3 : decide (n ≥ (0 : Int)) = false := decide_eq_false (by omega)
  have HB0 := Aside0.mk (below_alloc (Below.refl w.heap.size w) (.cells #[.int .i64 k, .string name, .int .i64 f, .int .i64 lang, .int .i64 out, .int .i64 dst, .int .i64 mat, .string body] 29))
  have BK0 := Aside0.mk (heap_new w (.cells #[.int .i64 k, .string name, .int .i64 f, .int .i64 lang, .int .i64 out, .int .i64 dst, .int .i64 mat, .string body] 29))
  clear hm hr hok h1 h2 hT hin
  go_enter Tryd.func8, Tryd.ntmps8
  go_upto_region 18 with (first
    | (go_at_call 29; (with_reducible refine (HCk.out _).mono ?_); rintro e w1 ⟨rfl, hb⟩; have HB1 := Aside0.mk (below_step HB0.out hb); have BK1 := Aside0.mk (blk_below BK0.out hb); clear hb)
    | (go_at_call 16; (with_reducible refine (HP1.out _).mono ?_); rintro e w2 ⟨rfl, hd⟩; have HB2 := Aside0.mk (below_step HB1.out hd.below); have BK2 := Aside0.mk (blk_below BK1.out hd.below); clear hd)
    | (go_at_call 16; (with_reducible refine (HP2.out _).mono ?_); rintro e w3 ⟨rfl, hd⟩; have HB3 := Aside0.mk ((below_step HB2.out hd.below).setCell (p := ⟨w.heap.size, 5, none⟩) (Nat.le_refl _) (.int .i64 n)); have bk3 := blk_below BK2.out hd.below; have BK3 := Aside0.mk (show (w3.setCell ⟨w.heap.size, 5, none⟩ (.int .i64 n)).heap[w.heap.size]? = some (.cells #[.int .i64 k, .string name, .int .i64 f, .int .i64 lang, .int .i64 out, .int .i64 n, .int .i64 mat, .string body] 29 (0, 0)) from blk_set bk3 5 (.int .i64 n)); obtain ⟨c0, c1, c2, c3, c4, c5, c6, c7⟩ := box29 bk3; obtain ⟨f0, f2, f3, f4, f5, f6⟩ := box29w bk3; clear hd))
  clear c0 c1 c2 c3 c4 c5 c6 c7 f0 f2 f3 f4 f5 f6 bk3
  generalize w3.setCell ⟨w.heap.size, 5, none⟩ (.int .i64 n) = w3 at *
  obtain ⟨c0, c1, c2, c3, c4, c5, c6, c7⟩ := box29 BK3.out
  go_wp2_with (first
    | (go_at_call 19; (with_reducible refine (HC.out _ HB3.out).mono ?_); rintro e w4 ⟨rfl, hb⟩; have HB4 := Aside0.mk (below_step HB3.out hb); obtain ⟨z0, z1, z2, z3, z4, z5, z6, z7⟩ := box29 (blk_below BK3.out hb); clear hb)
    | (go_at_call 30; (with_reducible refine (HCf.out _ HB4.out).mono ?_); rintro e w8 ⟨rfl, hb⟩; have HB8 := Aside0.mk (below_step HB4.out hb); clear hb)
    | (go_at_call 18; (with_reducible refine (HW.out _ HB8.out).mono ?_); rintro e w9 ⟨rfl, hb⟩; have HB9 := Aside0.mk (below_step HB8.out hb); clear hb))
  go_ret
  exact ⟨rfl, HB9.out⟩
set_option maxHeartbeats 8000000 in
set_option maxRecDepth 100000 in
theorem fields_4hi (k : Int) (name : ByteArray) (f lang out dst mat : Int) (body : ByteArray) (which v n : Int) (w : World) (hT : Tabs w) (h1 : body.size ≤ 100) (h2 : name.size ≤ 100) (hok : (AskV.mk k name f lang out dst mat body).ok = true)
    (hm : erratumlaw00_Place.f which 6 = some 4) (hr : erratumlaw00_Place.f v 9 = some (n + 2)) (n0 : -2 ≤ n) (n1 : n ≤ 6) (hin : (AskV.mk k name f lang out n mat body).ok = false) (hlo : 0 ≤ n) (hhi : 3 < n) :
    Calls Tryd.prog 8 #[.agg #[.int .i64 k, .string name, .int .i64 f, .int .i64 lang, .int .i64 out, .int .i64 dst, .int .i64 mat, .string body], .int .i64 which, .int .i64 v] w fun e w' => e = .returned (.bool true) ∧ Below w.heap.size w w' := by
  have HP1 := Aside0.mk (fun w1 => erratumlaw00_Place.calls v 9 (n + 2) w1 hr)
  have HP2 := Aside0.mk (fun w1 => erratumlaw00_Place.calls which 6 4 w1 hm)
  have HCk := Aside0.mk (fun w1 => refCheck_calls ⟨k, name, f, lang, out, dst, mat, body⟩ (by show name.size ≤ _; omega) w1)
  rw [hok] at HCk
  have HW := Aside0.mk (fun w1 (h : Below w.heap.size w w1) => frame_awake_calls w1 (tabs_below hT h))
  have HC := Aside0.mk (fun w1 (h : Below w.heap.size w w1) => put_no ⟨k, name, f, lang, out, n, mat, body⟩ w1 (tabs_below hT h) (by show name.size ≤ _; omega) (by show body.size ≤ _; omega) hin)
  have HCf := Aside0.mk (fun w1 (h : Below w.heap.size w w1) => check_calls ⟨k, name, f, lang, out, n, mat, body⟩ w1 (tabs_below hT h) (by show name.size ≤ _; omega) (by show body.size ≤ _; omega))
  rw [hin] at HCf
  simp only [AskV.cells] at HC HCf HCk
  have d1 : decide ((100 : Int) < (body.size : Int)) = false := decide_eq_false (by omega)
  have d2 : decide ((100 : Int) < (name.size : Int)) = false := decide_eq_false (by omega)
  have b1 : decide ((0 : Int) ≤ n) = true := decide_eq_true hlo
  have b2 : decide (n ≤ (3 : Int)) = false := decide_eq_false (by omega)
  have b3 : decide (n ≥ (0 : Int)) = true := decide_eq_true hlo
  have HB0 := Aside0.mk (below_alloc (Below.refl w.heap.size w) (.cells #[.int .i64 k, .string name, .int .i64 f, .int .i64 lang, .int .i64 out, .int .i64 dst, .int .i64 mat, .string body] 29))
  have BK0 := Aside0.mk (heap_new w (.cells #[.int .i64 k, .string name, .int .i64 f, .int .i64 lang, .int .i64 out, .int .i64 dst, .int .i64 mat, .string body] 29))
  clear hm hr hok h1 h2 hT hin
  go_enter Tryd.func8, Tryd.ntmps8
  go_upto_region 18 with (first
    | (go_at_call 29; (with_reducible refine (HCk.out _).mono ?_); rintro e w1 ⟨rfl, hb⟩; have HB1 := Aside0.mk (below_step HB0.out hb); have BK1 := Aside0.mk (blk_below BK0.out hb); clear hb)
    | (go_at_call 16; (with_reducible refine (HP1.out _).mono ?_); rintro e w2 ⟨rfl, hd⟩; have HB2 := Aside0.mk (below_step HB1.out hd.below); have BK2 := Aside0.mk (blk_below BK1.out hd.below); clear hd)
    | (go_at_call 16; (with_reducible refine (HP2.out _).mono ?_); rintro e w3 ⟨rfl, hd⟩; have HB3 := Aside0.mk ((below_step HB2.out hd.below).setCell (p := ⟨w.heap.size, 5, none⟩) (Nat.le_refl _) (.int .i64 n)); have bk3 := blk_below BK2.out hd.below; have BK3 := Aside0.mk (show (w3.setCell ⟨w.heap.size, 5, none⟩ (.int .i64 n)).heap[w.heap.size]? = some (.cells #[.int .i64 k, .string name, .int .i64 f, .int .i64 lang, .int .i64 out, .int .i64 n, .int .i64 mat, .string body] 29 (0, 0)) from blk_set bk3 5 (.int .i64 n)); obtain ⟨c0, c1, c2, c3, c4, c5, c6, c7⟩ := box29 bk3; obtain ⟨f0, f2, f3, f4, f5, f6⟩ := box29w bk3; clear hd))
  clear c0 c1 c2 c3 c4 c5 c6 c7 f0 f2 f3 f4 f5 f6 bk3
  generalize w3.setCell ⟨w.heap.size, 5, none⟩ (.int .i64 n) = w3 at *
  obtain ⟨c0, c1, c2, c3, c4, c5, c6, c7⟩ := box29 BK3.out
  go_wp2_with (first
    | (go_at_call 19; (with_reducible refine (HC.out _ HB3.out).mono ?_); rintro e w4 ⟨rfl, hb⟩; have HB4 := Aside0.mk (below_step HB3.out hb); obtain ⟨z0, z1, z2, z3, z4, z5, z6, z7⟩ := box29 (blk_below BK3.out hb); clear hb)
    | (go_at_call 30; (with_reducible refine (HCf.out _ HB4.out).mono ?_); rintro e w8 ⟨rfl, hb⟩; have HB8 := Aside0.mk (below_step HB4.out hb); clear hb)
    | (go_at_call 18; (with_reducible refine (HW.out _ HB8.out).mono ?_); rintro e w9 ⟨rfl, hb⟩; have HB9 := Aside0.mk (below_step HB8.out hb); clear hb))
  go_ret
  exact ⟨rfl, HB9.out⟩
set_option maxHeartbeats 8000000 in
set_option maxRecDepth 100000 in
theorem fields_5in (k : Int) (name : ByteArray) (f lang out dst mat : Int) (body : ByteArray) (which v n : Int) (w : World) (hT : Tabs w) (h1 : body.size ≤ 100) (h2 : name.size ≤ 100) (hok : (AskV.mk k name f lang out dst mat body).ok = true)
    (hm : erratumlaw00_Place.f which 6 = some 5) (hr : erratumlaw00_Place.f v 9 = some (n + 2)) (n0 : -2 ≤ n) (n1 : n ≤ 6) (hin : (AskV.mk k name f lang out dst n body).ok = true) (hlo : 0 ≤ n) (hhi : n ≤ 2147483647) :
    Calls Tryd.prog 8 #[.agg #[.int .i64 k, .string name, .int .i64 f, .int .i64 lang, .int .i64 out, .int .i64 dst, .int .i64 mat, .string body], .int .i64 which, .int .i64 v] w fun e w' => e = .returned (.bool true) ∧ Below w.heap.size w w' := by
  have HP1 := Aside0.mk (fun w1 => erratumlaw00_Place.calls v 9 (n + 2) w1 hr)
  have HP2 := Aside0.mk (fun w1 => erratumlaw00_Place.calls which 6 5 w1 hm)
  have HCk := Aside0.mk (fun w1 => refCheck_calls ⟨k, name, f, lang, out, dst, mat, body⟩ (by show name.size ≤ _; omega) w1)
  rw [hok] at HCk
  have HW := Aside0.mk (fun w1 (h : Below w.heap.size w w1) => frame_awake_calls w1 (tabs_below hT h))
  have HC := Aside0.mk (fun w1 (h : Below w.heap.size w w1) => put_get ⟨k, name, f, lang, out, dst, n, body⟩ w1 (tabs_below hT h) hin)
  have HSa := Aside0.mk (fun w1 => same_refl ⟨k, name, f, lang, out, dst, n, body⟩ w1)
  have HCf := Aside0.mk (fun w1 (h : Below w.heap.size w w1) => check_calls ⟨k, name, f, lang, out, dst, n, body⟩ w1 (tabs_below hT h) (by show name.size ≤ _; omega) (by show body.size ≤ _; omega))
  rw [hin] at HCf
  simp only [AskV.cells] at HC HCf HCk HSa
  have d1 : decide ((100 : Int) < (body.size : Int)) = false := decide_eq_false (by omega)
  have d2 : decide ((100 : Int) < (name.size : Int)) = false := decide_eq_false (by omega)
  have b1 : decide ((0 : Int) ≤ n) = true := decide_eq_true hlo
  have b2 : decide (n ≤ (2147483647 : Int)) = true := decide_eq_true hhi
  have b3 : decide (n ≥ (0 : Int)) = true := decide_eq_true hlo
  have HB0 := Aside0.mk (below_alloc (Below.refl w.heap.size w) (.cells #[.int .i64 k, .string name, .int .i64 f, .int .i64 lang, .int .i64 out, .int .i64 dst, .int .i64 mat, .string body] 29))
  have BK0 := Aside0.mk (heap_new w (.cells #[.int .i64 k, .string name, .int .i64 f, .int .i64 lang, .int .i64 out, .int .i64 dst, .int .i64 mat, .string body] 29))
  clear hm hr hok h1 h2 hT hin
  go_enter Tryd.func8, Tryd.ntmps8
  go_upto_region 18 with (first
    | (go_at_call 29; (with_reducible refine (HCk.out _).mono ?_); rintro e w1 ⟨rfl, hb⟩; have HB1 := Aside0.mk (below_step HB0.out hb); have BK1 := Aside0.mk (blk_below BK0.out hb); clear hb)
    | (go_at_call 16; (with_reducible refine (HP1.out _).mono ?_); rintro e w2 ⟨rfl, hd⟩; have HB2 := Aside0.mk (below_step HB1.out hd.below); have BK2 := Aside0.mk (blk_below BK1.out hd.below); clear hd)
    | (go_at_call 16; (with_reducible refine (HP2.out _).mono ?_); rintro e w3 ⟨rfl, hd⟩; have HB3 := Aside0.mk ((below_step HB2.out hd.below).setCell (p := ⟨w.heap.size, 6, none⟩) (Nat.le_refl _) (.int .i64 n)); have bk3 := blk_below BK2.out hd.below; have BK3 := Aside0.mk (show (w3.setCell ⟨w.heap.size, 6, none⟩ (.int .i64 n)).heap[w.heap.size]? = some (.cells #[.int .i64 k, .string name, .int .i64 f, .int .i64 lang, .int .i64 out, .int .i64 dst, .int .i64 n, .string body] 29 (0, 0)) from blk_set bk3 6 (.int .i64 n)); obtain ⟨c0, c1, c2, c3, c4, c5, c6, c7⟩ := box29 bk3; obtain ⟨f0, f2, f3, f4, f5, f6⟩ := box29w bk3; clear hd))
  clear c0 c1 c2 c3 c4 c5 c6 c7 f0 f2 f3 f4 f5 f6 bk3
  generalize w3.setCell ⟨w.heap.size, 6, none⟩ (.int .i64 n) = w3 at *
  obtain ⟨c0, c1, c2, c3, c4, c5, c6, c7⟩ := box29 BK3.out
  go_upto_region 22 with (first
    | (go_at_call 19; (with_reducible refine (HC.out _ HB3.out).mono ?_); rintro e w4 ⟨g, N, cap, rfl, hN, hle, hC, hb, hget⟩; have HGet := Aside0.mk (hget _ (Below.refl _ _)); have HB4 := Aside0.mk (below_step HB3.out hb); have BK4 := Aside0.mk (blk_below BK3.out hb); clear hN hle hC hb hget)
    | (go_at_call 31; (with_reducible refine HGet.out.mono ?_); rintro e w5 ⟨rfl, hb⟩; have HB5 := Aside0.mk (below_step HB4.out hb); have BK5 := Aside0.mk (blk_below BK4.out hb); clear hb))
  clear c0 c1 c2 c3 c4 c5 c6 c7 b1 b2 b3 d1 d2 hlo hhi n0 n1 HC HGet HCk HP1 HP2 HB4 HB3 HB2 HB1 HB0 BK0 BK1 BK2 BK3 BK4
  have HB6 := Aside0.mk (below_alloc HB5.out (.cells #[.int .i64 k, .string name, .int .i64 f, .int .i64 lang, .int .i64 out, .int .i64 dst, .int .i64 n, .string body] 29))
  have BK6 := Aside0.mk (blk_alloc BK5.out (.cells #[.int .i64 k, .string name, .int .i64 f, .int .i64 lang, .int .i64 out, .int .i64 dst, .int .i64 n, .string body] 29))
  have BN6 := Aside0.mk (blk_new w5 (.cells #[.int .i64 k, .string name, .int .i64 f, .int .i64 lang, .int .i64 out, .int .i64 dst, .int .i64 n, .string body] 29))
  clear HB5 BK5
  generalize w5.alloc (.cells #[.int .i64 k, .string name, .int .i64 f, .int .i64 lang, .int .i64 out, .int .i64 dst, .int .i64 n, .string body] 29) = w6 at HB6 BK6 BN6 ⊢
  generalize w5.heap.size = gn at BN6 ⊢
  obtain ⟨c0, c1, c2, c3, c4, c5, c6, c7⟩ := box29 BK6.out
  obtain ⟨x0, x1, x2, x3, x4, x5, x6, x7⟩ := box29 BN6.out
  go_wp2_with (first
    | (go_at_call 32; (with_reducible refine (HSa.out _).mono ?_); rintro e w7 ⟨rfl, hb⟩; have HB7 := Aside0.mk (below_step HB6.out hb); obtain ⟨z0, z1, z2, z3, z4, z5, z6, z7⟩ := box29 (blk_below BK6.out hb); clear hb)
    | (go_at_call 30; (with_reducible refine (HCf.out _ HB7.out).mono ?_); rintro e w8 ⟨rfl, hb⟩; have HB8 := Aside0.mk (below_step HB7.out hb); clear hb)
    | (go_at_call 18; (with_reducible refine (HW.out _ HB8.out).mono ?_); rintro e w9 ⟨rfl, hb⟩; have HB9 := Aside0.mk (below_step HB8.out hb); clear hb))
  go_ret
  exact ⟨rfl, HB9.out⟩
set_option maxHeartbeats 8000000 in
set_option maxRecDepth 100000 in
theorem fields_5lo (k : Int) (name : ByteArray) (f lang out dst mat : Int) (body : ByteArray) (which v n : Int) (w : World) (hT : Tabs w) (h1 : body.size ≤ 100) (h2 : name.size ≤ 100) (hok : (AskV.mk k name f lang out dst mat body).ok = true)
    (hm : erratumlaw00_Place.f which 6 = some 5) (hr : erratumlaw00_Place.f v 9 = some (n + 2)) (n0 : -2 ≤ n) (n1 : n ≤ 6) (hin : (AskV.mk k name f lang out dst n body).ok = false) (hlo : n < 0) :
    Calls Tryd.prog 8 #[.agg #[.int .i64 k, .string name, .int .i64 f, .int .i64 lang, .int .i64 out, .int .i64 dst, .int .i64 mat, .string body], .int .i64 which, .int .i64 v] w fun e w' => e = .returned (.bool true) ∧ Below w.heap.size w w' := by
  have HP1 := Aside0.mk (fun w1 => erratumlaw00_Place.calls v 9 (n + 2) w1 hr)
  have HP2 := Aside0.mk (fun w1 => erratumlaw00_Place.calls which 6 5 w1 hm)
  have HCk := Aside0.mk (fun w1 => refCheck_calls ⟨k, name, f, lang, out, dst, mat, body⟩ (by show name.size ≤ _; omega) w1)
  rw [hok] at HCk
  have HW := Aside0.mk (fun w1 (h : Below w.heap.size w w1) => frame_awake_calls w1 (tabs_below hT h))
  have HC := Aside0.mk (fun w1 (h : Below w.heap.size w w1) => put_no ⟨k, name, f, lang, out, dst, n, body⟩ w1 (tabs_below hT h) (by show name.size ≤ _; omega) (by show body.size ≤ _; omega) hin)
  have HCf := Aside0.mk (fun w1 (h : Below w.heap.size w w1) => check_calls ⟨k, name, f, lang, out, dst, n, body⟩ w1 (tabs_below hT h) (by show name.size ≤ _; omega) (by show body.size ≤ _; omega))
  rw [hin] at HCf
  simp only [AskV.cells] at HC HCf HCk
  have d1 : decide ((100 : Int) < (body.size : Int)) = false := decide_eq_false (by omega)
  have d2 : decide ((100 : Int) < (name.size : Int)) = false := decide_eq_false (by omega)
  have b1 : decide ((0 : Int) ≤ n) = false := decide_eq_false (by omega)
  have b3 : decide (n ≥ (0 : Int)) = false := decide_eq_false (by omega)
  have HB0 := Aside0.mk (below_alloc (Below.refl w.heap.size w) (.cells #[.int .i64 k, .string name, .int .i64 f, .int .i64 lang, .int .i64 out, .int .i64 dst, .int .i64 mat, .string body] 29))
  have BK0 := Aside0.mk (heap_new w (.cells #[.int .i64 k, .string name, .int .i64 f, .int .i64 lang, .int .i64 out, .int .i64 dst, .int .i64 mat, .string body] 29))
  clear hm hr hok h1 h2 hT hin
  go_enter Tryd.func8, Tryd.ntmps8
  go_upto_region 18 with (first
    | (go_at_call 29; (with_reducible refine (HCk.out _).mono ?_); rintro e w1 ⟨rfl, hb⟩; have HB1 := Aside0.mk (below_step HB0.out hb); have BK1 := Aside0.mk (blk_below BK0.out hb); clear hb)
    | (go_at_call 16; (with_reducible refine (HP1.out _).mono ?_); rintro e w2 ⟨rfl, hd⟩; have HB2 := Aside0.mk (below_step HB1.out hd.below); have BK2 := Aside0.mk (blk_below BK1.out hd.below); clear hd)
    | (go_at_call 16; (with_reducible refine (HP2.out _).mono ?_); rintro e w3 ⟨rfl, hd⟩; have HB3 := Aside0.mk ((below_step HB2.out hd.below).setCell (p := ⟨w.heap.size, 6, none⟩) (Nat.le_refl _) (.int .i64 n)); have bk3 := blk_below BK2.out hd.below; have BK3 := Aside0.mk (show (w3.setCell ⟨w.heap.size, 6, none⟩ (.int .i64 n)).heap[w.heap.size]? = some (.cells #[.int .i64 k, .string name, .int .i64 f, .int .i64 lang, .int .i64 out, .int .i64 dst, .int .i64 n, .string body] 29 (0, 0)) from blk_set bk3 6 (.int .i64 n)); obtain ⟨c0, c1, c2, c3, c4, c5, c6, c7⟩ := box29 bk3; obtain ⟨f0, f2, f3, f4, f5, f6⟩ := box29w bk3; clear hd))
  clear c0 c1 c2 c3 c4 c5 c6 c7 f0 f2 f3 f4 f5 f6 bk3
  generalize w3.setCell ⟨w.heap.size, 6, none⟩ (.int .i64 n) = w3 at *
  obtain ⟨c0, c1, c2, c3, c4, c5, c6, c7⟩ := box29 BK3.out
  go_wp2_with (first
    | (go_at_call 19; (with_reducible refine (HC.out _ HB3.out).mono ?_); rintro e w4 ⟨rfl, hb⟩; have HB4 := Aside0.mk (below_step HB3.out hb); obtain ⟨z0, z1, z2, z3, z4, z5, z6, z7⟩ := box29 (blk_below BK3.out hb); clear hb)
    | (go_at_call 30; (with_reducible refine (HCf.out _ HB4.out).mono ?_); rintro e w8 ⟨rfl, hb⟩; have HB8 := Aside0.mk (below_step HB4.out hb); clear hb)
    | (go_at_call 18; (with_reducible refine (HW.out _ HB8.out).mono ?_); rintro e w9 ⟨rfl, hb⟩; have HB9 := Aside0.mk (below_step HB8.out hb); clear hb))
  go_ret
  exact ⟨rfl, HB9.out⟩
theorem fields_in (q : AskV) (which v : Int) (w : World) (hT : Tabs w) (h1 : q.body.size ≤ 100) (h2 : q.name.size ≤ 100) (hok : q.ok = true) :
    Calls Tryd.prog 8 #[.agg q.cells, .int .i64 which, .int .i64 v] w fun e w' => e = .returned (.bool true) ∧ Below w.heap.size w w' := by
  obtain ⟨m, hm, m0, m1⟩ := xplace_w which 6 (by decide) (by decide)
  obtain ⟨r, hr, r0, r1⟩ := xplace_w v 9 (by decide) (by decide)
  obtain ⟨n, rfl⟩ : ∃ n, r = n + 2 := ⟨r - 2, by omega⟩
  have hto := turn_ok q m n hok
  obtain ⟨k, name, f, lang, out, dst, mat, body⟩ := q
  have n0 : -2 ≤ n := by omega
  have n1 : n ≤ 6 := by omega
  have hin : ∀ lo hi : Int, lo ≤ n → n ≤ hi → inB n lo hi = true := fun lo hi a b => (inB_iff n lo hi).2 ⟨a, b⟩
  have hlo : ∀ lo hi : Int, n < lo → inB n lo hi = false := fun lo hi a => by
    cases h : inB n lo hi
    · rfl
    · have := (inB_iff n lo hi).1 h; omega
  have hhi : ∀ lo hi : Int, hi < n → inB n lo hi = false := fun lo hi a => by
    cases h : inB n lo hi
    · rfl
    · have := (inB_iff n lo hi).1 h; omega
  have hmm : m = 0 ∨ m = 1 ∨ m = 2 ∨ m = 3 ∨ m = 4 ∨ m = 5 := by omega
  clear m0 m1 r0 r1
  rcases hmm with rfl | rfl | rfl | rfl | rfl | rfl
  · have e : (AskV.mk n name f lang out dst mat body).ok = inB n 1 6 := hto
    by_cases a : n < 1
    · exact fields_0lo k name f lang out dst mat body which v n w hT h1 h2 hok hm hr n0 n1 (e.trans (hlo 1 6 a)) a
    · exact fields_0in k name f lang out dst mat body which v n w hT h1 h2 hok hm hr n0 n1 (e.trans (hin 1 6 (by omega) n1)) (by omega) n1
  · have e : (AskV.mk k name n lang out dst mat body).ok = inB n 0 3 := hto
    by_cases a : n < 0
    · exact fields_1lo k name f lang out dst mat body which v n w hT h1 h2 hok hm hr n0 n1 (e.trans (hlo 0 3 a)) a
    by_cases b : n ≤ 3
    · exact fields_1in k name f lang out dst mat body which v n w hT h1 h2 hok hm hr n0 n1 (e.trans (hin 0 3 (by omega) b)) (by omega) b
    · exact fields_1hi k name f lang out dst mat body which v n w hT h1 h2 hok hm hr n0 n1 (e.trans (hhi 0 3 (by omega))) (by omega) (by omega)
  · have e : (AskV.mk k name f lang n dst mat body).ok = inB n 0 3 := hto
    by_cases a : n < 0
    · exact fields_2lo k name f lang out dst mat body which v n w hT h1 h2 hok hm hr n0 n1 (e.trans (hlo 0 3 a)) a
    by_cases b : n ≤ 3
    · exact fields_2in k name f lang out dst mat body which v n w hT h1 h2 hok hm hr n0 n1 (e.trans (hin 0 3 (by omega) b)) (by omega) b
    · exact fields_2hi k name f lang out dst mat body which v n w hT h1 h2 hok hm hr n0 n1 (e.trans (hhi 0 3 (by omega))) (by omega) (by omega)
  · have e : (AskV.mk k name f n out dst mat body).ok = inB n 0 3 := hto
    by_cases a : n < 0
    · exact fields_3lo k name f lang out dst mat body which v n w hT h1 h2 hok hm hr n0 n1 (e.trans (hlo 0 3 a)) a
    by_cases b : n ≤ 3
    · exact fields_3in k name f lang out dst mat body which v n w hT h1 h2 hok hm hr n0 n1 (e.trans (hin 0 3 (by omega) b)) (by omega) b
    · exact fields_3hi k name f lang out dst mat body which v n w hT h1 h2 hok hm hr n0 n1 (e.trans (hhi 0 3 (by omega))) (by omega) (by omega)
  · have e : (AskV.mk k name f lang out n mat body).ok = inB n 0 3 := hto
    by_cases a : n < 0
    · exact fields_4lo k name f lang out dst mat body which v n w hT h1 h2 hok hm hr n0 n1 (e.trans (hlo 0 3 a)) a
    by_cases b : n ≤ 3
    · exact fields_4in k name f lang out dst mat body which v n w hT h1 h2 hok hm hr n0 n1 (e.trans (hin 0 3 (by omega) b)) (by omega) b
    · exact fields_4hi k name f lang out dst mat body which v n w hT h1 h2 hok hm hr n0 n1 (e.trans (hhi 0 3 (by omega))) (by omega) (by omega)
  · have e : (AskV.mk k name f lang out dst n body).ok = inB n 0 2147483647 := hto
    by_cases a : n < 0
    · exact fields_5lo k name f lang out dst mat body which v n w hT h1 h2 hok hm hr n0 n1 (e.trans (hlo 0 2147483647 a)) a
    · exact fields_5in k name f lang out dst mat body which v n w hT h1 h2 hok hm hr n0 n1 (e.trans (hin 0 2147483647 (by omega) (by omega))) (by omega) (by omega)
set_option maxHeartbeats 8000000 in
set_option maxRecDepth 100000 in
theorem fields_out (q : AskV) (which v : Int) (w : World) (hT : Tabs w) (h : 100 < q.body.size ∨ q.body.size ≤ 100 ∧ 100 < q.name.size) :
    Calls Tryd.prog 8 #[.agg q.cells, .int .i64 which, .int .i64 v] w fun e w' => e = .returned (.bool true) ∧ Below w.heap.size w w' := by
  obtain ⟨k, name, f, lang, out, dst, mat, body⟩ := q
  simp only [AskV.cells] at *
  have HB0 := Aside0.mk (below_alloc (Below.refl w.heap.size w) (.cells #[.int .i64 k, .string name, .int .i64 f, .int .i64 lang, .int .i64 out, .int .i64 dst, .int .i64 mat, .string body] 29))
  have HW := Aside0.mk (fun w1 (h : Below w.heap.size w w1) => frame_awake_calls w1 (tabs_below hT h))
  clear hT
  have hc : (decide ((100 : Int) < (body.size : Int)) = true) ∨ (decide ((100 : Int) < (body.size : Int)) = false ∧ decide ((100 : Int) < (name.size : Int)) = true) := by
    simp only [decide_eq_true_iff, decide_eq_false_iff_not]
    omega
  clear h
  rcases hc with d1 | ⟨d1, d2⟩
  all_goals
    go_enter Tryd.func8, Tryd.ntmps8
    go_wp2_with (go_at_call 18; (with_reducible refine (HW.out _ HB0.out).mono ?_); rintro e7 w7 ⟨rfl, hb⟩; have HB7 := Aside0.mk (below_step HB0.out hb); clear hb)
    go_ret
    exact ⟨rfl, HB7.out⟩
set_option maxHeartbeats 8000000 in
set_option maxRecDepth 100000 in
theorem fields_no (q : AskV) (which v : Int) (w : World) (hT : Tabs w) (h1 : q.body.size ≤ 100) (h2 : q.name.size ≤ 100) (hok : q.ok = false) :
    Calls Tryd.prog 8 #[.agg q.cells, .int .i64 which, .int .i64 v] w fun e w' => e = .returned (.bool true) ∧ Below w.heap.size w w' := by
  have HCk := Aside0.mk (fun w1 => refCheck_calls q (by omega) w1)
  rw [hok] at HCk
  obtain ⟨k, name, f, lang, out, dst, mat, body⟩ := q
  simp only [AskV.cells] at *
  have HB0 := Aside0.mk (below_alloc (Below.refl w.heap.size w) (.cells #[.int .i64 k, .string name, .int .i64 f, .int .i64 lang, .int .i64 out, .int .i64 dst, .int .i64 mat, .string body] 29))
  have HW := Aside0.mk (fun w1 (h : Below w.heap.size w w1) => frame_awake_calls w1 (tabs_below hT h))
  have d1 : decide ((100 : Int) < (body.size : Int)) = false := decide_eq_false (by omega)
  have d2 : decide ((100 : Int) < (name.size : Int)) = false := decide_eq_false (by omega)
  clear hT hok h1 h2
  go_enter Tryd.func8, Tryd.ntmps8
  go_wp2_with (first
    | (go_at_call 29; (with_reducible refine (HCk.out _).mono ?_); rintro e w1 ⟨rfl, hb⟩; have HB1 := Aside0.mk (below_step HB0.out hb); clear hb)
    | (go_at_call 18; (with_reducible refine (HW.out _ HB1.out).mono ?_); rintro e7 w7 ⟨rfl, hb⟩; have HB7 := Aside0.mk (below_step HB1.out hb); clear hb))
  go_ret
  exact ⟨rfl, HB7.out⟩
/-- FrameFields answers true at every input. -/
theorem fields_all (q : AskV) (which v : Int) (w : World) (hT : Tabs w) :
    Calls Tryd.prog 8 #[.agg q.cells, .int .i64 which, .int .i64 v] w fun e w' => e = .returned (.bool true) ∧ Below w.heap.size w w' := by
  by_cases h : 100 < q.body.size ∨ q.body.size ≤ 100 ∧ 100 < q.name.size
  · exact fields_out q which v w hT h
  · cases hok : q.ok
    · exact fields_no q which v w hT (by omega) (by omega) hok
    · exact fields_in q which v w hT (by omega) (by omega) hok
end Go.Proofs.YtpamgedmgjfjjaaDoor.M
