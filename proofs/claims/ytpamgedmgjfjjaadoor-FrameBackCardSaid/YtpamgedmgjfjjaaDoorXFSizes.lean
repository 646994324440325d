/-
The walk of FrameSizes.
-/
import Derived.Test.YtpamgedmgjfjjaaDoorXFAwake
namespace Go.Proofs.YtpamgedmgjfjjaaDoor.M
open Go.RowKit Go.Proofs.YtpamgedmgjfjjaaDoorW.PrintWords Go.Proofs.YtpamgedmgjfjjaaDoorW.PrintLast Go.Proofs.YtpamgedmgjfjjaaDoorW.PrintMore
set_option linter.unusedVariables false
set_option linter.unusedSimpArgs false
theorem ba_eq' (a b : ByteArray) (h : a.data.toList = b.data.toList) : a = b := by
  cases a with
  | mk x => cases b with
    | mk y =>
      congr 1
      exact Array.toList_inj.1 h
theorem AskV.put_len (q : AskV) : q.put.length = 14 + q.name.size + q.body.size := by
  simp only [AskV.put, AskV.head, List.length_append, bytesOf_length, fourL_len, List.length_cons, List.length_nil]
  omega
theorem AskV.ok_bounds (q : AskV) (h : q.ok = true) : 1 ≤ q.k ∧ q.k ≤ 6 ∧ 1 ≤ q.name.size ∧ q.name.size ≤ 40 ∧ 0 ≤ q.f ∧ q.f ≤ 3 ∧ 0 ≤ q.out ∧ q.out ≤ 3 ∧ 0 ≤ q.lang ∧ q.lang ≤ 3 ∧ 0 ≤ q.dst ∧ q.dst ≤ 3 ∧ 0 ≤ q.mat ∧ q.mat ≤ 2147483647 ∧ q.body.size ≤ 32768 := by
  simp only [AskV.ok, inB, Bool.and_eq_true, decide_eq_true_eq] at h
  omega
/-- What is known of the bytes of a request: a slice, its cells, its two texts. -/
structure PutIs (q : AskV) (w : World) (g cap N : Nat) : Prop where
  len : (N : Int) = 14 + (q.name.size : Int) + (q.body.size : Int)
  le : N ≤ cap
  n15 : 15 ≤ N
  ne : ((N : Int) != 14 + (q.name.size : Int) + (q.body.size : Int)) = false
  c0 : w.cell? ⟨g, 0, none⟩ = some (.int .u8 q.k)
  c1 : w.cell? ⟨g, 1, none⟩ = some (.int .u8 q.f)
  c2 : w.cell? ⟨g, 2, none⟩ = some (.int .u8 q.lang)
  c3 : w.cell? ⟨g, 3, none⟩ = some (.int .u8 q.out)
  c4 : w.cell? ⟨g, 4, none⟩ = some (.int .u8 q.dst)
  c5 : w.cell? ⟨g, 5, none⟩ = some (.int .u8 q.name.size)
  all : (Kd.int .u8).C w (some ⟨g, 0, none⟩) q.put.length q.put
theorem rd_lit (a b : List Int) (i : Nat) (h : i < a.length) : rd (a ++ b) (i : Int) = a.getD i 0 := by
  unfold rd
  rw [Int.toNat_natCast]
  simp [List.getD_eq_getElem?_getD, List.getElem?_append_left h]
theorem putted (q : AskV) (w w' : World) (v : Value) (hok : q.ok = true) (hown : w'.ownsRow w.heap.size 5 1 v q.put.length (nums .u8 q.put)) :
    ∃ g cap N, v = .slice (some ⟨g, 0, none⟩) N cap ∧ PutIs q w' g cap N ∧ w.heap.size ≤ g ∧ N = q.put.length := by
  have hl := q.put_len
  have hb := q.ok_bounds hok
  obtain ⟨A, c, hv, hR⟩ := own_reads hown
  have hC : (Kd.int .u8).C w' A q.put.length q.put := Kd.C_of_reads (d := 0) (h1 := fun _ => rfl) hR
  have hcap : ∃ g cap, v = .slice (some ⟨g, 0, none⟩) q.put.length cap ∧ q.put.length ≤ cap ∧ w.heap.size ≤ g := by
    rcases hown.2 with ⟨_, h0⟩ | ⟨g, cap, cur, hv, hbg, _, hnc, _⟩
    · omega
    · exact ⟨g, cap, hv, hnc, hbg⟩
  obtain ⟨g, cap, hv2, hle, hbg⟩ := hcap
  rw [hv] at hv2
  injection hv2 with e1 e2 e3
  subst e1
  have at_ : ∀ i : Nat, i < 6 → w'.cell? ⟨g, i, none⟩ = some (.int .u8 (q.head.getD i 0)) := by
    intro i hi
    obtain ⟨ad, ea, hc⟩ := Kd.at_int hC (i : Int) (by omega) (by omega)
    cases ea
    rw [Int.toNat_natCast, add_plain] at hc
    rw [hc]
    have : q.put = q.head ++ (bytesOf q.name ++ fourL q.mat ++ fourL q.body.size ++ bytesOf q.body) := by simp [AskV.put]
    rw [this, rd_lit _ _ i (by simp [AskV.head]; omega)]
  refine ⟨g, cap, q.put.length, by rw [hv, e3], ⟨by omega, hle, by omega, bne_eq_false_iff_eq.2 (by omega), ?_, ?_, ?_, ?_, ?_, ?_, hC⟩, hbg, rfl⟩
  · rw [at_ 0 (by decide)]; simp only [AskV.head, List.getD_cons_zero]; rw [Int.emod_eq_of_lt (by omega) (by omega)]
  · rw [at_ 1 (by decide)]; simp only [AskV.head, List.getD_cons_zero, List.getD_cons_succ]; rw [Int.emod_eq_of_lt (by omega) (by omega)]
  · rw [at_ 2 (by decide)]; simp only [AskV.head, List.getD_cons_zero, List.getD_cons_succ]; rw [Int.emod_eq_of_lt (by omega) (by omega)]
  · rw [at_ 3 (by decide)]; simp only [AskV.head, List.getD_cons_zero, List.getD_cons_succ]; rw [Int.emod_eq_of_lt (by omega) (by omega)]
  · rw [at_ 4 (by decide)]; simp only [AskV.head, List.getD_cons_zero, List.getD_cons_succ]; rw [Int.emod_eq_of_lt (by omega) (by omega)]
  · rw [at_ 5 (by decide)]; rfl
theorem heap_new1 (w : World) (o o' : Obj) : ((w.alloc o).alloc o').heap[w.heap.size + 1]? = some o' := by
  have h := heap_new (w.alloc o) o'
  rwa [show (w.alloc o).heap.size = w.heap.size + 1 from Array.size_push ..] at h
theorem str_bytesOf (s : ByteArray) : strOfNums (bytesOf s) = s := by
  apply ba_eq'
  rw [strOfNums_data, bytesOf, List.map_map]
  have : ((fun n : Int => UInt8.ofNat n.toNat) ∘ fun b : UInt8 => (b.toNat : Int)) = id := by
    funext b
    simp
  rw [this, List.map_id]
theorem size33 : (Tryd.prog.info? 5).map (·.size) = some 1 := by kernel_rfl
theorem AskV.cut_name (q : AskV) : (q.put.take (6 + q.name.size)).drop 6 = bytesOf q.name := by
  have h6 : q.head.length = 6 := rfl
  have : q.put = q.head ++ (bytesOf q.name ++ (fourL q.mat ++ fourL q.body.size ++ bytesOf q.body)) := by simp [AskV.put]
  rw [this, ← h6, List.take_append, List.take_of_length_le (by omega), List.drop_append_of_le_length (by omega), List.drop_length, List.nil_append, Nat.add_sub_cancel_left, ← bytesOf_length, List.take_left]
theorem AskV.cut_body (q : AskV) : q.put.drop (14 + q.name.size) = bytesOf q.body := by
  have h6 : (q.head ++ bytesOf q.name ++ fourL q.mat ++ fourL q.body.size).length = 14 + q.name.size := by
    simp only [List.length_append, bytesOf_length, fourL_len, show q.head.length = 6 from rfl]
    omega
  rw [AskV.put, ← h6, List.drop_left]
/-- The two texts, read out of a request's bytes. -/
theorem PutIs.cuts {q : AskV} {w : World} {g cap N : Nat} (h : PutIs q w g cap N) :
    (∃ A c, (∀ W : World, (Instr.slice 33 (.slice (some ⟨g, 0, none⟩) N cap) (some (.int .i64 6)) (some (.int .i64 (6 + (q.name.size : Int)))) none).run Tryd.prog W = .ok (.slice A q.name.size c) W) ∧
      ∀ n, (convert 33 9 (.slice A q.name.size c)).run Tryd.prog (w.drewN n) = .ok (.string q.name) (w.drewN n)) ∧
    (∃ A m c, (∀ W : World, (Instr.slice 33 (.slice (some ⟨g, 0, none⟩) N cap) (some (.int .i64 (14 + (q.name.size : Int)))) none none).run Tryd.prog W = .ok (.slice A m c) W) ∧
      ∀ n, (convert 33 9 (.slice A m c)).run Tryd.prog (w.drewN n) = .ok (.string q.body) (w.drewN n)) := by
  obtain ⟨i, hi, hsz⟩ := Option.map_eq_some_iff.1 size33
  have hl := q.put_len
  have hN : N = q.put.length := by have := h.len; omega
  have hle : q.put.length ≤ cap := by rw [← hN]; exact h.le
  subst hN
  refine ⟨?_, ?_⟩
  · refine ⟨if cap = 6 then some ⟨g, 0, none⟩ else (some ⟨g, 0, none⟩ : Option Addr).map (·.add (6 * 1)), cap - 6, fun W => ?_, fun n => ?_⟩
    · have hm := cut_mid (P := Tryd.prog) 33 5 .i64 .i64 Tryd.underlying33 hi 1 hsz (some ⟨g, 0, none⟩) q.put.length cap 6 (6 + (q.name.size : Int)) (by omega) (by omega) (by omega) hle W
      rw [show ((6 + (q.name.size : Int)).toNat - (6 : Int).toNat) = q.name.size by omega] at hm
      exact hm
    · have hc := Kd.C_mid (lo := 6) (hi := 6 + q.name.size) (c := cap) h.all (by omega) (by omega) hle
      rw [q.cut_name, bytesOf_length] at hc
      have hd := Kd.C_string (c := cap - 6) Tryd.underlying33 Tryd.underlying5 Tryd.underlying9 (Kd.C_below hc (pw_below_drewN (Below.refl _ _) n))
      rw [str_bytesOf] at hd
      exact hd
  · refine ⟨if cap = 14 + q.name.size then some ⟨g, 0, none⟩ else (some ⟨g, 0, none⟩ : Option Addr).map (·.add ((14 + q.name.size) * 1)), q.put.length - (14 + q.name.size), cap - (14 + q.name.size), fun W => ?_, fun n => ?_⟩
    · have hm := cut_from (P := Tryd.prog) 33 5 .i64 Tryd.underlying33 hi 1 hsz (some ⟨g, 0, none⟩) q.put.length cap (14 + (q.name.size : Int)) (by omega) (by omega) W
      rw [show (14 + (q.name.size : Int)).toNat = 14 + q.name.size by omega] at hm
      exact hm
    · have hc := Kd.C_drop (m := 14 + q.name.size) (c := cap) h.all (by omega) hle
      rw [q.cut_body] at hc
      have hd := Kd.C_string (c := cap - (14 + q.name.size)) Tryd.underlying33 Tryd.underlying5 Tryd.underlying9 (Kd.C_below hc (pw_below_drewN (Below.refl _ _) n))
      rw [str_bytesOf] at hd
      rw [show q.put.length - (14 + q.name.size) = (bytesOf q.body).length by rw [bytesOf_length]; omega]
      exact hd
theorem AnsV.put_len (x : AnsV) : x.put.length = 10 + x.body.size := by
  simp only [AnsV.put, List.length_append, bytesOf_length, fourL_len, List.length_cons, List.length_nil]
theorem AnsV.ok_bounds (x : AnsV) (h : x.ok = true) : 0 ≤ x.e ∧ x.e ≤ 11 ∧ -1 ≤ x.i ∧ x.i ≤ 254 ∧ 0 ≤ x.r ∧ x.r ≤ 2147483647 ∧ x.body.size ≤ 32768 := by
  simp only [AnsV.ok, inB, Bool.and_eq_true, decide_eq_true_eq] at h
  omega
theorem AnsV.cut_body (x : AnsV) : x.put.drop 10 = bytesOf x.body := by
  have h6 : ([x.e, x.i + 1] ++ fourL x.r ++ fourL x.body.size).length = 10 := rfl
  rw [AnsV.put, ← h6, List.drop_left]
/-- What is known of the bytes of an answer. -/
structure AnsIs (x : AnsV) (w : World) (g cap N : Nat) : Prop where
  len : (N : Int) = 10 + (x.body.size : Int)
  le : N ≤ cap
  n10 : 10 ≤ N
  ne : ((N : Int) != 10 + (x.body.size : Int)) = false
  c0 : w.cell? ⟨g, 0, none⟩ = some (.int .u8 x.e)
  c1 : w.cell? ⟨g, 1, none⟩ = some (.int .u8 (x.i + 1))
  all : (Kd.int .u8).C w (some ⟨g, 0, none⟩) x.put.length x.put
theorem puttedA (x : AnsV) (w w' : World) (v : Value) (hown : w'.ownsRow w.heap.size 5 1 v x.put.length (nums .u8 x.put)) :
    ∃ g cap N, v = .slice (some ⟨g, 0, none⟩) N cap ∧ AnsIs x w' g cap N ∧ w.heap.size ≤ g ∧ N = x.put.length := by
  have hl := x.put_len
  obtain ⟨A, c, hv, hR⟩ := own_reads hown
  have hC : (Kd.int .u8).C w' A x.put.length x.put := Kd.C_of_reads (d := 0) (h1 := fun _ => rfl) hR
  have hcap : ∃ g cap, v = .slice (some ⟨g, 0, none⟩) x.put.length cap ∧ x.put.length ≤ cap ∧ w.heap.size ≤ g := by
    rcases hown.2 with ⟨_, h0⟩ | ⟨g, cap, cur, hv, hbg, _, hnc, _⟩
    · omega
    · exact ⟨g, cap, hv, hnc, hbg⟩
  obtain ⟨g, cap, hv2, hle, hbg⟩ := hcap
  rw [hv] at hv2
  injection hv2 with e1 e2 e3
  subst e1
  have at_ : ∀ i : Nat, i < 2 → w'.cell? ⟨g, i, none⟩ = some (.int .u8 (([x.e, x.i + 1] : List Int).getD i 0)) := by
    intro i hi
    obtain ⟨ad, ea, hc⟩ := Kd.at_int hC (i : Int) (by omega) (by omega)
    cases ea
    rw [Int.toNat_natCast, add_plain] at hc
    rw [hc]
    have : x.put = [x.e, x.i + 1] ++ (fourL x.r ++ fourL x.body.size ++ bytesOf x.body) := by simp [AnsV.put]
    rw [this, rd_lit _ _ i (by simp; omega)]
  refine ⟨g, cap, x.put.length, by rw [hv, e3], ⟨by omega, hle, by omega, bne_eq_false_iff_eq.2 (by omega), ?_, ?_, hC⟩, hbg, rfl⟩
  · rw [at_ 0 (by decide)]; rfl
  · rw [at_ 1 (by decide)]; rfl
/-- The text, read out of an answer's bytes. -/
theorem AnsIs.cuts {x : AnsV} {w : World} {g cap N : Nat} (h : AnsIs x w g cap N) :
    ∃ A m c, (∀ W : World, (Instr.slice 33 (.slice (some ⟨g, 0, none⟩) N cap) (some (.int .i64 10)) none none).run Tryd.prog W = .ok (.slice A m c) W) ∧
      ∀ n, (convert 33 9 (.slice A m c)).run Tryd.prog (w.drewN n) = .ok (.string x.body) (w.drewN n) := by
  obtain ⟨i, hi, hsz⟩ := Option.map_eq_some_iff.1 size33
  have hl := x.put_len
  have hN : N = x.put.length := by have := h.len; omega
  have hle : x.put.length ≤ cap := by rw [← hN]; exact h.le
  subst hN
  refine ⟨if cap = 10 then some ⟨g, 0, none⟩ else (some ⟨g, 0, none⟩ : Option Addr).map (·.add (10 * 1)), x.put.length - 10, cap - 10, fun W => ?_, fun n => ?_⟩
  · exact cut_from (P := Tryd.prog) 33 5 .i64 Tryd.underlying33 hi 1 hsz (some ⟨g, 0, none⟩) x.put.length cap 10 (by omega) (by omega) W
  · have hc := Kd.C_drop (m := 10) (c := cap) h.all (by omega) hle
    rw [x.cut_body] at hc
    have hd := Kd.C_string (c := cap - 10) Tryd.underlying33 Tryd.underlying5 Tryd.underlying9 (Kd.C_below hc (pw_below_drewN (Below.refl _ _) n))
    rw [str_bytesOf] at hd
    rw [show x.put.length - 10 = (bytesOf x.body).length by rw [bytesOf_length]; omega]
    exact hd
theorem place_one (n : Nat) : erratumlaw00_Place.f (n : Int) 1 = some 0 := by
  unfold erratumlaw00_Place.f
  rw [if_neg (by decide), show Int.tmod (n : Int) 1 = 0 from Int.tmod_one _, if_neg (by decide)]
set_option maxHeartbeats 4000000 in
set_option maxRecDepth 100000 in
theorem sizes_in (q : AskV) (x : AnsV) (w : World) (hT : Tabs w) (h1 : q.body.size ≤ 3000) (h2 : q.name.size ≤ 500) (h3 : x.body.size ≤ 3000) (hok : q.ok = true) :
    Calls Tryd.prog 4 #[.agg q.cells, .agg x.cells] w fun e w' => e = .returned (.bool true) ∧ Below w.heap.size w w' := by
  have HC := Aside0.mk (fun w1 (h : Below w.heap.size w w1) => put_calls q w1 (tabs_below hT h) (by omega) (by omega) hok)
  have HPP := Aside0.mk (fun w1 w' v => putted q w1 w' v hok)
  have hbd := q.ok_bounds hok
  obtain ⟨k, name, f, lang, out, dst, mat, body⟩ := q
  obtain ⟨e, i, r, xb⟩ := x
  simp only [AskV.cells, AnsV.cells] at *
  have HB00 := Aside0.mk (below_alloc (Below.refl w.heap.size w) (.cells #[.int .i64 k, .string name, .int .i64 f, .int .i64 lang, .int .i64 out, .int .i64 dst, .int .i64 mat, .string body] 29))
  have BK00 := Aside0.mk (heap_new w (.cells #[.int .i64 k, .string name, .int .i64 f, .int .i64 lang, .int .i64 out, .int .i64 dst, .int .i64 mat, .string body] 29))
  have HB0 := Aside0.mk (below_alloc HB00.out (.cells #[.int .i64 e, .int .i64 i, .int .i64 r, .string xb] 32))
  have BK0 := Aside0.mk (blk_below BK00.out (below_alloc (Below.refl _ _) (.cells #[.int .i64 e, .int .i64 i, .int .i64 r, .string xb] 32)))
  have BX0 := Aside0.mk (heap_new1 w (.cells #[.int .i64 k, .string name, .int .i64 f, .int .i64 lang, .int .i64 out, .int .i64 dst, .int .i64 mat, .string body] 29) (.cells #[.int .i64 e, .int .i64 i, .int .i64 r, .string xb] 32))
  have d1 : decide ((3000 : Int) < (body.size : Int)) = false := decide_eq_false (by omega)
  have d2 : decide ((500 : Int) < (name.size : Int)) = false := decide_eq_false (by omega)
  have d3 : decide ((3000 : Int) < (xb.size : Int)) = false := decide_eq_false (by omega)
  have HPl := Aside0.mk (fun w1 => erratumlaw00_Place.calls (name.size : Int) 1 0 w1 (place_one name.size))
  have HW := Aside0.mk (fun w1 (h : Below w.heap.size w w1) => frame_awake_calls w1 (tabs_below hT h))
  clear hT hok
  go_enter Tryd.func4, Tryd.ntmps4
  go_wp2_with (first
    | (go_at_call 19; (with_reducible refine (HC.out _ HB0.out).mono ?_); rintro e1 w1 ⟨v, rfl, ho, hb⟩; have HB1 := Aside0.mk (below_step HB0.out hb); have BK1 := Aside0.mk (blk_below BK0.out hb); have BX1 := Aside0.mk (blk_below BX0.out hb); obtain ⟨g, cap, N, rfl, hPI, hbg, hNN⟩ := HPP.out _ _ _ ho; obtain ⟨⟨An, cn, hcn, hsn⟩, ⟨Ab, mb, cb, hcb, hsb⟩⟩ := hPI.cuts; dsimp only at hcn hsn hcb hsb; obtain ⟨hN, hle, hN0, hne, p0, p1, p2, p3, p4, p5, hall⟩ := hPI; dsimp only at hN hne p0 p1 p2 p3 p4 p5; obtain ⟨c0, c1, c2, c3, c4, c5, c6, c7⟩ := box29 BK1.out; clear hb ho hN hall hNN hbg c6))
  clear HC HPP HB00 BK00 HB0 BK0 BX0 d1 d2 d3
  obtain ⟨hk1, hk2, hn1, hn2, hf1, hf2, ho1, ho2, hl1, hl2, hd1, hd2, hm1, hm2, hb2⟩ := hbd
  clear hn1 hm1 hm2 h1 h2
  go_cut [118] from 37 to 118 (fun s118 wx => s118 = .bool false ∧ Aside0 (Below w1.heap.size w1 wx))
  case first =>
    refine wp_region_quiet_lit (by kernel_rfl) (by kernel_rfl) ?_
    simp only [List.append_eq, List.cons_append, List.nil_append]
    repeat (go_big_quiet_step (fail))
    refine wpQuiet_nil ?_
    intro _ hw'
    obtain ⟨nq, hw''⟩ := hw'
    subst hw''
    go_wp2_with fail
    go_meet
    exact ⟨rfl, ⟨pw_below_drewN (Below.refl _ _) _⟩⟩
  case rest =>
    obtain ⟨rfl, HBc⟩ := hcut
    clear p0 p1 p2 p3 p4 p5 c0 c1 c2 c3 c4 c5 c7 hcn hsn hcb hsb
    have HBt := Aside0.mk (below_step HB1.out HBc.out)
    have BKt := Aside0.mk (blk_below BK1.out HBc.out)
    have BXt := Aside0.mk (blk_below BX1.out HBc.out)
    clear HBc HB1 BK1 BX1
    cases hxo : (AnsV.mk e i r xb).ok with
    | false =>
      have HA := Aside0.mk (fun w1 => putAns_no ⟨e, i, r, xb⟩ w1 hxo)
      simp only [AnsV.cells] at HA
      obtain ⟨y0, y1, y2, y3⟩ := box32 BXt.out
      clear hxo
      go_wp2_with (first
        | (go_at_call 20; (with_reducible refine (HA.out _).mono ?_); rintro e5 w5 ⟨rfl, hb⟩; have HB5 := Aside0.mk (below_step HBt.out hb); have BK5 := Aside0.mk (blk_below BKt.out hb); obtain ⟨z0, z1, z2, z3, z4, z5, z6, z7⟩ := box29 BK5.out; clear hb y0 y1 y2 y3)
        | (go_at_call 16; (with_reducible refine (HPl.out _).mono ?_); rintro e6 w6 ⟨rfl, hd⟩; have HB6 := Aside0.mk (below_step HB5.out hd.below); clear hd)
        | (go_at_call 18; (with_reducible refine (HW.out _ HB6.out).mono ?_); rintro e7 w7 ⟨rfl, hb⟩; have HB7 := Aside0.mk (below_step HB6.out hb); clear hb))
      go_ret
      exact ⟨rfl, HB7.out⟩
    | true =>
      have HA := Aside0.mk (fun w1 => putAns_calls ⟨e, i, r, xb⟩ w1 hxo)
      have HAP := Aside0.mk (fun w1 w' v => puttedA ⟨e, i, r, xb⟩ w1 w' v)
      obtain ⟨xe1, xe2, xi1, xi2, xr1, xr2, xb2⟩ := (AnsV.mk e i r xb).ok_bounds hxo
      simp only [AnsV.cells] at HA xe1 xe2 xi1 xi2 xr1 xr2 xb2
      obtain ⟨y0, y1, y2, y3⟩ := box32 BXt.out
      clear hxo
      go_wp2_with (first
        | (go_at_call 20; (with_reducible refine (HA.out _).mono ?_); rintro e5 w5 ⟨v5, rfl, ho, hb⟩; have HB5 := Aside0.mk (below_step HBt.out hb); have BK5 := Aside0.mk (blk_below BKt.out hb); have BX5 := Aside0.mk (blk_below BXt.out hb); obtain ⟨ga, ca, Na, rfl, hAI, hbg, hNN⟩ := HAP.out _ _ _ ho; obtain ⟨Ay, my, cy, hcy, hsy⟩ := hAI.cuts; dsimp only at hcy hsy; obtain ⟨hN, hle5, hN5, hne5, q0, q1, hall⟩ := hAI; dsimp only at hN hne5 q0 q1; obtain ⟨z0, z1, z2, z3, z4, z5, z6, z7⟩ := box29 BK5.out; clear y0 y1 y2 y3; obtain ⟨y0, y1, y2, y3⟩ := box32 BX5.out; clear hb ho hN hall hNN hbg))
      clear HA HAP
      go_cut [159] from 126 to 159 (fun s159 wx => s159 = .bool false ∧ Aside0 (Below w5.heap.size w5 wx))
      case first =>
        go_quiet (fail)
        go_wp2_with fail
        go_meet
        exact ⟨rfl, ⟨pw_below_drewN (Below.refl _ _) _⟩⟩
      case rest =>
        obtain ⟨rfl, HBc5⟩ := hcut
        clear q0 q1 hcy hsy z0 z1 z2 z3 z4 z5 z6 z7 y0 y1 y2 y3
        obtain ⟨z0, z1, z2, z3, z4, z5, z6, z7⟩ := box29 (blk_below BK5.out HBc5.out)
        have HB8 := Aside0.mk (below_step HB5.out HBc5.out)
        go_wp2_with (first
          | (go_at_call 16; (with_reducible refine (HPl.out _).mono ?_); rintro e6 w6 ⟨rfl, hd⟩; have HB6 := Aside0.mk (below_step HB8.out hd.below); clear hd)
          | (go_at_call 18; (with_reducible refine (HW.out _ HB6.out).mono ?_); rintro e7 w7 ⟨rfl, hb⟩; have HB7 := Aside0.mk (below_step HB6.out hb); clear hb))
        go_ret
        exact ⟨rfl, HB7.out⟩
set_option maxHeartbeats 4000000 in
set_option maxRecDepth 100000 in
theorem sizes_no (q : AskV) (x : AnsV) (w : World) (hT : Tabs w) (h1 : q.body.size ≤ 3000) (h2 : q.name.size ≤ 500) (h3 : x.body.size ≤ 3000) (hok : q.ok = false) :
    Calls Tryd.prog 4 #[.agg q.cells, .agg x.cells] w fun e w' => e = .returned (.bool true) ∧ Below w.heap.size w w' := by
  have HC := Aside0.mk (fun w1 (h : Below w.heap.size w w1) => put_no q w1 (tabs_below hT h) (by omega) (by omega) hok)
  obtain ⟨k, name, f, lang, out, dst, mat, body⟩ := q
  obtain ⟨e, i, r, xb⟩ := x
  simp only [AskV.cells, AnsV.cells] at *
  have HB00 := Aside0.mk (below_alloc (Below.refl w.heap.size w) (.cells #[.int .i64 k, .string name, .int .i64 f, .int .i64 lang, .int .i64 out, .int .i64 dst, .int .i64 mat, .string body] 29))
  have BK00 := Aside0.mk (heap_new w (.cells #[.int .i64 k, .string name, .int .i64 f, .int .i64 lang, .int .i64 out, .int .i64 dst, .int .i64 mat, .string body] 29))
  have HB0 := Aside0.mk (below_alloc HB00.out (.cells #[.int .i64 e, .int .i64 i, .int .i64 r, .string xb] 32))
  have BK0 := Aside0.mk (blk_below BK00.out (below_alloc (Below.refl _ _) (.cells #[.int .i64 e, .int .i64 i, .int .i64 r, .string xb] 32)))
  have BX0 := Aside0.mk (heap_new1 w (.cells #[.int .i64 k, .string name, .int .i64 f, .int .i64 lang, .int .i64 out, .int .i64 dst, .int .i64 mat, .string body] 29) (.cells #[.int .i64 e, .int .i64 i, .int .i64 r, .string xb] 32))
  have d1 : decide ((3000 : Int) < (body.size : Int)) = false := decide_eq_false (by omega)
  have d2 : decide ((500 : Int) < (name.size : Int)) = false := decide_eq_false (by omega)
  have d3 : decide ((3000 : Int) < (xb.size : Int)) = false := decide_eq_false (by omega)
  have HPl := Aside0.mk (fun w1 => erratumlaw00_Place.calls (name.size : Int) 1 0 w1 (place_one name.size))
  have HW := Aside0.mk (fun w1 (h : Below w.heap.size w w1) => frame_awake_calls w1 (tabs_below hT h))
  clear hT hok
  go_enter Tryd.func4, Tryd.ntmps4
  go_upto_region 8 with (first
    | (go_at_call 19; (with_reducible refine (HC.out _ HB0.out).mono ?_); rintro e1 w1 ⟨rfl, hb⟩; have HBt := Aside0.mk (below_step HB0.out hb); have BKt := Aside0.mk (blk_below BK0.out hb); have BXt := Aside0.mk (blk_below BX0.out hb); clear hb))
  clear HC HB00 BK00 HB0 BK0 BX0 d1 d2 d3
  cases hxo : (AnsV.mk e i r xb).ok with
  | false =>
    have HA := Aside0.mk (fun w1 => putAns_no ⟨e, i, r, xb⟩ w1 hxo)
    simp only [AnsV.cells] at HA
    obtain ⟨y0, y1, y2, y3⟩ := box32 BXt.out
    clear hxo
    go_wp2_with (first
      | (go_at_call 20; (with_reducible refine (HA.out _).mono ?_); rintro e5 w5 ⟨rfl, hb⟩; have HB5 := Aside0.mk (below_step HBt.out hb); have BK5 := Aside0.mk (blk_below BKt.out hb); obtain ⟨z0, z1, z2, z3, z4, z5, z6, z7⟩ := box29 BK5.out; clear hb y0 y1 y2 y3)
      | (go_at_call 16; (with_reducible refine (HPl.out _).mono ?_); rintro e6 w6 ⟨rfl, hd⟩; have HB6 := Aside0.mk (below_step HB5.out hd.below); clear hd)
      | (go_at_call 18; (with_reducible refine (HW.out _ HB6.out).mono ?_); rintro e7 w7 ⟨rfl, hb⟩; have HB7 := Aside0.mk (below_step HB6.out hb); clear hb))
    go_ret
    exact ⟨rfl, HB7.out⟩
  | true =>
    have HA := Aside0.mk (fun w1 => putAns_calls ⟨e, i, r, xb⟩ w1 hxo)
    have HAP := Aside0.mk (fun w1 w' v => puttedA ⟨e, i, r, xb⟩ w1 w' v)
    obtain ⟨xe1, xe2, xi1, xi2, xr1, xr2, xb2⟩ := (AnsV.mk e i r xb).ok_bounds hxo
    simp only [AnsV.cells] at HA xe1 xe2 xi1 xi2 xr1 xr2 xb2
    obtain ⟨y0, y1, y2, y3⟩ := box32 BXt.out
    clear hxo
    go_wp2_with (first
      | (go_at_call 20; (with_reducible refine (HA.out _).mono ?_); rintro e5 w5 ⟨v5, rfl, ho, hb⟩; have HB5 := Aside0.mk (below_step HBt.out hb); have BK5 := Aside0.mk (blk_below BKt.out hb); have BX5 := Aside0.mk (blk_below BXt.out hb); obtain ⟨ga, ca, Na, rfl, hAI, hbg, hNN⟩ := HAP.out _ _ _ ho; obtain ⟨Ay, my, cy, hcy, hsy⟩ := hAI.cuts; dsimp only at hcy hsy; obtain ⟨hN, hle5, hN5, hne5, q0, q1, hall⟩ := hAI; dsimp only at hN hne5 q0 q1; obtain ⟨z0, z1, z2, z3, z4, z5, z6, z7⟩ := box29 BK5.out; clear y0 y1 y2 y3; obtain ⟨y0, y1, y2, y3⟩ := box32 BX5.out; clear hb ho hN hall hNN hbg))
    clear HA HAP
    go_cut [159] from 126 to 159 (fun s159 wx => s159 = .bool false ∧ Aside0 (Below w5.heap.size w5 wx))
    case first =>
      go_quiet (fail)
      go_wp2_with fail
      go_meet
      exact ⟨rfl, ⟨pw_below_drewN (Below.refl _ _) _⟩⟩
    case rest =>
      obtain ⟨rfl, HBc5⟩ := hcut
      clear q0 q1 hcy hsy z0 z1 z2 z3 z4 z5 z6 z7 y0 y1 y2 y3
      obtain ⟨z0, z1, z2, z3, z4, z5, z6, z7⟩ := box29 (blk_below BK5.out HBc5.out)
      have HB8 := Aside0.mk (below_step HB5.out HBc5.out)
      go_wp2_with (first
        | (go_at_call 16; (with_reducible refine (HPl.out _).mono ?_); rintro e6 w6 ⟨rfl, hd⟩; have HB6 := Aside0.mk (below_step HB8.out hd.below); clear hd)
        | (go_at_call 18; (with_reducible refine (HW.out _ HB6.out).mono ?_); rintro e7 w7 ⟨rfl, hb⟩; have HB7 := Aside0.mk (below_step HB6.out hb); clear hb))
      go_ret
      exact ⟨rfl, HB7.out⟩
set_option maxHeartbeats 2000000 in
set_option maxRecDepth 100000 in
theorem sizes_out (q : AskV) (x : AnsV) (w : World) (hT : Tabs w) (h : 3000 < q.body.size ∨ 500 < q.name.size ∨ 3000 < x.body.size) :
    Calls Tryd.prog 4 #[.agg q.cells, .agg x.cells] w fun e w' => e = .returned (.bool true) ∧ Below w.heap.size w w' := by
  obtain ⟨k, name, f, lang, out, dst, mat, body⟩ := q
  obtain ⟨e, i, r, xb⟩ := x
  simp only [AskV.cells, AnsV.cells] at *
  have HB00 := Aside0.mk (below_alloc (Below.refl w.heap.size w) (.cells #[.int .i64 k, .string name, .int .i64 f, .int .i64 lang, .int .i64 out, .int .i64 dst, .int .i64 mat, .string body] 29))
  have HB0 := Aside0.mk (below_alloc HB00.out (.cells #[.int .i64 e, .int .i64 i, .int .i64 r, .string xb] 32))
  have HW := Aside0.mk (fun w1 (h : Below w.heap.size w w1) => frame_awake_calls w1 (tabs_below hT h))
  clear hT
  have hc : (decide ((3000 : Int) < (body.size : Int)) = true) ∨ (decide ((3000 : Int) < (body.size : Int)) = false ∧ decide ((500 : Int) < (name.size : Int)) = true) ∨ (decide ((3000 : Int) < (body.size : Int)) = false ∧ decide ((500 : Int) < (name.size : Int)) = false ∧ decide ((3000 : Int) < (xb.size : Int)) = true) := by
    simp only [decide_eq_true_iff, decide_eq_false_iff_not]
    omega
  clear h
  rcases hc with d1 | ⟨d1, d2⟩ | ⟨d1, d2, d3⟩
  all_goals
    go_enter Tryd.func4, Tryd.ntmps4
    go_wp2_with (go_at_call 18; (with_reducible refine (HW.out _ HB0.out).mono ?_); rintro e7 w7 ⟨rfl, hb⟩; have HB7 := Aside0.mk (below_step HB0.out hb); clear hb)
    go_ret
    exact ⟨rfl, HB7.out⟩
/-- FrameSizes answers true at every input. -/
theorem sizes_all (q : AskV) (x : AnsV) (w : World) (hT : Tabs w) :
    Calls Tryd.prog 4 #[.agg q.cells, .agg x.cells] w fun e w' => e = .returned (.bool true) ∧ Below w.heap.size w w' := by
  by_cases h : 3000 < q.body.size ∨ 500 < q.name.size ∨ 3000 < x.body.size
  · exact sizes_out q x w hT h
  · cases hok : q.ok
    · exact sizes_no q x w hT (by omega) (by omega) (by omega) hok
    · exact sizes_in q x w hT (by omega) (by omega) (by omega) hok
end Go.Proofs.YtpamgedmgjfjjaaDoor.M
