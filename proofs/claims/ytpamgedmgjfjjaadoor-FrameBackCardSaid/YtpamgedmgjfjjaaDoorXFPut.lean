/-
What frame.four, frame.Put, frame.PutAnswer come to.
-/
import Derived.Test.YtpamgedmgjfjjaaDoorXFCheck
import Derived.Lib.AppendStr
import Derived.Lib.OthersKept
import Derived.Deep.RegionHeld3
import Derived.Deep.AppendLies
namespace Go.Proofs.YtpamgedmgjfjjaaDoor.M
open Go.RowKit Go.Proofs.YtpamgedmgjfjjaaDoorW.PrintWords Go.Proofs.YtpamgedmgjfjjaaDoorW.PrintLast Go.Proofs.YtpamgedmgjfjjaaDoorW.PrintMore
set_option linter.unusedVariables false
set_option linter.unusedSimpArgs false

/-- A number's four bytes. -/
def fourL (n : Int) : List Int := [n / 16777216 % 256, n / 65536 % 256, n / 256 % 256, n % 256]
theorem fourL_len (n : Int) : (fourL n).length = 4 := rfl
theorem own_kind {w : World} {B : Nat} {v : Value} {n : Nat} {xs : List Value} (h : w.ownsRow B 5 1 v n xs) : ∀ k, v.ownBlock = some k → ∃ c fz, w.heap[k]? = some (.cells c 5 fz) := by
  intro k hk
  rcases h.2 with ⟨rfl, _⟩ | ⟨g, cap, cur, rfl, _, hg, _⟩
  · simp [Value.ownBlock] at hk
  · simp [Value.ownBlock] at hk
    subst hk
    exact ⟨_, _, hg⟩
set_option maxHeartbeats 2000000 in
set_option maxRecDepth 100000 in
theorem four_own (B : Nat) (v : Value) (l : List Int) (n : Int) (w : World) (hown : w.ownsRow B 5 1 v l.length (nums .u8 l)) (hl : l.length ≤ 1000000) (hB : B ≤ w.heap.size) :
    Calls Tryd.prog 46 #[v, .int .i64 n] w fun e w' => ∃ v', e = .returned v' ∧ w'.ownsRow B 5 1 v' (l ++ fourL n).length (nums .u8 (l ++ fourL n)) ∧ Below B w w' ∧ Lib.OthersKept 5 none w w' := by
  obtain ⟨i0, hi, hz0, hz1, hz2⟩ := info_parts info5
  have HL := Aside0.mk hl
  have HB := Aside0.mk hB
  have HN := Aside0.mk (show nums .u8 l ++ [.int .u8 (n / 16777216 % 256), .int .u8 (n / 65536 % 256), .int .u8 (n / 256 % 256), .int .u8 (n % 256)] = nums .u8 (l ++ fourL n) by simp [nums, fourL])
  have HK := Aside0.mk (own_kind (hown.alloc (.cells #[.int .u8 (n / 16777216 % 256), .int .u8 (n / 65536 % 256), .int .u8 (n / 256 % 256), .int .u8 (n % 256)] 5)))
  have HO := Aside0.mk hown
  clear hown hl hB
  go_enter Tryd.func46, Tryd.ntmps46
  go_wp2_with (at_builtin; refine wpList_append_own _ rfl _ _ 33 rfl B 5 i0 (.int .u8 0) 1 1 Tryd.underlying33 hi hz0 hz1 hz2 rfl (by decide) _ _ _ rfl (HO.out.alloc _) ⟨w.heap.size, 0, none⟩ 4 4 [.int .u8 (n / 16777216 % 256), .int .u8 (n / 65536 % 256), .int .u8 (n / 256 % 256), .int .u8 (n % 256)] rfl rfl ?c1 ?c2 ?c3 ?c4 ?c5 ?_)
  case c1 =>
    intro j u hj
    match j, hj with
    | 0, hj => simp at hj; subst hj; simp [Addr.add]
    | 1, hj => simp at hj; subst hj; simp [Addr.add]
    | 2, hj => simp at hj; subst hj; simp [Addr.add]
    | 3, hj => simp at hj; subst hj; simp [Addr.add]
  case c2 => intro u hu; simp at hu; rcases hu with rfl | rfl | rfl | rfl <;> rfl
  case c3 => unfold maxLen; have := HL.out; omega
  case c4 => have := HL.out; omega
  case c5 => have := HB.out; simp; omega
  intro v' w2 hown' hgrow _
  have HB2 := Aside0.mk (((Below.refl B w).alloc HB.out _).grown hgrow (by have := HB.out; simp; omega) (fun k hk => (HO.out.lt k hk).1))
  have HOK := Aside0.mk (((Lib.OthersKept.refl 5 none w).alloc (.cells #[.int .u8 (n / 16777216 % 256), .int .u8 (n / 65536 % 256), .int .u8 (n / 256 % 256), .int .u8 (n % 256)] 5)).grown hgrow HK.out)
  rw [HN.out] at hown'
  have HOW := Aside0.mk hown'
  clear hgrow hown'
  go_wp2
  go_ret
  exact ⟨_, rfl, by rw [List.length_append, fourL_len]; exact HOW.out, HB2.out, HOK.out⟩
theorem step_append_str {P : Program} {ops : Array Oper} {o : Oper} {a : Act} {w : World} {K : Act → World → Prop} {Q : Exit → Act → World → Prop} {E : Prop}
    (hgd : o.guard = none) (sl x : Operand) (t u : TypeId) (ho : o.op = .call { callee := .builtin .append, args := #[sl, x], argTypes := #[t, u] })
    (base : Nat) (e : TypeId) (i : TypeInfo) (ht : P.underlying t = some (.slice e)) (hu : P.underlying u = some .string) (hi : P.info? e = some i) (hz : i.zero = some (.int .u8 0))
    (hsize : i.size = 1) (hby : i.bytes = 1) (v : Value) (n : Nat) (xs : List Value) (hs : a.eval sl = v) (hown : w.ownsRow base e 1 v n xs) (s : ByteArray) (hx : a.eval x = .string s)
    (h63 : n + s.size ≤ maxLen) (hbytes : n + s.size ≤ 140737488355328) (hbase : base ≤ w.heap.size)
    (h : ∀ v' w', w'.ownsRow base e 1 v' (n + s.size) (xs ++ Lib.strCells s) → w.grownBy w' v.ownBlock → K (a.put o.dst v') w') :
    if Region.wanted o (yielded ops a.tmps) = true then Oper.wp P o a w K Q else E := by
  have hw : Region.wanted o (yielded ops a.tmps) = true := by simp [Region.wanted, hgd]
  rw [if_pos hw]
  obtain ⟨v', w', hr, h2, h3, h4⟩ := Lib.run_append_own_string (P := P) w base t u o.type e i ht hu hi hz hsize hby v n xs hown s h63 hbytes hbase
  unfold Oper.wp execOp
  simp only [ho, resolve, invoke, builtin, Sem.run_bind, Sem.run_pure, Result.andThen_ok, List.map_toArray, List.map_cons, List.map_nil, hs, hx, hr]
  exact h _ _ h2 h3
theorem strCells_nums (s : ByteArray) : Lib.strCells s = nums .u8 (bytesOf s) := by simp [Lib.strCells, nums, bytesOf]
theorem own_str {w : World} {B : Nat} {v : Value} {l : List Int} {s : ByteArray} (h : w.ownsRow B 5 1 v (l.length + s.size) (nums .u8 l ++ Lib.strCells s)) : w.ownsRow B 5 1 v (l ++ bytesOf s).length (nums .u8 (l ++ bytesOf s)) := by
  rw [strCells_nums, ← nums_append] at h
  rw [List.length_append, bytesOf_length]
  exact h
theorem kept_blk {w w' : World} {g : Nat} {cs : Array Value} {T : TypeId} (h : w.heap[g]? = some (.cells cs T (0, 0))) (hk : Lib.OthersKept 5 none w w') (hT : T ≠ 5) : w'.heap[g]? = some (.cells cs T (0, 0)) :=
  hk g _ h (by simp) (fun c fz he => by injection he with _ h2; exact hT h2)
/-- A request as bytes. -/
def AskV.head (q : AskV) : List Int := [q.k % 256, q.f % 256, q.lang % 256, q.out % 256, q.dst % 256, (q.name.size : Int)]
def AskV.put (q : AskV) : List Int := q.head ++ bytesOf q.name ++ fourL q.mat ++ fourL q.body.size ++ bytesOf q.body
set_option maxHeartbeats 4000000 in
set_option maxRecDepth 100000 in
theorem put_calls (q : AskV) (w : World) (hT : Tabs w) (hn : q.name.size ≤ 140737488351232) (hbd : q.body.size ≤ 140737488351232) (hok : q.ok = true) :
    Calls Tryd.prog 19 #[.agg q.cells] w fun e w' => ∃ v, e = .returned (.tuple #[v, .int .i64 0]) ∧ w'.ownsRow w.heap.size 5 1 v q.put.length (nums .u8 q.put) ∧ Below w.heap.size w w' := by
  have HC := Aside0.mk (fun w1 (h : Below w.heap.size w w1) => check_calls q w1 (tabs_below hT h) hn hbd)
  rw [hok] at HC
  obtain ⟨pl, hpl⟩ : ∃ l, q.put = l := ⟨_, rfl⟩
  rw [hpl]
  have HPL := Aside0.mk hpl
  clear hpl
  obtain ⟨k, name, f, lang, out, dst, mat, body⟩ := q
  simp only [AskV.cells, AskV.put, AskV.head] at *
  have hsz : name.size ≤ 40 ∧ body.size ≤ 32768 := by
    simp only [AskV.ok, inB, Bool.and_eq_true, decide_eq_true_eq] at hok
    omega
  obtain ⟨hsn, hsb⟩ := hsz
  have HB0 := Aside0.mk (below_alloc (Below.refl w.heap.size w) (.cells #[.int .i64 k, .string name, .int .i64 f, .int .i64 lang, .int .i64 out, .int .i64 dst, .int .i64 mat, .string body] 29))
  have BK0 := Aside0.mk (heap_new w (.cells #[.int .i64 k, .string name, .int .i64 f, .int .i64 lang, .int .i64 out, .int .i64 dst, .int .i64 mat, .string body] 29))
  clear hT hok
  go_enter Tryd.func19, Tryd.ntmps19
  go_upto_region 4 with (first
    | (go_at_call 30; (with_reducible refine (HC.out _ HB0.out).mono ?_); rintro e w1 ⟨rfl, hb⟩; have HB1 := Aside0.mk (below_step HB0.out hb); have BK1 := Aside0.mk (blk_below BK0.out hb); obtain ⟨c0, c1, c2, c3, c4, c5, c6, c7⟩ := box29 BK1.out; clear hb))
  have how := own_lit w1 w.heap.size 5 .u8 [k % 256, f % 256, lang % 256, out % 256, dst % 256, (name.size : Int)] HB1.out.size (by simp)
  have hb2 := below_alloc HB1.out (Obj.cells #[Value.int IntKind.u8 (k % 256), Value.int IntKind.u8 (f % 256), Value.int IntKind.u8 (lang % 256), Value.int IntKind.u8 (out % 256), Value.int IntKind.u8 (dst % 256), Value.int IntKind.u8 ↑name.size] 5)
  have bk2 := blk_below BK1.out (below_alloc (Below.refl _ _) (Obj.cells #[Value.int IntKind.u8 (k % 256), Value.int IntKind.u8 (f % 256), Value.int IntKind.u8 (lang % 256), Value.int IntKind.u8 (out % 256), Value.int IntKind.u8 (dst % 256), Value.int IntKind.u8 ↑name.size] 5))
  simp only [nums, List.map_cons, List.map_nil, List.length_cons, List.length_nil] at how
  generalize hw2 : w1.alloc (Obj.cells #[Value.int IntKind.u8 (k % 256), Value.int IntKind.u8 (f % 256), Value.int IntKind.u8 (lang % 256), Value.int IntKind.u8 (out % 256), Value.int IntKind.u8 (dst % 256), Value.int IntKind.u8 ↑name.size] 5) = w2 at how hb2 bk2 ⊢
  have HOW := Aside0.mk (show w2.ownsRow w.heap.size 5 1 (.slice (some ⟨w1.heap.size, 0, none⟩) 6 6) ([k % 256, f % 256, lang % 256, out % 256, dst % 256, (name.size : Int)] : List Int).length (nums .u8 [k % 256, f % 256, lang % 256, out % 256, dst % 256, (name.size : Int)]) from how)
  have HB2 := Aside0.mk hb2
  have BK2 := Aside0.mk bk2
  clear how hb2 bk2 hw2 c0 c1 c2 c3 c4 c5 c6 c7 BK0 HB0 BK1 HB1 HC
  obtain ⟨hd, hhd⟩ : ∃ l : List Int, [k % 256, f % 256, lang % 256, out % 256, dst % 256, (name.size : Int)] = l := ⟨_, rfl⟩
  rw [hhd] at HOW HPL
  have HHL := Aside0.mk (show hd.length = 6 by rw [← hhd]; rfl)
  clear hhd
  obtain ⟨i0, hi, hz0, hz1, hz2⟩ := info_parts info5
  go_cut [4] from 28 to 34 (fun s4 wx => Aside0 (wx.ownsRow w.heap.size 5 1 s4 (hd ++ bytesOf name ++ fourL mat).length (nums .u8 (hd ++ bytesOf name ++ fourL mat))) ∧ Aside0 (Below w.heap.size w wx) ∧ Aside0 (wx.heap[w.heap.size]? = some (.cells #[.int .i64 k, .string name, .int .i64 f, .int .i64 lang, .int .i64 out, .int .i64 dst, .int .i64 mat, .string body] 29 (0, 0))))
  case first =>
    obtain ⟨c0, c1, c2, c3, c4, c5, c6, c7⟩ := box29 BK2.out
    have HOD := Aside0.mk (show (w2.drew).ownsRow w.heap.size 5 1 (.slice (some ⟨w1.heap.size, 0, none⟩) 6 6) hd.length (nums .u8 hd) from HOW.out)
    have HBD := Aside0.mk (below_drew1 HB2.out)
    have BKD := Aside0.mk (show (w2.drew).heap[w.heap.size]? = _ from BK2.out)
    go_region_held3 (fun w' => w'.cell? ⟨w.heap.size, 1, none⟩ = some (.string name) ∧ w'.cell? ⟨w.heap.size, 6, none⟩ = some (.int .i64 mat))
      (first
        | exact ⟨c1, c6⟩
        | exact ⟨(box29 BK3.out).2.1, (box29 BK3.out).2.2.2.2.2.2.1⟩
        | exact ⟨(box29 BK4.out).2.1, (box29 BK4.out).2.2.2.2.2.2.1⟩)
      (first
        | (refine step_append_str (by rfl) (.tmp 28) (.tmp 30) 33 9 (by rfl) w.heap.size 5 i0 Tryd.underlying33 Tryd.underlying9 hi hz0 hz1 hz2 (.slice (some ⟨w1.heap.size, 0, none⟩) 6 6) hd.length (nums .u8 hd) (by rfl) HOD.out name (by rfl) ?l1 ?l2 HBD.out.size ?_; (case l1 => unfold maxLen; have := HHL.out; omega); (case l2 => have := HHL.out; omega); intro v3 w3 ho hg; have HO3 := Aside0.mk (own_str ho); have HB3 := Aside0.mk (HBD.out.grown hg HBD.out.size (fun k hk => (HOD.out.lt k hk).1)); have OK3 := Aside0.mk ((Lib.OthersKept.refl 5 none w2.drew).grown hg (own_kind HOD.out)); have BK3 := Aside0.mk (kept_blk BKD.out OK3.out (by decide)); clear ho hg)
        | (go_at_call 46; refine (four_own w.heap.size _ _ mat _ HO3.out (by rw [List.length_append, bytesOf_length]; have := HHL.out; omega) HB3.out.size).mono ?_; rintro e w4 ⟨v4, rfl, ho, hb, hk⟩; have HO4 := Aside0.mk ho; have HB4 := Aside0.mk (HB3.out.trans hb); have BK4 := Aside0.mk (kept_blk BK3.out hk (by decide)); clear ho hb hk))
    go_wp2_with fail
    go_meet
    exact ⟨HO4, HB4, BK4⟩
  case rest =>
    obtain ⟨HO4, HB4, BK4⟩ := hcut
    have HL4 := Aside0.mk (show (hd ++ bytesOf name ++ fourL mat).length = 10 + name.size by rw [List.length_append, List.length_append, bytesOf_length, fourL_len, HHL.out]; omega)
    have HPL2 := Aside0.mk (show hd ++ bytesOf name ++ fourL mat ++ fourL body.size ++ bytesOf body = pl from HPL.out)
    generalize hd ++ bytesOf name ++ fourL mat = l4 at *
    go_upto_region 5 with fail
    go_cut [2, 3] from 35 to 42 (fun s2 s3 wx => s3 = .int .i64 0 ∧ Aside0 (wx.ownsRow w.heap.size 5 1 s2 pl.length (nums .u8 pl)) ∧ Aside0 (Below w.heap.size w wx))
    case first =>
      obtain ⟨c0, c1, c2, c3, c4, c5, c6, c7⟩ := box29 BK4.out
      have HOD := Aside0.mk (show (wc.drew).ownsRow w.heap.size 5 1 u4 l4.length (nums .u8 l4) from HO4.out)
      have HBD := Aside0.mk (below_drew1 HB4.out)
      have BKD := Aside0.mk (show (wc.drew).heap[w.heap.size]? = _ from BK4.out)
      go_region_held3 (fun w' => w'.cell? ⟨w.heap.size, 7, none⟩ = some (.string body))
        (first
          | exact c7
          | exact (box29 BK5.out).2.2.2.2.2.2.2
          | exact (box29 BK6.out).2.2.2.2.2.2.2)
        (first
          | (go_at_call 46; refine (four_own w.heap.size _ _ body.size _ HOD.out (by have := HL4.out; omega) HBD.out.size).mono ?_; rintro e w5 ⟨v5, rfl, ho, hb, hk⟩; have HO5 := Aside0.mk ho; have HB5 := Aside0.mk (HBD.out.trans hb); have BK5 := Aside0.mk (kept_blk BKD.out hk (by decide)); clear ho hb hk)
          | (refine step_append_str (by rfl) (.tmp 39) (.tmp 41) 33 9 (by rfl) w.heap.size 5 i0 Tryd.underlying33 Tryd.underlying9 hi hz0 hz1 hz2 v5 (l4 ++ fourL body.size).length (nums .u8 (l4 ++ fourL body.size)) (by rfl) HO5.out body (by rfl) ?l1 ?l2 HB5.out.size ?_; (case l1 => rw [List.length_append, fourL_len]; unfold maxLen; have := HL4.out; omega); (case l2 => rw [List.length_append, fourL_len]; have := HL4.out; omega); intro v6 w6 ho hg; have ho6 := own_str ho; rw [HPL2.out] at ho6; have HO6 := Aside0.mk ho6; have HB6 := Aside0.mk (HB5.out.grown hg HB5.out.size (fun k hk => (HO5.out.lt k hk).1)); have BK6 := Aside0.mk (kept_blk BK5.out ((Lib.OthersKept.refl 5 none w5).grown hg (own_kind HO5.out)) (by decide)); clear ho hg ho6))
      go_wp2_with fail
      go_meet
      exact ⟨rfl, HO6, HB6⟩
    case rest =>
      obtain ⟨rfl, HO6, HB6⟩ := hcut
      go_wp2
      go_ret2
      exact ⟨_, rfl, HO6.out, HB6.out⟩
set_option maxHeartbeats 4000000 in
set_option maxRecDepth 100000 in
theorem put_no (q : AskV) (w : World) (hT : Tabs w) (hn : q.name.size ≤ 140737488351232) (hbd : q.body.size ≤ 140737488351232) (hok : q.ok = false) :
    Calls Tryd.prog 19 #[.agg q.cells] w fun e w' => e = .returned (.tuple #[.slice none 0 0, .int .i64 1]) ∧ Below w.heap.size w w' := by
  have HC := Aside0.mk (fun w1 (h : Below w.heap.size w w1) => check_calls q w1 (tabs_below hT h) hn hbd)
  rw [hok] at HC
  obtain ⟨k, name, f, lang, out, dst, mat, body⟩ := q
  simp only [AskV.cells] at *
  have HB0 := Aside0.mk (below_alloc (Below.refl w.heap.size w) (.cells #[.int .i64 k, .string name, .int .i64 f, .int .i64 lang, .int .i64 out, .int .i64 dst, .int .i64 mat, .string body] 29))
  clear hT hok
  go_enter Tryd.func19, Tryd.ntmps19
  go_wp2_with (go_at_call 30; (with_reducible refine (HC.out _ HB0.out).mono ?_); rintro e w1 ⟨rfl, hb⟩; have HB1 := Aside0.mk (below_step HB0.out hb); clear hb)
  go_ret2
  exact ⟨rfl, HB1.out⟩
/-- An answer. -/
structure AnsV where
  e : Int
  i : Int
  r : Int
  body : ByteArray
@[reducible] def AnsV.cells (x : AnsV) : Array Value := #[.int .i64 x.e, .int .i64 x.i, .int .i64 x.r, .string x.body]
/-- May an answer be? -/
def AnsV.ok (x : AnsV) : Bool := inB x.e 0 11 && (inB x.i (-1) 254 && (inB x.r 0 2147483647 && decide (x.body.size ≤ 32768)))
theorem may_B (x : AnsV) : frame_may.f x.e x.i x.r x.body = some x.ok := by
  unfold frame_may.f AnsV.ok
  rw [frame_in_B, frame_in_B, frame_in_B]
  simp only [Option.bind_some]
  cases inB x.e 0 11 <;> cases inB x.i (-1) 254 <;> cases inB x.r 0 2147483647 <;> simp
  omega
theorem may_calls (x : AnsV) (b : Bool) (hb : x.ok = b) (w : World) : Calls Tryd.prog 47 #[.agg x.cells] w fun e w' => e = .returned (.bool b) ∧ Below w.heap.size w w' := by
  subst hb
  exact frame_may.calls x.e x.i x.r x.body _ w (may_B x)
theorem box32 {w : World} {g : Nat} {e i r : Int} {body : ByteArray} (h : w.heap[g]? = some (.cells #[.int .i64 e, .int .i64 i, .int .i64 r, .string body] 32 (0, 0))) :
    w.cell? ⟨g, 0, none⟩ = some (.int .i64 e) ∧ w.cell? ⟨g, 1, none⟩ = some (.int .i64 i) ∧ w.cell? ⟨g, 2, none⟩ = some (.int .i64 r) ∧ w.cell? ⟨g, 3, none⟩ = some (.string body) :=
  ⟨(blk_cell h 0).trans rfl, (blk_cell h 1).trans rfl, (blk_cell h 2).trans rfl, (blk_cell h 3).trans rfl⟩
/-- An answer as bytes. -/
def AnsV.put (x : AnsV) : List Int := [x.e, x.i + 1] ++ fourL x.r ++ fourL x.body.size ++ bytesOf x.body
set_option maxHeartbeats 4000000 in
set_option maxRecDepth 100000 in
theorem putAns_no (x : AnsV) (w : World) (hok : x.ok = false) :
    Calls Tryd.prog 20 #[.agg x.cells] w fun e w' => e = .returned (.tuple #[.slice none 0 0, .int .i64 1]) ∧ Below w.heap.size w w' := by
  have HC := Aside0.mk (fun w1 => may_calls x false hok w1)
  obtain ⟨e, i, r, body⟩ := x
  simp only [AnsV.cells] at *
  have HB0 := Aside0.mk (below_alloc (Below.refl w.heap.size w) (.cells #[.int .i64 e, .int .i64 i, .int .i64 r, .string body] 32))
  clear hok
  go_enter Tryd.func20, Tryd.ntmps20
  go_wp2_with (go_at_call 47; (with_reducible refine (HC.out _).mono ?_); rintro e w1 ⟨rfl, hb⟩; have HB1 := Aside0.mk (below_step HB0.out hb); clear hb)
  go_ret2
  exact ⟨rfl, HB1.out⟩
set_option maxHeartbeats 4000000 in
set_option maxRecDepth 100000 in
theorem putAns_calls (x : AnsV) (w : World) (hok : x.ok = true) :
    Calls Tryd.prog 20 #[.agg x.cells] w fun e w' => ∃ v, e = .returned (.tuple #[v, .int .i64 0]) ∧ w'.ownsRow w.heap.size 5 1 v x.put.length (nums .u8 x.put) ∧ Below w.heap.size w w' := by
  have HC := Aside0.mk (fun w1 => may_calls x true hok w1)
  obtain ⟨pl, hpl⟩ : ∃ l, x.put = l := ⟨_, rfl⟩
  rw [hpl]
  have HPL := Aside0.mk hpl
  clear hpl
  obtain ⟨e, i, r, body⟩ := x
  simp only [AnsV.cells, AnsV.put] at *
  have hsz : 0 ≤ e ∧ e ≤ 11 ∧ -1 ≤ i ∧ i ≤ 254 ∧ body.size ≤ 32768 := by
    simp only [AnsV.ok, inB, Bool.and_eq_true, decide_eq_true_eq] at hok
    omega
  obtain ⟨he0, he1, hi0, hi1, hsb⟩ := hsz
  have HB0 := Aside0.mk (below_alloc (Below.refl w.heap.size w) (.cells #[.int .i64 e, .int .i64 i, .int .i64 r, .string body] 32))
  have BK0 := Aside0.mk (heap_new w (.cells #[.int .i64 e, .int .i64 i, .int .i64 r, .string body] 32))
  clear hok
  go_enter Tryd.func20, Tryd.ntmps20
  go_upto_region 4 with (first
    | (go_at_call 47; (with_reducible refine (HC.out _).mono ?_); rintro e w1 ⟨rfl, hb⟩; have HB1 := Aside0.mk (below_step HB0.out hb); have BK1 := Aside0.mk (blk_below BK0.out hb); obtain ⟨c0, c1, c2, c3⟩ := box32 BK1.out; have hz1 : w.heap.size < w1.heap.size := blk_lt BK1.out; clear hb)
    | (go_at_call 46; refine (four_own w.heap.size _ [e, i + 1] r _ (own_lit w1 w.heap.size 5 .u8 [e, i + 1] HB1.out.size (by simp)) (by simp) (below_alloc HB1.out _).size).mono ?_; rintro e w2 ⟨v2, rfl, ho, hb, hk⟩; have HO2 := Aside0.mk ho; have HB2 := Aside0.mk ((below_alloc HB1.out (.cells #[.int .u8 e, .int .u8 (i + 1)] 5)).trans hb); have BK2 := Aside0.mk (kept_blk (blk_below BK1.out (below_alloc (Below.refl _ _) (.cells #[.int .u8 e, .int .u8 (i + 1)] 5))) hk (by decide)); clear ho hb hk))
  have HL4 := Aside0.mk (show ([e, i + 1] ++ fourL r).length = 6 from rfl)
  have HPL2 := Aside0.mk (show [e, i + 1] ++ fourL r ++ fourL body.size ++ bytesOf body = pl from HPL.out)
  clear HPL c0 c1 c2 c3 hz1
  generalize [e, i + 1] ++ fourL r = l4 at *
  obtain ⟨i0, hi, hz0, hz1, hz2⟩ := info_parts info5
  go_cut [2, 3] from 19 to 26 (fun s2 s3 wx => s3 = .int .i64 0 ∧ Aside0 (wx.ownsRow w.heap.size 5 1 s2 pl.length (nums .u8 pl)) ∧ Aside0 (Below w.heap.size w wx))
  case first =>
    obtain ⟨c0, c1, c2, c3⟩ := box32 BK2.out
    have HOD := Aside0.mk (show (w2.drew).ownsRow w.heap.size 5 1 v2 l4.length (nums .u8 l4) from HO2.out)
    have HBD := Aside0.mk (below_drew1 HB2.out)
    have BKD := Aside0.mk (show (w2.drew).heap[w.heap.size]? = _ from BK2.out)
    go_region_held3 (fun w' => w'.cell? ⟨w.heap.size, 3, none⟩ = some (.string body))
      (first
        | exact c3
        | exact (box32 BK5.out).2.2.2
        | exact (box32 BK6.out).2.2.2)
      (first
        | (go_at_call 46; refine (four_own w.heap.size _ _ body.size _ HOD.out (by have := HL4.out; omega) HBD.out.size).mono ?_; rintro e w5 ⟨v5, rfl, ho, hb, hk⟩; have HO5 := Aside0.mk ho; have HB5 := Aside0.mk (HBD.out.trans hb); have BK5 := Aside0.mk (kept_blk BKD.out hk (by decide)); clear ho hb hk)
        | (refine step_append_str (by rfl) (.tmp 23) (.tmp 25) 33 9 (by rfl) w.heap.size 5 i0 Tryd.underlying33 Tryd.underlying9 hi hz0 hz1 hz2 v5 (l4 ++ fourL body.size).length (nums .u8 (l4 ++ fourL body.size)) (by rfl) HO5.out body (by rfl) ?l1 ?l2 HB5.out.size ?_; (case l1 => rw [List.length_append, fourL_len]; unfold maxLen; have := HL4.out; omega); (case l2 => rw [List.length_append, fourL_len]; have := HL4.out; omega); intro v6 w6 ho hg; have ho6 := own_str ho; rw [HPL2.out] at ho6; have HO6 := Aside0.mk ho6; have HB6 := Aside0.mk (HB5.out.grown hg HB5.out.size (fun k hk => (HO5.out.lt k hk).1)); have BK6 := Aside0.mk (kept_blk BK5.out ((Lib.OthersKept.refl 5 none w5).grown hg (own_kind HO5.out)) (by decide)); clear ho hg ho6))
    go_wp2_with fail
    go_meet
    exact ⟨rfl, HO6, HB6⟩
  case rest =>
    obtain ⟨rfl, HO6, HB6⟩ := hcut
    go_wp2
    go_ret2
    exact ⟨_, rfl, HO6.out, HB6.out⟩
end Go.Proofs.YtpamgedmgjfjjaaDoor.M
